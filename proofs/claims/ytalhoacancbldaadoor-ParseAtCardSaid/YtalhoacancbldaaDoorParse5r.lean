/- The walks of the reference davenportref05: Parse; of slices.Equal over bytes; of parse.Value at a place outside. -/
import Derived.Test.YtalhoacancbldaaDoorRead5j
import Derived.Test.YtalhoacancbldaaDoorReadsP
import Derived.Test.YtalhoacancbldaaDoorParse18
namespace Go.Proofs.YtalhoacancbldaaDoor
set_option linter.unusedVariables false
set_option linter.unusedSimpArgs false
open Go.RowKit
attribute [local go_sem] run_index_arr run_part_agg run_part_one run_field_agg

set_option maxRecDepth 100000 in
set_option maxHeartbeats 4000000 in
theorem parseValue_out (v : Value) (l : List UInt8) (a : Int) (W : World) (ha : a < 0 ∨ (l.length : Int) < a) (hv : BS W v l) : Calls Tryd.prog 31 #[v, .int .i64 a] W (ValuePost l a W) := by
  obtain ⟨A, cap, rfl, hcap, hr⟩ := hv
  have HV := Lib.hid (show ValueR l a (jZero, 0, 2) by unfold ValueR; rw [if_pos ha])
  rcases ha with ha | ha
  · go_enter Tryd.func31, Tryd.ntmps31
    go_wp2
    refine bodyPost_ret (v := .tuple #[.agg #[zI, zI, zS, zN, zN], .int .i64 0, .int .i64 2]) (by simp only [results, Tryd.results31]; go_simp) rfl ?_
    exact ⟨(jZero, 0, 2), HV.out, zC, rfl, VR.zero, (Below.refl _ W).alloc (Nat.le_refl _) _⟩
  · have ha0 : ¬ a < 0 := by omega
    go_enter Tryd.func31, Tryd.ntmps31
    go_wp2
    refine bodyPost_ret (v := .tuple #[.agg #[zI, zI, zS, zN, zN], .int .i64 0, .int .i64 2]) (by simp only [results, Tryd.results31]; go_simp) rfl ?_
    exact ⟨(jZero, 0, 2), HV.out, zC, rfl, VR.zero, (Below.refl _ W).alloc (Nat.le_refl _) _⟩
theorem parseValue_all (v : Value) (l : List UInt8) (a : Int) (W : World) (hG : GOK W) (hv : BS W v l) (hlen : l.length ≤ 1048576) : Calls Tryd.prog 31 #[v, .int .i64 a] W (ValuePost l a W) := by
  by_cases ha : a < 0 ∨ (l.length : Int) < a
  · exact parseValue_out v l a W ha hv
  · obtain ⟨n, rfl⟩ : ∃ n : Nat, (n : Int) = a := ⟨a.toNat, by omega⟩
    exact parseValue_any v l n W (by omega) hG hv hlen
set_option maxRecDepth 100000 in
set_option maxHeartbeats 4000000 in
/-- slices.Equal over bytes, of a row and the same -/
theorem byEqual_same (A1 A2 : Option Addr) (n c1 c2 : Nat) (l : List UInt8) (w : World) (hn : l.length = n) (h1 : Rd w A1 (byteV l)) (h2 : Rd w A2 (byteV l)) (hc1 : n ≤ c1) (hc2 : n ≤ c2) (hl : n ≤ 1048576) :
    Calls Tryd.prog 30 #[.slice A1 n c1, .slice A2 n c2] w fun e w' => e = .returned (.bool true) ∧ ∃ q, w.drewN q = w' := by
  have HN := Lib.hid hn
  have H1 := Lib.hid h1
  have H2 := Lib.hid h2
  clear hn h1 h2
  go_enter Tryd.func30, Tryd.ntmps30
  go_wp2
  go_loopg [13] n (fun gk i wr => ∃ k q : Nat, k ≤ n ∧ gk = n - k ∧ i = .int .i64 k ∧ wr = w.drewN q)
  case atStart => exact ⟨0, 0, Nat.zero_le _, rfl, rfl, rfl⟩
  case round =>
    obtain ⟨k, q, hk, hgk, rfl, rfl⟩ := hrel
    have HG := Lib.hid hgk
    clear hgk
    by_cases hlt : k < n
    · obtain ⟨a, ha⟩ : ∃ x, l[k]? = some x := ⟨_, List.getElem?_eq_getElem (by rw [HN.out]; exact hlt)⟩
      obtain ⟨b1, o1, rfl, hb1⟩ := H1.out.some_ (by rw [HN.out]; omega)
      obtain ⟨b2, o2, rfl, hb2⟩ := H2.out.some_ (by rw [HN.out]; omega)
      have x1 := BS.at_ (n := 0) (cap := 0) H1.out ha
      have x2 := BS.at_ (n := 0) (cap := 0) H2.out ha
      clear ha
      go_wp2
      go_quiet (fail)
      go_wp2
      go_roundg (n - (k + 1))
      case measure => rw [HG.out]; omega
      case rel => exact ⟨k + 1, q + nq, hlt, rfl, by go_num, rfl⟩
    · obtain rfl : k = n := by omega
      go_wp2
      go_ret
      exact ⟨rfl, q, rfl⟩
def RefPost (l : List UInt8) (W : World) (e : Ending) (W' : World) : Prop := ∃ o, RefR l o ∧ ValPost o W e W'
set_option maxRecDepth 100000 in
set_option maxHeartbeats 4000000 in
theorem t5parse_any (v : Value) (l : List UInt8) (w : World) (hv : BS w v l) (hlen : l.length ≤ 1048576) : Calls Tryd.prog 28 #[v] w (RefPost l w) := by
  obtain ⟨A, cap, rfl, hcap, hr⟩ := hv
  by_cases hl : 2048 < l.length
  · have hl' : (2048 : Int) < (l.length : Int) := by omega
    have HV := Lib.hid (show RefR l (jZero, 0, 3) by unfold RefR; rw [if_pos hl])
    go_enter Tryd.func28, Tryd.ntmps28
    go_wp2
    refine bodyPost_ret (v := .tuple #[.agg #[zI, zI, zS, zN, zN], .int .i64 0, .int .i64 3]) (by simp only [results, Tryd.results28]; go_simp) rfl ?_
    exact ⟨(jZero, 0, 3), HV.out, zC, rfl, VR.zero, (Below.refl _ w).alloc (Nat.le_refl _) _⟩
  · have hl' : ¬ (2048 : Int) < (l.length : Int) := by omega
    have hpr : ∀ r, RdR l 0 0 0 r → RefR l (refOut l r) := fun r h => by unfold RefR; rw [if_neg hl]; exact ⟨r, h, rfl⟩
    have HPR := Lib.hid hpr
    have HR := Lib.hid hr
    have HRD := Lib.hid (fun W (h : Below w.heap.size w W) => show Calls Tryd.prog 33 #[.agg #[.slice A l.length cap, .int .i64 0, .int .i64 0, .int .i64 0], .int .i64 0] W (RdPost A l cap 0 0 0 W) from t5read_any A l cap 0 0 0 W (HR.out.below h) (Nat.zero_le _) (by decide) (by decide) hcap hlen)
    have HB := Lib.hid ((Below.refl w.heap.size w).alloc (Nat.le_refl _) (.cells #[zI, zI, zS, zN, zN] 40))
    obtain ⟨W1, hW1⟩ : ∃ W1, w.alloc (.cells #[zI, zI, zS, zN, zN] 40) = W1 := ⟨_, rfl⟩
    have hbk : Blk W1 w.heap.size 40 #[zI, zI, zS, zN, zN] := by rw [← hW1]; exact Blk.new w _ _
    rw [hW1] at HB
    have HBK := Lib.hid hbk
    have HW1 := Lib.hid hW1
    clear hbk hW1 hpr hr
    go_enter Tryd.func28, Tryd.ntmps28
    go_upto_region 1 with (fail)
    rw [HW1.out]
    clear HW1
    go_wp2_with fail
    refine (HRD.out _ HB.out).mono ?_
    rintro e1 w2 ⟨r, hrd, hb2, hans⟩
    have HPRR := Lib.hid (HPR.out r hrd)
    have HB2 := Lib.hid (HB.out.trans (hb2.mono HB.out.size))
    have HBK2 := Lib.hid (HBK.out.keep hb2)
    clear hb2 hrd HPR
    have hsz2 : w.heap.size < w2.heap.size := HBK2.out.lt
    have y1 : w.heap.size ≠ w2.heap.size := by omega
    have y2 : w.heap.size ≠ w2.heap.size + 1 := by omega
    have y3 : w2.heap.size ≠ w.heap.size := by omega
    have y4 : w2.heap.size + 1 ≠ w.heap.size := by omega
    have y5 : w2.heap.size ≠ w2.heap.size + 1 := by omega
    have y6 : w2.heap.size + 1 ≠ w2.heap.size := by omega
    cases r with
    | err fp fe =>
      obtain ⟨hfe, k, rfl⟩ := hans
      have hfb : (fe != 0) = true := by simpa using hfe
      obtain ⟨W4, hW4⟩ : ∃ W4, (w2.alloc (.cells zVal 40)).alloc (.cells (txC A l.length cap fp k fe) 49) = W4 := ⟨_, rfl⟩
      have hb24 : Below w2.heap.size w2 W4 := by rw [← hW4]; exact ((Below.refl _ _).alloc (Nat.le_refl _) _).alloc (by simp) _
      have b8 : Blk W4 (w2.heap.size + 1) 49 (txC A l.length cap fp k fe) := by
        rw [← hW4]
        have := Blk.new (w2.alloc (.cells zVal 40)) 49 (txC A l.length cap fp k fe)
        rw [World.size_alloc] at this; exact this
      have HBK4 := Lib.hid (HBK2.out.keep hb24)
      have HB4 := Lib.hid (HB2.out.trans (hb24.mono HB2.out.size))
      have HB8 := Lib.hid b8
      have HW4 := Lib.hid hW4
      clear hb24 b8 hW4
      go_upto_region 4 with (fail)
      rw [HW4.out]
      clear HW4
      obtain ⟨j10, j11, j12, j13⟩ := TB.cells HB8.out
      obtain ⟨c1, f1, l1⟩ := HBK4.out.rules
      go_wp2
      go_region_held3 (fun w' => w'.cell? ⟨w2.heap.size + 1, 1, none⟩ = some (.int .i64 fp) ∧ w'.cell? ⟨w2.heap.size + 1, 3, none⟩ = some (.int .i64 fe)) (go_keep) (fail)
      all_goals
        go_wp2
        refine bodyPost_ret (v := .tuple #[.agg #[zI, zI, zS, zN, zN], .int .i64 fp, .int .i64 fe]) (by simp only [results, Tryd.results28]; go_simp) rfl ?_
        exact ⟨_, HPRR.out, zC, rfl, VR.zero, (bel_put5 HB4.out (Nat.le_refl _) zI zI zS zN zN).drew⟩
    | ok v q k =>
      obtain ⟨hq1, hq2, hk, cs, rfl, hvr⟩ := hans
      obtain ⟨k0, n0, s0, A0, na0, ca0, B0, nb0, cb0, rfl⟩ := hvr.form
      obtain ⟨W4, hW4⟩ : ∃ W4, (w2.alloc (.cells #[.int .i64 k0, .int .i64 n0, .string s0, .slice A0 na0 ca0, .slice B0 nb0 cb0] 40)).alloc (.cells (txC A l.length cap q k 0) 49) = W4 := ⟨_, rfl⟩
      have hb24 : Below w2.heap.size w2 W4 := by rw [← hW4]; exact ((Below.refl _ _).alloc (Nat.le_refl _) _).alloc (by simp) _
      have b7 : Blk W4 w2.heap.size 40 #[.int .i64 k0, .int .i64 n0, .string s0, .slice A0 na0 ca0, .slice B0 nb0 cb0] := by rw [← hW4]; exact (Blk.new _ _ _).alloc _
      have b8 : Blk W4 (w2.heap.size + 1) 49 (txC A l.length cap q k 0) := by
        rw [← hW4]
        have := Blk.new (w2.alloc (.cells #[.int .i64 k0, .int .i64 n0, .string s0, .slice A0 na0 ca0, .slice B0 nb0 cb0] 40)) 49 (txC A l.length cap q k 0)
        rw [World.size_alloc] at this; exact this
      obtain ⟨q', hq'⟩ : ∃ q', skipB l q = q' := ⟨_, rfl⟩
      have hql' : q' ≤ l.length := by rw [← hq']; exact skipB_le hq2
      have hps := t5pass_any A l cap q k W4 (HR.out.below (HB2.out.trans (hb24.mono HB2.out.size))) hq2 hcap hlen
      rw [hq'] at hps
      have hout : refOut l (.ok v q k) = if q' < l.length then (jZero, (q' : Int), 7) else (v, 0, 0) := by show (if skipB l q < l.length then (jZero, ((skipB l q : Nat) : Int), (7 : Int)) else (v, 0, 0)) = _; rw [hq']
      have HOUT := Lib.hid (show RefR l (if q' < l.length then (jZero, (q' : Int), 7) else (v, 0, 0)) by rw [← hout]; exact HPRR.out)
      have HPS := Lib.hid hps
      have HBK4 := Lib.hid (HBK2.out.keep hb24)
      have HB4 := Lib.hid (HB2.out.trans (hb24.mono HB2.out.size))
      have HB7 := Lib.hid b7
      have HB8 := Lib.hid b8
      have HW4 := Lib.hid hW4
      have HVR := Lib.hid ((hvr.mono (F' := fun b => w.heap.size < b ∧ b < w2.heap.size) (fun b h2 hb => ⟨Nat.lt_of_lt_of_le HBK.out.lt hb, h2⟩)).bel hb24)
      clear hb24 b7 b8 hW4 hps hq' hout HPRR hvr HRD
      go_upto_region 4 with (fail)
      rw [HW4.out]
      clear HW4
      obtain ⟨j10, j11, j12, j13⟩ := TB.cells HB8.out
      go_wp2_with fail
      refine HPS.out.mono ?_
      rintro e1 w5 ⟨rfl, hb5⟩
      have HBK5 := Lib.hid (HBK4.out.keep hb5)
      have HB5 := Lib.hid (HB4.out.trans (hb5.mono HB4.out.size))
      have HB75 := Lib.hid (HB7.out.keep hb5)
      have HVR5 := Lib.hid (HVR.out.bel hb5)
      have b8 := HB8.out.keep hb5
      clear hb5 HBK4 HB4 HB7 HVR HPS j10 j11 j12 j13 HB8
      obtain ⟨c8, f8, l8⟩ := b8.rules
      go_upto_region 7 with (fail)
      obtain ⟨W9, hW9⟩ : ∃ W9, (((w5.setCell ⟨w2.heap.size + 1, 0, none⟩ (.slice A l.length cap)).setCell ⟨w2.heap.size + 1, 1, none⟩ (.int .i64 q')).setCell ⟨w2.heap.size + 1, 2, none⟩ (.int .i64 k)).setCell ⟨w2.heap.size + 1, 3, none⟩ (.int .i64 0) = W9 := ⟨_, rfl⟩
      have b9 : TB W9 (w2.heap.size + 1) A l.length cap q' k 0 := by rw [← hW9]; exact (((b8.set_ 0 _).set_ 1 _).set_ 2 _).set_ 3 _
      have HBK9 : Hid (Blk W9 w.heap.size 40 #[zI, zI, zS, zN, zN]) := Lib.hid (by rw [← hW9]; exact (((HBK5.out.far y2 _).far y2 _).far y2 _).far y2 _)
      have HB79 : Hid (Blk W9 w2.heap.size 40 #[.int .i64 k0, .int .i64 n0, .string s0, .slice A0 na0 ca0, .slice B0 nb0 cb0]) := Lib.hid (by rw [← hW9]; exact (((HB75.out.far y5 _).far y5 _).far y5 _).far y5 _)
      have HB9 : Hid (Below w.heap.size w W9) := Lib.hid (by rw [← hW9]; exact bel_put4 HB5.out (by omega) _ _ _ _)
      have HVR9 : Hid (VR W9 (fun b => w.heap.size < b ∧ b < w2.heap.size) [.int .i64 k0, .int .i64 n0, .string s0, .slice A0 na0 ca0, .slice B0 nb0 cb0] v) := Lib.hid (by
        rw [← hW9]
        exact HVR5.out.keep ((((KeepF.refl.set (fun b hb => by omega) 0 _).set (fun b hb => by omega) 1 _).set (fun b hb => by omega) 2 _).set (fun b hb => by omega) 3 _))
      rw [hW9]
      clear hW9 c8 f8 l8 b8 HBK5 HB5 HB75 HVR5
      obtain ⟨h10, h11, h12, h13⟩ := b9.cells
      obtain ⟨c1, f1, l1⟩ := HBK9.out.rules
      obtain ⟨c7, f7, l7⟩ := HB79.out.rules
      by_cases hlt : q' < l.length
      · have hout := HOUT.out
        rw [if_pos hlt] at hout
        have HO := Lib.hid hout
        have hli : (q' : Int) < (l.length : Int) := by omega
        clear hout HOUT
        go_wp2
        go_region_held3 (fun w' => w'.cell? ⟨w2.heap.size + 1, 1, none⟩ = some (.int .i64 q')) (go_keep) (fail)
        all_goals
          go_wp2
          refine bodyPost_ret (v := .tuple #[.agg #[zI, zI, zS, zN, zN], .int .i64 q', .int .i64 7]) (by simp only [results, Tryd.results28]; go_simp) rfl ?_
          exact ⟨_, HO.out, zC, rfl, VR.zero, (bel_put5 HB9.out (Nat.le_refl _) zI zI zS zN zN).drew⟩
      · have hout := HOUT.out
        rw [if_neg hlt] at hout
        have HO := Lib.hid hout
        have hli : ¬ (q' : Int) < (l.length : Int) := by omega
        clear hout HOUT
        have k0' := c7 0
        have k1' := c7 1
        have k2' := c7 2
        have k3' := c7 3
        have k4' := c7 4
        simp at k0' k1' k2' k3' k4'
        go_wp2
        refine bodyPost_ret (v := .tuple #[.agg #[.int .i64 k0, .int .i64 n0, .string s0, .slice A0 na0 ca0, .slice B0 nb0 cb0], .int .i64 0, .int .i64 0]) (by simp only [results, Tryd.results28]; go_simp) rfl ?_
        exact ⟨_, HO.out, _, rfl, (HVR9.out.keep (keep_put5 (fun b hb => by omega) _ _ _ _ _)).mono (fun b _ hb => by show w.heap.size ≤ b; omega), bel_put5 HB9.out (Nat.le_refl _) _ _ _ _ _⟩
end Go.Proofs.YtalhoacancbldaaDoor
