import Derived.Test.YtoejdhabpajhlaaGreatDoorParse3
import Derived.Deep.RegionWith
import Derived.Deep.DeepCutAuto
import Derived.Deep.CutBlock
import Derived.Laws.RangeString
import Derived.Laws.RangeAny
/- The walks of package parse: put where an object is open. -/
namespace Go.Proofs.YtoejdhabpajhlaaGreatDoor
set_option linter.unusedVariables false
set_option linter.unusedSimpArgs false
open Go.RowKit
attribute [local go_sem] run_index_arr run_part_agg run_part_one run_field_agg
set_option maxRecDepth 100000 in
set_option maxHeartbeats 4000000 in
theorem pPutO_any (w W : World) (g : Nat) (A : Option Addr) (cap : Nat) (l : List UInt8) (p many : Nat) (ov : Value) (Er : List (List Value × List UInt8)) (ce : List Value) (c : List Value) (v : JV)
    (kk nn : Int) (ss : List UInt8) (kids : List JV) (keys : List (List UInt8)) (key : List UInt8) (r : JStk)
    (h : PGo w W g A cap l p many ov ((ce, key) :: Er) ((.mk kk nn ss kids keys, key) :: r)) (hc : VR W (FO w.heap.size g ov) c v) (hk : kk = 6) (hkl : keys.length = kids.length) (hn : kids.length ≤ 65535) (hd : r.length ≤ 65535) :
    Calls Tryz.prog 106 #[.pointer (some ⟨g, 0, none⟩), .agg c.toArray] W (PPost w g A cap l (pPut v p many ((.mk kk nn ss kids keys, key) :: r))) := by
  obtain ⟨k0, n0, s0, A0, na0, ca0, B0, nb0, cb0, rfl⟩ := hc.form
  have hown := h.own
  obtain ⟨ob, capo, rfl, hob, hobl⟩ := hown.form (by simp)
  have hcapo := ownCap hown
  obtain ⟨hE1, hE5⟩ := ESt.len h.est.2.2
  obtain ⟨A1, B1, ca, cb, css, rfl, hvs, hca, hcb, hA1, hB1, hr1, hr2⟩ := h.est.1.out
  have hgne : g ≠ ob := fun e => h.gne (by rw [e]; rfl)
  have hgl : g < W.heap.size := h.pb.blk.lt
  obtain ⟨d, hdd⟩ : ∃ d, r.length = d := ⟨_, rfl⟩
  obtain ⟨hcc, hf, _⟩ := h.pb.blk.rules
  unfold pCells at hcc
  simp only [List.length_cons, hdd] at hown hcapo h hc hcc
  rw [hdd] at hE1 hd
  have hins := fun W2 (hk : KeepF (FO w.heap.size g (.slice (some ⟨ob, 0, none⟩) (d + 1) capo)) W W2) (j : Nat) (hj : j ≤ kids.length) => insV_any W2 (FO w.heap.size g (.slice (some ⟨ob, 0, none⟩) (d + 1) capo)) A1 kids.length ca css kids _ v j hA1 rfl hj hca (hr1.keep hk) (hvs.keep hk) (hc.keep hk) (FO.fresh (Nat.le_trans h.pb.bel.size hk.1) (Nat.lt_of_lt_of_le hgl hk.1) (Nat.lt_of_lt_of_le hobl hk.1)) hn
  have hinS := fun W2 (hk : KeepF (FO w.heap.size g (.slice (some ⟨ob, 0, none⟩) (d + 1) capo)) W W2) (j : Nat) (hj : j ≤ keys.length) => insS_any W2 (FO w.heap.size g (.slice (some ⟨ob, 0, none⟩) (d + 1) capo)) B1 keys.length cb keys key j hB1 rfl hj hcb (hr2.keep hk) (FO.fresh (Nat.le_trans h.pb.bel.size hk.1) (Nat.lt_of_lt_of_le hgl hk.1) (Nat.lt_of_lt_of_le hobl hk.1)) (by omega)
  have hcell := own_cells hown hE1 hE5
  have q0 := hcell 0 (by omega)
  have q3 := hcell 3 (by omega)
  have q4 := hcell 4 (by omega)
  have q5 := hcell 5 (by omega)
  have hfz := fun j => hown.frozenAt j
  obtain ⟨n, hnn⟩ : ∃ n, kids.length = n := ⟨_, rfl⟩
  subst hk
  rw [hkl] at q4 hinS hcb
  rw [hnn] at hins hinS q3 q4 hn hca hcb
  have HKL := Lib.hid (hkl.trans hnn)
  simp only [List.cons_append, List.nil_append, List.getElem?_cons_zero, List.getElem?_cons_succ, Nat.add_zero] at q0 q3 q4 q5
  have HI := Lib.hid hins
  have HJ := Lib.hid hinS
  have HH := Lib.hid h
  have HC := Lib.hid hc
  have HO := Lib.hid hown
  have HV := Lib.hid hvs
  have HN := Lib.hid hnn
  have HD := Lib.hid hdd
  have HR := Lib.hid (And.intro hr1 hr2)
  have HE := Lib.hid (And.intro hE1 hE5)
  have HAB := Lib.hid (And.intro hA1 hB1)
  clear hkl hins hinS h hc hown hvs hnn hdd hr1 hr2 hE1 hE5 hA1 hB1 hcell
  go_enter Tryz.func106, Tryz.ntmps106
  go_upto_block 0 with fail
  obtain ⟨W1, hW1⟩ : ∃ W1, W.alloc (.cells #[.int .i64 k0, .int .i64 n0, .string s0, .slice A0 na0 ca0, .slice B0 nb0 cb0] 25) = W1 := ⟨_, rfl⟩
  have hb1 : Below W.heap.size W W1 := by rw [← hW1]; exact (Below.refl _ W).alloc (Nat.le_refl _) _
  have hbox : Blk W1 W.heap.size 25 #[.int .i64 k0, .int .i64 n0, .string s0, .slice A0 na0 ca0, .slice B0 nb0 cb0] := by rw [← hW1]; exact Blk.new _ _ _
  have z3 := ((bcell hb1).1 ob (d * 6 + 3) hobl).trans q3
  have z4 := ((bcell hb1).1 ob (d * 6 + 4) hobl).trans q4
  have z5 := ((bcell hb1).1 ob (d * 6 + 5) hobl).trans q5
  obtain ⟨bc, bf, bl⟩ := hbox.rules
  have HB1 := Lib.hid hb1
  have HBX := Lib.hid hbox
  rw [hW1]
  clear hW1 hb1 hbox q0 q3 q4 q5 hfz hcc hf
  go_cut [7] (fun s7 wx => s7 = .int .i64 (insPos key keys n) ∧ ∃ q, wx = W1.drewN q)
  case first =>
    go_wp2
    go_loopg [7] n (fun gk s7 wr => ∃ j q : Nat, j ≤ n ∧ gk = j ∧ s7 = .int .i64 j ∧ Hid (insPos key keys n = insPos key keys j) ∧ wr = W1.drewN q)
    case atStart => exact ⟨n, 0, Nat.le_refl _, rfl, rfl, Lib.hid rfl, rfl⟩
    case round =>
      obtain ⟨j, q, hj, hgk, rfl, HP, rfl⟩ := hrel
      have HG := Lib.hid hgk
      clear hgk
      match j, hj, HP, HG with
      | 0, hj, HP, HG =>
        go_wp2
        go_quiet (fail)
        go_wp2
        go_meet
        case rel => exact ⟨by rw [HP.out]; rfl, _, World.drewN_drewN _ _ _⟩
      | j + 1, hj, HP, HG =>
        obtain ⟨kj, hkj⟩ : ∃ kj, keys[j]? = some kj := ⟨_, List.getElem?_eq_getElem (by rw [HKL.out]; omega)⟩
        have hkd : keys.getD j [] = kj := by rw [List.getD_eq_getElem?_getD, hkj]; rfl
        obtain ⟨bk, ok, rfl, hbk, _, hx⟩ := HR.out.2 (by intro e; have h1 := strV_len keys; rw [e, HKL.out] at h1; simp at h1; omega)
        have hxj := hx j (by rw [strV_len, HKL.out]; omega)
        have hxj' : (strV keys)[j]'(by rw [strV_len, HKL.out]; omega) = .string ⟨kj.toArray⟩ := by
          obtain ⟨h1, h2⟩ := List.getElem?_eq_some_iff.1 hkj
          simp [strV, h2]
        rw [hxj'] at hxj
        have xj := ((bcell HB1.out).1 bk (ok + j) hbk).trans hxj
        have hpos : decide ((0 : Int) < (j : Int) + 1) = true := by rw [decide_eq_true_eq]; omega
        have hjn : j < n := by omega
        have hbl : Op.bytesLess key kj = ltB key kj := rfl
        have HKD := Lib.hid hkd
        clear hx hxj hxj' hkj hkd
        cases hb : ltB key kj with
        | true =>
          rw [hb] at hbl
          have HS := Lib.hid (show insPos key keys n = insPos key keys j by rw [HP.out, insPos, HKD.out, hb, if_pos rfl])
          clear hb
          go_wp2
          go_quiet (fail)
          go_wp2
          go_roundg j
          case measure => rw [HG.out]; omega
          case rel => exact ⟨j, _, by omega, rfl, by go_num, HS, rfl⟩
        | false =>
          rw [hb] at hbl
          have HS := Lib.hid (show insPos key keys n = j + 1 by rw [HP.out, insPos, HKD.out, hb]; rfl)
          clear hb
          go_wp2
          go_quiet (fail)
          go_wp2
          go_meet
          case rel => exact ⟨by rw [HS.out], _, World.drewN_drewN _ _ _⟩
  case rest =>
    obtain ⟨rfl, q, rfl⟩ := hcut
    have hjn := insPos_le key keys n
    obtain ⟨j, hj⟩ : ∃ j, insPos key keys n = j := ⟨_, rfl⟩
    rw [hj] at hjn ⊢
    have HJE := Lib.hid hj
    have hFob : ∀ b, FO w.heap.size g (.slice (some ⟨ob, 0, none⟩) (d + 1) capo) b → b ≠ ob := fun b hb e => hb.2.2 (by rw [e]; rfl)
    have HFO := Lib.hid hFob
    have hne1 : W.heap.size ≠ ob := by omega
    clear hj hFob
    go_wp2
    go_region_with (go_at_call 127; refine (HJ.out _ (by exact KeepF.of_below (bel_drewN HB1.out _)) j hjn).mono ?_; rintro e W2 ⟨B', cbp, rfl, hi1, hi2, hi3, hb2⟩; have hb12 : Below W.heap.size W W2 := (bel_drewN HB1.out (q + 1)).trans (hb2.mono HB1.out.size); have HO2 := Lib.hid (ownBel HO.out hb12); have f4 := HO2.out.frozenAt (d * 6 + 4); have y4 := own_cells HO2.out HE.out.1 HE.out.2 4 (by omega); simp only [List.cons_append, List.nil_append, List.getElem?_cons_zero, List.getElem?_cons_succ, Nat.add_zero] at y4)
    all_goals
      obtain ⟨W3, hW3⟩ : ∃ W3, W2.setCell ⟨ob, d * 6 + 4, none⟩ (.slice B' (n + 1) cbp) = W3 := ⟨_, rfl⟩
      have hown3 := (own_top HO2.out HE.out.1 HE.out.2 rfl 4 (by omega) (.slice B' (n + 1) cbp)).1
      rw [hW3] at hown3
      simp only [List.set_cons_succ, List.set_cons_zero] at hown3
      have hpb3 : PB w W3 g A cap l p many (.slice (some ⟨ob, 0, none⟩) (d + 1) capo) zI zI zS zN zN 0 := by rw [← hW3]; exact (HH.out.pb.keep hb12).far hgne hob _ _
      have hKF3 : KeepF (FO w.heap.size g (.slice (some ⟨ob, 0, none⟩) (d + 1) capo)) W W3 := by rw [← hW3]; exact (KeepF.of_below hb12).set HFO.out _ _
      have hbox3 : Blk W3 W.heap.size 25 #[.int .i64 k0, .int .i64 n0, .string s0, .slice A0 na0 ca0, .slice B0 nb0 cb0] := by rw [← hW3]; exact ((HBX.out.drewN (q + 1)).keep hb2).far (p := ⟨ob, d * 6 + 4, none⟩) hne1 _
      have hi3' : RdF W3 (FO w.heap.size g (.slice (some ⟨ob, 0, none⟩) (d + 1) capo)) B' (strV (insAt keys j key)) := by rw [← hW3]; exact hi3.keep (KeepF.refl.set HFO.out _ _)
      rw [hW3]
      have y3 := own_cells hown3 HE.out.1 HE.out.2 3 (by omega)
      simp only [List.cons_append, List.nil_append, List.getElem?_cons_zero, List.getElem?_cons_succ, Nat.add_zero] at y3
      rw [HN.out] at y3
      obtain ⟨bc3, bf3, bl3⟩ := hbox3.rules
      have HO3 := Lib.hid hown3
      have HP3 := Lib.hid hpb3
      have HK3 := Lib.hid hKF3
      have HI3 := Lib.hid hi3'
      have HB12 := Lib.hid hb12
      clear hW3 hown3 hpb3 hKF3 hbox3 hi3' hi3 f4 y4 HO2 hb12 hb2 z3 z4 z5 bc bf bl
      go_wp2
      go_region_with (go_at_call 128; refine (HI.out _ (by exact HK3.out.bel (bel_drewN (Below.refl _ W3) 1)) j hjn).mono ?_; rintro e W4 ⟨A', cap', rfl, hv1, hv2, hv3, hb4⟩; have hb34 : Below W3.heap.size W3 W4 := (bel_drewN (Below.refl _ W3) 1).trans hb4; have HO4 := Lib.hid (ownBel HO3.out hb34); have f3 := HO4.out.frozenAt (d * 6 + 3); have x3 := own_cells HO4.out HE.out.1 HE.out.2 3 (by omega); simp only [List.cons_append, List.nil_append, List.getElem?_cons_zero, List.getElem?_cons_succ, Nat.add_zero] at x3)
      all_goals
        go_wp2
        go_ret
        have hKF := (HK3.out.bel hb34).set HFO.out (d * 6 + 3) (.slice A' (n + 1) cap')
        have hadd : addKid (.mk 6 nn ss kids keys) key v = .mk 6 nn ss (insAt kids j v) (insAt keys j key) := by unfold addKid; simp only [if_true]; rw [HN.out, HJE.out]
        refine ⟨rfl, .slice (some ⟨ob, 0, none⟩) (d + 1) capo, ([.int .i64 6, .int .i64 nn, .string ⟨ss.toArray⟩, .slice A' (n + 1) cap', .slice B' (n + 1) cbp], key) :: Er, ?_⟩
        refine ⟨(HP3.out.keep hb34).far hgne hob _ _, ?_, ?_, rfl, HH.out.est.2.2.keep hKF⟩
        · have h1 := (own_top HO4.out HE.out.1 HE.out.2 rfl 3 (by omega) (.slice A' (n + 1) cap')).1
          simp only [List.length_cons, HD.out]
          exact h1
        · show VR _ _ _ (addKid (.mk 6 nn ss kids keys) key v)
          rw [hadd]
          have hl1 : (insAt kids j v).length = n + 1 := by have h1 := HN.out; simp [insAt]; omega
          have hl2 : (insAt keys j key).length = n + 1 := by have h1 := HKL.out; simp [insAt]; omega
          exact VR.into 6 nn ss ((HV.out.keep hKF).ins (HC.out.keep hKF) j) (by rw [hl1]; exact hv1) (by rw [hl2]; exact hi1) hv2 hi2 (hv3.keep (KeepF.refl.set HFO.out _ _)) ((HI3.out.keep (KeepF.of_below hb34)).keep (KeepF.refl.set HFO.out _ _)) hl1.symm hl2.symm
end Go.Proofs.YtoejdhabpajhlaaGreatDoor

/- The walks of package parse: put at any time, word, close, colon. -/
namespace Go.Proofs.YtoejdhabpajhlaaGreatDoor
set_option linter.unusedVariables false
set_option linter.unusedSimpArgs false
open Go.RowKit
attribute [local go_sem] run_index_arr run_part_agg run_part_one run_field_agg

/-- what is open is of a size, its objects have as many keys as kids -/
def stkOk (many : Nat) (stk : JStk) : Prop := stk.length ≤ 8 ∧ ∀ x ∈ stk, x.1.kids.length ≤ many ∧ (x.1.kind = 6 → x.1.keys.length = x.1.kids.length)
theorem pPut_any (w W : World) (g : Nat) (A : Option Addr) (cap : Nat) (l : List UInt8) (p many m : Nat) (ov : Value) (E : List (List Value × List UInt8)) (stk : JStk) (c : List Value) (v : JV)
    (h : PGo w W g A cap l p many ov E stk) (hc : VR W (FO w.heap.size g ov) c v) (hs : stkOk m stk) (hm : m ≤ 256) :
    Calls Tryz.prog 106 #[.pointer (some ⟨g, 0, none⟩), .agg c.toArray] W (PPost w g A cap l (pPut v p many stk)) := by
  match stk, E, h, hs with
  | [], E, h, hs => exact pPut0_any w W g A cap l p many ov E c v h hc
  | (.mk kk nn ss kids keys, key) :: r, [], h, hs => exact h.est.elim
  | (.mk kk nn ss kids keys, key) :: r, (ce, key') :: Er, h, hs =>
    obtain rfl : key' = key := h.est.2.1
    have h1 := hs.2 _ List.mem_cons_self
    have hk : kids.length ≤ m := h1.1
    have hl := hs.1
    simp only [List.length_cons] at hl
    by_cases h6 : kk = 6
    · exact pPutO_any w W g A cap l p many ov Er ce c v kk nn ss kids keys key' r h hc h6 (h1.2 h6) (by omega) (by omega)
    · exact pPutL_any w W g A cap l p many ov Er ce c v kk nn ss kids keys key' r h hc h6 (by omega) (by omega)
theorem PGo.mono_fo {w W W' : World} {g : Nat} {A : Option Addr} {cap : Nat} {l : List UInt8} {p many : Nat} {ov : Value} {E : List (List Value × List UInt8)} {stk : JStk} (h : PGo w W g A cap l p many ov E stk) {p' : Nat} (hb : PB w W' g A cap l p' many ov zI zI zS zN zN 0) (hg : W.grownBy W' (some g)) :
    KeepF (FO w.heap.size g ov) W W' := KeepF.of_grown hg (fun b hf e => hf.2.1 (by simpa using e))
/-- what stands in a place, against a word's byte -/
theorem wordMis_step {l : List UInt8} {p : Nat} {c : UInt8} {r : List UInt8} (h : l[p]? = some c) : wordMis l p (c :: r) = wordMis l (p + 1) r := by rw [wordMis, if_pos h]
theorem wordMis_stop {l : List UInt8} {p : Nat} {c : UInt8} {r : List UInt8} (h : l[p]? ≠ some c) : wordMis l p (c :: r) = some p := by rw [wordMis, if_neg h]
def wordP (l : List UInt8) (p many : Nat) (u : List UInt8) (v : JV) (stk : JStk) : PRes :=
  match wordMis l p u with | none => pPut v (p + u.length) many stk | some q => .fail (failF l q 7).1 (failF l q 7).2
theorem bel_iter2 (w : World) (s : ByteArray) (p : Nat) : Below w.heap.size w (w.iter s p) := (Below.refl _ w).alloc (Nat.le_refl _) _
set_option maxRecDepth 100000 in
set_option maxHeartbeats 4000000 in
theorem pWord_any (w W : World) (g : Nat) (A : Option Addr) (cap : Nat) (l : List UInt8) (p many m : Nat) (ov : Value) (E : List (List Value × List UInt8)) (stk : JStk) (s : ByteArray) (c : List Value) (v : JV)
    (h : PGo w W g A cap l p many ov E stk) (hc : VR W (FO w.heap.size g ov) c v) (hs : stkOk m stk) (hm : m ≤ 256) (hu : ∀ x ∈ sl s, x.toNat < 128) (hus : s.size ≤ 100) (hp : p ≤ l.length) (hcap : l.length ≤ cap) (hlen : l.length ≤ 4194304) :
    Calls Tryz.prog 107 #[.pointer (some ⟨g, 0, none⟩), .string s, .agg c.toArray] W (PPost w g A cap l (wordP l p many (sl s) v stk)) := by
  obtain ⟨k0, n0, s0, A0, na0, ca0, B0, nb0, cb0, rfl⟩ := hc.form
  have HH := Lib.hid h
  have HC := Lib.hid hc
  have HS := Lib.hid hs
  have HU := Lib.hid hu
  have hgl := h.pb.blk.lt
  clear h hc hs hu
  go_enter Tryz.func107, Tryz.ntmps107
  go_wp2
  obtain ⟨W1, hW1⟩ : ∃ W1, W.alloc (.cells #[.int .i64 k0, .int .i64 n0, .string s0, .slice A0 na0 ca0, .slice B0 nb0 cb0] 25) = W1 := ⟨_, rfl⟩
  have hb1 : Below W.heap.size W W1 := by rw [← hW1]; exact (Below.refl _ W).alloc (Nat.le_refl _) _
  have hbox : Blk W1 W.heap.size 25 #[.int .i64 k0, .int .i64 n0, .string s0, .slice A0 na0 ca0, .slice B0 nb0 cb0] := by rw [← hW1]; exact Blk.new _ _ _
  have HB1 := Lib.hid hb1
  have HBX := Lib.hid hbox
  have HZ1 := Lib.hid (show W1.heap.size = W.heap.size + 1 by rw [← hW1]; simp)
  rw [hW1]
  clear hW1 hb1 hbox
  have hW1g : g < W1.heap.size := Nat.lt_of_lt_of_le hgl HB1.out.size
  have h1 : ∀ pos, PGo w (W1.iter s pos) g A cap l p many ov E stk := fun pos => (HH.out.keep HB1.out).keep (bel_iter2 W1 s pos)
  have H1 := Lib.hid h1
  have HRL := Lib.hid (fun pos => (h1 pos).pb.row)
  clear h1
  go_loopw [7] (fun _ wr => ∃ pos : Nat, wr = W1.iter s pos ∧ pos ≤ s.size ∧ Hid (wordMis l p (sl s) = wordMis l (p + pos) ((sl s).drop pos))) (fun _ wr => s.size - wr.iterPos W1.heap.size)
  case atStart => exact ⟨0, rfl, by omega, Lib.hid (by simp)⟩
  case round =>
    obtain ⟨pos, rfl, hpos, hn⟩ := hrel
    by_cases hlt : pos < s.size
    · obtain ⟨hcc, hf, hgi⟩ := (H1.out (pos + 1)).pb.blk.rules
      unfold pCells at hcc
      have hnext := fun ty => run_next_any (P := Tryz.prog) W1 s pos ty hlt
      rw [HZ1.out] at hnext
      have hd : (sl s).drop pos = s[pos] :: (sl s).drop (pos + 1) := List.drop_eq_getElem_cons (by rw [sl_len]; exact hlt)
      have hasc : (s[pos]).toNat < 128 := HU.out _ (List.getElem_mem _)
      have h1 := decode_ascii s pos hlt hasc
      obtain ⟨c, hc⟩ : ∃ c, s[pos] = c := ⟨_, rfl⟩
      rw [hc] at h1 hd hasc
      rw [h1] at hnext
      have hn' := hn.out
      rw [hd] at hn'
      clear hd hc h1
      have hadd : IntKind.i64.wrap ((p : Int) + (pos : Int)) = (p : Int) + (pos : Int) := by rw [IntWalk.i64_in _ (by omega)]
      by_cases hpl : p + pos < l.length
      · obtain ⟨x, hx⟩ : ∃ x, l[p + pos]? = some x := ⟨_, List.getElem?_eq_getElem hpl⟩
        have hrow := HRL.out (pos + 1)
        obtain ⟨b, o, rfl, hb⟩ := hrow.some_ (by omega)
        have hxc := BS.at_ (n := 0) (cap := 0) hrow hx
        have hxl : x.toNat < 256 := x.toNat_lt
        by_cases hxq : x = c
        · subst hxq
          have HN := Lib.hid (hn'.trans (wordMis_step hx))
          clear hn hn' hx hrow
          go_wp2
          go_roundw
          case rel => exact ⟨pos + 1, rfl, hlt, Lib.hid (by rw [HN.out]; rfl)⟩
          case measure => simp; omega
        · have hne : ((x.toNat : Int) != (c.toNat : Int)) = true := by
            have : x.toNat ≠ c.toNat := fun e => hxq (UInt8.toNat_inj.1 e)
            simp; omega
          have HN := Lib.hid (hn'.trans (wordMis_stop (by rw [hx]; simpa using hxq)))
          clear hn hn' hx hrow hxq
          go_wp2_with (go_at_call 32; refine (pFails_any w _ g _ cap l p many 0 ((p : Int) + (pos : Int)) 7 ov zI zI zS zN zN (H1.out (pos + 1)).pb).mono ?_; rintro e W2 ⟨rfl, hp2, hg2⟩)
          go_ret
          unfold wordP
          rw [HN.out]
          exact ⟨rfl, ov, many, _, _, _, _, _, by simpa using hp2⟩
      · have hx : l[p + pos]? = none := List.getElem?_eq_none (by omega)
        have HN := Lib.hid (hn'.trans (wordMis_stop (by rw [hx]; simp)))
        have hge : (l.length : Int) ≤ (p : Int) + (pos : Int) := by omega
        clear hn hn' hx
        go_wp2_with (go_at_call 32; refine (pFails_any w _ g _ cap l p many 0 ((p : Int) + (pos : Int)) 7 ov zI zI zS zN zN (H1.out (pos + 1)).pb).mono ?_; rintro e W2 ⟨rfl, hp2, hg2⟩)
        go_ret
        unfold wordP
        rw [HN.out]
        exact ⟨rfl, ov, many, _, _, _, _, _, by simpa using hp2⟩
    · obtain rfl : pos = s.size := by omega
      have hnext := fun ty => run_next_end (P := Tryz.prog) W1 s s.size ty hlt
      rw [HZ1.out] at hnext
      have hnm := hn.out
      rw [List.drop_eq_nil_of_le (by rw [sl_len]; exact Nat.le_refl _), wordMis] at hnm
      have HN := Lib.hid hnm
      obtain ⟨q, hq⟩ : ∃ q : Nat, p + s.size = q := ⟨_, rfl⟩
      have hadd : IntKind.i64.wrap ((p : Int) + (s.size : Int)) = (q : Int) := by rw [IntWalk.i64_in _ (by omega)]; omega
      have hadd2 : (p : Int) + (s.size : Int) = (q : Int) := by omega
      have hbx2 : Blk (W1.iter s s.size) W.heap.size 25 #[.int .i64 k0, .int .i64 n0, .string s0, .slice A0 na0 ca0, .slice B0 nb0 cb0] := HBX.out.keep (bel_iter2 W1 s s.size)
      have hpg : PGo w ((W1.iter s s.size).setCell ⟨g, 0, none⟩ (.int .i64 q)) g A cap l q many ov E stk := (H1.out s.size).grown ((H1.out s.size).pb.set0 q) (gb_setCell (gb_refl _ _) _ _)
      have hvr : VR ((W1.iter s s.size).setCell ⟨g, 0, none⟩ (.int .i64 q)) (FO w.heap.size g ov) [.int .i64 k0, .int .i64 n0, .string s0, .slice A0 na0 ca0, .slice B0 nb0 cb0] v :=
        HC.out.keep (((KeepF.of_below HB1.out).bel (bel_iter2 W1 s s.size)).set (fun b hb => hb.2.1) _ _)
      have hgne : W.heap.size ≠ g := by omega
      obtain ⟨bc, bf, bl⟩ := hbx2.rules
      have HPUT := Lib.hid (pPut_any w _ g A cap l q many m ov E stk _ v hpg hvr HS.out hm)
      have HQ := Lib.hid hq
      clear hn hnm hbx2 hpg hvr hq
      obtain ⟨hcc, hf, hgi⟩ := (H1.out s.size).pb.blk.rules
      unfold pCells at hcc
      go_wp2_with (go_at_call 106; refine HPUT.out.mono ?_; rintro e W2 ⟨rfl, hps⟩)
      go_ret
      unfold wordP
      rw [HN.out]
      simp only [sl_len]
      rw [HQ.out]
      exact ⟨rfl, hps⟩
end Go.Proofs.YtoejdhabpajhlaaGreatDoor

/- The walks of package parse: close, colon, first, firstKey, more. -/
namespace Go.Proofs.YtoejdhabpajhlaaGreatDoor
set_option linter.unusedVariables false
set_option linter.unusedSimpArgs false
open Go.RowKit
attribute [local go_sem] run_index_arr run_part_agg run_part_one run_field_agg

/-- what is open, less the last one -/
theorem own_pop {W : World} {B ob d capo : Nat} {E : List (List Value × List UInt8)} {ce : List Value} {key : List UInt8} (h : W.ownsRow B 139 6 (.slice (some ⟨ob, 0, none⟩) (d + 1) capo) (d + 1) (opC (((ce, key) :: E).reverse)))
    (hE : E.length = d) (h5 : ∀ e ∈ E, e.1.length = 5) : W.ownsRow B 139 6 (.slice (some ⟨ob, 0, none⟩) d capo) d (opC E.reverse) := by
  have hl : (opC E.reverse).length = d * 6 := by rw [opC_len (fun e he => h5 e (List.mem_reverse.1 he)), List.length_reverse, hE]
  refine ⟨hl, .inr ?_⟩
  rcases h.2 with ⟨h', _⟩ | ⟨g', cap', cur, h', hb, hg, hnc, hcm, hcs, htake⟩
  · cases h'
  · obtain ⟨rfl, rfl⟩ : ob = g' ∧ capo = cap' := by simpa using h'
    refine ⟨ob, capo, cur, rfl, hb, hg, by omega, hcm, hcs, ?_⟩
    have h1 := congrArg (List.take (d * 6)) htake
    rw [List.take_take, Nat.min_eq_left (by omega)] at h1
    rw [h1, List.reverse_cons, opC_app, List.take_append, List.take_of_length_le (by omega), hl, Nat.sub_self, List.take_zero, List.append_nil]
set_option maxRecDepth 100000 in
set_option maxHeartbeats 4000000 in
theorem pClose_any (w W : World) (g : Nat) (A : Option Addr) (cap : Nat) (l : List UInt8) (p many m : Nat) (ov : Value) (E : List (List Value × List UInt8)) (v : JV) (key : List UInt8) (r : JStk)
    (h : PGo w W g A cap l p many ov E ((v, key) :: r)) (hs : stkOk m ((v, key) :: r)) (hm : m ≤ 256) (hp : p ≤ 4194304) :
    Calls Tryz.prog 109 #[.pointer (some ⟨g, 0, none⟩)] W (PPost w g A cap l (pClose l p many ((v, key) :: r))) := by
  match E, h with
  | [], h => exact h.est.elim
  | (ce, key') :: Er, h =>
    obtain rfl : key' = key := h.est.2.1
    have hown := h.own
    obtain ⟨ob, capo, rfl, hob, hobl⟩ := hown.form (by simp)
    have hcapo := ownCap hown
    obtain ⟨hE1, hE5⟩ := ESt.len h.est.2.2
    obtain ⟨k0, n0, s0, A0, na0, ca0, B0, nb0, cb0, rfl⟩ := h.est.1.form
    have hgne : g ≠ ob := fun e => h.gne (by rw [e]; rfl)
    have hgl : g < W.heap.size := h.pb.blk.lt
    obtain ⟨d, hdd⟩ : ∃ d, r.length = d := ⟨_, rfl⟩
    obtain ⟨hcc, hf, _⟩ := h.pb.blk.rules
    unfold pCells at hcc
    simp only [List.length_cons, hdd] at hown hcapo h hcc
    rw [hdd] at hE1
    have hd8 : d + 1 ≤ 8 := by have := hs.1; simp only [List.length_cons, hdd] at this; exact this
    have hcell := own_cells hown hE1 hE5
    have q0 := hcell 0 (by omega)
    have q1 := hcell 1 (by omega)
    have q2 := hcell 2 (by omega)
    have q3 := hcell 3 (by omega)
    have q4 := hcell 4 (by omega)
    simp only [List.cons_append, List.nil_append, List.getElem?_cons_zero, List.getElem?_cons_succ, Nat.add_zero] at q0 q1 q2 q3 q4
    have hsr : stkOk m r := ⟨by have := hs.1; simp at this; omega, fun x hx => hs.2 x (List.mem_cons_of_mem _ hx)⟩
    have hdc : d ≤ capo := by omega
    have hadd : IntKind.i64.wrap ((p : Int) + 1) = (p : Int) + 1 := by rw [IntWalk.i64_in _ (by omega)]
    have HH := Lib.hid h
    have HO := Lib.hid (own_pop hown hE1 hE5)
    have HD := Lib.hid hdd
    have HSR := Lib.hid hsr
    clear h hown hcapo hE1 hE5 hdd hs hcell hsr
    go_enter Tryz.func109, Tryz.ntmps109
    go_wp2_with fail
    have hgb : W.grownBy ((W.setCell ⟨g, 3, none⟩ (.slice (some ⟨ob, 0, none⟩) d capo)).setCell ⟨g, 0, none⟩ (.int .i64 ((p : Int) + 1))) (some g) := gb_setCell (gb_setCell (gb_refl _ _) _ _) _ _
    have hpb := (HH.out.pb.set3 (.slice (some ⟨ob, 0, none⟩) d capo)).set0 ((p : Int) + 1)
    have hkf : KeepF (FO w.heap.size g (.slice (some ⟨ob, 0, none⟩) (d + 1) capo)) W ((W.setCell ⟨g, 3, none⟩ (.slice (some ⟨ob, 0, none⟩) d capo)).setCell ⟨g, 0, none⟩ (.int .i64 ((p : Int) + 1))) := KeepF.of_grown hgb (fun b hf e => hf.2.1 (by simpa using e))
    have hown2 := HO.out.kept hgb (.inr (fun e => hgne (by simpa [Value.ownBlock] using e.symm)))
    rw [← HD.out] at hown2
    have hpg : PGo w ((W.setCell ⟨g, 3, none⟩ (.slice (some ⟨ob, 0, none⟩) d capo)).setCell ⟨g, 0, none⟩ (.int .i64 ((p : Int) + 1))) g A cap l (p + 1) many (.slice (some ⟨ob, 0, none⟩) d capo) Er r :=
      ⟨hpb, by rw [HD.out] at hown2 ⊢; exact hown2, (HH.out.est.2.2.keep hkf).mono (fun b _ h => h)⟩
    have hvr : VR _ (FO w.heap.size g (.slice (some ⟨ob, 0, none⟩) d capo)) _ v := (HH.out.est.1.keep hkf).mono (fun b _ h => h)
    have hal := (Below.refl _ ((W.setCell ⟨g, 3, none⟩ (.slice (some ⟨ob, 0, none⟩) d capo)).setCell ⟨g, 0, none⟩ (.int .i64 ((p : Int) + 1)))).alloc (Nat.le_refl _) (.cells #[.int .i64 k0, .int .i64 n0, .string s0, .slice A0 na0 ca0, .slice B0 nb0 cb0] 25)
    refine (pPut_any w _ g A cap l (p + 1) many m _ Er r _ v (hpg.keep hal) (hvr.bel hal) HSR.out hm).mono ?_
    rintro e W2 ⟨rfl, hps⟩
    go_wp2
    go_ret
    exact ⟨rfl, hps⟩
set_option maxRecDepth 100000 in
set_option maxHeartbeats 4000000 in
theorem pColon_any (w W : World) (g : Nat) (A : Option Addr) (cap : Nat) (l : List UInt8) (p many : Nat) (ov : Value) (E : List (List Value × List UInt8)) (stk : JStk)
    (h : PGo w W g A cap l p many ov E stk) (hp : p ≤ l.length) (hcap : l.length ≤ cap) (hlen : l.length ≤ 4194304) :
    Calls Tryz.prog 86 #[.pointer (some ⟨g, 0, none⟩)] W (PPost w g A cap l (pColon l p many stk)) := by
  have hnx := pNext_any w W g A cap l p many 0 ov zI zI zS zN zN h.pb hp hcap hlen
  have hsk := skipB_le hp
  obtain ⟨q, hq⟩ : ∃ q, skipB l p = q := ⟨_, rfl⟩
  have hspec : pColon l p many stk = if l[q]? = some 58 then .go 0 (q + 1) many stk else pFail l q 7 := by unfold pColon; rw [hq]
  rw [hq] at hnx hsk
  have HNX := Lib.hid hnx
  have HSP := Lib.hid hspec
  have HH := Lib.hid h
  have hadd : IntKind.i64.wrap ((q : Int) + 1) = (q : Int) + 1 := by rw [IntWalk.i64_in _ (by omega)]
  clear hnx hspec hq h
  by_cases h58 : l[q]? = some 58
  · have hb : byteAt l q = 58 := by rw [byteAt, h58]; rfl
    rw [if_pos h58] at HSP
    rw [hb] at HNX
    clear h58 hb
    go_enter Tryz.func86, Tryz.ntmps86
    go_wp2_with (go_at_call 31; refine HNX.out.mono ?_; rintro e W1 ⟨rfl, hb1, hg1⟩; obtain ⟨hcc, hf, hlt⟩ := hb1.blk.rules; unfold pCells at hcc)
    go_ret
    rw [HSP.out]
    exact ⟨rfl, ov, E, (HH.out.grown hb1 hg1).grown (hb1.set0 _) (gb_setCell (gb_refl _ _) _ _)⟩
  · have hb : (byteAt l q != 58) = true := by
      unfold byteAt
      cases hx : l[q]? with
      | none => simp
      | some c =>
        have : c ≠ 58 := fun e => h58 (by rw [hx, e])
        have : c.toNat ≠ 58 := fun e => this (UInt8.toNat_inj.1 (by simpa using e))
        simp; omega
    rw [if_neg h58] at HSP
    obtain ⟨bb, hbb⟩ : ∃ bb, byteAt l q = bb := ⟨_, rfl⟩
    rw [hbb] at HNX hb
    clear h58 hbb
    go_enter Tryz.func86, Tryz.ntmps86
    go_wp2_with (first | (go_at_call 31; refine HNX.out.mono ?_; rintro e W1 ⟨rfl, hb1, hg1⟩; obtain ⟨hcc, hf, hlt⟩ := hb1.blk.rules; unfold pCells at hcc) | (go_at_call 32; refine (pFails_any w _ g _ cap l q many 0 q 7 ov zI zI zS zN zN hb1).mono ?_; rintro e W2 ⟨rfl, hp2, hg2⟩))
    go_ret
    rw [HSP.out]
    exact ⟨rfl, ov, many, _, _, _, _, _, hp2⟩
end Go.Proofs.YtoejdhabpajhlaaGreatDoor
