import Derived.Test.YtalhoacancbldaaDoorParse16
import Derived.Lib.SlBytesConst
/- The walks of davenportlaw05: few, slices.Clone, slices.Equal over texts. -/
namespace Go.Proofs.YtalhoacancbldaaDoor
set_option linter.unusedVariables false
set_option linter.unusedSimpArgs false
open Go.RowKit
attribute [local go_sem] run_index_arr run_part_agg run_part_one run_field_agg

theorem infoByte5 : (Tryd.prog.info? 5).map (fun i => (i.zero, i.size, i.bytes)) = some (some (.int .u8 0), 1, 1) := by kernel_rfl
def RetB5 (l : List UInt8) (W : World) (e : Ending) (W' : World) : Prop := ∃ v, e = .returned v ∧ BS W' v l ∧ Below W.heap.size W W'
set_option maxRecDepth 100000 in
set_option maxHeartbeats 2000000 in
theorem byteClone_any (A : Option Addr) (n cap : Nat) (l : List UInt8) (w : World) (hn : l.length = n) (hc : n ≤ cap) (hr : Rd w A (byteV l)) (hl : l.length ≤ 1048576) :
    Calls Tryd.prog 50 #[.slice A n cap] w (RetB5 l w) := by
  subst hn
  obtain ⟨i0, hi, hz0, hz1, hz2⟩ := info_parts infoByte5
  have hnil := fun (A : Option Addr) (n c : Nat) (w : World) => Lib.run_eql_slice_nil (P := Tryd.prog) (w := w) 36 5 A n c 0 0 Tryd.underlying36
  rcases A with _ | ad
  · have hts : l = [] := by
      cases l with
      | nil => rfl
      | cons x r =>
        obtain ⟨b, o, e, _⟩ := hr (by simp [byteV])
        cases e
    subst hts
    go_enter Tryd.func50, Tryd.ntmps50
    go_wp2
    go_ret
    exact ⟨_, rfl, BS.nil, Below.refl _ _⟩
  · go_enter Tryd.func50, Tryd.ntmps50
    go_wp2_with (at_builtin; refine wpList_append_rd _ rfl _ _ 36 rfl w.heap.size 5 i0 _ 1 1 Tryd.underlying36 hi hz0 hz1 hz2 rfl (by decide) _ 0 [] rfl (World.ownsRow_made w #[] 0 (Nat.le_refl _) (by decide) rfl) (some ad) l.length cap (by intro h; cases h) (byteV l) rfl (by rw [byteV_len, Nat.mul_one]) (hr.alloc _) (byteV_one l) (by unfold maxLen; omega) (by omega) (by simp) ?_; intro v' w1 hown hgr _)
    go_ret
    rw [Nat.zero_add, List.nil_append] at hown
    exact ⟨_, rfl, BS.of_own hown, ((Below.refl _ w).alloc (Nat.le_refl _) _).grown hgr (by simp) (fun k e => by cases e; exact Nat.le_refl _)⟩
set_option maxRecDepth 100000 in
set_option maxHeartbeats 2000000 in
theorem few5_any (v : Value) (l : List UInt8) (w : World) (hv : BS w v l) (hl : l.length ≤ 9223372036854775807) :
    Calls Tryd.prog 26 #[v] w (RetB5 (l.take 2049) w) := by
  obtain ⟨A, cap, rfl, hc, hr⟩ := hv
  have hr2 : Rd w A (byteV (l.take 2049)) := by have h := hr.take 2049; simpa [byteV] using h
  by_cases h : l.length ≤ 2049
  · have hm : l.take 2049 = l := List.take_of_length_le h
    rw [hm]
    have HC := Lib.hid (byteClone_any A l.length cap l w rfl hc hr (by omega))
    have hmi : min (l.length : Int) 2049 = (l.length : Int) := by omega
    go_enter Tryd.func26, Tryd.ntmps26
    go_wp2_with (go_at_call 50; refine HC.out.mono ?_; rintro e w1 ⟨v1, rfl, h1, h2⟩)
    go_ret
    exact ⟨_, rfl, h1, h2⟩
  · have HC := Lib.hid (byteClone_any A 2049 cap (l.take 2049) w (by rw [List.length_take]; omega) (by omega) hr2 (by rw [List.length_take]; omega))
    have hmi : min (l.length : Int) 2049 = 2049 := by omega
    have hcp : 2049 ≤ cap := by omega
    have hcp' : ¬ (cap : Int) < 2049 := by omega
    go_enter Tryd.func26, Tryd.ntmps26
    go_wp2_with (go_at_call 50; refine HC.out.mono ?_; rintro e w1 ⟨v1, rfl, h1, h2⟩)
    go_ret
    exact ⟨_, rfl, h1, h2⟩
end Go.Proofs.YtalhoacancbldaaDoor

/- The walk of davenportlaw05.wakes. -/
namespace Go.Proofs.YtalhoacancbldaaDoor
set_option linter.unusedVariables false
set_option linter.unusedSimpArgs false
open Go.RowKit
attribute [local go_sem] run_index_arr run_part_agg run_part_one run_field_agg

set_option maxRecDepth 100000 in
set_option maxHeartbeats 4000000 in
/-- slices.Equal over texts -/
theorem strEqual_any (A1 A2 : Option Addr) (n1 n2 c1 c2 : Nat) (k1 k2 : List (List UInt8)) (w : World) (hn1 : k1.length = n1) (hn2 : k2.length = n2) (h1 : Rd w A1 (strV k1)) (h2 : Rd w A2 (strV k2)) (hc1 : n1 ≤ c1) (hc2 : n2 ≤ c2) (hl1 : n1 ≤ 1048576) (hl2 : n2 ≤ 1048576) :
    Calls Tryd.prog 49 #[.slice A1 n1 c1, .slice A2 n2 c2] w fun e w' => e = .returned (.bool (decide (k1 = k2))) ∧ ∃ q, w.drewN q = w' := by
  by_cases hlen : n1 = n2
  · subst hlen
    have HN1 := Lib.hid hn1
    have HN2 := Lib.hid hn2
    clear hn1 hn2
    go_enter Tryd.func49, Tryd.ntmps49
    go_wp2
    go_loopg [13] n1 (fun gk i wr => ∃ k q : Nat, k ≤ n1 ∧ gk = n1 - k ∧ i = .int .i64 k ∧ wr = w.drewN q ∧ Hid (k1.take k = k2.take k))
    case atStart => exact ⟨0, 0, Nat.zero_le _, rfl, rfl, rfl, Lib.hid rfl⟩
    case round =>
      obtain ⟨k, q, hk, hgk, rfl, rfl, HE⟩ := hrel
      have HG := Lib.hid hgk
      clear hgk
      by_cases hlt : k < n1
      · obtain ⟨a, ha⟩ : ∃ x, k1[k]? = some x := ⟨_, List.getElem?_eq_getElem (by rw [HN1.out]; exact hlt)⟩
        obtain ⟨b, hb⟩ : ∃ x, k2[k]? = some x := ⟨_, List.getElem?_eq_getElem (by rw [HN2.out]; exact hlt)⟩
        have key : ∀ (A : Option Addr) (ks : List (List UInt8)) (x : List UInt8), Rd w A (strV ks) → ks[k]? = some x → ∃ b o, A = some ⟨b, o, none⟩ ∧ w.cell? ⟨b, o + k, none⟩ = some (.string ⟨x.toArray⟩) := fun A ks x hr hx => by
          have hkl := (List.getElem?_eq_some_iff.1 hx)
          obtain ⟨b, o, rfl, _, hc⟩ := hr (by intro e; have h := strV_len ks; rw [e] at h; have := hkl.1; simp at h; omega)
          refine ⟨b, o, rfl, ?_⟩
          rw [hc k (by rw [strV_len]; exact hkl.1)]
          simp [strV, hkl.2]
        obtain ⟨b1, o1, rfl, x1⟩ := key A1 k1 a h1 ha
        obtain ⟨b2, o2, rfl, x2⟩ := key A2 k2 b h2 hb
        have HA := Lib.hid ha
        have HB := Lib.hid hb
        clear ha hb key
        by_cases hab : a = b
        · subst hab
          go_wp2
          go_quiet (fail)
          go_wp2
          go_roundg (n1 - (k + 1))
          case measure => rw [HG.out]; omega
          case rel => exact ⟨k + 1, q + nq, hlt, rfl, by go_num, rfl, Lib.hid (by rw [List.take_add_one, List.take_add_one, HE.out, HA.out, HB.out])⟩
        · have hbe : (a == b) = false := by simpa using hab
          have hbe2 : (a != b) = true := by simpa using hab
          have HF := Lib.hid (show k1 ≠ k2 from fun e => hab (by have h := HA.out; rw [e, HB.out] at h; injection h with h; exact h.symm))
          clear hab
          go_wp2
          go_quiet (fail)
          go_wp2
          go_ret
          exact ⟨ret_bool (by rw [decide_eq_false HF.out]), q + nq, (World.drewN_drewN _ _ _).symm⟩
      · obtain rfl : k = n1 := by omega
        go_wp2
        go_ret
        refine ⟨ret_bool ?_, q, rfl⟩
        have h := HE.out
        rw [List.take_of_length_le (by rw [HN1.out]; exact Nat.le_refl _), List.take_of_length_le (by rw [HN2.out]; exact Nat.le_refl _)] at h
        simp [h]
  · have hne : ((n1 : Int) != (n2 : Int)) = true := by simp; omega
    have HF := Lib.hid (show k1 ≠ k2 from fun e => hlen (by rw [← hn1, ← hn2, e]))
    clear hlen
    go_enter Tryd.func49, Tryd.ntmps49
    go_wp2
    go_ret
    exact ⟨ret_bool (by rw [decide_eq_false HF.out]), 0, rfl⟩
end Go.Proofs.YtalhoacancbldaaDoor

/- The walk of davenportlaw05.wakes. -/
namespace Go.Proofs.YtalhoacancbldaaDoor
set_option linter.unusedVariables false
set_option linter.unusedSimpArgs false
open Go.RowKit
attribute [local go_sem] run_index_arr run_part_agg run_part_one run_field_agg

/-- a kid's cells, by the address of its row -/
theorem VRs.cell {W : World} {F : Nat → Prop} {css : List (List Value)} {xs : List JV} {A : Option Addr} (h : VRs W F css xs) (hr : RdF W F A css.flatten) {i : Nat} {x : JV} (hx : xs[i]? = some x) :
    ∃ b o c, A = some ⟨b, o, none⟩ ∧ b < W.heap.size ∧ F b ∧ VR W F c x ∧ ∀ (j : Nat) (u : Value), j < 5 → c[j]? = some u → W.cell? ⟨b, o + (i * 5 + j), none⟩ = some u := by
  obtain ⟨c, hc, hv⟩ := h.get_ hx
  have hl : css.flatten ≠ [] := by
    have h3 := flat5_len h.five
    have h4 := (List.getElem?_eq_some_iff.1 hc).1
    intro e
    rw [e] at h3
    simp at h3
    omega
  obtain ⟨b, o, rfl, hb, hf, hx⟩ := hr hl
  refine ⟨b, o, c, rfl, hb, hf, hv, fun j u hj hu => ?_⟩
  have h1 := flat5_get h.five hc hj
  rw [hu] at h1
  obtain ⟨hlt, e⟩ := List.getElem?_eq_some_iff.1 h1
  rw [hx _ hlt, e]
theorem BS.litF (w : World) (l : List UInt8) (cs : Array Value) (fr : Nat × Nat) (h : cs = (byteV l).toArray) (n : Nat) (hn : n = l.length) : BS (w.alloc (.cells cs 5 fr)) (.slice (some ⟨w.heap.size, 0, none⟩) n n) l := by
  subst h hn
  have hb : (w.alloc (.cells (byteV l).toArray 5 fr)).heap[w.heap.size]? = some (.cells (byteV l).toArray 5 fr) := heap_alloc_new w _
  refine ⟨_, _, rfl, Nat.le_refl _, fun _ => ⟨_, _, rfl, (Array.getElem?_eq_some_iff.1 hb).1, fun i hi => ?_⟩⟩
  unfold World.cell?
  simp only
  rw [hb]
  simp [hi]
theorem BS.litN (w : World) (l : List UInt8) (cs : Array Value) (fr : Nat × Nat) (h : cs = (byteV l).toArray) (n : Nat) (hn : n = l.length) (N : Nat) (hN : w.heap.size = N) : BS (w.alloc (.cells cs 5 fr)) (.slice (some ⟨N, 0, none⟩) n n) l := by
  subst hN; exact BS.litF w l cs fr h n hn
/-- a step further -/
theorem wkStep {w a b : World} {o1 o2 : Obj} (h : Below w.heap.size w a) (hb : Below ((a.alloc o1).alloc o2).heap.size ((a.alloc o1).alloc o2) b) : Below w.heap.size w b := by
  have h1 := (h.alloc h.size o1).alloc (by have := h.size; simp; omega) o2
  exact h1.trans (hb.mono h1.size)
set_option maxRecDepth 100000 in
set_option maxHeartbeats 4000000 in
theorem wakes5_any (w : World) (hG : GOK w) : Calls Tryd.prog 25 #[] w fun e w' => e = .returned (.bool true) ∧ Below w.heap.size w w' := by
  have HG := Lib.hid hG
  clear hG
  have hcv := fun (w : World) (C : Array Value) (n c : Nat) => Lib.run_convert_bytes_const (P := Tryd.prog) w 36 5 C n c Tryd.underlying36 Tryd.underlying5
  have hcv1 := fun (w : World) (o : Obj) (C : Array Value) (n c : Nat) => Lib.run_convert_bytes_const (P := Tryd.prog) (w.alloc o) 36 5 C n c Tryd.underlying36 Tryd.underlying5
  simp only [World.size_alloc] at hcv1
  go_enter Tryd.func25, Tryd.ntmps25
  go_wp2_with fail
  refine (parseParse_any _ wk1 _ (HG.out.alloc _) (BS.litF w wk1 _ _ (by rfl) 27 rfl) (by decide)).mono ?_
  rintro e w1 ⟨o, ho, cs, rfl, hvr, hb1⟩
  obtain rfl := wk1_out ho
  have hB1 : Below w.heap.size w w1 := ((Below.refl _ w).alloc (Nat.le_refl _) _).trans (hb1.mono (by simp))
  obtain ⟨A1, B1, ca, cb, css, rfl, hvs, _, _, _, _, hr1, _⟩ := VR.out hvr
  obtain ⟨b1, o1, c0, rfl, hl1, hF1, hk0, hc0⟩ := hvs.cell hr1 (i := 0) rfl
  obtain ⟨_, _, _, _, _, rfl, _⟩ := hk0.out
  obtain ⟨b1', o1', c1, e1, _, _, hk1, hc1⟩ := hvs.cell hr1 (i := 1) rfl
  obtain ⟨rfl, rfl⟩ : b1 = b1' ∧ o1 = o1' := by simpa using e1
  obtain ⟨A2, B2, ca2, cb2, css2, rfl, hvs2, hca2, hcb2, _, _, hr2, hkr2⟩ := hk1.out
  obtain ⟨b2, o2, c2, rfl, hl2, hF2, hk2, hc2⟩ := hvs2.cell hr2 (i := 0) rfl
  obtain ⟨_, _, _, _, _, rfl, _⟩ := hk2.out
  have f1 := hc0 1 _ (by omega) rfl
  have f3 := hc1 3 _ (by omega) rfl
  have f4 := hc1 4 _ (by omega) rfl
  have f2 := hc2 2 _ (by omega) rfl
  simp only [Nat.zero_mul, Nat.one_mul, Nat.zero_add, Nat.add_zero, List.length_cons, List.length_nil, Nat.reduceAdd] at f1 f3 f4 f2
  have HK := Lib.hid hkr2
  have HB := Lib.hid hB1
  clear hc0 hc1 hc2 hr1 hr2 hvs hvs2 hvr hb1 hkr2 hk1 hB1 ho e1
  simp only
  go_wp2_with fail
  have hB2 : Below w.heap.size w w1 := HB.out
  refine (strEqual_any B2 (some ⟨w1.heap.size + 1, 0, none⟩) 2 2 cb2 2 [[97], [98]] [[97], [98]] _ rfl rfl ((HK.out.rd.alloc _).alloc _) ?h1 hcb2 (by decide) (by decide) (by decide)).mono ?_
  case h1 =>
    have h := Rd.of_blk (Blk.new (w1.alloc (.cells #[.int .i64 5, .int .i64 0, .string ⟨#[]⟩, .slice (some ⟨b1, o1, none⟩) 2 ca, .slice B1 0 cb] 40)) 9 #[.string ⟨#[97]⟩, .string ⟨#[98]⟩])
    simpa [strV] using h
  rintro e w2 ⟨rfl, hq2⟩
  have hB3 : Below w.heap.size w w2 := by
    obtain ⟨q, hq⟩ := hq2
    rw [← hq]
    exact bel_drewN ((hB2.alloc hB2.size _).alloc (by have := hB2.size; simp; omega) _) q
  have HB3 := Lib.hid hB3
  have hB12 : Below w1.heap.size w1 w2 := by
    obtain ⟨q, hq⟩ := hq2
    rw [← hq]
    exact bel_drewN (((Below.refl _ w1).alloc (Nat.le_refl _) _).alloc (by simp) _) q
  have hbox : Blk w2 w1.heap.size 40 #[.int .i64 5, .int .i64 0, .string ⟨#[]⟩, .slice (some ⟨b1, o1, none⟩) 2 ca, .slice B1 0 cb] := by
    obtain ⟨q, hq⟩ := hq2
    rw [← hq]
    exact ((Blk.new w1 _ _).alloc _).drewN q
  have p3 := ((bcell hB12).1 b1 _ hl1).trans f3
  have p2 := ((bcell hB12).1 b2 _ hl2).trans f2
  obtain ⟨xc, xf, xl⟩ := hbox.rules
  clear hq2 hB2 hB3 f1 f2 f3 f4 hB12 hbox
  go_wp2_with fail
  have hg2 := HG.out.keep HB3.out
  refine (parseParse_any _ wk2 _ (GOK.keep hg2 ((Below.refl _ w2).alloc (Nat.le_refl _) _)) (BS.litF w2 wk2 _ _ (by rfl) 3 rfl) (by decide)).mono ?_
  rintro e w3 ⟨o, ho, cs, rfl, hvr, hb3⟩
  obtain rfl := wk2_out ho
  obtain ⟨_, _, _, _, _, rfl, _⟩ := hvr.out
  have hB4 := HB3.out.trans ((((Below.refl _ w2).alloc (Nat.le_refl _) _).trans (hb3.mono (by simp))).mono HB3.out.size)
  have HB4 := Lib.hid hB4
  clear hB4 hb3 hvr ho hg2
  simp only
  go_wp2_with fail
  have hg3 := HG.out.keep HB4.out
  refine (parseParse_any _ wk3 _ (GOK.keep hg3 (((Below.refl _ w3).alloc (Nat.le_refl _) _).alloc (by simp) _)) (BS.litN (w3.alloc _) wk3 _ _ (by rfl) 13 rfl _ (by simp)) (by decide)).mono ?_
  rintro e w4 ⟨o, ho, cs, rfl, hvr, hb4⟩
  obtain rfl := wk3_out ho
  obtain ⟨_, _, _, _, _, rfl, _⟩ := hvr.out
  have HB5 := Lib.hid (wkStep HB4.out hb4)
  clear hb4 hvr ho hg3
  simp only
  go_wp2_with fail
  have hg4 := HG.out.keep HB5.out
  refine (parseParse_any _ wk4 _ (GOK.keep hg4 (((Below.refl _ w4).alloc (Nat.le_refl _) _).alloc (by simp) _)) (BS.litN (w4.alloc _) wk4 _ _ (by rfl) 9 rfl _ (by simp)) (by decide)).mono ?_
  rintro e w5 ⟨o, ho, cs, rfl, hvr, hb5⟩
  obtain rfl := wk4_out ho
  obtain ⟨_, _, _, _, _, rfl, _⟩ := hvr.out
  have HB6 := Lib.hid (wkStep HB5.out hb5)
  clear hb5 hvr ho hg4
  simp only
  go_wp2_with fail
  have hg5 := HG.out.keep HB6.out
  refine (parseParse_any _ wk5 _ (GOK.keep hg5 (((Below.refl _ w5).alloc (Nat.le_refl _) _).alloc (by simp) _)) (BS.litN (w5.alloc _) wk5 _ _ (by rfl) 4 rfl _ (by simp)) (by decide)).mono ?_
  rintro e w6 ⟨o, ho, cs, rfl, hvr, hb6⟩
  obtain rfl := wk5_out ho
  obtain ⟨_, _, _, _, _, rfl, _⟩ := hvr.out
  have HB7 := Lib.hid (wkStep HB6.out hb6)
  clear hb6 hvr ho hg5
  simp only
  go_wp2_with fail
  have hg6 := HG.out.keep HB7.out
  refine (parseValue_any _ wk6 1 _ (by decide) (GOK.keep hg6 (((Below.refl _ w6).alloc (Nat.le_refl _) _).alloc (by simp) _)) (BS.litN (w6.alloc _) wk6 _ _ (by rfl) 5 rfl _ (by simp)) (by decide)).mono ?_
  rintro e w7 ⟨o, ho, cs, rfl, hvr, hb7⟩
  obtain rfl := wk6_out ho
  obtain ⟨_, _, _, _, _, rfl, _⟩ := hvr.out
  have HB8 := Lib.hid (wkStep HB7.out hb7)
  clear hb7 hvr ho hg6
  simp only
  go_wp2
  go_ret
  exact ⟨rfl, (HB8.out.alloc HB8.out.size _)⟩
end Go.Proofs.YtalhoacancbldaaDoor
