import Derived.Test.YtoejdhabpajhlaaDoorColG
import Derived.ArgAppend
import Derived.Test.YtoejdhabpajhlaaDoorColL
import Derived.Test.YtoejdhabpajhlaaDoorParse1
import Derived.Deep.RegionLawGrows
/- The walk of collate.Place: how many of some are ahead of a value, and not behind it. -/
namespace Go.Proofs.YtoejdhabpajhlaaDoor
set_option linter.unusedVariables false
set_option linter.unusedSimpArgs false
open Go.RowKit
attribute [local go_sem] run_index_arr run_part_agg run_part_one run_field_agg

open Classical in
/-- what Place's closure tells -/
noncomputable def placeI (l : List JV) (v : JV) : Int × Int × Int := if NextJ l then (aheadJ l v, notJ l v, 0) else (0, 0, 2)
open Classical in
/-- what Place tells -/
noncomputable def placeO (l : List JV) (v : JV) : Int × Int × Int := if ∀ x ∈ l ++ [v], gd x then placeI l v else (0, 0, 140)
def PBk (w : World) (p q : Int) (W : World) : Prop := Blk W w.heap.size 84 #[.int .i64 0, .int .i64 0] ∧ Blk W (w.heap.size + 1) 84 #[.int .i64 p, .int .i64 q] ∧ Below w.heap.size w W
section
variable {w W W' : World} {p q : Int}
theorem PBk.keep (h : PBk w p q W) (hb : Below W.heap.size W W') : PBk w p q W' := ⟨h.1.keep hb, h.2.1.keep hb, h.2.2.trans (hb.mono h.2.2.size)⟩
theorem PBk.setP (h : PBk w p q W) (r : Int) : PBk w r q (W.setCell ⟨w.heap.size + 1, 0, none⟩ (.int .i64 r)) :=
  ⟨h.1.far (by show w.heap.size ≠ w.heap.size + 1; omega) _, h.2.1.set_ 0 _, h.2.2.setCell (p := ⟨w.heap.size + 1, 0, none⟩) (by simp) _⟩
theorem PBk.setQ (h : PBk w p q W) (r : Int) : PBk w p r (W.setCell ⟨w.heap.size + 1, 1, none⟩ (.int .i64 r)) :=
  ⟨h.1.far (by show w.heap.size ≠ w.heap.size + 1; omega) _, h.2.1.set_ 1 _, h.2.2.setCell (p := ⟨w.heap.size + 1, 1, none⟩) (by simp) _⟩
end
theorem count_succ {l : List JV} {i : Nat} {x : JV} (hx : l[i]? = some x) (v : JV) : aheadJ (l.take (i + 1)) v = aheadJ (l.take i) v + (if cmpJ x v < 0 then 1 else 0) ∧ notJ (l.take (i + 1)) v = notJ (l.take i) v + (if cmpJ x v ≤ 0 then 1 else 0) := by
  unfold aheadJ notJ
  rw [List.take_add_one, hx, List.countP_append, List.countP_append]
  constructor <;> simp [List.countP_cons]
set_option maxRecDepth 100000 in
set_option maxHeartbeats 4000000 in
theorem cPlace1 (l : List JV) (v : JV) (A : Option Addr) (nk ca gl gv : Nat) (cv : List Value) (w : World) (hr : RowV w A ca l) (hnk : l.length = nk) (hlen : nk ≤ 4194304) (hg : ∀ x ∈ l, gd x) (hc : ∀ x ∈ l, Came x) (hv : VR w TT cv v) (hgv : gd v) (hcv : Came v) (hBl : Blk w gl 25 #[.slice A nk ca]) (hBv : Blk w gv 28 cv.toArray) :
    Calls Tryd.prog 52 #[.pointer (some ⟨gl, 0, none⟩), .pointer (some ⟨gv, 0, none⟩)] w fun e w' => e = .returned (.tuple #[.agg #[.int .i64 (placeI l v).1, .int .i64 (placeI l v).2.1], .int .i64 (placeI l v).2.2]) ∧ Below w.heap.size w w' := by
  obtain ⟨css, hr1, hr2, hr3, hr4⟩ := hr
  have HIH := Lib.hid (fun (i : Nat) (x : JV) (hx : l[i]? = some x) => kid_cellsG hr1 hr4 hx)
  have HCM := Lib.hid (fun (x y : JV) (hx : gd x) (hy : gd y) (cx : Came x) (cy : Came y) (csx csy : List Value) W (hvx : VR W TT csx x) (hvy : VR W TT csy y) => cCompare_any x y csx csy TT TT W hvx hvy hx hy cx cy)
  have HGD := Lib.hid hg
  have HCK := Lib.hid hc
  have HVV := Lib.hid hv
  have HGV := Lib.hid (And.intro hgv hcv)
  obtain ⟨kv, nv, sv, Av, nav, cav, Bv, nbv, cbv, rfl⟩ := hv.form
  have HBL := Lib.hid hBl
  have HBV := Lib.hid hBv
  rw [hnk] at hr2
  have HNK := Lib.hid hnk
  have HSTOP := Lib.hid (show ∀ i x y, l[i]? = some x → l[i + 1]? = some y → 0 < cmpJ x y → placeI l v = (0, 0, 2) from fun i x y hx hy h => by
    unfold placeI
    rw [if_neg]
    intro hn
    have := next_at.1 hn i x y hx hy
    omega)
  have HDONE := Lib.hid (show (∀ i x y, i + 1 < nk → l[i]? = some x → l[i + 1]? = some y → cmpJ x y ≤ 0) → placeI l v = ((aheadJ l v : Int), (notJ l v : Int), (0 : Int)) from fun h => by
    unfold placeI
    rw [if_pos]
    exact next_at.2 fun i x y hx hy => h i x y (by rw [← hnk]; exact (List.getElem?_eq_some_iff.1 hy).1) hx hy)
  have HP0 : Hid (PBk w 0 0 ((w.alloc (.cells #[.int .i64 0, .int .i64 0] 84)).alloc (.cells #[.int .i64 0, .int .i64 0] 84))) := Lib.hid (by
    refine ⟨(Blk.new w _ _).alloc _, ?_, ((Below.refl _ w).alloc (Nat.le_refl _) _).alloc (by simp) _⟩
    have := Blk.new (w.alloc (.cells #[.int .i64 0, .int .i64 0] 84)) 84 #[.int .i64 0, .int .i64 0]
    rw [World.size_alloc] at this; exact this)
  obtain ⟨c1, f1, l1⟩ := hBl.rules
  clear hr1 hr3 hr4 hg hc hv hgv hcv hBv hnk
  obtain ⟨R, hR⟩ : ∃ R, placeI l v = R := ⟨_, rfl⟩
  rw [hR] at HSTOP HDONE ⊢
  clear hR
  go_enter Tryd.func52, Tryd.ntmps52
  go_wp2
  clear c1 f1 l1 hBl
  go_loopg [10] nk (fun gk s10 wr => ∃ i p q : Nat, i ≤ nk ∧ p ≤ i ∧ q ≤ i ∧ gk = nk - i ∧ s10 = .int .i64 i ∧ Hid (aheadJ (l.take i) v = p ∧ notJ (l.take i) v = q ∧ ∀ j x y, j + 1 < i → l[j]? = some x → l[j + 1]? = some y → cmpJ x y ≤ 0) ∧ Hid (PBk w p q wr))
  case atStart => exact ⟨0, 0, 0, Nat.zero_le _, Nat.le_refl _, Nat.le_refl _, rfl, by go_num, Lib.hid ⟨by simp [aheadJ], by simp [notJ], fun j x y h => by omega⟩, HP0⟩
  case round =>
    obtain ⟨i, p, q, hi, hpi, hqi, hgk, rfl, HQ, HB⟩ := hrel
    have HG := Lib.hid hgk
    clear hgk
    by_cases hlt : i < nk
    case neg =>
      obtain rfl : i = nk := by omega
      have HE := Lib.hid (show R = ((p : Int), (q : Int), 0) by
        rw [HDONE.out HQ.out.2.2]
        have e1 := HQ.out.1
        have e2 := HQ.out.2.1
        rw [List.take_of_length_le (Nat.le_of_eq HNK.out)] at e1 e2
        rw [e1, e2])
      have hb2 := HB.out.1
      have hb1 := HB.out.2.1
      obtain ⟨c1, f1, l1⟩ := hb1.rules
      obtain ⟨c2, f2, l2⟩ := hb2.rules
      have HBE := Lib.hid (v2_bel HB.out.2.2 (Nat.le_refl _) (.int .i64 p) (.int .i64 q))
      have HBP := Lib.hid (v2_put hb2 (.int .i64 p) (.int .i64 q))
      clear hb1 hb2
      go_wp2
      clear c1 f1 l1 c2 f2 l2
      obtain ⟨c2, f2, l2⟩ := HBP.out.rules
      refine bodyPost_ret (v := .tuple #[.agg #[.int .i64 p, .int .i64 q], .int .i64 0]) (by simp only [results, Tryd.results52]; go_simp) rfl ?_
      exact ⟨by rw [HE.out], HBE.out⟩
    obtain ⟨x, hx⟩ : ∃ x, l[i]? = some x := ⟨_, List.getElem?_eq_getElem (by rw [HNK.out]; omega)⟩
    obtain ⟨b, o, k1, n1, s1, A1, na1, ca1, B1, nb1, cb1, rfl, hb, hvx, hz⟩ := HIH.out i x hx
    obtain ⟨q0, q1, q2, q3, q4⟩ := hz _ HB.out.2.2
    have hgx := HGD.out x (List.mem_of_getElem? hx)
    have hcx := HCK.out x (List.mem_of_getElem? hx)
    have HCV := Lib.hid (fun W (h : Below w.heap.size w W) => HCM.out x v hgx HGV.out.1 hcx HGV.out.2 _ _ W (hvx.bel h) (HVV.out.bel h))
    have hwx : PBk w p q (wr.alloc (.cells #[.int .i64 k1, .int .i64 n1, .string s1, .slice A1 na1 ca1, .slice B1 nb1 cb1] 28)) := HB.out.keep ((Below.refl _ wr).alloc (Nat.le_refl _) _)
    have HWX := Lib.hid hwx
    have HXB := Lib.hid (Blk.new wr 28 #[.int .i64 k1, .int .i64 n1, .string s1, .slice A1 na1 ca1, .slice B1 nb1 cb1])
    have HPK := Lib.hid (show ∀ W, Below (wr.heap.size + 1) (wr.alloc (.cells #[.int .i64 k1, .int .i64 n1, .string s1, .slice A1 na1 ca1, .slice B1 nb1 cb1] 28)) W → Blk W gl 25 #[.slice (some ⟨b, o, none⟩) nk ca] ∧ Blk W gv 28 #[.int .i64 kv, .int .i64 nv, .string sv, .slice Av nav cav, .slice Bv nbv cbv] ∧ Blk W wr.heap.size 28 #[.int .i64 k1, .int .i64 n1, .string s1, .slice A1 na1 ca1, .slice B1 nb1 cb1] ∧ PBk w p q W from fun W h => by
      have h' : Below (wr.alloc (.cells #[.int .i64 k1, .int .i64 n1, .string s1, .slice A1 na1 ca1, .slice B1 nb1 cb1] 28)).heap.size (wr.alloc (.cells #[.int .i64 k1, .int .i64 n1, .string s1, .slice A1 na1 ca1, .slice B1 nb1 cb1] 28)) W := by rw [World.size_alloc]; exact h
      have hp := HWX.out.keep h'
      exact ⟨HBL.out.keep hp.2.2, HBV.out.keep hp.2.2, HXB.out.keep h', hp⟩)
    have hbs : b < wr.heap.size := Nat.lt_of_lt_of_le hb HB.out.2.2.size
    clear hz hwx
    by_cases hi0 : i = 0
    · subst hi0
      have HNX := Lib.hid (show ∀ j x' y, j + 1 < 0 + 1 → l[j]? = some x' → l[j + 1]? = some y → cmpJ x' y ≤ 0 from fun j x' y h => by omega)
      simp only [Nat.zero_mul, Nat.add_zero] at q0 q1 q2 q3 q4
      go_wp2
      go_quiet (fail)
      have HB8 := Lib.hid (show Below (wr.heap.size + 1) (wr.alloc (.cells #[.int .i64 k1, .int .i64 n1, .string s1, .slice A1 na1 ca1, .slice B1 nb1 cb1] 28)) (World.drewN (wr.alloc (.cells #[.int .i64 k1, .int .i64 n1, .string s1, .slice A1 na1 ca1, .slice B1 nb1 cb1] 28)) nq) from bel_drewN (Below.refl _ _) nq)
      obtain ⟨W8, hW8⟩ : ∃ W8, World.drewN (wr.alloc (.cells #[.int .i64 k1, .int .i64 n1, .string s1, .slice A1 na1 ca1, .slice B1 nb1 cb1] 28)) nq = W8 := ⟨_, rfl⟩
      rw [hW8] at HB8 ⊢
      clear hW8
      obtain ⟨h1, h2, h3, h4⟩ := HPK.out _ HB8.out
      have hcv := HCV.out W8 h4.2.2
      obtain ⟨m, hm⟩ : ∃ m, cmpJ x v = m := ⟨_, rfl⟩
      have hm3 := cmpJ_3 x v
      have hcs := count_succ hx v
      rw [hm] at hcv hm3 hcs
      have HCC := Lib.hid hcv
      have HCS := Lib.hid hcs
      have HH := Lib.hid h4
      obtain ⟨c1, f1, l1⟩ := h2.rules
      obtain ⟨c3, f3, l3⟩ := h3.rules
      clear hcv hcs hm h1 h2 h3 h4
      go_wp2_with fail
      refine HCC.out.mono ?_
      rintro e w9 ⟨rfl, hg9⟩
      have HP9 := Lib.hid (HH.out.keep hg9.1)
      clear hg9 c1 f1 l1 c3 f3 l3
      obtain ⟨c1, f1, l1⟩ := HP9.out.2.1.rules
      rcases hm3 with rfl | rfl | rfl
      · have HP2 := Lib.hid ((HP9.out.setP ((p : Int) + 1)).setQ ((q : Int) + 1))
        go_wp2
        go_roundg (nk - (0 + 1))
        case measure => rw [HG.out]; omega
        case rel => exact ⟨0 + 1, p + 1, q + 1, by omega, by omega, by omega, rfl, by go_num, Lib.hid ⟨by rw [HCS.out.1, HQ.out.1]; rfl, by rw [HCS.out.2, HQ.out.2.1]; rfl, HNX.out⟩, HP2⟩
      · have HP2 := Lib.hid (HP9.out.setQ ((q : Int) + 1))
        go_wp2
        go_roundg (nk - (0 + 1))
        case measure => rw [HG.out]; omega
        case rel => exact ⟨0 + 1, p, q + 1, by omega, by omega, by omega, rfl, by go_num, Lib.hid ⟨by rw [HCS.out.1, HQ.out.1]; rfl, by rw [HCS.out.2, HQ.out.2.1]; rfl, HNX.out⟩, HP2⟩
      · go_wp2
        go_roundg (nk - (0 + 1))
        case measure => rw [HG.out]; omega
        case rel => exact ⟨0 + 1, p, q, by omega, by omega, by omega, rfl, by go_num, Lib.hid ⟨by rw [HCS.out.1, HQ.out.1]; rfl, by rw [HCS.out.2, HQ.out.2.1]; rfl, HNX.out⟩, HP9⟩
    · obtain ⟨y, hy⟩ : ∃ y, l[i - 1]? = some y := ⟨_, List.getElem?_eq_getElem (by rw [HNK.out]; omega)⟩
      obtain ⟨b', o', k2, n2, s2, A2, na2, ca2, B2, nb2, cb2, hbo, hb', hvy, hz'⟩ := HIH.out (i - 1) y hy
      obtain ⟨rfl, rfl⟩ : b = b' ∧ o = o' := by simpa using hbo
      have hgy := HGD.out y (List.mem_of_getElem? hy)
      have hcy := HCK.out y (List.mem_of_getElem? hy)
      have HCY := Lib.hid (fun W (h : Below w.heap.size w W) => HCM.out y x hgy hgx hcy hcx _ _ W (hvy.bel h) (hvx.bel h))
      have HZ' := Lib.hid hz'
      obtain ⟨j, hj⟩ : ∃ j : Nat, i = j + 1 := ⟨i - 1, by omega⟩
      subst hj
      rw [Nat.add_sub_cancel] at hy HZ'
      obtain ⟨c, hcc⟩ : ∃ c, cmpJ y x = c := ⟨_, rfl⟩
      have hc3 := cmpJ_3 y x
      have HST := Lib.hid (HSTOP.out j y x hy hx)
      rw [hcc] at HCY hc3 HST
      have HNX := Lib.hid (show c ≤ 0 → ∀ j' x' y', j' + 1 < j + 1 + 1 → l[j']? = some x' → l[j' + 1]? = some y' → cmpJ x' y' ≤ 0 from fun hc j' x' y' h h1 h2 => by
        by_cases e : j' = j
        · subst e
          rw [hy] at h1; rw [hx] at h2
          rw [← Option.some.inj h1, ← Option.some.inj h2, hcc]; exact hc
        · exact HQ.out.2.2 j' x' y' (by omega) h1 h2)
      have hgt1 : (0 : Int) < (j : Int) + 1 := by omega
      have hji : ((j + 1 : Nat) : Int) = (j : Int) + 1 := by omega
      have hwj : IntKind.i64.wrap (j : Int) = (j : Int) := by rw [IntKind.wrap_i64]; omega
      have hjn : (j : Int) < nk := by omega
      have hjn2 : ¬ nk ≤ j := by omega
      clear hz' hvy hy hcc hbo hb'
      go_wp2
      refine wp_region_held_drew (S := fun w' => Below (wr.heap.size + 1) (wr.alloc (.cells #[.int .i64 k1, .int .i64 n1, .string s1, .slice A1 na1 ca1, .slice B1 nb1 cb1] 28)) w') (by kernel_rfl) (by exact (Below.refl _ _).drew) (fun hHeld => ?_)
      refine wpAnyH_take (i := 0) (oi := ⟨some 15, _, _, _, _, _⟩) (v := .int .i64 ((j : Int) + 1)) rfl (by kernel_rfl) (by kernel_rfl) (by kernel_rfl) (fun _ _ _ h => h) (Or.inl ⟨by kernel_rfl, ?_⟩) (by assumption) ?_
      · intro W hSw; obtain ⟨h1, h2, h3, h4⟩ := HPK.out W hSw; obtain ⟨⟨c1, f1, l1⟩, ⟨c3, f3, l3⟩⟩ := And.intro h1.rules h3.rules; obtain ⟨p0, p1, p2, p3, p4⟩ := HZ'.out W h4.2.2; go_simp
      try simp only [Act.put, List.setIfInBounds_toArray, List.set_cons_zero, List.set_cons_succ]
      refine wpAnyH_take (i := 1) (oi := ⟨some 16, _, _, _, _, _⟩) (v := .bool true) rfl (by kernel_rfl) (by kernel_rfl) (by kernel_rfl) (fun _ _ _ h => h) (Or.inl ⟨by kernel_rfl, ?_⟩) (by assumption) ?_
      · intro W hSw; obtain ⟨h1, h2, h3, h4⟩ := HPK.out W hSw; obtain ⟨⟨c1, f1, l1⟩, ⟨c3, f3, l3⟩⟩ := And.intro h1.rules h3.rules; obtain ⟨p0, p1, p2, p3, p4⟩ := HZ'.out W h4.2.2; go_simp
      try simp only [Act.put, List.setIfInBounds_toArray, List.set_cons_zero, List.set_cons_succ]
      refine wpAnyH_take (i := 2) (oi := ⟨some 17, _, _, _, _, _⟩) (v := .bool true) rfl (by kernel_rfl) (by kernel_rfl) (by kernel_rfl) (fun _ _ _ h => h) (Or.inl ⟨by kernel_rfl, ?_⟩) (by assumption) ?_
      · intro W hSw; obtain ⟨h1, h2, h3, h4⟩ := HPK.out W hSw; obtain ⟨⟨c1, f1, l1⟩, ⟨c3, f3, l3⟩⟩ := And.intro h1.rules h3.rules; obtain ⟨p0, p1, p2, p3, p4⟩ := HZ'.out W h4.2.2; go_simp
      try simp only [Act.put, List.setIfInBounds_toArray, List.set_cons_zero, List.set_cons_succ]
      refine wpAnyH_take (i := 3) (oi := ⟨some 18, _, _, _, _, _⟩) (v := .slice (some ⟨b, o, none⟩) nk ca) rfl (by kernel_rfl) (by kernel_rfl) (by kernel_rfl) (fun _ _ _ h => h) (Or.inl ⟨by kernel_rfl, ?_⟩) (by assumption) ?_
      · intro W hSw; obtain ⟨h1, h2, h3, h4⟩ := HPK.out W hSw; obtain ⟨⟨c1, f1, l1⟩, ⟨c3, f3, l3⟩⟩ := And.intro h1.rules h3.rules; obtain ⟨p0, p1, p2, p3, p4⟩ := HZ'.out W h4.2.2; go_simp
      try simp only [Act.put, List.setIfInBounds_toArray, List.set_cons_zero, List.set_cons_succ]
      refine wpAnyH_take (i := 4) (oi := ⟨some 19, _, _, _, _, _⟩) (v := .int .i64 ((j : Int) + 1)) rfl (by kernel_rfl) (by kernel_rfl) (by kernel_rfl) (fun _ _ _ h => h) (Or.inl ⟨by kernel_rfl, ?_⟩) (by assumption) ?_
      · intro W hSw; obtain ⟨h1, h2, h3, h4⟩ := HPK.out W hSw; obtain ⟨⟨c1, f1, l1⟩, ⟨c3, f3, l3⟩⟩ := And.intro h1.rules h3.rules; obtain ⟨p0, p1, p2, p3, p4⟩ := HZ'.out W h4.2.2; go_simp
      try simp only [Act.put, List.setIfInBounds_toArray, List.set_cons_zero, List.set_cons_succ]
      refine wpAnyH_take (i := 5) (oi := ⟨some 20, _, _, _, _, _⟩) (v := .int .i64 j) rfl (by kernel_rfl) (by kernel_rfl) (by kernel_rfl) (fun _ _ _ h => h) (Or.inl ⟨by kernel_rfl, ?_⟩) (by assumption) ?_
      · intro W hSw; obtain ⟨h1, h2, h3, h4⟩ := HPK.out W hSw; obtain ⟨⟨c1, f1, l1⟩, ⟨c3, f3, l3⟩⟩ := And.intro h1.rules h3.rules; obtain ⟨p0, p1, p2, p3, p4⟩ := HZ'.out W h4.2.2; go_simp
      try simp only [Act.put, List.setIfInBounds_toArray, List.set_cons_zero, List.set_cons_succ]
      refine wpAnyH_take (i := 6) (oi := ⟨some 21, _, _, _, _, _⟩) (v := .pointer (some ⟨b, o + j * 5, none⟩)) rfl (by kernel_rfl) (by kernel_rfl) (by kernel_rfl) (fun _ _ _ h => h) (Or.inl ⟨by kernel_rfl, ?_⟩) (by assumption) ?_
      · intro W hSw; obtain ⟨h1, h2, h3, h4⟩ := HPK.out W hSw; obtain ⟨⟨c1, f1, l1⟩, ⟨c3, f3, l3⟩⟩ := And.intro h1.rules h3.rules; obtain ⟨p0, p1, p2, p3, p4⟩ := HZ'.out W h4.2.2; go_simp
      try simp only [Act.put, List.setIfInBounds_toArray, List.set_cons_zero, List.set_cons_succ]
      refine wpAnyH_take (i := 7) (oi := ⟨some 22, _, _, _, _, _⟩) (v := .agg #[.int .i64 k2, .int .i64 n2, .string s2, .slice A2 na2 ca2, .slice B2 nb2 cb2]) rfl (by kernel_rfl) (by kernel_rfl) (by kernel_rfl) (fun _ _ _ h => h) (Or.inl ⟨by kernel_rfl, ?_⟩) (by assumption) ?_
      · intro W hSw; obtain ⟨h1, h2, h3, h4⟩ := HPK.out W hSw; obtain ⟨⟨c1, f1, l1⟩, ⟨c3, f3, l3⟩⟩ := And.intro h1.rules h3.rules; obtain ⟨p0, p1, p2, p3, p4⟩ := HZ'.out W h4.2.2; go_simp
      try simp only [Act.put, List.setIfInBounds_toArray, List.set_cons_zero, List.set_cons_succ]
      refine wpAnyH_take (i := 8) (oi := ⟨some 23, _, _, _, _, _⟩) (v := .agg #[.int .i64 k1, .int .i64 n1, .string s1, .slice A1 na1 ca1, .slice B1 nb1 cb1]) rfl (by kernel_rfl) (by kernel_rfl) (by kernel_rfl) (fun _ _ _ h => h) (Or.inl ⟨by kernel_rfl, ?_⟩) (by assumption) ?_
      · intro W hSw; obtain ⟨h1, h2, h3, h4⟩ := HPK.out W hSw; obtain ⟨⟨c1, f1, l1⟩, ⟨c3, f3, l3⟩⟩ := And.intro h1.rules h3.rules; obtain ⟨p0, p1, p2, p3, p4⟩ := HZ'.out W h4.2.2; go_simp
      try simp only [Act.put, List.setIfInBounds_toArray, List.set_cons_zero, List.set_cons_succ]
      refine wpAnyH_ready (rs := [9]) (by kernel_rfl) (by simp) ?_
      refine AllReadyH.cons (o := ⟨some 24, _, _, _, _, _⟩) rfl (fun K hK => ?_) AllReadyH.nil
      go_simp
      refine (HCY.out _ (HPK.out _ (Below.refl _ _).drew).2.2.2.2.2).mono ?_
      rintro e w8 ⟨rfl, hg8⟩
      have hb8 : Below (wr.heap.size + 1) (wr.alloc (.cells #[.int .i64 k1, .int .i64 n1, .string s1, .slice A1 na1 ca1, .slice B1 nb1 cb1] 28)) w8 := (Below.refl _ _).drew.trans (hg8.1.mono (by show wr.heap.size + 1 ≤ (wr.alloc _).heap.size; simp))
      refine hK.out _ _ (hb8) (fun hHeld2 => ?_)
      clear hK K hHeld
      try simp only [Act.put, List.setIfInBounds_toArray, List.set_cons_zero, List.set_cons_succ]
      refine wpAnyH_take (i := 10) (oi := ⟨some 25, _, _, _, _, _⟩) (v := .bool (decide (0 < c))) rfl (by kernel_rfl) (by kernel_rfl) (by kernel_rfl) (fun _ _ _ h => h) (Or.inl ⟨by kernel_rfl, ?_⟩) (by assumption) ?_
      · intro W hSw; obtain ⟨h1, h2, h3, h4⟩ := HPK.out W hSw; obtain ⟨⟨c1, f1, l1⟩, ⟨c3, f3, l3⟩⟩ := And.intro h1.rules h3.rules; obtain ⟨p0, p1, p2, p3, p4⟩ := HZ'.out W h4.2.2; go_simp
      try simp only [Act.put, List.setIfInBounds_toArray, List.set_cons_zero, List.set_cons_succ]
      refine wpAnyH_take (i := 11) (oi := ⟨some 26, _, _, _, _, _⟩) (v := .bool (decide (0 < c))) rfl (by kernel_rfl) (by kernel_rfl) (by kernel_rfl) (fun _ _ _ h => h) (Or.inl ⟨by kernel_rfl, ?_⟩) (by assumption) ?_
      · intro W hSw; obtain ⟨h1, h2, h3, h4⟩ := HPK.out W hSw; obtain ⟨⟨c1, f1, l1⟩, ⟨c3, f3, l3⟩⟩ := And.intro h1.rules h3.rules; obtain ⟨p0, p1, p2, p3, p4⟩ := HZ'.out W h4.2.2; go_simp
      try simp only [Act.put, List.setIfInBounds_toArray, List.set_cons_zero, List.set_cons_succ]
      refine wpAnyH_done (by kernel_rfl) ?_ _
      have HB8 := Lib.hid hb8
      clear hb8
      by_cases hcpos : 0 < c
      · have HE := Lib.hid (HST.out hcpos)
        obtain ⟨h1, h2, h3, h4⟩ := HPK.out _ HB8.out
        obtain ⟨c2, f2, l2⟩ := h4.1.rules
        have HBE := Lib.hid (v2_bel h4.2.2 (Nat.le_refl _) (.int .i64 0) (.int .i64 0))
        have HBP := Lib.hid (v2_put h4.1 (.int .i64 0) (.int .i64 0))
        clear h1 h2 h3 h4
        go_wp2
        clear c2 f2 l2
        obtain ⟨c2, f2, l2⟩ := HBP.out.rules
        refine bodyPost_ret (v := .tuple #[.agg #[.int .i64 0, .int .i64 0], .int .i64 2]) (by simp only [results, Tryd.results52]; go_simp) rfl ?_
        exact ⟨by rw [HE.out], HBE.out⟩
      · have hcn : ¬ 0 < c := hcpos
        replace HNX := Lib.hid (HNX.out (by omega))
        obtain ⟨W8, hW8⟩ : ∃ W8, w8 = W8 := ⟨_, rfl⟩
        rw [hW8] at HB8 ⊢
        clear hW8
        obtain ⟨h1, h2, h3, h4⟩ := HPK.out _ HB8.out
        have hcv := HCV.out W8 h4.2.2
        obtain ⟨m, hm⟩ : ∃ m, cmpJ x v = m := ⟨_, rfl⟩
        have hm3 := cmpJ_3 x v
        have hcs := count_succ hx v
        rw [hm] at hcv hm3 hcs
        have HCC := Lib.hid hcv
        have HCS := Lib.hid hcs
        have HH := Lib.hid h4
        obtain ⟨c1, f1, l1⟩ := h2.rules
        obtain ⟨c3, f3, l3⟩ := h3.rules
        clear hcv hcs hm h1 h2 h3 h4
        go_wp2_with fail
        refine HCC.out.mono ?_
        rintro e w9 ⟨rfl, hg9⟩
        have HP9 := Lib.hid (HH.out.keep hg9.1)
        clear hg9 c1 f1 l1 c3 f3 l3
        obtain ⟨c1, f1, l1⟩ := HP9.out.2.1.rules
        rcases hm3 with rfl | rfl | rfl
        · have HP2 := Lib.hid ((HP9.out.setP ((p : Int) + 1)).setQ ((q : Int) + 1))
          go_wp2
          go_roundg (nk - ((j + 1) + 1))
          case measure => rw [HG.out]; omega
          case rel => exact ⟨(j + 1) + 1, p + 1, q + 1, by omega, by omega, by omega, rfl, by go_num, Lib.hid ⟨by rw [HCS.out.1, HQ.out.1]; rfl, by rw [HCS.out.2, HQ.out.2.1]; rfl, HNX.out⟩, HP2⟩
        · have HP2 := Lib.hid (HP9.out.setQ ((q : Int) + 1))
          go_wp2
          go_roundg (nk - ((j + 1) + 1))
          case measure => rw [HG.out]; omega
          case rel => exact ⟨(j + 1) + 1, p, q + 1, by omega, by omega, by omega, rfl, by go_num, Lib.hid ⟨by rw [HCS.out.1, HQ.out.1]; rfl, by rw [HCS.out.2, HQ.out.2.1]; rfl, HNX.out⟩, HP2⟩
        · go_wp2
          go_roundg (nk - ((j + 1) + 1))
          case measure => rw [HG.out]; omega
          case rel => exact ⟨(j + 1) + 1, p, q, by omega, by omega, by omega, rfl, by go_num, Lib.hid ⟨by rw [HCS.out.1, HQ.out.1]; rfl, by rw [HCS.out.2, HQ.out.2.1]; rfl, HNX.out⟩, HP9⟩
end Go.Proofs.YtoejdhabpajhlaaDoor

/- The walk of collate.Place: the values and the one more are checked, then its closure is called. -/
namespace Go.Proofs.YtoejdhabpajhlaaDoor
set_option linter.unusedVariables false
set_option linter.unusedSimpArgs false
open Go.RowKit
attribute [local go_sem] run_index_arr run_part_agg run_part_one run_field_agg

def PlacePost (r : Int × Int × Int) (w : World) (e : Ending) (w' : World) : Prop := e = .returned (.tuple #[.int .i64 r.1, .int .i64 r.2.1, .int .i64 r.2.2]) ∧ Below w.heap.size w w'
theorem Held_cells {w : World} {g : Nat} {t : TypeId} {cs : List Value} (h : Blk w g t cs.toArray) : ∀ (j : Nat) u, cs[j]? = some u → w.cell? ((⟨g, 0, none⟩ : Addr).add j) = some u := fun j u hu => by
  rw [Addr.add_lit, Nat.zero_add, h.cell]; simpa using hu
def ToldP (r : Int × Int × Int) (e : Ending) : Prop := e = .returned (.tuple #[.agg #[.int .i64 r.1, .int .i64 r.2.1], .int .i64 r.2.2])
set_option maxRecDepth 100000 in
set_option maxHeartbeats 8000000 in
theorem cPlace (l : List JV) (v : JV) (A : Option Addr) (nk ca : Nat) (cv : List Value) (w : World) (hG : GOK w) (hr : RowV w A ca l) (hnk : l.length = nk) (hlen : nk ≤ 4194303) (hc : ∀ x ∈ l, Came x) (hv : VR w TT cv v) (hcv : Came v) :
    Calls Tryd.prog 31 #[.slice A nk ca, .agg cv.toArray] w (PlacePost (placeO l v) w) := by
  have HT := Lib.hid (fun (W : World) (hb : Below w.heap.size w W) (A' : Option Addr) (cap' gl gv : Nat) (hrow : RowV W A' cap' (l ++ [v])) (hBl : Blk W gl 25 #[.slice A nk ca]) (hBv : Blk W gv 28 cv.toArray) =>
    show Calls Tryd.prog 51 #[.slice A' (nk + 1) cap', .func (.func 52) #[] #[.pointer (some ⟨gl, 0, none⟩), .pointer (some ⟨gv, 0, none⟩)]] W (fun e w' => ToldP (placeO l v) e ∧ Below W.heap.size W w') from
    toldP (l ++ [v]) A' (nk + 1) cap' _ _ W (hG.keep hb) hrow (by rw [List.length_append, hnk]; rfl) (by intro x hx; rcases List.mem_append.1 hx with h | h; exact hc x h; simp at h; subst h; exact hcv) (by omega)
      (ToldP (placeO l v))
      (fun ⟨x, hx, hng⟩ => by
        unfold ToldP placeO
        rw [if_neg (fun h => hng (h x hx))])
      (fun hall W' hb' => by
        have hbw := hb.trans (hb'.mono hb.size)
        refine (cPlace1 l v A nk ca gl gv cv W' (hr.bel hbw) hnk (by omega) (fun x hx => hall x (List.mem_append_left _ hx)) hc (hv.bel hbw) (hall v (by simp)) hcv (hBl.keep hb') (hBv.keep hb')).mono ?_
        rintro e w' ⟨rfl, hb2⟩
        refine ⟨⟨_, _, _, rfl, ?_⟩, hb2⟩
        unfold ToldP placeO
        rw [if_pos hall]))
  obtain ⟨css, hr1, hr2, hr3, hr4⟩ := hr
  obtain ⟨kv, nv, sv, Av, nav, cav, Bv, nbv, cbv, rfl⟩ := hv.form
  obtain ⟨i0, hi, hz0, hz1, hz2⟩ := info_parts infoValue7
  have hA0 : A = none → nk = 0 ∧ nk = 0 := fun e => by have := hr3 e; omega
  have hfl : css.flatten.length = nk * 5 := by rw [hr1.flat, hnk]
  have H1C : Hid (∀ u ∈ ([.int .i64 kv, .int .i64 nv, .string sv, .slice Av nav cav, .slice Bv nbv cbv] : List Value), u.oneCell' = true) := Lib.hid hv.one
  have HRD := Lib.hid (fun (W : World) (hb : Below w.heap.size w W) => show ∀ b, A = some b → ∀ (j : Nat) u, css.flatten[j]? = some u → W.cell? (b.add j) = some u from fun b e j u hu => by subst e; exact (hr4.keep (KeepF.of_below hb)).cells j u hu)
  have hb1 := (Below.refl w.heap.size w).alloc (Nat.le_refl _) (.cells #[.slice A nk ca] 25)
  have hb2 := hb1.alloc (by simp) (.cells #[.int .i64 kv, .int .i64 nv, .string sv, .slice Av nav cav, .slice Bv nbv cbv] 28)
  have hkl := (Blk.new w 25 #[.slice A nk ca]).alloc (.cells #[.int .i64 kv, .int .i64 nv, .string sv, .slice Av nav cav, .slice Bv nbv cbv] 28)
  have hkv := Blk.new (w.alloc (.cells #[.slice A nk ca] 25)) 28 #[.int .i64 kv, .int .i64 nv, .string sv, .slice Av nav cav, .slice Bv nbv cbv]
  rw [World.size_alloc] at hkv
  obtain ⟨W0, hW0⟩ : ∃ W0, ((w.alloc (.cells #[.slice A nk ca] 25)).alloc (.cells #[.int .i64 kv, .int .i64 nv, .string sv, .slice Av nav cav, .slice Bv nbv cbv] 28)) = W0 := ⟨_, rfl⟩
  rw [hW0] at hb2 hkl hkv
  have HB0 := Lib.hid hb2
  have HKL := Lib.hid hkl
  have HKV := Lib.hid hkv
  have HW0 := Lib.hid hW0
  have HRW := Lib.hid (fun (Wb w2 : World) (v' : Value) (hb0 : Below W0.heap.size W0 Wb) (hown : w2.ownsRow Wb.heap.size 28 5 v' (nk + 1) (css.flatten ++ ([.int .i64 kv, .int .i64 nv, .string sv, .slice Av nav cav, .slice Bv nbv cbv] : List Value))) (hgr : Wb.grownBy w2 none) =>
    show Below W0.heap.size W0 w2 ∧ ∃ A' cap', v' = .slice A' (nk + 1) cap' ∧ RowV w2 A' cap' (l ++ [v]) by
      have hb2 := hb0.trans ((bel_gb hgr).mono hb0.size)
      have hb3 := HB0.out.trans (hb2.mono HB0.out.size)
      have hvs : VRs w2 TT (css ++ [([.int .i64 kv, .int .i64 nv, .string sv, .slice Av nav cav, .slice Bv nbv cbv] : List Value)]) (l ++ [v]) := (hr1.below hb3).snoc (hv.bel hb3)
      have hfe : (css ++ [([.int .i64 kv, .int .i64 nv, .string sv, .slice Av nav cav, .slice Bv nbv cbv] : List Value)]).flatten = css.flatten ++ ([.int .i64 kv, .int .i64 nv, .string sv, .slice Av nav cav, .slice Bv nbv cbv] : List Value) := by simp
      rw [← hfe] at hown
      obtain ⟨A', cap', e1, e2⟩ := RowV.own hown (by rw [List.length_append, hnk]; rfl) hvs
      exact ⟨hb2, A', cap', e1, e2⟩)
  have HF := Lib.hid hfl
  have HI := Lib.hid hi
  have HA := Lib.hid hA0
  obtain ⟨R, hR⟩ : ∃ R, placeO l v = R := ⟨_, rfl⟩
  rw [hR] at HT ⊢
  have hmf : ∀ (fn : Fn) (first cap : Array Value) (w : World), (Instr.makeFunc fn first cap).run Tryd.prog w = .ok (.func fn first cap) w := fun _ _ _ _ => rfl
  rw [hnk] at hr2
  clear hG hr1 hr3 hr4 hc hv hcv hb1 hb2 hkl hkv hW0 hfl hi hA0 hnk hR
  have hn0 : (0 : Int) ≤ (nk : Int) := by omega
  have hnc : (nk : Int) ≤ (ca : Int) := by omega
  have hnc2 : ¬ (ca : Int) < (nk : Int) := by omega
  have hs0 : w.heap.size + 1 < W0.heap.size := HKV.out.lt
  go_enter Tryd.func31, Tryd.ntmps31
  go_upto_region 1 with (fail)
  rw [HW0.out]
  refine wp_region_held_drew (S := fun w' => Below W0.heap.size W0 w') (by kernel_rfl) (by exact (Below.refl _ _).drew) (fun hHeld => ?_)
  refine wpAnyH_take (i := 0) (oi := ⟨some 10, _, _, _, _, _⟩) (v := .slice A nk ca) rfl (by kernel_rfl) (by kernel_rfl) (by kernel_rfl) (fun _ _ _ h => h) (Or.inl ⟨by kernel_rfl, ?_⟩) (by assumption) ?_
  · intro W hSw; obtain ⟨c1, f1, l1⟩ := (HKL.out.keep hSw).rules; obtain ⟨c2, f2, l2⟩ := (HKV.out.keep hSw).rules; go_simp
  try simp only [Act.put, List.setIfInBounds_toArray, List.set_cons_zero, List.set_cons_succ]
  refine wpAnyH_take (i := 1) (oi := ⟨some 11, _, _, _, _, _⟩) (v := .slice A nk ca) rfl (by kernel_rfl) (by kernel_rfl) (by kernel_rfl) (fun _ _ _ h => h) (Or.inl ⟨by kernel_rfl, ?_⟩) (by assumption) ?_
  · intro W hSw; obtain ⟨c1, f1, l1⟩ := (HKL.out.keep hSw).rules; obtain ⟨c2, f2, l2⟩ := (HKV.out.keep hSw).rules; go_simp
  try simp only [Act.put, List.setIfInBounds_toArray, List.set_cons_zero, List.set_cons_succ]
  refine wpAnyH_take (i := 2) (oi := ⟨some 12, _, _, _, _, _⟩) (v := .int .i64 nk) rfl (by kernel_rfl) (by kernel_rfl) (by kernel_rfl) (fun _ _ _ h => h) (Or.inl ⟨by kernel_rfl, ?_⟩) (by assumption) ?_
  · intro W hSw; obtain ⟨c1, f1, l1⟩ := (HKL.out.keep hSw).rules; obtain ⟨c2, f2, l2⟩ := (HKV.out.keep hSw).rules; go_simp
  try simp only [Act.put, List.setIfInBounds_toArray, List.set_cons_zero, List.set_cons_succ]
  refine wpAnyH_take (i := 3) (oi := ⟨some 13, _, _, _, _, _⟩) (v := .slice A nk ca) rfl (by kernel_rfl) (by kernel_rfl) (by kernel_rfl) (fun _ _ _ h => h) (Or.inl ⟨by kernel_rfl, ?_⟩) (by assumption) ?_
  · intro W hSw; obtain ⟨c1, f1, l1⟩ := (HKL.out.keep hSw).rules; obtain ⟨c2, f2, l2⟩ := (HKV.out.keep hSw).rules; go_simp
  try simp only [Act.put, List.setIfInBounds_toArray, List.set_cons_zero, List.set_cons_succ]
  refine wpAnyH_take (i := 4) (oi := ⟨some 14, _, _, _, _, _⟩) (v := .int .i64 nk) rfl (by kernel_rfl) (by kernel_rfl) (by kernel_rfl) (fun _ _ _ h => h) (Or.inl ⟨by kernel_rfl, ?_⟩) (by assumption) ?_
  · intro W hSw; obtain ⟨c1, f1, l1⟩ := (HKL.out.keep hSw).rules; obtain ⟨c2, f2, l2⟩ := (HKV.out.keep hSw).rules; go_simp
  try simp only [Act.put, List.setIfInBounds_toArray, List.set_cons_zero, List.set_cons_succ]
  refine wpAnyH_take (i := 5) (oi := ⟨some 15, _, _, _, _, _⟩) (v := .slice A nk nk) rfl (by kernel_rfl) (by kernel_rfl) (by kernel_rfl) (fun _ _ _ h => h) (Or.inl ⟨by kernel_rfl, ?_⟩) (by assumption) ?_
  · intro W hSw; obtain ⟨c1, f1, l1⟩ := (HKL.out.keep hSw).rules; obtain ⟨c2, f2, l2⟩ := (HKV.out.keep hSw).rules; go_simp
  try simp only [Act.put, List.setIfInBounds_toArray, List.set_cons_zero, List.set_cons_succ]
  refine wpAnyH_take (i := 6) (oi := ⟨some 16, _, _, _, _, _⟩) (v := .agg #[.int .i64 kv, .int .i64 nv, .string sv, .slice Av nav cav, .slice Bv nbv cbv]) rfl (by kernel_rfl) (by kernel_rfl) (by kernel_rfl) (fun _ _ _ h => h) (Or.inl ⟨by kernel_rfl, ?_⟩) (by assumption) ?_
  · intro W hSw; obtain ⟨c1, f1, l1⟩ := (HKL.out.keep hSw).rules; obtain ⟨c2, f2, l2⟩ := (HKV.out.keep hSw).rules; go_simp
  try simp only [Act.put, List.setIfInBounds_toArray, List.set_cons_zero, List.set_cons_succ]
  refine wpAnyH_take (i := 9) (oi := ⟨some 19, _, _, _, _, _⟩) (v := .func (.func 52) #[] #[.pointer (some ⟨w.heap.size, 0, none⟩), .pointer (some ⟨w.heap.size + 1, 0, none⟩)]) rfl (by kernel_rfl) (by kernel_rfl) (by kernel_rfl) (fun _ _ _ h => h) (Or.inl ⟨by kernel_rfl, ?_⟩) (by assumption) ?_
  · intro W hSw; obtain ⟨c1, f1, l1⟩ := (HKL.out.keep hSw).rules; obtain ⟨c2, f2, l2⟩ := (HKV.out.keep hSw).rules; go_simp
  try simp only [Act.put, List.setIfInBounds_toArray, List.set_cons_zero, List.set_cons_succ]
  refine wpAnyH_ready (rs := [7, 14]) (by kernel_rfl) (by simp) ?_
  refine AllReadyH.cons (o := ⟨some 17, _, _, _, _, _⟩) rfl (fun K hK => ?_) ?_
  · go_simp
    refine hK.out _ _ (by exact (Below.alloc (Below.refl W0.heap.size W0).drew (Nat.le_refl _) (.cells #[.int .i64 kv, .int .i64 nv, .string sv, .slice Av nav cav, .slice Bv nbv cbv] 28))) (fun hHeld2 => ?_)
    clear hK K hHeld
    have hHeld := hHeld2
    clear hHeld2
    try simp only [Act.put, List.setIfInBounds_toArray, List.set_cons_zero, List.set_cons_succ]
    refine wpAnyH_ready (rs := [8, 14]) (by kernel_rfl) (by simp) ?_
    refine AllReadyH.cons (o := ⟨some 18, _, _, _, _, _⟩) rfl (fun K hK => ?_) ?_
    · refine step_append_grows rfl (.tmp 15) (.tmp 17) 25 rfl 28 i0 _ 5 80 Tryd.underlying25 HI.out hz0 hz1 hz2 rfl (by decide) A nk nk css.flatten (by simp [Act.eval, Act.put]) HA.out HF.out (HRD.out _ (HB0.out.trans (Below.mono (Below.alloc (Below.refl W0.heap.size W0).drew (Nat.le_refl _) (.cells #[.int .i64 kv, .int .i64 nv, .string sv, .slice Av nav cav, .slice Bv nbv cbv] 28)) HB0.out.size))) ⟨W0.heap.size, 0, none⟩ 1 1 [.int .i64 kv, .int .i64 nv, .string sv, .slice Av nav cav, .slice Bv nbv cbv] (by simp [Act.eval, Act.put]) rfl (Held_cells (show Blk _ (W0.heap.size) 28 #[.int .i64 kv, .int .i64 nv, .string sv, .slice Av nav cav, .slice Bv nbv cbv] from (Blk.newAt W0 28 #[.int .i64 kv, .int .i64 nv, .string sv, .slice Av nav cav, .slice Bv nbv cbv] (by simp)).drew)) H1C.out (by omega) (by unfold maxLen; omega) (by omega) ?_
      intro v' w2 hown hgr
      obtain ⟨hbw, A', cap', rfl, hrow⟩ := HRW.out _ w2 v' (Below.alloc (Below.refl W0.heap.size W0).drew (Nat.le_refl _) (.cells #[.int .i64 kv, .int .i64 nv, .string sv, .slice Av nav cav, .slice Bv nbv cbv] 28)) hown hgr
      have HB2 := Lib.hid hbw
      have HRO := Lib.hid hrow
      clear hown hgr hbw hrow
      refine hK.out _ _ (by exact HB2.out) (fun hHeld2 => ?_)
      clear hK K hHeld
      have hHeld := hHeld2
      clear hHeld2
      try simp only [Act.put, List.setIfInBounds_toArray, List.set_cons_zero, List.set_cons_succ]
      refine wpAnyH_ready (rs := [10, 14]) (by kernel_rfl) (by simp) ?_
      refine AllReadyH.cons (o := ⟨some 20, _, _, _, _, _⟩) rfl (fun K hK => ?_) ?_
      · go_simp
        refine (HT.out _ (HB0.out.trans (Below.mono HB2.out HB0.out.size)) _ _ _ _ HRO.out (HKL.out.keep HB2.out) (HKV.out.keep HB2.out)).mono ?_
        rintro e w3 ⟨rfl, hb3⟩
        have HB3 := Lib.hid (Below.trans HB2.out (hb3.mono HB2.out.size))
        clear hb3
        refine hK.out _ _ (by exact HB3.out) (fun hHeld2 => ?_)
        clear hK K hHeld
        have hHeld := hHeld2
        clear hHeld2
        try simp only [Act.put, List.setIfInBounds_toArray, List.set_cons_zero, List.set_cons_succ]
        refine wpAnyH_take (i := 11) (oi := ⟨some 9, _, _, _, _, _⟩) (v := .tuple #[.agg #[.int .i64 R.1, .int .i64 R.2.1], .int .i64 R.2.2]) rfl (by kernel_rfl) (by kernel_rfl) (by kernel_rfl) (fun _ _ _ h => h) (Or.inl ⟨by kernel_rfl, ?_⟩) (by assumption) ?_
        · intro W hSw; go_simp
        try simp only [Act.put, List.setIfInBounds_toArray, List.set_cons_zero, List.set_cons_succ]
        refine wpAnyH_take (i := 12) (oi := ⟨some 21, _, _, _, _, _⟩) (v := .agg #[.int .i64 R.1, .int .i64 R.2.1]) rfl (by kernel_rfl) (by kernel_rfl) (by kernel_rfl) (fun _ _ _ h => h) (Or.inl ⟨by kernel_rfl, ?_⟩) (by assumption) ?_
        · intro W hSw; go_simp
        try simp only [Act.put, List.setIfInBounds_toArray, List.set_cons_zero, List.set_cons_succ]
        refine wpAnyH_take (i := 13) (oi := ⟨some 22, _, _, _, _, _⟩) (v := .int .i64 R.2.2) rfl (by kernel_rfl) (by kernel_rfl) (by kernel_rfl) (fun _ _ _ h => h) (Or.inl ⟨by kernel_rfl, ?_⟩) (by assumption) ?_
        · intro W hSw; go_simp
        try simp only [Act.put, List.setIfInBounds_toArray, List.set_cons_zero, List.set_cons_succ]
        refine wpAnyH_ready (rs := [14]) (by kernel_rfl) (by simp) ?_
        refine AllReadyH.cons (o := ⟨some 7, _, _, _, _, _⟩) rfl (fun K hK => ?_) AllReadyH.nil
        go_simp
        refine hK.out _ _ (by exact (Below.alloc HB3.out HB3.out.size (.cells #[.int .i64 0, .int .i64 0] 84))) (fun hHeld2 => ?_)
        clear hK K hHeld
        have hHeld := hHeld2
        clear hHeld2
        try simp only [Act.put, List.setIfInBounds_toArray, List.set_cons_zero, List.set_cons_succ]
        refine wpAnyH_ready (rs := [15]) (by kernel_rfl) (by simp) ?_
        refine AllReadyH.cons (o := ⟨none, _, _, _, _, _⟩) rfl (fun K hK => ?_) AllReadyH.nil
        have HPS := Lib.hid (Blk.new w3 84 #[.int .i64 R.1, .int .i64 R.2.1])
        have HBS := Lib.hid (HB3.out.alloc HB3.out.size (.cells #[.int .i64 R.1, .int .i64 R.2.1] 84))
        have d1 := True.intro
        have d2 := True.intro
        have d3 := True.intro
        go_simp
        refine hK.out _ _ (by exact HBS.out) (fun hHeld2 => ?_)
        clear hK K hHeld d1 d2 d3
        try simp only [Act.put, List.setIfInBounds_toArray, List.set_cons_zero, List.set_cons_succ]
        refine wpAnyH_take (i := 16) (oi := ⟨some 8, _, _, _, _, _⟩) (v := .int .i64 R.2.2) rfl (by kernel_rfl) (by kernel_rfl) (by kernel_rfl) (fun _ _ _ h => h) (Or.inl ⟨by kernel_rfl, ?_⟩) (by assumption) ?_
        · intro W hSw; go_simp
        try simp only [Act.put, List.setIfInBounds_toArray, List.set_cons_zero, List.set_cons_succ]
        refine wpAnyH_done (by kernel_rfl) ?_ _
        obtain ⟨d1, d2, d3⟩ := HPS.out.rules
        go_wp2
        go_quiet (fail)
        go_wp2
        go_ret3
        exact ⟨rfl, bel_drewN (HB0.out.trans (HBS.out.mono HB0.out.size)) _⟩
      refine AllReadyH.cons (o := ⟨some 7, _, _, _, _, _⟩) rfl (fun K hK => ?_) AllReadyH.nil
      go_simp
      refine hK.out _ _ (by exact (Below.alloc HB2.out HB2.out.size (.cells #[.int .i64 0, .int .i64 0] 84))) (fun hHeld2 => ?_)
      clear hK K hHeld
      have hHeld := hHeld2
      clear hHeld2
      try simp only [Act.put, List.setIfInBounds_toArray, List.set_cons_zero, List.set_cons_succ]
      refine wpAnyH_ready (rs := [10]) (by kernel_rfl) (by simp) ?_
      refine AllReadyH.cons (o := ⟨some 20, _, _, _, _, _⟩) rfl (fun K hK => ?_) AllReadyH.nil
      go_simp
      refine (HT.out _ (HB0.out.trans (Below.mono (Below.alloc HB2.out HB2.out.size (.cells #[.int .i64 0, .int .i64 0] 84)) HB0.out.size)) _ _ _ _ (HRO.out.bel ((Below.refl _ _).alloc (Nat.le_refl _) _)) (HKL.out.keep (Below.alloc HB2.out HB2.out.size (.cells #[.int .i64 0, .int .i64 0] 84))) (HKV.out.keep (Below.alloc HB2.out HB2.out.size (.cells #[.int .i64 0, .int .i64 0] 84)))).mono ?_
      rintro e w3 ⟨rfl, hb3⟩
      have HB3 := Lib.hid (Below.trans (Below.alloc HB2.out HB2.out.size (.cells #[.int .i64 0, .int .i64 0] 84)) (hb3.mono (Below.size (Below.alloc HB2.out HB2.out.size (.cells #[.int .i64 0, .int .i64 0] 84)))))
      have HPL3 := Lib.hid (show Blk w3 (w2.heap.size) 84 #[.int .i64 0, .int .i64 0] from Blk.keep (Blk.newAt w2 84 #[.int .i64 0, .int .i64 0] (by simp)) hb3)
      clear hb3
      refine hK.out _ _ (by exact HB3.out) (fun hHeld2 => ?_)
      clear hK K hHeld
      have hHeld := hHeld2
      clear hHeld2
      try simp only [Act.put, List.setIfInBounds_toArray, List.set_cons_zero, List.set_cons_succ]
      refine wpAnyH_take (i := 11) (oi := ⟨some 9, _, _, _, _, _⟩) (v := .tuple #[.agg #[.int .i64 R.1, .int .i64 R.2.1], .int .i64 R.2.2]) rfl (by kernel_rfl) (by kernel_rfl) (by kernel_rfl) (fun _ _ _ h => h) (Or.inl ⟨by kernel_rfl, ?_⟩) (by assumption) ?_
      · intro W hSw; go_simp
      try simp only [Act.put, List.setIfInBounds_toArray, List.set_cons_zero, List.set_cons_succ]
      refine wpAnyH_take (i := 12) (oi := ⟨some 21, _, _, _, _, _⟩) (v := .agg #[.int .i64 R.1, .int .i64 R.2.1]) rfl (by kernel_rfl) (by kernel_rfl) (by kernel_rfl) (fun _ _ _ h => h) (Or.inl ⟨by kernel_rfl, ?_⟩) (by assumption) ?_
      · intro W hSw; go_simp
      try simp only [Act.put, List.setIfInBounds_toArray, List.set_cons_zero, List.set_cons_succ]
      refine wpAnyH_take (i := 13) (oi := ⟨some 22, _, _, _, _, _⟩) (v := .int .i64 R.2.2) rfl (by kernel_rfl) (by kernel_rfl) (by kernel_rfl) (fun _ _ _ h => h) (Or.inl ⟨by kernel_rfl, ?_⟩) (by assumption) ?_
      · intro W hSw; go_simp
      try simp only [Act.put, List.setIfInBounds_toArray, List.set_cons_zero, List.set_cons_succ]
      refine wpAnyH_ready (rs := [15]) (by kernel_rfl) (by simp) ?_
      refine AllReadyH.cons (o := ⟨none, _, _, _, _, _⟩) rfl (fun K hK => ?_) AllReadyH.nil
      have HPL := Lib.hid (show Blk _ (w2.heap.size) 84 #[.int .i64 0, .int .i64 0] from HPL3.out)
      have HBE := Lib.hid HB3.out
      obtain ⟨d1, d2, d3⟩ := HPL.out.rules
      have HPS := Lib.hid (v2_put HPL.out (.int .i64 R.1) (.int .i64 R.2.1))
      have HBS := Lib.hid (v2_bel HBE.out (g := w2.heap.size) (by first | exact Nat.le_refl _ | omega | (have := HB2.out.size; omega) | (have := HB3.out.size; omega)) (.int .i64 R.1) (.int .i64 R.2.1))
      go_simp
      refine hK.out _ _ (by exact HBS.out) (fun hHeld2 => ?_)
      clear hK K hHeld d1 d2 d3
      try simp only [Act.put, List.setIfInBounds_toArray, List.set_cons_zero, List.set_cons_succ]
      refine wpAnyH_take (i := 16) (oi := ⟨some 8, _, _, _, _, _⟩) (v := .int .i64 R.2.2) rfl (by kernel_rfl) (by kernel_rfl) (by kernel_rfl) (fun _ _ _ h => h) (Or.inl ⟨by kernel_rfl, ?_⟩) (by assumption) ?_
      · intro W hSw; go_simp
      try simp only [Act.put, List.setIfInBounds_toArray, List.set_cons_zero, List.set_cons_succ]
      refine wpAnyH_done (by kernel_rfl) ?_ _
      obtain ⟨d1, d2, d3⟩ := HPS.out.rules
      go_wp2
      go_quiet (fail)
      go_wp2
      go_ret3
      exact ⟨rfl, bel_drewN (HB0.out.trans (HBS.out.mono HB0.out.size)) _⟩
    refine AllReadyH.cons (o := ⟨some 7, _, _, _, _, _⟩) rfl (fun K hK => ?_) AllReadyH.nil
    go_simp
    refine hK.out _ _ (by exact (Below.alloc (Below.alloc (Below.refl W0.heap.size W0).drew (Nat.le_refl _) (.cells #[.int .i64 kv, .int .i64 nv, .string sv, .slice Av nav cav, .slice Bv nbv cbv] 28)) (Below.size (Below.alloc (Below.refl W0.heap.size W0).drew (Nat.le_refl _) (.cells #[.int .i64 kv, .int .i64 nv, .string sv, .slice Av nav cav, .slice Bv nbv cbv] 28))) (.cells #[.int .i64 0, .int .i64 0] 84))) (fun hHeld2 => ?_)
    clear hK K hHeld
    have hHeld := hHeld2
    clear hHeld2
    try simp only [Act.put, List.setIfInBounds_toArray, List.set_cons_zero, List.set_cons_succ]
    refine wpAnyH_ready (rs := [8]) (by kernel_rfl) (by simp) ?_
    refine AllReadyH.cons (o := ⟨some 18, _, _, _, _, _⟩) rfl (fun K hK => ?_) AllReadyH.nil
    refine step_append_grows rfl (.tmp 15) (.tmp 17) 25 rfl 28 i0 _ 5 80 Tryd.underlying25 HI.out hz0 hz1 hz2 rfl (by decide) A nk nk css.flatten (by simp [Act.eval, Act.put]) HA.out HF.out (HRD.out _ (HB0.out.trans (Below.mono (Below.alloc (Below.alloc (Below.refl W0.heap.size W0).drew (Nat.le_refl _) (.cells #[.int .i64 kv, .int .i64 nv, .string sv, .slice Av nav cav, .slice Bv nbv cbv] 28)) (Below.size (Below.alloc (Below.refl W0.heap.size W0).drew (Nat.le_refl _) (.cells #[.int .i64 kv, .int .i64 nv, .string sv, .slice Av nav cav, .slice Bv nbv cbv] 28))) (.cells #[.int .i64 0, .int .i64 0] 84)) HB0.out.size))) ⟨W0.heap.size, 0, none⟩ 1 1 [.int .i64 kv, .int .i64 nv, .string sv, .slice Av nav cav, .slice Bv nbv cbv] (by simp [Act.eval, Act.put]) rfl (Held_cells (show Blk _ W0.heap.size 28 #[.int .i64 kv, .int .i64 nv, .string sv, .slice Av nav cav, .slice Bv nbv cbv] from ((Blk.new W0 28 #[.int .i64 kv, .int .i64 nv, .string sv, .slice Av nav cav, .slice Bv nbv cbv]).alloc (.cells #[.int .i64 0, .int .i64 0] 84)).drew)) H1C.out (by omega) (by unfold maxLen; omega) (by omega) ?_
    intro v' w2 hown hgr
    obtain ⟨hbw, A', cap', rfl, hrow⟩ := HRW.out _ w2 v' (Below.alloc (Below.alloc (Below.refl W0.heap.size W0).drew (Nat.le_refl _) (.cells #[.int .i64 kv, .int .i64 nv, .string sv, .slice Av nav cav, .slice Bv nbv cbv] 28)) (Below.size (Below.alloc (Below.refl W0.heap.size W0).drew (Nat.le_refl _) (.cells #[.int .i64 kv, .int .i64 nv, .string sv, .slice Av nav cav, .slice Bv nbv cbv] 28))) (.cells #[.int .i64 0, .int .i64 0] 84)) hown hgr
    have HB2 := Lib.hid hbw
    have HRO := Lib.hid hrow
    have HPL2 := Lib.hid (show Blk w2 (W0.heap.size + 1) 84 #[.int .i64 0, .int .i64 0] from Blk.keep (Blk.newAt (W0.alloc (.cells #[.int .i64 kv, .int .i64 nv, .string sv, .slice Av nav cav, .slice Bv nbv cbv] 28)) 84 #[.int .i64 0, .int .i64 0] (by simp)).drew (bel_gb hgr))
    clear hown hgr hbw hrow
    refine hK.out _ _ (by exact HB2.out) (fun hHeld2 => ?_)
    clear hK K hHeld
    have hHeld := hHeld2
    clear hHeld2
    try simp only [Act.put, List.setIfInBounds_toArray, List.set_cons_zero, List.set_cons_succ]
    refine wpAnyH_ready (rs := [10]) (by kernel_rfl) (by simp) ?_
    refine AllReadyH.cons (o := ⟨some 20, _, _, _, _, _⟩) rfl (fun K hK => ?_) AllReadyH.nil
    go_simp
    refine (HT.out _ (HB0.out.trans (Below.mono HB2.out HB0.out.size)) _ _ _ _ HRO.out (HKL.out.keep HB2.out) (HKV.out.keep HB2.out)).mono ?_
    rintro e w3 ⟨rfl, hb3⟩
    have HB3 := Lib.hid (Below.trans HB2.out (hb3.mono HB2.out.size))
    have HPL3 := Lib.hid (show Blk w3 (W0.heap.size + 1) 84 #[.int .i64 0, .int .i64 0] from Blk.keep HPL2.out hb3)
    clear hb3
    refine hK.out _ _ (by exact HB3.out) (fun hHeld2 => ?_)
    clear hK K hHeld
    have hHeld := hHeld2
    clear hHeld2
    try simp only [Act.put, List.setIfInBounds_toArray, List.set_cons_zero, List.set_cons_succ]
    refine wpAnyH_take (i := 11) (oi := ⟨some 9, _, _, _, _, _⟩) (v := .tuple #[.agg #[.int .i64 R.1, .int .i64 R.2.1], .int .i64 R.2.2]) rfl (by kernel_rfl) (by kernel_rfl) (by kernel_rfl) (fun _ _ _ h => h) (Or.inl ⟨by kernel_rfl, ?_⟩) (by assumption) ?_
    · intro W hSw; go_simp
    try simp only [Act.put, List.setIfInBounds_toArray, List.set_cons_zero, List.set_cons_succ]
    refine wpAnyH_take (i := 12) (oi := ⟨some 21, _, _, _, _, _⟩) (v := .agg #[.int .i64 R.1, .int .i64 R.2.1]) rfl (by kernel_rfl) (by kernel_rfl) (by kernel_rfl) (fun _ _ _ h => h) (Or.inl ⟨by kernel_rfl, ?_⟩) (by assumption) ?_
    · intro W hSw; go_simp
    try simp only [Act.put, List.setIfInBounds_toArray, List.set_cons_zero, List.set_cons_succ]
    refine wpAnyH_take (i := 13) (oi := ⟨some 22, _, _, _, _, _⟩) (v := .int .i64 R.2.2) rfl (by kernel_rfl) (by kernel_rfl) (by kernel_rfl) (fun _ _ _ h => h) (Or.inl ⟨by kernel_rfl, ?_⟩) (by assumption) ?_
    · intro W hSw; go_simp
    try simp only [Act.put, List.setIfInBounds_toArray, List.set_cons_zero, List.set_cons_succ]
    refine wpAnyH_ready (rs := [15]) (by kernel_rfl) (by simp) ?_
    refine AllReadyH.cons (o := ⟨none, _, _, _, _, _⟩) rfl (fun K hK => ?_) AllReadyH.nil
    have HPL := Lib.hid (show Blk _ (W0.heap.size + 1) 84 #[.int .i64 0, .int .i64 0] from HPL3.out)
    have HBE := Lib.hid HB3.out
    obtain ⟨d1, d2, d3⟩ := HPL.out.rules
    have HPS := Lib.hid (v2_put HPL.out (.int .i64 R.1) (.int .i64 R.2.1))
    have HBS := Lib.hid (v2_bel HBE.out (g := W0.heap.size + 1) (by first | exact Nat.le_refl _ | omega | (have := HB2.out.size; omega) | (have := HB3.out.size; omega)) (.int .i64 R.1) (.int .i64 R.2.1))
    go_simp
    refine hK.out _ _ (by exact HBS.out) (fun hHeld2 => ?_)
    clear hK K hHeld d1 d2 d3
    try simp only [Act.put, List.setIfInBounds_toArray, List.set_cons_zero, List.set_cons_succ]
    refine wpAnyH_take (i := 16) (oi := ⟨some 8, _, _, _, _, _⟩) (v := .int .i64 R.2.2) rfl (by kernel_rfl) (by kernel_rfl) (by kernel_rfl) (fun _ _ _ h => h) (Or.inl ⟨by kernel_rfl, ?_⟩) (by assumption) ?_
    · intro W hSw; go_simp
    try simp only [Act.put, List.setIfInBounds_toArray, List.set_cons_zero, List.set_cons_succ]
    refine wpAnyH_done (by kernel_rfl) ?_ _
    obtain ⟨d1, d2, d3⟩ := HPS.out.rules
    go_wp2
    go_quiet (fail)
    go_wp2
    go_ret3
    exact ⟨rfl, bel_drewN (HB0.out.trans (HBS.out.mono HB0.out.size)) _⟩
  refine AllReadyH.cons (o := ⟨some 7, _, _, _, _, _⟩) rfl (fun K hK => ?_) AllReadyH.nil
  go_simp
  refine hK.out _ _ (by exact (Below.alloc (Below.refl W0.heap.size W0).drew (Nat.le_refl _) (.cells #[.int .i64 0, .int .i64 0] 84))) (fun hHeld2 => ?_)
  clear hK K hHeld
  have hHeld := hHeld2
  clear hHeld2
  try simp only [Act.put, List.setIfInBounds_toArray, List.set_cons_zero, List.set_cons_succ]
  refine wpAnyH_ready (rs := [7]) (by kernel_rfl) (by simp) ?_
  refine AllReadyH.cons (o := ⟨some 17, _, _, _, _, _⟩) rfl (fun K hK => ?_) AllReadyH.nil
  go_simp
  refine hK.out _ _ (by exact (Below.alloc (Below.alloc (Below.refl W0.heap.size W0).drew (Nat.le_refl _) (.cells #[.int .i64 0, .int .i64 0] 84)) (Below.size (Below.alloc (Below.refl W0.heap.size W0).drew (Nat.le_refl _) (.cells #[.int .i64 0, .int .i64 0] 84))) (.cells #[.int .i64 kv, .int .i64 nv, .string sv, .slice Av nav cav, .slice Bv nbv cbv] 28))) (fun hHeld2 => ?_)
  clear hK K hHeld
  have hHeld := hHeld2
  clear hHeld2
  try simp only [Act.put, List.setIfInBounds_toArray, List.set_cons_zero, List.set_cons_succ]
  refine wpAnyH_ready (rs := [8]) (by kernel_rfl) (by simp) ?_
  refine AllReadyH.cons (o := ⟨some 18, _, _, _, _, _⟩) rfl (fun K hK => ?_) AllReadyH.nil
  refine step_append_grows rfl (.tmp 15) (.tmp 17) 25 rfl 28 i0 _ 5 80 Tryd.underlying25 HI.out hz0 hz1 hz2 rfl (by decide) A nk nk css.flatten (by simp [Act.eval, Act.put]) HA.out HF.out (HRD.out _ (HB0.out.trans (Below.mono (Below.alloc (Below.alloc (Below.refl W0.heap.size W0).drew (Nat.le_refl _) (.cells #[.int .i64 0, .int .i64 0] 84)) (Below.size (Below.alloc (Below.refl W0.heap.size W0).drew (Nat.le_refl _) (.cells #[.int .i64 0, .int .i64 0] 84))) (.cells #[.int .i64 kv, .int .i64 nv, .string sv, .slice Av nav cav, .slice Bv nbv cbv] 28)) HB0.out.size))) ⟨W0.heap.size + 1, 0, none⟩ 1 1 [.int .i64 kv, .int .i64 nv, .string sv, .slice Av nav cav, .slice Bv nbv cbv] (by simp [Act.eval, Act.put]) rfl (Held_cells (show Blk _ (W0.heap.size + 1) 28 #[.int .i64 kv, .int .i64 nv, .string sv, .slice Av nav cav, .slice Bv nbv cbv] from (Blk.newAt (W0.alloc (.cells #[.int .i64 0, .int .i64 0] 84)) 28 #[.int .i64 kv, .int .i64 nv, .string sv, .slice Av nav cav, .slice Bv nbv cbv] (by simp)).drew)) H1C.out (by omega) (by unfold maxLen; omega) (by omega) ?_
  intro v' w2 hown hgr
  obtain ⟨hbw, A', cap', rfl, hrow⟩ := HRW.out _ w2 v' (Below.alloc (Below.alloc (Below.refl W0.heap.size W0).drew (Nat.le_refl _) (.cells #[.int .i64 0, .int .i64 0] 84)) (Below.size (Below.alloc (Below.refl W0.heap.size W0).drew (Nat.le_refl _) (.cells #[.int .i64 0, .int .i64 0] 84))) (.cells #[.int .i64 kv, .int .i64 nv, .string sv, .slice Av nav cav, .slice Bv nbv cbv] 28)) hown hgr
  have HB2 := Lib.hid hbw
  have HRO := Lib.hid hrow
  have HPL2 := Lib.hid (show Blk w2 (W0.heap.size) 84 #[.int .i64 0, .int .i64 0] from Blk.keep ((Blk.newAt W0 84 #[.int .i64 0, .int .i64 0] (by simp)).alloc (.cells #[.int .i64 kv, .int .i64 nv, .string sv, .slice Av nav cav, .slice Bv nbv cbv] 28)).drew (bel_gb hgr))
  clear hown hgr hbw hrow
  refine hK.out _ _ (by exact HB2.out) (fun hHeld2 => ?_)
  clear hK K hHeld
  have hHeld := hHeld2
  clear hHeld2
  try simp only [Act.put, List.setIfInBounds_toArray, List.set_cons_zero, List.set_cons_succ]
  refine wpAnyH_ready (rs := [10]) (by kernel_rfl) (by simp) ?_
  refine AllReadyH.cons (o := ⟨some 20, _, _, _, _, _⟩) rfl (fun K hK => ?_) AllReadyH.nil
  go_simp
  refine (HT.out _ (HB0.out.trans (Below.mono HB2.out HB0.out.size)) _ _ _ _ HRO.out (HKL.out.keep HB2.out) (HKV.out.keep HB2.out)).mono ?_
  rintro e w3 ⟨rfl, hb3⟩
  have HB3 := Lib.hid (Below.trans HB2.out (hb3.mono HB2.out.size))
  have HPL3 := Lib.hid (show Blk w3 (W0.heap.size) 84 #[.int .i64 0, .int .i64 0] from Blk.keep HPL2.out hb3)
  clear hb3
  refine hK.out _ _ (by exact HB3.out) (fun hHeld2 => ?_)
  clear hK K hHeld
  have hHeld := hHeld2
  clear hHeld2
  try simp only [Act.put, List.setIfInBounds_toArray, List.set_cons_zero, List.set_cons_succ]
  refine wpAnyH_take (i := 11) (oi := ⟨some 9, _, _, _, _, _⟩) (v := .tuple #[.agg #[.int .i64 R.1, .int .i64 R.2.1], .int .i64 R.2.2]) rfl (by kernel_rfl) (by kernel_rfl) (by kernel_rfl) (fun _ _ _ h => h) (Or.inl ⟨by kernel_rfl, ?_⟩) (by assumption) ?_
  · intro W hSw; go_simp
  try simp only [Act.put, List.setIfInBounds_toArray, List.set_cons_zero, List.set_cons_succ]
  refine wpAnyH_take (i := 12) (oi := ⟨some 21, _, _, _, _, _⟩) (v := .agg #[.int .i64 R.1, .int .i64 R.2.1]) rfl (by kernel_rfl) (by kernel_rfl) (by kernel_rfl) (fun _ _ _ h => h) (Or.inl ⟨by kernel_rfl, ?_⟩) (by assumption) ?_
  · intro W hSw; go_simp
  try simp only [Act.put, List.setIfInBounds_toArray, List.set_cons_zero, List.set_cons_succ]
  refine wpAnyH_take (i := 13) (oi := ⟨some 22, _, _, _, _, _⟩) (v := .int .i64 R.2.2) rfl (by kernel_rfl) (by kernel_rfl) (by kernel_rfl) (fun _ _ _ h => h) (Or.inl ⟨by kernel_rfl, ?_⟩) (by assumption) ?_
  · intro W hSw; go_simp
  try simp only [Act.put, List.setIfInBounds_toArray, List.set_cons_zero, List.set_cons_succ]
  refine wpAnyH_ready (rs := [15]) (by kernel_rfl) (by simp) ?_
  refine AllReadyH.cons (o := ⟨none, _, _, _, _, _⟩) rfl (fun K hK => ?_) AllReadyH.nil
  have HPL := Lib.hid (show Blk _ (W0.heap.size) 84 #[.int .i64 0, .int .i64 0] from HPL3.out)
  have HBE := Lib.hid HB3.out
  obtain ⟨d1, d2, d3⟩ := HPL.out.rules
  have HPS := Lib.hid (v2_put HPL.out (.int .i64 R.1) (.int .i64 R.2.1))
  have HBS := Lib.hid (v2_bel HBE.out (g := W0.heap.size) (by first | exact Nat.le_refl _ | omega | (have := HB2.out.size; omega) | (have := HB3.out.size; omega)) (.int .i64 R.1) (.int .i64 R.2.1))
  go_simp
  refine hK.out _ _ (by exact HBS.out) (fun hHeld2 => ?_)
  clear hK K hHeld d1 d2 d3
  try simp only [Act.put, List.setIfInBounds_toArray, List.set_cons_zero, List.set_cons_succ]
  refine wpAnyH_take (i := 16) (oi := ⟨some 8, _, _, _, _, _⟩) (v := .int .i64 R.2.2) rfl (by kernel_rfl) (by kernel_rfl) (by kernel_rfl) (fun _ _ _ h => h) (Or.inl ⟨by kernel_rfl, ?_⟩) (by assumption) ?_
  · intro W hSw; go_simp
  try simp only [Act.put, List.setIfInBounds_toArray, List.set_cons_zero, List.set_cons_succ]
  refine wpAnyH_done (by kernel_rfl) ?_ _
  obtain ⟨d1, d2, d3⟩ := HPS.out.rules
  go_wp2
  go_quiet (fail)
  go_wp2
  go_ret3
  exact ⟨rfl, bel_drewN (HB0.out.trans (HBS.out.mono HB0.out.size)) _⟩
end Go.Proofs.YtoejdhabpajhlaaDoor
