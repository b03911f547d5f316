/- The walks of the reference's Compare and Sort. -/
import Derived.Test.YtbaogoiiekpgiaaDoorLess2G
import Derived.Test.YtbaogoiiekpgiaaDoorColL
namespace Go.Proofs.YtbaogoiiekpgiaaDoor
set_option linter.unusedVariables false
set_option linter.unusedSimpArgs false
open Go.RowKit
attribute [local go_sem] run_index_arr run_part_agg run_part_one run_field_agg

def IntS (n : Int) (w : World) (e : Ending) (w' : World) : Prop := e = .returned (.int .i64 n) ∧ Below w.heap.size w w'
/-- Less, of two right values, and the other way -/
theorem rLess_two (a b : JV) (cs cs' : List Value) (F F' : Nat → Prop) (w : World) (hv : VR w F cs a) (hv' : VR w F' cs' b) (g : gd a) (g' : gd b) (c : Came a) (c' : Came b) :
    Calls Tryd.prog 27 #[.agg cs.toArray, .agg cs'.toArray] w (BoolS (decide (cmpJ a b = -1)) w) ∧ Calls Tryd.prog 27 #[.agg cs'.toArray, .agg cs.toArray] w (BoolS (decide (cmpJ a b = 1)) w) := by
  have h1 := rLess_all _ a b (Nat.le_refl _) 8 8 cs cs' F F' w hv hv' g.j g'.j c c'
  have h2 := rLess_all _ b a (Nat.le_refl _) 8 8 cs' cs F' F w hv' hv g'.j g.j c' c
  have e : decide (cmpJ b a = -1) = decide (cmpJ a b = 1) := by rw [cmpJ_anti g.j g'.j]; rw [decide_eq_decide]; omega
  rw [e] at h2
  exact ⟨h1, h2⟩
set_option maxRecDepth 100000 in
set_option maxHeartbeats 4000000 in
theorem rCompare (a b : JV) (cs cs' : List Value) (F F' : Nat → Prop) (w : World) (hv : VR w F cs a) (hv' : VR w F' cs' b) (g : gd a) (g' : gd b) (c : Came a) (c' : Came b) :
    Calls Tryd.prog 20 #[.agg cs.toArray, .agg cs'.toArray] w (IntS (cmpJ a b) w) := by
  have HL := Lib.hid (fun (W : World) (h : Below w.heap.size w W) => rLess_two a b cs cs' F F' W (hv.bel h) (hv'.bel h) g g' c c')
  obtain ⟨k0, n0, s0, A0, na0, ca0, B0, nb0, cb0, rfl⟩ := hv.form
  obtain ⟨k1, n1, s1, A1, na1, ca1, B1, nb1, cb1, rfl⟩ := hv'.form
  have h3 := cmpJ_3 a b
  obtain ⟨R, hR⟩ : ∃ R, cmpJ a b = R := ⟨_, rfl⟩
  rw [hR] at HL h3 ⊢
  clear hv hv' g g' c c' hR
  have HH := Lib.hid (((Held.nil w).push 28 #[.int .i64 k0, .int .i64 n0, .string s0, .slice A0 na0 ca0, .slice B0 nb0 cb0] rfl).push 28 #[.int .i64 k1, .int .i64 n1, .string s1, .slice A1 na1 ca1, .slice B1 nb1 cb1] (g := w.heap.size + 1) (by simp))
  have y1 : w.heap.size ≠ w.heap.size + 1 := by omega
  have y2 : w.heap.size + 1 ≠ w.heap.size := by omega
  have HH9 := HH
  go_enter Tryd.func20, Tryd.ntmps20
  rcases h3 with rfl | rfl | rfl
  · have H1 := Lib.hid (show Calls Tryd.prog 27 _ _ (BoolS true _) from (HL.out _ HH.out.1).1)
    go_wp2_with fail
    refine H1.out.mono ?_
    rintro e w1 ⟨rfl, hb1⟩
    have HH1 := Lib.hid (HH.out.keep hb1)
    clear hb1
    go_wp2
    go_ret
    exact ⟨rfl, HH1.out.1⟩
  · have H1 := Lib.hid (show Calls Tryd.prog 27 _ _ (BoolS false _) from (HL.out _ HH.out.1).1)
    have H2 := Lib.hid (fun W (h : Below w.heap.size w W) => show Calls Tryd.prog 27 _ _ (BoolS false _) from (HL.out W h).2)
    go_wp2_with fail
    refine H1.out.mono ?_
    rintro e w1 ⟨rfl, hb1⟩
    have HH1 := Lib.hid (HH.out.keep hb1)
    clear hb1
    obtain ⟨c1, f1, l1⟩ := HH1.out.b1.rules
    obtain ⟨c2, f2, l2⟩ := HH1.out.b0.rules
    go_wp2_with fail
    refine (H2.out _ HH1.out.1).mono ?_
    rintro e w2 ⟨rfl, hb2⟩
    have HH2 := Lib.hid (HH1.out.keep hb2)
    clear hb2
    go_wp2
    go_ret
    exact ⟨rfl, HH2.out.1⟩
  · have H1 := Lib.hid (show Calls Tryd.prog 27 _ _ (BoolS false _) from (HL.out _ HH.out.1).1)
    have H2 := Lib.hid (fun W (h : Below w.heap.size w W) => show Calls Tryd.prog 27 _ _ (BoolS true _) from (HL.out W h).2)
    go_wp2_with fail
    refine H1.out.mono ?_
    rintro e w1 ⟨rfl, hb1⟩
    have HH1 := Lib.hid (HH.out.keep hb1)
    clear hb1
    obtain ⟨c1, f1, l1⟩ := HH1.out.b1.rules
    obtain ⟨c2, f2, l2⟩ := HH1.out.b0.rules
    go_wp2_with fail
    refine (H2.out _ HH1.out.1).mono ?_
    rintro e w2 ⟨rfl, hb2⟩
    have HH2 := Lib.hid (HH1.out.keep hb2)
    clear hb2
    go_wp2
    go_ret
    exact ⟨rfl, HH2.out.1⟩
/-- the end of a round of Sort -/
theorem sort_fin {W W3 : World} {v3 : Value} {css3 : List (List Value)} {out : List JV} {cx : List Value} {x : JV} {a i B : Nat} {t : TypeId} (hv : VRs W TT css3 out) (hx : VR W TT cx x)
    (hown : W3.ownsRow B t 5 v3 (i + 1) ((css3.take a).flatten ++ cx ++ (css3.drop a).flatten)) (hb : Below W.heap.size W W3) (hlen : out.length = i) (ha : a ≤ i) : ∃ A cap, v3 = .slice A (i + 1) cap ∧ RowV W3 A cap (out.take a ++ x :: out.drop a) := by
  have h1 : VRs W TT ((css3.take a ++ [cx]) ++ css3.drop a) ((out.take a ++ [x]) ++ out.drop a) := ((hv.take a).snoc hx).append (hv.drop a)
  have e : ((css3.take a ++ [cx]) ++ css3.drop a).flatten = (css3.take a).flatten ++ cx ++ (css3.drop a).flatten := by simp
  rw [← e] at hown
  rw [show out.take a ++ x :: out.drop a = (out.take a ++ [x]) ++ out.drop a by simp]
  exact RowV.own hown (by simp; omega) (h1.below hb)
theorem len_pre (l : List JV) : ∀ out : List JV, (l.foldl rInsJ out).length = l.length + out.length := by
  induction l with
  | nil => intro out; simp
  | cons x r ih =>
    intro out
    rw [List.foldl_cons, ih, (rInsJ_perm out x).length_eq]
    simp; omega
set_option maxRecDepth 100000 in
set_option maxHeartbeats 8000000 in
theorem rSort (l : List JV) (A : Option Addr) (nk ca : Nat) (w : World) (hr : RowV w A ca l) (hnk : l.length = nk) (hlen : nk ≤ 4194304) (hg : ∀ x ∈ l, gd x) (hc : ∀ x ∈ l, Came x) :
    Calls Tryd.prog 24 #[.slice A nk ca] w (RetV (rSortJ l) w) := by
  obtain ⟨i0, hi, hz0, hz1, hz2⟩ := info_parts infoValue7
  have HI := Lib.hid hi
  obtain ⟨css, hr1, hr2, hr3, hr4⟩ := hr
  have HIH := Lib.hid (fun (i : Nat) (x : JV) (hx : l[i]? = some x) => kid_cellsG hr1 hr4 hx)
  have HLS := Lib.hid (fun (x y : JV) (W : World) (csx csy : List Value) (gx : gd x) (gy : gd y) (cx : Came x) (cy : Came y) (hvx : VR W TT csx x) (hvy : VR W TT csy y) => (rLess_two x y csx csy TT TT W hvx hvy gx gy cx cy).1)
  have HGD := Lib.hid (fun (i : Nat) (x : JV) (hx : l[i]? = some x) => And.intro (hg x (List.mem_of_getElem? hx)) (hc x (List.mem_of_getElem? hx)))
  have HGO := Lib.hid (show ∀ (i j : Nat) (y : JV), ((l.take i).foldl rInsJ [])[j]? = some y → gd y ∧ Came y from fun i j y hy => by
    have hp := (rSortJ_all (l.take i) [] (fun x hx => hg x (List.mem_of_mem_take hx)) (by simp) List.Pairwise.nil).1
    rw [List.append_nil] at hp
    have hm := List.mem_of_mem_take (hp.subset (List.mem_of_getElem? hy))
    exact ⟨hg y hm, hc y hm⟩)
  have HEND := Lib.hid (show (l.take nk).foldl rInsJ [] = rSortJ l by rw [List.take_of_length_le (Nat.le_of_eq hnk)]; rfl)
  have HLN := Lib.hid (show (rSortJ l).length = nk by unfold rSortJ; rw [len_pre]; simpa using hnk)
  rw [hnk] at hr2
  have HNK := Lib.hid hnk
  clear hi hr1 hr3 hr4 hg hc hnk
  go_enter Tryd.func24, Tryd.ntmps24
  go_wp2
  go_loopg [3, 4] nk (fun gk s3 s4 wr => ∃ (i : Nat) (A3 : Option Addr) (ca3 : Nat), i ≤ nk ∧ gk = nk - i ∧ s3 = .slice A3 i ca3 ∧ s4 = .int .i64 i ∧ Hid (RowV wr A3 ca3 ((l.take i).foldl rInsJ [])) ∧ Hid (Below w.heap.size w wr))
  case atStart => exact ⟨0, none, 0, Nat.zero_le _, rfl, rfl, by go_num, Lib.hid RowV.nil, Lib.hid (Below.refl _ _)⟩
  case round =>
    obtain ⟨i, A3, ca3, hin, hgk, rfl, rfl, HR, HB⟩ := hrel
    have HG := Lib.hid hgk
    clear hgk
    by_cases hlt : i < nk
    case neg =>
      obtain rfl : i = nk := by omega
      have HRR := Lib.hid (show RowV wr A3 ca3 (rSortJ l) by rw [← HEND.out]; exact HR.out)
      go_wp2
      go_ret
      exact ⟨A3, ca3, by rw [HLN.out]; rfl, HRR.out, HB.out⟩
    obtain ⟨x, hx⟩ : ∃ x, l[i]? = some x := ⟨_, List.getElem?_eq_getElem (by rw [HNK.out]; omega)⟩
    obtain ⟨b, o, k1, n1, s1, A1, na1, ca1, B1, nb1, cb1, rfl, hb, hvx, hz⟩ := HIH.out i x hx
    have HZ := Lib.hid hz
    have HX := Lib.hid (fun (W : World) (h : Below w.heap.size w W) => hvx.bel h)
    have HGX := Lib.hid (HGD.out i x hx)
    have HGI := Lib.hid (HGO.out i)
    obtain ⟨out, hout⟩ : ∃ out, (l.take i).foldl rInsJ [] = out := ⟨_, rfl⟩
    have HPRE := Lib.hid (show ∀ a, rAtJ x out i = a → out.take a ++ x :: out.drop a = (l.take (i + 1)).foldl rInsJ [] from fun a ha => by
      rw [List.take_add_one, hx, List.foldl_append, hout]
      have hl : out.length = i := by rw [← hout, len_pre, List.length_take, HNK.out]; simp; omega
      subst ha
      show _ = rInsJ out x
      unfold rInsJ
      rw [hl])
    have HOL := Lib.hid (show out.length = i by rw [← hout, len_pre, List.length_take, HNK.out]; simp; omega)
    rw [hout] at HR HGI
    have HA9 := Lib.hid (show A3 = none → ca3 = 0 by obtain ⟨_, _, _, h, _⟩ := HR.out; exact h)
    have hic3 : i ≤ ca3 := by obtain ⟨_, _, h, _, _⟩ := HR.out; have := HOL.out; omega
    clear hz hvx hx hout
    go_wp2
    go_loopg [5] (i + 1) (fun gk s5 w8 => ∃ a : Nat, a ≤ i ∧ gk = a + 1 ∧ s5 = .int .i64 a ∧ Hid (rAtJ x out i = rAtJ x out a) ∧ Hid (RowV w8 A3 ca3 out) ∧ Hid (Below w.heap.size w w8))
    case atStart => exact ⟨i, Nat.le_refl _, rfl, by go_num, Lib.hid rfl, HR, HB⟩
    case round =>
      obtain ⟨a, hai0, hgk, rfl, HAT0, HRW0, HB0⟩ := hrel
      have HG2 := Lib.hid hgk
      clear hgk
      by_cases ha0 : a = 0
      · subst ha0
        have HAT := Lib.hid (show rAtJ x out i = 0 by rw [HAT0.out]; rfl)
        go_wp2
        refine wp_region_held_drew (S := fun w' => Below wr.heap.size wr w') (by kernel_rfl) (by exact (Below.refl _ _).drew) (fun hHeld => ?_)
        refine wpAnyH_take (i := 0) (oi := ⟨some 15, _, _, _, _, _⟩) (v := .int .i64 0) rfl (by kernel_rfl) (by kernel_rfl) (by kernel_rfl) (fun _ _ _ h => h) (Or.inl ⟨by kernel_rfl, ?_⟩) (by assumption) ?_
        · intro W hSw; go_simp
        try simp only [Act.put, List.setIfInBounds_toArray, List.set_cons_zero, List.set_cons_succ]
        refine wpAnyH_take (i := 1) (oi := ⟨some 16, _, _, _, _, _⟩) (v := .bool false) rfl (by kernel_rfl) (by kernel_rfl) (by kernel_rfl) (fun _ _ _ h => h) (Or.inl ⟨by kernel_rfl, ?_⟩) (by assumption) ?_
        · intro W hSw; go_simp
        try simp only [Act.put, List.setIfInBounds_toArray, List.set_cons_zero, List.set_cons_succ]
        refine wpAnyH_take (i := 2) (oi := ⟨some 17, _, _, _, _, _⟩) (v := .bool false) rfl (by kernel_rfl) (by kernel_rfl) (by kernel_rfl) (fun _ _ _ h => h) (Or.inl ⟨by kernel_rfl, ?_⟩) (by assumption) ?_
        · intro W hSw; go_simp
        try simp only [Act.put, List.setIfInBounds_toArray, List.set_cons_zero, List.set_cons_succ]
        refine wpAnyH_take (i := 3) (oi := ⟨some 18, _, _, _, _, _⟩) (v := undef) rfl (by kernel_rfl) (by kernel_rfl) (by kernel_rfl) (fun _ _ _ h => h) (Or.inr ⟨by kernel_rfl, rfl⟩) (by assumption) ?_
        try simp only [Act.put, List.setIfInBounds_toArray, List.set_cons_zero, List.set_cons_succ]
        refine wpAnyH_take (i := 4) (oi := ⟨some 19, _, _, _, _, _⟩) (v := undef) rfl (by kernel_rfl) (by kernel_rfl) (by kernel_rfl) (fun _ _ _ h => h) (Or.inr ⟨by kernel_rfl, rfl⟩) (by assumption) ?_
        try simp only [Act.put, List.setIfInBounds_toArray, List.set_cons_zero, List.set_cons_succ]
        refine wpAnyH_take (i := 5) (oi := ⟨some 20, _, _, _, _, _⟩) (v := undef) rfl (by kernel_rfl) (by kernel_rfl) (by kernel_rfl) (fun _ _ _ h => h) (Or.inr ⟨by kernel_rfl, rfl⟩) (by assumption) ?_
        try simp only [Act.put, List.setIfInBounds_toArray, List.set_cons_zero, List.set_cons_succ]
        refine wpAnyH_take (i := 6) (oi := ⟨some 21, _, _, _, _, _⟩) (v := undef) rfl (by kernel_rfl) (by kernel_rfl) (by kernel_rfl) (fun _ _ _ h => h) (Or.inr ⟨by kernel_rfl, rfl⟩) (by assumption) ?_
        try simp only [Act.put, List.setIfInBounds_toArray, List.set_cons_zero, List.set_cons_succ]
        refine wpAnyH_take (i := 7) (oi := ⟨some 22, _, _, _, _, _⟩) (v := undef) rfl (by kernel_rfl) (by kernel_rfl) (by kernel_rfl) (fun _ _ _ h => h) (Or.inr ⟨by kernel_rfl, rfl⟩) (by assumption) ?_
        try simp only [Act.put, List.setIfInBounds_toArray, List.set_cons_zero, List.set_cons_succ]
        refine wpAnyH_take (i := 8) (oi := ⟨some 23, _, _, _, _, _⟩) (v := undef) rfl (by kernel_rfl) (by kernel_rfl) (by kernel_rfl) (fun _ _ _ h => h) (Or.inr ⟨by kernel_rfl, rfl⟩) (by assumption) ?_
        try simp only [Act.put, List.setIfInBounds_toArray, List.set_cons_zero, List.set_cons_succ]
        refine wpAnyH_take (i := 9) (oi := ⟨some 24, _, _, _, _, _⟩) (v := undef) rfl (by kernel_rfl) (by kernel_rfl) (by kernel_rfl) (fun _ _ _ h => h) (Or.inr ⟨by kernel_rfl, rfl⟩) (by assumption) ?_
        try simp only [Act.put, List.setIfInBounds_toArray, List.set_cons_zero, List.set_cons_succ]
        refine wpAnyH_take (i := 10) (oi := ⟨some 25, _, _, _, _, _⟩) (v := undef) rfl (by kernel_rfl) (by kernel_rfl) (by kernel_rfl) (fun _ _ _ h => h) (Or.inr ⟨by kernel_rfl, rfl⟩) (by assumption) ?_
        try simp only [Act.put, List.setIfInBounds_toArray, List.set_cons_zero, List.set_cons_succ]
        refine wpAnyH_take (i := 11) (oi := ⟨some 26, _, _, _, _, _⟩) (v := undef) rfl (by kernel_rfl) (by kernel_rfl) (by kernel_rfl) (fun _ _ _ h => h) (Or.inr ⟨by kernel_rfl, rfl⟩) (by assumption) ?_
        try simp only [Act.put, List.setIfInBounds_toArray, List.set_cons_zero, List.set_cons_succ]
        refine wpAnyH_take (i := 12) (oi := ⟨some 27, _, _, _, _, _⟩) (v := undef) rfl (by kernel_rfl) (by kernel_rfl) (by kernel_rfl) (fun _ _ _ h => h) (Or.inr ⟨by kernel_rfl, rfl⟩) (by assumption) ?_
        try simp only [Act.put, List.setIfInBounds_toArray, List.set_cons_zero, List.set_cons_succ]
        refine wpAnyH_take (i := 13) (oi := ⟨some 28, _, _, _, _, _⟩) (v := .bool false) rfl (by kernel_rfl) (by kernel_rfl) (by kernel_rfl) (fun _ _ _ h => h) (Or.inl ⟨by kernel_rfl, ?_⟩) (by assumption) ?_
        · intro W hSw; go_simp
        try simp only [Act.put, List.setIfInBounds_toArray, List.set_cons_zero, List.set_cons_succ]
        refine wpAnyH_done (by kernel_rfl) ?_ _
        obtain ⟨W, hW⟩ : ∃ W, wr.drew = W := ⟨_, rfl⟩
        rw [hW]
        have HB1 := Lib.hid (show Below w.heap.size w W by rw [← hW]; exact HB0.out.drew)
        have HRW := Lib.hid (show RowV W A3 ca3 out by rw [← hW]; exact HRW0.out.bel (Below.refl _ _).drew)
        clear hW HB0 HRW0
        obtain ⟨css3, r1, r2, r3, r4⟩ := HRW.out
        have hx3 := HX.out W HB1.out
        obtain ⟨B, hB⟩ : ∃ B, W.heap.size = B := ⟨_, rfl⟩
        have htk : (css3.take 0).flatten.length = 0 * 5 := by rw [flat5_len (fun c hc => r1.five c (List.mem_of_mem_take hc)), List.length_take, r1.1]; have := HOL.out; omega
        have hdr : (css3.drop 0).flatten.length = (i - 0) * 5 := by rw [flat5_len (fun c hc => r1.five c (List.mem_of_mem_drop hc)), List.length_drop, r1.1, HOL.out]
        have HTK := Lib.hid htk
        have HDR := Lib.hid hdr
        have HOT := Lib.hid (r1.take 0).one
        have HOD := Lib.hid (r1.drop 0).one
        have hrt : RdF W TT A3 (css3.take 0).flatten := by have h := r4; rw [flat_take css3 0] at h; exact h.pre
        have HRT := Lib.hid hrt
        have HRD := Lib.hid (show ∀ ad, A3 = some ad → RdF W TT (some (ad.add (0 * 5))) (css3.drop 0).flatten from fun ad e => by cases e; rw [← flat5_drop r1.five]; exact r4.dropA (0 * 5))
        have HFIN := Lib.hid (fun (W3 : World) (v3 : Value) (hb : Below W.heap.size W W3) (hown : W3.ownsRow B 28 5 v3 (i + 1) ((css3.take 0).flatten ++ ([.int .i64 k1, .int .i64 n1, .string s1, .slice A1 na1 ca1, .slice B1 nb1 cb1] : List Value) ++ (css3.drop 0).flatten)) => sort_fin r1 hx3 hown hb HOL.out (by omega))
        have H1C : Hid (∀ u ∈ ([.int .i64 k1, .int .i64 n1, .string s1, .slice A1 na1 ca1, .slice B1 nb1 cb1] : List Value), u.oneCell' = true) := Lib.hid hx3.one
        have hA3 : A3 = none → 0 = 0 := fun e => by have := r3 e; have := HOL.out; omega
        have hA4 : A3 = none → i - 0 = 0 := fun e => by have := r3 e; have := HOL.out; omega
        have HA3 := Lib.hid hA3
        have HA4 := Lib.hid hA4
        have hic : i ≤ ca3 := by have := HOL.out; omega
        obtain ⟨q0, q1, q2, q3, q4⟩ := HZ.out _ HB1.out
        have hbl : b < W.heap.size := Nat.lt_of_lt_of_le hb HB1.out.size
        have hBle : B ≤ W.heap.size := Nat.le_of_eq hB.symm
        have HBE := Lib.hid hB
        have ha1 : (0 : Int) ≤ ((0 : Nat) : Int) := by omega
        have ha2 : ((0 : Nat) : Int) ≤ (ca3 : Int) := by omega
        have ha3 : ((0 : Nat) : Int) ≤ (i : Int) := by omega
        have hac : ¬ (ca3 : Int) < ((0 : Nat) : Int) := by omega
        have hai : ¬ (i : Int) < ((0 : Nat) : Int) := by omega
        have hiz1 : (0 : Int) ≤ (i : Int) := by omega
        have hiz2 : (i : Int) < (nk : Int) := by omega
        clear r1 r2 r3 r4 hx3 htk hdr hrt hA3 hA4 hB
        go_upto_region 10 with (at_builtin; refine wpList_append_rd _ rfl _ _ 25 rfl B 28 i0 _ 5 80 Tryd.underlying25 HI.out hz0 hz1 hz2 rfl (by decide) (.slice none 0 0) 0 [] rfl (World.ownsRow_nil W B _ 5) A3 0 ca3 HA3.out (css3.take 0).flatten rfl HTK.out HRT.out.rd HOT.out (by unfold maxLen; omega) (by omega) hBle ?_; intro v1 w1 hown1 hgr1 _)
        rw [Nat.zero_add, List.nil_append] at hown1
        have hb1 := bel_gb hgr1
        have HO1 := Lib.hid hown1
        have HW1 := Lib.hid hb1
        obtain ⟨q0, q1, q2, q3, q4⟩ := HZ.out _ (HB1.out.trans (hb1.mono HB1.out.size))
        have hbl1 : b < w1.heap.size := Nat.lt_of_lt_of_le hbl hb1.size
        have hBle1 : B ≤ (w1.alloc (.cells #[.int .i64 k1, .int .i64 n1, .string s1, .slice A1 na1 ca1, .slice B1 nb1 cb1] 28)).heap.size := by have := hb1.size; simp; omega
        have HNW : Hid (Rd (w1.alloc (.cells #[.int .i64 k1, .int .i64 n1, .string s1, .slice A1 na1 ca1, .slice B1 nb1 cb1] 28)) (some ⟨w1.heap.size, 0, none⟩) [.int .i64 k1, .int .i64 n1, .string s1, .slice A1 na1 ca1, .slice B1 nb1 cb1]) := Lib.hid (Rd.of_blk (Blk.new w1 28 #[.int .i64 k1, .int .i64 n1, .string s1, .slice A1 na1 ca1, .slice B1 nb1 cb1]))
        clear hown1 hgr1 hb1
        go_upto_region 11 with (at_builtin; refine wpList_append_rd _ rfl _ _ 25 rfl B 28 i0 _ 5 80 Tryd.underlying25 HI.out hz0 hz1 hz2 rfl (by decide) v1 0 (css3.take 0).flatten rfl (HO1.out.alloc _) (some ⟨w1.heap.size, 0, none⟩) 1 1 (by intro h; cases h) [.int .i64 k1, .int .i64 n1, .string s1, .slice A1 na1 ca1, .slice B1 nb1 cb1] rfl rfl HNW.out H1C.out (by unfold maxLen; omega) (by omega) hBle1 ?_; intro v2 w2 hown2 hgr2 _)
        have hb2 : Below W.heap.size W w2 := (HW1.out.alloc HW1.out.size _).grown hgr2 (by have := HW1.out.size; simp; omega) (fun k e => by have := (HO1.out.lt k e).1; have := HBE.out; omega)
        have HO2 := Lib.hid hown2
        have HW2 := Lib.hid hb2
        have hBle2 : B ≤ w2.heap.size := by have := hb2.size; have := HBE.out; omega
        clear hown2 hgr2 hb2 q0 q1 q2 q3 q4
        by_cases hck : ca3 = 0
        · have hdn : (css3.drop 0).flatten = [] := List.eq_nil_of_length_eq_zero (by rw [HDR.out]; omega)
          have HDN := Lib.hid hdn
          obtain rfl : i = 0 := by omega
          subst hck
          clear hdn
          go_upto_region 4 with (at_builtin; refine wpList_append_rd _ rfl _ _ 25 rfl B 28 i0 _ 5 80 Tryd.underlying25 HI.out hz0 hz1 hz2 rfl (by decide) v2 (0 + 1) _ rfl HO2.out A3 0 0 (fun _ => rfl) [] rfl rfl Rd.nil (fun u hu => by cases hu) (by unfold maxLen; omega) (by omega) hBle2 ?_; intro v3 w3 hown3 hgr3 _)
          have hb3 : Below W.heap.size W w3 := HW2.out.grown hgr3 HW2.out.size (fun k e => by have := (HO2.out.lt k e).1; have := HBE.out; omega)
          obtain ⟨A9, ca9, rfl, hrow9⟩ := HFIN.out w3 v3 hb3 (by have h := hown3; rw [HDN.out]; exact h)
          have HR9 := Lib.hid hrow9
          have HB9 := Lib.hid (HB1.out.trans (hb3.mono HB1.out.size))
          clear hown3 hgr3 hb3 hrow9
          go_wp2
          go_roundg (nk - (0 + 1))
          case measure => rw [HG.out]; omega
          case rel => exact ⟨0 + 1, A9, ca9, hlt, rfl, rfl, by go_num, Lib.hid (by have h := HR9.out; rwa [HPRE.out 0 HAT.out] at h), HB9⟩
        · have hlt3 : 0 < ca3 := by omega
          have hne : ∃ ad, A3 = some ad := by cases A3 with | none => exact absurd (HA9.out rfl) (by omega) | some ad => exact ⟨ad, rfl⟩
          obtain ⟨ad, rfl⟩ := hne
          have hrd2 : Rd w2 (some (ad.add (0 * 5))) (css3.drop 0).flatten := ((HRD.out ad rfl).keep (KeepF.of_below HW2.out)).rd
          have HR2 := Lib.hid hrd2
          clear hrd2
          go_upto_region 4 with (at_builtin; refine wpList_append_rd _ rfl _ _ 25 rfl B 28 i0 _ 5 80 Tryd.underlying25 HI.out hz0 hz1 hz2 rfl (by decide) v2 (0 + 1) _ rfl HO2.out (some (ad.add (0 * 5))) (i - 0) (ca3 - 0) (by intro h; cases h) (css3.drop 0).flatten rfl HDR.out HR2.out HOD.out (by unfold maxLen; omega) (by omega) hBle2 ?_; intro v3 w3 hown3 hgr3 _)
          have hb3 : Below W.heap.size W w3 := HW2.out.grown hgr3 HW2.out.size (fun k e => by have := (HO2.out.lt k e).1; have := HBE.out; omega)
          obtain ⟨A9, ca9, rfl, hrow9⟩ := HFIN.out w3 v3 hb3 (by have h := hown3; rw [show 0 + 1 + (i - 0) = i + 1 by omega] at h; exact h)
          have HR9 := Lib.hid hrow9
          have HB9 := Lib.hid (HB1.out.trans (hb3.mono HB1.out.size))
          clear hown3 hgr3 hb3 hrow9
          go_wp2
          go_roundg (nk - (i + 1))
          case measure => rw [HG.out]; omega
          case rel => exact ⟨i + 1, A9, ca9, hlt, rfl, rfl, by go_num, Lib.hid (by have h := HR9.out; rwa [HPRE.out 0 HAT.out] at h), HB9⟩
      · obtain ⟨j, rfl⟩ : ∃ j, a = j + 1 := ⟨a - 1, by omega⟩
        obtain ⟨y, hy⟩ : ∃ y, out[j]? = some y := ⟨_, List.getElem?_eq_getElem (by rw [HOL.out]; omega)⟩
        obtain ⟨css8, e1, e2, e3, e4⟩ := HRW0.out
        obtain ⟨b', o', k2, n2, s2, A2, na2, ca2, B2, nb2, cb2, hA3, hb', hvy, hz'⟩ := kid_cellsG e1 e4 hy
        subst hA3
        have HZ' := Lib.hid hz'
        have hLL := HLS.out x y wr.drew _ _ HGX.out.1 (HGI.out j y hy).1 HGX.out.2 (HGI.out j y hy).2 (HX.out _ HB0.out.drew) (hvy.bel (Below.refl _ _).drew)
        have HS := Lib.hid (show rAtJ x out (j + 1) = if cmpJ x y = -1 then rAtJ x out j else j + 1 by rw [rAtJ]; rw [List.getD_eq_getElem?_getD, hy]; rfl)
        obtain ⟨c, hcc⟩ : ∃ c : Bool, decide (cmpJ x y = -1) = c := ⟨_, rfl⟩
        rw [hcc] at hLL
        have HLL := Lib.hid hLL
        have HCC := Lib.hid hcc
        have hbl : b < wr.heap.size := Nat.lt_of_lt_of_le hb HB0.out.size
        have hj1 : ((j + 1 : Nat) : Int) = (j : Int) + 1 := by omega
        have hwj : IntKind.i64.wrap (j : Int) = (j : Int) := by rw [IntKind.wrap_i64]; omega
        have hii1 : (0 : Int) ≤ (i : Int) := by omega
        have hii2 : (i : Int) < (nk : Int) := by omega
        have hjj2 : (j : Int) < (i : Int) := by omega
        clear hz' hvy hy e1 e2 e3 e4 hLL hcc
        go_wp2
        refine wp_region_held_drew (S := fun w' => Below wr.heap.size wr w') (by kernel_rfl) (by exact (Below.refl _ _).drew) (fun hHeld => ?_)
        refine wpAnyH_take (i := 0) (oi := ⟨some 15, _, _, _, _, _⟩) (v := .int .i64 ((j : Int) + 1)) rfl (by kernel_rfl) (by kernel_rfl) (by kernel_rfl) (fun _ _ _ h => h) (Or.inl ⟨by kernel_rfl, ?_⟩) (by assumption) ?_
        · intro W hSw; go_simp
        try simp only [Act.put, List.setIfInBounds_toArray, List.set_cons_zero, List.set_cons_succ]
        refine wpAnyH_take (i := 1) (oi := ⟨some 16, _, _, _, _, _⟩) (v := .bool true) rfl (by kernel_rfl) (by kernel_rfl) (by kernel_rfl) (fun _ _ _ h => h) (Or.inl ⟨by kernel_rfl, ?_⟩) (by assumption) ?_
        · intro W hSw; go_simp
        try simp only [Act.put, List.setIfInBounds_toArray, List.set_cons_zero, List.set_cons_succ]
        refine wpAnyH_take (i := 2) (oi := ⟨some 17, _, _, _, _, _⟩) (v := .bool true) rfl (by kernel_rfl) (by kernel_rfl) (by kernel_rfl) (fun _ _ _ h => h) (Or.inl ⟨by kernel_rfl, ?_⟩) (by assumption) ?_
        · intro W hSw; go_simp
        try simp only [Act.put, List.setIfInBounds_toArray, List.set_cons_zero, List.set_cons_succ]
        refine wpAnyH_take (i := 3) (oi := ⟨some 18, _, _, _, _, _⟩) (v := .slice (some ⟨b, o, none⟩) nk ca) rfl (by kernel_rfl) (by kernel_rfl) (by kernel_rfl) (fun _ _ _ h => h) (Or.inl ⟨by kernel_rfl, ?_⟩) (by assumption) ?_
        · intro W hSw; go_simp
        try simp only [Act.put, List.setIfInBounds_toArray, List.set_cons_zero, List.set_cons_succ]
        refine wpAnyH_take (i := 4) (oi := ⟨some 19, _, _, _, _, _⟩) (v := .int .i64 i) rfl (by kernel_rfl) (by kernel_rfl) (by kernel_rfl) (fun _ _ _ h => h) (Or.inl ⟨by kernel_rfl, ?_⟩) (by assumption) ?_
        · intro W hSw; go_simp
        try simp only [Act.put, List.setIfInBounds_toArray, List.set_cons_zero, List.set_cons_succ]
        refine wpAnyH_take (i := 5) (oi := ⟨some 20, _, _, _, _, _⟩) (v := .pointer (some ⟨b, o + i * 5, none⟩)) rfl (by kernel_rfl) (by kernel_rfl) (by kernel_rfl) (fun _ _ _ h => h) (Or.inl ⟨by kernel_rfl, ?_⟩) (by assumption) ?_
        · intro W hSw; obtain ⟨p0, p1, p2, p3, p4⟩ := HZ.out W (HB0.out.trans (hSw.mono HB0.out.size)); obtain ⟨q0, q1, q2, q3, q4⟩ := HZ'.out W hSw; go_simp
        try simp only [Act.put, List.setIfInBounds_toArray, List.set_cons_zero, List.set_cons_succ]
        refine wpAnyH_take (i := 6) (oi := ⟨some 21, _, _, _, _, _⟩) (v := .agg #[.int .i64 k1, .int .i64 n1, .string s1, .slice A1 na1 ca1, .slice B1 nb1 cb1]) rfl (by kernel_rfl) (by kernel_rfl) (by kernel_rfl) (fun _ _ _ h => h) (Or.inl ⟨by kernel_rfl, ?_⟩) (by assumption) ?_
        · intro W hSw; obtain ⟨p0, p1, p2, p3, p4⟩ := HZ.out W (HB0.out.trans (hSw.mono HB0.out.size)); obtain ⟨q0, q1, q2, q3, q4⟩ := HZ'.out W hSw; go_simp
        try simp only [Act.put, List.setIfInBounds_toArray, List.set_cons_zero, List.set_cons_succ]
        refine wpAnyH_take (i := 7) (oi := ⟨some 22, _, _, _, _, _⟩) (v := .slice (some ⟨b', o', none⟩) i ca3) rfl (by kernel_rfl) (by kernel_rfl) (by kernel_rfl) (fun _ _ _ h => h) (Or.inl ⟨by kernel_rfl, ?_⟩) (by assumption) ?_
        · intro W hSw; go_simp
        try simp only [Act.put, List.setIfInBounds_toArray, List.set_cons_zero, List.set_cons_succ]
        refine wpAnyH_take (i := 8) (oi := ⟨some 23, _, _, _, _, _⟩) (v := .int .i64 ((j : Int) + 1)) rfl (by kernel_rfl) (by kernel_rfl) (by kernel_rfl) (fun _ _ _ h => h) (Or.inl ⟨by kernel_rfl, ?_⟩) (by assumption) ?_
        · intro W hSw; go_simp
        try simp only [Act.put, List.setIfInBounds_toArray, List.set_cons_zero, List.set_cons_succ]
        refine wpAnyH_take (i := 9) (oi := ⟨some 24, _, _, _, _, _⟩) (v := .int .i64 j) rfl (by kernel_rfl) (by kernel_rfl) (by kernel_rfl) (fun _ _ _ h => h) (Or.inl ⟨by kernel_rfl, ?_⟩) (by assumption) ?_
        · intro W hSw; go_simp
        try simp only [Act.put, List.setIfInBounds_toArray, List.set_cons_zero, List.set_cons_succ]
        refine wpAnyH_take (i := 10) (oi := ⟨some 25, _, _, _, _, _⟩) (v := .pointer (some ⟨b', o' + j * 5, none⟩)) rfl (by kernel_rfl) (by kernel_rfl) (by kernel_rfl) (fun _ _ _ h => h) (Or.inl ⟨by kernel_rfl, ?_⟩) (by assumption) ?_
        · intro W hSw; obtain ⟨p0, p1, p2, p3, p4⟩ := HZ.out W (HB0.out.trans (hSw.mono HB0.out.size)); obtain ⟨q0, q1, q2, q3, q4⟩ := HZ'.out W hSw; go_simp
        try simp only [Act.put, List.setIfInBounds_toArray, List.set_cons_zero, List.set_cons_succ]
        refine wpAnyH_take (i := 11) (oi := ⟨some 26, _, _, _, _, _⟩) (v := .agg #[.int .i64 k2, .int .i64 n2, .string s2, .slice A2 na2 ca2, .slice B2 nb2 cb2]) rfl (by kernel_rfl) (by kernel_rfl) (by kernel_rfl) (fun _ _ _ h => h) (Or.inl ⟨by kernel_rfl, ?_⟩) (by assumption) ?_
        · intro W hSw; obtain ⟨p0, p1, p2, p3, p4⟩ := HZ.out W (HB0.out.trans (hSw.mono HB0.out.size)); obtain ⟨q0, q1, q2, q3, q4⟩ := HZ'.out W hSw; go_simp
        try simp only [Act.put, List.setIfInBounds_toArray, List.set_cons_zero, List.set_cons_succ]
        refine wpAnyH_ready (rs := [12]) (by kernel_rfl) (by simp) ?_
        refine AllReadyH.cons (o := ⟨some 27, _, _, _, _, _⟩) rfl (fun K hK => ?_) AllReadyH.nil
        go_simp
        refine HLL.out.mono ?_
        rintro e w9 ⟨rfl, hb9⟩
        have HW9 := Lib.hid (show Below wr.heap.size wr w9 from ((Below.refl wr.heap.size wr).drew).trans hb9)
        clear hb9
        refine hK.out _ _ (by exact HW9.out) (fun hHeld2 => ?_)
        clear hK K hHeld
        have hHeld := hHeld2
        clear hHeld2
        try simp only [Act.put, List.setIfInBounds_toArray, List.set_cons_zero, List.set_cons_succ]
        refine wpAnyH_take (i := 13) (oi := ⟨some 28, _, _, _, _, _⟩) (v := .bool c) rfl (by kernel_rfl) (by kernel_rfl) (by kernel_rfl) (fun _ _ _ h => h) (Or.inl ⟨by kernel_rfl, ?_⟩) (by assumption) ?_
        · intro W hSw; go_simp
        try simp only [Act.put, List.setIfInBounds_toArray, List.set_cons_zero, List.set_cons_succ]
        refine wpAnyH_done (by kernel_rfl) ?_ _
        have HB2 := Lib.hid (HB0.out.trans (HW9.out.mono HB0.out.size))
        have HRW2 := Lib.hid (HRW0.out.bel HW9.out)
        clear HB0 HRW0 HLL
        cases c with
        | true =>
          have HSS := Lib.hid (show rAtJ x out i = rAtJ x out j by rw [HAT0.out, HS.out, if_pos (of_decide_eq_true HCC.out)])
          go_wp2
          go_roundg (j + 1)
          case measure => rw [HG2.out]; omega
          case rel => exact ⟨j, by omega, rfl, by go_num, HSS, HRW2, HB2⟩
        | false =>
          have HAT := Lib.hid (show rAtJ x out i = j + 1 by rw [HAT0.out, HS.out, if_neg (of_decide_eq_false HCC.out)])
          have HB1 := HB2
          have HRW := HRW2
          obtain ⟨css3, r1, r2, r3, r4⟩ := HRW.out
          have hx3 := HX.out w9 HB1.out
          obtain ⟨B, hB⟩ : ∃ B, w9.heap.size = B := ⟨_, rfl⟩
          have htk : (css3.take (j + 1)).flatten.length = (j + 1) * 5 := by rw [flat5_len (fun c hc => r1.five c (List.mem_of_mem_take hc)), List.length_take, r1.1]; have := HOL.out; omega
          have hdr : (css3.drop (j + 1)).flatten.length = (i - (j + 1)) * 5 := by rw [flat5_len (fun c hc => r1.five c (List.mem_of_mem_drop hc)), List.length_drop, r1.1, HOL.out]
          have HTK := Lib.hid htk
          have HDR := Lib.hid hdr
          have HOT := Lib.hid (r1.take (j + 1)).one
          have HOD := Lib.hid (r1.drop (j + 1)).one
          have hrt : RdF w9 TT (some (⟨b', o', none⟩ : Addr)) (css3.take (j + 1)).flatten := by have h := r4; rw [flat_take css3 (j + 1)] at h; exact h.pre
          have HRT := Lib.hid hrt
          have HRD := Lib.hid (show ∀ ad, (some (⟨b', o', none⟩ : Addr)) = some ad → RdF w9 TT (some (ad.add ((j + 1) * 5))) (css3.drop (j + 1)).flatten from fun ad e => by cases e; rw [← flat5_drop r1.five]; exact r4.dropA ((j + 1) * 5))
          have HFIN := Lib.hid (fun (W3 : World) (v3 : Value) (hb : Below w9.heap.size w9 W3) (hown : W3.ownsRow B 28 5 v3 (i + 1) ((css3.take (j + 1)).flatten ++ ([.int .i64 k1, .int .i64 n1, .string s1, .slice A1 na1 ca1, .slice B1 nb1 cb1] : List Value) ++ (css3.drop (j + 1)).flatten)) => sort_fin r1 hx3 hown hb HOL.out (by omega))
          have H1C : Hid (∀ u ∈ ([.int .i64 k1, .int .i64 n1, .string s1, .slice A1 na1 ca1, .slice B1 nb1 cb1] : List Value), u.oneCell' = true) := Lib.hid hx3.one
          have hA3 : (some (⟨b', o', none⟩ : Addr)) = none → (j + 1) = 0 := fun e => by have := r3 e; have := HOL.out; omega
          have hA4 : (some (⟨b', o', none⟩ : Addr)) = none → i - (j + 1) = 0 := fun e => by have := r3 e; have := HOL.out; omega
          have HA3 := Lib.hid hA3
          have HA4 := Lib.hid hA4
          have hic : i ≤ ca3 := by have := HOL.out; omega
          obtain ⟨q0, q1, q2, q3, q4⟩ := HZ.out _ HB1.out
          have hbl : b < w9.heap.size := Nat.lt_of_lt_of_le hb HB1.out.size
          have hBle : B ≤ w9.heap.size := Nat.le_of_eq hB.symm
          have HBE := Lib.hid hB
          have ha1 : (0 : Int) ≤ (((j + 1) : Nat) : Int) := by omega
          have ha2 : (((j + 1) : Nat) : Int) ≤ (ca3 : Int) := by omega
          have ha3 : (((j + 1) : Nat) : Int) ≤ (i : Int) := by omega
          have hac : ¬ (ca3 : Int) < (((j + 1) : Nat) : Int) := by omega
          have hai : ¬ (i : Int) < (((j + 1) : Nat) : Int) := by omega
          have hiz1 : (0 : Int) ≤ (i : Int) := by omega
          have hiz2 : (i : Int) < (nk : Int) := by omega
          clear r1 r2 r3 r4 hx3 htk hdr hrt hA3 hA4 hB
          go_upto_region 10 with (at_builtin; refine wpList_append_rd _ rfl _ _ 25 rfl B 28 i0 _ 5 80 Tryd.underlying25 HI.out hz0 hz1 hz2 rfl (by decide) (.slice none 0 0) 0 [] rfl (World.ownsRow_nil w9 B _ 5) (some (⟨b', o', none⟩ : Addr)) (j + 1) ca3 HA3.out (css3.take (j + 1)).flatten rfl HTK.out HRT.out.rd HOT.out (by unfold maxLen; omega) (by omega) hBle ?_; intro v1 w1 hown1 hgr1 _)
          rw [Nat.zero_add, List.nil_append] at hown1
          have hb1 := bel_gb hgr1
          have HO1 := Lib.hid hown1
          have HW1 := Lib.hid hb1
          obtain ⟨q0, q1, q2, q3, q4⟩ := HZ.out _ (HB1.out.trans (hb1.mono HB1.out.size))
          have hbl1 : b < w1.heap.size := Nat.lt_of_lt_of_le hbl hb1.size
          have hBle1 : B ≤ (w1.alloc (.cells #[.int .i64 k1, .int .i64 n1, .string s1, .slice A1 na1 ca1, .slice B1 nb1 cb1] 28)).heap.size := by have := hb1.size; simp; omega
          have HNW : Hid (Rd (w1.alloc (.cells #[.int .i64 k1, .int .i64 n1, .string s1, .slice A1 na1 ca1, .slice B1 nb1 cb1] 28)) (some ⟨w1.heap.size, 0, none⟩) [.int .i64 k1, .int .i64 n1, .string s1, .slice A1 na1 ca1, .slice B1 nb1 cb1]) := Lib.hid (Rd.of_blk (Blk.new w1 28 #[.int .i64 k1, .int .i64 n1, .string s1, .slice A1 na1 ca1, .slice B1 nb1 cb1]))
          clear hown1 hgr1 hb1
          go_upto_region 11 with (at_builtin; refine wpList_append_rd _ rfl _ _ 25 rfl B 28 i0 _ 5 80 Tryd.underlying25 HI.out hz0 hz1 hz2 rfl (by decide) v1 (j + 1) (css3.take (j + 1)).flatten rfl (HO1.out.alloc _) (some ⟨w1.heap.size, 0, none⟩) 1 1 (by intro h; cases h) [.int .i64 k1, .int .i64 n1, .string s1, .slice A1 na1 ca1, .slice B1 nb1 cb1] rfl rfl HNW.out H1C.out (by unfold maxLen; omega) (by omega) hBle1 ?_; intro v2 w2 hown2 hgr2 _)
          have hb2 : Below w9.heap.size w9 w2 := (HW1.out.alloc HW1.out.size _).grown hgr2 (by have := HW1.out.size; simp; omega) (fun k e => by have := (HO1.out.lt k e).1; have := HBE.out; omega)
          have HO2 := Lib.hid hown2
          have HW2 := Lib.hid hb2
          have hBle2 : B ≤ w2.heap.size := by have := hb2.size; have := HBE.out; omega
          clear hown2 hgr2 hb2 q0 q1 q2 q3 q4
          by_cases hck : ca3 = (j + 1)
          · have hdn : (css3.drop (j + 1)).flatten = [] := List.eq_nil_of_length_eq_zero (by rw [HDR.out]; omega)
            have HDN := Lib.hid hdn
            obtain rfl : i = (j + 1) := by omega
            subst hck
            clear hdn
            go_upto_region 4 with (at_builtin; refine wpList_append_rd _ rfl _ _ 25 rfl B 28 i0 _ 5 80 Tryd.underlying25 HI.out hz0 hz1 hz2 rfl (by decide) v2 ((j + 1) + 1) _ rfl HO2.out (some (⟨b', o', none⟩ : Addr)) 0 0 (fun _ => rfl) [] rfl rfl Rd.nil (fun u hu => by cases hu) (by unfold maxLen; omega) (by omega) hBle2 ?_; intro v3 w3 hown3 hgr3 _)
            have hb3 : Below w9.heap.size w9 w3 := HW2.out.grown hgr3 HW2.out.size (fun k e => by have := (HO2.out.lt k e).1; have := HBE.out; omega)
            obtain ⟨A9, ca9, rfl, hrow9⟩ := HFIN.out w3 v3 hb3 (by have h := hown3; rw [HDN.out]; exact h)
            have HR9 := Lib.hid hrow9
            have HB9 := Lib.hid (HB1.out.trans (hb3.mono HB1.out.size))
            clear hown3 hgr3 hb3 hrow9
            go_wp2
            go_roundg (nk - ((j + 1) + 1))
            case measure => rw [HG.out]; omega
            case rel => exact ⟨(j + 1) + 1, A9, ca9, hlt, rfl, rfl, by go_num, Lib.hid (by have h := HR9.out; rwa [HPRE.out (j + 1) HAT.out] at h), HB9⟩
          · have hlt3 : (j + 1) < ca3 := by omega
            have hrd2 : Rd w2 (some ((⟨b', o', none⟩ : Addr).add ((j + 1) * 5))) (css3.drop (j + 1)).flatten := ((HRD.out (⟨b', o', none⟩ : Addr) rfl).keep (KeepF.of_below HW2.out)).rd
            have HR2 := Lib.hid hrd2
            clear hrd2
            go_upto_region 4 with (at_builtin; refine wpList_append_rd _ rfl _ _ 25 rfl B 28 i0 _ 5 80 Tryd.underlying25 HI.out hz0 hz1 hz2 rfl (by decide) v2 ((j + 1) + 1) _ rfl HO2.out (some ((⟨b', o', none⟩ : Addr).add ((j + 1) * 5))) (i - (j + 1)) (ca3 - (j + 1)) (by intro h; cases h) (css3.drop (j + 1)).flatten rfl HDR.out HR2.out HOD.out (by unfold maxLen; omega) (by omega) hBle2 ?_; intro v3 w3 hown3 hgr3 _)
            have hb3 : Below w9.heap.size w9 w3 := HW2.out.grown hgr3 HW2.out.size (fun k e => by have := (HO2.out.lt k e).1; have := HBE.out; omega)
            obtain ⟨A9, ca9, rfl, hrow9⟩ := HFIN.out w3 v3 hb3 (by have h := hown3; rw [show (j + 1) + 1 + (i - (j + 1)) = i + 1 by omega] at h; exact h)
            have HR9 := Lib.hid hrow9
            have HB9 := Lib.hid (HB1.out.trans (hb3.mono HB1.out.size))
            clear hown3 hgr3 hb3 hrow9
            go_wp2
            go_roundg (nk - (i + 1))
            case measure => rw [HG.out]; omega
            case rel => exact ⟨i + 1, A9, ca9, hlt, rfl, rfl, by go_num, Lib.hid (by have h := HR9.out; rwa [HPRE.out (j + 1) HAT.out] at h), HB9⟩
end Go.Proofs.YtbaogoiiekpgiaaDoor
