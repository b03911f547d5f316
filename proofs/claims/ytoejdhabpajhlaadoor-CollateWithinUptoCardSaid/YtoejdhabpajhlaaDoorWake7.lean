import Derived.Test.YtoejdhabpajhlaaDoorColL
import Derived.Test.YtoejdhabpajhlaaDoorPlace2
import Derived.Test.YtoejdhabpajhlaaDoorFrontG
import Derived.Test.YtoejdhabpajhlaaDoorSortG
/- Plain: what the layer says of the few values that law 7 wakes it with. -/
namespace Go.Proofs.YtoejdhabpajhlaaDoor
set_option linter.unusedVariables false
set_option linter.unusedSimpArgs false
open Go.RowKit

theorem gd_in (n : Int) : gd (jIn n) := by unfold gd good jIn; simp [goodJ, goodL, goodA, nodesJ, nodesL]
theorem iw_small {n : Int} (h0 : -1000 ≤ n) (h1 : n ≤ 1000) : iw n := by unfold iw; omega
theorem came_in {n : Int} (h : iw n) : Came (jIn n) := ⟨by unfold jIn inJ inL; exact ⟨by unfold iw; decide, h, trivial⟩, by unfold jIn bulkJ bulkK bulkL; decide⟩
theorem cmp_in (a b : Int) : cmpJ (jIn a) (jIn b) = sgnI (a - b) := by unfold jIn; simp [cmpJ, rankJ, cmpN, JV.num]
theorem good_zero : good jZero = false := by unfold good jZero; simp [goodJ, goodA]
theorem came_zero : Came jZero := ⟨by unfold jZero inJ inL iw; decide, by unfold jZero bulkJ bulkK bulkL; decide⟩
theorem w7_a : gd (jList [jIn 1, jIn 2]) ∧ gd (jList [jIn 1]) ∧ gd (jList [jIn 2]) ∧ gd (jList [jIn 1, jIn 2, jIn 3]) := by
  unfold gd good jList jIn; simp [goodJ, goodL, goodA, nodesJ, nodesL]
theorem w7_b : Came (jList [jIn 1, jIn 2]) ∧ Came (jList [jIn 1]) ∧ Came (jList [jIn 2]) ∧ Came (jList [jIn 1, jIn 2, jIn 3]) := by
  refine ⟨⟨?_, ?_⟩, ⟨?_, ?_⟩, ⟨?_, ?_⟩, ⟨?_, ?_⟩⟩ <;> simp [jList, jIn, inJ, inL, iw, bulkJ, bulkK, bulkL]
theorem w7_cmp : cmpO (jList [jIn 1, jIn 2]) (jList [jIn 1]) = (1, 0) := by
  unfold cmpO
  rw [if_pos ⟨w7_a.1, w7_a.2.1⟩]
  simp [jList, jIn, cmpJ, cmpL, rankJ, cmpN, JV.num, JV.kids, JV.keys, sgnI, lexI]
theorem w7_no : cmpO jZero (jIn 1) = (0, 140) := by
  unfold cmpO; rw [if_neg]; rintro ⟨h, _⟩; rw [good_zero] at h; cases h
theorem w7_sort : rSortJ [jList [jIn 2], jIn 7, .mk 1 0 [] [] []] = [.mk 1 0 [] [] [], jIn 7, jList [jIn 2]] := by
  refine (rSortJ_is ?_ ?_ ?_).symm
  · intro x hx
    simp only [List.mem_cons, List.not_mem_nil, or_false] at hx
    rcases hx with rfl | rfl | rfl
    · exact w7_a.2.2.1
    · exact gd_in 7
    · exact (show gd (.mk 1 0 [] [] []) by unfold gd good; simp [goodJ, goodL, goodA, nodesJ, nodesL])
  · exact (List.Perm.cons _ (List.Perm.swap ..)).trans ((List.Perm.swap ..).trans (List.Perm.cons _ (List.Perm.swap ..)))
  · unfold SortedJ
    simp [jList, jIn, cmpJ, rankJ, sgnI]
theorem w7_front : frontO (jList [jIn 1, jIn 2, jIn 3]) 2 = (jList [jIn 1, jIn 2], 0) := by
  unfold frontO frontI
  rw [if_pos (show good (jList [jIn 1, jIn 2, jIn 3]) = true from w7_a.2.2.2), if_neg (by decide)]
  simp [frontJ, jList]
theorem w7_place : placeO [jIn 1, jIn 3, jIn 3, jIn 4] (jIn 3) = (1, 3, 0) := by
  unfold placeO
  rw [if_pos (by intro x hx; simp at hx; rcases hx with rfl | rfl | rfl | rfl <;> exact gd_in _)]
  unfold placeI
  rw [if_pos (by simp [NextJ, cmp_in, sgnI])]
  simp [aheadJ, notJ, cmp_in, sgnI]
theorem w7_place2 : placeO [jIn 2, jIn 1] (jIn 1) = (0, 0, 2) := by
  unfold placeO
  rw [if_pos (by intro x hx; simp at hx; rcases hx with rfl | rfl <;> exact gd_in _)]
  unfold placeI
  rw [if_neg (by simp [NextJ, cmp_in, sgnI])]
end Go.Proofs.YtoejdhabpajhlaaDoor

/- The walk of davenportlaw07.wakes: the layer does what it is for. -/
namespace Go.Proofs.YtoejdhabpajhlaaDoor
set_option linter.unusedVariables false
set_option linter.unusedSimpArgs false
open Go.RowKit
attribute [local go_sem] run_index_arr run_part_agg run_part_one run_field_agg

theorem rowv_ins {W : World} {g : Nat} {t : TypeId} : (Blk W g t #[.int .i64 3, .int .i64 1, .string ⟨#[]⟩, .slice none 0 0, .slice none 0 0] → RowV W (some ⟨g, 0, none⟩) 1 [jIn 1]) ∧ (Blk W g t #[.int .i64 3, .int .i64 2, .string ⟨#[]⟩, .slice none 0 0, .slice none 0 0] → RowV W (some ⟨g, 0, none⟩) 1 [jIn 2]) ∧ (Blk W g t #[.int .i64 3, .int .i64 1, .string ⟨#[]⟩, .slice none 0 0, .slice none 0 0, .int .i64 3, .int .i64 2, .string ⟨#[]⟩, .slice none 0 0, .slice none 0 0] → RowV W (some ⟨g, 0, none⟩) 2 [jIn 1, jIn 2]) ∧ (Blk W g t #[.int .i64 3, .int .i64 2, .string ⟨#[]⟩, .slice none 0 0, .slice none 0 0, .int .i64 3, .int .i64 1, .string ⟨#[]⟩, .slice none 0 0, .slice none 0 0] → RowV W (some ⟨g, 0, none⟩) 2 [jIn 2, jIn 1]) :=
  ⟨fun h => RowV.blk (VRs.one_ (VR.in_ 1)) (Nat.le_refl _) h, fun h => RowV.blk (VRs.one_ (VR.in_ 2)) (Nat.le_refl _) h, fun h => RowV.blk (VRs.two_ (VR.in_ 1) (VR.in_ 2)) (Nat.le_refl _) h, fun h => RowV.blk (VRs.two_ (VR.in_ 2) (VR.in_ 1)) (Nat.le_refl _) h⟩
theorem VRs.three_ {W : World} {c1 c2 c3 : List Value} {v1 v2 v3 : JV} (h1 : VR W TT c1 v1) (h2 : VR W TT c2 v2) (h3 : VR W TT c3 v3) : VRs W TT [c1, c2, c3] [v1, v2, v3] := by
  have := (VRs.two_ h1 h2).snoc h3; simpa using this
theorem VRs.four_ {W : World} {c1 c2 c3 c4 : List Value} {v1 v2 v3 v4 : JV} (h1 : VR W TT c1 v1) (h2 : VR W TT c2 v2) (h3 : VR W TT c3 v3) (h4 : VR W TT c4 v4) : VRs W TT [c1, c2, c3, c4] [v1, v2, v3, v4] := by
  have := (VRs.three_ h1 h2 h3).snoc h4; simpa using this
def Ret2 (a b : Int) (w : World) (e : Ending) (w' : World) : Prop := e = .returned (.tuple #[.int .i64 a, .int .i64 b]) ∧ Below w.heap.size w w'
def Ret3 (a b c : Int) (w : World) (e : Ending) (w' : World) : Prop := e = .returned (.tuple #[.int .i64 a, .int .i64 b, .int .i64 c]) ∧ Below w.heap.size w w'
theorem w7c (g g' : Nat) (t t' : TypeId) (w : World) (hG : GOK w) (h1 : Blk w g t #[.int .i64 3, .int .i64 1, .string ⟨#[]⟩, .slice none 0 0, .slice none 0 0, .int .i64 3, .int .i64 2, .string ⟨#[]⟩, .slice none 0 0, .slice none 0 0]) (h2 : Blk w g' t' #[.int .i64 3, .int .i64 1, .string ⟨#[]⟩, .slice none 0 0, .slice none 0 0]) :
    Calls Tryd.prog 12 #[.agg #[.int .i64 5, .int .i64 0, .string ⟨#[]⟩, .slice (some ⟨g, 0, none⟩) 2 2, .slice none 0 0], .agg #[.int .i64 5, .int .i64 0, .string ⟨#[]⟩, .slice (some ⟨g', 0, none⟩) 1 1, .slice none 0 0]] w (Ret2 1 0 w) := by
  have h := cComp (jList [jIn 1, jIn 2]) (jList [jIn 1]) [.int .i64 5, .int .i64 0, .string ⟨#[]⟩, .slice (some ⟨g, 0, none⟩) 2 2, .slice none 0 0] [.int .i64 5, .int .i64 0, .string ⟨#[]⟩, .slice (some ⟨g', 0, none⟩) 1 1, .slice none 0 0] TT TT w hG (VR.list_ (rowv_ins.2.2.1 h1) rfl) (VR.list_ (rowv_ins.1 h2) rfl) w7_b.1 w7_b.2.1
  rw [w7_cmp] at h
  exact h
theorem w7n (w : World) (hG : GOK w) : Calls Tryd.prog 12 #[.agg #[.int .i64 0, .int .i64 0, .string ⟨#[]⟩, .slice none 0 0, .slice none 0 0], .agg #[.int .i64 3, .int .i64 1, .string ⟨#[]⟩, .slice none 0 0, .slice none 0 0]] w (Ret2 0 140 w) := by
  have h := cComp jZero (jIn 1) [.int .i64 0, .int .i64 0, .string ⟨#[]⟩, .slice none 0 0, .slice none 0 0] [.int .i64 3, .int .i64 1, .string ⟨#[]⟩, .slice none 0 0, .slice none 0 0] TT TT w hG VR.zero (VR.in_ 1) came_zero (came_in (iw_small (by omega) (by omega)))
  rw [w7_no] at h
  exact h
def Srt7 (w : World) (e : Ending) (w' : World) : Prop := (∃ g, e = .returned (.tuple #[.slice (some ⟨g, 0, none⟩) 3 3, .int .i64 0]) ∧ g < w'.heap.size ∧ w'.cell? ⟨g, 0, none⟩ = some (.int .i64 1) ∧ w'.cell? ⟨g, 6, none⟩ = some (.int .i64 7)) ∧ Below w.heap.size w w'
theorem w7s (g g' : Nat) (t t' : TypeId) (w : World) (hG : GOK w) (h1 : Blk w g t #[.int .i64 3, .int .i64 2, .string ⟨#[]⟩, .slice none 0 0, .slice none 0 0]) (h2 : Blk w g' t' #[.int .i64 5, .int .i64 0, .string ⟨#[]⟩, .slice (some ⟨g, 0, none⟩) 1 1, .slice none 0 0, .int .i64 3, .int .i64 7, .string ⟨#[]⟩, .slice none 0 0, .slice none 0 0, .int .i64 1, .int .i64 0, .string ⟨#[]⟩, .slice none 0 0, .slice none 0 0]) :
    Calls Tryd.prog 29 #[.slice (some ⟨g', 0, none⟩) 3 3] w (Srt7 w) := by
  have h := cSort [jList [jIn 2], jIn 7, .mk 1 0 [] [] []] (some ⟨g', 0, none⟩) 3 3 w hG (RowV.blk (VRs.three_ (VR.list_ (rowv_ins.2.1 h1) rfl) (VR.in_ 7) (VR.atom 1 0 [])) (Nat.le_refl _) h2) rfl (by omega) (by
    intro x hx
    simp only [List.mem_cons, List.not_mem_nil, or_false] at hx
    rcases hx with rfl | rfl | rfl
    · exact w7_b.2.2.1
    · exact came_in (iw_small (by omega) (by omega))
    · exact came_null)
  refine h.mono ?_
  rintro e w' ⟨h1 | h1, hb⟩
  · obtain ⟨_, g2, rfl, hrow⟩ := h1
    rw [w7_sort] at hrow
    obtain ⟨css, q1, q2, q3, q4⟩ := hrow
    obtain ⟨b, o, k1, n1, s1, A1, na1, ca1, B1, nb1, cb1, e1, hb1, hv1, hz1⟩ := kid_cellsG q1 q4 (i := 0) rfl
    obtain ⟨b', o', k2, n2, s2, A2, na2, ca2, B2, nb2, cb2, e2, hb2, hv2, hz2⟩ := kid_cellsG q1 q4 (i := 1) rfl
    obtain ⟨rfl, rfl⟩ : g2 = b ∧ 0 = o := by simpa using e1
    obtain ⟨rfl, rfl⟩ : g2 = b' ∧ 0 = o' := by simpa using e2
    obtain ⟨z0, z1, _⟩ := hz1 w' (Below.refl _ _)
    obtain ⟨y0, y1, _⟩ := hz2 w' (Below.refl _ _)
    obtain ⟨_, _, _, _, _, e3, _⟩ := hv1.out
    obtain ⟨_, _, _, _, _, e4, _⟩ := VR.out (k := 3) (n := 7) (s := []) (kids := []) (keys := []) hv2
    simp only [List.cons.injEq, Value.int.injEq] at e3 e4
    refine ⟨⟨g2, rfl, hb1, ?_, ?_⟩, hb⟩
    · have := z0; rw [e3.1.2] at this; simpa using this
    · have := y1; rw [e4.2.1.2] at this; simpa using this
  · obtain ⟨⟨x, hx, hng⟩, _⟩ := h1
    exfalso
    simp only [List.mem_cons, List.not_mem_nil, or_false] at hx
    rcases hx with rfl | rfl | rfl
    · exact hng w7_a.2.2.1
    · exact hng (gd_in 7)
    · exact hng gd_null
def Frt7 (w : World) (e : Ending) (w' : World) : Prop := (∃ (n : Int) (s : ByteArray) (A : Option Addr) (ca : Nat) (B : Option Addr) (nb cb : Nat), e = .returned (.tuple #[.agg #[.int .i64 5, .int .i64 n, .string s, .slice A 2 ca, .slice B nb cb], .int .i64 0])) ∧ Below w.heap.size w w'
theorem w7f (g : Nat) (t : TypeId) (w : World) (hG : GOK w) (h1 : Blk w g t #[.int .i64 3, .int .i64 1, .string ⟨#[]⟩, .slice none 0 0, .slice none 0 0, .int .i64 3, .int .i64 2, .string ⟨#[]⟩, .slice none 0 0, .slice none 0 0, .int .i64 3, .int .i64 3, .string ⟨#[]⟩, .slice none 0 0, .slice none 0 0]) : Calls Tryd.prog 30 #[.agg #[.int .i64 5, .int .i64 0, .string ⟨#[]⟩, .slice (some ⟨g, 0, none⟩) 3 3, .slice none 0 0], .int .i64 2] w (Frt7 w) := by
  have h := cFront (jList [jIn 1, jIn 2, jIn 3]) 2 [.int .i64 5, .int .i64 0, .string ⟨#[]⟩, .slice (some ⟨g, 0, none⟩) 3 3, .slice none 0 0] TT w hG (VR.list_ (RowV.blk (VRs.three_ (VR.in_ 1) (VR.in_ 2) (VR.in_ 3)) (Nat.le_refl _) h1) rfl) w7_b.2.2.2 (iw_small (by omega) (by omega))
  rw [w7_front] at h
  refine h.mono ?_
  rintro e w' ⟨⟨cs', rfl, hv⟩, hb⟩
  obtain ⟨A, B, ca, cb, css, rfl, _⟩ := VR.out (k := 5) (n := 0) (s := []) (kids := [jIn 1, jIn 2]) (keys := []) hv
  exact ⟨⟨_, _, _, _, _, _, _, rfl⟩, hb⟩
theorem w7p (g : Nat) (t : TypeId) (w : World) (hG : GOK w) (h1 : Blk w g t #[.int .i64 3, .int .i64 1, .string ⟨#[]⟩, .slice none 0 0, .slice none 0 0, .int .i64 3, .int .i64 3, .string ⟨#[]⟩, .slice none 0 0, .slice none 0 0, .int .i64 3, .int .i64 3, .string ⟨#[]⟩, .slice none 0 0, .slice none 0 0, .int .i64 3, .int .i64 4, .string ⟨#[]⟩, .slice none 0 0, .slice none 0 0]) : Calls Tryd.prog 31 #[.slice (some ⟨g, 0, none⟩) 4 4, .agg #[.int .i64 3, .int .i64 3, .string ⟨#[]⟩, .slice none 0 0, .slice none 0 0]] w (Ret3 1 3 0 w) := by
  have h := cPlace [jIn 1, jIn 3, jIn 3, jIn 4] (jIn 3) (some ⟨g, 0, none⟩) 4 4 [.int .i64 3, .int .i64 3, .string ⟨#[]⟩, .slice none 0 0, .slice none 0 0] w hG (RowV.blk (VRs.four_ (VR.in_ 1) (VR.in_ 3) (VR.in_ 3) (VR.in_ 4)) (Nat.le_refl _) h1) rfl (by omega) (by
    intro x hx
    simp only [List.mem_cons, List.not_mem_nil, or_false] at hx
    rcases hx with rfl | rfl | rfl | rfl <;> exact came_in (iw_small (by omega) (by omega))) (VR.in_ 3) (came_in (iw_small (by omega) (by omega)))
  rw [w7_place] at h
  exact h
theorem w7q (g : Nat) (t : TypeId) (w : World) (hG : GOK w) (h1 : Blk w g t #[.int .i64 3, .int .i64 2, .string ⟨#[]⟩, .slice none 0 0, .slice none 0 0, .int .i64 3, .int .i64 1, .string ⟨#[]⟩, .slice none 0 0, .slice none 0 0]) : Calls Tryd.prog 31 #[.slice (some ⟨g, 0, none⟩) 2 2, .agg #[.int .i64 3, .int .i64 1, .string ⟨#[]⟩, .slice none 0 0, .slice none 0 0]] w (Ret3 0 0 2 w) := by
  have h := cPlace [jIn 2, jIn 1] (jIn 1) (some ⟨g, 0, none⟩) 2 2 [.int .i64 3, .int .i64 1, .string ⟨#[]⟩, .slice none 0 0, .slice none 0 0] w hG (rowv_ins.2.2.2 h1) rfl (by omega) (by
    intro x hx
    simp only [List.mem_cons, List.not_mem_nil, or_false] at hx
    rcases hx with rfl | rfl <;> exact came_in (iw_small (by omega) (by omega))) (VR.in_ 1) (came_in (iw_small (by omega) (by omega)))
  rw [w7_place2] at h
  exact h
set_option maxRecDepth 100000 in
set_option maxHeartbeats 4000000 in
theorem wakes7_any (w : World) (hG : GOK w) : Calls Tryd.prog 11 #[] w (BoolS true w) := by
  have HG := Lib.hid hG
  have HH0 := Lib.hid (Held.nil w)
  clear hG
  go_enter Tryd.func11, Tryd.ntmps11
  go_wp2_with fail
  have HA1 := Lib.hid (Held.push (HH0.out) 28 #[.int .i64 1, .int .i64 0, .string ⟨#[]⟩, .slice none 0 0, .slice none 0 0] (g := w.heap.size) (by first | rfl | simp))
  refine (lIn 1 _).mono ?_
  rintro e w1 ⟨rfl, hb1⟩
  have HH1 := Lib.hid (HA1.out.keep hb1)
  clear hb1 HH0 HA1
  go_wp2_with fail
  refine (lIn 2 _).mono ?_
  rintro e w2 ⟨rfl, hb2⟩
  have HH2 := Lib.hid (HH1.out.keep hb2)
  clear hb2 HH1
  go_wp2_with fail
  have HA3 := Lib.hid (Held.push (HH2.out) 28 #[.int .i64 3, .int .i64 1, .string ⟨#[]⟩, .slice none 0 0, .slice none 0 0, .int .i64 3, .int .i64 2, .string ⟨#[]⟩, .slice none 0 0, .slice none 0 0] (g := w2.heap.size) (by first | rfl | simp))
  refine (lList (some ⟨w2.heap.size, 0, none⟩) 2 2 _).mono ?_
  rintro e w3 ⟨rfl, hb3⟩
  have HH3 := Lib.hid (HA3.out.keep hb3)
  clear hb3 HH2 HA3
  go_wp2_with fail
  refine (lIn 1 _).mono ?_
  rintro e w4 ⟨rfl, hb4⟩
  have HH4 := Lib.hid (HH3.out.keep hb4)
  clear hb4 HH3
  go_wp2_with fail
  have HA5 := Lib.hid (Held.push (HH4.out) 28 #[.int .i64 3, .int .i64 1, .string ⟨#[]⟩, .slice none 0 0, .slice none 0 0] (g := w4.heap.size) (by first | rfl | simp))
  refine (lList (some ⟨w4.heap.size, 0, none⟩) 1 1 _).mono ?_
  rintro e w5 ⟨rfl, hb5⟩
  have HH5 := Lib.hid (HA5.out.keep hb5)
  clear hb5 HH4 HA5
  go_wp2_with fail
  refine (w7c w2.heap.size w4.heap.size _ _ _ (HG.out.keep HH5.out.1) HH5.out.b1 HH5.out.b0).mono ?_
  rintro e w6 ⟨rfl, hb6⟩
  have HH6 := Lib.hid (HH5.out.keep hb6)
  clear hb6 HH5
  have HB6 := Lib.hid (show Below w.heap.size w w6 from HH6.out.1)
  have HN6 := Lib.hid (HH6.out.b2)
  clear HH6
  go_upto_region 3 with (fail)
  refine wp_region_held_drew (S := fun w' => Below w6.heap.size w6 w') (by kernel_rfl) (by exact (Below.refl _ _).drew) (fun hHeld => ?_)
  refine wpAnyH_take (i := 4) (oi := ⟨some 33, _, _, _, _, _⟩) (v := .agg #[.int .i64 1, .int .i64 0, .string ⟨#[]⟩, .slice none 0 0, .slice none 0 0]) rfl (by kernel_rfl) (by kernel_rfl) (by kernel_rfl) (fun _ _ _ h => h) (Or.inl ⟨by kernel_rfl, ?_⟩) (by assumption) ?_
  · intro W hSw; obtain ⟨c1, f1, l1⟩ := (HN6.out.keep hSw).rules; go_simp
  try simp only [Act.put, List.setIfInBounds_toArray, List.set_cons_zero, List.set_cons_succ]
  refine wpAnyH_ready (rs := [0]) (by kernel_rfl) (by simp) ?_
  refine AllReadyH.cons (o := ⟨some 29, _, _, _, _, _⟩) rfl (fun K hK => ?_) AllReadyH.nil
  go_simp
  refine (lIn 2 _).mono ?_
  rintro e w7 ⟨rfl, hb7⟩
  have HB7 := Lib.hid (((Below.refl w6.heap.size w6).drew).trans hb7)
  clear hb7
  refine hK.out _ _ (by exact HB7.out) (fun hHeld2 => ?_)
  clear hK K hHeld
  have hHeld := hHeld2
  clear hHeld2
  try simp only [Act.put, List.setIfInBounds_toArray, List.set_cons_zero, List.set_cons_succ]
  refine wpAnyH_ready (rs := [1]) (by kernel_rfl) (by simp) ?_
  refine AllReadyH.cons (o := ⟨some 30, _, _, _, _, _⟩) rfl (fun K hK => ?_) AllReadyH.nil
  go_simp
  refine hK.out _ _ (by exact (HB7.out.alloc HB7.out.size _)) (fun hHeld2 => ?_)
  clear hK K hHeld
  have hHeld := hHeld2
  clear hHeld2
  try simp only [Act.put, List.setIfInBounds_toArray, List.set_cons_zero, List.set_cons_succ]
  refine wpAnyH_ready (rs := [2]) (by kernel_rfl) (by simp) ?_
  refine AllReadyH.cons (o := ⟨some 31, _, _, _, _, _⟩) rfl (fun K hK => ?_) AllReadyH.nil
  go_simp
  have HK7 := Lib.hid (Blk.new w7 28 #[.int .i64 3, .int .i64 2, .string ⟨#[]⟩, .slice none 0 0, .slice none 0 0])
  refine (lList (some ⟨w7.heap.size, 0, none⟩) 1 1 _).mono ?_
  rintro e w8 ⟨rfl, hb8⟩
  have HB8 := Lib.hid ((HB7.out.alloc HB7.out.size (.cells #[.int .i64 3, .int .i64 2, .string ⟨#[]⟩, .slice none 0 0, .slice none 0 0] 28)).trans (hb8.mono (HB7.out.alloc HB7.out.size _).size))
  have HK8 := Lib.hid (HK7.out.keep hb8)
  clear hb8 HK7
  refine hK.out _ _ (by exact HB8.out) (fun hHeld2 => ?_)
  clear hK K hHeld
  have hHeld := hHeld2
  clear hHeld2
  try simp only [Act.put, List.setIfInBounds_toArray, List.set_cons_zero, List.set_cons_succ]
  refine wpAnyH_ready (rs := [3]) (by kernel_rfl) (by simp) ?_
  refine AllReadyH.cons (o := ⟨some 32, _, _, _, _, _⟩) rfl (fun K hK => ?_) AllReadyH.nil
  go_simp
  refine (lIn 7 _).mono ?_
  rintro e w9 ⟨rfl, hb9⟩
  have HB9 := Lib.hid (HB8.out.trans (hb9.mono HB8.out.size))
  have HK9 := Lib.hid (HK8.out.keep hb9)
  clear hb9 HK8
  refine hK.out _ _ (by exact HB9.out) (fun hHeld2 => ?_)
  clear hK K hHeld
  have hHeld := hHeld2
  clear hHeld2
  try simp only [Act.put, List.setIfInBounds_toArray, List.set_cons_zero, List.set_cons_succ]
  refine wpAnyH_ready (rs := [5]) (by kernel_rfl) (by simp) ?_
  refine AllReadyH.cons (o := ⟨some 34, _, _, _, _, _⟩) rfl (fun K hK => ?_) AllReadyH.nil
  go_simp
  refine hK.out _ _ (by exact (HB9.out.alloc HB9.out.size _)) (fun hHeld2 => ?_)
  clear hK K hHeld
  have hHeld := hHeld2
  clear hHeld2
  try simp only [Act.put, List.setIfInBounds_toArray, List.set_cons_zero, List.set_cons_succ]
  refine wpAnyH_ready (rs := [6]) (by kernel_rfl) (by simp) ?_
  refine AllReadyH.cons (o := ⟨some 35, _, _, _, _, _⟩) rfl (fun K hK => ?_) AllReadyH.nil
  go_simp
  have HK10 := Lib.hid (Blk.new w9 28 #[.int .i64 5, .int .i64 0, .string ⟨#[]⟩, .slice (some ⟨w7.heap.size, 0, none⟩) 1 1, .slice none 0 0, .int .i64 3, .int .i64 7, .string ⟨#[]⟩, .slice none 0 0, .slice none 0 0, .int .i64 1, .int .i64 0, .string ⟨#[]⟩, .slice none 0 0, .slice none 0 0])
  have HB10 := Lib.hid (HB9.out.alloc HB9.out.size (.cells #[.int .i64 5, .int .i64 0, .string ⟨#[]⟩, .slice (some ⟨w7.heap.size, 0, none⟩) 1 1, .slice none 0 0, .int .i64 3, .int .i64 7, .string ⟨#[]⟩, .slice none 0 0, .slice none 0 0, .int .i64 1, .int .i64 0, .string ⟨#[]⟩, .slice none 0 0, .slice none 0 0] 28))
  refine (w7s w7.heap.size w9.heap.size _ _ _ (HG.out.keep (HB6.out.trans (HB10.out.mono HB6.out.size))) (HK9.out.alloc _) HK10.out).mono ?_
  rintro e w11 ⟨⟨gs, rfl, hlt, hz1, hz2⟩, hb11⟩
  have HB11 := Lib.hid (HB10.out.trans (hb11.mono HB10.out.size))
  have HS := Lib.hid (And.intro hlt (And.intro hz1 hz2))
  clear hb11 hlt hz1 hz2
  refine hK.out _ _ (by exact HB11.out) (fun hHeld2 => ?_)
  clear hK K hHeld
  have hHeld := hHeld2
  clear hHeld2
  try simp only [Act.put, List.setIfInBounds_toArray, List.set_cons_zero, List.set_cons_succ]
  refine wpAnyH_take (i := 7) (oi := ⟨some 28, _, _, _, _, _⟩) (v := .tuple #[.slice (some ⟨gs, 0, none⟩) 3 3, .int .i64 0]) rfl (by kernel_rfl) (by kernel_rfl) (by kernel_rfl) (fun _ _ _ h => h) (Or.inl ⟨by kernel_rfl, ?_⟩) (by assumption) ?_
  · intro W hSw; go_simp
  try simp only [Act.put, List.setIfInBounds_toArray, List.set_cons_zero, List.set_cons_succ]
  refine wpAnyH_take (i := 8) (oi := ⟨some 36, _, _, _, _, _⟩) (v := .slice (some ⟨gs, 0, none⟩) 3 3) rfl (by kernel_rfl) (by kernel_rfl) (by kernel_rfl) (fun _ _ _ h => h) (Or.inl ⟨by kernel_rfl, ?_⟩) (by assumption) ?_
  · intro W hSw; go_simp
  try simp only [Act.put, List.setIfInBounds_toArray, List.set_cons_zero, List.set_cons_succ]
  refine wpAnyH_take (i := 9) (oi := ⟨some 37, _, _, _, _, _⟩) (v := .int .i64 0) rfl (by kernel_rfl) (by kernel_rfl) (by kernel_rfl) (fun _ _ _ h => h) (Or.inl ⟨by kernel_rfl, ?_⟩) (by assumption) ?_
  · intro W hSw; go_simp
  try simp only [Act.put, List.setIfInBounds_toArray, List.set_cons_zero, List.set_cons_succ]
  refine wpAnyH_take (i := 10) (oi := ⟨some 4, _, _, _, _, _⟩) (v := .slice (some ⟨gs, 0, none⟩) 3 3) rfl (by kernel_rfl) (by kernel_rfl) (by kernel_rfl) (fun _ _ _ h => h) (Or.inl ⟨by kernel_rfl, ?_⟩) (by assumption) ?_
  · intro W hSw; go_simp
  try simp only [Act.put, List.setIfInBounds_toArray, List.set_cons_zero, List.set_cons_succ]
  refine wpAnyH_take (i := 11) (oi := ⟨some 5, _, _, _, _, _⟩) (v := .int .i64 0) rfl (by kernel_rfl) (by kernel_rfl) (by kernel_rfl) (fun _ _ _ h => h) (Or.inl ⟨by kernel_rfl, ?_⟩) (by assumption) ?_
  · intro W hSw; go_simp
  try simp only [Act.put, List.setIfInBounds_toArray, List.set_cons_zero, List.set_cons_succ]
  refine wpAnyH_done (by kernel_rfl) ?_ _
  have HBS := Lib.hid (HB6.out.trans (HB11.out.mono HB6.out.size))
  have HH11 := Lib.hid (Held.nil w11)
  clear HB6 HN6 HB7 HB8 HK9 HB9 HK10 HB10 HB11
  go_wp2_with fail
  refine (lIn 1 _).mono ?_
  rintro e w12 ⟨rfl, hb12⟩
  have HH12 := Lib.hid (HH11.out.keep hb12)
  clear hb12 HH11
  go_wp2_with fail
  refine (lIn 2 _).mono ?_
  rintro e w13 ⟨rfl, hb13⟩
  have HH13 := Lib.hid (HH12.out.keep hb13)
  clear hb13 HH12
  go_wp2_with fail
  refine (lIn 3 _).mono ?_
  rintro e w14 ⟨rfl, hb14⟩
  have HH14 := Lib.hid (HH13.out.keep hb14)
  clear hb14 HH13
  go_wp2_with fail
  have HA15 := Lib.hid (Held.push (HH14.out) 28 #[.int .i64 3, .int .i64 1, .string ⟨#[]⟩, .slice none 0 0, .slice none 0 0, .int .i64 3, .int .i64 2, .string ⟨#[]⟩, .slice none 0 0, .slice none 0 0, .int .i64 3, .int .i64 3, .string ⟨#[]⟩, .slice none 0 0, .slice none 0 0] (g := w14.heap.size) (by first | rfl | simp))
  refine (lList (some ⟨w14.heap.size, 0, none⟩) 3 3 _).mono ?_
  rintro e w15 ⟨rfl, hb15⟩
  have HH15 := Lib.hid (HA15.out.keep hb15)
  clear hb15 HH14 HA15
  go_wp2_with fail
  refine (w7f w14.heap.size _ _ (HG.out.keep (HBS.out.trans (Below.mono (HH15.out).1 HBS.out.size))) HH15.out.b0).mono ?_
  rintro e w16 ⟨⟨fn, fs, fA, fca, fB, fnb, fcb, rfl⟩, hb16⟩
  have HH16 := Lib.hid (HH15.out.keep hb16)
  clear hb16 HH15
  go_wp2_with fail
  have HA17 := Lib.hid (Held.push (HH16.out) 28 #[.int .i64 5, .int .i64 fn, .string fs, .slice fA 2 fca, .slice fB fnb fcb] (g := w16.heap.size) (by first | rfl | simp))
  refine (lIn 1 _).mono ?_
  rintro e w17 ⟨rfl, hb17⟩
  have HH17 := Lib.hid (HA17.out.keep hb17)
  clear hb17 HH16 HA17
  go_wp2_with fail
  refine (lIn 3 _).mono ?_
  rintro e w18 ⟨rfl, hb18⟩
  have HH18 := Lib.hid (HH17.out.keep hb18)
  clear hb18 HH17
  go_wp2_with fail
  refine (lIn 3 _).mono ?_
  rintro e w19 ⟨rfl, hb19⟩
  have HH19 := Lib.hid (HH18.out.keep hb19)
  clear hb19 HH18
  go_wp2_with fail
  refine (lIn 4 _).mono ?_
  rintro e w20 ⟨rfl, hb20⟩
  have HH20 := Lib.hid (HH19.out.keep hb20)
  clear hb20 HH19
  go_wp2_with fail
  have HA21 := Lib.hid (Held.push (HH20.out) 28 #[.int .i64 3, .int .i64 1, .string ⟨#[]⟩, .slice none 0 0, .slice none 0 0, .int .i64 3, .int .i64 3, .string ⟨#[]⟩, .slice none 0 0, .slice none 0 0, .int .i64 3, .int .i64 3, .string ⟨#[]⟩, .slice none 0 0, .slice none 0 0, .int .i64 3, .int .i64 4, .string ⟨#[]⟩, .slice none 0 0, .slice none 0 0] (g := w20.heap.size) (by first | rfl | simp))
  refine (lIn 3 _).mono ?_
  rintro e w21 ⟨rfl, hb21⟩
  have HH21 := Lib.hid (HA21.out.keep hb21)
  clear hb21 HH20 HA21
  go_wp2_with fail
  refine (w7p w20.heap.size _ _ (HG.out.keep (HBS.out.trans (Below.mono (HH21.out).1 HBS.out.size))) HH21.out.b0).mono ?_
  rintro e w22 ⟨rfl, hb22⟩
  have HH22 := Lib.hid (HH21.out.keep hb22)
  clear hb22 HH21
  go_wp2_with fail
  refine (lIn 1 _).mono ?_
  rintro e w23 ⟨rfl, hb23⟩
  have HH23 := Lib.hid (HH22.out.keep hb23)
  clear hb23 HH22
  go_wp2_with fail
  refine (w7n _ (HG.out.keep (HBS.out.trans (Below.mono (HH23.out).1 HBS.out.size)))).mono ?_
  rintro e w24 ⟨rfl, hb24⟩
  have HH24 := Lib.hid (HH23.out.keep hb24)
  clear hb24 HH23
  go_wp2_with fail
  refine (lIn 2 _).mono ?_
  rintro e w25 ⟨rfl, hb25⟩
  have HH25 := Lib.hid (HH24.out.keep hb25)
  clear hb25 HH24
  go_wp2_with fail
  refine (lIn 1 _).mono ?_
  rintro e w26 ⟨rfl, hb26⟩
  have HH26 := Lib.hid (HH25.out.keep hb26)
  clear hb26 HH25
  go_wp2_with fail
  have HA27 := Lib.hid (Held.push (HH26.out) 28 #[.int .i64 3, .int .i64 2, .string ⟨#[]⟩, .slice none 0 0, .slice none 0 0, .int .i64 3, .int .i64 1, .string ⟨#[]⟩, .slice none 0 0, .slice none 0 0] (g := w26.heap.size) (by first | rfl | simp))
  refine (lIn 1 _).mono ?_
  rintro e w27 ⟨rfl, hb27⟩
  have HH27 := Lib.hid (HA27.out.keep hb27)
  clear hb27 HH26 HA27
  go_wp2_with fail
  refine (w7q w26.heap.size _ _ (HG.out.keep (HBS.out.trans (Below.mono (HH27.out).1 HBS.out.size))) HH27.out.b0).mono ?_
  rintro e w28 ⟨rfl, hb28⟩
  have HH28 := Lib.hid (HH27.out.keep hb28)
  clear hb28 HH27
  obtain ⟨c6, f6, l6⟩ := HH28.out.b2.rules
  have z1 := (HH28.out.1.cell (p := ⟨gs, 0, none⟩) HS.out.1).trans HS.out.2.1
  have z2 := (HH28.out.1.cell (p := ⟨gs, 6, none⟩) HS.out.1).trans HS.out.2.2
  go_wp2
  go_ret
  exact ⟨rfl, HBS.out.trans (HH28.out.1.mono HBS.out.size)⟩
end Go.Proofs.YtoejdhabpajhlaaDoor
