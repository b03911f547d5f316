/- The walk of CollateCompares. -/
import Derived.Test.YtbaogoiiekpgiaaDoorRef7S
import Derived.Test.YtbaogoiiekpgiaaDoorWake7
namespace Go.Proofs.YtbaogoiiekpgiaaDoor
set_option linter.unusedVariables false
set_option linter.unusedSimpArgs false
open Go.RowKit
attribute [local go_sem] run_index_arr run_part_agg run_part_one run_field_agg

theorem allG_two (a b : JV) : allG [a, b] = (good a && good b) := by simp [allG]
theorem cmpO_yes {a b : JV} (g : gd a) (g' : gd b) : cmpO a b = (cmpJ a b, 0) := if_pos ⟨g, g'⟩
theorem cmpO_no {a b : JV} (h : ¬ (gd a ∧ gd b)) : cmpO a b = (0, 140) := if_neg h
/-- Compare, and what it tells -/
def CmpS (p q : Int) (w : World) (e : Ending) (w' : World) : Prop := e = .returned (.tuple #[.int .i64 p, .int .i64 q]) ∧ Below w.heap.size w w'
theorem cComp_is (a b : JV) (cs cs' : List Value) (w : World) (hG : GOK w) (h : VR w TT cs a) (h' : VR w TT cs' b) (c : Came a) (c' : Came b) {p q : Int} (he : cmpO a b = (p, q)) :
    Calls Tryd.prog 18 #[.agg cs.toArray, .agg cs'.toArray] w (CmpS p q w) := by
  have h9 := cComp a b cs cs' TT TT w hG h h' c c'
  rw [he] at h9
  exact h9
set_option maxRecDepth 100000 in
set_option maxHeartbeats 8000000 in
theorem collateCompares_any (cs0 : Array Value) (x0 : JV) (cs1 : Array Value) (x1 : JV) (w : World) (hG : GOK w) (h0 : VR w TT cs0.toList x0) (c0 : Came x0) (h1 : VR w TT cs1.toList x1) (c1 : Came x1) :
    Calls Tryd.prog 4 #[.agg cs0, .agg cs1] w (BoolS true w) := by
  obtain ⟨l0, rfl⟩ : ∃ l : List Value, cs0 = l.toArray := ⟨cs0.toList, by simp⟩
  replace h0 : VR w TT l0 x0 := by simpa using h0
  have HV0 := Lib.hid (fun (W : World) (h : Below w.heap.size w W) => h0.bel h)
  obtain ⟨k0, n0, s0, A0, na0, ca0, B0, nb0, cb0, rfl⟩ := h0.form
  obtain ⟨l1, rfl⟩ : ∃ l : List Value, cs1 = l.toArray := ⟨cs1.toList, by simp⟩
  replace h1 : VR w TT l1 x1 := by simpa using h1
  have HV1 := Lib.hid (fun (W : World) (h : Below w.heap.size w W) => h1.bel h)
  obtain ⟨k1, n1, s1, A1, na1, ca1, B1, nb1, cb1, rfl⟩ := h1.form
  have HG := Lib.hid hG
  have C0 := Lib.hid c0
  have C1 := Lib.hid c1
  have HH0 := Lib.hid (Held.nil w)
  have y1 : w.heap.size ≠ w.heap.size + 1 := by omega
  have y2 : w.heap.size + 1 ≠ w.heap.size := by omega
  clear h0 h1 c0 c1 hG
  have HRT := Lib.hid (fun (W : World) (h : Below w.heap.size w W) (g : Nat) (t : TypeId) (hk : Blk W g t #[.int .i64 k0, .int .i64 n0, .string s0, .slice A0 na0 ca0, .slice B0 nb0 cb0, .int .i64 k1, .int .i64 n1, .string s1, .slice A1 na1 ca1, .slice B1 nb1 cb1]) => lRight [x0, x1] (some ⟨g, 0, none⟩) 2 2 W (RowV.blk (VRs.two_ (HV0.out W h) (HV1.out W h)) (Nat.le_refl _) hk) rfl (by intro x hx; simp at hx; rcases hx with rfl | rfl; exact C0.out; exact C1.out) (by omega))
  by_cases hg : gd x0 ∧ gd x1
  · have HC := Lib.hid (cmpO_yes hg.1 hg.2)
    have HAL : Hid (allG [x0, x1] = true) := Lib.hid (by rw [allG_two, hg.1, hg.2]; rfl)
    have HRC := Lib.hid (fun (W : World) (h : Below w.heap.size w W) => rCompare x0 x1 _ _ TT TT W (HV0.out W h) (HV1.out W h) hg.1 hg.2 C0.out C1.out)
    obtain ⟨R, hR⟩ : ∃ R, cmpJ x0 x1 = R := ⟨_, rfl⟩
    rw [hR] at HC HRC
    clear hg hR
    rw [HAL.out] at HRT
    clear HAL
    go_enter Tryd.func4, Tryd.ntmps4
    go_wp2_with fail
    have HA1 := Lib.hid (Held.push ((Held.push (HH0.out) 28 #[.int .i64 k0, .int .i64 n0, .string s0, .slice A0 na0 ca0, .slice B0 nb0 cb0] (g := w.heap.size) (by first | rfl | simp))) 28 #[.int .i64 k1, .int .i64 n1, .string s1, .slice A1 na1 ca1, .slice B1 nb1 cb1] (g := w.heap.size + 1) (by first | rfl | simp))
    refine (wakes7_any _ (HG.out.keep ((Held.push ((Held.push (HH0.out) 28 #[.int .i64 k0, .int .i64 n0, .string s0, .slice A0 na0 ca0, .slice B0 nb0 cb0] (g := w.heap.size) (by first | rfl | simp))) 28 #[.int .i64 k1, .int .i64 n1, .string s1, .slice A1 na1 ca1, .slice B1 nb1 cb1] (g := w.heap.size + 1) (by first | rfl | simp))).1)).mono ?_
    rintro e w1 ⟨rfl, hb1⟩
    have HH1 := Lib.hid (HA1.out.keep hb1)
    clear hb1 HH0 HA1
    obtain ⟨hc1, hf1, hl1⟩ := HH1.out.b1.rules
    obtain ⟨hc0, hf0, hl0⟩ := HH1.out.b0.rules
    go_wp2_with fail
    refine (cComp_is x0 x1 _ _ _ (HG.out.keep (HH1.out).1) (HV0.out _ (HH1.out).1) (HV1.out _ (HH1.out).1) C0.out C1.out HC.out).mono ?_
    rintro e w2 ⟨rfl, hb2⟩
    have HH2 := Lib.hid (HH1.out.keep hb2)
    clear hc1 hf1 hl1 hc0 hf0 hl0
    clear hb2 HH1
    obtain ⟨hc1, hf1, hl1⟩ := HH2.out.b1.rules
    obtain ⟨hc0, hf0, hl0⟩ := HH2.out.b0.rules
    go_wp2_with fail
    have HA3 := Lib.hid (Held.push (HH2.out) 28 #[.int .i64 k0, .int .i64 n0, .string s0, .slice A0 na0 ca0, .slice B0 nb0 cb0, .int .i64 k1, .int .i64 n1, .string s1, .slice A1 na1 ca1, .slice B1 nb1 cb1] (g := w2.heap.size) (by first | rfl | simp))
    refine (HRT.out _ ((Held.push (HH2.out) 28 #[.int .i64 k0, .int .i64 n0, .string s0, .slice A0 na0 ca0, .slice B0 nb0 cb0, .int .i64 k1, .int .i64 n1, .string s1, .slice A1 na1 ca1, .slice B1 nb1 cb1] (g := w2.heap.size) (by first | rfl | simp))).1 (w2.heap.size) _ ((Held.push (HH2.out) 28 #[.int .i64 k0, .int .i64 n0, .string s0, .slice A0 na0 ca0, .slice B0 nb0 cb0, .int .i64 k1, .int .i64 n1, .string s1, .slice A1 na1 ca1, .slice B1 nb1 cb1] (g := w2.heap.size) (by first | rfl | simp))).b0).mono ?_
    rintro e w3 ⟨rfl, hb3⟩
    have HH3 := Lib.hid (HA3.out.keep hb3)
    clear hc1 hf1 hl1 hc0 hf0 hl0
    clear hb3 HH2 HA3
    obtain ⟨hc2, hf2, hl2⟩ := HH3.out.b2.rules
    obtain ⟨hc1, hf1, hl1⟩ := HH3.out.b1.rules
    go_wp2_with fail
    refine (HRC.out _ (HH3.out).1).mono ?_
    rintro e w4 ⟨rfl, hb4⟩
    have HH4 := Lib.hid (HH3.out.keep hb4)
    clear hc2 hf2 hl2 hc1 hf1 hl1
    clear hb4 HH3
    go_wp2
    go_ret
    exact ⟨rfl, HH4.out.1⟩
  · have HC := Lib.hid (cmpO_no hg)
    have HAL : Hid (allG [x0, x1] = false) := Lib.hid (by rw [allG_two]; cases h : good x0 <;> cases h' : good x1 <;> first | rfl | exact absurd ⟨h, h'⟩ hg)
    clear hg
    rw [HAL.out] at HRT
    clear HAL
    go_enter Tryd.func4, Tryd.ntmps4
    go_wp2_with fail
    have HA1 := Lib.hid (Held.push ((Held.push (HH0.out) 28 #[.int .i64 k0, .int .i64 n0, .string s0, .slice A0 na0 ca0, .slice B0 nb0 cb0] (g := w.heap.size) (by first | rfl | simp))) 28 #[.int .i64 k1, .int .i64 n1, .string s1, .slice A1 na1 ca1, .slice B1 nb1 cb1] (g := w.heap.size + 1) (by first | rfl | simp))
    refine (wakes7_any _ (HG.out.keep ((Held.push ((Held.push (HH0.out) 28 #[.int .i64 k0, .int .i64 n0, .string s0, .slice A0 na0 ca0, .slice B0 nb0 cb0] (g := w.heap.size) (by first | rfl | simp))) 28 #[.int .i64 k1, .int .i64 n1, .string s1, .slice A1 na1 ca1, .slice B1 nb1 cb1] (g := w.heap.size + 1) (by first | rfl | simp))).1)).mono ?_
    rintro e w1 ⟨rfl, hb1⟩
    have HH1 := Lib.hid (HA1.out.keep hb1)
    clear hb1 HH0 HA1
    obtain ⟨hc1, hf1, hl1⟩ := HH1.out.b1.rules
    obtain ⟨hc0, hf0, hl0⟩ := HH1.out.b0.rules
    go_wp2_with fail
    refine (cComp_is x0 x1 _ _ _ (HG.out.keep (HH1.out).1) (HV0.out _ (HH1.out).1) (HV1.out _ (HH1.out).1) C0.out C1.out HC.out).mono ?_
    rintro e w2 ⟨rfl, hb2⟩
    have HH2 := Lib.hid (HH1.out.keep hb2)
    clear hc1 hf1 hl1 hc0 hf0 hl0
    clear hb2 HH1
    obtain ⟨hc1, hf1, hl1⟩ := HH2.out.b1.rules
    obtain ⟨hc0, hf0, hl0⟩ := HH2.out.b0.rules
    go_wp2_with fail
    have HA3 := Lib.hid (Held.push (HH2.out) 28 #[.int .i64 k0, .int .i64 n0, .string s0, .slice A0 na0 ca0, .slice B0 nb0 cb0, .int .i64 k1, .int .i64 n1, .string s1, .slice A1 na1 ca1, .slice B1 nb1 cb1] (g := w2.heap.size) (by first | rfl | simp))
    refine (HRT.out _ ((Held.push (HH2.out) 28 #[.int .i64 k0, .int .i64 n0, .string s0, .slice A0 na0 ca0, .slice B0 nb0 cb0, .int .i64 k1, .int .i64 n1, .string s1, .slice A1 na1 ca1, .slice B1 nb1 cb1] (g := w2.heap.size) (by first | rfl | simp))).1 (w2.heap.size) _ ((Held.push (HH2.out) 28 #[.int .i64 k0, .int .i64 n0, .string s0, .slice A0 na0 ca0, .slice B0 nb0 cb0, .int .i64 k1, .int .i64 n1, .string s1, .slice A1 na1 ca1, .slice B1 nb1 cb1] (g := w2.heap.size) (by first | rfl | simp))).b0).mono ?_
    rintro e w3 ⟨rfl, hb3⟩
    have HH3 := Lib.hid (HA3.out.keep hb3)
    clear hc1 hf1 hl1 hc0 hf0 hl0
    clear hb3 HH2 HA3
    obtain ⟨hc2, hf2, hl2⟩ := HH3.out.b2.rules
    obtain ⟨hc1, hf1, hl1⟩ := HH3.out.b1.rules
    go_wp2
    go_ret
    exact ⟨rfl, HH3.out.1⟩
end Go.Proofs.YtbaogoiiekpgiaaDoor
