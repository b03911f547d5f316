/- The walk of CollateOrders. -/
import Derived.Test.YtbaogoiiekpgiaaDoorC7a
namespace Go.Proofs.YtbaogoiiekpgiaaDoor
set_option linter.unusedVariables false
set_option linter.unusedSimpArgs false
open Go.RowKit
attribute [local go_sem] run_index_arr run_part_agg run_part_one run_field_agg

theorem ord_third {a b c : JV} (ga : gd a) (gb : gd b) (gc : gd c) : (cmpJ a b = 0 → cmpJ b c = 0 → cmpJ a c = 0) ∧ (cmpJ a b = -1 → cmpJ b c = 0 → cmpJ a c = -1) ∧ (cmpJ a b = 0 → cmpJ b c = -1 → cmpJ a c = -1) ∧ (cmpJ a b = -1 → cmpJ b c = -1 → cmpJ a c = -1) := by
  refine ⟨fun h h' => ?_, fun h h' => ?_, fun h h' => ?_, fun h h' => cmpJ_trans ga.j gb.j gc.j h h'⟩
  · rw [cmpJ_eq ga.j gb.j h]; exact h'
  · rw [← cmpJ_eq gb.j gc.j h']; exact h
  · rw [cmpJ_eq ga.j gb.j h]; exact h'
theorem same_dec {a b : JV} (ga : gd a) (gb : gd b) : (a = b) ↔ cmpJ a b = 0 := ⟨fun h => by rw [h]; exact cmpJ_self b, fun h => cmpJ_eq ga.j gb.j h⟩
set_option maxRecDepth 100000 in
set_option maxHeartbeats 8000000 in
theorem collateOrders_any (cs0 : Array Value) (x0 : JV) (cs1 : Array Value) (x1 : JV) (cs2 : Array Value) (x2 : JV) (w : World) (hG : GOK w) (h0 : VR w TT cs0.toList x0) (c0 : Came x0) (h1 : VR w TT cs1.toList x1) (c1 : Came x1) (h2 : VR w TT cs2.toList x2) (c2 : Came x2) :
    Calls Tryd.prog 8 #[.agg cs0, .agg cs1, .agg cs2] w (BoolS true w) := by
  obtain ⟨l0, rfl⟩ : ∃ l : List Value, cs0 = l.toArray := ⟨cs0.toList, by simp⟩
  replace h0 : VR w TT l0 x0 := by simpa using h0
  have HV0 := Lib.hid (fun (W : World) (h : Below w.heap.size w W) => h0.bel h)
  obtain ⟨k0, n0, s0, A0, na0, ca0, B0, nb0, cb0, rfl⟩ := h0.form
  obtain ⟨l1, rfl⟩ : ∃ l : List Value, cs1 = l.toArray := ⟨cs1.toList, by simp⟩
  replace h1 : VR w TT l1 x1 := by simpa using h1
  have HV1 := Lib.hid (fun (W : World) (h : Below w.heap.size w W) => h1.bel h)
  obtain ⟨k1, n1, s1, A1, na1, ca1, B1, nb1, cb1, rfl⟩ := h1.form
  obtain ⟨l2, rfl⟩ : ∃ l : List Value, cs2 = l.toArray := ⟨cs2.toList, by simp⟩
  replace h2 : VR w TT l2 x2 := by simpa using h2
  have HV2 := Lib.hid (fun (W : World) (h : Below w.heap.size w W) => h2.bel h)
  obtain ⟨k2, n2, s2, A2, na2, ca2, B2, nb2, cb2, rfl⟩ := h2.form
  have HG := Lib.hid hG
  have C0 := Lib.hid c0
  have C1 := Lib.hid c1
  have C2 := Lib.hid c2
  have HH0 := Lib.hid (Held.nil w)
  have HSM := Lib.hid (fun (W : World) (h : Below w.heap.size w W) => vSameG x0 x1 _ _ TT TT W (HG.out.keep h) (HV0.out W h) (HV1.out W h) C0.out C1.out)
  clear h0 h1 h2 c0 c1 c2 hG
  by_cases hg : gd x0 ∧ gd x1
  case neg =>
    have E01 := Lib.hid (cmpO_no hg)
    have E10 := Lib.hid (cmpO_no (a := x1) (b := x0) (fun h => hg ⟨h.2, h.1⟩))
    obtain ⟨p, q, e12⟩ : ∃ p q, cmpO x1 x2 = (p, q) := ⟨_, _, rfl⟩
    obtain ⟨p2, q2, e02⟩ : ∃ p q, cmpO x0 x2 = (p, q) := ⟨_, _, rfl⟩
    have E12 := Lib.hid e12
    have E02 := Lib.hid e02
    clear e12 e02 hg HSM
    go_enter Tryd.func8, Tryd.ntmps8
    go_wp2_with fail
    have HA1 := Lib.hid (Held.push ((Held.push ((Held.push (HH0.out) 28 #[.int .i64 k0, .int .i64 n0, .string s0, .slice A0 na0 ca0, .slice B0 nb0 cb0] (g := w.heap.size) (by first | rfl | simp))) 28 #[.int .i64 k1, .int .i64 n1, .string s1, .slice A1 na1 ca1, .slice B1 nb1 cb1] (g := w.heap.size + 1) (by first | rfl | simp))) 28 #[.int .i64 k2, .int .i64 n2, .string s2, .slice A2 na2 ca2, .slice B2 nb2 cb2] (g := w.heap.size + 1 + 1) (by first | rfl | simp))
    refine (wakes7_any _ (HG.out.keep ((Held.push ((Held.push ((Held.push (HH0.out) 28 #[.int .i64 k0, .int .i64 n0, .string s0, .slice A0 na0 ca0, .slice B0 nb0 cb0] (g := w.heap.size) (by first | rfl | simp))) 28 #[.int .i64 k1, .int .i64 n1, .string s1, .slice A1 na1 ca1, .slice B1 nb1 cb1] (g := w.heap.size + 1) (by first | rfl | simp))) 28 #[.int .i64 k2, .int .i64 n2, .string s2, .slice A2 na2 ca2, .slice B2 nb2 cb2] (g := w.heap.size + 1 + 1) (by first | rfl | simp))).1)).mono ?_
    rintro e w1 ⟨rfl, hb1⟩
    have HH1 := Lib.hid (HA1.out.keep hb1)
    clear hb1 HH0 HA1
    obtain ⟨hc2, hf2, hl2⟩ := HH1.out.b2.rules
    obtain ⟨hc1, hf1, hl1⟩ := HH1.out.b1.rules
    go_wp2_with fail
    refine (cComp_is x0 x1 _ _ _ (HG.out.keep (HH1.out).1) (HV0.out _ (HH1.out).1) (HV1.out _ (HH1.out).1) C0.out C1.out E01.out).mono ?_
    rintro e w2 ⟨rfl, hb2⟩
    have HH2 := Lib.hid (HH1.out.keep hb2)
    clear hc2 hf2 hl2 hc1 hf1 hl1
    clear hb2 HH1
    obtain ⟨hc1, hf1, hl1⟩ := HH2.out.b1.rules
    obtain ⟨hc2, hf2, hl2⟩ := HH2.out.b2.rules
    go_wp2_with fail
    refine (cComp_is x1 x0 _ _ _ (HG.out.keep (HH2.out).1) (HV1.out _ (HH2.out).1) (HV0.out _ (HH2.out).1) C1.out C0.out E10.out).mono ?_
    rintro e w3 ⟨rfl, hb3⟩
    have HH3 := Lib.hid (HH2.out.keep hb3)
    clear hc1 hf1 hl1 hc2 hf2 hl2
    clear hb3 HH2
    obtain ⟨hc1, hf1, hl1⟩ := HH3.out.b1.rules
    obtain ⟨hc0, hf0, hl0⟩ := HH3.out.b0.rules
    go_wp2_with fail
    refine (cComp_is x1 x2 _ _ _ (HG.out.keep (HH3.out).1) (HV1.out _ (HH3.out).1) (HV2.out _ (HH3.out).1) C1.out C2.out E12.out).mono ?_
    rintro e w4 ⟨rfl, hb4⟩
    have HH4 := Lib.hid (HH3.out.keep hb4)
    clear hc1 hf1 hl1 hc0 hf0 hl0
    clear hb4 HH3
    obtain ⟨hc2, hf2, hl2⟩ := HH4.out.b2.rules
    obtain ⟨hc0, hf0, hl0⟩ := HH4.out.b0.rules
    go_wp2_with fail
    refine (cComp_is x0 x2 _ _ _ (HG.out.keep (HH4.out).1) (HV0.out _ (HH4.out).1) (HV2.out _ (HH4.out).1) C0.out C2.out E02.out).mono ?_
    rintro e w5 ⟨rfl, hb5⟩
    have HH5 := Lib.hid (HH4.out.keep hb5)
    clear hc2 hf2 hl2 hc0 hf0 hl0
    clear hb5 HH4
    go_wp2
    go_ret
    exact ⟨rfl, HH5.out.1⟩
  obtain ⟨g0, g1⟩ := hg
  have han := cmpJ_anti g0.j g1.j
  by_cases g2 : gd x2
  case neg =>
    obtain ⟨p, hp⟩ : ∃ p, cmpJ x0 x1 = p := ⟨_, rfl⟩
    rw [hp] at han
    have E01 := Lib.hid (show cmpO x0 x1 = (p, 0) by rw [cmpO_yes g0 g1, hp])
    have E10 := Lib.hid (show cmpO x1 x0 = (-p, 0) by rw [cmpO_yes g1 g0, han])
    have E12 := Lib.hid (cmpO_no (a := x1) (b := x2) (fun h => g2 h.2))
    have E02 := Lib.hid (cmpO_no (a := x0) (b := x2) (fun h => g2 h.2))
    clear g0 g1 g2 hp han HSM
    go_enter Tryd.func8, Tryd.ntmps8
    go_wp2_with fail
    have HA1 := Lib.hid (Held.push ((Held.push ((Held.push (HH0.out) 28 #[.int .i64 k0, .int .i64 n0, .string s0, .slice A0 na0 ca0, .slice B0 nb0 cb0] (g := w.heap.size) (by first | rfl | simp))) 28 #[.int .i64 k1, .int .i64 n1, .string s1, .slice A1 na1 ca1, .slice B1 nb1 cb1] (g := w.heap.size + 1) (by first | rfl | simp))) 28 #[.int .i64 k2, .int .i64 n2, .string s2, .slice A2 na2 ca2, .slice B2 nb2 cb2] (g := w.heap.size + 1 + 1) (by first | rfl | simp))
    refine (wakes7_any _ (HG.out.keep ((Held.push ((Held.push ((Held.push (HH0.out) 28 #[.int .i64 k0, .int .i64 n0, .string s0, .slice A0 na0 ca0, .slice B0 nb0 cb0] (g := w.heap.size) (by first | rfl | simp))) 28 #[.int .i64 k1, .int .i64 n1, .string s1, .slice A1 na1 ca1, .slice B1 nb1 cb1] (g := w.heap.size + 1) (by first | rfl | simp))) 28 #[.int .i64 k2, .int .i64 n2, .string s2, .slice A2 na2 ca2, .slice B2 nb2 cb2] (g := w.heap.size + 1 + 1) (by first | rfl | simp))).1)).mono ?_
    rintro e w1 ⟨rfl, hb1⟩
    have HH1 := Lib.hid (HA1.out.keep hb1)
    clear hb1 HH0 HA1
    obtain ⟨hc2, hf2, hl2⟩ := HH1.out.b2.rules
    obtain ⟨hc1, hf1, hl1⟩ := HH1.out.b1.rules
    go_wp2_with fail
    refine (cComp_is x0 x1 _ _ _ (HG.out.keep (HH1.out).1) (HV0.out _ (HH1.out).1) (HV1.out _ (HH1.out).1) C0.out C1.out E01.out).mono ?_
    rintro e w2 ⟨rfl, hb2⟩
    have HH2 := Lib.hid (HH1.out.keep hb2)
    clear hc2 hf2 hl2 hc1 hf1 hl1
    clear hb2 HH1
    obtain ⟨hc1, hf1, hl1⟩ := HH2.out.b1.rules
    obtain ⟨hc2, hf2, hl2⟩ := HH2.out.b2.rules
    go_wp2_with fail
    refine (cComp_is x1 x0 _ _ _ (HG.out.keep (HH2.out).1) (HV1.out _ (HH2.out).1) (HV0.out _ (HH2.out).1) C1.out C0.out E10.out).mono ?_
    rintro e w3 ⟨rfl, hb3⟩
    have HH3 := Lib.hid (HH2.out.keep hb3)
    clear hc1 hf1 hl1 hc2 hf2 hl2
    clear hb3 HH2
    obtain ⟨hc1, hf1, hl1⟩ := HH3.out.b1.rules
    obtain ⟨hc0, hf0, hl0⟩ := HH3.out.b0.rules
    go_wp2_with fail
    refine (cComp_is x1 x2 _ _ _ (HG.out.keep (HH3.out).1) (HV1.out _ (HH3.out).1) (HV2.out _ (HH3.out).1) C1.out C2.out E12.out).mono ?_
    rintro e w4 ⟨rfl, hb4⟩
    have HH4 := Lib.hid (HH3.out.keep hb4)
    clear hc1 hf1 hl1 hc0 hf0 hl0
    clear hb4 HH3
    obtain ⟨hc2, hf2, hl2⟩ := HH4.out.b2.rules
    obtain ⟨hc0, hf0, hl0⟩ := HH4.out.b0.rules
    go_wp2_with fail
    refine (cComp_is x0 x2 _ _ _ (HG.out.keep (HH4.out).1) (HV0.out _ (HH4.out).1) (HV2.out _ (HH4.out).1) C0.out C2.out E02.out).mono ?_
    rintro e w5 ⟨rfl, hb5⟩
    have HH5 := Lib.hid (HH4.out.keep hb5)
    clear hc2 hf2 hl2 hc0 hf0 hl0
    clear hb5 HH4
    go_wp2
    go_ret
    exact ⟨rfl, HH5.out.1⟩
  have hp3 := cmpJ_3 x0 x1
  have hq3 := cmpJ_3 x1 x2
  have hthird := ord_third g0 g1 g2
  have hsame := same_dec g0 g1
  obtain ⟨p, hp⟩ : ∃ p, cmpJ x0 x1 = p := ⟨_, rfl⟩
  obtain ⟨q, hq⟩ : ∃ q, cmpJ x1 x2 = q := ⟨_, rfl⟩
  obtain ⟨r, hr⟩ : ∃ r, cmpJ x0 x2 = r := ⟨_, rfl⟩
  rw [hp] at han hp3 hthird hsame
  rw [hq] at hq3 hthird
  rw [hr] at hthird
  have E01 := Lib.hid (show cmpO x0 x1 = (p, 0) by rw [cmpO_yes g0 g1, hp])
  have E10 := Lib.hid (show cmpO x1 x0 = (-p, 0) by rw [cmpO_yes g1 g0, han])
  have E12 := Lib.hid (show cmpO x1 x2 = (q, 0) by rw [cmpO_yes g1 g2, hq])
  have E02 := Lib.hid (show cmpO x0 x2 = (r, 0) by rw [cmpO_yes g0 g2, hr])
  have HTH := Lib.hid hthird
  have HSD := Lib.hid hsame
  have HG01 := Lib.hid (And.intro g0 g1)
  have HP3 := Lib.hid hp3
  have HQ3 := Lib.hid hq3
  clear g0 g1 g2 hp hq hr han hthird hsame hp3 hq3
  go_enter Tryd.func8, Tryd.ntmps8
  go_wp2_with fail
  have HA1 := Lib.hid (Held.push ((Held.push ((Held.push (HH0.out) 28 #[.int .i64 k0, .int .i64 n0, .string s0, .slice A0 na0 ca0, .slice B0 nb0 cb0] (g := w.heap.size) (by first | rfl | simp))) 28 #[.int .i64 k1, .int .i64 n1, .string s1, .slice A1 na1 ca1, .slice B1 nb1 cb1] (g := w.heap.size + 1) (by first | rfl | simp))) 28 #[.int .i64 k2, .int .i64 n2, .string s2, .slice A2 na2 ca2, .slice B2 nb2 cb2] (g := w.heap.size + 1 + 1) (by first | rfl | simp))
  refine (wakes7_any _ (HG.out.keep ((Held.push ((Held.push ((Held.push (HH0.out) 28 #[.int .i64 k0, .int .i64 n0, .string s0, .slice A0 na0 ca0, .slice B0 nb0 cb0] (g := w.heap.size) (by first | rfl | simp))) 28 #[.int .i64 k1, .int .i64 n1, .string s1, .slice A1 na1 ca1, .slice B1 nb1 cb1] (g := w.heap.size + 1) (by first | rfl | simp))) 28 #[.int .i64 k2, .int .i64 n2, .string s2, .slice A2 na2 ca2, .slice B2 nb2 cb2] (g := w.heap.size + 1 + 1) (by first | rfl | simp))).1)).mono ?_
  rintro e w1 ⟨rfl, hb1⟩
  have HH1 := Lib.hid (HA1.out.keep hb1)
  clear hb1 HH0 HA1
  obtain ⟨hc2, hf2, hl2⟩ := HH1.out.b2.rules
  obtain ⟨hc1, hf1, hl1⟩ := HH1.out.b1.rules
  go_wp2_with fail
  refine (cComp_is x0 x1 _ _ _ (HG.out.keep (HH1.out).1) (HV0.out _ (HH1.out).1) (HV1.out _ (HH1.out).1) C0.out C1.out E01.out).mono ?_
  rintro e w2 ⟨rfl, hb2⟩
  have HH2 := Lib.hid (HH1.out.keep hb2)
  clear hc2 hf2 hl2 hc1 hf1 hl1
  clear hb2 HH1
  obtain ⟨hc1, hf1, hl1⟩ := HH2.out.b1.rules
  obtain ⟨hc2, hf2, hl2⟩ := HH2.out.b2.rules
  go_wp2_with fail
  refine (cComp_is x1 x0 _ _ _ (HG.out.keep (HH2.out).1) (HV1.out _ (HH2.out).1) (HV0.out _ (HH2.out).1) C1.out C0.out E10.out).mono ?_
  rintro e w3 ⟨rfl, hb3⟩
  have HH3 := Lib.hid (HH2.out.keep hb3)
  clear hc1 hf1 hl1 hc2 hf2 hl2
  clear hb3 HH2
  obtain ⟨hc1, hf1, hl1⟩ := HH3.out.b1.rules
  obtain ⟨hc0, hf0, hl0⟩ := HH3.out.b0.rules
  go_wp2_with fail
  refine (cComp_is x1 x2 _ _ _ (HG.out.keep (HH3.out).1) (HV1.out _ (HH3.out).1) (HV2.out _ (HH3.out).1) C1.out C2.out E12.out).mono ?_
  rintro e w4 ⟨rfl, hb4⟩
  have HH4 := Lib.hid (HH3.out.keep hb4)
  clear hc1 hf1 hl1 hc0 hf0 hl0
  clear hb4 HH3
  obtain ⟨hc2, hf2, hl2⟩ := HH4.out.b2.rules
  obtain ⟨hc0, hf0, hl0⟩ := HH4.out.b0.rules
  go_wp2_with fail
  refine (cComp_is x0 x2 _ _ _ (HG.out.keep (HH4.out).1) (HV0.out _ (HH4.out).1) (HV2.out _ (HH4.out).1) C0.out C2.out E02.out).mono ?_
  rintro e w5 ⟨rfl, hb5⟩
  have HH5 := Lib.hid (HH4.out.keep hb5)
  clear hc2 hf2 hl2 hc0 hf0 hl0
  clear hb5 HH4
  obtain ⟨hc2, hf2, hl2⟩ := HH5.out.b2.rules
  obtain ⟨hc1, hf1, hl1⟩ := HH5.out.b1.rules
  have hp3 := HP3.out
  have hq3 := HQ3.out
  clear HP3 HQ3
  obtain ⟨tt, htt⟩ : ∃ tt : Bool, (tt = true ↔ x0 = x1) := ⟨decide (p = 0), by rw [decide_eq_true_eq]; exact HSD.out.symm⟩
  have HSB := Lib.hid (fun (W : World) (h : Below w.heap.size w W) => show Calls Tryd.prog 36 _ _ (BoolS tt W) from (HSM.out W h).mono fun e w' ⟨t, h1, h2, h3⟩ => ⟨by rw [h1]; congr 2; rw [Bool.eq_iff_iff, h2, htt]; exact ⟨fun h => h.2.2, fun h => ⟨HG01.out.1, HG01.out.2, h⟩⟩, h3⟩)
  rcases hp3 with rfl | rfl | rfl
  · obtain rfl : tt = false := by
      have h9 := HSD.out
      cases tt
      · rfl
      · exact absurd (h9.1 (htt.1 rfl)) (by decide)
    clear htt
    rcases hq3 with rfl | rfl | rfl
    · obtain rfl := HTH.out.2.2.2 rfl rfl
      go_wp2_with fail
      refine (HSB.out _ HH5.out.1).mono ?_
      rintro e w9 ⟨rfl, hb9⟩
      have HH9 := Lib.hid (HH5.out.keep hb9)
      clear hb9 hc2 hf2 hl2 hc1 hf1 hl1
      go_wp2
      go_ret
      exact ⟨rfl, HH9.out.1⟩
    · obtain rfl := HTH.out.2.1 rfl rfl
      go_wp2_with fail
      refine (HSB.out _ HH5.out.1).mono ?_
      rintro e w9 ⟨rfl, hb9⟩
      have HH9 := Lib.hid (HH5.out.keep hb9)
      clear hb9 hc2 hf2 hl2 hc1 hf1 hl1
      go_wp2
      go_ret
      exact ⟨rfl, HH9.out.1⟩
    · go_wp2_with fail
      refine (HSB.out _ HH5.out.1).mono ?_
      rintro e w9 ⟨rfl, hb9⟩
      have HH9 := Lib.hid (HH5.out.keep hb9)
      clear hb9 hc2 hf2 hl2 hc1 hf1 hl1
      go_wp2
      go_ret
      exact ⟨rfl, HH9.out.1⟩
  · obtain rfl : tt = true := by
      have h9 := HSD.out
      cases tt
      · exact absurd (htt.2 (h9.2 rfl)) (by decide)
      · rfl
    clear htt
    rcases hq3 with rfl | rfl | rfl
    · obtain rfl := HTH.out.2.2.1 rfl rfl
      go_wp2_with fail
      refine (HSB.out _ HH5.out.1).mono ?_
      rintro e w9 ⟨rfl, hb9⟩
      have HH9 := Lib.hid (HH5.out.keep hb9)
      clear hb9 hc2 hf2 hl2 hc1 hf1 hl1
      go_wp2
      go_ret
      exact ⟨rfl, HH9.out.1⟩
    · obtain rfl := HTH.out.1 rfl rfl
      go_wp2_with fail
      refine (HSB.out _ HH5.out.1).mono ?_
      rintro e w9 ⟨rfl, hb9⟩
      have HH9 := Lib.hid (HH5.out.keep hb9)
      clear hb9 hc2 hf2 hl2 hc1 hf1 hl1
      go_wp2
      go_ret
      exact ⟨rfl, HH9.out.1⟩
    · go_wp2_with fail
      refine (HSB.out _ HH5.out.1).mono ?_
      rintro e w9 ⟨rfl, hb9⟩
      have HH9 := Lib.hid (HH5.out.keep hb9)
      clear hb9 hc2 hf2 hl2 hc1 hf1 hl1
      go_wp2
      go_ret
      exact ⟨rfl, HH9.out.1⟩
  · obtain rfl : tt = false := by
      have h9 := HSD.out
      cases tt
      · rfl
      · exact absurd (h9.1 (htt.1 rfl)) (by decide)
    clear htt
    rcases hq3 with rfl | rfl | rfl
    · go_wp2_with fail
      refine (HSB.out _ HH5.out.1).mono ?_
      rintro e w9 ⟨rfl, hb9⟩
      have HH9 := Lib.hid (HH5.out.keep hb9)
      clear hb9 hc2 hf2 hl2 hc1 hf1 hl1
      go_wp2
      go_ret
      exact ⟨rfl, HH9.out.1⟩
    · go_wp2_with fail
      refine (HSB.out _ HH5.out.1).mono ?_
      rintro e w9 ⟨rfl, hb9⟩
      have HH9 := Lib.hid (HH5.out.keep hb9)
      clear hb9 hc2 hf2 hl2 hc1 hf1 hl1
      go_wp2
      go_ret
      exact ⟨rfl, HH9.out.1⟩
    · go_wp2_with fail
      refine (HSB.out _ HH5.out.1).mono ?_
      rintro e w9 ⟨rfl, hb9⟩
      have HH9 := Lib.hid (HH5.out.keep hb9)
      clear hb9 hc2 hf2 hl2 hc1 hf1 hl1
      go_wp2
      go_ret
      exact ⟨rfl, HH9.out.1⟩
end Go.Proofs.YtbaogoiiekpgiaaDoor
