/- The walk of PrintApart. -/
import Derived.Test.YtoejdhabpajhlaaGreatDoorPrnW
import Derived.Test.YtoejdhabpajhlaaGreatDoorEqG
namespace Go.Proofs.YtoejdhabpajhlaaGreatDoor
set_option linter.unusedVariables false
set_option linter.unusedSimpArgs false
open Go.RowKit
attribute [local go_sem] run_index_arr run_part_agg run_part_one run_field_agg

/-- values with one text are one -/
theorem can_inj {v w : JV} (hv : good v = true) (hw : good w = true) (iv : inJ v) (iw : inJ w) (h : canJ v = canJ w) : v = w := by
  have h1 := can_back hv iv
  have h2 := can_back hw iw
  rw [← h] at h2
  have h3 := reach_det (start_reach h1) (outR_end _) (start_reach h2) (outR_end _)
  have h4 := congrArg valueOut h3
  rw [refAt_is, refAt_is] at h4
  exact congrArg Prod.fst h4
theorem prn_ok {v : JV} {a : List UInt8} (h : prnR v = (a, 0)) : good v = true ∧ a = canJ v ∧ (canJ v).length ≤ 2048 := by
  unfold prnR at h
  split at h
  · split at h
    · simp at h
    · simp only [Prod.mk.injEq, and_true] at h
      exact ⟨‹_›, h.symm, by omega⟩
  · simp at h
theorem same_is {v v' : JV} {cs cs' : List Value} {F F' : Nat → Prop} {w : World} {t : Bool} (ht : (good v = true ∧ good v' = true ∧ v = v') ↔ t = true) (hG : GOK w) (hv : VR w F cs v) (hv' : VR w F' cs' v') (hC : Came v) (hC' : Came v') :
    Calls Tryz.prog 17 #[.agg cs.toArray, .agg cs'.toArray] w (BoolS t w) := by
  refine (vSameG v v' cs cs' F F' w hG hv hv' hC hC').mono ?_
  rintro e w' ⟨u, h1, h2, h3⟩
  refine ⟨?_, h3⟩
  rw [h1]
  have : u = t := by rw [Bool.eq_iff_iff]; exact h2.trans ht
  rw [this]
set_option maxRecDepth 100000 in
set_option maxHeartbeats 8000000 in
theorem printApart_any (cs0 : Array Value) (x0 : JV) (cs1 : Array Value) (x1 : JV) (w : World) (hG : GOK w) (h0 : VR w TT cs0.toList x0) (c0 : Came x0) (h1 : VR w TT cs1.toList x1) (c1 : Came x1) :
    Calls Tryz.prog 6 #[.agg cs0, .agg cs1] w (BoolS true w) := by
  obtain ⟨l0, rfl⟩ : ∃ l : List Value, cs0 = l.toArray := ⟨cs0.toList, by simp⟩
  replace h0 : VR w TT l0 x0 := by simpa using h0
  have HV0 := Lib.hid (fun (W : World) (h : Below w.heap.size w W) => h0.bel h)
  obtain ⟨k0, n0, s0, A0, na0, ca0, B0, nb0, cb0, rfl⟩ := h0.form
  obtain ⟨l1, rfl⟩ : ∃ l : List Value, cs1 = l.toArray := ⟨cs1.toList, by simp⟩
  replace h1 : VR w TT l1 x1 := by simpa using h1
  have HV1 := Lib.hid (fun (W : World) (h : Below w.heap.size w W) => h1.bel h)
  obtain ⟨k1, n1, s1, A1, na1, ca1, B1, nb1, cb1, rfl⟩ := h1.form
  have HG := Lib.hid hG
  have C0 := Lib.hid c0
  have C1 := Lib.hid c1
  have HH0 := Lib.hid (((Held.nil w).push 25 #[.int .i64 k0, .int .i64 n0, .string s0, .slice A0 na0 ca0, .slice B0 nb0 cb0] (g := w.heap.size) rfl).push 25 #[.int .i64 k1, .int .i64 n1, .string s1, .slice A1 na1 ca1, .slice B1 nb1 cb1] (g := w.heap.size + 1) (by simp))
  obtain ⟨⟨t0, e0⟩, hp0⟩ : ∃ q, prnR x0 = q := ⟨_, rfl⟩
  obtain ⟨⟨t1, e1⟩, hp1⟩ : ∃ q, prnR x1 = q := ⟨_, rfl⟩
  have HP0 := Lib.hid hp0
  have HP1 := Lib.hid hp1
  have HFIN := Lib.hid (show e0 = 0 → e1 = 0 → (t0 == t1) = true ∧ (good x0 = true ∧ good x1 = true ∧ x0 = x1) ∨ (t0 == t1) = false ∧ ¬ (good x0 = true ∧ good x1 = true ∧ x0 = x1) by
    rintro rfl rfl
    obtain ⟨g0, rfl, _⟩ := prn_ok hp0
    obtain ⟨g1, rfl, _⟩ := prn_ok hp1
    by_cases h : canJ x0 = canJ x1
    · left
      exact ⟨by rw [h]; simp, g0, g1, can_inj g0 g1 c0.ints c1.ints h⟩
    · right
      exact ⟨by rw [beq_eq_false_iff_ne]; exact h, fun h' => h (by rw [h'.2.2])⟩)
  clear h0 h1 c0 c1 hG hp0 hp1
  go_enter Tryz.func6, Tryz.ntmps6
  go_wp2_with fail
  refine (wakes6_any _ (HG.out.keep HH0.out.1)).mono ?_
  rintro e w1 ⟨rfl, hb1⟩
  have HH1 := Lib.hid (HH0.out.keep hb1)
  clear hb1 HH0
  obtain ⟨hc1, hf1, hl1⟩ := HH1.out.b1.rules
  obtain ⟨hc0, hf0, hl0⟩ := HH1.out.b0.rules
  go_wp2_with fail
  refine (pPrn_is HP0.out (HV0.out _ HH1.out.1) (HG.out.keep HH1.out.1) C0.out).mono ?_
  rintro e w2 ⟨rfl, hb2⟩
  have HH2 := Lib.hid (HH1.out.keep hb2)
  clear hb2 HH1 hc1 hf1 hl1 hc0 hf0 hl0
  obtain ⟨hc1, hf1, hl1⟩ := HH2.out.b1.rules
  obtain ⟨hc0, hf0, hl0⟩ := HH2.out.b0.rules
  go_wp2_with fail
  refine (pPrn_is HP1.out (HV1.out _ HH2.out.1) (HG.out.keep HH2.out.1) C1.out).mono ?_
  rintro e w3 ⟨rfl, hb3⟩
  have HH3 := Lib.hid (HH2.out.keep hb3)
  clear hb3 HH2 hc1 hf1 hl1 hc0 hf0 hl0
  by_cases he0 : e0 = 0
  case neg =>
    have hx : (e0 != 0) = true := by simp [he0]
    go_wp2
    go_ret
    exact ⟨rfl, HH3.out.1⟩
  by_cases he1 : e1 = 0
  case neg =>
    have hx : (e1 != 0) = true := by simp [he1]
    subst he0
    go_wp2
    go_ret
    exact ⟨rfl, HH3.out.1⟩
  have hf := HFIN.out he0 he1
  subst he0 he1
  obtain ⟨hc1, hf1, hl1⟩ := HH3.out.b1.rules
  obtain ⟨hc0, hf0, hl0⟩ := HH3.out.b0.rules
  clear HFIN
  rcases hf with ⟨hst, hsm⟩ | ⟨hst, hsm⟩
  · have HSM := Lib.hid (same_is (t := true) ⟨fun _ => rfl, fun _ => hsm⟩ (HG.out.keep HH3.out.1) (HV0.out _ HH3.out.1) (HV1.out _ HH3.out.1) C0.out C1.out)
    clear hsm
    go_wp2_with fail
    refine HSM.out.mono ?_
    rintro e w4 ⟨rfl, hb4⟩
    have HH4 := Lib.hid (HH3.out.keep hb4)
    clear hb4 hc1 hf1 hl1 hc0 hf0 hl0
    go_wp2
    go_ret
    exact ⟨rfl, HH4.out.1⟩
  · have HSM := Lib.hid (same_is (t := false) ⟨fun h => absurd h hsm, fun h => by cases h⟩ (HG.out.keep HH3.out.1) (HV0.out _ HH3.out.1) (HV1.out _ HH3.out.1) C0.out C1.out)
    clear hsm
    go_wp2_with fail
    refine HSM.out.mono ?_
    rintro e w4 ⟨rfl, hb4⟩
    have HH4 := Lib.hid (HH3.out.keep hb4)
    clear hb4 hc1 hf1 hl1 hc0 hf0 hl0
    go_wp2
    go_ret
    exact ⟨rfl, HH4.out.1⟩
end Go.Proofs.YtoejdhabpajhlaaGreatDoor
