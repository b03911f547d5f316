/- The walk of PrintTells. -/
import Derived.Test.YtoejdhabpajhlaaGreatDoorPrnW
import Derived.Test.YtoejdhabpajhlaaGreatDoorRef6d
namespace Go.Proofs.YtoejdhabpajhlaaGreatDoor
set_option linter.unusedVariables false
set_option linter.unusedSimpArgs false
open Go.RowKit
attribute [local go_sem] run_index_arr run_part_agg run_part_one run_field_agg

theorem tells_cases (v : JV) : (good v = true ∧ prnR v = (canJ v, 0) ∧ sizR v = (((canJ v).length : Int), 0) ∧ (canJ v).length ≤ 2048) ∨ (good v = true ∧ prnR v = ([], 3) ∧ sizR v = (((canJ v).length : Int), 0) ∧ 2048 < (canJ v).length) ∨ (good v = false ∧ prnR v = ([], 140) ∧ sizR v = (0, 140)) := by
  unfold prnR sizR
  by_cases hg : good v = true
  · by_cases hl : 2048 < (canJ v).length
    · right; left; rw [if_pos hg, if_pos hl, if_pos hg]; exact ⟨hg, rfl, rfl, hl⟩
    · left; rw [if_pos hg, if_neg hl, if_pos hg]; exact ⟨hg, rfl, rfl, by omega⟩
  · right; right; rw [if_neg hg, if_neg hg]; exact ⟨by simpa using hg, rfl, rfl⟩
theorem rText_is {v : JV} (hg : good v = true) {cs : List Value} {F : Nat → Prop} {w : World} (hv : VR w F cs v) (hc : Came v) : Calls Tryz.prog 13 #[.agg cs.toArray] w (StrS (canJ v) w) := rText (nodesJ v) v 8 (Nat.le_refl _) (good_J hg).1 hc cs F w hv
theorem rRight_is {v : JV} {t : Bool} (hg : good v = t) {cs : List Value} {F : Nat → Prop} {w : World} (hv : VR w F cs v) (hc : Came v) : Calls Tryz.prog 12 #[.agg cs.toArray] w (BoolS t w) := by rw [← hg]; exact rRightG v cs F w hv hc
set_option maxRecDepth 100000 in
set_option maxHeartbeats 8000000 in
theorem printTells_any (cs0 : Array Value) (x0 : JV) (w : World) (hG : GOK w) (h0 : VR w TT cs0.toList x0) (c0 : Came x0) :
    Calls Tryz.prog 3 #[.agg cs0] w (BoolS true w) := by
  obtain ⟨l0, rfl⟩ : ∃ l : List Value, cs0 = l.toArray := ⟨cs0.toList, by simp⟩
  replace h0 : VR w TT l0 x0 := by simpa using h0
  have HV0 := Lib.hid (fun (W : World) (h : Below w.heap.size w W) => h0.bel h)
  obtain ⟨k0, n0, s0, A0, na0, ca0, B0, nb0, cb0, rfl⟩ := h0.form
  have HG := Lib.hid hG
  have C0 := Lib.hid c0
  have HH0 := Lib.hid ((Held.nil w).push 25 #[.int .i64 k0, .int .i64 n0, .string s0, .slice A0 na0 ca0, .slice B0 nb0 cb0] (g := w.heap.size) rfl)
  obtain ⟨S, hS⟩ : ∃ S : ByteArray, S = ⟨(canJ x0).toArray⟩ := ⟨_, rfl⟩
  have HSS := Lib.hid hS
  have hsl : sl S = canJ x0 := by rw [hS]
  have hsz : S.size = (canJ x0).length := by rw [← hsl, sl_len]
  have HSZ := Lib.hid hsz
  clear h0 c0 hG hsl
  rcases tells_cases x0 with ⟨hg, hp, hz, hl⟩ | ⟨hg, hp, hz, hl⟩ | ⟨hg, hp, hz⟩
  · have HP := Lib.hid hp
    have HZ := Lib.hid hz
    have HR := Lib.hid (fun (W : World) (h : Below w.heap.size w W) => rRight_is hg (HV0.out W h) C0.out)
    have HTX := Lib.hid (fun (W : World) (h : Below w.heap.size w W) => rText_is hg (HV0.out W h) C0.out)
    rw [← hsz] at hl
    clear hp hz hg hS hsz
    go_enter Tryz.func3, Tryz.ntmps3
    go_wp2_with fail
    refine (wakes6_any _ (HG.out.keep HH0.out.1)).mono ?_
    rintro e w1 ⟨rfl, hb1⟩
    have HH1 := Lib.hid (HH0.out.keep hb1)
    clear hb1 HH0
    obtain ⟨hc0, hf0, hl0⟩ := HH1.out.b0.rules
    go_wp2_with fail
    refine (pPrn_is HP.out (HV0.out _ HH1.out.1) (HG.out.keep HH1.out.1) C0.out).mono ?_
    rintro e w2 ⟨rfl, hb2⟩
    rw [← HSS.out]
    have HH2 := Lib.hid (HH1.out.keep hb2)
    clear hb2 HH1 hc0 hf0 hl0
    obtain ⟨hc0, hf0, hl0⟩ := HH2.out.b0.rules
    go_wp2_with fail
    refine (pSiz_is HZ.out (HV0.out _ HH2.out.1) (HG.out.keep HH2.out.1) C0.out).mono ?_
    rintro e w3 ⟨rfl, hb3⟩
    rw [← HSZ.out]
    have HH3 := Lib.hid (HH2.out.keep hb3)
    clear hb3 HH2 hc0 hf0 hl0
    obtain ⟨hc0, hf0, hl0⟩ := HH3.out.b0.rules
    go_wp2_with fail
    refine (HR.out _ HH3.out.1).mono ?_
    rintro e w4 ⟨rfl, hb4⟩
    have HH4 := Lib.hid (HH3.out.keep hb4)
    clear hb4 HH3 hc0 hf0 hl0
    obtain ⟨hc0, hf0, hl0⟩ := HH4.out.b0.rules
    go_wp2_with fail
    refine (HTX.out _ HH4.out.1).mono ?_
    rintro e w5 ⟨rfl, hb5⟩
    rw [← HSS.out]
    have HH5 := Lib.hid (HH4.out.keep hb5)
    clear hb5 HH4 hc0 hf0 hl0
    go_wp2
    go_ret
    exact ⟨rfl, HH5.out.1⟩
  · have HP := Lib.hid hp
    have HZ := Lib.hid hz
    have HR := Lib.hid (fun (W : World) (h : Below w.heap.size w W) => rRight_is hg (HV0.out W h) C0.out)
    have HTX := Lib.hid (fun (W : World) (h : Below w.heap.size w W) => rText_is hg (HV0.out W h) C0.out)
    rw [← hsz] at hl
    clear hp hz hg hS hsz
    go_enter Tryz.func3, Tryz.ntmps3
    go_wp2_with fail
    refine (wakes6_any _ (HG.out.keep HH0.out.1)).mono ?_
    rintro e w1 ⟨rfl, hb1⟩
    have HH1 := Lib.hid (HH0.out.keep hb1)
    clear hb1 HH0
    obtain ⟨hc0, hf0, hl0⟩ := HH1.out.b0.rules
    go_wp2_with fail
    refine (pPrn_is HP.out (HV0.out _ HH1.out.1) (HG.out.keep HH1.out.1) C0.out).mono ?_
    rintro e w2 ⟨rfl, hb2⟩
    have HH2 := Lib.hid (HH1.out.keep hb2)
    clear hb2 HH1 hc0 hf0 hl0
    obtain ⟨hc0, hf0, hl0⟩ := HH2.out.b0.rules
    go_wp2_with fail
    refine (pSiz_is HZ.out (HV0.out _ HH2.out.1) (HG.out.keep HH2.out.1) C0.out).mono ?_
    rintro e w3 ⟨rfl, hb3⟩
    rw [← HSZ.out]
    have HH3 := Lib.hid (HH2.out.keep hb3)
    clear hb3 HH2 hc0 hf0 hl0
    obtain ⟨hc0, hf0, hl0⟩ := HH3.out.b0.rules
    go_wp2_with fail
    refine (HR.out _ HH3.out.1).mono ?_
    rintro e w4 ⟨rfl, hb4⟩
    have HH4 := Lib.hid (HH3.out.keep hb4)
    clear hb4 HH3 hc0 hf0 hl0
    obtain ⟨hc0, hf0, hl0⟩ := HH4.out.b0.rules
    go_wp2_with fail
    refine (HTX.out _ HH4.out.1).mono ?_
    rintro e w5 ⟨rfl, hb5⟩
    rw [← HSS.out]
    have HH5 := Lib.hid (HH4.out.keep hb5)
    clear hb5 HH4 hc0 hf0 hl0
    go_wp2
    go_ret
    exact ⟨rfl, HH5.out.1⟩
  · have HP := Lib.hid hp
    have HZ := Lib.hid hz
    have HR := Lib.hid (fun (W : World) (h : Below w.heap.size w W) => rRight_is hg (HV0.out W h) C0.out)
    clear hp hz hg hS hsz
    go_enter Tryz.func3, Tryz.ntmps3
    go_wp2_with fail
    refine (wakes6_any _ (HG.out.keep HH0.out.1)).mono ?_
    rintro e w1 ⟨rfl, hb1⟩
    have HH1 := Lib.hid (HH0.out.keep hb1)
    clear hb1 HH0
    obtain ⟨hc0, hf0, hl0⟩ := HH1.out.b0.rules
    go_wp2_with fail
    refine (pPrn_is HP.out (HV0.out _ HH1.out.1) (HG.out.keep HH1.out.1) C0.out).mono ?_
    rintro e w2 ⟨rfl, hb2⟩
    have HH2 := Lib.hid (HH1.out.keep hb2)
    clear hb2 HH1 hc0 hf0 hl0
    obtain ⟨hc0, hf0, hl0⟩ := HH2.out.b0.rules
    go_wp2_with fail
    refine (pSiz_is HZ.out (HV0.out _ HH2.out.1) (HG.out.keep HH2.out.1) C0.out).mono ?_
    rintro e w3 ⟨rfl, hb3⟩
    have HH3 := Lib.hid (HH2.out.keep hb3)
    clear hb3 HH2 hc0 hf0 hl0
    obtain ⟨hc0, hf0, hl0⟩ := HH3.out.b0.rules
    go_wp2_with fail
    refine (HR.out _ HH3.out.1).mono ?_
    rintro e w4 ⟨rfl, hb4⟩
    have HH4 := Lib.hid (HH3.out.keep hb4)
    clear hb4 HH3 hc0 hf0 hl0
    go_wp2
    go_ret
    exact ⟨rfl, HH4.out.1⟩
end Go.Proofs.YtoejdhabpajhlaaGreatDoor
