/- The walk of PrintBack. -/
import Derived.Test.YtoejdhabpajhlaaGreatDoorP6a
namespace Go.Proofs.YtoejdhabpajhlaaGreatDoor
set_option linter.unusedVariables false
set_option linter.unusedSimpArgs false
open Go.RowKit
attribute [local go_sem] run_index_arr run_part_agg run_part_one run_field_agg

theorem prn_cases (v : JV) : (prnR v = (canJ v, 0) ∧ good v = true ∧ (canJ v).length ≤ 2048) ∨ (prnR v = ([], 3) ∧ chkJ v = 0) ∨ (prnR v = ([], 140) ∧ chkJ v = 140) := by
  unfold prnR chkJ
  by_cases hg : good v = true
  · by_cases hl : 2048 < (canJ v).length
    · right; left; rw [if_pos hg, if_pos hl, if_pos hg]; exact ⟨rfl, rfl⟩
    · left; rw [if_pos hg, if_neg hl]; exact ⟨rfl, hg, by omega⟩
  · right; right; rw [if_neg hg, if_neg hg]; exact ⟨rfl, rfl⟩
set_option maxRecDepth 100000 in
set_option maxHeartbeats 8000000 in
theorem printBack_any (cs0 : Array Value) (x0 : JV) (w : World) (hG : GOK w) (h0 : VR w TT cs0.toList x0) (c0 : Came x0) :
    Calls Tryz.prog 5 #[.agg cs0] w (BoolS true w) := by
  obtain ⟨l0, rfl⟩ : ∃ l : List Value, cs0 = l.toArray := ⟨cs0.toList, by simp⟩
  replace h0 : VR w TT l0 x0 := by simpa using h0
  have HV0 := Lib.hid (fun (W : World) (h : Below w.heap.size w W) => h0.bel h)
  obtain ⟨k0, n0, s0, A0, na0, ca0, B0, nb0, cb0, rfl⟩ := h0.form
  have HG := Lib.hid hG
  have C0 := Lib.hid c0
  have HH0 := Lib.hid ((Held.nil w).push 25 #[.int .i64 k0, .int .i64 n0, .string s0, .slice A0 na0 ca0, .slice B0 nb0 cb0] (g := w.heap.size) rfl)
  clear h0 c0 hG
  rcases prn_cases x0 with ⟨hp, hg, hl⟩ | ⟨hp, hk⟩ | ⟨hp, hk⟩
  · have HP := Lib.hid hp
    have HGD := Lib.hid hg
    have HLN := Lib.hid hl
    have HAG := Lib.hid (show agnR (x0, 0, 0) = (canJ x0, 0, 0) by unfold agnR; rw [if_neg (by simp), hp])
    have HSM := Lib.hid (fun (W : World) (cs : List Value) (F : Nat → Prop) (h : Below w.heap.size w W) (hv : VR W F cs x0) => same_is (t := true) ⟨fun _ => rfl, fun _ => ⟨hg, hg, rfl⟩⟩ (HG.out.keep h) hv (HV0.out W h) C0.out C0.out)
    clear hp hg hl
    obtain ⟨S, hS⟩ : ∃ S : ByteArray, S = ⟨(canJ x0).toArray⟩ := ⟨_, rfl⟩
    have HSS := Lib.hid hS
    have hsl : sl S = canJ x0 := by rw [hS]
    have hsz : S.size = (canJ x0).length := by rw [← hsl, sl_len]
    have HSL := Lib.hid hsl
    have HSZ := Lib.hid hsz
    unfold PrnP at *
    clear hS hsl hsz
    go_enter Tryz.func5, Tryz.ntmps5
    go_wp2_with fail
    refine (wakes6_any _ (HG.out.keep HH0.out.1)).mono ?_
    rintro e w1 ⟨rfl, hb1⟩
    have HH1 := Lib.hid (HH0.out.keep hb1)
    clear hb1 HH0
    obtain ⟨hc0, hf0, hl0⟩ := HH1.out.b0.rules
    go_wp2_with fail
    refine (pPrn_is HP.out (HV0.out _ HH1.out.1) (HG.out.keep HH1.out.1) C0.out).mono ?_
    rintro e w2 ⟨rfl, hb2⟩
    rw [← HSS.out]
    have HH2 := Lib.hid (HH1.out.keep hb2)
    clear hb2 HH1 hc0 hf0 hl0
    obtain ⟨cap3, w3, hcv3, hcp3, hb3, _, hr3⟩ := conv_bytes (P := Tryz.prog) w2 9 34 5 S Tryz.underlying9 Tryz.underlying34 Tryz.underlying5
    have HH3 := Lib.hid (HH2.out.keep hb3)
    rw [HSL.out] at hr3
    rw [HSZ.out] at hcp3
    have HBS3 := Lib.hid (show BS w3 (.slice (some ⟨w2.heap.size, 0, none⟩) (canJ x0).length cap3) (canJ x0) from ⟨_, _, rfl, hcp3, hr3⟩)
    rw [← HSZ.out] at HBS3
    clear hcp3 hb3 hr3 HH2
    go_wp2_with fail
    refine (parseParse_any _ (canJ x0) w3 (HG.out.keep HH3.out.1) HBS3.out (by have := HLN.out; omega)).mono ?_
    rintro e w4 ⟨⟨x, a1, e1⟩, ho, cs, rfl, hvr, hb4⟩
    obtain ⟨rfl, rfl, rfl⟩ := parse_back HGD.out C0.out.ints HLN.out ho
    have HV4 := Lib.hid hvr
    have HH4 := Lib.hid (HH3.out.keep hb4)
    obtain ⟨k5, n5, s5, A5, na5, ca5, B5, nb5, cb5, rfl⟩ := hvr.form
    clear hvr ho hb4 hcv3 HH3 HBS3
    simp only
    have HH5 := Lib.hid (HH4.out.push 25 #[.int .i64 k5, .int .i64 n5, .string s5, .slice A5 na5 ca5, .slice B5 nb5 cb5] (g := w4.heap.size) rfl)
    have HB5 := Lib.hid ((Below.refl w4.heap.size w4).alloc (Nat.le_refl _) (.cells #[.int .i64 k5, .int .i64 n5, .string s5, .slice A5 na5 ca5, .slice B5 nb5 cb5] 25))
    obtain ⟨W5, hW5⟩ : ∃ W5, w4.alloc (.cells #[.int .i64 k5, .int .i64 n5, .string s5, .slice A5 na5 ca5, .slice B5 nb5 cb5] 25) = W5 := ⟨_, rfl⟩
    have HW5 := Lib.hid hW5
    rw [hW5] at HH5 HB5
    clear hW5 HH4
    obtain ⟨cap6, w6, hcv6, hcp6, hb6, _, hr6⟩ := conv_bytes (P := Tryz.prog) W5 9 34 5 S Tryz.underlying9 Tryz.underlying34 Tryz.underlying5
    have HH6 := Lib.hid (HH5.out.keep hb6)
    rw [HSL.out] at hr6
    rw [HSZ.out] at hcp6
    have HBS6 := Lib.hid (show BS w6 (.slice (some ⟨W5.heap.size, 0, none⟩) (canJ x).length cap6) (canJ x) from ⟨_, _, rfl, hcp6, hr6⟩)
    rw [← HSZ.out] at HBS6
    have HV6 := Lib.hid ((HV4.out.bel HB5.out).bel hb6)
    have HCV6 := Lib.hid hcv6
    clear hcp6 hb6 hr6 hcv6 HB5 HV4
    go_upto_region 7 with (fail)
    rw [HW5.out]
    have hcv6 := HCV6.out
    clear HW5
    go_wp2_with fail
    refine (pAgain_any _ (canJ x) w6 (HG.out.keep HH6.out.1) HBS6.out (by have := HLN.out; omega)).mono ?_
    rintro e w7 ⟨⟨y, a2, e2⟩, ho, rfl, hb7⟩
    obtain ⟨rfl, rfl, rfl⟩ := parse_back HGD.out C0.out.ints HLN.out ho
    rw [HAG.out, ← HSS.out]
    have HH7 := Lib.hid (HH6.out.keep hb7)
    have HV7 := Lib.hid (HV6.out.bel hb7)
    clear ho hb7 hcv6 HH6 HBS6 HV6
    simp only
    obtain ⟨hc0, hf0, hl0⟩ := HH7.out.b0.rules
    obtain ⟨hc1, hf1, hl1⟩ := HH7.out.b1.rules
    go_wp2_with fail
    refine (HSM.out _ _ _ HH7.out.1 HV7.out).mono ?_
    rintro e w8 ⟨rfl, hb8⟩
    have HH8 := Lib.hid (HH7.out.keep hb8)
    clear hb8 hc0 hf0 hl0 hc1 hf1 hl1
    go_wp2
    go_ret
    exact ⟨rfl, HH8.out.1⟩
  · have HP := Lib.hid hp
    have HK := Lib.hid hk
    clear hp hk
    go_enter Tryz.func5, Tryz.ntmps5
    go_wp2_with fail
    refine (wakes6_any _ (HG.out.keep HH0.out.1)).mono ?_
    rintro e w1 ⟨rfl, hb1⟩
    have HH1 := Lib.hid (HH0.out.keep hb1)
    clear hb1 HH0
    obtain ⟨hc0, hf0, hl0⟩ := HH1.out.b0.rules
    go_wp2_with fail
    refine (pPrn_is HP.out (HV0.out _ HH1.out.1) (HG.out.keep HH1.out.1) C0.out).mono ?_
    rintro e w2 ⟨rfl, hb2⟩
    have HH2 := Lib.hid (HH1.out.keep hb2)
    clear hb2 HH1 hc0 hf0 hl0
    obtain ⟨hc0, hf0, hl0⟩ := HH2.out.b0.rules
    go_wp2_with fail
    refine (vChk_is HK.out (HG.out.keep HH2.out.1) (HV0.out _ HH2.out.1) C0.out).mono ?_
    rintro e w3 ⟨rfl, hb3⟩
    have HH3 := Lib.hid (HH2.out.keep hb3)
    clear hb3 HH2 hc0 hf0 hl0
    go_wp2
    go_ret
    exact ⟨rfl, HH3.out.1⟩
  · have HP := Lib.hid hp
    have HK := Lib.hid hk
    clear hp hk
    go_enter Tryz.func5, Tryz.ntmps5
    go_wp2_with fail
    refine (wakes6_any _ (HG.out.keep HH0.out.1)).mono ?_
    rintro e w1 ⟨rfl, hb1⟩
    have HH1 := Lib.hid (HH0.out.keep hb1)
    clear hb1 HH0
    obtain ⟨hc0, hf0, hl0⟩ := HH1.out.b0.rules
    go_wp2_with fail
    refine (pPrn_is HP.out (HV0.out _ HH1.out.1) (HG.out.keep HH1.out.1) C0.out).mono ?_
    rintro e w2 ⟨rfl, hb2⟩
    have HH2 := Lib.hid (HH1.out.keep hb2)
    clear hb2 HH1 hc0 hf0 hl0
    obtain ⟨hc0, hf0, hl0⟩ := HH2.out.b0.rules
    go_wp2_with fail
    refine (vChk_is HK.out (HG.out.keep HH2.out.1) (HV0.out _ HH2.out.1) C0.out).mono ?_
    rintro e w3 ⟨rfl, hb3⟩
    have HH3 := Lib.hid (HH2.out.keep hb3)
    clear hb3 HH2 hc0 hf0 hl0
    go_wp2
    go_ret
    exact ⟨rfl, HH3.out.1⟩
end Go.Proofs.YtoejdhabpajhlaaGreatDoor
