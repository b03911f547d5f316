/- The walk of PrintLeast. -/
import Derived.Test.YtoejdhabpajhlaaGreatDoorP6d
import Derived.Test.YtoejdhabpajhlaaGreatDoorNrtP
namespace Go.Proofs.YtoejdhabpajhlaaGreatDoor
set_option linter.unusedVariables false
set_option linter.unusedSimpArgs false
open Go.RowKit
attribute [local go_sem] run_index_arr run_part_agg run_part_one run_field_agg

theorem nrt_good {v : JV} (h : good v = true) : noNrt (canJ v) := nrt_can v 8 (good_J h).1
set_option maxRecDepth 100000 in
set_option maxHeartbeats 8000000 in
theorem printLeast_any (v : Value) (x : List UInt8) (w : World) (hG : GOK w) (hv : BS w v x) (hx : x.length ≤ 9223372036854775807) :
    Calls Tryz.prog 7 #[v] w (BoolS true w) := by
  obtain ⟨i0, hi, hz0, hz1, hz2⟩ := info_parts infoByte
  have HI := Lib.hid hi
  have HG := Lib.hid hG
  obtain ⟨A, ca, rfl, hca, hra⟩ := hv
  obtain ⟨n, hn⟩ : ∃ n, min x.length 2049 = n := ⟨_, rfl⟩
  have hn1 : min (x.length : Int) 2049 = (n : Int) := by omega
  have hnc : n ≤ ca := by omega
  have HB := Lib.hid (bs_take (n := n) ⟨A, ca, rfl, hca, hra⟩ (by omega))
  have hbl : (x.take n).length = n := by rw [List.length_take]; omega
  have hn8 : n ≤ 2049 := by omega
  clear hra hn hi hG
  generalize x.take n = b at HB hbl
  obtain ⟨m, hm⟩ : ∃ m, x.length = m := ⟨_, rfl⟩
  rw [hm] at hn1 hx hca ⊢
  have hif : (if 2049 < (m : Int) then 2049 else (m : Int)) = (n : Int) := by split <;> omega
  have HBL := Lib.hid hbl
  have HN8 := Lib.hid hn8
  obtain ⟨S, hS⟩ : ∃ S : ByteArray, S = ⟨b.toArray⟩ := ⟨_, rfl⟩
  have HS := Lib.hid hS
  clear hm hbl hn8 hS
  go_enter Tryz.func7, Tryz.ntmps7
  go_wp2_with fail
  refine (wakes6_any _ HG.out).mono ?_
  rintro e w1 ⟨rfl, hb1⟩
  have HB1 := Lib.hid hb1
  have HO1 := Lib.hid (emptyRow w1)
  have HBE := Lib.hid ((Below.refl w1.heap.size w1).alloc (Nat.le_refl _) (.cells #[] 5))
  have hB2 : w1.heap.size ≤ (w1.alloc (.cells #[] 5)).heap.size := HBE.out.size
  have HBA := Lib.hid ((HB.out.below HB1.out).below HBE.out)
  have HRA := Lib.hid (show Rd (w1.alloc (.cells #[] 5)) A (byteV b) by
    obtain ⟨A', c', e, _, h⟩ := HBA.out
    injection e with e1 e2 e3
    subst e1; exact h)
  have HNA := Lib.hid (show A = none → n = 0 from fun e => by
    rcases Nat.eq_zero_or_pos n with h | h
    · exact h
    · obtain ⟨_, _, e', _⟩ := Rd.some_ HRA.out (by rw [HBL.out]; exact h); rw [e] at e'; cases e')
  clear hb1
  go_wp2_with (at_builtin; refine wpList_append_rd _ rfl _ _ 34 rfl w1.heap.size 5 i0 _ 1 1 Tryz.underlying34 HI.out hz0 hz1 hz2 rfl (by decide) _ _ _ rfl HO1.out A n ca HNA.out (byteV b) rfl (by rw [byteV_len, Nat.mul_one]; exact HBL.out) HRA.out (byteV_one _) (by have h1 := HN8.out; unfold maxLen; omega) (by have h1 := HN8.out; omega) hB2 ?_; intro v' w3 hown' hgr _)
  have HB3 := Lib.hid (HBE.out.grown hgr hB2 (fun k e => (HO1.out.lt k e).1))
  have HV3 := Lib.hid (show BS w3 v' b by
    have h : w3.ownsRow w1.heap.size 5 1 v' b.length (byteV b) := by rw [HBL.out]; simpa using hown'
    obtain ⟨a5, c5, e, hc5, hr5⟩ := Rd.of_own h
    exact ⟨_, _, e, hc5, hr5⟩)
  have HT3 := Lib.hid (HB1.out.trans (HB3.out.mono HB1.out.size))
  clear hown' hgr hB2
  go_wp2_with fail
  refine (parseParse_any _ b w3 (HG.out.keep HT3.out) HV3.out (by have := HN8.out; have := HBL.out; omega)).mono ?_
  rintro e w4 ⟨⟨x0, a1, e1⟩, ho, cs, rfl, hvr, hb4⟩
  have HO := Lib.hid ho
  have HV4 := Lib.hid hvr
  have HT4 := Lib.hid (HT3.out.trans (hb4.mono HT3.out.size))
  have HX4 := Lib.hid (HV3.out.below hb4)
  obtain ⟨k5, n5, s5, A5, na5, ca5, B5, nb5, cb5, rfl⟩ := hvr.form
  clear hvr ho hb4
  simp only
  have HH5 := Lib.hid ((Held.nil w4).push 25 #[.int .i64 k5, .int .i64 n5, .string s5, .slice A5 na5 ca5, .slice B5 nb5 cb5] (g := w4.heap.size) rfl)
  obtain ⟨A3, c3, rfl, _, _⟩ := HV3.out
  have hn3 := HBL.out
  rw [hn3]
  clear hn3
  have HT5 := Lib.hid (HT4.out.trans (HH5.out.1.mono HT4.out.size))
  clear HX4 HB HBA HRA HNA HV3 HBE HO1 hif hn1
  rcases parse_came HO.out with ⟨he, hz⟩ | ⟨he, ha, hl, hg, hc, hcl⟩
  · have h1 : (e1 == 0) = false := by simp [he]
    have h2 : (e1 != 0) = true := by simp [he]
    clear hz he
    go_wp2
    go_ret
    exact ⟨rfl, HT5.out⟩
  · subst he ha
    have HPR := Lib.hid (show prnR x0 = (canJ x0, 0) by unfold prnR; rw [if_pos hg, if_neg (by omega)])
    obtain ⟨S2, hS2⟩ : ∃ S2 : ByteArray, S2 = ⟨(canJ x0).toArray⟩ := ⟨_, rfl⟩
    have hs2 : S2.data.toList = canJ x0 := by rw [hS2]
    have hsz : S2.size = (canJ x0).length := by rw [← hs2]; exact Lib.size_eq S2
    have hle : (S2.size : Int) ≤ (n : Int) := by rw [hsz]; have := HBL.out; omega
    have HC := Lib.hid hc
    have HCA := Lib.hid (fun W => show Calls Tryz.prog 18 #[.string S2, .string ⟨#[10, 13, 9]⟩] W (fun e w' => e = .returned (.bool false) ∧ Below W.heap.size W w') from cAny_no S2 (by rw [hsz]; omega) (by rw [hs2]; exact nrt_good hg) W)
    have HS2 := Lib.hid hS2
    clear hl hg hc hcl hS2 hs2 hsz
    obtain ⟨hc0, hf0, hl0⟩ := HH5.out.b0.rules
    go_wp2_with fail
    refine (pPrn_is HPR.out (HV4.out.bel HH5.out.1) (HG.out.keep HT5.out) HC.out).mono ?_
    rintro e w6 ⟨rfl, hb6⟩
    rw [← HS2.out]
    have HT6 := Lib.hid (HT5.out.trans (hb6.mono HT5.out.size))
    clear hb6 hc0 hf0 hl0
    go_wp2_with fail
    refine (HCA.out _).mono ?_
    rintro e w7 ⟨rfl, hb7⟩
    have HT7 := Lib.hid (HT6.out.trans (hb7.mono HT6.out.size))
    clear hb7
    go_wp2
    go_ret
    exact ⟨rfl, HT7.out⟩
end Go.Proofs.YtoejdhabpajhlaaGreatDoor
