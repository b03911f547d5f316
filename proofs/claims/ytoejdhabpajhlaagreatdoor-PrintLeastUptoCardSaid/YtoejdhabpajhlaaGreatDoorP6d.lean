/- The walk of PrintAgain. -/
import Derived.Test.YtoejdhabpajhlaaGreatDoorP6c
namespace Go.Proofs.YtoejdhabpajhlaaGreatDoor
set_option linter.unusedVariables false
set_option linter.unusedSimpArgs false
open Go.RowKit
attribute [local go_sem] run_index_arr run_part_agg run_part_one run_field_agg

theorem parse_one {l : List UInt8} {o o' : JV × Int × Int} (h : ParseR l o) (h' : ParseR l o') : o = o' := by
  by_cases hl : 2048 < l.length
  · unfold ParseR at h h'; rw [if_pos hl] at h h'; rw [h, h']
  · have h0 := h
    unfold ParseR at h0; rw [if_neg hl] at h0
    obtain ⟨r, h1, h2, _, rfl⟩ := h0
    exact (ParseR_det (by omega) h1 h2 h').symm
theorem bs_take {w : World} {A : Option Addr} {cp n m : Nat} {b : List UInt8} (h : BS w (.slice A m cp) b) (hn : n ≤ b.length) : BS w (.slice A n cp) (b.take n) := by
  obtain ⟨A', cap', e, hc, hr⟩ := h
  injection e with e1 e2 e3
  subst e1; subst e3
  refine ⟨A, cp, by rw [List.length_take, Nat.min_eq_left hn], by rw [List.length_take]; omega, ?_⟩
  have h := hr.take n
  simpa [byteV] using h
/-- what the law begins with: the first 2049 bytes, in a row of their own -/
theorem emptyRow (w : World) : (w.alloc (.cells #[] 5)).ownsRow w.heap.size 5 1 (.slice (some ⟨w.heap.size, 0, none⟩) 0 0) 0 [] :=
  ⟨rfl, .inr ⟨w.heap.size, 0, _, rfl, Nat.le_refl _, Blk.new w 5 #[], Nat.le_refl _, by decide, rfl, rfl⟩⟩
set_option maxRecDepth 100000 in
set_option maxHeartbeats 8000000 in
theorem printAgain_any (v : Value) (x : List UInt8) (w : World) (hG : GOK w) (hv : BS w v x) (hx : x.length ≤ 9223372036854775807) :
    Calls Tryz.prog 4 #[v] w (BoolS true w) := by
  obtain ⟨i0, hi, hz0, hz1, hz2⟩ := info_parts infoByte
  have HI := Lib.hid hi
  have HG := Lib.hid hG
  obtain ⟨A, ca, rfl, hca, hra⟩ := hv
  obtain ⟨n, hn⟩ : ∃ n, min x.length 2049 = n := ⟨_, rfl⟩
  have hn1 : min (x.length : Int) 2049 = (n : Int) := by omega
  have hnc : n ≤ ca := by omega
  have HB := Lib.hid (bs_take (n := n) ⟨A, ca, rfl, hca, hra⟩ (by omega))
  have hbl : (x.take n).length = n := by rw [List.length_take]; omega
  have hn8 : n ≤ 2049 := by omega
  clear hra hn hi hG
  generalize x.take n = b at HB hbl
  obtain ⟨m, hm⟩ : ∃ m, x.length = m := ⟨_, rfl⟩
  rw [hm] at hn1 hx hca ⊢
  have hif : (if 2049 < (m : Int) then 2049 else (m : Int)) = (n : Int) := by split <;> omega
  have HBL := Lib.hid hbl
  have HN8 := Lib.hid hn8
  obtain ⟨S, hS⟩ : ∃ S : ByteArray, S = ⟨b.toArray⟩ := ⟨_, rfl⟩
  have HS := Lib.hid hS
  clear hm hbl hn8 hS
  go_enter Tryz.func4, Tryz.ntmps4
  go_wp2_with fail
  refine (wakes6_any _ HG.out).mono ?_
  rintro e w1 ⟨rfl, hb1⟩
  have HB1 := Lib.hid hb1
  have HO1 := Lib.hid (emptyRow w1)
  have HBE := Lib.hid ((Below.refl w1.heap.size w1).alloc (Nat.le_refl _) (.cells #[] 5))
  have hB2 : w1.heap.size ≤ (w1.alloc (.cells #[] 5)).heap.size := HBE.out.size
  have HBA := Lib.hid ((HB.out.below HB1.out).below HBE.out)
  have HRA := Lib.hid (show Rd (w1.alloc (.cells #[] 5)) A (byteV b) by
    obtain ⟨A', c', e, _, h⟩ := HBA.out
    injection e with e1 e2 e3
    subst e1; exact h)
  have HNA := Lib.hid (show A = none → n = 0 from fun e => by
    rcases Nat.eq_zero_or_pos n with h | h
    · exact h
    · obtain ⟨_, _, e', _⟩ := Rd.some_ HRA.out (by rw [HBL.out]; exact h); rw [e] at e'; cases e')
  clear hb1
  go_wp2_with (at_builtin; refine wpList_append_rd _ rfl _ _ 34 rfl w1.heap.size 5 i0 _ 1 1 Tryz.underlying34 HI.out hz0 hz1 hz2 rfl (by decide) _ _ _ rfl HO1.out A n ca HNA.out (byteV b) rfl (by rw [byteV_len, Nat.mul_one]; exact HBL.out) HRA.out (byteV_one _) (by have h1 := HN8.out; unfold maxLen; omega) (by have h1 := HN8.out; omega) hB2 ?_; intro v' w3 hown' hgr _)
  have HB3 := Lib.hid (HBE.out.grown hgr hB2 (fun k e => (HO1.out.lt k e).1))
  have HV3 := Lib.hid (show BS w3 v' b by
    have h : w3.ownsRow w1.heap.size 5 1 v' b.length (byteV b) := by rw [HBL.out]; simpa using hown'
    obtain ⟨a5, c5, e, hc5, hr5⟩ := Rd.of_own h
    exact ⟨_, _, e, hc5, hr5⟩)
  have HT3 := Lib.hid (HB1.out.trans (HB3.out.mono HB1.out.size))
  clear hown' hgr hB2
  go_wp2_with fail
  refine (parseParse_any _ b w3 (HG.out.keep HT3.out) HV3.out (by have := HN8.out; have := HBL.out; omega)).mono ?_
  rintro e w4 ⟨⟨x0, a1, e1⟩, ho, cs, rfl, hvr, hb4⟩
  have HO := Lib.hid ho
  have HV4 := Lib.hid hvr
  have HT4 := Lib.hid (HT3.out.trans (hb4.mono HT3.out.size))
  have HX4 := Lib.hid (HV3.out.below hb4)
  obtain ⟨k5, n5, s5, A5, na5, ca5, B5, nb5, cb5, rfl⟩ := hvr.form
  clear hvr ho hb4
  simp only
  have HH5 := Lib.hid ((Held.nil w4).push 25 #[.int .i64 k5, .int .i64 n5, .string s5, .slice A5 na5 ca5, .slice B5 nb5 cb5] (g := w4.heap.size) rfl)
  have hfree : True := trivial
  obtain ⟨A3, c3, rfl, hc3, _⟩ := HX4.out
  have hn3 := HBL.out
  rw [hn3] at HX4
  have HBL3 := Lib.hid hn3
  rw [hn3]
  clear hn3 hc3 hfree
  go_wp2_with fail
  refine (pAgain_any _ b _ (HG.out.keep (HT4.out.trans (HH5.out.1.mono HT4.out.size))) (HX4.out.below HH5.out.1) (by have := HN8.out; have := HBL.out; omega)).mono ?_
  rintro e w6 ⟨o6, ho6, rfl, hb6⟩
  obtain rfl := parse_one HO.out ho6
  have HH6 := Lib.hid (HH5.out.keep hb6)
  have HT6 := Lib.hid (HT4.out.trans (HH6.out.1.mono HT4.out.size))
  have hcvA : (convert 34 9 (.slice A3 n c3)).run Tryz.prog w6.drew = .ok (.string S) w6.drew := by
    rw [HS.out]; exact BS.conv (show BS w6.drew _ b from (HX4.out.below HH6.out.1).drewN 1)
  have hcvB : (convert 34 9 (.slice A n ca)).run Tryz.prog w6.drew = .ok (.string S) w6.drew := by
    rw [HS.out]; exact BS.conv (show BS w6.drew _ b from (HB.out.below HT6.out).drewN 1)
  have HV6 := Lib.hid (HV4.out.bel HH6.out.1)
  have hca6 := parse_came HO.out
  have HH7 := Lib.hid HH6.out.drew
  have HG6 := Lib.hid (HG.out.keep HT6.out)
  have HT7 := Lib.hid HT6.out.drew
  clear hb6 HH6 HX4 HB HH5 HBA HRA HNA HV3 HBE HO1 hif hn1 ho6
  rcases hca6 with ⟨he, hz⟩ | ⟨he, ha, hl, hg, hc, hcl⟩
  · have h1 : (e1 == 0) = false := by simp [he]
    have h2 : (e1 != 0) = true := by simp [he]
    have HAG := Lib.hid (show agnR (x0, a1, e1) = ([], a1, e1) by unfold agnR; rw [if_pos he])
    rw [HAG.out]
    clear hz he HAG
    simp only
    go_wp2
    go_region
    all_goals
      go_wp2
      go_ret
      exact ⟨rfl, HT7.out⟩
  · subst he ha
    have HPR := Lib.hid (show prnR x0 = (canJ x0, 0) by unfold prnR; rw [if_pos hg, if_neg (by omega)])
    have HAG := Lib.hid (show agnR (x0, 0, 0) = (canJ x0, 0, 0) by unfold agnR; rw [if_neg (by simp), HPR.out])
    have HR := Lib.hid (fun (W : World) (h : Below w6.heap.size w6 W) => rRight_is hg (HV6.out.bel h) hc)
    have HTX := Lib.hid (fun (W : World) (h : Below w6.heap.size w6 W) => rText_is hg (HV6.out.bel h) hc)
    rw [HAG.out]
    obtain ⟨S2, hS2⟩ : ∃ S2 : ByteArray, S2 = ⟨(canJ x0).toArray⟩ := ⟨_, rfl⟩
    have HS2 := Lib.hid hS2
    simp only
    rw [← hS2]
    clear hl hg hc hcl hS2
    go_wp2
    go_region
    all_goals
      obtain ⟨hc0, hf0, hl0⟩ := HH7.out.b0.rules
      go_wp2_with fail
      refine (HR.out _ (Below.refl _ _).drew).mono ?_
      rintro e w8 ⟨rfl, hb8⟩
      have HH8 := Lib.hid (HH7.out.keep hb8)
      have HD8 := Lib.hid ((Below.refl _ w6).drew.trans hb8)
      clear hb8 hc0 hf0 hl0
      obtain ⟨hc0, hf0, hl0⟩ := HH8.out.b0.rules
      go_wp2_with fail
      refine (HTX.out _ HD8.out).mono ?_
      rintro e w9 ⟨rfl, hb9⟩
      rw [← HS2.out]
      have HF := Lib.hid ((HT6.out.trans (HD8.out.mono HT6.out.size)).trans (hb9.mono (HT6.out.trans (HD8.out.mono HT6.out.size)).size))
      clear hb9 hc0 hf0 hl0
      go_wp2
      go_ret
      exact ⟨rfl, HF.out⟩
end Go.Proofs.YtoejdhabpajhlaaGreatDoor
