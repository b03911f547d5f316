/- The walk of ParseBlanks. -/
import Derived.Test.YtalhoacancbldaaDoorBlankP
import Derived.Test.YtalhoacancbldaaDoorRow5
import Derived.Test.YtalhoacancbldaaDoorEq5
import Derived.Test.YtalhoacancbldaaDoorConcat
namespace Go.Proofs.YtalhoacancbldaaDoor
set_option linter.unusedVariables false
set_option linter.unusedSimpArgs false
open Go.RowKit
attribute [local go_sem] run_index_arr run_part_agg run_part_one run_field_agg

theorem BS.takeM {w : World} {A : Option Addr} {cp n m : Nat} {b : List UInt8} (h : BS w (.slice A m cp) b) (hn : n ≤ b.length) : BS w (.slice A n cp) (b.take n) := by
  obtain ⟨A', cap', e, hc, hr⟩ := h
  injection e with e1 e2 e3
  subst e1; subst e3
  refine ⟨A, cp, by rw [List.length_take, Nat.min_eq_left hn], by rw [List.length_take]; omega, ?_⟩
  have h := hr.take n
  simpa [byteV] using h
theorem concat3_any {W : World} {v1 v2 v3 : Value} {l1 l2 l3 : List UInt8} (t : TypeId) (h1 : BS W v1 l1) (h2 : BS W v2 l2) (h3 : BS W v3 l3) (hl : (l1 ++ (l2 ++ l3)).length ≤ 1048576) :
    Calls Tryd.prog 34 #[.slice (some ⟨W.heap.size, 0, none⟩) 3 3] (W.alloc (.cells #[v1, v2, v3] t)) (RetB5 (l1 ++ (l2 ++ l3)) (W.alloc (.cells #[v1, v2, v3] t))) := by
  have h := concat_any W.heap.size 0 3 3 [l1, l2, l3] (W.alloc (.cells #[v1, v2, v3] t)) rfl (by decide) (by decide) (by simp) (fun i l hi => by
    match i, hi with
    | 0, hi => obtain rfl : l1 = l := by simpa using hi
               exact ⟨v1, by rw [(Blk.new W t #[v1, v2, v3]).cell]; rfl, h1.alloc _⟩
    | 1, hi => obtain rfl : l2 = l := by simpa using hi
               exact ⟨v2, by rw [(Blk.new W t #[v1, v2, v3]).cell]; rfl, h2.alloc _⟩
    | 2, hi => obtain rfl : l3 = l := by simpa using hi
               exact ⟨v3, by rw [(Blk.new W t #[v1, v2, v3]).cell]; rfl, h3.alloc _⟩
    | i + 3, hi => simp at hi) (by simpa using hl)
  have e : ([l1, l2, l3] : List (List UInt8)).flatten = l1 ++ (l2 ++ l3) := by simp
  rw [e] at h
  exact h
theorem u8_nat {p : Int} (h : (Lit.int .u8 p).wf = true) : ∃ n : Nat, (n : Int) = p ∧ n ≤ 255 := by
  refine ⟨(UInt8.ofNat p.toNat).toNat, byte_of_wf h, ?_⟩
  have := (UInt8.ofNat p.toNat).toNat_lt
  omega
set_option maxRecDepth 100000 in
set_option maxHeartbeats 4000000 in
theorem parseBlanks_any (v : Value) (x : List UInt8) (p q : Int) (w : World) (hG : GOK w) (hv : BS w v x) (hx : x.length ≤ 9223372036854775807) (hp : (Lit.int .u8 p).wf = true) (hq : (Lit.int .u8 q).wf = true) :
    Calls Tryd.prog 13 #[v, .int .u8 p, .int .u8 q] w (TrueS w) := by
  obtain ⟨p, rfl, hp9⟩ := u8_nat hp
  obtain ⟨q, rfl, hq9⟩ := u8_nat hq
  have HW := Lib.hid (wakes5_any w hG)
  have HG := Lib.hid hG
  clear hG hp hq
  obtain ⟨A, ca, rfl, hca, hra⟩ := hv
  obtain ⟨n, hn⟩ : ∃ n, min x.length 1500 = n := ⟨_, rfl⟩
  have hn1 : min (x.length : Int) 1500 = (n : Int) := by omega
  have hnc : n ≤ ca := by omega
  have HB := Lib.hid (BS.takeM (n := n) ⟨A, ca, rfl, hca, hra⟩ (by omega))
  have hbl : (x.take n).length = n := by rw [List.length_take]; omega
  have hn8 : n ≤ 1500 := by omega
  clear hra hn
  generalize x.take n = b at HB hbl
  have HBL := Lib.hid hbl
  clear hbl
  go_enter Tryd.func13, Tryd.ntmps13
  go_wp2_with fail
  refine HW.out.mono ?_
  rintro e w1 ⟨rfl, hb1⟩
  have HB1 := Lib.hid hb1
  clear hb1
  go_wp2_with fail
  refine (blankRow_any p w1 hp9).mono ?_
  rintro e w2 ⟨v1, one, rfl, hv1, hbk1, hl1, hb2⟩
  have hv1' := hv1
  obtain ⟨A8, c8, rfl, _, _⟩ := hv1'
  have HB2 := Lib.hid (HB1.out.trans (hb2.mono HB1.out.size))
  have HV1 := Lib.hid hv1
  have HK1 := Lib.hid hbk1
  clear hb2 hv1 hbk1
  go_wp2_with fail
  refine (blankRow_any q w2 hq9).mono ?_
  rintro e w3 ⟨v2, two, rfl, hv2, hbk2, hl2, hb3⟩
  have hv2' := hv2
  obtain ⟨A9, c9, rfl, _, _⟩ := hv2'
  have HB3 := Lib.hid (HB2.out.trans (hb3.mono HB2.out.size))
  have HV13 := Lib.hid (HV1.out.below hb3)
  have HV2 := Lib.hid hv2
  have HK2 := Lib.hid hbk2
  have hP := Lib.hid (parseParse_any (.slice A n ca) b w3 (HG.out.keep HB3.out) (HB.out.below HB3.out) (by rw [HBL.out]; omega))
  clear hb3 hv2 hbk2 HV1 HB1 HB2
  go_wp2_with fail
  refine hP.out.mono ?_
  rintro e w4 ⟨⟨jv, a, er⟩, ho, cs, rfl, hvr, hb4⟩
  obtain ⟨k0, n0, s0, A0, na0, ca0, B0, nb0, cb0, rfl⟩ := hvr.form
  have hk5 := Blk.new w4 40 #[.int .i64 k0, .int .i64 n0, .string s0, .slice A0 na0 ca0, .slice B0 nb0 cb0]
  have hb5 := (Below.refl w4.heap.size w4).alloc (Nat.le_refl _) (.cells #[.int .i64 k0, .int .i64 n0, .string s0, .slice A0 na0 ca0, .slice B0 nb0 cb0] 40)
  obtain ⟨W5, hW5⟩ : ∃ W5, w4.alloc (.cells #[.int .i64 k0, .int .i64 n0, .string s0, .slice A0 na0 ca0, .slice B0 nb0 cb0] 40) = W5 := ⟨_, rfl⟩
  rw [hW5] at hk5 hb5
  have hb35 := hb4.trans (hb5.mono hb4.size)
  have hB5 := HB3.out.trans (hb35.mono HB3.out.size)
  have HW5 := Lib.hid hW5
  have HB5 := Lib.hid hB5
  have HK5 := Lib.hid hk5
  have HVR5 := Lib.hid (hvr.bel hb5)
  have HV15 := Lib.hid (HV13.out.below hb35)
  have HV25 := Lib.hid (HV2.out.below hb35)
  have HO := Lib.hid ho
  have hC := concat3_any 36 HV15.out (HB.out.below hB5) HV25.out (by rw [List.length_append, List.length_append, HBL.out]; omega)
  have HC := Lib.hid hC
  have hb56 := (Below.refl W5.heap.size W5).alloc (Nat.le_refl _) (.cells #[.slice A8 one.length c8, .slice A n ca, .slice A9 two.length c9] 36)
  have HB56 := Lib.hid hb56
  clear hW5 hk5 hb5 hb4 hb35 hB5 hvr hP ho HW hC hb56 HV13 HV2
  go_upto_region 7 with (fail)
  rw [HW5.out]
  clear HW5
  go_wp2_with fail
  refine HC.out.mono ?_
  rintro e w6 ⟨v6, rfl, hv6, hb6⟩
  have hb57 := HB56.out.trans (hb6.mono HB56.out.size)
  have HB6 := Lib.hid (HB5.out.trans (hb57.mono HB5.out.size))
  have HK6 := Lib.hid (HK5.out.keep hb57)
  have HVR6 := Lib.hid (HVR5.out.bel hb57)
  have hP := Lib.hid (parseParse_any v6 _ w6 (HG.out.keep HB6.out) hv6 (by rw [List.length_append, List.length_append, HBL.out]; omega))
  clear hb6 hb57 hv6 HB5 HK5 HVR5 HC HB56
  go_wp2_with fail
  refine hP.out.mono ?_
  rintro e w7 ⟨⟨jw, pl, f⟩, ho', cs', rfl, hvr', hb7⟩
  obtain ⟨k1, n1, s1, A1, na1, ca1, B1, nb1, cb1, rfl⟩ := hvr'.form
  obtain ⟨hlaw1, hlaw2⟩ := blanks_law HK1.out HK2.out (by rw [List.length_append, List.length_append, HBL.out]; omega) HO.out ho'
  rw [HBL.out] at hlaw2
  have hk8' := Blk.new w7 40 #[.int .i64 k1, .int .i64 n1, .string s1, .slice A1 na1 ca1, .slice B1 nb1 cb1]
  have hb8 := (Below.refl w7.heap.size w7).alloc (Nat.le_refl _) (.cells #[.int .i64 k1, .int .i64 n1, .string s1, .slice A1 na1 ca1, .slice B1 nb1 cb1] 40)
  have hk7 := HK6.out.keep hb7
  have hs7 : w4.heap.size < w7.heap.size := hk7.lt
  obtain ⟨W8, hW8⟩ : ∃ W8, w7.alloc (.cells #[.int .i64 k1, .int .i64 n1, .string s1, .slice A1 na1 ca1, .slice B1 nb1 cb1] 40) = W8 := ⟨_, rfl⟩
  rw [hW8] at hk8' hb8
  have hb78 := hb7.trans (hb8.mono hb7.size)
  have HW8 := Lib.hid hW8
  have HB8 := Lib.hid (HB6.out.trans (hb78.mono HB6.out.size))
  have hk8 := hk7.keep hb8
  have HVR8 := Lib.hid (HVR6.out.bel hb78)
  have HVR8' := Lib.hid (hvr'.bel hb8)
  have y1 : w4.heap.size ≠ w7.heap.size := by omega
  obtain ⟨c1, f1, l1⟩ := hk8.rules
  obtain ⟨c2, f2, l2⟩ := hk8'.rules
  obtain ⟨n9, hn9⟩ : ∃ n9, one.length = n9 := ⟨_, rfl⟩
  rw [hn9] at hl1 hlaw2 ⊢
  clear hW8 hb8 hb7 hb78 hvr' hk7 hk8 hk8' HB6 HK6 HVR6 hP ho' HO HV15 HV25
  go_upto_region 8 with (fail)
  rw [HW8.out]
  clear HW8
  by_cases he : er = 0
  · subst he
    obtain ⟨rfl, rfl, rfl, hR, hnn⟩ := hlaw1 rfl
    have HS := Lib.hid (vSame_any jw _ _ _ _ W8 (HG.out.keep HB8.out) HVR8.out HVR8'.out hR hnn)
    clear hlaw1 hlaw2 hR hnn
    go_wp2_with fail
    refine HS.out.mono ?_
    rintro e w9 ⟨rfl, hb9⟩
    have HB9 := Lib.hid (HB8.out.trans (hb9.mono HB8.out.size))
    clear hb9
    go_wp2
    go_ret
    exact ⟨rfl, HB9.out⟩
  · obtain ⟨g1, g2, g3, g4, g5⟩ := hlaw2 he
    have heb : (er == 0) = false := by simpa using he
    have hadd : IntKind.i64.wrap ((n9 : Int) + a) = (n9 : Int) + a := IntWalk.i64_in _ (by omega)
    clear hlaw1 hlaw2
    by_cases hs : er = 6 ∨ a = (n : Int)
    · have hfb : (f != 0) = true := by simpa using g1
      by_cases h6 : er = 6
      · subst h6
        go_wp2
        go_ret
        refine ⟨ret_bool ?_, HB8.out⟩
        simp
      · have h6b : (er == 6) = false := by simpa using h6
        obtain rfl : a = (n : Int) := hs.resolve_left h6
        go_wp2
        go_ret
        refine ⟨ret_bool ?_, HB8.out⟩
        simp
    · have h6b : (er == 6) = false := by simp; omega
      have hab : (a == (n : Int)) = false := by simp; omega
      obtain ⟨rfl, rfl⟩ := g5 (by omega) (by omega)
      go_wp2
      go_ret
      exact ⟨rfl, HB8.out⟩
end Go.Proofs.YtalhoacancbldaaDoor
