import Derived.Test.YtalhoacancbldaaDoorParse5r
import Derived.Test.YtalhoacancbldaaDoorOne4
import Derived.Test.YtalhoacancbldaaDoorBytes
/- The walks of ParseReads and ParseAt. -/
namespace Go.Proofs.YtalhoacancbldaaDoor
set_option linter.unusedVariables false
set_option linter.unusedSimpArgs false
open Go.RowKit
attribute [local go_sem] run_index_arr run_part_agg run_part_one run_field_agg

def TrueR (w : World) (e : Ending) (w' : World) : Prop := e = .returned (.bool true) ∧ Below w.heap.size w w'
/-- one kept block more, and a Value stored behind it -/
theorem vblk_new (w : World) (cs : Array Value) : Blk (w.alloc (.cells cs 40)) w.heap.size 40 cs ∧ Below w.heap.size w (w.alloc (.cells cs 40)) := ⟨Blk.new w _ _, (Below.refl _ w).alloc (Nat.le_refl _) _⟩
set_option maxRecDepth 100000 in
set_option maxHeartbeats 4000000 in
theorem parseReads_any (v : Value) (x : List UInt8) (w : World) (hG : GOK w) (hv : BS w v x) (hx : x.length ≤ 9223372036854775807) :
    Calls Tryd.prog 8 #[v] w (TrueR w) := by
  have HW := Lib.hid (wakes5_any w hG)
  have HG := Lib.hid hG
  have HV := Lib.hid hv
  clear hG hv
  obtain ⟨b, hb⟩ : ∃ b, x.take 2049 = b := ⟨_, rfl⟩
  have hbl : b.length ≤ 2049 := by rw [← hb, List.length_take]; omega
  have HF := Lib.hid (fun W (h : Below w.heap.size w W) => show Calls Tryd.prog 26 #[v] W (RetB5 b W) by rw [← hb]; exact few5_any v x W (HV.out.below h) hx)
  clear hb
  go_enter Tryd.func8, Tryd.ntmps8
  go_wp2_with fail
  refine HW.out.mono ?_
  rintro e w1 ⟨rfl, hb1⟩
  have HB1 := Lib.hid hb1
  clear hb1
  go_wp2_with fail
  refine (HF.out _ HB1.out).mono ?_
  rintro e w2 ⟨v1, rfl, hv1, hb2⟩
  have HB2 := Lib.hid (HB1.out.trans (hb2.mono HB1.out.size))
  have HV1 := Lib.hid hv1
  have hP := Lib.hid (parseParse_any v1 b w2 (HG.out.keep HB2.out) hv1 (by omega))
  clear hb2 hv1
  go_wp2_with fail
  refine hP.out.mono ?_
  rintro e w3 ⟨⟨jv, a, er⟩, ho, cs, rfl, hvr, hb3⟩
  obtain ⟨k0, n0, s0, A0, na0, ca0, B0, nb0, cb0, rfl⟩ := hvr.form
  obtain ⟨hk4, hb4⟩ := vblk_new w3 #[.int .i64 k0, .int .i64 n0, .string s0, .slice A0 na0 ca0, .slice B0 nb0 cb0]
  obtain ⟨W4, hW4⟩ : ∃ W4, w3.alloc (.cells #[.int .i64 k0, .int .i64 n0, .string s0, .slice A0 na0 ca0, .slice B0 nb0 cb0] 40) = W4 := ⟨_, rfl⟩
  rw [hW4] at hk4 hb4
  have HW4 := Lib.hid hW4
  have HB4 := Lib.hid ((HB2.out.trans (hb3.mono HB2.out.size)).trans (hb4.mono (HB2.out.trans (hb3.mono HB2.out.size)).size))
  have HK4 := Lib.hid hk4
  have HVR4 := Lib.hid (hvr.bel hb4)
  have HV4 := Lib.hid ((HV1.out.below hb3).below hb4)
  have HO := Lib.hid ho
  clear hW4 hk4 hb4 hb3 hvr HV1 hP ho HW HB1 HB2
  go_upto_region 5 with (fail)
  rw [HW4.out]
  clear HW4
  go_wp2_with fail
  refine (HF.out _ HB4.out).mono ?_
  rintro e w5 ⟨v2, rfl, hv2, hb5⟩
  have HB5 := Lib.hid (HB4.out.trans (hb5.mono HB4.out.size))
  have HK5 := Lib.hid (HK4.out.keep hb5)
  have HVR5 := Lib.hid (HVR4.out.bel hb5)
  have HV5 := Lib.hid (HV4.out.below hb5)
  have hR := Lib.hid (t5parse_any v2 b w5 hv2 (by omega))
  clear hb5 hv2 HB4 HK4 HVR4 HV4
  go_wp2_with fail
  refine hR.out.mono ?_
  rintro e w6 ⟨⟨jv', a', er'⟩, ho', cs', rfl, hvr', hb6⟩
  obtain ⟨k1, n1, s1, A1, na1, ca1, B1, nb1, cb1, rfl⟩ := hvr'.form
  have heq := reads_law HO.out ho'
  simp only [Prod.mk.injEq] at heq
  obtain ⟨rfl, rfl, rfl⟩ := heq
  have hfine : FineJ jv := fine_out ho'
  have hk6 := HK5.out.keep hb6
  have hvr6 := HVR5.out.bel hb6
  have hv6 := HV5.out.below hb6
  have hB6 := HB5.out.trans (hb6.mono HB5.out.size)
  have hs56 : w3.heap.size < w6.heap.size := hk6.lt
  obtain ⟨hk7', hb7⟩ := vblk_new w6 #[.int .i64 k1, .int .i64 n1, .string s1, .slice A1 na1 ca1, .slice B1 nb1 cb1]
  obtain ⟨W7, hW7⟩ : ∃ W7, w6.alloc (.cells #[.int .i64 k1, .int .i64 n1, .string s1, .slice A1 na1 ca1, .slice B1 nb1 cb1] 40) = W7 := ⟨_, rfl⟩
  rw [hW7] at hk7' hb7
  have HW7 := Lib.hid hW7
  have hk7 := hk6.keep hb7
  have HB7 := Lib.hid (hB6.trans (hb7.mono hB6.size))
  have HV7 := Lib.hid (hv6.below hb7)
  have HAL := Lib.hid (rAlike_any jv _ _ _ _ W7 (hvr6.bel hb7) (hvr'.bel hb7) hfine)
  have y1 : w3.heap.size ≠ w6.heap.size := by omega
  clear hW7 hb7 hb6 hvr' hvr6 hk6 hv6 hB6 HB5 HK5 HVR5 HV5 hR ho' HO
  go_upto_region 6 with (fail)
  rw [HW7.out]
  clear HW7
  obtain ⟨c1, f1, l1⟩ := hk7.rules
  obtain ⟨c2, f2, l2⟩ := hk7'.rules
  go_wp2_with fail
  refine HAL.out.mono ?_
  rintro e w8 ⟨rfl, hb8⟩
  have HB8 := Lib.hid (HB7.out.trans (hb8.mono HB7.out.size))
  have HV8 := Lib.hid (HV7.out.below hb8)
  clear hb8 HB7 HV7 c1 f1 l1 c2 f2 l2 hk7 hk7'
  go_wp2_with fail
  refine (HF.out _ HB8.out).mono ?_
  rintro e w9 ⟨v3, rfl, hv3, hb9⟩
  have HB9 := Lib.hid (HB8.out.trans (hb9.mono HB8.out.size))
  obtain ⟨A3, c3, rfl, hc3, hr3⟩ := hv3
  obtain ⟨A4, c4, rfl, hc4, hr4⟩ := HV8.out.below hb9
  have HE := Lib.hid (byEqual_same A4 A3 b.length c4 c3 b w9 rfl hr4 hr3 hc4 hc3 (by omega))
  clear hb9 hr3 hr4
  go_wp2_with fail
  refine HE.out.mono ?_
  rintro e w10 ⟨rfl, q, rfl⟩
  go_wp2
  go_ret
  exact ⟨rfl, bel_drewN HB9.out q⟩
end Go.Proofs.YtalhoacancbldaaDoor

/- The walk of ParseAt. -/
namespace Go.Proofs.YtalhoacancbldaaDoor
set_option linter.unusedVariables false
set_option linter.unusedSimpArgs false
open Go.RowKit
attribute [local go_sem] run_index_arr run_part_agg run_part_one run_field_agg

set_option maxRecDepth 100000 in
set_option maxHeartbeats 4000000 in
theorem parseAt_any (v : Value) (x : List UInt8) (q : Int) (w : World) (hG : GOK w) (hv : BS w v x) (hx : x.length ≤ 9223372036854775807) (hq : (Lit.int .i64 q).wf = true) :
    Calls Tryd.prog 9 #[v, .int .i64 q] w (TrueR w) := by
  have HW := Lib.hid (wakes5_any w hG)
  have HG := Lib.hid hG
  have HV := Lib.hid hv
  clear hG hv
  obtain ⟨b, hb⟩ : ∃ b, x.take 2049 = b := ⟨_, rfl⟩
  have hbl : b.length ≤ 2049 := by rw [← hb, List.length_take]; omega
  have HF := Lib.hid (fun W (h : Below w.heap.size w W) => show Calls Tryd.prog 26 #[v] W (RetB5 b W) by rw [← hb]; exact few5_any v x W (HV.out.below h) hx)
  clear hb
  go_enter Tryd.func9, Tryd.ntmps9
  go_wp2_with fail
  refine HW.out.mono ?_
  rintro e w1 ⟨rfl, hb1⟩
  have HB1 := Lib.hid hb1
  clear hb1
  go_wp2_with fail
  refine (HF.out _ HB1.out).mono ?_
  rintro e w2 ⟨v1, rfl, hv1, hb2⟩
  have HB2 := Lib.hid (HB1.out.trans (hb2.mono HB1.out.size))
  have HV1 := Lib.hid hv1
  have hP := Lib.hid (parseValue_all v1 b q w2 (HG.out.keep HB2.out) hv1 (by omega))
  obtain ⟨Ab, cb9, rfl, hcb9, _⟩ := hv1
  clear hb2
  go_wp2_with fail
  refine hP.out.mono ?_
  rintro e w3 ⟨⟨jv, a, er⟩, ho, cs, rfl, hvr, hb3⟩
  obtain ⟨k0, n0, s0, A0, na0, ca0, B0, nb0, cb0, rfl⟩ := hvr.form
  obtain ⟨hk4, hb4⟩ := vblk_new w3 #[.int .i64 k0, .int .i64 n0, .string s0, .slice A0 na0 ca0, .slice B0 nb0 cb0]
  obtain ⟨W4, hW4⟩ : ∃ W4, w3.alloc (.cells #[.int .i64 k0, .int .i64 n0, .string s0, .slice A0 na0 ca0, .slice B0 nb0 cb0] 40) = W4 := ⟨_, rfl⟩
  rw [hW4] at hk4 hb4
  have HW4 := Lib.hid hW4
  have HB4 := Lib.hid ((HB2.out.trans (hb3.mono HB2.out.size)).trans (hb4.mono (HB2.out.trans (hb3.mono HB2.out.size)).size))
  have HK4 := Lib.hid hk4
  have HVR4 := Lib.hid (hvr.bel hb4)
  have HV4 := Lib.hid ((HV1.out.below hb3).below hb4)
  have HO := Lib.hid ho
  clear hW4 hb4 hb3 hvr HV1 hP ho HW HB1 HB2
  obtain ⟨c1, f1, l1⟩ := hk4.rules
  clear hk4
  go_upto_region 5 with (fail)
  rw [HW4.out]
  clear HW4
  by_cases hout : q < 0 ∨ (b.length : Int) < q
  · have h := HO.out
    unfold ValueR at h
    rw [if_pos hout] at h
    simp only [Prod.mk.injEq] at h
    obtain ⟨rfl, rfl, rfl⟩ := h
    obtain ⟨Az, Bz, caz, cbz, e⟩ := HVR4.out.zero_is
    simp only [List.cons.injEq, Value.int.injEq, Value.string.injEq, Value.slice.injEq, and_true, true_and] at e
    obtain ⟨rfl, rfl, rfl, ⟨rfl, rfl, rfl⟩, rfl, rfl, rfl⟩ := e
    have HZ := Lib.hid (rZero_zero A0 B0 ca0 cb0 W4)
    have hcc : q < 0 ∨ (¬ q < 0 ∧ (b.length : Int) < q) := by omega
    clear HO HVR4 hout
    rcases hcc with hq0 | ⟨hq0, hq1⟩
    all_goals
      go_wp2_with fail
      refine HZ.out.mono ?_
      rintro e w5 ⟨rfl, hb5⟩
      have HB5 := Lib.hid (HB4.out.trans (hb5.mono HB4.out.size))
      clear hb5
      go_wp2
      go_ret
      exact ⟨rfl, HB5.out⟩
  · obtain ⟨p, rfl⟩ : ∃ p : Nat, (p : Int) = q := ⟨q.toNat, by omega⟩
    have hpb : p ≤ b.length := by omega
    have hq0 : ¬ (p : Int) < 0 := by omega
    have hq1 : ¬ (b.length : Int) < (p : Int) := by omega
    by_cases hlong : 2048 < b.length
    · have h := HO.out
      unfold ValueR at h
      rw [if_neg hout, if_pos hlong] at h
      simp only [Prod.mk.injEq] at h
      obtain ⟨rfl, rfl, rfl⟩ := h
      obtain ⟨Az, Bz, caz, cbz, e⟩ := HVR4.out.zero_is
      simp only [List.cons.injEq, Value.int.injEq, Value.string.injEq, Value.slice.injEq, and_true, true_and] at e
      obtain ⟨rfl, rfl, rfl, ⟨rfl, rfl, rfl⟩, rfl, rfl, rfl⟩ := e
      have HZ := Lib.hid (rZero_zero A0 B0 ca0 cb0 W4)
      have hll : (2048 : Int) < (b.length : Int) := by omega
      clear HO HVR4 hout
      go_wp2_with fail
      refine HZ.out.mono ?_
      rintro e w5 ⟨rfl, hb5⟩
      have HB5 := Lib.hid (HB4.out.trans (hb5.mono HB4.out.size))
      clear hb5
      go_wp2
      go_ret
      exact ⟨rfl, HB5.out⟩
    · have hll : ¬ (2048 : Int) < (b.length : Int) := by omega
      obtain ⟨Ab', cb', e, hcb', hrd⟩ := HV4.out
      injection e with e1 _ e2
      subst e1; subst e2
      have hR := Lib.hid (show Calls Tryd.prog 33 #[.agg #[.slice Ab b.length cb9, .int .i64 p, .int .i64 0, .int .i64 0], .int .i64 0] W4 (RdPost Ab b cb9 p 0 0 W4) from t5read_any Ab b cb9 p 0 0 W4 hrd hpb (by decide) (by decide) hcb' (by omega))
      clear hrd hout
      go_wp2_with fail
      refine hR.out.mono ?_
      rintro e w5 ⟨r, hrd, hb5, hans⟩
      have hlaw := at_law (by omega) hpb HO.out hrd
      have hfine := fine_at (show b.length ≤ 262144 by omega) hrd
      have hk5 := HK4.out.keep hb5
      have hvr5 := HVR4.out.bel hb5
      have hB5 := HB4.out.trans (hb5.mono HB4.out.size)
      have hs5 : w3.heap.size < w5.heap.size := hk5.lt
      have y1 : w3.heap.size ≠ w5.heap.size := by omega
      have y2 : w3.heap.size ≠ w5.heap.size + 1 := by omega
      clear hb5 HB4 HK4 HVR4 HV4 hR c1 f1 l1 HO
      cases r with
      | err fp fe =>
        obtain ⟨hfe, k, rfl⟩ := hans
        have hlaw : (jv, a, er) = (jZero, fp, fe) := hlaw
        simp only [Prod.mk.injEq] at hlaw
        obtain ⟨rfl, rfl, rfl⟩ := hlaw
        obtain ⟨W6, hW6⟩ : ∃ W6, (w5.alloc (.cells zVal 40)).alloc (.cells (txC Ab b.length cb9 a k er) 49) = W6 := ⟨_, rfl⟩
        have hb56 : Below w5.heap.size w5 W6 := by rw [← hW6]; exact ((Below.refl _ _).alloc (Nat.le_refl _) _).alloc (by simp) _
        have b7 : Blk W6 w5.heap.size 40 zVal := by rw [← hW6]; exact (Blk.new _ _ _).alloc _
        have b8 : Blk W6 (w5.heap.size + 1) 49 (txC Ab b.length cb9 a k er) := by
          rw [← hW6]
          have := Blk.new (w5.alloc (.cells zVal 40)) 49 (txC Ab b.length cb9 a k er)
          rw [World.size_alloc] at this; exact this
        have HAL := Lib.hid (rAlike_any jZero _ [.int .i64 0, .int .i64 0, .string ⟨#[]⟩, .slice none 0 0, .slice none 0 0] _ _ W6 (hvr5.bel hb56) (VR.zero (F := fun _ => True)) (.inl rfl))
        have HB6 := Lib.hid (hB5.trans (hb56.mono hB5.size))
        have hk6 := hk5.keep hb56
        have HW6 := Lib.hid hW6
        clear hW6 hb56 hvr5 hk5 hB5
        go_upto_region 10 with (fail)
        rw [HW6.out]
        clear HW6
        obtain ⟨c1, f1, l1⟩ := hk6.rules
        obtain ⟨c7, f7, l7⟩ := b7.rules
        obtain ⟨j10, j11, j12, j13⟩ := TB.cells b8
        go_wp2_with fail
        refine HAL.out.mono ?_
        rintro e w7 ⟨rfl, hb7⟩
        have HB7 := Lib.hid (HB6.out.trans (hb7.mono HB6.out.size))
        clear hb7
        go_wp2
        go_ret
        exact ⟨rfl, HB7.out⟩
      | ok v' q' k =>
        obtain ⟨hq1', hq2', hk, cs', rfl, hvr'⟩ := hans
        obtain ⟨k1, n1, s1, A1, na1, ca1, B1, nb1, cb1, rfl⟩ := hvr'.form
        have hlaw : (jv, a, er) = (v', (q' : Int), 0) := hlaw
        simp only [Prod.mk.injEq] at hlaw
        obtain ⟨rfl, rfl, rfl⟩ := hlaw
        obtain ⟨W6, hW6⟩ : ∃ W6, (w5.alloc (.cells #[.int .i64 k1, .int .i64 n1, .string s1, .slice A1 na1 ca1, .slice B1 nb1 cb1] 40)).alloc (.cells (txC Ab b.length cb9 q' k 0) 49) = W6 := ⟨_, rfl⟩
        have hb56 : Below w5.heap.size w5 W6 := by rw [← hW6]; exact ((Below.refl _ _).alloc (Nat.le_refl _) _).alloc (by simp) _
        have b7 : Blk W6 w5.heap.size 40 #[.int .i64 k1, .int .i64 n1, .string s1, .slice A1 na1 ca1, .slice B1 nb1 cb1] := by rw [← hW6]; exact (Blk.new _ _ _).alloc _
        have b8 : Blk W6 (w5.heap.size + 1) 49 (txC Ab b.length cb9 q' k 0) := by
          rw [← hW6]
          have := Blk.new (w5.alloc (.cells #[.int .i64 k1, .int .i64 n1, .string s1, .slice A1 na1 ca1, .slice B1 nb1 cb1] 40)) 49 (txC Ab b.length cb9 q' k 0)
          rw [World.size_alloc] at this; exact this
        have HAL := Lib.hid (rAlike_any jv _ [.int .i64 k1, .int .i64 n1, .string s1, .slice A1 na1 ca1, .slice B1 nb1 cb1] _ _ W6 (hvr5.bel hb56) (hvr'.bel hb56) hfine)
        have HB6 := Lib.hid (hB5.trans (hb56.mono hB5.size))
        have hk6 := hk5.keep hb56
        have HW6 := Lib.hid hW6
        clear hW6 hb56 hvr5 hk5 hB5
        go_upto_region 10 with (fail)
        rw [HW6.out]
        clear HW6
        obtain ⟨c1, f1, l1⟩ := hk6.rules
        obtain ⟨c7, f7, l7⟩ := b7.rules
        obtain ⟨j10, j11, j12, j13⟩ := TB.cells b8
        go_wp2_with fail
        refine HAL.out.mono ?_
        rintro e w7 ⟨rfl, hb7⟩
        have HB7 := Lib.hid (HB6.out.trans (hb7.mono HB6.out.size))
        clear hb7
        go_wp2
        go_ret
        exact ⟨rfl, HB7.out⟩
end Go.Proofs.YtalhoacancbldaaDoor
