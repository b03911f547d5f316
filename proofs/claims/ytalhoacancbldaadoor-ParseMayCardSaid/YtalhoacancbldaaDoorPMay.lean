/- The walk of ParseMay. -/
import Derived.Test.YtalhoacancbldaaDoorTotal5
import Derived.Test.YtalhoacancbldaaDoorEq5
namespace Go.Proofs.YtalhoacancbldaaDoor
set_option linter.unusedVariables false
set_option linter.unusedSimpArgs false
open Go.RowKit
attribute [local go_sem] run_index_arr run_part_agg run_part_one run_field_agg

set_option maxRecDepth 100000 in
set_option maxHeartbeats 4000000 in
theorem parseMay_any (v : Value) (x : List UInt8) (w : World) (hG : GOK w) (hv : BS w v x) (hx : x.length ≤ 9223372036854775807) :
    Calls Tryd.prog 12 #[v] w (TrueS w) := by
  have HW := Lib.hid (wakes5_any w hG)
  have HG := Lib.hid hG
  have HV := Lib.hid hv
  obtain ⟨Ax, cx, rfl, hcx, _⟩ := hv
  clear hG
  obtain ⟨b, hb⟩ : ∃ b, x.take 2049 = b := ⟨_, rfl⟩
  have hbl : b.length ≤ 2049 := by rw [← hb, List.length_take]; omega
  have hbx : b.length ≤ x.length := by rw [← hb, List.length_take]; omega
  have HF := Lib.hid (fun W (h : Below w.heap.size w W) => show Calls Tryd.prog 26 #[.slice Ax x.length cx] W (RetB5 b W) by rw [← hb]; exact few5_any _ x W (HV.out.below h) hx)
  clear hb
  go_enter Tryd.func12, Tryd.ntmps12
  go_wp2_with fail
  refine HW.out.mono ?_
  rintro e w1 ⟨rfl, hb1⟩
  have HB1 := Lib.hid hb1
  clear hb1
  go_wp2_with fail
  refine (HF.out _ HB1.out).mono ?_
  rintro e w2 ⟨v1, rfl, hv1, hb2⟩
  have HB2 := Lib.hid (HB1.out.trans (hb2.mono HB1.out.size))
  have hP := Lib.hid (parseParse_any v1 b w2 (HG.out.keep HB2.out) hv1 (by omega))
  clear hb2 hv1
  go_wp2_with fail
  refine hP.out.mono ?_
  rintro e w3 ⟨⟨jv, a, er⟩, ho, cs, rfl, hvr, hb3⟩
  obtain ⟨k0, n0, s0, A0, na0, ca0, B0, nb0, cb0, rfl⟩ := hvr.form
  have hk4 := Blk.new w3 40 #[.int .i64 k0, .int .i64 n0, .string s0, .slice A0 na0 ca0, .slice B0 nb0 cb0]
  have hb4 := (Below.refl w3.heap.size w3).alloc (Nat.le_refl _) (.cells #[.int .i64 k0, .int .i64 n0, .string s0, .slice A0 na0 ca0, .slice B0 nb0 cb0] 40)
  obtain ⟨W4, hW4⟩ : ∃ W4, w3.alloc (.cells #[.int .i64 k0, .int .i64 n0, .string s0, .slice A0 na0 ca0, .slice B0 nb0 cb0] 40) = W4 := ⟨_, rfl⟩
  rw [hW4] at hk4 hb4
  have HW4 := Lib.hid hW4
  have HB4 := Lib.hid ((HB2.out.trans (hb3.mono HB2.out.size)).trans (hb4.mono (HB2.out.trans (hb3.mono HB2.out.size)).size))
  have HK4 := Lib.hid hk4
  have HVR4 := Lib.hid (hvr.bel hb4)
  have hmay := may_parse ho
  clear hW4 hk4 hb4 hb3 hvr hP ho HW HB1 HB2
  go_upto_region 4 with (fail)
  rw [HW4.out]
  clear HW4
  obtain ⟨c1, f1, l1⟩ := HK4.out.rules
  rcases hmay with ⟨h1, rfl, h3, h4⟩ | ⟨rfl, rfl, hl8, hR, hn, q, k, hrd, hq0, hq1, hsk⟩
  · have heb : (er != 0) = true := by simpa using h1
    obtain ⟨A, B, ca, cb, css, e, _⟩ := VR.out (k := 0) (n := 0) (s := []) (kids := []) (keys := []) HVR4.out
    simp only [List.cons.injEq, Value.int.injEq, Value.string.injEq, Value.slice.injEq, and_true, true_and] at e
    obtain ⟨rfl, rfl, rfl, ⟨rfl, rfl, rfl⟩, rfl, rfl, rfl⟩ := e
    have h5 : a ≤ (x.length : Int) := by omega
    clear h1 h4
    go_wp2
    go_ret
    exact ⟨rfl, HB4.out⟩
  · go_wp2_with fail
    refine (HF.out _ HB4.out).mono ?_
    rintro e w5 ⟨v2, rfl, hv2, hb5⟩
    have HB5 := Lib.hid (HB4.out.trans (hb5.mono HB4.out.size))
    have HK5 := Lib.hid (HK4.out.keep hb5)
    have HVR5 := Lib.hid (HVR4.out.bel hb5)
    have hP2 := Lib.hid (show Calls Tryd.prog 31 #[v2, .int .i64 0] w5 (ValuePost b ((0 : Nat) : Int) w5) from parseValue_any v2 b 0 w5 (Nat.zero_le _) (HG.out.keep HB5.out) hv2 (by omega))
    clear hb5 hv2 HB4 HK4 HVR4 c1 f1 l1
    go_wp2_with fail
    refine hP2.out.mono ?_
    rintro e w6 ⟨⟨jw, a', er'⟩, ho', cs', rfl, hvr', hb6⟩
    obtain ⟨k1, n1, s1, A1, na1, ca1, B1, nb1, cb1, rfl⟩ := hvr'.form
    have heq : (jw, a', er') = (jv, (q : Int), 0) := value_is hl8 (Nat.zero_le _) hrd ho'
    simp only [Prod.mk.injEq] at heq
    obtain ⟨rfl, rfl, rfl⟩ := heq
    have hk7' := Blk.new w6 40 #[.int .i64 k1, .int .i64 n1, .string s1, .slice A1 na1 ca1, .slice B1 nb1 cb1]
    have hb7 := (Below.refl w6.heap.size w6).alloc (Nat.le_refl _) (.cells #[.int .i64 k1, .int .i64 n1, .string s1, .slice A1 na1 ca1, .slice B1 nb1 cb1] 40)
    have hk6 := HK5.out.keep hb6
    have hs56 : w3.heap.size < w6.heap.size := hk6.lt
    obtain ⟨W7, hW7⟩ : ∃ W7, w6.alloc (.cells #[.int .i64 k1, .int .i64 n1, .string s1, .slice A1 na1 ca1, .slice B1 nb1 cb1] 40) = W7 := ⟨_, rfl⟩
    rw [hW7] at hk7' hb7
    have HW7 := Lib.hid hW7
    have hB7 := (HB5.out.trans (hb6.mono HB5.out.size)).trans (hb7.mono (HB5.out.trans (hb6.mono HB5.out.size)).size)
    have hk7 := hk6.keep hb7
    have hvr7 := (HVR5.out.bel hb6).bel hb7
    have hvr7' := hvr'.bel hb7
    have HCK := Lib.hid (vCheck_any jw _ _ W7 (HG.out.keep hB7) hvr7 hR hn)
    have HSM := Lib.hid (fun W (h : Below W7.heap.size W7 W) => vSame_any jw _ _ _ _ W ((HG.out.keep hB7).keep h) (hvr7.bel h) (hvr7'.bel h) hR hn)
    have HB7 := Lib.hid hB7
    have HK7 := Lib.hid (And.intro hk7 hk7')
    have y1 : w3.heap.size ≠ w6.heap.size := by omega
    have hq0i : (0 : Int) < (q : Int) := by omega
    have hq1i : (q : Int) ≤ (x.length : Int) := by omega
    obtain ⟨c1, f1, l1⟩ := hk7.rules
    obtain ⟨c2, f2, l2⟩ := hk7'.rules
    clear hW7 hb7 hb6 hvr' hk6 HB5 HK5 HVR5 hP2 ho' hB7 hk7 hk7' hvr7 hvr7'
    go_upto_region 7 with (fail)
    rw [HW7.out]
    clear HW7
    go_wp2_with fail
    refine HCK.out.mono ?_
    rintro e w8 ⟨rfl, hb8⟩
    have hs8 := HSM.out _ hb8
    have HB8 := Lib.hid (HB7.out.trans (hb8.mono HB7.out.size))
    have k8 := HK7.out.1.keep hb8
    have k8' := HK7.out.2.keep hb8
    have HS8 := Lib.hid hs8
    clear c1 f1 l1 c2 f2 l2 hb8 hs8
    obtain ⟨c1, f1, l1⟩ := k8.rules
    obtain ⟨c2, f2, l2⟩ := k8'.rules
    go_wp2_with fail
    refine HS8.out.mono ?_
    rintro e w9 ⟨rfl, hb9⟩
    have HB9 := Lib.hid (HB8.out.trans (hb9.mono HB8.out.size))
    clear hb9
    go_wp2
    go_ret
    exact ⟨rfl, HB9.out⟩
end Go.Proofs.YtalhoacancbldaaDoor
