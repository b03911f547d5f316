/- The walk of ParseCuts. -/
import Derived.Test.YtalhoacancbldaaDoorCutL
import Derived.Test.YtalhoacancbldaaDoorParse18
import Derived.Test.YtalhoacancbldaaDoorBArg
namespace Go.Proofs.YtalhoacancbldaaDoor
set_option linter.unusedVariables false
set_option linter.unusedSimpArgs false
open Go.RowKit
attribute [local go_sem] run_index_arr run_part_agg run_part_one run_field_agg

def TrueK (w : World) (e : Ending) (w' : World) : Prop := e = .returned (.bool true) ∧ Below w.heap.size w w'
theorem modU (q : Int) {e : Nat} (he : 1 ≤ e) (h2 : e ≤ 2048) : ∃ n : Nat, n < e ∧ wrap64 ((IntKind.u64.wrap q).tmod (e : Int)) = (n : Int) := by
  have h0 := wrap_u64_nonneg q
  generalize IntKind.u64.wrap q = u at h0
  rw [Int.tmod_eq_emod_of_nonneg h0]
  have h3 := Int.emod_nonneg u (show (e : Int) ≠ 0 by omega)
  have h4 := Int.emod_lt_of_pos u (show (0 : Int) < e by omega)
  generalize u % (e : Int) = r at h3 h4
  refine ⟨r.toNat, by omega, ?_⟩
  unfold wrap64
  omega
theorem BS.takeN {w : World} {A : Option Addr} {cp n m : Nat} {b : List UInt8} (h : BS w (.slice A m cp) b) (hn : n ≤ b.length) : BS w (.slice A n cp) (b.take n) := by
  obtain ⟨A', cap', e, hc, hr⟩ := h
  injection e with e1 e2 e3
  subst e1; subst e3
  refine ⟨A, cp, by rw [List.length_take, Nat.min_eq_left hn], by rw [List.length_take]; omega, ?_⟩
  have h := hr.take n
  simpa [byteV] using h
set_option maxRecDepth 100000 in
set_option maxHeartbeats 4000000 in
theorem parseCuts_any (v : Value) (x : List UInt8) (q : Int) (w : World) (hG : GOK w) (hv : BS w v x) (hx : x.length ≤ 9223372036854775807) (hq : (Lit.int .i64 q).wf = true) :
    Calls Tryd.prog 10 #[v, .int .i64 q] w (TrueK w) := by
  have HW := Lib.hid (wakes5_any w hG)
  have HG := Lib.hid hG
  have HV := Lib.hid hv
  clear hG hv
  obtain ⟨b, hb⟩ : ∃ b, x.take 2049 = b := ⟨_, rfl⟩
  have hbl : b.length ≤ 2049 := by rw [← hb, List.length_take]; omega
  go_enter Tryd.func10, Tryd.ntmps10
  go_wp2_with fail
  refine HW.out.mono ?_
  rintro e w1 ⟨rfl, hb1⟩
  have HB1 := Lib.hid hb1
  have hF := Lib.hid (few5_any v x w1 (HV.out.below hb1) hx)
  rw [hb] at hF
  clear hb1
  go_wp2_with fail
  refine hF.out.mono ?_
  rintro e w2 ⟨v1, rfl, hv1, hb2⟩
  have HB2 := Lib.hid (HB1.out.trans (hb2.mono HB1.out.size))
  clear hb2
  have hG2 := Lib.hid (HG.out.keep HB2.out)
  have hP := Lib.hid (parseValue_any v1 b 0 w2 (Nat.zero_le _) hG2.out hv1 (by omega))
  have HV1 := Lib.hid hv1
  clear hv1
  go_wp2_with fail
  refine hP.out.mono ?_
  rintro e w3 ⟨⟨⟨k, nn, tx, kids, keys⟩, a, er⟩, ho, cs, rfl, hvr, hb3⟩
  obtain ⟨A1, B1, ca, cb, css, rfl, _⟩ := hvr.out
  have HB3 := Lib.hid (HB2.out.trans (hb3.mono HB2.out.size))
  have HV3 := Lib.hid (HV1.out.below hb3)
  have HO := Lib.hid ho
  have hsay : er = 0 → b.length ≤ 2048 ∧ 1 ≤ k ∧ ∃ q : Nat, a = (q : Int) ∧ 1 ≤ q ∧ q ≤ b.length := by
    intro h0
    have h2 : b.length ≤ 2048 := by
      rcases Nat.lt_or_ge 2048 b.length with h | h
      · have h1 := ho
        unfold ValueR at h1
        rw [if_neg (by omega), if_pos h] at h1
        simp only [Prod.mk.injEq] at h1
        omega
      · exact h
    exact ⟨h2, value_says h2 ho h0⟩
  have HS := Lib.hid hsay
  clear hvr hb3 ho hsay
  have HBA := Lib.hid (HB3.out.alloc HB3.out.size (.cells #[.int .i64 k, .int .i64 nn, .string ⟨tx.toArray⟩, .slice A1 kids.length ca, .slice B1 keys.length cb] 40))
  by_cases he : er = 0
  · subst he
    obtain ⟨hl8, hk1, q', rfl, hq1, hq2⟩ := HS.out rfl
    have hk0 : 0 < k := by omega
    by_cases hk4 : k < 4
    · go_wp2
      go_ret
      exact ⟨rfl, HBA.out⟩
    · obtain ⟨bk, of_, cp, rfl, hcp, hbk, hrd⟩ := HV3.out.some_ (by intro e; rw [e] at hq2; simp at hq2; omega)
      clear hrd
      obtain ⟨n, hn, hmod⟩ := modU q hq1 (by omega : q' ≤ 2048)
      have hncp : n ≤ cp := by omega
      have HN := Lib.hid hn
      go_wp2_with fail
      have hG3 := HG.out.keep HBA.out
      refine (parseParse_any _ (b.take n) _ hG3 (BS.takeN (HV3.out.alloc _) (by have := HN.out; omega)) (by rw [List.length_take]; omega)).mono ?_
      rintro e w4 ⟨⟨⟨k', nn', tx', kids', keys'⟩, a', er'⟩, ho', cs, rfl, hvr', hb4⟩
      have hlaw := cut_law hl8 HO.out rfl (show (4 : Int) ≤ k by omega) rfl HN.out ho'
      obtain ⟨A2, B2, ca2, cb2, css2, rfl, _⟩ := hvr'.out
      have HB4 := Lib.hid (HBA.out.trans (hb4.mono HBA.out.size))
      have HBB := Lib.hid (HB4.out.alloc HB4.out.size (.cells #[.int .i64 k', .int .i64 nn', .string ⟨tx'.toArray⟩, .slice A2 kids'.length ca2, .slice B2 keys'.length cb2] 40))
      obtain ⟨l1, l2, l3⟩ := hlaw
      simp only at l1 l2 l3
      clear hvr' hb4 ho' hG3
      by_cases h6 : er' = 6
      · subst h6
        go_wp2
        go_ret
        exact ⟨rfl, HBB.out⟩
      · have l4 := l3.resolve_left h6
        clear l3
        go_wp2
        go_ret
        refine ⟨?_, HBB.out⟩
        show Ending.returned (.bool (er' != 0)) = _
        rw [show (er' != 0) = true from by simpa using l1]
  · go_wp2
    go_ret
    exact ⟨rfl, HBA.out⟩
end Go.Proofs.YtalhoacancbldaaDoor
