/- The walks of package vlex: numbers and texts. -/
import Derived.Test.YtalhoacancbldaaDoorVlex4
namespace Go.Proofs.YtalhoacancbldaaDoor
set_option linter.unusedVariables false
set_option linter.unusedSimpArgs false
open Go.RowKit
attribute [local go_sem] run_index_arr run_part_agg run_part_one run_field_agg

def vNumber (l : List UInt8) (p : Nat) : VRes :=
  let r := numRead l p
  if r.2.2 = 0 then .inl (3, (l.drop p).take (r.2.1.toNat - p), r.1, r.2.1.toNat) else .inr (r.2.1, r.2.2)
def vText (l : List UInt8) (p : Nat) : VRes :=
  let r := qRead l p
  if r.2.2 = 0 then .inl (4, r.1, 0, r.2.1.toNat) else .inr (r.2.1, r.2.2)

theorem qsS_more {l : List UInt8} {e : Nat} (h : signsL l e = []) (he : e < l.length) : (qsS l e).2.2 ≠ 0 := fun h0 => by
  obtain ⟨p, m, h1, h2, _⟩ := qs_ok (c := (qsS l e).1) (n := (qsS l e).2.1) (by rw [← h0]) he
  have := signsL_cons (l := l) (a := e) (p := p) (m := m) (by rw [← h1, ← h2, ← h0]) he
  rw [h] at this
  cases this
/-- where a quoted text is read, it ends within the row -/
theorem qRead_ok {l : List UInt8} {a : Nat} (h : (qRead l a).2.2 = 0) : ∃ m : Nat, (qRead l a).2.1 = m ∧ a < m ∧ m ≤ l.length := by
  unfold qRead at h ⊢
  split at h
  · simp at h
  · rename_i h1
    rw [if_neg h1]
    split at h
    · simp at h
    · rename_i h2
      rw [if_neg h2]
      rw [Int.toNat_natCast] at h ⊢
      split at h
      · simp at h
      · rename_i h3
        rw [if_neg h3]
        have hp := signs_pre (l := l) (l.length - (a + 1)) (a + 1) _ (Nat.le_refl _) (List.prefix_refl _) (by omega)
        obtain ⟨_, g2, g3, g4⟩ := hp
        split at h
        · rename_i h4
          rw [if_pos h4]
          have := (List.getElem?_eq_some_iff.1 h4).1
          exact ⟨qEnd (a + 1) (signsL l (a + 1)) + 1, rfl, by omega, this⟩
        · exfalso
          have hnil : signsL l (qEnd (a + 1) (signsL l (a + 1))) = [] := List.self_eq_append_right.1 g4
          unfold qSign at h
          rw [if_neg (by omega)] at h
          split at h
          · simp at h
          · rename_i h5
            rw [Int.toNat_natCast] at h
            exact qsS_more hnil (by omega) h

set_option maxRecDepth 100000 in
set_option maxHeartbeats 4000000 in
theorem text_any (w : World) (g : Nat) (A : Option Addr) (cap : Nat) (l : List UInt8) (p : Nat) (hG : GOK w) (hV : VB w g A cap l p 0) (hp : p < l.length) (hcap : l.length ≤ cap) (hlen : l.length ≤ 1048576) :
    Calls Tryd.prog 69 #[.pointer (some ⟨g, 0, none⟩)] w (TokPost (vText l p) p w g A cap l) := by
  obtain ⟨hc, hf, hlt⟩ := hV.1.rules
  have hgw : g < w.heap.size := hV.1.lt
  have HV := Lib.hid hV
  have HG := Lib.hid hG
  have hbs := fun W (hr : Rd W A (byteV l)) hg => qRead_any (.slice A l.length cap) l p W hg ⟨A, cap, rfl, hcap, hr⟩ hlen
  obtain ⟨⟨t, m, er⟩, hr⟩ : ∃ r, qRead l p = r := ⟨_, rfl⟩
  rw [hr] at hbs
  have HO := Lib.hid (show er = 0 → ∃ n : Nat, m = n ∧ p < n ∧ n ≤ l.length from fun h => by have := qRead_ok (l := l) (a := p); rw [hr] at this; exact this h)
  have HS := Lib.hid (show vText l p = if er = 0 then .inl (4, t, 0, m.toNat) else .inr (m, er) by unfold vText; rw [hr])
  have HQ := Lib.hid hbs
  clear hV hG hbs hr
  unfold vCells at hc
  have HQ1 := Lib.hid (HQ.out ((w.alloc (.cells #[.int .i64 0, .int .i64 0, .string ⟨#[]⟩, .int .i64 0] 30)).drew) (HV.out.2.alloc _) ((HG.out.alloc _).drewN 1))
  have hst0 : VStep w g A cap l p 0 ((w.alloc (.cells #[.int .i64 0, .int .i64 0, .string ⟨#[]⟩, .int .i64 0] 30)).drew) := ((VStep.refl HV.out).alloc _).drewN 1
  have hr0 : Blk (w.alloc (.cells #[.int .i64 0, .int .i64 0, .string ⟨#[]⟩, .int .i64 0] 30)) w.heap.size 30 #[.int .i64 0, .int .i64 0, .string ⟨#[]⟩, .int .i64 0] := Blk.new _ _ _
  go_enter Tryd.func69, Tryd.ntmps69
  go_wp2
  go_region_held3 (fun w' => w'.cell? ⟨g, 0, none⟩ = some (.int .i64 (p : Int)) ∧ w'.cell? ⟨g, 2, none⟩ = some (.slice A l.length cap)) (go_keep) ((go_at_call 90; refine HQ1.out.mono ?_; rintro e w1 ⟨rfl, hb1⟩; have hst1 := hst0.keep hb1; have hR1 := (hr0.drew).keep hb1; have h10 := hst1.1.1.cell 0; have h12 := hst1.1.1.cell 2; unfold vCells at h10 h12; simp at h10 h12))
  have hn := hR1.lt
  have hg1 := hst1.1.1.lt
  have hf1 := hst1.1.1.frozen
  have hfr := hR1.frozen
  have hcr := hR1.cell
  by_cases her : er = 0
  · obtain ⟨n, hn1, hn2, hn3⟩ := HO.out her
    subst her
    subst hn1
    have hz : ((0 : Int) != 0) = false := rfl
    go_wp2
    have hR2 := hR1.far (p := ⟨g, 0, none⟩) (show w.heap.size ≠ g by omega) (.int .i64 n)
    obtain ⟨cf, _, _⟩ := ((Blk.put4 hR2 (.int .i64 4) (.int .i64 p) (.string ⟨t.toArray⟩) (.int .i64 0)).alloc (.cells #[.int .i64 4, .int .i64 p, .string ⟨t.toArray⟩, .int .i64 0] 30)).rules
    refine bodyPost_ret (v := .agg #[.int .i64 4, .int .i64 p, .string ⟨t.toArray⟩, .int .i64 0]) (by simp only [results, Tryd.results69]; go_simp) rfl ?_
    rw [HS.out, if_pos trivial, Int.toNat_natCast]
    exact ⟨rfl, ((hst1.set0 n).put4 hR2 (Nat.le_refl _) hgw _ _ _ _).alloc _⟩
  · have hz : (er != 0) = true := by simp; omega
    go_wp2_with (go_at_call 88; refine (fails_any _ g _ cap l _ _ _ _ hst1.1).mono ?_; rintro e w3 ⟨rfl, hst5⟩; have hR3 := hR1.grown hst5.2 (by simp; omega); obtain ⟨cr3, fr3, lr3⟩ := hR3.rules; unfold zeroTok)
    obtain ⟨cf, _, _⟩ := (Blk.put4 hR3 (.int .i64 0) (.int .i64 0) (.string ⟨#[]⟩) (.int .i64 0)).rules
    refine bodyPost_ret (v := .agg #[.int .i64 0, .int .i64 0, .string ⟨#[]⟩, .int .i64 0]) (by simp only [results, Tryd.results69]; go_simp) rfl ?_
    rw [HS.out, if_neg her]
    exact ⟨rfl, (hst1.trans hst5).put4 hR3 (Nat.le_refl _) hgw _ _ _ _⟩
end Go.Proofs.YtalhoacancbldaaDoor
