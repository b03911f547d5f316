/- The walk of package vlex: numbers. -/
import Derived.Test.YtalhoacancbldaaDoorVlex5
namespace Go.Proofs.YtalhoacancbldaaDoor
set_option linter.unusedVariables false
set_option linter.unusedSimpArgs false
open Go.RowKit
attribute [local go_sem] run_index_arr run_part_agg run_part_one run_field_agg

theorem takeS_ge {s l : List UInt8} {st : NSt} : st.pos ≤ (takeS s l st).pos := by
  unfold takeS; split
  · exact Nat.le_succ _
  · exact Nat.le_refl _
theorem rowS_ge {gr : Bool} {l : List UInt8} {st : NSt} : st.pos ≤ (rowS gr l st).1.pos := by
  unfold rowS
  split
  · exact Nat.le_refl _
  · cases gr <;> exact Nat.le_add_right _ _
theorem stepK_ge {k : Nat} {l : List UInt8} {st st' : NSt} {q : Option Nat} (h : stepK k l st = (st', q)) : st.pos ≤ st'.pos := by
  have e : (stepK k l st).1 = st' := by rw [h]
  rw [← e]
  rcases k with _ | _ | _ | k
  · exact takeS_ge (s := [45])
  · show st.pos ≤ (wholeS l st).1.pos
    unfold wholeS
    split
    · exact Nat.le_succ _
    · exact rowS_ge
  · show st.pos ≤ (fracS l st).1.pos
    unfold fracS
    split
    · exact Nat.le_trans (Nat.le_succ st.pos) (rowS_ge (gr := false) (l := l) (st := { st with pos := st.pos + 1, part := true }))
    · exact Nat.le_refl _
  · show st.pos ≤ (expS l st).1.pos
    unfold expS
    split
    · exact Nat.le_trans (Nat.le_trans (Nat.le_succ st.pos) (takeS_ge (s := [43, 45]) (l := l) (st := { st with pos := st.pos + 1, part := true }))) rowS_ge
    · exact Nat.le_refl _
theorem runK_in {l : List UInt8} : ∀ {ks : List Nat} {st st' : NSt} {q : Option Nat}, runK l ks st = (st', q) → st.pos ≤ l.length → st.size < 18446744073709551616 → st.pos ≤ st'.pos ∧ st'.pos ≤ l.length
  | [], st, st', q, h, hp, _ => by
    simp only [runK, Prod.mk.injEq] at h
    rw [← h.1]; exact ⟨Nat.le_refl _, hp⟩
  | k :: ks, st, st', q, h, hp, hs => by
    obtain ⟨⟨s1, r⟩, hr⟩ : ∃ r, stepK k l st = r := ⟨_, rfl⟩
    have hle := stepK_le hr hp hs
    have hge := stepK_ge hr
    cases r with
    | none =>
      rw [runK_none hr] at h
      have := runK_in h hle.1 hle.2
      exact ⟨Nat.le_trans hge this.1, this.2⟩
    | some p =>
      rw [runK_some hr] at h
      simp only [Prod.mk.injEq] at h
      rw [← h.1]; exact ⟨hge, hle.1⟩
theorem numRead_ok {l : List UInt8} {a : Nat} (h : (numRead l a).2.2 = 0) : ∃ m : Nat, (numRead l a).2.1 = m ∧ a ≤ m ∧ m ≤ l.length := by
  unfold numRead at h ⊢
  split at h
  · simp at h
  · rename_i h1
    rw [if_neg h1]
    rw [Int.toNat_natCast] at h ⊢
    obtain ⟨⟨st, q⟩, hq⟩ : ∃ r, numRun l (numStart a) = r := ⟨_, rfl⟩
    have hin := runK_in hq (by show a ≤ _; omega) (by show 0 < _; omega)
    rw [hq] at h ⊢
    cases q with
    | some p => simp at h
    | none =>
      simp only at h ⊢
      unfold numEnd at h ⊢
      split at h
      · simp at h
      · rename_i h2
        rw [if_neg h2]
        exact ⟨st.pos, rfl, hin.1, hin.2⟩

set_option maxRecDepth 100000 in
set_option maxHeartbeats 4000000 in
theorem number_any (w : World) (g : Nat) (A : Option Addr) (cap : Nat) (l : List UInt8) (p : Nat) (hV : VB w g A cap l p 0) (hp : p < l.length) (hcap : l.length ≤ cap) (hlen : l.length ≤ 1048576) :
    Calls Tryd.prog 67 #[.pointer (some ⟨g, 0, none⟩)] w (TokPost (vNumber l p) p w g A cap l) := by
  obtain ⟨hc, hf, hlt⟩ := hV.1.rules
  have hgw : g < w.heap.size := hV.1.lt
  obtain ⟨b, o, rfl, hb, _⟩ := hV.byte (List.getElem?_eq_getElem hp)
  have HV := Lib.hid hV
  have hbs := fun W (hr : Rd W (some ⟨b, o, none⟩) (byteV l)) => numRead_any W (.slice (some ⟨b, o, none⟩) l.length cap) l p ⟨_, cap, rfl, hcap, hr⟩ hlen
  obtain ⟨⟨v, m, er⟩, hr⟩ : ∃ r, numRead l p = r := ⟨_, rfl⟩
  rw [hr] at hbs
  have HO := Lib.hid (show er = 0 → ∃ n : Nat, m = n ∧ p ≤ n ∧ n ≤ l.length from fun h => by have := numRead_ok (l := l) (a := p); rw [hr] at this; exact this h)
  have HS := Lib.hid (show vNumber l p = if er = 0 then .inl (3, (l.drop p).take (m.toNat - p), v, m.toNat) else .inr (m, er) by unfold vNumber; rw [hr])
  have HQ := Lib.hid hbs
  clear hV hbs hr
  unfold vCells at hc
  have HQ1 := Lib.hid (HQ.out ((w.alloc (.cells #[.int .i64 0, .int .i64 0, .string ⟨#[]⟩, .int .i64 0] 30)).drew) (HV.out.2.alloc _))
  have hst0 : VStep w g (some ⟨b, o, none⟩) cap l p 0 ((w.alloc (.cells #[.int .i64 0, .int .i64 0, .string ⟨#[]⟩, .int .i64 0] 30)).drew) := ((VStep.refl HV.out).alloc _).drewN 1
  have hr0 : Blk (w.alloc (.cells #[.int .i64 0, .int .i64 0, .string ⟨#[]⟩, .int .i64 0] 30)) w.heap.size 30 #[.int .i64 0, .int .i64 0, .string ⟨#[]⟩, .int .i64 0] := Blk.new _ _ _
  go_enter Tryd.func67, Tryd.ntmps67
  go_wp2
  go_region_held3 (fun w' => w'.cell? ⟨g, 0, none⟩ = some (.int .i64 (p : Int)) ∧ w'.cell? ⟨g, 2, none⟩ = some (.slice (some ⟨b, o, none⟩) l.length cap)) (go_keep) ((go_at_call 89; refine HQ1.out.mono ?_; rintro e w1 ⟨rfl, hb1⟩; have hst1 := hst0.keep hb1; have hR1 := (hr0.drew).keep hb1; have h10 := hst1.1.1.cell 0; have h12 := hst1.1.1.cell 2; unfold vCells at h10 h12; simp at h10 h12))
  have hn := hR1.lt
  have hg1 := hst1.1.1.lt
  by_cases her : er = 0
  · obtain ⟨n, hn1, hn2, hn3⟩ := HO.out her
    have HS2 := Lib.hid (HS.out.trans (if_pos her))
    have HE := Lib.hid her
    subst hn1
    have hz : (er != 0) = false := by simp [her]
    have hw1r : Rd w1 (some ⟨b, o, none⟩) (byteV l) := hst1.1.2
    obtain ⟨RQ, hRQ⟩ : ∃ RQ : World → Prop, RQ = fun w' => Rd w' (some ⟨b, o + p, none⟩) (byteV ((l.drop p).take (n - p))) := ⟨_, rfl⟩
    have hq' : ∀ w', RQ w' → (convert 36 9 (.slice (some ⟨b, o + p, none⟩) (n - p) (cap - p))).run Tryd.prog w' = .ok (.string ⟨((l.drop p).take (n - p)).toArray⟩) w' := by rw [hRQ]; exact fun w' h => sub_conv hn2 hn3 hcap h
    have hka' : ∀ (w' : World) (o' : Obj), RQ w' → RQ (w'.alloc o') := by rw [hRQ]; exact fun w' o' h => h.alloc o'
    have hkd' : ∀ (w' : World), RQ w' → RQ w'.drew := by rw [hRQ]; exact fun w' h => h
    have hs2 : RQ w1 := by rw [hRQ]; exact sub_rd hw1r
    have hkc : n ≤ cap := by omega
    have hpc' : ¬ cap = p := by omega
    clear hRQ her hst0 hr0 hw1r
    go_wp2
    go_region_held3 (fun w' => w'.cell? ⟨g, 0, none⟩ = some (.int .i64 (p : Int)) ∧ w'.cell? ⟨g, 2, none⟩ = some (.slice (some ⟨b, o, none⟩) l.length cap) ∧ RQ w') (go_keep) ((fail))
    obtain ⟨t, ht⟩ : ∃ t, (l.drop p).take (n - p) = t := ⟨_, rfl⟩
    rw [ht]
    obtain ⟨Wx, hWx⟩ : ∃ Wx, (w1.alloc (.cells #[.int .i64 3, .int .i64 p, .string ⟨t.toArray⟩, .int .i64 v] 30)).drew = Wx := ⟨_, rfl⟩
    have hT : Blk Wx w1.heap.size 30 #[.int .i64 3, .int .i64 p, .string ⟨t.toArray⟩, .int .i64 v] := by rw [← hWx]; exact Blk.new w1 _ _
    have hR2 : Blk Wx w.heap.size 30 #[.int .i64 0, .int .i64 0, .string ⟨#[]⟩, .int .i64 0] := by rw [← hWx]; exact hR1.alloc _
    have hst2 : VStep w g (some ⟨b, o, none⟩) cap l p 0 Wx := by rw [← hWx]; exact (hst1.alloc _).drewN 1
    rw [hWx]
    obtain ⟨N, hN⟩ : ∃ N, w1.heap.size = N := ⟨_, rfl⟩
    rw [hN] at hT hn hg1 ⊢
    have HT := Lib.hid ht
    clear hWx hN hs2 hq' hka' hkd' hR1 hst1 ht hb h10 h12
    obtain ⟨ct, ft, lt⟩ := hT.rules
    obtain ⟨cr, fr, lr⟩ := hR2.rules
    have hgf := hst2.1.1.frozen
    have hgc := hst2.1.1.cell
    unfold vCells at hgc
    go_wp2
    have hR3 := hR2.far (p := ⟨g, 0, none⟩) (show w.heap.size ≠ g by omega) (.int .i64 n)
    obtain ⟨cf, _, _⟩ := (Blk.put4 hR3 (.int .i64 3) (.int .i64 p) (.string ⟨t.toArray⟩) (.int .i64 v)).rules
    refine bodyPost_ret (v := .agg #[.int .i64 3, .int .i64 p, .string ⟨t.toArray⟩, .int .i64 v]) (by simp only [results, Tryd.results67]; go_simp) rfl ?_
    rw [HS2.out, Int.toNat_natCast, HT.out]
    exact ⟨rfl, (hst2.set0 n).put4 hR3 (Nat.le_refl _) hgw _ _ _ _⟩
  · have hz : (er != 0) = true := by simp; omega
    have HS2 := Lib.hid (HS.out.trans (if_neg her))
    clear her hst0 hr0
    go_wp2_with (go_at_call 88; refine (fails_any _ g _ cap l _ _ _ _ hst1.1).mono ?_; rintro e w3 ⟨rfl, hst5⟩; have hR3 := hR1.grown hst5.2 (by simp; omega); obtain ⟨cr3, fr3, lr3⟩ := hR3.rules; unfold zeroTok)
    obtain ⟨cf, _, _⟩ := (Blk.put4 hR3 (.int .i64 0) (.int .i64 0) (.string ⟨#[]⟩) (.int .i64 0)).rules
    refine bodyPost_ret (v := .agg #[.int .i64 0, .int .i64 0, .string ⟨#[]⟩, .int .i64 0]) (by simp only [results, Tryd.results67]; go_simp) rfl ?_
    rw [HS2.out]
    exact ⟨rfl, (hst1.trans hst5).put4 hR3 (Nat.le_refl _) hgw _ _ _ _⟩
end Go.Proofs.YtalhoacancbldaaDoor
