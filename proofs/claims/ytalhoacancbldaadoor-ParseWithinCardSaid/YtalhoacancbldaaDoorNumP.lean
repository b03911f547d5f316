/- Plain: where a numeral ends. -/
import Derived.Test.YtalhoacancbldaaDoorNum4
namespace Go.Proofs.YtalhoacancbldaaDoor
set_option linter.unusedVariables false
set_option linter.unusedSimpArgs false
open Go.RowKit

theorem takeS_ge {s l : List UInt8} {st : NSt} : st.pos ≤ (takeS s l st).pos := by
  unfold takeS; split
  · exact Nat.le_succ _
  · exact Nat.le_refl _
theorem rowS_ge {gr : Bool} {l : List UInt8} {st : NSt} : st.pos ≤ (rowS gr l st).1.pos := by
  unfold rowS
  split
  · exact Nat.le_refl _
  · cases gr <;> exact Nat.le_add_right _ _
theorem stepK_ge {k : Nat} {l : List UInt8} {st st' : NSt} {q : Option Nat} (h : stepK k l st = (st', q)) : st.pos ≤ st'.pos := by
  have e : (stepK k l st).1 = st' := by rw [h]
  rw [← e]
  rcases k with _ | _ | _ | k
  · exact takeS_ge (s := [45])
  · show st.pos ≤ (wholeS l st).1.pos
    unfold wholeS
    split
    · exact Nat.le_succ _
    · exact rowS_ge
  · show st.pos ≤ (fracS l st).1.pos
    unfold fracS
    split
    · exact Nat.le_trans (Nat.le_succ st.pos) (rowS_ge (gr := false) (l := l) (st := { st with pos := st.pos + 1, part := true }))
    · exact Nat.le_refl _
  · show st.pos ≤ (expS l st).1.pos
    unfold expS
    split
    · exact Nat.le_trans (Nat.le_trans (Nat.le_succ st.pos) (takeS_ge (s := [43, 45]) (l := l) (st := { st with pos := st.pos + 1, part := true }))) rowS_ge
    · exact Nat.le_refl _
theorem runK_in {l : List UInt8} : ∀ {ks : List Nat} {st st' : NSt} {q : Option Nat}, runK l ks st = (st', q) → st.pos ≤ l.length → st.size < 18446744073709551616 → st.pos ≤ st'.pos ∧ st'.pos ≤ l.length
  | [], st, st', q, h, hp, _ => by
    simp only [runK, Prod.mk.injEq] at h
    rw [← h.1]; exact ⟨Nat.le_refl _, hp⟩
  | k :: ks, st, st', q, h, hp, hs => by
    obtain ⟨⟨s1, r⟩, hr⟩ : ∃ r, stepK k l st = r := ⟨_, rfl⟩
    have hle := stepK_le hr hp hs
    have hge := stepK_ge hr
    cases r with
    | none =>
      rw [runK_none hr] at h
      have := runK_in h hle.1 hle.2
      exact ⟨Nat.le_trans hge this.1, this.2⟩
    | some p =>
      rw [runK_some hr] at h
      simp only [Prod.mk.injEq] at h
      rw [← h.1]; exact ⟨hge, hle.1⟩
theorem numRead_ok {l : List UInt8} {a : Nat} (h : (numRead l a).2.2 = 0) : ∃ m : Nat, (numRead l a).2.1 = m ∧ a ≤ m ∧ m ≤ l.length := by
  unfold numRead at h ⊢
  split at h
  · simp at h
  · rename_i h1
    rw [if_neg h1]
    rw [Int.toNat_natCast] at h ⊢
    obtain ⟨⟨st, q⟩, hq⟩ : ∃ r, numRun l (numStart a) = r := ⟨_, rfl⟩
    have hin := runK_in hq (by show a ≤ _; omega) (by show 0 < _; omega)
    rw [hq] at h ⊢
    cases q with
    | some p => simp at h
    | none =>
      simp only at h ⊢
      unfold numEnd at h ⊢
      split at h
      · simp at h
      · rename_i h2
        rw [if_neg h2]
        exact ⟨st.pos, rfl, hin.1, hin.2⟩

theorem wholeS_more {l : List UInt8} {st st' : NSt} (h : wholeS l st = (st', none)) : st.pos < st'.pos := by
  unfold wholeS at h
  split at h
  · simp only [Prod.mk.injEq] at h; rw [← h.1]; exact Nat.lt_succ_self _
  · unfold rowS at h
    split at h
    · simp at h
    · rename_i hd
      simp only [Prod.mk.injEq] at h
      rw [← h.1]
      have : 0 < (digs l st.pos).length := List.length_pos_iff.2 hd
      show st.pos < st.pos + _
      omega
theorem numRead_more {l : List UInt8} {a : Nat} (h : (numRead l a).2.2 = 0) : ∃ m : Nat, (numRead l a).2.1 = m ∧ a < m ∧ m ≤ l.length := by
  obtain ⟨m, h1, _, h3⟩ := numRead_ok h
  refine ⟨m, h1, ?_, h3⟩
  unfold numRead at h h1
  split at h
  · simp at h
  · rename_i hin
    rw [if_neg hin] at h1
    rw [Int.toNat_natCast] at h h1
    obtain ⟨⟨st, q⟩, hq⟩ : ∃ r, numRun l (numStart a) = r := ⟨_, rfl⟩
    rw [hq] at h h1
    cases q with
    | some p => simp at h
    | none =>
      simp only at h h1
      unfold numEnd at h h1
      split at h
      · simp at h
      · rename_i h2
        rw [if_neg h2] at h1
        have hm : st.pos = m := by simp at h1; omega
        rw [← hm]
        unfold numRun at hq
        have ha : a ≤ l.length := by omega
        obtain ⟨⟨s1, r1⟩, e1⟩ : ∃ r, stepK 0 l (numStart a) = r := ⟨_, rfl⟩
        have b1 := stepK_ge e1
        have c1 := stepK_le e1 ha (by show 0 < _; omega)
        have hr1 : r1 = none := by
          have : (stepK 0 l (numStart a)).2 = none := rfl
          rw [e1] at this; exact this
        subst hr1
        rw [runK_none e1] at hq
        obtain ⟨⟨s2, r2⟩, e2⟩ : ∃ r, stepK 1 l s1 = r := ⟨_, rfl⟩
        cases r2 with
        | some x => rw [runK_some e2] at hq; simp at hq
        | none =>
          have b2 := wholeS_more (l := l) (st := s1) (st' := s2) e2
          have c2 := stepK_le e2 c1.1 c1.2
          rw [runK_none e2] at hq
          have b3 := runK_in hq c2.1 c2.2
          have : (numStart a).pos = a := rfl
          omega
end Go.Proofs.YtalhoacancbldaaDoor
