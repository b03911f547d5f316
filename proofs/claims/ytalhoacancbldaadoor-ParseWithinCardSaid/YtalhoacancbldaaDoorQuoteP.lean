/- Plain: where a quoted text ends. -/
import Derived.Test.YtalhoacancbldaaDoorQuote6
namespace Go.Proofs.YtalhoacancbldaaDoor
set_option linter.unusedVariables false
set_option linter.unusedSimpArgs false

theorem qsS_more {l : List UInt8} {e : Nat} (h : signsL l e = []) (he : e < l.length) : (qsS l e).2.2 ≠ 0 := fun h0 => by
  obtain ⟨p, m, h1, h2, _⟩ := qs_ok (c := (qsS l e).1) (n := (qsS l e).2.1) (by rw [← h0]) he
  have := signsL_cons (l := l) (a := e) (p := p) (m := m) (by rw [← h1, ← h2, ← h0]) he
  rw [h] at this
  cases this
/-- where a quoted text is read, it ends within the row -/
theorem qRead_ok {l : List UInt8} {a : Nat} (h : (qRead l a).2.2 = 0) : ∃ m : Nat, (qRead l a).2.1 = m ∧ a < m ∧ m ≤ l.length := by
  unfold qRead at h ⊢
  split at h
  · simp at h
  · rename_i h1
    rw [if_neg h1]
    split at h
    · simp at h
    · rename_i h2
      rw [if_neg h2]
      rw [Int.toNat_natCast] at h ⊢
      split at h
      · simp at h
      · rename_i h3
        rw [if_neg h3]
        have hp := signs_pre (l := l) (l.length - (a + 1)) (a + 1) _ (Nat.le_refl _) (List.prefix_refl _) (by omega)
        obtain ⟨_, g2, g3, g4⟩ := hp
        split at h
        · rename_i h4
          rw [if_pos h4]
          have := (List.getElem?_eq_some_iff.1 h4).1
          exact ⟨qEnd (a + 1) (signsL l (a + 1)) + 1, rfl, by omega, this⟩
        · exfalso
          have hnil : signsL l (qEnd (a + 1) (signsL l (a + 1))) = [] := List.self_eq_append_right.1 g4
          unfold qSign at h
          rw [if_neg (by omega)] at h
          split at h
          · simp at h
          · rename_i h5
            rw [Int.toNat_natCast] at h
            exact qsS_more hnil (by omega) h

theorem nextR_in {l : List UInt8} {a : Nat} (h : a < l.length) : nextR l (a : Int) = if (cpBegin (l.drop a)).2 = 0 then ((0 : Int), (0 : Int), (110 : Int)) else (((cpBegin (l.drop a)).1 : Int), (a : Int) + (cpBegin (l.drop a)).2, 0) := by
  unfold nextR
  rw [if_neg (by omega), if_neg (by omega), Int.toNat_natCast]
theorem qSign_in {l : List UInt8} {a : Nat} (h : a < l.length) : qSign l (a : Int) = qsS l a := by
  unfold qSign
  rw [if_neg (by omega), if_neg (by omega), Int.toNat_natCast]
theorem qRead_in {l : List UInt8} {a : Nat} (h : a < l.length) : qRead l (a : Int) = if l[a]? ≠ some 34 then ([], (a : Int), 7)
  else if l[qEnd (a + 1) (signsL l (a + 1))]? = some 34 then (qBytes (signsL l (a + 1)), (qEnd (a + 1) (signsL l (a + 1)) : Int) + 1, 0)
  else ([], (qEnd (a + 1) (signsL l (a + 1)) : Int), (qSign l (qEnd (a + 1) (signsL l (a + 1)) : Nat)).2.2) := by
  unfold qRead
  rw [if_neg (by omega), if_neg (by omega), Int.toNat_natCast]
theorem qEnd_cons (a : Nat) (x : Int × Int) (xs : List (Int × Int)) : qEnd a (x :: xs) = qEnd x.2.toNat xs := by
  unfold qEnd
  cases xs with
  | nil => rfl
  | cons y ys => rw [List.getLast?_cons_cons]; rw [List.getLast?_eq_some_getLast (by simp)]
theorem qEnd_in {l : List UInt8} {a : Nat} (ha : a ≤ l.length) : qEnd a (signsL l a) ≤ l.length := (signs_pre _ a _ (Nat.le_refl _) (List.prefix_refl _) ha).2.2.1
end Go.Proofs.YtalhoacancbldaaDoor
