/- Plain: blanks of a row of bytes, and the place behind them. -/
namespace Go.Proofs.YtalhoacancbldaaDoor
set_option linter.unusedVariables false
set_option linter.unusedSimpArgs false

def isBlankB (c : UInt8) : Bool := decide (c.toNat = 9 ∨ c.toNat = 10 ∨ c.toNat = 13 ∨ c.toNat = 32)
/-- the place behind the blanks -/
def skipB (l : List UInt8) (p : Nat) : Nat := p + ((l.drop p).takeWhile isBlankB).length
theorem skipB_step {l : List UInt8} {p : Nat} {c : UInt8} (h : l[p]? = some c) (hb : isBlankB c = true) : skipB l p = skipB l (p + 1) := by
  obtain ⟨hlt, e⟩ := List.getElem?_eq_some_iff.1 h
  unfold skipB
  rw [List.drop_eq_getElem_cons hlt, e, List.takeWhile_cons, hb]
  simp; omega
theorem skipB_stop {l : List UInt8} {p : Nat} {c : UInt8} (h : l[p]? = some c) (hb : isBlankB c = false) : skipB l p = p := by
  obtain ⟨hlt, e⟩ := List.getElem?_eq_some_iff.1 h
  unfold skipB
  rw [List.drop_eq_getElem_cons hlt, e, List.takeWhile_cons, hb]
  simp
theorem skipB_end {l : List UInt8} {p : Nat} (h : l.length ≤ p) : skipB l p = p := by
  unfold skipB
  rw [List.drop_eq_nil_of_le h]; simp
theorem skipB_ge (l : List UInt8) (p : Nat) : p ≤ skipB l p := Nat.le_add_right _ _
theorem skipB_le {l : List UInt8} {p : Nat} (h : p ≤ l.length) : skipB l p ≤ l.length := by
  unfold skipB
  have := (List.takeWhile_sublist isBlankB (l := l.drop p)).length_le
  simp at this
  omega
theorem skipB_nbl {l : List UInt8} {p : Nat} {c : UInt8} (h : l[skipB l p]? = some c) : isBlankB c = false := by
  have hd : (l.drop p)[((l.drop p).takeWhile isBlankB).length]? = some c := by rw [List.getElem?_drop]; exact h
  generalize l.drop p = u at hd
  clear h
  induction u with
  | nil => simp at hd
  | cons x r ih =>
    rw [List.takeWhile_cons] at hd
    by_cases hx : isBlankB x = true
    · rw [if_pos hx] at hd; exact ih (by simpa using hd)
    · rw [if_neg hx] at hd
      have : x = c := by simpa using hd
      rw [← this]; simpa using hx
theorem skipB_idem {l : List UInt8} {p : Nat} : skipB l (skipB l p) = skipB l p := by
  by_cases h : skipB l p < l.length
  · exact skipB_stop (List.getElem?_eq_getElem h) (skipB_nbl (List.getElem?_eq_getElem h))
  · exact skipB_end (by omega)
end Go.Proofs.YtalhoacancbldaaDoor
