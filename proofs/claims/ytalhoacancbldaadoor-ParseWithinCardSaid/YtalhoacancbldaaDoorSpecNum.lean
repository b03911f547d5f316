/- plain definitions and laws: numerals -/
namespace Go.Proofs.YtalhoacancbldaaDoor
set_option linter.unusedVariables false
set_option linter.unusedSimpArgs false

/-- is the byte at a place one of some? -/
def seesB (l : List UInt8) (p : Nat) (s : List UInt8) : Bool := match l[p]? with | some c => s.contains c | none => false
def isDig (c : UInt8) : Bool := decide (48 ≤ c.toNat ∧ c.toNat ≤ 57)
/-- the digits that stand at a place -/
def digs (l : List UInt8) (p : Nat) : List UInt8 := (l.drop p).takeWhile isDig
def digEnd (l : List UInt8) (p : Nat) : Nat := p + (digs l p).length
def dval (c : UInt8) : Nat := c.toNat - 48
def digNum (ds : List UInt8) : Nat := ds.foldl (fun n c => 10 * n + dval c) 0
theorem digs_nil {l : List UInt8} {p : Nat} (h : seesB l p [48, 49, 50, 51, 52, 53, 54, 55, 56, 57] = false) : digs l p = [] := by
  unfold digs seesB at *
  cases hl : l[p]? with
  | none =>
    have := List.getElem?_eq_none_iff.1 hl
    rw [List.drop_eq_nil_of_le this]; rfl
  | some c =>
    rw [hl] at h
    have hd : l.drop p = c :: l.drop (p + 1) := by
      obtain ⟨hlt, e⟩ := List.getElem?_eq_some_iff.1 hl
      rw [List.drop_eq_getElem_cons hlt, e]
    rw [hd, List.takeWhile_cons]
    have : isDig c = false := by
      simp only [isDig, decide_eq_false_iff_not]
      simp only [List.contains_eq_mem, List.mem_cons, List.not_mem_nil, decide_eq_false_iff_not] at h
      intro hc
      apply h
      simp only [← UInt8.toNat_inj]
      have h2 : c.toNat = 48 ∨ c.toNat = 49 ∨ c.toNat = 50 ∨ c.toNat = 51 ∨ c.toNat = 52 ∨ c.toNat = 53 ∨ c.toNat = 54 ∨ c.toNat = 55 ∨ c.toNat = 56 ∨ c.toNat = 57 := by omega
      simpa using h2
    rw [this]; rfl
theorem digs_cons {l : List UInt8} {p : Nat} (h : seesB l p [48, 49, 50, 51, 52, 53, 54, 55, 56, 57] = true) : ∃ c, l[p]? = some c ∧ 48 ≤ c.toNat ∧ c.toNat ≤ 57 ∧ digs l p = c :: digs l (p + 1) := by
  unfold digs seesB at *
  cases hl : l[p]? with
  | none => rw [hl] at h; simp at h
  | some c =>
    rw [hl] at h
    have hd : l.drop p = c :: l.drop (p + 1) := by
      obtain ⟨hlt, e⟩ := List.getElem?_eq_some_iff.1 hl
      rw [List.drop_eq_getElem_cons hlt, e]
    have hc : 48 ≤ c.toNat ∧ c.toNat ≤ 57 := by
      simp only [List.contains_eq_mem, List.mem_cons, List.not_mem_nil, decide_eq_true_eq, or_false] at h
      simp only [← UInt8.toNat_inj] at h
      simp at h
      omega
    refine ⟨c, rfl, hc.1, hc.2, ?_⟩
    rw [hd, List.takeWhile_cons]
    have : isDig c = true := by simp only [isDig, decide_eq_true_eq]; exact hc
    rw [this]; rfl
theorem digs_le (l : List UInt8) (p : Nat) : (digs l p).length ≤ l.length - p := by
  unfold digs
  have := (List.takeWhile_sublist isDig (l := l.drop p)).length_le
  simpa using this
end Go.Proofs.YtalhoacancbldaaDoor
