/- The iterator over the signs of a quoted string: what it hands out, and its walk. -/
import Derived.Test.YtalhoacancbldaaDoorQuote4
import Derived.Test.YtalhoacancbldaaDoorIter
namespace Go.Proofs.YtalhoacancbldaaDoor
set_option linter.unusedVariables false
set_option linter.unusedSimpArgs false
open Go.RowKit Go.Shelf
attribute [local go_sem] run_index_arr run_part_agg run_part_one run_field_agg Oper.semAt_some

theorem cpBegin_ok {l : List UInt8} (h : (cpBegin l).2 ≠ 0) : cpLen (cpBegin l).1 ≠ 0 := by
  have key : ∀ n, cpOk l n = true → cpLen (cpNum l n) ≠ 0 := fun n hn => by
    have := ((cpOk_iff l n).1 hn).2.1
    intro e
    have := (cpLen_iff _ _).1 e
    omega
  unfold cpBegin at h ⊢
  split
  · exact key _ ‹_›
  · split
    · exact key _ ‹_›
    · split
      · exact key _ ‹_›
      · split
        · exact key _ ‹_›
        · simp_all
theorem letterS_lt {c x : Nat} (h : letterS c = some x) : x < 128 := by
  unfold letterS at h
  repeat' split at h
  all_goals first | (cases h; omega) | cases h
/-- a sign that is read stands within the row, and is a code point -/
theorem qs_ok {l : List UInt8} {a : Nat} {c n : Int} (h : qsS l a = (c, n, 0)) (ha : a < l.length) : ∃ p m : Nat, c = p ∧ n = m ∧ a < m ∧ m ≤ l.length ∧ cpLen p ≠ 0 := by
  unfold qsS at h
  rw [List.getElem?_eq_getElem ha] at h
  simp only at h
  split at h
  · unfold escS at h
    cases hu : unitO l a with
    | some u =>
      rw [hu] at h
      have hlt := unitO_lt hu
      simp only at h
      split at h
      · rename_i hs
        simp only [Prod.mk.injEq] at h
        refine ⟨u, a + 6, h.1.symm, by omega, by omega, hlt.2, ?_⟩
        intro e
        have : cpSize (u : Int) = 0 := (cpSize_int u 0).2 e
        omega
      · rename_i hs
        have h0 : cpLen u = 0 := by
          have : cpSize (u : Int) = cpLen u := (cpSize_int u _).2 rfl
          omega
        have h1 := (cpLen_iff _ _).1 h0
        split at h
        · cases hv : unitO l (a + 6) with
          | none => rw [hv] at h; simp at h
          | some v =>
            rw [hv] at h
            simp only at h
            split at h
            · simp only [Prod.mk.injEq] at h
              refine ⟨65536 + (u - 55296) * 1024 + (v - 56320), a + 12, by omega, by omega, by omega, by have := (unitO_lt hv).2; omega, ?_⟩
              intro e
              have := (cpLen_iff _ _).1 e
              omega
            · simp at h
        · simp at h
    | none =>
      rw [hu] at h
      simp only at h
      cases hc : l[a + 1]? with
      | none => rw [hc] at h; simp at h
      | some d =>
        rw [hc] at h
        simp only at h
        cases hx : letterS d.toNat with
        | none => rw [hx] at h; simp at h
        | some x =>
          rw [hx] at h
          simp only [Prod.mk.injEq] at h
          have := (List.getElem?_eq_some_iff.1 hc).1
          refine ⟨x, a + 2, h.1.symm, by omega, by omega, by omega, ?_⟩
          intro e
          have h1 := (cpLen_iff _ _).1 e
          have := letterS_lt hx
          omega
  · split at h
    · simp at h
    · unfold nextR at h
      rw [if_neg (by omega), if_neg (by omega), Int.toNat_natCast] at h
      split at h
      · simp at h
      · rename_i hne
        simp only [Prod.mk.injEq] at h
        have h1 := cpBegin_len (l.drop a)
        simp at h1
        exact ⟨(cpBegin (l.drop a)).1, a + (cpBegin (l.drop a)).2, h.1.symm, by omega, by omega, by omega, cpBegin_ok hne⟩

/-- the signs from a place on, up to the first that cannot be read, or to the end -/
def signsF (l : List UInt8) : Nat → Nat → List (Int × Int)
  | 0, _ => []
  | k + 1, a => if a < l.length ∧ (qsS l a).2.2 = 0 then ((qsS l a).1, (qsS l a).2.1) :: signsF l k (qsS l a).2.1.toNat else []
def signsL (l : List UInt8) (a : Nat) : List (Int × Int) := signsF l (l.length - a) a
theorem signsF_more (l : List UInt8) : ∀ (k k' a : Nat), l.length - a ≤ k → l.length - a ≤ k' → signsF l k a = signsF l k' a
  | 0, 0, _, _, _ => rfl
  | 0, k' + 1, a, h, _ => by
    rw [signsF, signsF, if_neg (by omega)]
  | k + 1, 0, a, _, h => by
    rw [signsF, signsF, if_neg (by omega)]
  | k + 1, k' + 1, a, h, h' => by
    rw [signsF, signsF]
    by_cases hc : a < l.length ∧ (qsS l a).2.2 = 0
    · rw [if_pos hc, if_pos hc]
      obtain ⟨p, m, h1, h2, h3, h4, _⟩ := qs_ok (c := (qsS l a).1) (n := (qsS l a).2.1) (by rw [← hc.2]) hc.1
      rw [h2, Int.toNat_natCast, signsF_more l k k' m (by omega) (by omega)]
    · rw [if_neg hc, if_neg hc]
theorem signsL_cons {l : List UInt8} {a p m : Nat} (h : qsS l a = ((p : Int), (m : Int), 0)) (ha : a < l.length) : signsL l a = ((p : Int), (m : Int)) :: signsL l m := by
  obtain ⟨p', m', h1, h2, h3, h4, _⟩ := qs_ok h ha
  unfold signsL
  obtain ⟨k, hk⟩ : ∃ k, l.length - a = k + 1 := ⟨l.length - a - 1, by omega⟩
  rw [hk, signsF, if_pos ⟨ha, by rw [h]⟩, h]
  simp only [Int.toNat_natCast]
  rw [signsF_more l k (l.length - m) m (by omega) (Nat.le_refl _)]
theorem signsL_nil {l : List UInt8} {a : Nat} (h : a < l.length → (qsS l a).2.2 ≠ 0) : signsL l a = [] := by
  unfold signsL
  cases hk : l.length - a with
  | zero => rfl
  | succ k => rw [signsF, if_neg (fun hc => h hc.1 hc.2)]
end Go.Proofs.YtalhoacancbldaaDoor
