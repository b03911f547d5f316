/- Plain: the program's sign of a quoted text is the reference's. -/
import Derived.Test.YteeldajkfplomaaDoorRef2
import Derived.Test.YteeldajkfplomaaDoorQuote7
namespace Go.Proofs.YteeldajkfplomaaDoor
set_option linter.unusedVariables false
set_option linter.unusedSimpArgs false
open Go.RowKit

theorem cpBegin_ascii {c : UInt8} {r : List UInt8} (h : c.toNat < 128) : cpBegin (c :: r) = (c.toNat, 1) := by
  rw [begin_1 ((ok1 c r).2 h)]
  simp [cpNum]
theorem cpBegin_high {c : UInt8} {r : List UInt8} (h : ¬ c.toNat < 128) (h2 : (cpBegin (c :: r)).2 ≠ 0) : 128 ≤ (cpBegin (c :: r)).1 := by
  have h1 : cpOk (c :: r) 1 = false := by rw [Bool.eq_false_iff]; intro e; exact h ((ok1 c r).1 e)
  have key : ∀ n, 2 ≤ n → cpOk (c :: r) n = true → 128 ≤ cpNum (c :: r) n := fun n hn hk => by
    obtain ⟨e1, e2, e3⟩ := (cpOk_iff _ _).1 hk
    rcases Nat.lt_or_ge (cpNum (c :: r) n) 128 with hlt | hge
    · exfalso
      have := congrArg List.length e3
      unfold cpBytes at this
      rw [if_pos hlt] at this
      rw [List.length_take, List.length_singleton] at this
      omega
    · exact hge
  unfold cpBegin at h2 ⊢
  rw [h1] at h2 ⊢
  simp only [Bool.false_eq_true, if_false] at h2 ⊢
  split
  · exact key 2 (by omega) ‹_›
  · split
    · exact key 3 (by omega) ‹_›
    · split
      · exact key 4 (by omega) ‹_›
      · simp_all
theorem tailB_of {l : List UInt8} {c : UInt8} {r : List UInt8} (h : l = c :: r) : tailB l = if c.toNat = 92 ∨ c.toNat < 32 ∨ c.toNat = 34 ∨ (cpBegin l).2 = 0 then (0, 0) else cpBegin l := by
  unfold tailB
  by_cases h8 : c.toNat < 128
  · have e : cpBegin l = (c.toNat, 1) := by rw [h]; exact cpBegin_ascii h8
    rw [e]
    simp only
    by_cases hc : c.toNat < 32 ∨ c.toNat = 34 ∨ c.toNat = 92
    · rw [if_pos (.inr hc), if_pos (by rcases hc with h | h | h; exact .inr (.inl h); exact .inr (.inr (.inl h)); exact .inl h)]
    · rw [if_neg (by rintro (h | h); omega; exact hc h), if_neg (by rintro (h | h | h | h); exact hc (.inr (.inr h)); exact hc (.inl h); exact hc (.inr (.inl h)); omega)]
  · by_cases h0 : (cpBegin l).2 = 0
    · rw [if_pos (.inl h0), if_pos (.inr (.inr (.inr h0)))]
    · have hb : 128 ≤ (cpBegin l).1 := by rw [h] at h0 ⊢; exact cpBegin_high h8 h0
      rw [if_neg (by rintro (h | h | h | h) <;> omega), if_neg (by rintro (h | h | h | h) <;> omega)]

/-- the sign that stands at a place, in the program's words and in the reference's -/
theorem b2_same {l : List UInt8} {p : Nat} {c : UInt8} (hc : l[p]? = some c) :
    ((qsS l p).2.2 = 0 ∧ qsS l p = (((rB2 (l.drop p)).1 : Int), ((p + (rB2 (l.drop p)).2 : Nat) : Int), 0) ∧ (rB2 (l.drop p)).2 ≠ 0) ∨
    ((rB2 (l.drop p)).2 = 0 ∧ (qsS l p).2.2 = (if 128 ≤ c.toNat then 110 else 7)) := by
  have hlt := (List.getElem?_eq_some_iff.1 hc).1
  have hd : l.drop p = c :: l.drop (p + 1) := by
    rw [List.drop_eq_getElem_cons hlt, (List.getElem?_eq_some_iff.1 hc).2]
  have hd0 : (l.drop p)[0]? = some c := by rw [List.getElem?_drop, Nat.add_zero]; exact hc
  have hd1 : (l.drop p)[1]? = l[p + 1]? := by rw [List.getElem?_drop]
  have hu0 : unitO (l.drop p) 0 = unitO l p := unitO_drop (by omega)
  have ht := tailB_of hd
  have hq : qsS l p = if c.toNat = 92 then escS l p else if c.toNat < 32 ∨ c.toNat = 34 then (0, 0, 7) else nextR l p := by rw [qsS, hc]
  rw [rB2_eq, hd0, hd1]
  by_cases h92 : c = 92
  · subst h92
    have hT : tailB (l.drop p) = (0, 0) := by rw [ht, if_pos (.inl rfl)]
    have hE : (if 128 ≤ (92 : UInt8).toNat then (110 : Int) else 7) = 7 := by decide
    have hq2 : qsS l p = escS l p := by rw [hq]; exact if_pos rfl
    rw [if_pos rfl, hq2, hE]
    unfold escS
    cases hu : unitO l p with
    | some u =>
      have hn := unitO_lt hu
      have h117 : l[p + 1]? = some 117 := by
        unfold unitO at hu
        split at hu
        · cases hu
        · rename_i hh
          simp only [not_or, Classical.not_not] at hh
          exact hh.2.2
      have hln : l[p + 1]?.bind (fun c => letterS c.toNat) = none := by rw [h117]; rfl
      rw [hln]
      simp only
      have hub : unitB (l.drop p) = if isCp (u : Int) then (u, 6) else if 55296 ≤ u ∧ u ≤ 56319 then
          match unitO l (p + 6) with
          | some v => if 56320 ≤ v ∧ v ≤ 57343 then (65536 + 1024 * (u - 55296) + (v - 56320), 12) else (0, 0)
          | none => (0, 0)
        else (0, 0) := by
        unfold unitB
        rw [hu0, hu, hT]
        have h6 : unitO (l.drop p) 6 = unitO l (p + 6) := by
          have a1 := unitO_drop (l := l) (a := p + 6) (by omega)
          have a2 := unitO_drop (l := l.drop p) (a := 6) (by rw [List.length_drop]; omega)
          rw [List.drop_drop] at a2
          rw [← a2, a1]
        rw [h6]
        rfl
      rw [hub]
      have hcs : 0 < cpSize (u : Int) ↔ isCp (u : Int) = true := by
        rw [isCp_iff, cpSize_eq]
        repeat' split
        all_goals omega
      by_cases hs : 0 < cpSize (u : Int)
      · rw [if_pos hs, if_pos (hcs.1 hs)]
        exact .inl ⟨rfl, by simp, by simp⟩
      · have hncp : ¬ isCp (u : Int) = true := fun e => hs (hcs.2 e)
        have hrange : 55296 ≤ u ∧ u ≤ 57343 := by
          have := hncp
          rw [isCp_iff] at this
          omega
        rw [if_neg hs, if_neg hncp]
        by_cases hh : u < 56320
        · rw [if_pos hh, if_pos (show 55296 ≤ u ∧ u ≤ 56319 by omega)]
          cases hv : unitO l (p + 6) with
          | none => exact .inr ⟨rfl, rfl⟩
          | some v =>
            simp only
            by_cases hv2 : 56320 ≤ v ∧ v ≤ 57343
            · rw [if_pos hv2, if_pos hv2]
              exact .inl ⟨rfl, by simp only [Prod.mk.injEq, and_true]; omega, by simp⟩
            · rw [if_neg hv2, if_neg hv2]
              exact .inr ⟨rfl, rfl⟩
        · rw [if_neg hh, if_neg (show ¬ (55296 ≤ u ∧ u ≤ 56319) by omega)]
          exact .inr ⟨rfl, rfl⟩
    | none =>
      have hub : unitB (l.drop p) = (0, 0) := by unfold unitB; rw [hu0, hu, hT]
      rw [hub]
      simp only
      cases h1 : l[p + 1]? with
      | none => exact .inr ⟨rfl, rfl⟩
      | some d =>
        simp only [Option.bind_some]
        cases hx : letterS d.toNat with
        | none => exact .inr ⟨rfl, rfl⟩
        | some x => exact .inl ⟨rfl, by simp, by simp⟩
  · have hn92 : c.toNat ≠ 92 := fun e => h92 (UInt8.toNat_inj.1 (by simpa using e))
    have huN : unitO l p = none := by unfold unitO; rw [if_pos (.inr (.inl (by rw [hc]; simpa using h92)))]
    have hub : unitB (l.drop p) = tailB (l.drop p) := by unfold unitB; rw [hu0, huN]
    rw [if_neg (by simpa using h92), hub, hq, if_neg hn92, ht]
    simp only
    by_cases hlow : c.toNat < 32 ∨ c.toNat = 34
    · rw [if_pos hlow, if_pos (by rcases hlow with h | h; exact .inr (.inl h); exact .inr (.inr (.inl h)))]
      exact .inr ⟨rfl, by rw [if_neg (by omega)]⟩
    · rw [if_neg hlow]
      have hnr : nextR l (p : Int) = if (cpBegin (l.drop p)).2 = 0 then (0, 0, 110) else (((cpBegin (l.drop p)).1 : Int), (p : Int) + (cpBegin (l.drop p)).2, 0) := by
        unfold nextR
        rw [if_neg (by omega), if_neg (by omega), Int.toNat_natCast]
      rw [hnr]
      by_cases h0 : (cpBegin (l.drop p)).2 = 0
      · have h128 : 128 ≤ c.toNat := by
          rcases Nat.lt_or_ge c.toNat 128 with h | h
          · rw [hd, cpBegin_ascii h] at h0; simp at h0
          · exact h
        rw [if_pos h0, if_pos (.inr (.inr (.inr h0)))]
        exact .inr ⟨rfl, by rw [if_pos h128]⟩
      · rw [if_neg h0, if_neg (by rintro (h | h | h | h); exact hn92 h; exact hlow (.inl h); exact hlow (.inr h); exact h0 h)]
        exact .inl ⟨rfl, by simp, h0⟩
end Go.Proofs.YteeldajkfplomaaDoor
