/- Plain: a name or a word is one token, whatever sign stands behind it. -/
import Derived.Test.YteeldajkfplomaaDoorVlex11
namespace Go.Proofs.YteeldajkfplomaaDoor
set_option linter.unusedVariables false
set_option linter.unusedSimpArgs false
open Go.RowKit

theorem nameFrom_ld : ∀ {i : Nat} {l : List UInt8}, nameFrom i l = true → ∀ c ∈ l, isLD c = true
  | _, [], _, c, hc => by cases hc
  | i, x :: r, h, c, hc => by
    unfold nameFrom at h
    simp only [Bool.and_eq_true, Bool.or_eq_true] at h
    rcases List.mem_cons.1 hc with rfl | hc
    · unfold isLD
      rcases h.1 with h1 | h1
      · rw [h1]; rfl
      · rw [h1.2]; simp
    · exact nameFrom_ld h.2 c hc
theorem nameFrom_first {c : UInt8} {r : List UInt8} (h : nameFrom 0 (c :: r) = true) : isLetter c = true := by
  unfold nameFrom at h
  simp only [Bool.and_eq_true, Bool.or_eq_true] at h
  rcases h.1 with h1 | h1
  · exact h1
  · simp at h1
theorem takeWhile_all {l : List UInt8} {p : UInt8 → Bool} (h : ∀ c ∈ l, p c = true) (r : List UInt8) (hr : ∀ c, r.head? = some c → p c = false) : (l ++ r).takeWhile p = l := by
  induction l with
  | nil =>
    cases r with
    | nil => rfl
    | cons c r => rw [List.nil_append, List.takeWhile_cons, hr c rfl]; rfl
  | cons c l ih => rw [List.cons_append, List.takeWhile_cons, h c List.mem_cons_self]; simp only [if_true]; rw [ih (fun x hx => h x (List.mem_cons_of_mem _ hx))]
theorem letter_no_blank {c : UInt8} (h : isLetter c = true) : isBlankB c = false := by
  unfold isLetter at h; unfold isBlankB
  have := of_decide_eq_true h
  rw [decide_eq_false_iff_not]; omega
theorem skipB_0 {c : UInt8} {r : List UInt8} (h : isBlankB c = false) : skipB (c :: r) 0 = 0 := skipB_stop (l := c :: r) (p := 0) rfl h
theorem isName_parts {l : List UInt8} (h : isName ⟨l.toArray⟩ = true) : nameFrom 0 l = true ∧ 1 ≤ l.length ∧ l.length ≤ 12 ∧ isWord l = false := by
  unfold isName at h
  rw [sl_mk] at h
  simp only [Bool.and_eq_true, decide_eq_true_eq, Bool.not_eq_true', ByteArray.size, List.size_toArray] at h
  exact ⟨h.1, h.2.1.1, h.2.1.2, h.2.2⟩
theorem vName_name {l r : List UInt8} (h : isName ⟨l.toArray⟩ = true) (hr : ∀ c, r.head? = some c → isLD c = false) : vTake (l ++ r) 0 = .inl (1, l, 0, l.length) ∧ skipB (l ++ r) 0 = 0 := by
  obtain ⟨h1, h2, h3, h4⟩ := isName_parts h
  cases l with
  | nil => simp at h2
  | cons c t =>
    have hl := nameFrom_first h1
    refine ⟨?_, skipB_0 (letter_no_blank hl)⟩
    have hc : ((c :: t) ++ r)[0]? = some c := rfl
    rw [vTake_kind hc, if_pos (by unfold kindC; rw [hl]; rfl)]
    have ht : ((c :: t) ++ r).takeWhile isLD = c :: t := takeWhile_all (nameFrom_ld h1) r hr
    unfold vName
    rw [List.drop_zero, ht]
    simp only
    rw [h4, h]
    simp
theorem vToks_last {l : List UInt8} : vToks l l.length = ([(6, l.length, [], 0)], none) := vToks_end (Nat.le_refl _) (by rw [skipB_end (Nat.le_refl _)]; omega)
theorem lex_of_toks {l : List UInt8} (hl : l.length ≤ 512) {ts : List VTok} (h : vToks l 0 = (ts, none)) : vLex l = (ts, 0, 0) := by
  unfold vLex; rw [if_neg (by omega), h]
theorem said_name {l : List UInt8} (h : isName ⟨l.toArray⟩ = true) : vLex l = ([(1, 0, l, 0), (6, l.length, [], 0)], 0, 0) ∧ vLex (l ++ [59]) = ([(1, 0, l, 0), (5, l.length, [59], 0), (6, l.length + 1, [], 0)], 0, 0) := by
  obtain ⟨h1, h2, h3, h4⟩ := isName_parts h
  constructor
  · refine lex_of_toks (by omega) ?_
    obtain ⟨hv, hs⟩ := vName_name (r := []) h (by simp)
    rw [List.append_nil] at hv hs
    rw [vToks_tok (Nat.zero_le _) (by rw [hs]; omega) (by rw [hs]; exact hv), vToks_last, hs]
  · refine lex_of_toks (by simp; omega) ?_
    obtain ⟨hv, hs⟩ := vName_name (r := [59]) h (by intro c hc; simp at hc; subst hc; decide)
    have hc : (l ++ [59])[l.length]? = some 59 := by simp
    have hs2 : skipB (l ++ [59]) l.length = l.length := skipB_stop hc (by decide)
    have hv2 : vTake (l ++ [59]) l.length = .inl (5, [59], 0, l.length + 1) := by
      rw [vTake_kind hc]
      have hk : kindC 59 = 3 := by decide
      rw [hk]
      simp only [Nat.reduceEqDiff, if_false]
      unfold vSign
      have hd : (l ++ [59]).drop l.length = [59] := by simp
      have : firstAt (l ++ [59]) l.length signsT = some [59] := by
        simp only [signsT, firstAt, standsAt, hd]
        decide
      rw [this]; rfl
    have hl1 : (l ++ [59]).length = l.length + 1 := by simp
    have hend : vToks (l ++ [59]) (l.length + 1) = ([(6, l.length + 1, [], 0)], none) := by
      have := vToks_last (l := l ++ [59])
      rw [hl1] at this
      exact this
    rw [vToks_tok (Nat.zero_le _) (by rw [hs]; omega) (by rw [hs]; exact hv), vToks_tok (by rw [hl1]; omega) (by rw [hs2, hl1]; omega) (by rw [hs2]; exact hv2), hend, hs, hs2]
def saidW (l : List UInt8) : Bool := decide (vLex l = ([(2, 0, l, 0), (6, l.length, [], 0)], 0, 0)) && decide (vLex (l ++ [59]) = ([(2, 0, l, 0), (5, l.length, [59], 0), (6, l.length + 1, [], 0)], 0, 0)) && !isName ⟨l.toArray⟩
theorem said_all : wordsL.all saidW = true := by decide +kernel
theorem said_words (l : List UInt8) (hl : l ∈ wordsL) : (vLex l = ([(2, 0, l, 0), (6, l.length, [], 0)], 0, 0) ∧ vLex (l ++ [59]) = ([(2, 0, l, 0), (5, l.length, [59], 0), (6, l.length + 1, [], 0)], 0, 0)) ∧ isName ⟨l.toArray⟩ = false := by
  have h := List.all_eq_true.1 said_all l hl
  unfold saidW at h
  simp only [Bool.and_eq_true, decide_eq_true_eq, Bool.not_eq_true'] at h
  exact h
theorem said_word {l : List UInt8} (h : isWord l = true) : (vLex l = ([(2, 0, l, 0), (6, l.length, [], 0)], 0, 0) ∧ vLex (l ++ [59]) = ([(2, 0, l, 0), (5, l.length, [59], 0), (6, l.length + 1, [], 0)], 0, 0)) ∧ isName ⟨l.toArray⟩ = false :=
  said_words l (of_decide_eq_true h)
theorem vTake_name1 {l : List UInt8} {p : Nat} {t : List UInt8} {n : Int} {m : Nat} (h : vTake l p = .inl (1, t, n, m)) : isName ⟨t.toArray⟩ = true := by
  cases hl : l[p]? with
  | none => unfold vTake at h; rw [hl] at h; cases h
  | some c =>
    rw [vTake_kind hl] at h
    split at h
    · unfold vName at h
      simp only at h
      split at h
      · simp at h
      · split at h
        · simp only [Sum.inl.injEq, Prod.mk.injEq] at h
          rw [← h.2.1]; assumption
        · cases h
    · split at h
      · unfold vNumber at h
        simp only at h
        split at h <;> simp at h
      · split at h
        · unfold vText at h
          simp only at h
          split at h <;> simp at h
        · unfold vSign at h
          split at h <;> simp at h
theorem said_no {l : List UInt8} (hn : isName ⟨l.toArray⟩ = false) {x y : VTok} (h : vLex l = ([x, y], 0, 0)) : x.1 ≠ 1 ∨ x.2.2.1 ≠ l := by
  by_cases h1 : x.1 = 1
  · right
    intro h2
    unfold vLex at h
    split at h
    · simp at h
    · cases ht : (vToks l 0).2 with
      | some e => rw [ht] at h; simp at h
      | none =>
        rw [ht] at h
        simp only [Prod.mk.injEq, and_true] at h
        by_cases hs : skipB l 0 < l.length
        · cases hv : vTake l (skipB l 0) with
          | inr e => rw [vToks_err (Nat.zero_le _) hs hv] at h; simp at h
          | inl r =>
            obtain ⟨kd, t, n, m⟩ := r
            rw [vToks_tok (Nat.zero_le _) hs hv] at h
            simp only [List.cons.injEq] at h
            rw [← h.1] at h1 h2
            simp only at h1 h2
            subst h1 h2
            rw [vTake_name1 hv] at hn
            cases hn
        · rw [vToks_end (Nat.zero_le _) hs] at h
          simp at h
  · exact .inl h1
end Go.Proofs.YteeldajkfplomaaDoor
