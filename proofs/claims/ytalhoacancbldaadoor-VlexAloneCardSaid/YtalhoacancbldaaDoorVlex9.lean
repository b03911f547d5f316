/- The tokens of a row of bytes, told plainly. -/
import Derived.Test.YtalhoacancbldaaDoorVlex8
import Derived.Test.YtalhoacancbldaaDoorTok
namespace Go.Proofs.YtalhoacancbldaaDoor
set_option linter.unusedVariables false
set_option linter.unusedSimpArgs false
open Go.RowKit

def vTake (l : List UInt8) (p : Nat) : VRes :=
  match l[p]? with
  | some c => if isLetter c then vName l p else if isDig c then vNumber l p else if c.toNat = 34 then vText l p else vSign l p
  | none => .inr (0, 0)
theorem wholeS_more {l : List UInt8} {st st' : NSt} (h : wholeS l st = (st', none)) : st.pos < st'.pos := by
  unfold wholeS at h
  split at h
  · simp only [Prod.mk.injEq] at h; rw [← h.1]; exact Nat.lt_succ_self _
  · unfold rowS at h
    split at h
    · simp at h
    · rename_i hd
      simp only [Prod.mk.injEq] at h
      rw [← h.1]
      have : 0 < (digs l st.pos).length := List.length_pos_iff.2 hd
      show st.pos < st.pos + _
      omega
theorem numRead_more {l : List UInt8} {a : Nat} (h : (numRead l a).2.2 = 0) : ∃ m : Nat, (numRead l a).2.1 = m ∧ a < m ∧ m ≤ l.length := by
  obtain ⟨m, h1, _, h3⟩ := numRead_ok h
  refine ⟨m, h1, ?_, h3⟩
  unfold numRead at h h1
  split at h
  · simp at h
  · rename_i hin
    rw [if_neg hin] at h1
    rw [Int.toNat_natCast] at h h1
    obtain ⟨⟨st, q⟩, hq⟩ : ∃ r, numRun l (numStart a) = r := ⟨_, rfl⟩
    rw [hq] at h h1
    cases q with
    | some p => simp at h
    | none =>
      simp only at h h1
      unfold numEnd at h h1
      split at h
      · simp at h
      · rename_i h2
        rw [if_neg h2] at h1
        have hm : st.pos = m := by simp at h1; omega
        rw [← hm]
        unfold numRun at hq
        have ha : a ≤ l.length := by omega
        obtain ⟨⟨s1, r1⟩, e1⟩ : ∃ r, stepK 0 l (numStart a) = r := ⟨_, rfl⟩
        have b1 := stepK_ge e1
        have c1 := stepK_le e1 ha (by show 0 < _; omega)
        have hr1 : r1 = none := by
          have : (stepK 0 l (numStart a)).2 = none := rfl
          rw [e1] at this; exact this
        subst hr1
        rw [runK_none e1] at hq
        obtain ⟨⟨s2, r2⟩, e2⟩ : ∃ r, stepK 1 l s1 = r := ⟨_, rfl⟩
        cases r2 with
        | some x => rw [runK_some e2] at hq; simp at hq
        | none =>
          have b2 := wholeS_more (l := l) (st := s1) (st' := s2) e2
          have c2 := stepK_le e2 c1.1 c1.2
          rw [runK_none e2] at hq
          have b3 := runK_in hq c2.1 c2.2
          have : (numStart a).pos = a := rfl
          omega
theorem firstAt_mem {l : List UInt8} {p : Nat} : ∀ {ss : List (List UInt8)} {s : List UInt8}, firstAt l p ss = some s → s ∈ ss ∧ standsAt l p s = true
  | [], s, h => by cases h
  | x :: r, s, h => by
    unfold firstAt at h
    split at h
    · rename_i hx; cases h; exact ⟨List.mem_cons_self, hx⟩
    · have := firstAt_mem h; exact ⟨List.mem_cons_of_mem _ this.1, this.2⟩
/-- a token that is taken ends behind its place, within the row -/
theorem vTake_ok {l : List UInt8} {p : Nat} {k n : Int} {t : List UInt8} {m : Nat} (hp : p < l.length) (h : vTake l p = .inl (k, t, n, m)) : p < m ∧ m ≤ l.length := by
  unfold vTake at h
  rw [List.getElem?_eq_getElem hp] at h
  simp only at h
  split at h
  · rename_i hc
    have hld : isLD l[p] = true := by rw [isLD, hc]; rfl
    have ht := ld_step (List.getElem?_eq_getElem hp) hld
    have hlen : ((l.drop p).takeWhile isLD).length ≤ l.length - p := by
      have := (List.takeWhile_sublist isLD (l := l.drop p)).length_le
      simpa using this
    have hpos : 0 < ((l.drop p).takeWhile isLD).length := by rw [ht]; simp
    unfold vName at h
    simp only at h
    split at h
    · simp only [Sum.inl.injEq, Prod.mk.injEq] at h; omega
    · split at h
      · simp only [Sum.inl.injEq, Prod.mk.injEq] at h; omega
      · cases h
  · split at h
    · unfold vNumber at h
      simp only at h
      split at h
      · rename_i he
        obtain ⟨m', h1, h2, h3⟩ := numRead_more he
        simp only [Sum.inl.injEq, Prod.mk.injEq] at h
        rw [h1] at h; simp only [Int.toNat_natCast] at h; omega
      · cases h
    · split at h
      · unfold vText at h
        simp only at h
        split at h
        · rename_i he
          obtain ⟨m', h1, h2, h3⟩ := qRead_ok he
          simp only [Sum.inl.injEq, Prod.mk.injEq] at h
          rw [h1] at h; simp only [Int.toNat_natCast] at h; omega
        · cases h
      · unfold vSign at h
        cases hf : firstAt l p signsT with
        | none => rw [hf] at h; cases h
        | some s =>
          rw [hf] at h
          simp only [Sum.inl.injEq, Prod.mk.injEq] at h
          obtain ⟨hmem, hst⟩ := firstAt_mem hf
          have h1 : 1 ≤ s.length := by
            have : ∀ x ∈ signsT, 1 ≤ x.length := by decide
            exact this s hmem
          unfold standsAt at hst
          have h2 := congrArg List.length (of_decide_eq_true hst)
          simp at h2
          omega
/-- the tokens from a place on, and how they end: a place and an error, or well -/
def vRun (l : List UInt8) : Nat → Nat → List VTok × Option (Int × Int)
  | 0, _ => ([], none)
  | k + 1, p =>
    if skipB l p < l.length then
      match vTake l (skipB l p) with
      | .inl (kd, t, n, m) => ((kd, skipB l p, t, n) :: (vRun l k m).1, (vRun l k m).2)
      | .inr e => ([], some e)
    else ([(6, l.length, [], 0)], none)
theorem vRun_more (l : List UInt8) : ∀ (k k' p : Nat), l.length - p < k → l.length - p < k' → vRun l k p = vRun l k' p
  | 0, _, _, h, _ => by omega
  | _, 0, _, _, h => by omega
  | k + 1, k' + 1, p, h, h' => by
    unfold vRun
    split
    · rename_i hq
      cases hv : vTake l (skipB l p) with
      | inr e => rfl
      | inl r =>
        obtain ⟨kd, t, n, m⟩ := r
        have := vTake_ok hq hv
        have hg := skipB_ge l p
        simp only
        rw [vRun_more l k k' m (by omega) (by omega)]
    · rfl
def vToks (l : List UInt8) (p : Nat) : List VTok × Option (Int × Int) := vRun l (l.length + 1 - p) p
theorem vToks_end {l : List UInt8} {p : Nat} (hp : p ≤ l.length) (h : ¬ skipB l p < l.length) : vToks l p = ([(6, l.length, [], 0)], none) := by
  unfold vToks
  obtain ⟨k, hk⟩ : ∃ k, l.length + 1 - p = k + 1 := ⟨l.length - p, by omega⟩
  rw [hk, vRun, if_neg h]
theorem vToks_err {l : List UInt8} {p : Nat} (hp : p ≤ l.length) (h : skipB l p < l.length) {e : Int × Int} (hv : vTake l (skipB l p) = .inr e) : vToks l p = ([], some e) := by
  unfold vToks
  obtain ⟨k, hk⟩ : ∃ k, l.length + 1 - p = k + 1 := ⟨l.length - p, by omega⟩
  rw [hk, vRun, if_pos h, hv]
theorem vToks_tok {l : List UInt8} {p : Nat} (hp : p ≤ l.length) (h : skipB l p < l.length) {kd n : Int} {t : List UInt8} {m : Nat} (hv : vTake l (skipB l p) = .inl (kd, t, n, m)) :
    vToks l p = ((kd, skipB l p, t, n) :: (vToks l m).1, (vToks l m).2) := by
  unfold vToks
  obtain ⟨k, hk⟩ : ∃ k, l.length + 1 - p = k + 1 := ⟨l.length - p, by omega⟩
  have h1 := vTake_ok h hv
  have h2 := skipB_ge l p
  rw [hk, vRun, if_pos h, hv]
  simp only
  rw [vRun_more l k (l.length + 1 - m) m (by omega) (by omega)]
def kindC (c : UInt8) : Nat := if isLetter c then 0 else if isDig c then 1 else if c.toNat = 34 then 2 else 3
theorem vTake_kind {l : List UInt8} {p : Nat} {c : UInt8} (h : l[p]? = some c) : vTake l p = if kindC c = 0 then vName l p else if kindC c = 1 then vNumber l p else if kindC c = 2 then vText l p else vSign l p := by
  unfold vTake kindC
  rw [h]
  simp only
  by_cases h1 : isLetter c = true
  · simp [h1]
  · by_cases h2 : isDig c = true
    · simp [h1, h2]
    · by_cases h3 : c.toNat = 34
      · simp [h1, h2, h3]
      · simp [h1, h2, h3]
/-- what a taken token leaves: its cells, the place and the error of the reader -/
def tokR (r : VRes) (p : Nat) : Int × Int × ByteArray × Int × Int × Int :=
  match r with
  | .inl (k, t, n, m) => (k, p, ⟨t.toArray⟩, n, m, 0)
  | .inr (q, er) => (0, 0, ⟨#[]⟩, 0, q, er)
theorem TokPost.uni {r : VRes} {p : Nat} {w : World} {g : Nat} {A : Option Addr} {cap : Nat} {l : List UInt8} {e : Ending} {w' : World} (h : TokPost r p w g A cap l e w') :
    e = .returned (tokV (tokR r p).1 (tokR r p).2.1 (tokR r p).2.2.1 (tokR r p).2.2.2.1) ∧ VStep w g A cap l (tokR r p).2.2.2.2.1 (tokR r p).2.2.2.2.2 w' := by
  unfold TokPost at h
  unfold tokR
  rcases r with ⟨k, t, n, m⟩ | ⟨q, er⟩
  · exact h
  · exact h
theorem vTake_err {l : List UInt8} {p : Nat} (hp : p < l.length) {q er : Int} (h : vTake l p = .inr (q, er)) : er ≠ 0 := by
  obtain ⟨c, hc⟩ : ∃ c, l[p]? = some c := ⟨_, List.getElem?_eq_getElem hp⟩
  rw [vTake_kind hc] at h
  split at h
  · unfold vName at h
    simp only at h
    split at h
    · cases h
    · split at h
      · cases h
      · simp only [Sum.inr.injEq, Prod.mk.injEq] at h; omega
  · split at h
    · unfold vNumber at h
      simp only at h
      split at h
      · cases h
      · rename_i hn; simp only [Sum.inr.injEq, Prod.mk.injEq] at h; rw [← h.2]; exact hn
    · split at h
      · unfold vText at h
        simp only at h
        split at h
        · cases h
        · rename_i hn; simp only [Sum.inr.injEq, Prod.mk.injEq] at h; rw [← h.2]; exact hn
      · unfold vSign at h
        split at h
        · cases h
        · simp only [Sum.inr.injEq, Prod.mk.injEq] at h; omega
theorem kindC_le (c : UInt8) : kindC c ≤ 3 := by unfold kindC; (repeat' split) <;> omega
theorem kind_0 {c : UInt8} (h : kindC c = 0) : isLetter c = true := by
  unfold kindC at h
  split at h
  · assumption
  · (repeat' split at h) <;> omega
theorem kind_0n {c : UInt8} (h : ¬ kindC c = 0) : isLetter c = false := by
  unfold kindC at h
  split at h
  · omega
  · rename_i hn; simpa using hn
theorem kind_1 {c : UInt8} (h : kindC c = 1) : isDig c = true := by
  unfold kindC at h
  split at h
  · omega
  · split at h
    · assumption
    · split at h <;> omega
theorem kind_1n {c : UInt8} (h : ¬ kindC c = 1) (h0 : ¬ kindC c = 0) : isDig c = false := by
  have h2 := kind_0n h0
  unfold kindC at h
  rw [h2, if_neg (by simp)] at h
  split at h
  · exact absurd rfl h
  · rename_i hn; simpa using hn
theorem kind_2 {c : UInt8} (h : kindC c = 2) : decide (c.toNat = 34) = true := by
  unfold kindC at h
  split at h
  · omega
  · split at h
    · omega
    · split at h
      · simpa
      · omega
theorem kind_2n {c : UInt8} (h : ¬ kindC c = 2) (h0 : ¬ kindC c = 0) (h1 : ¬ kindC c = 1) : decide (c.toNat = 34) = false := by
  have h3 := kind_0n h0
  have h4 := kind_1n h1 h0
  unfold kindC at h
  rw [h3, h4] at h
  rw [decide_eq_false_iff_not]
  intro e
  rw [if_neg (by simp), if_neg (by simp), if_pos e] at h
  exact h rfl
/-- one contract for the four ways of taking a token -/
theorem take_uni {fk : Nat} {g : Nat} {A : Option Addr} {cap : Nat} {l : List UInt8} {q : Nat} (r : VRes) (h : ∀ W, GOK W → VB W g A cap l q 0 → Calls Tryd.prog fk #[.pointer (some ⟨g, 0, none⟩)] W (TokPost r q W g A cap l)) :
    ∃ (a bb : Int) (s : ByteArray) (d m y : Int), (a, bb, s, d, m, y) = tokR r q ∧ ∀ W, GOK W → VB W g A cap l q 0 → Calls Tryd.prog fk #[.pointer (some ⟨g, 0, none⟩)] W fun e w' =>
      e = .returned (.agg #[.int .i64 a, .int .i64 bb, .string s, .int .i64 d]) ∧ VStep W g A cap l m y w' :=
  ⟨_, _, _, _, _, _, rfl, fun W hG hV => (h W hG hV).mono fun _ _ hp => hp.uni⟩
end Go.Proofs.YtalhoacancbldaaDoor
