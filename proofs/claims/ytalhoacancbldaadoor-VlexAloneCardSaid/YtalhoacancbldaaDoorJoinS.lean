/- Plain: rows of bytes that are moved; the tokens of two rows that a blank joins. -/
import Derived.Test.YtalhoacancbldaaDoorJoinP
namespace Go.Proofs.YtalhoacancbldaaDoor
set_option linter.unusedVariables false
set_option linter.unusedSimpArgs false
open Go.RowKit

section Shift
variable {a l : List UInt8}
theorem drop_shift (p : Nat) : (a ++ l).drop (a.length + p) = l.drop p := by rw [← List.drop_drop, List.drop_left]
theorem get_shift (p : Nat) : (a ++ l)[a.length + p]? = l[p]? := by rw [List.getElem?_append_right (Nat.le_add_right _ _), Nat.add_sub_cancel_left]
theorem sees_shift (p : Nat) (x : List UInt8) : seesB (a ++ l) (a.length + p) x = seesB l p x := by unfold seesB; rw [get_shift]
theorem digs_shift (p : Nat) : digs (a ++ l) (a.length + p) = digs l p := by unfold digs; rw [drop_shift]
def shN (A : Nat) (st : NSt) : NSt := { st with pos := A + st.pos }
def shR (A : Nat) (r : NSt × Option Nat) : NSt × Option Nat := (shN A r.1, r.2.map (A + ·))
theorem growAll_sh (A : Nat) : ∀ (ds : List UInt8) (st : NSt), growAll ds (shN A st) = shN A (growAll ds st)
  | [], _ => rfl
  | c :: ds, st => by
    show growAll ds (growS (dval c) (shN A st)) = shN A (growAll ds (growS (dval c) st))
    rw [← growAll_sh A ds]; rfl
theorem takeS_sh (x : List UInt8) (st : NSt) : takeS x (a ++ l) (shN a.length st) = shN a.length (takeS x l st) := by
  unfold takeS
  have : (shN a.length st).pos = a.length + st.pos := rfl
  rw [this, sees_shift]
  split
  · unfold shN; simp only [Nat.add_assoc]
  · rfl
theorem rowS_sh (gr : Bool) (st : NSt) : rowS gr (a ++ l) (shN a.length st) = shR a.length (rowS gr l st) := by
  unfold rowS
  have : (shN a.length st).pos = a.length + st.pos := rfl
  rw [this, digs_shift]
  split
  · rfl
  · unfold shR digS
    cases gr with
    | false => simp [shN, Nat.add_assoc]
    | true => simp only [growAll_sh, if_true]; simp [shN, Nat.add_assoc]
theorem stepK_sh (k : Nat) (st : NSt) : stepK k (a ++ l) (shN a.length st) = shR a.length (stepK k l st) := by
  have hp : (shN a.length st).pos = a.length + st.pos := rfl
  rcases k with _ | _ | _ | k
  · show signS _ _ = shR _ (signS _ _)
    unfold signS; rw [takeS_sh, hp, sees_shift]; rfl
  · show wholeS _ _ = shR _ (wholeS _ _)
    unfold wholeS; rw [hp, sees_shift, rowS_sh]
    split
    · simp [shR, shN, Nat.add_assoc]
    · rfl
  · show fracS _ _ = shR _ (fracS _ _)
    unfold fracS; rw [hp, sees_shift]
    split
    · rw [← rowS_sh]; rfl
    · rfl
  · show expS _ _ = shR _ (expS _ _)
    unfold expS; rw [hp, sees_shift]
    split
    · rw [← rowS_sh, ← takeS_sh]; rfl
    · rfl
theorem runK_sh : ∀ (ks : List Nat) (st : NSt), runK (a ++ l) ks (shN a.length st) = shR a.length (runK l ks st)
  | [], _ => rfl
  | k :: ks, st => by
    obtain ⟨⟨s1, r1⟩, e1⟩ : ∃ r, stepK k l st = r := ⟨_, rfl⟩
    have e2 : stepK k (a ++ l) (shN a.length st) = shR a.length (s1, r1) := by rw [stepK_sh, e1]
    cases r1 with
    | none => rw [runK_none e1, runK_none (st' := shN a.length s1) e2]; exact runK_sh ks s1
    | some q => rw [runK_some e1, runK_some (p := a.length + q) (st' := shN a.length s1) e2]; rfl
theorem numRead_shift {p : Nat} (hp : p ≤ l.length) : numRead (a ++ l) ((a.length + p : Nat) : Int) = ((numRead l p).1, (a.length : Int) + (numRead l p).2.1, (numRead l p).2.2) := by
  unfold numRead
  rw [if_neg (by simp; omega), if_neg (by omega), Int.toNat_natCast, Int.toNat_natCast]
  have e : numRun (a ++ l) (numStart (a.length + p)) = shR a.length (numRun l (numStart p)) := runK_sh [0, 1, 2, 3] (numStart p)
  rw [e]
  obtain ⟨⟨st, q⟩, hq⟩ : ∃ r, numRun l (numStart p) = r := ⟨_, rfl⟩
  rw [hq]
  cases q with
  | some q => simp [shR]
  | none =>
    show numEnd (shN a.length st) _ = ((numEnd st (p : Int)).1, (a.length : Int) + (numEnd st (p : Int)).2.1, (numEnd st (p : Int)).2.2)
    unfold numEnd
    show (if (st.part || st.over || decide (numBig st.minus < st.size)) = true then _ else _) = _
    split
    · simp
    · simp [shN]; rfl
def shV (A : Nat) : VRes → VRes
  | .inl (k, t, n, m) => .inl (k, t, n, A + m)
  | .inr (q, e) => .inr ((A : Int) + q, e)
theorem vNumber_shift {p : Nat} (hp : p ≤ l.length) : vNumber (a ++ l) (a.length + p) = shV a.length (vNumber l p) := by
  unfold vNumber
  simp only
  rw [numRead_shift hp, drop_shift]
  split
  · rename_i h
    obtain ⟨m, h1, h2, h3⟩ := numRead_more (show (numRead l p).2.2 = 0 from h)
    rw [h1]
    unfold shV
    simp only [Int.toNat_natCast, Sum.inl.injEq, Prod.mk.injEq, true_and]
    refine ⟨?_, ?_⟩
    · congr 1; omega
    · omega
  · rfl
theorem vName_shift (p : Nat) : vName (a ++ l) (a.length + p) = shV a.length (vName l p) := by
  unfold vName
  simp only
  rw [drop_shift]
  split
  · simp [shV, Nat.add_assoc]
  · split
    · simp [shV, Nat.add_assoc]
    · simp [shV]
theorem firstAt_shift (p : Nat) : ∀ xs : List (List UInt8), firstAt (a ++ l) (a.length + p) xs = firstAt l p xs
  | [] => rfl
  | x :: xs => by unfold firstAt standsAt; rw [drop_shift, firstAt_shift p xs]
theorem vSign_shift (p : Nat) : vSign (a ++ l) (a.length + p) = shV a.length (vSign l p) := by
  unfold vSign
  rw [firstAt_shift]
  cases firstAt l p signsT with
  | none => simp [shV]
  | some s => simp [shV, Nat.add_assoc]
theorem unitO_shift (p : Nat) : unitO (a ++ l) (a.length + p) = unitO l p := by
  have e : ((a ++ l).length < a.length + p + 6 ∨ (a ++ l)[a.length + p]? ≠ some 92 ∨ (a ++ l)[a.length + p + 1]? ≠ some 117) ↔ (l.length < p + 6 ∨ l[p]? ≠ some 92 ∨ l[p + 1]? ≠ some 117) := by
    rw [show a.length + p + 1 = a.length + (p + 1) from rfl, get_shift, get_shift, show ((a ++ l).length < a.length + p + 6) ↔ (l.length < p + 6) from by simp; omega]
  unfold unitO
  rw [show a.length + p + 2 = a.length + (p + 2) from rfl, drop_shift]
  by_cases hc : l.length < p + 6 ∨ l[p]? ≠ some 92 ∨ l[p + 1]? ≠ some 117
  · rw [if_pos hc, if_pos (e.2 hc)]
  · rw [if_neg hc, if_neg (fun h => hc (e.1 h))]
def shQ (A : Nat) (r : Int × Int × Int) : Int × Int × Int := if r.2.2 = 0 then (r.1, (A : Int) + r.2.1, 0) else r
theorem escS_shift (p : Nat) : escS (a ++ l) (a.length + p) = shQ a.length (escS l p) := by
  unfold escS
  rw [unitO_shift, show a.length + p + 6 = a.length + (p + 6) from rfl, unitO_shift, show a.length + p + 1 = a.length + (p + 1) from rfl, get_shift]
  cases unitO l p with
  | some u =>
    simp only
    split
    · simp [shQ]; omega
    · split
      · cases unitO l (p + 6) with
        | none => rfl
        | some v =>
          simp only
          split
          · simp [shQ]; omega
          · rfl
      · rfl
  | none =>
    simp only
    cases l[p + 1]? with
    | none => rfl
    | some c =>
      simp only
      cases letterS c.toNat with
      | none => rfl
      | some x => simp [shQ]; omega
theorem qsS_shift {p : Nat} (hp : p < l.length) : qsS (a ++ l) (a.length + p) = shQ a.length (qsS l p) := by
  unfold qsS
  rw [get_shift, escS_shift, nextR_in (show a.length + p < (a ++ l).length by simp; omega), nextR_in hp, drop_shift]
  cases hc : l[p]? with
  | none => exact absurd hp (by simpa using hc)
  | some c =>
    simp only
    split
    · rfl
    · split
      · rfl
      · split
        · rfl
        · simp [shQ]; omega
def shX (A : Nat) (x : Int × Int) : Int × Int := (x.1, (A : Int) + x.2)
theorem signsL_shift : ∀ (k p : Nat), l.length - p ≤ k → p ≤ l.length → signsL (a ++ l) (a.length + p) = (signsL l p).map (shX a.length) ∧ qEnd (a.length + p) ((signsL l p).map (shX a.length)) = a.length + qEnd p (signsL l p)
  | k, p, hk, hp => by
    by_cases hc : p < l.length ∧ (qsS l p).2.2 = 0
    · obtain ⟨c, m, h1, h2, h3, h4, h5⟩ := qs_ok (c := (qsS l p).1) (n := (qsS l p).2.1) (by rw [← hc.2]) hc.1
      have he : qsS l p = ((c : Int), (m : Int), 0) := by rw [← h1, ← h2, ← hc.2]
      have he2 : qsS (a ++ l) (a.length + p) = ((c : Int), ((a.length + m : Nat) : Int), 0) := by rw [qsS_shift hc.1, he]; simp [shQ]
      rw [signsL_cons he hc.1, signsL_cons he2 (by simp; omega)]
      match k, hk with
      | 0, hk => omega
      | k + 1, hk =>
        obtain ⟨i1, i2⟩ := signsL_shift k m (by omega) h4
        rw [i1, List.map_cons, qEnd_cons, qEnd_cons]
        refine ⟨by simp [shX], ?_⟩
        have e : (shX a.length ((c : Int), (m : Int))).2.toNat = a.length + m := by simp [shX]; omega
        rw [e, i2]; simp
    · have hn : signsL l p = [] := signsL_nil (fun h e => hc ⟨h, e⟩)
      rw [hn]
      refine ⟨signsL_nil (fun h => ?_), rfl⟩
      have hlt : p < l.length := by simp at h; omega
      rw [qsS_shift hlt]
      have hne : ¬ (qsS l p).2.2 = 0 := fun e => hc ⟨hlt, e⟩
      unfold shQ
      rw [if_neg hne]; exact hne
theorem qBytes_sh (A : Nat) : ∀ xs : List (Int × Int), qBytes (xs.map (shX A)) = qBytes xs
  | [] => rfl
  | x :: xs => by
    show cpBytes _ ++ qBytes (xs.map (shX A)) = cpBytes _ ++ qBytes xs
    rw [qBytes_sh A xs]; rfl
theorem qSign_shift {p : Nat} (hp : p ≤ l.length) : (qSign (a ++ l) ((a.length + p : Nat) : Int)).2.2 = (qSign l (p : Int)).2.2 := by
  rcases Nat.lt_or_eq_of_le hp with h | h
  · rw [qSign_in (show a.length + p < (a ++ l).length by simp; omega), qSign_in h, qsS_shift h]
    unfold shQ
    split
    · rename_i e; exact e.symm
    · rfl
  · subst h
    unfold qSign
    rw [if_neg (by rw [List.length_append]; omega), if_pos (by rw [List.length_append]), if_neg (by omega), if_pos rfl]
theorem qRead_shift {p : Nat} (hp : p < l.length) : qRead (a ++ l) ((a.length + p : Nat) : Int) = ((qRead l p).1, (a.length : Int) + (qRead l p).2.1, (qRead l p).2.2) := by
  rw [qRead_in (show a.length + p < (a ++ l).length by simp; omega), qRead_in hp, get_shift]
  obtain ⟨i1, i2⟩ := signsL_shift (a := a) (l := l) _ (p + 1) (Nat.le_refl _) (by omega)
  have hle := qEnd_in (l := l) (a := p + 1) (by omega)
  rw [show a.length + p + 1 = a.length + (p + 1) from rfl, i1, i2, get_shift, qBytes_sh, qSign_shift hle]
  split
  · simp
  · split
    · simp; omega
    · simp
theorem vText_shift {p : Nat} (hp : p < l.length) : vText (a ++ l) (a.length + p) = shV a.length (vText l p) := by
  unfold vText
  simp only
  rw [qRead_shift hp]
  split
  · rename_i h
    obtain ⟨m, h1, h2, h3⟩ := qRead_ok (show (qRead l p).2.2 = 0 from h)
    rw [h1]
    unfold shV
    simp only [Int.toNat_natCast, Sum.inl.injEq, Prod.mk.injEq, true_and]
    omega
  · rfl
theorem vTake_shift {p : Nat} (hp : p < l.length) : vTake (a ++ l) (a.length + p) = shV a.length (vTake l p) := by
  unfold vTake
  rw [get_shift, vName_shift, vNumber_shift (Nat.le_of_lt hp), vText_shift hp, vSign_shift]
  cases hc : l[p]? with
  | none => exact absurd hp (by simpa using hc)
  | some c =>
    simp only
    split
    · rfl
    · split
      · rfl
      · split <;> rfl
theorem skipB_shift (p : Nat) : skipB (a ++ l) (a.length + p) = a.length + skipB l p := by
  unfold skipB; rw [drop_shift, Nat.add_assoc]
theorem vToks_shift : ∀ (k p : Nat), l.length + 1 - p ≤ k → p ≤ l.length → vToks (a ++ l) (a.length + p) = ((vToks l p).1.map (movT a.length), (vToks l p).2.map fun e => ((a.length : Int) + e.1, e.2))
  | k, p, hk, hp => by
    have hs := skipB_shift (a := a) (l := l) p
    have hp2 : a.length + p ≤ (a ++ l).length := by simp; omega
    by_cases h : skipB l p < l.length
    · have h2 : skipB (a ++ l) (a.length + p) < (a ++ l).length := by rw [hs]; simp; omega
      have hv2 := vTake_shift (a := a) h
      rw [← hs] at hv2
      cases hv : vTake l (skipB l p) with
      | inr e =>
        rw [hv] at hv2
        rw [vToks_err hp h hv, vToks_err hp2 h2 hv2]; rfl
      | inl r =>
        obtain ⟨kd, t, n, m⟩ := r
        rw [hv] at hv2
        have hm := vTake_ok h hv
        have hg := skipB_ge l p
        rw [vToks_tok hp h hv, vToks_tok hp2 h2 hv2]
        match k, hk with
        | 0, hk => omega
        | k + 1, hk =>
          rw [vToks_shift k m (by omega) hm.2, hs]
          simp [movT, Nat.add_comm]
    · rw [vToks_end hp h, vToks_end hp2 (by rw [hs]; simp; omega)]
      simp [movT, Nat.add_comm]
end Shift
theorem tw_lt {f : UInt8 → Bool} {v : List UInt8} : ∀ {u : List UInt8}, (u.takeWhile f).length < u.length → (u ++ v).takeWhile f = u.takeWhile f
  | [], h => by simp at h
  | c :: r, h => by
    rw [List.takeWhile_cons] at h
    rw [List.cons_append, List.takeWhile_cons, List.takeWhile_cons]
    split
    · rename_i hc
      rw [if_pos hc] at h
      rw [tw_lt (by simpa using h)]
    · rfl
theorem tw_whole {f : UInt8 → Bool} {v : List UInt8} : ∀ {u : List UInt8}, ¬ (u.takeWhile f).length < u.length → (u ++ v).takeWhile f = u ++ v.takeWhile f
  | [], h => rfl
  | c :: r, h => by
    rw [List.takeWhile_cons] at h
    rw [List.cons_append, List.takeWhile_cons]
    split
    · rename_i hc
      rw [if_pos hc] at h
      rw [tw_whole (by simpa using h)]; rfl
    · rename_i hc
      rw [if_neg hc] at h
      simp at h
theorem vToks_skip {l : List UInt8} {p p' : Nat} (hp : p ≤ l.length) (hp' : p' ≤ l.length) (h : skipB l p = skipB l p') : vToks l p = vToks l p' := by
  by_cases hq : skipB l p < l.length
  · have hq' : skipB l p' < l.length := by rw [← h]; exact hq
    cases hv : vTake l (skipB l p) with
    | inr e => rw [vToks_err hp hq hv, vToks_err hp' hq' (by rw [← h]; exact hv)]
    | inl r =>
      obtain ⟨kd, t, n, m⟩ := r
      rw [vToks_tok hp hq hv, vToks_tok hp' hq' (by rw [← h]; exact hv), h]
  · rw [vToks_end hp hq, vToks_end hp' (by rw [← h]; exact hq)]
theorem skipB_in {s : List UInt8} {p : Nat} : skipB s p < s.length ↔ p ≤ s.length ∧ ((s.drop p).takeWhile isBlankB).length < (s.drop p).length := by
  unfold skipB; simp; omega
/-- the tokens of two rows that a blank joins -/
theorem vToks_join {s t : List UInt8} {b : UInt8} (hb : isBlankB b = true) : ∀ (k p : Nat), s.length + 1 - p ≤ k → p ≤ s.length →
    ((vToks s p).2 = none → ∃ pre, (vToks s p).1 = pre ++ [(6, s.length, [], 0)] ∧
      vToks (s ++ b :: t) p = (pre ++ (vToks t 0).1.map (movT (s.length + 1)), (vToks t 0).2.map fun e => (((s.length + 1 : Nat) : Int) + e.1, e.2))) ∧
    (∀ e, (vToks s p).2 = some e → e.2 ≠ 6 → (vToks (s ++ b :: t) p).2 = some e)
  | k, p, hk, hp => by
    have hp2 : p ≤ (s ++ b :: t).length := by simp; omega
    by_cases h : skipB s p < s.length
    · have hs : skipB (s ++ b :: t) p = skipB s p := by
        have := (skipB_in.1 h).2
        unfold skipB
        rw [drop_join hp, tw_lt this]
      have h2 : skipB (s ++ b :: t) p < (s ++ b :: t).length := by rw [hs]; simp; omega
      cases hv : vTake s (skipB s p) with
      | inr e =>
        rw [vToks_err hp h hv]
        refine ⟨fun hn => (by cases hn), fun e' he' hne => ?_⟩
        obtain rfl : e = e' := Option.some.inj he'
        have hv2 := vTake_join (t := t) hb h hv (fun q hq => hne (by rw [Sum.inr.inj hq]))
        rw [← hs] at hv2
        rw [vToks_err hp2 h2 hv2]
      | inl r =>
        obtain ⟨kd, x, n, m⟩ := r
        have hv2 := vTake_join (t := t) hb h hv (fun q hq => by cases hq)
        rw [← hs] at hv2
        have hm := vTake_ok h hv
        have hg := skipB_ge s p
        match k, hk with
        | 0, hk => omega
        | k + 1, hk =>
          obtain ⟨i1, i2⟩ := vToks_join (t := t) hb k m (by omega) hm.2
          rw [vToks_tok hp h hv, vToks_tok hp2 h2 hv2, hs]
          refine ⟨fun hn => ?_, i2⟩
          obtain ⟨pre, j1, j2⟩ := i1 hn
          exact ⟨(kd, skipB s p, x, n) :: pre, by simp [j1], by simp [j2]⟩
    · have hw : ¬ ((s.drop p).takeWhile isBlankB).length < (s.drop p).length := fun e => h (skipB_in.2 ⟨hp, e⟩)
      rw [vToks_end hp h]
      refine ⟨fun _ => ⟨[], rfl, ?_⟩, fun e he => by cases he⟩
      have e2 : s ++ b :: t = (s ++ [b]) ++ t := by simp
      have el : (s ++ [b]).length = s.length + 1 := by simp
      have hsk : skipB (s ++ b :: t) p = s.length + 1 + skipB t 0 := by
        unfold skipB
        rw [drop_join hp, tw_whole hw, List.takeWhile_cons, if_pos hb]
        simp; omega
      have hsk2 : skipB (s ++ b :: t) (s.length + 1) = s.length + 1 + skipB t 0 := by
        have := skipB_shift (a := s ++ [b]) (l := t) 0
        rw [el, ← e2] at this
        exact this
      rw [vToks_skip hp2 (show s.length + 1 ≤ (s ++ b :: t).length by simp) (by rw [hsk, hsk2])]
      have := vToks_shift (a := s ++ [b]) (l := t) _ 0 (Nat.le_refl _) (by omega)
      rw [el, ← e2] at this
      rw [show s.length + 1 = s.length + 1 + 0 from rfl, this]
      simp
theorem vRun_err2 {l : List UInt8} : ∀ {k p : Nat} {e : Int × Int}, (vRun l k p).2 = some e → e.2 ≠ 0
  | 0, _, _, h => by cases h
  | k + 1, p, e, h => by
    unfold vRun at h
    split at h
    · rename_i hq
      cases hv : vTake l (skipB l p) with
      | inr e' => rw [hv] at h; simp only [Option.some.injEq] at h; subst h; exact vTake_err hq hv
      | inl r =>
        obtain ⟨kd, t, n, m⟩ := r
        rw [hv] at h
        exact vRun_err2 h
    · cases h
/-- what vlex.Lex answers of a row that is not too long -/
theorem vLex_short {l : List UInt8} (hl : l.length ≤ 512) : ((vToks l 0).2 = none ∧ vLex l = ((vToks l 0).1, 0, 0)) ∨ (∃ e, (vToks l 0).2 = some e ∧ e.2 ≠ 0 ∧ vLex l = ([], e.1, e.2)) := by
  unfold vLex
  rw [if_neg (by omega)]
  cases h : (vToks l 0).2 with
  | none => exact .inl ⟨rfl, rfl⟩
  | some e => exact .inr ⟨e, rfl, vRun_err2 h, rfl⟩
theorem vToks_some {l : List UInt8} : ∀ (k p : Nat), l.length + 1 - p ≤ k → p ≤ l.length → (vToks l p).2 = none → (vToks l p).1 ≠ []
  | k, p, hk, hp, h => by
    by_cases hq : skipB l p < l.length
    · cases hv : vTake l (skipB l p) with
      | inr e => rw [vToks_err hp hq hv] at h; cases h
      | inl r =>
        obtain ⟨kd, t, n, m⟩ := r
        rw [vToks_tok hp hq hv]; simp
    · rw [vToks_end hp hq]; simp
theorem runK_errle {l : List UInt8} : ∀ {ks : List Nat} {st st' : NSt} {p : Nat}, runK l ks st = (st', some p) → st.pos ≤ l.length → st.size < 18446744073709551616 → p ≤ l.length
  | [], _, _, _, h, _, _ => by simp [runK] at h
  | k :: ks, st, st', p, h, hp, hs => by
    obtain ⟨⟨s1, r1⟩, e1⟩ : ∃ r, stepK k l st = r := ⟨_, rfl⟩
    have hle := stepK_le e1 hp hs
    cases r1 with
    | none => rw [runK_none e1] at h; exact runK_errle h hle.1 hle.2
    | some q =>
      rw [runK_some e1] at h
      obtain rfl : q = p := by simpa using congrArg Prod.snd h
      have rowE : ∀ (gr : Bool) (st : NSt), st.pos ≤ l.length → (rowS gr l st).2 = some q → q ≤ l.length := fun gr st hp h => by
        unfold rowS at h
        split at h
        · simp only [Option.some.injEq] at h; omega
        · cases h
      have e2 : (stepK k l st).2 = some q := by rw [e1]
      rcases k with _ | _ | _ | k
      · cases e2
      · have e2 : (wholeS l st).2 = some q := e2
        unfold wholeS at e2
        split at e2
        · cases e2
        · exact rowE _ _ hp e2
      · have e2 : (fracS l st).2 = some q := e2
        unfold fracS at e2
        split at e2
        · rename_i h'; exact rowE _ _ (sees_lt2 h') e2
        · cases e2
      · have e2 : (expS l st).2 = some q := e2
        unfold expS at e2
        split at e2
        · rename_i h'; exact rowE _ _ (takeS_le (sees_lt2 h')) e2
        · cases e2
theorem vTake_errIn {l : List UInt8} {p : Nat} (hp : p < l.length) {q er : Int} (h : vTake l p = .inr (q, er)) : 0 ≤ q ∧ q ≤ l.length := by
  obtain ⟨c, hc⟩ : ∃ c, l[p]? = some c := ⟨_, List.getElem?_eq_getElem hp⟩
  rw [vTake_kind hc] at h
  split at h
  · unfold vName at h
    simp only at h
    split at h
    · cases h
    · split at h
      · cases h
      · simp only [Sum.inr.injEq, Prod.mk.injEq] at h; omega
  · split at h
    · unfold vNumber at h
      simp only at h
      split at h
      · cases h
      · simp only [Sum.inr.injEq, Prod.mk.injEq] at h
        rw [← h.1]
        unfold numRead
        rw [if_neg (by omega), Int.toNat_natCast]
        obtain ⟨⟨st, o⟩, ho⟩ : ∃ r, numRun l (numStart p) = r := ⟨_, rfl⟩
        rw [ho]
        cases o with
        | some e =>
          have := runK_errle ho (Nat.le_of_lt hp) (show 0 < _ by omega)
          simp; omega
        | none =>
          have hn : ¬ (numRead l (p : Int)).2.2 = 0 := ‹_›
          unfold numRead at hn
          rw [if_neg (by omega), Int.toNat_natCast, ho] at hn
          simp only at hn ⊢
          unfold numEnd at hn ⊢
          split
          · simp; omega
          · rename_i h2
            rw [if_neg h2] at hn
            exact absurd rfl hn
    · split at h
      · unfold vText at h
        simp only at h
        split at h
        · cases h
        · simp only [Sum.inr.injEq, Prod.mk.injEq] at h
          rw [← h.1, qRead_in hp]
          have := qEnd_in (l := l) (a := p + 1) (by omega)
          split
          · simp; omega
          · split
            · rename_i h2 h3
              exfalso
              apply ‹¬ _ = (0 : Int)›
              rw [qRead_in hp, if_neg h2, if_pos h3]
            · simp; omega
      · unfold vSign at h
        split at h
        · cases h
        · simp only [Sum.inr.injEq, Prod.mk.injEq] at h; omega
theorem vRun_errIn {l : List UInt8} : ∀ {k p : Nat} {e : Int × Int}, (vRun l k p).2 = some e → 0 ≤ e.1 ∧ e.1 ≤ l.length
  | 0, _, _, h => by cases h
  | k + 1, p, e, h => by
    unfold vRun at h
    split at h
    · rename_i hq
      cases hv : vTake l (skipB l p) with
      | inr e' => rw [hv] at h; simp only [Option.some.injEq] at h; subst h; exact vTake_errIn hq hv
      | inl r =>
        obtain ⟨kd, t, n, m⟩ := r
        rw [hv] at h
        exact vRun_errIn h
    · cases h
theorem vLex_place (l : List UInt8) : 0 ≤ (vLex l).2.1 ∧ (vLex l).2.1 ≤ l.length := by
  unfold vLex
  split
  · simp
  · cases h : (vToks l 0).2 with
    | none => simp
    | some e => exact vRun_errIn (k := l.length + 1 - 0) h
/-- THE PLAIN LAW of VlexJoins -/
theorem vLex_join {s t : List UInt8} {b : UInt8} (hb : isBlankB b = true) (hs : s.length ≤ 250) (ht : t.length ≤ 250) :
    ((vLex (s ++ b :: t)).2.2 ≠ 0 ∨ (vLex (s ++ b :: t)).1 ≠ []) ∧
    ((vLex s).2.2 ≠ 0 → (vLex s).2.2 ≠ 6 → vLex (s ++ b :: t) = ([], (vLex s).2.1, (vLex s).2.2)) ∧
    ((vLex s).2.2 = 0 → ∃ pre, (vLex s).1 = pre ++ [(6, s.length, [], 0)] ∧
      ((vLex t).2.2 ≠ 0 → vLex (s ++ b :: t) = ([], ((s.length + 1 : Nat) : Int) + (vLex t).2.1, (vLex t).2.2)) ∧
      ((vLex t).2.2 = 0 → vLex (s ++ b :: t) = (pre ++ (vLex t).1.map (movT (s.length + 1)), 0, 0))) := by
  have hl : (s ++ b :: t).length ≤ 512 := by simp; omega
  obtain ⟨i1, i2⟩ := vToks_join (t := t) hb _ 0 (Nat.le_refl _) (Nat.zero_le s.length)
  refine ⟨?_, ?_, ?_⟩
  · rcases vLex_short hl with ⟨h1, h2⟩ | ⟨e, h1, h2, h3⟩
    · right; rw [h2]; exact vToks_some _ 0 (Nat.le_refl _) (Nat.zero_le _) h1
    · left; rw [h3]; exact h2
  · intro h0 h6
    rcases vLex_short (l := s) (by omega) with ⟨h1, h2⟩ | ⟨e, h1, h2, h3⟩
    · rw [h2] at h0; exact absurd rfl h0
    · rw [h3] at h6 ⊢
      have h4 := i2 e h1 h6
      unfold vLex
      rw [if_neg (by omega), h4]
  · intro h0
    rcases vLex_short (l := s) (by omega) with ⟨h1, h2⟩ | ⟨e, h1, h2, h3⟩
    · obtain ⟨pre, j1, j2⟩ := i1 h1
      refine ⟨pre, by rw [h2]; exact j1, ?_, ?_⟩
      · intro hn
        rcases vLex_short (l := t) (by omega) with ⟨k1, k2⟩ | ⟨e, k1, k2, k3⟩
        · rw [k2] at hn; exact absurd rfl hn
        · rw [k3]
          unfold vLex
          rw [if_neg (by omega), j2, k1]
          rfl
      · intro hn
        rcases vLex_short (l := t) (by omega) with ⟨k1, k2⟩ | ⟨e, k1, k2, k3⟩
        · rw [k2]
          unfold vLex
          rw [if_neg (by omega), j2, k1]
          rfl
        · rw [k3] at hn; exact absurd hn k2
    · rw [h3] at h0; exact absurd h0 h2
theorem vLex_end {l : List UInt8} (hl : l.length ≤ 512) (h : (vLex l).2.2 = 0) : (vLex l).1 ≠ [] := by
  rcases vLex_short hl with ⟨h1, h2⟩ | ⟨e, h1, h2, h3⟩
  · rw [h2]; exact vToks_some _ 0 (Nat.le_refl _) (Nat.zero_le _) h1
  · rw [h3] at h; exact absurd h h2
theorem vRun_places {l : List UInt8} : ∀ {k p : Nat}, p ≤ l.length → ∀ x ∈ (vRun l k p).1, x.2.1 ≤ l.length
  | 0, _, _, x, h => by cases h
  | k + 1, p, hp, x, h => by
    unfold vRun at h
    split at h
    · rename_i hq
      cases hv : vTake l (skipB l p) with
      | inr e' => rw [hv] at h; cases h
      | inl r =>
        obtain ⟨kd, t, n, m⟩ := r
        rw [hv] at h
        rcases List.mem_cons.1 h with rfl | h
        · exact Nat.le_of_lt hq
        · exact vRun_places (vTake_ok hq hv).2 x h
    · rcases List.mem_cons.1 h with rfl | h
      · exact Nat.le_refl _
      · cases h
theorem vLex_places (l : List UInt8) : ∀ x ∈ (vLex l).1, x.2.1 ≤ l.length := by
  unfold vLex
  split
  · intro x h; cases h
  · cases h : (vToks l 0).2 with
    | none => exact vRun_places (k := l.length + 1 - 0) (Nat.zero_le _)
    | some e => intro x h; cases h
theorem vLex_lenS (l : List UInt8) : (vLex l).1.length ≤ 513 := by
  unfold vLex
  split
  · simp
  · have := vToks_len l 0
    cases h : (vToks l 0).2 with
    | some e => simp
    | none => simp only []; omega
end Go.Proofs.YtalhoacancbldaaDoor
