/- Plain: a row that is cut behind a token still has that token. -/
import Derived.Test.YtalhoacancbldaaDoorJoinS
namespace Go.Proofs.YtalhoacancbldaaDoor
set_option linter.unusedVariables false
set_option linter.unusedSimpArgs false
open Go.RowKit

section Cut
variable {l : List UInt8}
theorem cut_drop {p m : Nat} (h : p ≤ m) : (l.take m).drop p = (l.drop p).take (m - p) := by
  rw [List.drop_take]
theorem get_cut {p m : Nat} (h : p < m) : (l.take m)[p]? = l[p]? := by rw [List.getElem?_take]; simp [h]
theorem tw_self {f : UInt8 → Bool} : ∀ u : List UInt8, (u.takeWhile f).takeWhile f = u.takeWhile f
  | [] => rfl
  | c :: r => by
    rw [List.takeWhile_cons]
    split
    · rename_i h; rw [List.takeWhile_cons, if_pos h, tw_self r]
    · rfl
theorem take_tw {f : UInt8 → Bool} (u : List UInt8) : u.take (u.takeWhile f).length = u.takeWhile f := (List.prefix_iff_eq_take.1 (List.takeWhile_prefix f)).symm
theorem vName_cut {p : Nat} {k n : Int} {t : List UInt8} {m : Nat} (h : vName l p = .inl (k, t, n, m)) : vName (l.take m) p = .inl (k, t, n, m) := by
  have key : m = p + ((l.drop p).takeWhile isLD).length := by
    unfold vName at h
    simp only at h
    split at h
    · simp only [Sum.inl.injEq, Prod.mk.injEq] at h; omega
    · split at h
      · simp only [Sum.inl.injEq, Prod.mk.injEq] at h; omega
      · cases h
  have e : ((l.take m).drop p).takeWhile isLD = (l.drop p).takeWhile isLD := by
    rw [cut_drop (by omega), show m - p = ((l.drop p).takeWhile isLD).length by omega, take_tw, tw_self]
  unfold vName at h ⊢
  rw [e]; exact h
theorem stands_cut {p m : Nat} {s : List UInt8} (hm : p + s.length ≤ m) : standsAt (l.take m) p s = standsAt l p s := by
  unfold standsAt
  rw [cut_drop (by omega), List.take_take, Nat.min_eq_left (by omega)]
theorem stands_mono {p m : Nat} {s : List UInt8} (hp : p ≤ m) (h : standsAt (l.take m) p s = true) : standsAt l p s = true := by
  unfold standsAt at h
  have h := of_decide_eq_true h
  have hl := congrArg List.length h
  rw [cut_drop hp, List.take_take] at h
  unfold standsAt
  have hle : s.length ≤ m - p := by simp at hl; omega
  rw [Nat.min_eq_left hle] at h
  exact decide_eq_true h
theorem firstAt_cut {p m : Nat} {s : List UInt8} (hm : p + s.length = m) : ∀ {xs : List (List UInt8)}, firstAt l p xs = some s → firstAt (l.take m) p xs = some s
  | [], h => by cases h
  | x :: xs, h => by
    unfold firstAt at h ⊢
    split at h
    · rename_i hx
      cases h
      rw [if_pos (by rw [stands_cut (by omega)]; exact hx)]
    · rename_i hx
      rw [if_neg (fun hc => hx (stands_mono (by omega) hc)), firstAt_cut hm h]
theorem vSign_cut {p : Nat} {k n : Int} {t : List UInt8} {m : Nat} (h : vSign l p = .inl (k, t, n, m)) : vSign (l.take m) p = .inl (k, t, n, m) := by
  unfold vSign at h ⊢
  cases hf : firstAt l p signsT with
  | none => rw [hf] at h; cases h
  | some s =>
    rw [hf] at h
    simp only [Sum.inl.injEq, Prod.mk.injEq] at h
    obtain ⟨rfl, rfl, rfl, rfl⟩ := h
    rw [firstAt_cut rfl hf]
theorem unitO_cut {a m : Nat} (hm : m ≤ l.length) : unitO (l.take m) a = if a + 6 ≤ m then unitO l a else none := by
  have hl : (l.take m).length = m := by rw [List.length_take]; omega
  by_cases h : a + 6 ≤ m
  · rw [if_pos h]
    have e : ((l.take m).length < a + 6 ∨ (l.take m)[a]? ≠ some 92 ∨ (l.take m)[a + 1]? ≠ some 117) ↔ (l.length < a + 6 ∨ l[a]? ≠ some 92 ∨ l[a + 1]? ≠ some 117) := by
      rw [get_cut (by omega), get_cut (by omega), hl, show (m < a + 6) ↔ (l.length < a + 6) from by omega]
    unfold unitO
    rw [cut_drop (by omega), List.take_take, Nat.min_eq_left (by omega)]
    by_cases hc : l.length < a + 6 ∨ l[a]? ≠ some 92 ∨ l[a + 1]? ≠ some 117
    · rw [if_pos hc, if_pos (e.2 hc)]
    · rw [if_neg hc, if_neg (fun h => hc (e.1 h))]
  · rw [if_neg h]
    unfold unitO
    rw [if_pos (.inl (by omega))]
theorem escS_cut {a m : Nat} (hm : m ≤ l.length) {c : Int} {n : Nat} (h : escS l a = (c, (n : Int), 0)) (hn : n ≤ m) : escS (l.take m) a = (c, (n : Int), 0) := by
  unfold escS at h ⊢
  rw [unitO_cut hm, unitO_cut hm]
  cases hu : unitO l a with
  | some u =>
    rw [hu] at h
    simp only at h
    split at h
    · rename_i h1
      have : a + 6 ≤ m := by simp only [Prod.mk.injEq] at h; omega
      rw [if_pos this]; simp only; rw [if_pos h1]; exact h
    · rename_i h1
      split at h
      · rename_i h2
        cases hv : unitO l (a + 6) with
        | none => rw [hv] at h; simp at h
        | some v =>
          rw [hv] at h
          simp only at h
          split at h
          · rename_i h3
            have : a + 12 ≤ m := by simp only [Prod.mk.injEq] at h; omega
            rw [if_pos (by omega), if_pos (by omega)]
            simp only
            rw [if_neg h1, if_pos h2, if_pos h3]; exact h
          · simp at h
      · simp at h
  | none =>
    rw [hu] at h
    have e : (if a + 6 ≤ m then (none : Option Nat) else none) = none := by split <;> rfl
    rw [e]
    simp only at h ⊢
    cases hx : l[a + 1]? with
    | none => rw [hx] at h; simp at h
    | some d =>
      rw [hx] at h
      simp only at h
      cases hy : letterS d.toNat with
      | none => rw [hy] at h; simp at h
      | some z =>
        rw [hy] at h
        have : a + 2 ≤ m := by simp only [Prod.mk.injEq] at h; omega
        rw [get_cut (by omega), hx]
        simp only
        rw [hy]; exact h
theorem cpNum_cut {u : List UInt8} {k n : Nat} (hn : 1 ≤ n) (hk : n ≤ k) : cpNum (u.take k) n = cpNum u n := by
  unfold cpNum
  cases u with
  | nil => simp
  | cons c r =>
    obtain ⟨j, rfl⟩ : ∃ j, k = j + 1 := ⟨k - 1, by omega⟩
    simp only [List.take_succ_cons, List.drop_succ_cons, List.drop_zero, List.headD_cons]
    rw [List.take_take, Nat.min_eq_left (by omega)]
theorem cpOk_cut {u : List UInt8} {k n : Nat} (hku : k ≤ u.length) (hn : 1 ≤ n) (hk : n ≤ k) : cpOk (u.take k) n = cpOk u n := by
  unfold cpOk
  rw [cpNum_cut hn hk, List.take_take, Nat.min_eq_left hk, decide_eq_true (show n ≤ (u.take k).length by rw [List.length_take]; omega), decide_eq_true (show n ≤ u.length by omega)]
theorem cpBegin_cut {u : List UInt8} {k : Nat} (hku : k ≤ u.length) (h0 : (cpBegin u).2 ≠ 0) (hk : (cpBegin u).2 ≤ k) : cpBegin (u.take k) = cpBegin u := by
  unfold cpBegin at h0 hk ⊢
  split at hk
  · rename_i h1
    rw [cpOk_cut hku (by omega) hk, if_pos h1, if_pos h1, cpNum_cut (by omega) hk]
  · rename_i h1
    split at hk
    · rename_i h2
      rw [cpOk_cut hku (by omega) (by show 1 ≤ k; simp only at hk; omega), cpOk_cut hku (by omega) hk, if_neg h1, if_neg h1, if_pos h2, if_pos h2, cpNum_cut (by omega) hk]
    · rename_i h2
      split at hk
      · rename_i h3
        simp only at hk
        rw [cpOk_cut hku (by omega) (by omega : 1 ≤ k), cpOk_cut hku (by omega) (by omega : 2 ≤ k), cpOk_cut hku (by omega) hk, if_neg h1, if_neg h1, if_neg h2, if_neg h2, if_pos h3, if_pos h3, cpNum_cut (by omega) hk]
      · rename_i h3
        split at hk
        · rename_i h4
          simp only at hk
          rw [cpOk_cut hku (by omega) (by omega : 1 ≤ k), cpOk_cut hku (by omega) (by omega : 2 ≤ k), cpOk_cut hku (by omega) (by omega : 3 ≤ k), cpOk_cut hku (by omega) hk, if_neg h1, if_neg h1, if_neg h2, if_neg h2, if_neg h3, if_neg h3, if_pos h4, if_pos h4, cpNum_cut (by omega) hk]
        · rename_i h4
          rw [if_neg h1, if_neg h2, if_neg h3, if_neg h4] at h0
          exact absurd rfl h0
theorem qsS_cut {a m : Nat} (hm : m ≤ l.length) {c : Int} {n : Nat} (h : qsS l a = (c, (n : Int), 0)) (ha : a < m) (hn : n ≤ m) : qsS (l.take m) a = (c, (n : Int), 0) := by
  have hl : (l.take m).length = m := by rw [List.length_take]; omega
  unfold qsS at h ⊢
  rw [get_cut ha]
  cases hc : l[a]? with
  | none => have := List.getElem?_eq_none_iff.1 hc; omega
  | some d =>
    rw [hc] at h
    simp only at h ⊢
    split at h
    · rename_i h1
      rw [if_pos h1]
      exact escS_cut hm h hn
    · rename_i h1
      rw [if_neg h1]
      split at h
      · simp at h
      · rename_i h2
        rw [if_neg h2]
        rw [nextR_in (show a < l.length by omega)] at h
        rw [nextR_in (show a < (l.take m).length by omega), cut_drop (by omega)]
        split at h
        · simp at h
        · rename_i h3
          have h5 : a + (cpBegin (l.drop a)).2 = n := by simp only [Prod.mk.injEq] at h; omega
          rw [cpBegin_cut (by rw [List.length_drop]; omega) h3 (by omega), if_neg h3]
          exact h
theorem qEnd_ge {a : Nat} (ha : a ≤ l.length) : a ≤ qEnd a (signsL l a) := by
  have := (signs_pre _ a _ (Nat.le_refl _) (List.prefix_refl (signsL l a)) ha).2.1
  omega
theorem signsL_cut {m : Nat} (hm : m ≤ l.length) : ∀ (k a : Nat), l.length - a ≤ k → a ≤ l.length → qEnd a (signsL l a) < m → l[qEnd a (signsL l a)]? = some 34 → signsL (l.take m) a = signsL l a
  | k, a, hk, ha, hq, h34 => by
    have hl : (l.take m).length = m := by rw [List.length_take]; omega
    have hge := qEnd_ge ha
    by_cases hc : a < l.length ∧ (qsS l a).2.2 = 0
    · obtain ⟨p, n, h1, h2, h3, h4, h5⟩ := qs_ok (c := (qsS l a).1) (n := (qsS l a).2.1) (by rw [← hc.2]) hc.1
      have he : qsS l a = ((p : Int), (n : Int), 0) := by rw [← h1, ← h2, ← hc.2]
      rw [signsL_cons he hc.1] at hq h34 ⊢
      rw [qEnd_cons] at hq h34
      simp only [Int.toNat_natCast] at hq h34
      have hge2 := qEnd_ge (l := l) h4
      have he2 := qsS_cut hm he (by omega) (by omega : n ≤ m)
      rw [signsL_cons he2 (by omega)]
      match k, hk with
      | 0, hk => omega
      | k + 1, hk => rw [signsL_cut hm k n (by omega) h4 hq h34]
    · have hn : signsL l a = [] := signsL_nil (fun h e => hc ⟨h, e⟩)
      rw [hn] at hq h34 ⊢
      have hq : a < m := hq
      have h34 : l[a]? = some 34 := h34
      refine signsL_nil (fun _ => ?_)
      unfold qsS
      rw [get_cut hq, h34]
      simp only
      rw [if_neg (by decide), if_pos (by decide)]
      simp
theorem vText_cut {p : Nat} (hp : p < l.length) {k n : Int} {t : List UInt8} {m : Nat} (h : vText l p = .inl (k, t, n, m)) : vText (l.take m) p = .inl (k, t, n, m) := by
  unfold vText at h
  simp only at h
  split at h
  · rename_i h0
    obtain ⟨m', g1, g2, g3⟩ := qRead_ok h0
    have hmm : m = m' := by
      simp only [Sum.inl.injEq, Prod.mk.injEq] at h
      rw [g1] at h; simp only [Int.toNat_natCast] at h; omega
    subst hmm
    have hl : (l.take m).length = m := by rw [List.length_take]; omega
    have key : qRead (l.take m) (p : Int) = qRead l (p : Int) := by
      rw [qRead_in hp] at h0 g1 ⊢
      rw [qRead_in (show p < (l.take m).length by omega), get_cut g2]
      split at h0
      · simp at h0
      · rename_i e1
        rw [if_neg e1] at g1
        split at h0
        · rename_i e2
          rw [if_pos e2] at g1
          have hE : qEnd (p + 1) (signsL l (p + 1)) + 1 = m := by simp only at g1; omega
          rw [signsL_cut g3 _ (p + 1) (Nat.le_refl _) (by omega) (by omega) e2, get_cut (by omega), if_neg e1, if_neg e1, if_pos e2, if_pos e2]
        · rename_i e2
          rw [if_neg e2] at g1
          have := qEnd_in (l := l) (a := p + 1) (by omega)
          exfalso
          obtain ⟨E, hE⟩ : ∃ E, qEnd (p + 1) (signsL l (p + 1)) = E := ⟨_, rfl⟩
          have hnil : signsL l E = [] := by
            have hs := (signs_pre _ (p + 1) _ (Nat.le_refl _) (List.prefix_refl (signsL l (p + 1))) (by omega)).2.2.2
            rw [hE] at hs
            have := congrArg List.length hs
            rw [List.length_append] at this
            exact List.eq_nil_of_length_eq_zero (by omega)
          rw [hE] at h0 this
          simp only at h0
          rcases Nat.lt_or_eq_of_le this with hlt | heq
          · rw [qSign_in hlt] at h0
            exact qsS_more hnil hlt h0
          · unfold qSign at h0
            rw [if_neg (by omega), if_pos (by omega)] at h0
            simp at h0
    unfold vText
    simp only
    rw [key, if_pos h0]; exact h
  · cases h
theorem sees_cut {p m : Nat} (h : p < m) (x : List UInt8) : seesB (l.take m) p x = seesB l p x := by unfold seesB; rw [get_cut h]
theorem sees_cutEnd (m : Nat) (x : List UInt8) : seesB (l.take m) m x = false := by
  unfold seesB
  have : (l.take m)[m]? = none := List.getElem?_eq_none_iff.2 (by rw [List.length_take]; omega)
  rw [this]
theorem rowS_part {gr : Bool} {st st' : NSt} (h : rowS gr l st = (st', none)) : st'.part = st.part := by
  unfold rowS at h
  split at h
  · cases h
  · simp only [Prod.mk.injEq, and_true] at h
    rw [← h]
    unfold digS
    split
    · exact (growAll_keep _ _).2.2
    · rfl
theorem takeS_part (x : List UInt8) (st : NSt) : (takeS x l st).part = st.part := by unfold takeS; split <;> rfl
theorem expS_plain {st st' : NSt} (h : expS l st = (st', none)) (hp : st'.part = false) : st' = st := by
  unfold expS at h
  split at h
  · have := rowS_part h
    rw [takeS_part, hp] at this
    cases this
  · simp only [Prod.mk.injEq, and_true] at h; exact h.symm
theorem fracS_plain {st st' : NSt} (h : fracS l st = (st', none)) (hp : st'.part = false) : st' = st := by
  unfold fracS at h
  split at h
  · have := rowS_part h
    rw [hp] at this
    cases this
  · simp only [Prod.mk.injEq, and_true] at h; exact h.symm
theorem numRun_cut {p : Nat} {st : NSt} (h : numRun l (numStart p) = (st, none)) (hp : st.part = false) : p < st.pos ∧ numRun (l.take st.pos) (numStart p) = (st, none) := by
  unfold numRun at h
  obtain ⟨s1, e1⟩ : ∃ s1, stepK 0 l (numStart p) = (s1, none) := ⟨_, rfl⟩
  rw [runK_none e1] at h
  obtain ⟨⟨s2, r2⟩, e2⟩ : ∃ r, stepK 1 l s1 = r := ⟨_, rfl⟩
  cases r2 with
  | some q => rw [runK_some e2] at h; cases h
  | none =>
    rw [runK_none e2] at h
    obtain ⟨⟨s3, r3⟩, e3⟩ : ∃ r, stepK 2 l s2 = r := ⟨_, rfl⟩
    cases r3 with
    | some q => rw [runK_some e3] at h; cases h
    | none =>
      rw [runK_none e3] at h
      obtain ⟨⟨s4, r4⟩, e4⟩ : ∃ r, stepK 3 l s3 = r := ⟨_, rfl⟩
      cases r4 with
      | some q => rw [runK_some e4] at h; cases h
      | none =>
        rw [runK_none e4] at h
        obtain rfl : s4 = st := by simpa [runK] using h
        obtain rfl := expS_plain (l := l) e4 hp
        obtain rfl := fracS_plain (l := l) e3 hp
        have b1 := stepK_ge e1
        have b2 := wholeS_more (l := l) (st := s1) (st' := s4) e2
        have b0 : (numStart p).pos = p := rfl
        have hps : p < s4.pos := by omega
        refine ⟨hps, ?_⟩
        have f1 : stepK 0 (l.take s4.pos) (numStart p) = (s1, none) := by
          rw [← e1]
          show signS _ _ = signS _ _
          unfold signS takeS
          rw [b0, sees_cut hps]
        have f2 : stepK 1 (l.take s4.pos) s1 = (s4, none) := by
          have e2' : wholeS l s1 = (s4, none) := e2
          show wholeS _ _ = _
          unfold wholeS at e2' ⊢
          rw [sees_cut b2]
          split
          · rename_i hz; rw [if_pos hz] at e2'; exact e2'
          · rename_i hz
            rw [if_neg hz] at e2'
            have hm : s4.pos = s1.pos + (digs l s1.pos).length := by
              unfold rowS at e2'
              split at e2'
              · cases e2'
              · simp only [Prod.mk.injEq, and_true] at e2'
                rw [← e2']; rfl
            have hd : digs (l.take s4.pos) s1.pos = digs l s1.pos := by
              unfold digs at hm ⊢
              rw [cut_drop (by omega), show s4.pos - s1.pos = ((l.drop s1.pos).takeWhile isDig).length by omega, take_tw, tw_self]
            unfold rowS at e2' ⊢
            rw [hd]; exact e2'
        have f3 : stepK 2 (l.take s4.pos) s4 = (s4, none) := by
          show fracS _ _ = _
          unfold fracS
          rw [sees_cutEnd]; rfl
        have f4 : stepK 3 (l.take s4.pos) s4 = (s4, none) := by
          show expS _ _ = _
          unfold expS
          rw [sees_cutEnd]; rfl
        unfold numRun
        rw [runK_none f1, runK_none f2, runK_none f3, runK_none f4]; rfl
theorem vNumber_cut {p : Nat} (hp : p < l.length) {k n : Int} {t : List UInt8} {m : Nat} (h : vNumber l p = .inl (k, t, n, m)) : vNumber (l.take m) p = .inl (k, t, n, m) := by
  unfold vNumber at h
  simp only at h
  split at h
  · rename_i h0
    obtain ⟨m', g1, g2, g3⟩ := numRead_more h0
    have hmm : m = m' := by
      simp only [Sum.inl.injEq, Prod.mk.injEq] at h
      rw [g1] at h; simp only [Int.toNat_natCast] at h; omega
    subst hmm
    have hl : (l.take m).length = m := by rw [List.length_take]; omega
    have key : numRead (l.take m) (p : Int) = numRead l (p : Int) := by
      unfold numRead at h0 g1 ⊢
      rw [if_neg (by omega), Int.toNat_natCast] at h0 g1
      rw [if_neg (by omega), if_neg (by omega), Int.toNat_natCast]
      obtain ⟨⟨st, q⟩, hq⟩ : ∃ r, numRun l (numStart p) = r := ⟨_, rfl⟩
      rw [hq] at h0 g1 ⊢
      cases q with
      | some e => simp at h0
      | none =>
        simp only at h0 g1
        unfold numEnd at h0 g1
        split at h0
        · simp at h0
        · rename_i h2
          rw [if_neg h2] at g1
          have hm : st.pos = m := by simp only at g1; omega
          have hpart : st.part = false := by
            cases hx : st.part with
            | false => rfl
            | true => exact absurd (by rw [hx]; rfl) h2
          have hc := (numRun_cut hq hpart).2
          rw [hm] at hc
          rw [hc]
    unfold vNumber
    simp only
    rw [key, if_pos h0, cut_drop (by omega), List.take_take, g1, Int.toNat_natCast, Nat.min_self]
    rw [g1, Int.toNat_natCast] at h; exact h
  · cases h
/-- A ROW CUT BEHIND A TOKEN STILL HAS IT -/
theorem vTake_cut {p : Nat} (hp : p < l.length) {k n : Int} {t : List UInt8} {m : Nat} (h : vTake l p = .inl (k, t, n, m)) : vTake (l.take m) p = .inl (k, t, n, m) := by
  have hm := vTake_ok hp h
  unfold vTake at h ⊢
  rw [get_cut hm.1]
  cases hc : l[p]? with
  | none => rw [hc] at h; cases h
  | some c =>
    rw [hc] at h
    simp only at h ⊢
    split at h
    · rename_i h1; rw [if_pos h1]; exact vName_cut h
    · rename_i h1
      rw [if_neg h1]
      split at h
      · rename_i h2; rw [if_pos h2]; exact vNumber_cut hp h
      · rename_i h2
        rw [if_neg h2]
        split at h
        · rename_i h3; rw [if_pos h3]; exact vText_cut hp h
        · rename_i h3; rw [if_neg h3]; exact vSign_cut h
/-- the part of a row from a token to the next one has just that token -/
theorem vLex_part {p : Nat} (hl : l.length ≤ 512) (hp : p < l.length) (hb : isBlankB l[p] = false) {k n : Int} {t : List UInt8} {m : Nat} (h : vTake l p = .inl (k, t, n, m)) :
    vLex ((l.take (skipB l m)).drop p) = ([(k, 0, t, n), (6, skipB l m - p, [], 0)], 0, 0) := by
  have hm := vTake_ok hp h
  have hge := skipB_ge l m
  have hle := skipB_le hm.2
  have hskip : skipB l m = m + ((l.drop m).takeWhile isBlankB).length := rfl
  obtain ⟨nx, hnx⟩ : ∃ nx, skipB l m = nx := ⟨_, rfl⟩
  rw [hnx] at hge hle hskip ⊢
  have h1 : vTake (l.take nx) p = .inl (k, t, n, m) := by
    rcases Nat.lt_or_eq_of_le hge with hlt | heq
    · have hmlt : m < l.length := by omega
      have htw : ((l.drop m).takeWhile isBlankB).length ≠ 0 := by omega
      have hbm : isBlankB l[m] = true := by
        rw [List.drop_eq_getElem_cons hmlt, List.takeWhile_cons] at htw
        by_cases hx : isBlankB l[m] = true
        · exact hx
        · rw [if_neg hx] at htw; exact absurd rfl htw
      have e : l.take nx = l.take m ++ l[m] :: (l.drop (m + 1)).take (nx - (m + 1)) := by
        have e1 : l.take nx = l.take m ++ (l.drop m).take (nx - m) := by
          rw [← List.take_add, show m + (nx - m) = nx from by omega]
        rw [e1, List.drop_eq_getElem_cons hmlt, show nx - m = (nx - (m + 1)) + 1 from by omega, List.take_succ_cons]
      rw [e]
      exact vTake_join hbm (by rw [List.length_take]; omega) (vTake_cut hp h) (fun q hq => by cases hq)
    · rw [← heq]; exact vTake_cut hp h
  obtain ⟨r, hr⟩ : ∃ r, (l.take nx).drop p = r := ⟨_, rfl⟩
  have hrl : r.length = nx - p := by rw [← hr, List.length_drop, List.length_take]; omega
  have hsp : l.take nx = l.take p ++ r := by
    rw [← hr]
    have := (List.take_append_drop p (l.take nx)).symm
    rw [List.take_take, Nat.min_eq_left (by omega)] at this
    exact this
  have hpl : (l.take p).length = p := by rw [List.length_take]; omega
  have h2 : vTake r 0 = .inl (k, t, n, m - p) := by
    have hs := vTake_shift (a := l.take p) (l := r) (p := 0) (by omega)
    rw [← hsp, hpl, Nat.add_zero, h1] at hs
    cases hv : vTake r 0 with
    | inr e => rw [hv] at hs; cases hs
    | inl x =>
      obtain ⟨k', t', n', m'⟩ := x
      rw [hv] at hs
      simp only [shV, Sum.inl.injEq, Prod.mk.injEq] at hs ⊢
      obtain ⟨a1, a2, a3, a4⟩ := hs
      exact ⟨a1.symm, a2.symm, a3.symm, by omega⟩
  have h0 : skipB r 0 = 0 := by
    have hg : r[0]? = some l[p] := by rw [← hr, List.getElem?_drop, Nat.add_zero, get_cut (by omega), List.getElem?_eq_getElem hp]
    exact skipB_stop hg hb
  have h3 : skipB r (m - p) = r.length := by
    unfold skipB
    have e : r.drop (m - p) = (l.drop m).take (nx - m) := by
      rw [← hr, List.drop_drop, show p + (m - p) = m from by omega, cut_drop hge]
    rw [e, show nx - m = ((l.drop m).takeWhile isBlankB).length from by omega, take_tw, tw_self, hrl]
    omega
  have hv := vToks_tok (l := r) (p := 0) (Nat.zero_le _) (by omega) (by rw [h0]; exact h2)
  have he := vToks_end (l := r) (p := m - p) (by omega) (by omega)
  rw [he, h0] at hv
  unfold vLex
  rw [hr, if_neg (by omega), hv, hrl]
theorem vTake_what {p : Nat} {k n : Int} {t : List UInt8} {m : Nat} (h : vTake l p = .inl (k, t, n, m)) :
    (k = 1 ∧ isName ⟨t.toArray⟩ = true) ∨ (k = 2 ∧ isWord t = true) ∨ k = 3 ∨ k = 4 ∨ k = 5 := by
  unfold vTake at h
  cases hc : l[p]? with
  | none => rw [hc] at h; cases h
  | some c =>
    rw [hc] at h
    simp only at h
    split at h
    · unfold vName at h
      simp only at h
      split at h
      · rename_i hw
        simp only [Sum.inl.injEq, Prod.mk.injEq] at h
        exact .inr (.inl ⟨h.1.symm, by rw [← h.2.1]; exact hw⟩)
      · split at h
        · rename_i hn
          simp only [Sum.inl.injEq, Prod.mk.injEq] at h
          exact .inl ⟨h.1.symm, by rw [← h.2.1]; exact hn⟩
        · cases h
    · split at h
      · unfold vNumber at h
        simp only at h
        split at h
        · simp only [Sum.inl.injEq, Prod.mk.injEq] at h; exact .inr (.inr (.inl h.1.symm))
        · cases h
      · split at h
        · unfold vText at h
          simp only at h
          split at h
          · simp only [Sum.inl.injEq, Prod.mk.injEq] at h; exact .inr (.inr (.inr (.inl h.1.symm)))
          · cases h
        · unfold vSign at h
          split at h
          · simp only [Sum.inl.injEq, Prod.mk.injEq] at h; exact .inr (.inr (.inr (.inr h.1.symm)))
          · cases h
theorem vToks_head {p : Nat} (hp : p ≤ l.length) (h : (vToks l p).2 = none) : ∃ x r, (vToks l p).1 = x :: r ∧ x.2.1 = skipB l p := by
  by_cases hq : skipB l p < l.length
  · cases hv : vTake l (skipB l p) with
    | inr e => rw [vToks_err hp hq hv] at h; cases h
    | inl r =>
      obtain ⟨kd, t, n, m⟩ := r
      rw [vToks_tok hp hq hv]
      exact ⟨_, _, rfl, rfl⟩
  · rw [vToks_end hp hq]
    have := skipB_le hp
    exact ⟨_, _, rfl, by show l.length = _; omega⟩
theorem tw_next {f : UInt8 → Bool} : ∀ {u : List UInt8} {c : UInt8}, u[(u.takeWhile f).length]? = some c → f c = false
  | [], c, h => by simp at h
  | x :: r, c, h => by
    rw [List.takeWhile_cons] at h
    by_cases hx : f x = true
    · rw [if_pos hx] at h
      exact tw_next (u := r) (by simpa using h)
    · rw [if_neg hx] at h
      have : x = c := by simpa using h
      rw [← this]; simpa using hx
theorem skipB_nb {p : Nat} (h : skipB l p < l.length) : isBlankB l[skipB l p] = false := by
  have hg : (l.drop p)[((l.drop p).takeWhile isBlankB).length]? = some l[skipB l p] := by
    rw [List.getElem?_drop]; exact List.getElem?_eq_getElem h
  exact tw_next hg
/-- two tokens beside each other -/
theorem vToks_chain : ∀ (k p : Nat), l.length + 1 - p ≤ k → p ≤ l.length → (vToks l p).2 = none → ∀ (i : Nat) (x y : VTok), (vToks l p).1[i]? = some x → (vToks l p).1[i + 1]? = some y →
    ∃ m, ∃ hx : x.2.1 < l.length, isBlankB l[x.2.1] = false ∧ vTake l x.2.1 = .inl (x.1, x.2.2.1, x.2.2.2, m) ∧ y.2.1 = skipB l m
  | k, p, hk, hp, h, i, x, y, h1, h2 => by
    by_cases hq : skipB l p < l.length
    · cases hv : vTake l (skipB l p) with
      | inr e => rw [vToks_err hp hq hv] at h; cases h
      | inl r =>
        obtain ⟨kd, t, n, m⟩ := r
        have hm := vTake_ok hq hv
        have hg := skipB_ge l p
        rw [vToks_tok hp hq hv] at h h1 h2
        match k, hk with
        | 0, hk => omega
        | k + 1, hk =>
          cases i with
          | zero =>
            obtain ⟨z, r, e1, e2⟩ := vToks_head hm.2 h
            have hx : (kd, skipB l p, t, n) = x := by simpa using h1
            have hy : z = y := by rw [e1] at h2; simpa using h2
            subst hx hy
            exact ⟨m, hq, skipB_nb hq, hv, e2⟩
          | succ i => exact vToks_chain k m (by omega) hm.2 h i x y (by simpa using h1) (by simpa using h2)
    · rw [vToks_end hp hq] at h2
      simp at h2
theorem vToks_last {p : Nat} (hp : p ≤ l.length) (h : (vToks l p).2 = none) : ∃ pre, (vToks l p).1 = pre ++ [(6, l.length, [], 0)] := by
  obtain ⟨pre, e, _⟩ := (vToks_join (s := l) (t := []) (b := 32) (by decide) _ p (Nat.le_refl _) hp).1 h
  exact ⟨pre, e⟩
end Cut
end Go.Proofs.YtalhoacancbldaaDoor
