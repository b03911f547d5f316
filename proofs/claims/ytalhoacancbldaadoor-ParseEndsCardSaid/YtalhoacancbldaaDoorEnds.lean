import Derived.Test.YtalhoacancbldaaDoorCut
import Derived.Test.YtalhoacancbldaaDoorCutL
/- Plain: what is read in a row that is cut, is read in the whole row too, if it ends ahead of the cut. -/
namespace Go.Proofs.YtalhoacancbldaaDoor
set_option linter.unusedVariables false
set_option linter.unusedSimpArgs false
open Go.RowKit

section Ends
variable {l : List UInt8}
theorem whole_grow {st s2 : NSt} {n : Nat} (h : wholeS (l.take n) st = (s2, none)) (hn : s2.pos < n) : wholeS l st = (s2, none) := by
  have hm := wholeS_more h
  rcases whole_pos h with ⟨h1, h2⟩ | ⟨h1, h2, h3, h4⟩
  · rw [sees_take, if_pos (show st.pos < n by omega)] at h1
    unfold wholeS
    rw [h1, if_pos rfl, h2]
  · rw [sees_take, if_pos (show st.pos < n by omega)] at h1
    have hd : digs (l.take n) st.pos = digs l st.pos := by
      rw [digs_cut]
      rw [digs_cut, List.length_take] at h4
      exact List.take_of_length_le (by omega)
    rw [hd] at h2 h3
    unfold wholeS
    rw [h1, if_neg (by decide)]
    unfold rowS
    rw [if_neg h2, ← h3]
theorem numRead_grow {a m n : Nat} {v : Int} (h : numRead (l.take n) a = (v, (m : Int), 0)) (ha : a < n) (hn : n ≤ l.length) (hm : m < n) : numRead l a = (v, (m : Int), 0) := by
  obtain ⟨s2, h1, h2, h3, h4⟩ := num_form (l := l.take n) (a := a) (by rw [h])
  rw [h4] at h
  have hp := numEnd_pos h
  rw [sees_take, if_pos (show s2.pos < n by omega)] at h2 h3
  rw [sgn_cut ha] at h1
  rw [num_of (s2 := s2) (by omega) (whole_grow h1 (by omega)) h2 h3]
  exact h
theorem wordMis_grow {n : Nat} : ∀ {u : List UInt8} {p : Nat}, wordMis (l.take n) p u = none → wordMis l p u = none
  | [], p, _ => rfl
  | c :: r, p, h => by
    unfold wordMis at h ⊢
    split at h
    · rename_i hc
      have hlt : p < n := by
        rcases Nat.lt_or_ge p n with h' | h'
        · exact h'
        · rw [List.getElem?_take, if_neg (by omega)] at hc; cases hc
      rw [List.getElem?_take, if_pos hlt] at hc
      rw [if_pos hc]; exact wordMis_grow h
    · cases h
theorem atom_grow {a m n : Nat} {c : UInt8} {v : JV} (h : atomJ (l.take n) a c = .inl (v, m)) (ha : a < n) (hn : n ≤ l.length) (hm : m < n) : atomJ l a c = .inl (v, m) := by
  have hw : ∀ u w, wordJ (l.take n) a u w = .inl (v, m) → wordJ l a u w = .inl (v, m) := fun u w h => by
    unfold wordJ at h ⊢
    cases hx : wordMis (l.take n) a u with
    | none => rw [hx] at h; rw [wordMis_grow hx]; exact h
    | some k => rw [hx] at h; cases h
  unfold atomJ at h ⊢
  by_cases c1 : c.toNat = 34
  · rw [if_pos c1] at h ⊢
    unfold textJ at h
    split at h
    · rename_i h0
      obtain ⟨m', e1, e2, e3⟩ := qRead_ok h0
      obtain ⟨⟨s, q, x⟩, hq⟩ : ∃ r, qRead (l.take n) a = r := ⟨_, rfl⟩
      rw [hq] at h h0 e1
      simp only at h h0 e1
      subst h0; subst e1
      unfold textJ
      rw [qRead_grow hn ha hq, if_pos rfl]
      exact h
    · cases h
  rw [if_neg c1] at h ⊢
  by_cases c2 : c.toNat = 110
  · rw [if_pos c2] at h ⊢; exact hw _ _ h
  rw [if_neg c2] at h ⊢
  by_cases c3 : c.toNat = 116
  · rw [if_pos c3] at h ⊢; exact hw _ _ h
  rw [if_neg c3] at h ⊢
  by_cases c4 : c.toNat = 102
  · rw [if_pos c4] at h ⊢; exact hw _ _ h
  rw [if_neg c4] at h ⊢
  unfold numJ at h
  split at h
  · rename_i h0
    obtain ⟨m', e1, e2, e3⟩ := numRead_more h0
    obtain ⟨⟨s, q, x⟩, hq⟩ : ∃ r, numRead (l.take n) a = r := ⟨_, rfl⟩
    rw [hq] at h h0 e1
    simp only at h h0 e1
    subst h0; subst e1
    have hm' : m' = m := by simp only [Sum.inl.injEq, Prod.mk.injEq, Int.toNat_natCast] at h; exact h.2
    unfold numJ
    rw [numRead_grow hq ha hn (by omega), if_pos rfl]
    exact h
  · cases h
def ends (n : Nat) : PRes → Prop
  | .fail _ _ => False
  | .go _ p' _ _ => p' < n
  | .done q _ => q < n
theorem put_ends {n q m : Nat} {v : JV} {stk : JStk} (h : ends n (pPut v q m stk)) : q < n := by
  cases stk with
  | nil => exact h
  | cons x r => exact h
theorem value_grow {n p m : Nat} {stk : JStk} (hn : n ≤ l.length) (hp : p ≤ n) (he : ends n (pValue (l.take n) p m stk)) : pValue l p m stk = pValue (l.take n) p m stk := by
  have hs := skipB_cut (l := l) hp
  rcases Nat.lt_or_ge (skipB l p) n with hlt | hge
  · rw [Nat.min_eq_left (by omega)] at hs
    obtain ⟨c, hc⟩ : ∃ c, l[skipB l p]? = some c := ⟨_, List.getElem?_eq_getElem (by omega)⟩
    have hc' : (l.take n)[skipB l p]? = some c := by rw [get_cut hlt]; exact hc
    unfold pValue beginJ at he ⊢
    rw [hs, hc'] at he
    rw [hs, hc, hc']
    simp only at he ⊢
    by_cases h1 : beginsB c = false
    · rw [if_pos h1] at he; exact he.elim
    rw [if_neg h1] at he ⊢
    rw [if_neg h1]
    by_cases h2 : m = 256
    · rw [if_pos h2] at he; exact he.elim
    rw [if_neg h2] at he ⊢
    rw [if_neg h2]
    by_cases h3 : c.toNat = 91 ∨ c.toNat = 123
    · rw [if_pos h3, if_pos h3]
    rw [if_neg h3] at he ⊢
    rw [if_neg h3]
    cases ha : atomJ (l.take n) (skipB l p) c with
    | inr e => rw [ha] at he; exact he.elim
    | inl r =>
      obtain ⟨v, q⟩ := r
      rw [ha] at he
      rw [atom_grow ha hlt hn (put_ends he)]
  · rw [Nat.min_eq_right hge] at hs
    unfold pValue beginJ at he
    rw [hs, get_end hn] at he
    exact he.elim
theorem key_grow {n p m : Nat} {stk : JStk} (hn : n ≤ l.length) (hp : p ≤ n) (he : ends n (pKey (l.take n) p m stk)) : pKey l p m stk = pKey (l.take n) p m stk := by
  have hs := skipB_cut (l := l) hp
  cases stk with
  | nil => exact he.elim
  | cons x r =>
    obtain ⟨v, k⟩ := x
    simp only [pKey] at he ⊢
    rw [hs] at he ⊢
    rcases Nat.lt_or_ge (skipB l p) n with hlt | hge
    · rw [Nat.min_eq_left (by omega), get_cut hlt] at he ⊢
      by_cases h34 : l[skipB l p]? = some 34
      · rw [if_pos h34] at he ⊢
        rw [if_pos h34]
        by_cases h0 : (qRead (l.take n) (skipB l p)).2.2 = 0
        · obtain ⟨m', e1, e2, e3⟩ := qRead_ok h0
          obtain ⟨⟨s, q, x⟩, hq⟩ : ∃ r, qRead (l.take n) (skipB l p) = r := ⟨_, rfl⟩
          rw [hq] at h0 e1
          simp only at h0 e1
          subst h0; subst e1
          rw [hq, qRead_grow hn hlt hq, if_pos (show ((s, (m' : Int), (0 : Int)).2.2 = 0) from rfl), if_pos (show ((s, (m' : Int), (0 : Int)).2.2 = 0) from rfl)]
        · rw [if_neg h0] at he; exact he.elim
      · rw [if_neg h34] at he; exact he.elim
    · rw [Nat.min_eq_right hge, get_end hn, if_neg (show ¬ ((none : Option UInt8) = some 34) by simp)] at he
      exact he.elim
theorem step_grow {n s p m : Nat} {stk : JStk} (hn : n ≤ l.length) (hp : p ≤ n) (h5 : s ≤ 5) (he : ends n (pStep (l.take n) (.go s p m stk))) : pStep l (.go s p m stk) = pStep (l.take n) (.go s p m stk) := by
  have hs := skipB_cut (l := l) hp
  match s, h5 with
  | 0, _ => exact value_grow hn hp he
  | 1, _ =>
    have he : ends n (pFirst (l.take n) p m stk) := he
    show pFirst l p m stk = pFirst (l.take n) p m stk
    unfold pFirst at he ⊢
    rcases Nat.lt_or_ge (skipB l p) n with hlt | hge
    · rw [hs, Nat.min_eq_left (by omega), get_cut hlt] at he ⊢
      by_cases hc : l[skipB l p]? = some 93
      · rw [if_pos hc, if_pos hc]; rfl
      · rw [if_neg hc] at he ⊢; rw [if_neg hc]; exact value_grow hn hp he
    · rw [hs, Nat.min_eq_right hge, get_end hn, if_neg (show ¬ ((none : Option UInt8) = some 93) by simp)] at he
      unfold pValue beginJ at he
      rw [hs, Nat.min_eq_right hge, get_end hn] at he
      exact he.elim
  | 2, _ =>
    have he : ends n (pFirstKey (l.take n) p m stk) := he
    show pFirstKey l p m stk = pFirstKey (l.take n) p m stk
    unfold pFirstKey at he ⊢
    rcases Nat.lt_or_ge (skipB l p) n with hlt | hge
    · rw [hs, Nat.min_eq_left (by omega), get_cut hlt] at he ⊢
      by_cases hc : l[skipB l p]? = some 125
      · rw [if_pos hc, if_pos hc]; rfl
      · rw [if_neg hc] at he ⊢; rw [if_neg hc]; exact key_grow hn hp he
    · rw [hs, Nat.min_eq_right hge, get_end hn, if_neg (show ¬ ((none : Option UInt8) = some 125) by simp)] at he
      cases stk with
      | nil => exact he.elim
      | cons x r =>
        obtain ⟨v, k⟩ := x
        simp only [pKey] at he
        rw [hs, Nat.min_eq_right hge, get_end hn, if_neg (show ¬ ((none : Option UInt8) = some 34) by simp)] at he
        exact he.elim
  | 3, _ => exact key_grow hn hp he
  | 4, _ =>
    have he : ends n (pColon (l.take n) p m stk) := he
    show pColon l p m stk = pColon (l.take n) p m stk
    unfold pColon at he ⊢
    rcases Nat.lt_or_ge (skipB l p) n with hlt | hge
    · rw [hs, Nat.min_eq_left (by omega), get_cut hlt] at he ⊢
      by_cases hc : l[skipB l p]? = some 58
      · rw [if_pos hc, if_pos hc]
      · rw [if_neg hc] at he; exact he.elim
    · rw [hs, Nat.min_eq_right hge, get_end hn, if_neg (show ¬ ((none : Option UInt8) = some 58) by simp)] at he
      exact he.elim
  | 5, _ =>
    have he : ends n (pMore (l.take n) p m stk) := he
    show pMore l p m stk = pMore (l.take n) p m stk
    cases stk with
    | nil => exact he.elim
    | cons x r =>
      obtain ⟨v, k⟩ := x
      simp only [pMore] at he ⊢
      rw [hs] at he ⊢
      rcases Nat.lt_or_ge (skipB l p) n with hlt | hge
      · rw [Nat.min_eq_left (by omega), get_cut hlt] at he ⊢
        by_cases hc : l[skipB l p]? = some 44
        · rw [if_pos hc, if_pos hc]
        · rw [if_neg hc] at he ⊢
          rw [if_neg hc]
          by_cases hd : l[skipB l p]? = some (if v.kind = 6 then 125 else 93)
          · rw [if_pos hd, if_pos hd]; rfl
          · rw [if_neg hd] at he; exact he.elim
      · rw [Nat.min_eq_right hge, get_end hn, if_neg (show ¬ ((none : Option UInt8) = some 44) by simp), if_neg (show ¬ ((none : Option UInt8) = some (if v.kind = 6 then 125 else 93)) by simp)] at he
        exact he.elim
/-- rows that agree so far: a step that ends ahead is the same -/
theorem step_agree {l' : List UInt8} {n s p m : Nat} {stk : JStk} (ha : l.take n = l'.take n) (hn : n ≤ l.length) (hn' : n ≤ l'.length) (hp : p ≤ n) (h5 : s ≤ 5) (he : ends n (pStep l (.go s p m stk))) : pStep l' (.go s p m stk) = pStep l (.go s p m stk) := by
  have hc := step_cut (l := l) (m := m) (stk := stk) hn hp h5
  have h1 : pStep (l.take n) (.go s p m stk) = pStep l (.go s p m stk) := by
    generalize pStep l (.go s p m stk) = nx at hc he
    cases nx with
    | fail a b => exact he.elim
    | go s' p' m' stk' =>
      have hc : if p' ≤ n then _ else _ := hc
      have he : p' < n := he
      rw [if_pos (by omega)] at hc; exact hc
    | done q v =>
      have hc : if q ≤ n then _ else _ := hc
      have he : q < n := he
      rw [if_pos (by omega)] at hc; exact hc
  rw [← h1] at he ⊢
  rw [ha] at he ⊢
  exact step_grow hn' hp h5 he
end Ends
end Go.Proofs.YtalhoacancbldaaDoor

/- Plain: an error of a step hangs on the bytes up to its place, but for those that the statement sets aside. -/
namespace Go.Proofs.YtalhoacancbldaaDoor
set_option linter.unusedVariables false
set_option linter.unusedSimpArgs false
open Go.RowKit

section EndsF
variable {l : List UInt8}
/-- errors that are set aside: at the row's end, a number's, a double key, a code point's; a sign that goes on -/
def aside (l : List UInt8) (p e : Int) : Prop := e = 6 ∨ e = 130 ∨ e = 141 ∨ e = 110 ∨ (0 ≤ p ∧ ∃ c, l[p.toNat]? = some c ∧ (c.toNat = 92 ∨ (c.toNat < 32 ∧ e = 7)))
theorem failF_aside {p e : Int} (h : aside l p e) : aside l (failF l p e).1 (failF l p e).2 := by
  unfold failF
  simp only
  split
  · exact .inl rfl
  · exact h
theorem qRead_aside {a : Nat} (ha : a < l.length) (h34 : l[a]? = some 34) (h : (qRead l a).2.2 ≠ 0) : aside l (qRead l a).2.1 (qRead l a).2.2 := by
  obtain ⟨hge, hin⟩ := ce_in (l := l) (a := a + 1) (by omega)
  have hst := signs_stop (l := l) (a := a + 1) (by omega)
  rw [qRead_in ha, if_neg (by rw [h34]; simp)] at h ⊢
  generalize hE : qEnd (a + 1) (signsL l (a + 1)) = E at h hge hin hst ⊢
  by_cases h2 : l[E]? = some 34
  · rw [if_pos h2] at h; exact absurd rfl h
  · rw [if_neg h2] at h ⊢
    show aside l (E : Int) (qSign l (E : Int)).2.2
    have h : (qSign l (E : Int)).2.2 ≠ 0 := h
    rcases Nat.lt_or_eq_of_le hin with hlt | heq
    · rw [qSign_in hlt] at h ⊢
      obtain ⟨c, hc⟩ : ∃ c, l[E]? = some c := ⟨_, List.getElem?_eq_getElem hlt⟩
      unfold qsS at h ⊢
      rw [hc] at h ⊢
      simp only at h ⊢
      by_cases c1 : c.toNat = 92
      · exact .inr (.inr (.inr (.inr ⟨by omega, c, by simpa using hc, .inl c1⟩)))
      · rw [if_neg c1] at h ⊢
        by_cases c2 : c.toNat < 32 ∨ c.toNat = 34
        · rw [if_pos c2] at h ⊢
          rcases c2 with c2 | c2
          · exact .inr (.inr (.inr (.inr ⟨by omega, c, by simpa using hc, .inr ⟨c2, rfl⟩⟩)))
          · exact absurd (by rw [hc]; congr 1; exact UInt8.toNat_inj.1 (by rw [c2]; rfl)) h2
        · rw [if_neg c2] at h ⊢
          rw [nextR_in hlt] at h ⊢
          by_cases c3 : (cpBegin (l.drop E)).2 = 0
          · rw [if_pos c3]; exact .inr (.inr (.inr (.inl rfl)))
          · rw [if_neg c3] at h; exact absurd rfl h
    · left
      unfold qSign
      rw [if_neg (by omega), if_pos (by omega)]
theorem get_agree {l' : List UInt8} {n q : Nat} (h : l.take n = l'.take n) (hq : q < n) : l'[q]? = l[q]? := by
  rw [← get_cut (l := l) hq, h, get_cut hq]
theorem sees_agree {l' : List UInt8} {n q : Nat} (h : l.take n = l'.take n) (hq : q < n) (x : List UInt8) : seesB l' q x = seesB l q x := by
  unfold seesB; rw [get_agree h hq]
theorem digs_agree {l' : List UInt8} {n q : Nat} (h : l.take n = l'.take n) (hq : q + (digs l q).length < n) : digs l' q = digs l q := by
  have e : digs (l.take n) q = digs (l'.take n) q := by rw [h]
  rw [digs_cut, digs_cut, List.take_of_length_le (by omega)] at e
  have e2 := congrArg List.length e
  rw [List.length_take] at e2
  rw [List.take_of_length_le (by omega)] at e
  exact e.symm
theorem wordMis_agree {l' : List UInt8} : ∀ {u : List UInt8} {p q : Nat}, wordMis l p u = some q → l.take (q + 1) = l'.take (q + 1) → wordMis l' p u = some q ∧ p ≤ q
  | [], p, q, h, _ => by cases h
  | c :: r, p, q, h, ha => by
    unfold wordMis at h ⊢
    by_cases hc : l[p]? = some c
    · rw [if_pos hc] at h
      obtain ⟨h1, h2⟩ := wordMis_agree h ha
      rw [get_agree ha (by omega), if_pos hc]
      exact ⟨h1, by omega⟩
    · rw [if_neg hc] at h
      injection h with h
      subst h
      rw [get_agree ha (by omega), if_neg hc]
      exact ⟨rfl, Nat.le_refl _⟩
theorem row_agree {l' : List UInt8} {gr : Bool} {n : Nat} {st st' : NSt} {r : Option Nat} (ha : l.take n = l'.take n) (h : rowS gr l st = (st', r)) (hn : match r with | none => st'.pos < n | some q => q < n) : rowS gr l' st = (st', r) := by
  unfold rowS at h ⊢
  by_cases hd : digs l st.pos = []
  · rw [if_pos hd] at h
    simp only [Prod.mk.injEq] at h
    obtain ⟨rfl, rfl⟩ := h
    rw [digs_agree ha (by rw [hd]; exact hn), if_pos hd]
  · rw [if_neg hd] at h
    simp only [Prod.mk.injEq] at h
    obtain ⟨rfl, rfl⟩ := h
    have hp : (digS gr (digs l st.pos) st).pos = st.pos + (digs l st.pos).length := by cases gr <;> rfl
    have hn : (digS gr (digs l st.pos) st).pos < n := hn
    rw [digs_agree ha (by omega), if_neg hd]
theorem rowS_posge {gr : Bool} {st st' : NSt} {r : Option Nat} (h : rowS gr l st = (st', r)) : match r with | none => st.pos < st'.pos | some q => q = st.pos := by
  unfold rowS at h
  by_cases hd : digs l st.pos = []
  · rw [if_pos hd] at h
    simp only [Prod.mk.injEq] at h
    obtain ⟨rfl, rfl⟩ := h
    rfl
  · rw [if_neg hd] at h
    simp only [Prod.mk.injEq] at h
    obtain ⟨rfl, rfl⟩ := h
    have hp : (digS gr (digs l st.pos) st).pos = st.pos + (digs l st.pos).length := by cases gr <;> rfl
    have := List.length_pos_iff.2 hd
    show st.pos < (digS gr (digs l st.pos) st).pos
    omega
/-- where a step of a numeral ends, or fails -/
def stepEnd (st' : NSt) (r : Option Nat) : Nat := match r with | none => st'.pos | some q => q
theorem row_agree' {l' : List UInt8} {gr : Bool} {n : Nat} {st st' : NSt} {r : Option Nat} (ha : l.take n = l'.take n) (h : rowS gr l st = (st', r)) (hn : stepEnd st' r < n) : rowS gr l' st = (st', r) ∧ st.pos ≤ stepEnd st' r := by
  refine ⟨row_agree ha h (by cases r <;> exact hn), ?_⟩
  have := rowS_posge h
  cases r with
  | none => exact Nat.le_of_lt this
  | some q => exact Nat.le_of_eq (Eq.symm this)
theorem take_agree {l' : List UInt8} {n : Nat} {st : NSt} (x : List UInt8) (ha : l.take n = l'.take n) (hn : st.pos < n) : takeS x l' st = takeS x l st := by
  unfold takeS; rw [sees_agree ha hn]
theorem stepK_agree {l' : List UInt8} {n k : Nat} {st st' : NSt} {r : Option Nat} (ha : l.take n = l'.take n) (h : stepK k l st = (st', r)) (hn : stepEnd st' r < n) : stepK k l' st = (st', r) := by
  rcases k with _ | _ | _ | k
  · have h : signS l st = (st', r) := h
    show signS l' st = (st', r)
    unfold signS at h ⊢
    simp only [Prod.mk.injEq] at h
    obtain ⟨rfl, rfl⟩ := h
    have hn : (takeS [45] l st).pos < n := hn
    have hge := takeS_ge (s := [45]) (l := l) (st := st)
    rw [take_agree _ ha (by omega), sees_agree ha (by omega)]
  · have h : wholeS l st = (st', r) := h
    show wholeS l' st = (st', r)
    unfold wholeS at h ⊢
    by_cases hz : seesB l st.pos [48] = true
    · rw [if_pos hz] at h
      simp only [Prod.mk.injEq] at h
      obtain ⟨rfl, rfl⟩ := h
      have hn : st.pos + 1 < n := hn
      rw [sees_agree ha (by omega), if_pos hz]
    · rw [if_neg hz] at h
      obtain ⟨h1, h2⟩ := row_agree' ha h hn
      rw [sees_agree ha (by omega), if_neg hz]
      exact h1
  · have h : fracS l st = (st', r) := h
    show fracS l' st = (st', r)
    unfold fracS at h ⊢
    by_cases hz : seesB l st.pos [46] = true
    · rw [if_pos hz] at h
      obtain ⟨h1, h2⟩ := row_agree' ha h hn
      have h2 : st.pos + 1 ≤ _ := h2
      rw [sees_agree ha (by omega), if_pos hz]
      exact h1
    · rw [if_neg hz] at h
      simp only [Prod.mk.injEq] at h
      obtain ⟨rfl, rfl⟩ := h
      have hn : st.pos < n := hn
      rw [sees_agree ha hn, if_neg hz]
  · have h : expS l st = (st', r) := h
    show expS l' st = (st', r)
    unfold expS at h ⊢
    by_cases hz : seesB l st.pos [101, 69] = true
    · rw [if_pos hz] at h
      obtain ⟨h1, h2⟩ := row_agree' ha h hn
      have hge := takeS_ge (s := [43, 45]) (l := l) (st := { st with pos := st.pos + 1, part := true })
      have hge : st.pos + 1 ≤ _ := hge
      rw [sees_agree ha (by omega), if_pos hz, take_agree _ ha (show st.pos + 1 < n by omega)]
      exact h1
    · rw [if_neg hz] at h
      simp only [Prod.mk.injEq] at h
      obtain ⟨rfl, rfl⟩ := h
      have hn : st.pos < n := hn
      rw [sees_agree ha hn, if_neg hz]
theorem rowS_some {gr : Bool} {st st' : NSt} {q : Nat} (h : rowS gr l st = (st', some q)) : q = st.pos := rowS_posge h
theorem stepK_some {k q : Nat} {st st' : NSt} (h : stepK k l st = (st', some q)) : st.pos ≤ q := by
  rcases k with _ | _ | _ | k
  · have h : signS l st = (st', some q) := h
    unfold signS at h
    simp at h
  · have h : wholeS l st = (st', some q) := h
    unfold wholeS at h
    split at h
    · simp at h
    · exact Nat.le_of_eq (rowS_some h).symm
  · have h : fracS l st = (st', some q) := h
    unfold fracS at h
    split at h
    · have h1 : q = st.pos + 1 := rowS_some h
      omega
    · simp at h
  · have h : expS l st = (st', some q) := h
    unfold expS at h
    split at h
    · have h1 := rowS_some h
      have hge := takeS_ge (s := [43, 45]) (l := l) (st := { st with pos := st.pos + 1, part := true })
      have hge : st.pos + 1 ≤ _ := hge
      omega
    · simp at h
theorem runK_some_ge : ∀ {ks : List Nat} {st st' : NSt} {q : Nat}, runK l ks st = (st', some q) → st.pos ≤ q
  | [], st, st', q, h => by simp [runK] at h
  | k :: ks, st, st', q, h => by
    obtain ⟨⟨s1, r⟩, hr⟩ : ∃ r, stepK k l st = r := ⟨_, rfl⟩
    cases r with
    | none =>
      rw [runK_none hr] at h
      exact Nat.le_trans (stepK_ge hr) (runK_some_ge h)
    | some p =>
      rw [runK_some hr] at h
      simp only [Prod.mk.injEq, Option.some.injEq] at h
      obtain ⟨rfl, rfl⟩ := h
      exact stepK_some hr
theorem runK_agree {l' : List UInt8} {n : Nat} (ha : l.take n = l'.take n) : ∀ {ks : List Nat} {st st' : NSt} {q : Nat}, runK l ks st = (st', some q) → q < n → runK l' ks st = (st', some q)
  | [], st, st', q, h, _ => by simp [runK] at h
  | k :: ks, st, st', q, h, hq => by
    obtain ⟨⟨s1, r⟩, hr⟩ : ∃ r, stepK k l st = r := ⟨_, rfl⟩
    cases r with
    | none =>
      rw [runK_none hr] at h
      have hge := runK_some_ge h
      rw [runK_none (stepK_agree ha hr (show s1.pos < n by omega))]
      exact runK_agree ha h hq
    | some p =>
      rw [runK_some hr] at h
      simp only [Prod.mk.injEq, Option.some.injEq] at h
      obtain ⟨rfl, rfl⟩ := h
      rw [runK_some (stepK_agree ha hr (show p < n from hq))]
theorem numRead_err {a : Nat} (hal : a ≤ l.length) (h : (numRead l a).2.2 ≠ 0) : (numRead l a).2.2 = 130 ∨ ∃ q : Nat, numRead l a = (0, (q : Int), 7) ∧ a ≤ q ∧ ∀ l' : List UInt8, a ≤ l'.length → l.take (q + 1) = l'.take (q + 1) → numRead l' a = (0, (q : Int), 7) := by
  unfold numRead at h ⊢
  rw [if_neg (by omega), Int.toNat_natCast] at h ⊢
  obtain ⟨⟨st, r⟩, hr⟩ : ∃ r, numRun l (numStart a) = r := ⟨_, rfl⟩
  rw [hr] at h ⊢
  cases r with
  | none =>
    simp only at h ⊢
    left
    unfold numEnd at h ⊢
    split
    · rfl
    · rename_i h1; rw [if_neg h1] at h; exact absurd rfl h
  | some q =>
    refine .inr ⟨q, rfl, runK_some_ge hr, fun l' hl' ha => ?_⟩
    rw [if_neg (by omega), show numRun l' (numStart a) = (st, some q) from runK_agree ha hr (by omega)]
end EndsF
end Go.Proofs.YtalhoacancbldaaDoor

/- Plain: a step's error hangs on the bytes up to its place. -/
namespace Go.Proofs.YtalhoacancbldaaDoor
set_option linter.unusedVariables false
set_option linter.unusedSimpArgs false
open Go.RowKit

section EndsG
variable {l : List UInt8}
theorem len_agree {l' : List UInt8} {q : Nat} (hq : q < l.length) (h : l.take (q + 1) = l'.take (q + 1)) : q < l'.length := by
  have e := congrArg List.length h
  rw [List.length_take, List.length_take] at e
  omega
theorem skip_agree {l' : List UInt8} {n p : Nat} (h : l.take n = l'.take n) (hp : p ≤ n) (hs : skipB l p < n) : skipB l' p = skipB l p := by
  have h1 := skipB_cut (l := l) hp
  have h2 := skipB_cut (l := l') hp
  rw [h, h2] at h1
  omega
theorem failF_in {p : Nat} {e : Int} (h : p < l.length) : failF l (p : Int) e = ((p : Int), e) := by
  unfold failF
  rw [if_neg (by omega)]
theorem failF_end {p : Nat} (h : l.length ≤ p) : (failF l (p : Int) 7).2 = 6 := by
  unfold failF
  rw [if_pos ⟨rfl, by omega⟩]
/-- an error that all agreeing rows share -/
def shared (l : List UInt8) (a : Nat) (f : List UInt8 → Prop) (at_ e : Int) : Prop := aside l at_ e ∨ ∃ q : Nat, at_ = q ∧ q < l.length ∧ a ≤ q ∧ ∀ l' : List UInt8, l.take (q + 1) = l'.take (q + 1) → f l'
theorem atom_fail {a : Nat} {c : UInt8} {p e : Int} (ha : a < l.length) (hc : l[a]? = some c) (h : atomJ l a c = .inr (p, e)) : shared l a (fun l' => atomJ l' a c = .inr (p, e)) p e := by
  have hw : ∀ u w, wordJ l a u w = .inr (p, e) → shared l a (fun l' => wordJ l' a u w = .inr (p, e)) p e := fun u w h => by
    unfold wordJ at h
    cases hm : wordMis l a u with
    | none => rw [hm] at h; cases h
    | some q =>
      rw [hm] at h
      injection h with h
      rcases Nat.lt_or_ge q l.length with hq | hq
      · rw [failF_in hq] at h
        simp only [Prod.mk.injEq] at h
        obtain ⟨rfl, rfl⟩ := h
        refine .inr ⟨q, rfl, hq, (wordMis_agree hm rfl).2, fun l' hl => ?_⟩
        show wordJ l' a u w = _
        unfold wordJ
        rw [(wordMis_agree hm hl).1]
        simp only
        rw [failF_in (len_agree hq hl)]
      · have := failF_end hq
        rw [h] at this
        exact .inl (.inl this)
  unfold atomJ at h
  by_cases c1 : c.toNat = 34
  · rw [if_pos c1] at h
    left
    have h34 : l[a]? = some 34 := by rw [hc]; congr 1; exact UInt8.toNat_inj.1 (by rw [c1]; rfl)
    unfold textJ at h
    split at h
    · cases h
    · rename_i h0
      injection h with h
      have := failF_aside (qRead_aside ha h34 h0)
      rw [h] at this; exact this
  rw [if_neg c1] at h
  have hx : ∀ l' : List UInt8, atomJ l' a c = if c.toNat = 110 then wordJ l' a nullT (.mk 1 0 [] [] []) else if c.toNat = 116 then wordJ l' a trueT (.mk 2 1 [] [] [])
      else if c.toNat = 102 then wordJ l' a falseT (.mk 2 0 [] [] []) else numJ l' a := fun l' => by unfold atomJ; rw [if_neg c1]
  simp only [hx]
  by_cases c2 : c.toNat = 110
  · simp only [if_pos c2] at h ⊢; exact hw _ _ h
  by_cases c3 : c.toNat = 116
  · simp only [if_neg c2, if_pos c3] at h ⊢; exact hw _ _ h
  by_cases c4 : c.toNat = 102
  · simp only [if_neg c2, if_neg c3, if_pos c4] at h ⊢; exact hw _ _ h
  simp only [if_neg c2, if_neg c3, if_neg c4] at h ⊢
  unfold numJ at h
  split at h
  · cases h
  · rename_i h0
    injection h with h
    rcases numRead_err (by omega) h0 with h1 | ⟨q, h1, h2, h3⟩
    · have := failF_aside (l := l) (p := (numRead l a).2.1) (e := (numRead l a).2.2) (.inr (.inl h1))
      rw [h] at this; exact .inl this
    · rw [h1] at h
      simp only at h
      rcases Nat.lt_or_ge q l.length with hq | hq
      · rw [failF_in hq] at h
        simp only [Prod.mk.injEq] at h
        obtain ⟨rfl, rfl⟩ := h
        refine .inr ⟨q, rfl, hq, h2, fun l' hl => ?_⟩
        have hq' := len_agree hq hl
        show numJ l' a = _
        unfold numJ
        rw [h3 l' (by omega) hl, if_neg (show ¬ ((7 : Int) = 0) by decide)]
        simp only
        rw [failF_in hq']
      · have := failF_end hq
        rw [h] at this
        exact .inl (.inl this)
theorem begin_fail {p m d : Nat} {at_ e : Int} (hp : p ≤ l.length) (h : beginJ l p m d = .err at_ e) : shared l (skipB l p) (fun l' => beginJ l' p m d = .err at_ e) at_ e := by
  have hge := skipB_ge l p
  unfold beginJ at h
  cases hc : l[skipB l p]? with
  | none =>
    rw [hc] at h
    simp only [BRes.err.injEq] at h
    have := failF_end (List.getElem?_eq_none_iff.1 hc)
    rw [h.2] at this
    exact .inl (.inl this)
  | some c =>
    have hlt := get_lt hc
    rw [hc] at h
    simp only at h
    have hb : ∀ l' : List UInt8, l.take (skipB l p + 1) = l'.take (skipB l p + 1) → skipB l' p = skipB l p ∧ l'[skipB l p]? = some c ∧ skipB l p < l'.length := fun l' hl =>
      ⟨skip_agree hl (by omega) (by omega), (get_agree hl (by omega)).trans hc, len_agree hlt hl⟩
    by_cases h1 : beginsB c = false
    · rw [if_pos h1, failF_in hlt] at h
      simp only [BRes.err.injEq] at h
      obtain ⟨rfl, rfl⟩ := h
      refine .inr ⟨_, rfl, hlt, Nat.le_refl _, fun l' hl => ?_⟩
      obtain ⟨e1, e2, e3⟩ := hb l' hl
      show beginJ l' p m d = _
      unfold beginJ
      rw [e1, e2]
      simp only
      rw [if_pos h1, failF_in e3]
    rw [if_neg h1] at h
    by_cases h2 : m = 256
    · rw [if_pos h2] at h
      simp only [BRes.err.injEq] at h
      obtain ⟨rfl, rfl⟩ := h
      refine .inr ⟨_, rfl, hlt, Nat.le_refl _, fun l' hl => ?_⟩
      obtain ⟨e1, e2, e3⟩ := hb l' hl
      show beginJ l' p m d = _
      unfold beginJ
      rw [e1, e2]
      simp only
      rw [if_neg h1, if_pos h2]
    rw [if_neg h2] at h
    by_cases h3 : c.toNat = 91 ∨ c.toNat = 123
    · rw [if_pos h3] at h
      by_cases h4 : d = 8
      · rw [if_pos h4] at h
        simp only [BRes.err.injEq] at h
        obtain ⟨rfl, rfl⟩ := h
        refine .inr ⟨_, rfl, hlt, Nat.le_refl _, fun l' hl => ?_⟩
        obtain ⟨e1, e2, e3⟩ := hb l' hl
        show beginJ l' p m d = _
        unfold beginJ
        rw [e1, e2]
        simp only
        rw [if_neg h1, if_neg h2, if_pos h3, if_pos h4]
      · rw [if_neg h4] at h; cases h
    rw [if_neg h3] at h
    cases hat : atomJ l (skipB l p) c with
    | inl r => obtain ⟨v, q⟩ := r; rw [hat] at h; cases h
    | inr r =>
      obtain ⟨p', e'⟩ := r
      rw [hat] at h
      simp only [BRes.err.injEq] at h
      obtain ⟨rfl, rfl⟩ := h
      rcases atom_fail hlt hc hat with h5 | ⟨q, h5, h6, h7, h8⟩
      · exact .inl h5
      · refine .inr ⟨q, h5, h6, h7, fun l' hl => ?_⟩
        have hl2 : l.take (skipB l p + 1) = l'.take (skipB l p + 1) := by
          have e := congrArg (List.take (skipB l p + 1)) hl
          rw [List.take_take, List.take_take, Nat.min_eq_left (by omega)] at e; exact e
        obtain ⟨e1, e2, e3⟩ := hb l' hl2
        show beginJ l' p m d = _
        unfold beginJ
        rw [e1, e2]
        simp only
        rw [if_neg h1, if_neg h2, if_neg h3, h8 l' hl]
theorem put_nofail {q m : Nat} {v : JV} {stk : JStk} {a e : Int} (h : pPut v q m stk = .fail a e) : False := by
  cases stk with
  | nil => cases h
  | cons x r => cases h
theorem value_fail {p m : Nat} {stk : JStk} {at_ e : Int} (hp : p ≤ l.length) (h : pValue l p m stk = .fail at_ e) : shared l (skipB l p) (fun l' => pValue l' p m stk = .fail at_ e) at_ e := by
  unfold pValue at h
  cases hb : beginJ l p m stk.length with
  | atom v q => rw [hb] at h; exact (put_nofail h).elim
  | opens q o => rw [hb] at h; cases h
  | err a x =>
    rw [hb] at h
    injection h with h1 h2
    subst h1; subst h2
    rcases begin_fail hp hb with h5 | ⟨q, h5, h6, h7, h8⟩
    · exact .inl h5
    · refine .inr ⟨q, h5, h6, h7, fun l' hl => ?_⟩
      show pValue l' p m stk = _
      unfold pValue
      rw [h8 l' hl]
end EndsG
end Go.Proofs.YtalhoacancbldaaDoor

/- Plain: THE LAW OF ParseEnds: an error's place hangs on the bytes up to it. -/
namespace Go.Proofs.YtalhoacancbldaaDoor
set_option linter.unusedVariables false
set_option linter.unusedSimpArgs false
open Go.RowKit

section EndsL
variable {l : List UInt8}
theorem miss_fail {p : Nat} {at_ e : Int} {f : List UInt8 → Prop} (h : pFail l (skipB l p) 7 = .fail at_ e) (hf : ∀ l' : List UInt8, skipB l' p = skipB l p → l'[skipB l p]? = l[skipB l p]? → pFail l' (skipB l p) 7 = .fail at_ e → f l') : shared l (skipB l p) f at_ e := by
  have hge := skipB_ge l p
  unfold pFail at h
  injection h with h1 h2
  rcases Nat.lt_or_ge (skipB l p) l.length with hlt | hge'
  · rw [failF_in hlt] at h1 h2
    simp only at h1 h2
    subst h1; subst h2
    refine .inr ⟨_, rfl, hlt, Nat.le_refl _, fun l' hl => ?_⟩
    refine hf l' (skip_agree hl (by omega) (by omega)) (get_agree hl (by omega)) ?_
    unfold pFail
    rw [failF_in (len_agree hlt hl)]
  · have := failF_end hge'
    rw [h2] at this
    exact .inl (.inl this)
theorem key_fail {p m : Nat} {stk : JStk} {at_ e : Int} (hs : stk ≠ []) (h : pKey l p m stk = .fail at_ e) : shared l (skipB l p) (fun l' => pKey l' p m stk = .fail at_ e) at_ e := by
  match stk, hs with
  | (v, k) :: r, _ =>
    simp only [pKey] at h
    by_cases h34 : l[skipB l p]? = some 34
    · rw [if_pos h34] at h
      by_cases h0 : (qRead l (skipB l p)).2.2 = 0
      · rw [if_pos h0] at h
        split at h
        · injection h with h1 h2
          exact .inl (.inr (.inr (.inl h2.symm)))
        · cases h
      · rw [if_neg h0] at h
        unfold pFail at h
        injection h with h1 h2
        subst h1; subst h2
        exact .inl (failF_aside (qRead_aside (get_lt h34) h34 h0))
    · rw [if_neg h34] at h
      refine miss_fail h fun l' e1 e2 e3 => ?_
      show pKey l' p m ((v, k) :: r) = _
      simp only [pKey]
      rw [e1, e2, if_neg h34]
      exact e3
theorem close_nofail {q m : Nat} {stk : JStk} {a e : Int} (hs : stk ≠ []) (h : pClose l q m stk = .fail a e) : False := by
  cases stk with
  | nil => exact hs rfl
  | cons x r => exact put_nofail h
theorem shared_and {p a : Nat} {f g : List UInt8 → Prop} {at_ e : Int} (h : shared l (skipB l p) f at_ e) (hf : ∀ l' : List UInt8, skipB l' p = skipB l p → l'[skipB l p]? = l[skipB l p]? → f l' → g l') : shared l (skipB l p) g at_ e := by
  have hge := skipB_ge l p
  rcases h with h | ⟨q, h1, h2, h3, h4⟩
  · exact .inl h
  · exact .inr ⟨q, h1, h2, h3, fun l' hl => hf l' (skip_agree hl (by omega) (by omega)) (get_agree hl (by omega)) (h4 l' hl)⟩
theorem step_fail {s p m : Nat} {stk : JStk} {at_ e : Int} (h : okG l s p m stk) (hx : pStep l (.go s p m stk) = .fail at_ e) : shared l (skipB l p) (fun l' => pStep l' (.go s p m stk) = .fail at_ e) at_ e := by
  have h5 := h.h5
  match s, h, h5, hx with
  | 0, h, _, hx => exact value_fail h.hp hx
  | 1, h, _, hx =>
    have hne := h.hs.resolve_left (by decide)
    have hx : pFirst l p m stk = .fail at_ e := hx
    show shared l (skipB l p) (fun l' => pFirst l' p m stk = .fail at_ e) at_ e
    unfold pFirst at hx
    by_cases hc : l[skipB l p]? = some 93
    · rw [if_pos hc] at hx; exact (close_nofail hne hx).elim
    · rw [if_neg hc] at hx
      refine shared_and (a := 0) (value_fail h.hp hx) fun l' e1 e2 e3 => ?_
      show pFirst l' p m stk = _
      unfold pFirst
      rw [e1, e2, if_neg hc]; exact e3
  | 2, h, _, hx =>
    have hne := h.hs.resolve_left (by decide)
    have hx : pFirstKey l p m stk = .fail at_ e := hx
    show shared l (skipB l p) (fun l' => pFirstKey l' p m stk = .fail at_ e) at_ e
    unfold pFirstKey at hx
    by_cases hc : l[skipB l p]? = some 125
    · rw [if_pos hc] at hx; exact (close_nofail hne hx).elim
    · rw [if_neg hc] at hx
      refine shared_and (a := 0) (key_fail hne hx) fun l' e1 e2 e3 => ?_
      show pFirstKey l' p m stk = _
      unfold pFirstKey
      rw [e1, e2, if_neg hc]; exact e3
  | 3, h, _, hx => exact key_fail (h.hs.resolve_left (by decide)) hx
  | 4, h, _, hx =>
    have hx : pColon l p m stk = .fail at_ e := hx
    show shared l (skipB l p) (fun l' => pColon l' p m stk = .fail at_ e) at_ e
    unfold pColon at hx
    by_cases hc : l[skipB l p]? = some 58
    · rw [if_pos hc] at hx; cases hx
    · rw [if_neg hc] at hx
      refine miss_fail hx fun l' e1 e2 e3 => ?_
      show pColon l' p m stk = _
      unfold pColon
      rw [e1, e2, if_neg hc]; exact e3
  | 5, h, _, hx =>
    have hne := h.hs.resolve_left (by decide)
    match stk, h, hne, hx with
    | (v, k) :: r, h, hne, hx =>
      have hx : pMore l p m ((v, k) :: r) = .fail at_ e := hx
      show shared l (skipB l p) (fun l' => pMore l' p m ((v, k) :: r) = .fail at_ e) at_ e
      simp only [pMore] at hx
      by_cases hc : l[skipB l p]? = some 44
      · rw [if_pos hc] at hx; cases hx
      · rw [if_neg hc] at hx
        by_cases hd : l[skipB l p]? = some (if v.kind = 6 then 125 else 93)
        · rw [if_pos hd] at hx; exact (close_nofail hne hx).elim
        · rw [if_neg hd] at hx
          refine miss_fail hx fun l' e1 e2 e3 => ?_
          show pMore l' p m ((v, k) :: r) = _
          simp only [pMore]
          rw [e1, e2, if_neg hc, if_neg hd]; exact e3
theorem run_ends {r : PRes} (he : isEnd r) (h0 : (parseOut l r).2.2 ≠ 0) (ha : ¬ aside l (parseOut l r).2.1 (parseOut l r).2.2) : ∀ (k s p m : Nat) (stk : JStk), okG l s p m stk → kindsOk stk → pRun l k (.go s p m stk) = r →
    ∃ a : Nat, (parseOut l r).2.1 = a ∧ a < l.length ∧ p ≤ a ∧ ∀ l' : List UInt8, l.take (a + 1) = l'.take (a + 1) → ∃ r', Reach l' (.go s p m stk) r' ∧ isEnd r' ∧ (parseOut l' r').2 = ((a : Int), (parseOut l r).2.2)
  | 0, s, p, m, stk, _, _, h => by subst h; exact he.elim
  | k + 1, s, p, m, stk, hok, hk, h => by
    rw [pRun_succ] at h
    have hw := step_what hok hk
    have ho := step_ok hok
    have hge := skipB_ge l p
    have hple := hok.hp
    obtain ⟨nx, hx⟩ : ∃ nx, pStep l (.go s p m stk) = nx := ⟨_, rfl⟩
    rw [hx] at h hw ho
    cases nx with
    | fail a b =>
      rw [pRun_fail] at h
      subst h
      rcases step_fail hok hx with h1 | ⟨q, h1, h2, h3, h4⟩
      · exact absurd h1 ha
      · subst h1
        exact ⟨q, rfl, h2, by omega, fun l' hl => ⟨.fail q b, Reach.step' (h4 l' hl) (Reach.refl _), trivial, rfl⟩⟩
    | done q v =>
      rw [pRun_done] at h
      subst h
      have hpq : p < q := hw.2
      have hge2 := skipB_ge l q
      unfold parseOut at h0 ⊢
      simp only at h0 ⊢
      by_cases hq : skipB l q < l.length
      · rw [if_pos hq] at h0 ⊢
        refine ⟨skipB l q, rfl, hq, by omega, fun l' hl => ?_⟩
        have hl' := len_agree hq hl
        have hs : pStep l' (.go s p m stk) = .done q v := by
          rw [← hx]
          refine step_agree hl (by omega) (by omega) (by omega) hok.h5 ?_
          rw [hx]
          show q < skipB l q + 1
          omega
        refine ⟨.done q v, Reach.step' hs (Reach.refl _), trivial, ?_⟩
        have e := skip_agree (p := q) hl (by omega) (by omega)
        show (if skipB l' q < l'.length then (jZero, (skipB l' q : Int), (7 : Int)) else (v, 0, 0)).2 = _
        rw [e, if_pos hl']
      · rw [if_neg hq] at h0; exact absurd rfl h0
    | go s' p' m' stk' =>
      have hpp : p < p' := hw.2
      obtain ⟨a, h1, h2, h3, h4⟩ := run_ends he h0 ha k s' p' m' stk' ho.1 hw.1 h
      refine ⟨a, h1, h2, by omega, fun l' hl => ?_⟩
      have hl' := len_agree h2 hl
      obtain ⟨r', h5, h6, h7⟩ := h4 l' hl
      refine ⟨r', Reach.step' ?_ h5, h6, h7⟩
      rw [← hx]
      refine step_agree hl (by omega) (by omega) (by omega) hok.h5 ?_
      rw [hx]
      show p' < a + 1
      omega
/-- THE LAW: what follows an error's place does not change it -/
theorem ends_law {o : JV × Int × Int} (hl : l.length ≤ 2048) (h : ParseR l o) (h0 : o.2.2 ≠ 0) (ha : ¬ aside l o.2.1 o.2.2) :
    ∃ a : Nat, o.2.1 = a ∧ a < l.length ∧ ∀ (l' : List UInt8) (o' : JV × Int × Int), l'.length ≤ 2048 → l.take (a + 1) = l'.take (a + 1) → ParseR l' o' → o'.2.1 = a ∧ o'.2.2 = o.2.2 := by
  unfold ParseR at h
  rw [if_neg (by omega)] at h
  obtain ⟨r, ⟨k, h1⟩, h2, h3, rfl⟩ := h
  obtain ⟨a, h4, h5, _, h6⟩ := run_ends h2 h0 ha k 0 0 0 [] (start_ok (Nat.zero_le _)) (fun _ h => by cases h) h1
  refine ⟨a, h4, h5, fun l' o' hl' hl2 h' => ?_⟩
  obtain ⟨r', h7, h8, h9⟩ := h6 l' hl2
  rw [ParseR_det hl' h7 h8 h', h9]
  exact ⟨rfl, rfl⟩
end EndsL
end Go.Proofs.YtalhoacancbldaaDoor
