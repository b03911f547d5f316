/- Plain: a text that was read is read in a row that goes on, too. -/
import Derived.Test.YtalhoacancbldaaDoorJoinN
import Derived.Test.YtalhoacancbldaaDoorTotal5
namespace Go.Proofs.YtalhoacancbldaaDoor
set_option linter.unusedVariables false
set_option linter.unusedSimpArgs false

/-- a byte that no number goes on with -/
def stopB (b : UInt8) : Bool := b == 9 || b == 10 || b == 13 || b == 32 || b == 44 || b == 93 || b == 125
theorem stop_cases {b : UInt8} (h : stopB b = true) : b = 9 ∨ b = 10 ∨ b = 13 ∨ b = 32 ∨ b = 44 ∨ b = 93 ∨ b = 125 := by
  unfold stopB at h
  simp only [Bool.or_eq_true, beq_iff_eq] at h
  rcases h with ((((((h | h) | h) | h) | h) | h) | h)
  all_goals simp [h]
section
variable {s t : List UInt8} {b : UInt8}
theorem blank_digC (hb : stopB b = true) : isDig b = false := by rcases stop_cases hb with rfl | rfl | rfl | rfl | rfl | rfl | rfl <;> decide
theorem digs_joinC {p : Nat} (hp : p ≤ s.length) (hb : stopB b = true) : digs (s ++ b :: t) p = digs s p := by unfold digs; rw [drop_join hp, tw_join (blank_digC hb)]
theorem rowS_joinC (hb : stopB b = true) {gr : Bool} {st : NSt} (hp : st.pos ≤ s.length) : rowS gr (s ++ b :: t) st = rowS gr s st := by unfold rowS; rw [digs_joinC hp hb]
theorem blank_inC (hb : stopB b = true) : ([45] : List UInt8).contains b = false ∧ ([48] : List UInt8).contains b = false ∧ ([46] : List UInt8).contains b = false ∧ ([101, 69] : List UInt8).contains b = false ∧ ([43, 45] : List UInt8).contains b = false := by
  rcases stop_cases hb with rfl | rfl | rfl | rfl | rfl | rfl | rfl <;> decide
theorem stepK_joinC (hb : stopB b = true) {k : Nat} {st : NSt} (hp : st.pos ≤ s.length) : stepK k (s ++ b :: t) st = stepK k s st := by
  obtain ⟨h1, h2, h3, h4, h5⟩ := blank_inC hb
  rcases k with _ | _ | _ | k
  · show signS _ _ = signS _ _
    unfold signS; rw [takeS_join h1 hp, sees_join hp h1]
  · show wholeS _ _ = wholeS _ _
    unfold wholeS; rw [sees_join hp h2, rowS_joinC hb hp]
  · show fracS _ _ = fracS _ _
    unfold fracS; rw [sees_join hp h3]
    split
    · rename_i h; exact rowS_joinC hb (sees_lt2 h)
    · rfl
  · show expS _ _ = expS _ _
    unfold expS; rw [sees_join hp h4]
    split
    · rename_i h
      have hq : ({ st with pos := st.pos + 1, part := true } : NSt).pos ≤ s.length := sees_lt2 h
      rw [takeS_join h5 hq]
      refine rowS_joinC hb ?_
      unfold takeS
      split
      · rename_i h'; exact sees_lt2 h'
      · exact hq
    · rfl
theorem runK_joinC (hb : stopB b = true) : ∀ (ks : List Nat) (st : NSt), st.pos ≤ s.length → st.size < 18446744073709551616 → runK (s ++ b :: t) ks st = runK s ks st
  | [], _, _, _ => rfl
  | k :: ks, st, hp, hs => by
    obtain ⟨⟨s1, r1⟩, e1⟩ : ∃ r, stepK k s st = r := ⟨_, rfl⟩
    have e2 : stepK k (s ++ b :: t) st = (s1, r1) := by rw [stepK_joinC hb hp, e1]
    have h1 := stepK_le e1 hp hs
    cases r1 with
    | none => rw [runK_none e1, runK_none e2]; exact runK_joinC hb ks s1 h1.1 h1.2
    | some q => rw [runK_some e1, runK_some e2]
theorem numRead_joinC (hb : stopB b = true) {p : Nat} (hp : p ≤ s.length) : numRead (s ++ b :: t) (p : Int) = numRead s (p : Int) := by
  unfold numRead numRun
  rw [if_neg (by simp; omega), if_neg (by omega), runK_joinC hb _ _ (by show (p : Int).toNat ≤ _; omega) (by show 0 < _; omega)]
theorem skip_more {a : Nat} (h : skipB s a < s.length) : skipB (s ++ t) a = skipB s a := by
  have ha : a ≤ s.length := by have := skipB_ge s a; omega
  unfold skipB
  rw [List.drop_append_of_le_length ha, tw_lt (skipB_in.1 h).2]
theorem get_more {q : Nat} {c : UInt8} (h : s[q]? = some c) : (s ++ t)[q]? = some c := by rw [List.getElem?_append_left (get_lt h)]; exact h
theorem next_more {q : Nat} {c : UInt8} (h : s[skipB s q]? = some c) : (s ++ t)[skipB (s ++ t) q]? = some c ∧ skipB (s ++ t) q = skipB s q := by
  have e := skip_more (t := t) (get_lt h)
  exact ⟨by rw [e]; exact get_more h, e⟩
theorem text_more {a m : Nat} {u : List UInt8} (ha : a < s.length) (h : qRead s a = (u, (m : Int), 0)) : qRead (s ++ t) a = (u, (m : Int), 0) :=
  qRead_grow (l := s ++ t) (n := s.length) (by simp) ha (by rw [List.take_left]; exact h)
theorem word_more : ∀ {u : List UInt8} {p : Nat}, wordMis s p u = none → wordMis (s ++ t) p u = none
  | [], _, _ => rfl
  | c :: u, p, h => by
    unfold wordMis at h ⊢
    split at h
    · rename_i hc; rw [if_pos (get_more hc)]; exact word_more h
    · cases h
theorem atom_more (hb : stopB b = true) {p : Nat} {c : UInt8} {v : JV} {q : Nat} (hc : s[p]? = some c) (h : atomJ s p c = .inl (v, q)) : atomJ (s ++ b :: t) p c = .inl (v, q) := by
  have hp := get_lt hc
  have hw : ∀ u w, wordJ s p u w = .inl (v, q) → wordJ (s ++ b :: t) p u w = .inl (v, q) := fun u w h => by
    unfold wordJ at h ⊢
    cases hm : wordMis s p u with
    | some k => rw [hm] at h; cases h
    | none => rw [hm] at h; rw [word_more hm]; exact h
  unfold atomJ at h ⊢
  split
  · rename_i c1
    rw [if_pos c1] at h
    unfold textJ at h ⊢
    split at h
    · rename_i h0
      obtain ⟨m, hm, _⟩ := qRead_ok h0
      have e : qRead s p = ((qRead s p).1, (m : Int), 0) := by
        obtain ⟨⟨x, y, z⟩, hx⟩ : ∃ r, qRead s p = r := ⟨_, rfl⟩
        rw [hx] at hm h0 ⊢
        simp only at hm h0
        rw [hm, h0]
      have e2 := text_more (t := b :: t) hp e
      rw [e2, if_pos rfl]
      rw [hm] at h
      exact h
    · cases h
  rename_i c1
  rw [if_neg c1] at h
  split
  · rename_i c2; rw [if_pos c2] at h; exact hw _ _ h
  rename_i c2
  rw [if_neg c2] at h
  split
  · rename_i c3; rw [if_pos c3] at h; exact hw _ _ h
  rename_i c3
  rw [if_neg c3] at h
  split
  · rename_i c4; rw [if_pos c4] at h; exact hw _ _ h
  rename_i c4
  rw [if_neg c4] at h
  unfold numJ at h ⊢
  rw [numRead_joinC hb (by omega)]
  split at h
  · rename_i h0; rw [if_pos h0]; exact h
  · cases h
theorem begin_more (hb : stopB b = true) {a m d : Nat} : match beginJ s a m d with
    | .err _ _ => True
    | .atom v q => beginJ (s ++ b :: t) a m d = .atom v q ∧ q ≤ s.length ∧ skipB s a < s.length
    | .opens p o => beginJ (s ++ b :: t) a m d = .opens p o ∧ p < s.length ∧ skipB s a < s.length := by
  unfold beginJ
  cases hc : s[skipB s a]? with
  | none => trivial
  | some c =>
    obtain ⟨e1, e2⟩ := next_more (t := b :: t) hc
    have hlt := get_lt hc
    rw [e1, e2]
    simp only
    by_cases h1 : beginsB c = false
    · rw [if_pos h1]; trivial
    rw [if_neg h1, if_neg h1]
    by_cases h2 : m = 256
    · rw [if_pos h2]; trivial
    rw [if_neg h2, if_neg h2]
    by_cases h3 : c.toNat = 91 ∨ c.toNat = 123
    · rw [if_pos h3, if_pos h3]
      by_cases h4 : d = 8
      · rw [if_pos h4]; trivial
      · rw [if_neg h4]; exact ⟨rfl, hlt, hlt⟩
    · rw [if_neg h3, if_neg h3]
      cases hat : atomJ s (skipB s a) c with
      | inr r => trivial
      | inl r =>
        obtain ⟨v, q⟩ := r
        rw [atom_more hb hc hat]
        exact ⟨rfl, (atom_ok hat (by omega)).2, hlt⟩
theorem rd_at {a m d : Nat} {v : JV} {q k : Nat} (h : RdR s a m d (.ok v q k)) : skipB s a < s.length := by
  have hb := begin_more (s := s) (t := []) (b := 32) (by decide) (a := a) (m := m) (d := d)
  cases h with
  | atom h1 => rw [h1] at hb; exact hb.2.2
  | list0 h1 h2 => rw [h1] at hb; exact hb.2.2
  | list1 h1 h2 h3 => rw [h1] at hb; exact hb.2.2
  | obj0 h1 h2 => rw [h1] at hb; exact hb.2.2
  | obj1 h1 h2 h3 => rw [h1] at hb; exact hb.2.2
theorem ls_at {a m d : Nat} {kids : List JV} {v : JV} {q k : Nat} (h : LsR s a m d kids (.ok v q k)) : skipB s a < s.length := by
  cases h with
  | close h1 h2 => exact rd_at h1
  | comma h1 h2 h3 => exact rd_at h1
theorem ob_at {a m d : Nat} {keys : List (List UInt8)} {kids : List JV} {v : JV} {q k : Nat} (h : ObR s a m d keys kids (.ok v q k)) : skipB s a < s.length := by
  cases h with
  | close h1 _ _ _ _ _ => exact get_lt h1
  | comma h1 _ _ _ _ _ _ => exact get_lt h1
/-- a byte that does not stand there -/
theorem not_more {p : Nat} {c : UInt8} (hs : skipB s (skipB s p) < s.length) (h : s[skipB s p]? ≠ some c) : (s ++ t)[skipB (s ++ t) p]? ≠ some c ∧ skipB (s ++ t) p = skipB s p := by
  rw [skipB_idem] at hs
  have e := skip_more (t := t) hs
  rw [e, List.getElem?_append_left hs]
  exact ⟨h, rfl⟩
mutual
theorem rd_more (hb : stopB b = true) {a m d : Nat} {r : RRes} : RdR s a m d r → ∀ (v : JV) (q k : Nat), r = .ok v q k → RdR (s ++ b :: t) a m d (.ok v q k) ∧ q ≤ s.length
  | .err _, v, q, k, h => by cases h
  | .atom h, v, q, k, hr => by
    cases hr
    have h1 := begin_more (t := t) hb (s := s) (a := a) (m := m) (d := d)
    rw [h] at h1
    exact ⟨.atom h1.1, h1.2.1⟩
  | .list0 h h1, v, q, k, hr => by
    cases hr
    have h2 := begin_more (t := t) hb (s := s) (a := a) (m := m) (d := d)
    rw [h] at h2
    obtain ⟨g1, g2⟩ := next_more (t := b :: t) h1
    have h3 := RdR.list0 (d := d) h2.1 g1
    rw [g2] at h3
    exact ⟨h3, get_lt h1⟩
  | .list1 h h1 h3, v, q, k, hr => by
    have h2 := begin_more (t := t) hb (s := s) (a := a) (m := m) (d := d)
    rw [h] at h2
    obtain ⟨h4, h5⟩ := ls_more hb h3 v q k hr
    subst hr
    obtain ⟨g1, g2⟩ := not_more (t := b :: t) (ls_at h3) h1
    exact ⟨.list1 h2.1 g1 (by rw [g2]; exact h4), h5⟩
  | .obj0 h h1, v, q, k, hr => by
    cases hr
    have h2 := begin_more (t := t) hb (s := s) (a := a) (m := m) (d := d)
    rw [h] at h2
    obtain ⟨g1, g2⟩ := next_more (t := b :: t) h1
    have h3 := RdR.obj0 (d := d) h2.1 g1
    rw [g2] at h3
    exact ⟨h3, get_lt h1⟩
  | .obj1 h h1 h3, v, q, k, hr => by
    have h2 := begin_more (t := t) hb (s := s) (a := a) (m := m) (d := d)
    rw [h] at h2
    obtain ⟨h4, h5⟩ := ob_more hb h3 v q k hr
    subst hr
    obtain ⟨g1, g2⟩ := not_more (t := b :: t) (ob_at h3) h1
    exact ⟨.obj1 h2.1 g1 (by rw [g2]; exact h4), h5⟩
theorem ls_more (hb : stopB b = true) {a m d : Nat} {kids : List JV} {r : RRes} : LsR s a m d kids r → ∀ (v : JV) (q k : Nat), r = .ok v q k → LsR (s ++ b :: t) a m d kids (.ok v q k) ∧ q ≤ s.length
  | .err _, v, q, k, h => by cases h
  | .close h h1, v, q, k, hr => by
    cases hr
    obtain ⟨h2, h3⟩ := rd_more hb h _ _ _ rfl
    obtain ⟨g1, g2⟩ := next_more (t := b :: t) h1
    have h4 := LsR.close (kids := kids) h2 g1
    rw [g2] at h4
    exact ⟨h4, get_lt h1⟩
  | .comma h h1 h2, v, q, k, hr => by
    obtain ⟨h3, _⟩ := rd_more hb h _ _ _ rfl
    obtain ⟨g1, g2⟩ := next_more (t := b :: t) h1
    obtain ⟨h4, h5⟩ := ls_more hb h2 v q k hr
    exact ⟨.comma h3 g1 (by rw [g2]; exact h4), h5⟩
  | .bad _ _ _, _, _, _, h => by unfold rFail at h; cases h
theorem ob_more (hb : stopB b = true) {a m d : Nat} {keys : List (List UInt8)} {kids : List JV} {r : RRes} : ObR s a m d keys kids r → ∀ (v : JV) (q k : Nat), r = .ok v q k → ObR (s ++ b :: t) a m d keys kids (.ok v q k) ∧ q ≤ s.length
  | .nokey _, _, _, _, h => by unfold rFail at h; cases h
  | .badkey _ _, _, _, _, h => by unfold rFail at h; cases h
  | .double _ _ _, _, _, _, h => by cases h
  | .nocolon _ _ _ _, _, _, _, h => by unfold rFail at h; cases h
  | .err _ _ _ _ _, _, _, _, h => by cases h
  | .close h h1 h2 h3 h4 h5, v, q, k, hr => by
    cases hr
    obtain ⟨g1, g2⟩ := next_more (t := b :: t) h
    obtain ⟨j1, j2⟩ := next_more (t := b :: t) h3
    obtain ⟨l1, l2⟩ := next_more (t := b :: t) h5
    obtain ⟨h6, _⟩ := rd_more hb h4 _ _ _ rfl
    have h7 := ObR.close (keys := keys) (kids := kids) g1 (by rw [g2]; exact text_more (get_lt h) h1) h2 j1 (by rw [j2]; exact h6) l1
    rw [l2] at h7
    exact ⟨h7, get_lt h5⟩
  | .comma h h1 h2 h3 h4 h5 h8, v, q, k, hr => by
    obtain ⟨g1, g2⟩ := next_more (t := b :: t) h
    obtain ⟨j1, j2⟩ := next_more (t := b :: t) h3
    obtain ⟨l1, l2⟩ := next_more (t := b :: t) h5
    obtain ⟨h6, _⟩ := rd_more hb h4 _ _ _ rfl
    obtain ⟨h9, h10⟩ := ob_more hb h8 v q k hr
    exact ⟨.comma g1 (by rw [g2]; exact text_more (get_lt h) h1) h2 j1 (by rw [j2]; exact h6) l1 (by rw [l2]; exact h9), h10⟩
  | .bad _ _ _ _ _ _ _, _, _, _, h => by unfold rFail at h; cases h
end
end
end Go.Proofs.YtalhoacancbldaaDoor
