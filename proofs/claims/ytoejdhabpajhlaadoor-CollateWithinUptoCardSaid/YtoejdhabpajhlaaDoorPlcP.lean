/- Plain: rows of values in their order: a sorted row is one, the reference's Sort, where a value stands. -/
import Derived.Test.YtoejdhabpajhlaaDoorOrdP
namespace Go.Proofs.YtoejdhabpajhlaaDoor
set_option linter.unusedVariables false
set_option linter.unusedSimpArgs false
open Go.RowKit

/-- right within some levels -/
def gd (v : JV) : Prop := good v = true
theorem gd.j {v : JV} (h : gd v) : goodJ 8 v = true := by unfold gd good at h; rw [Bool.and_eq_true] at h; exact h.1
theorem cmp_le_trans {a b c : JV} (ha : gd a) (hb : gd b) (hc : gd c) (h1 : cmpJ a b ≤ 0) (h2 : cmpJ b c ≤ 0) : cmpJ a c ≤ 0 := by
  rcases cmpJ_3 a b with e1 | e1 | e1
  · rcases cmpJ_3 b c with e2 | e2 | e2
    · rw [cmpJ_trans ha.j hb.j hc.j e1 e2]; decide
    · rw [← cmpJ_eq hb.j hc.j e2]; exact h1
    · omega
  · rw [cmpJ_eq ha.j hb.j e1]; exact h2
  · omega
theorem cmp_le_anti {a b : JV} (ha : gd a) (hb : gd b) (h1 : cmpJ a b ≤ 0) (h2 : cmpJ b a ≤ 0) : a = b := by
  have := cmpJ_anti ha.j hb.j
  exact cmpJ_eq ha.j hb.j (by omega)
theorem cmp_total {a b : JV} (ha : gd a) (hb : gd b) : cmpJ a b ≤ 0 ∨ cmpJ b a ≤ 0 := by
  have := cmpJ_anti ha.j hb.j
  omega
/-- in order -/
def SortedJ (l : List JV) : Prop := l.Pairwise fun a b => cmpJ a b ≤ 0
theorem sorted_one : ∀ {l l' : List JV}, (∀ x ∈ l, gd x) → l.Perm l' → SortedJ l → SortedJ l' → l = l'
  | [], l', _, hp, _, _ => by rw [List.nil_perm.1 hp]
  | a :: r, [], _, hp, _, _ => by have := hp.length_eq; simp at this
  | a :: r, b :: r', hg, hp, h, h' => by
    have ha := hg a List.mem_cons_self
    have hb := hg b (hp.symm.subset List.mem_cons_self)
    have h1 := List.pairwise_cons.1 h
    have h2 := List.pairwise_cons.1 h'
    have e : a = b := by
      have q1 : cmpJ a b ≤ 0 := by
        rcases List.mem_cons.1 (hp.symm.subset (List.mem_cons_self (a := b) (l := r'))) with rfl | hm
        · rw [cmpJ_self]; decide
        · exact h1.1 b hm
      have q2 : cmpJ b a ≤ 0 := by
        rcases List.mem_cons.1 (hp.subset (List.mem_cons_self (a := a) (l := r))) with rfl | hm
        · rw [cmpJ_self]; decide
        · exact h2.1 a hm
      exact cmp_le_anti ha hb q1 q2
    subst e
    rw [sorted_one (fun x hx => hg x (List.mem_cons_of_mem _ hx)) ((List.perm_cons a).1 hp) h1.2 h2.2]
/-- neighbours in order -/
def NextJ : List JV → Prop
  | [] => True
  | [_] => True
  | a :: b :: r => cmpJ a b ≤ 0 ∧ NextJ (b :: r)
theorem sorted_next : ∀ {l : List JV}, (∀ x ∈ l, gd x) → (SortedJ l ↔ NextJ l)
  | [], _ => by simp [SortedJ, NextJ]
  | [a], _ => by simp [SortedJ, NextJ]
  | a :: b :: r, hg => by
    have ih := sorted_next (l := b :: r) (fun x hx => hg x (List.mem_cons_of_mem _ hx))
    unfold NextJ
    rw [← ih]
    unfold SortedJ
    rw [List.pairwise_cons]
    refine ⟨fun h => ⟨h.1 b List.mem_cons_self, h.2⟩, fun h => ⟨fun y hy => ?_, h.2⟩⟩
    rcases List.mem_cons.1 hy with rfl | hy
    · exact h.1
    · exact cmp_le_trans (hg a (by simp)) (hg b (by simp)) (hg y (by simp [hy])) h.1 ((List.pairwise_cons.1 h.2).1 y hy)
/-- neighbours up to a place -/
theorem next_at {l : List JV} : NextJ l ↔ ∀ i x y, l[i]? = some x → l[i + 1]? = some y → cmpJ x y ≤ 0 := by
  induction l with
  | nil => simp [NextJ]
  | cons a r ih =>
    cases r with
    | nil => simp [NextJ]
    | cons b r =>
      unfold NextJ
      rw [ih]
      constructor
      · rintro ⟨h1, h2⟩ i x y hx hy
        cases i with
        | zero => simp at hx hy; subst hx hy; exact h1
        | succ i => exact h2 i x y (by simpa using hx) (by simpa using hy)
      · exact fun h => ⟨h 0 a b rfl rfl, fun i x y hx hy => h (i + 1) x y (by simpa using hx) (by simpa using hy)⟩
/-- the reference's place for a value -/
def rAtJ (v : JV) (out : List JV) : Nat → Nat
  | 0 => 0
  | n + 1 => if cmpJ v (out.getD n jZero) = -1 then rAtJ v out n else n + 1
def rInsJ (out : List JV) (v : JV) : List JV := out.take (rAtJ v out out.length) ++ v :: out.drop (rAtJ v out out.length)
def rSortJ (l : List JV) : List JV := l.foldl rInsJ []
theorem rAtJ_le (v : JV) (out : List JV) : ∀ n, rAtJ v out n ≤ n
  | 0 => Nat.le_refl _
  | n + 1 => by unfold rAtJ; split
                · exact Nat.le_succ_of_le (rAtJ_le v out n)
                · exact Nat.le_refl _
theorem rAtJ_what (v : JV) (out : List JV) : ∀ n, (∀ j, rAtJ v out n ≤ j → j < n → cmpJ v (out.getD j jZero) = -1) ∧ (0 < rAtJ v out n → cmpJ v (out.getD (rAtJ v out n - 1) jZero) ≠ -1)
  | 0 => ⟨fun j h1 h2 => by omega, fun h => by simp [rAtJ] at h⟩
  | n + 1 => by
    have ih := rAtJ_what v out n
    unfold rAtJ
    split
    · rename_i h
      refine ⟨fun j h1 h2 => ?_, ih.2⟩
      by_cases hj : j = n
      · subst hj; exact h
      · exact ih.1 j h1 (by omega)
    · rename_i h
      exact ⟨fun j h1 h2 => by omega, fun _ => by simpa using h⟩
theorem rInsJ_perm (out : List JV) (v : JV) : (rInsJ out v).Perm (v :: out) := by
  unfold rInsJ
  have h := List.perm_middle (a := v) (l₁ := out.take (rAtJ v out out.length)) (l₂ := out.drop (rAtJ v out out.length))
  rwa [List.take_append_drop] at h
theorem rInsJ_sorted {out : List JV} {v : JV} (hg : ∀ x ∈ out, gd x) (hv : gd v) (h : SortedJ out) : SortedJ (rInsJ out v) := by
  obtain ⟨h1, h2⟩ := rAtJ_what v out out.length
  have hle := rAtJ_le v out out.length
  unfold rInsJ
  generalize rAtJ v out out.length = t at *
  unfold SortedJ at *
  have hq : (out.take t ++ out.drop t).Pairwise fun a b => cmpJ a b ≤ 0 := by rw [List.take_append_drop]; exact h
  rw [List.pairwise_append] at hq
  rw [List.pairwise_append, List.pairwise_cons]
  refine ⟨hq.1, ⟨fun y hy => ?_, hq.2.1⟩, fun x hx y hy => ?_⟩
  · obtain ⟨j, hj⟩ := List.mem_iff_getElem?.1 hy
    rw [List.getElem?_drop] at hj
    have hlt : t + j < out.length := (List.getElem?_eq_some_iff.1 hj).1
    have := h1 (t + j) (by omega) hlt
    rw [List.getD_eq_getElem?_getD, hj] at this
    have : cmpJ v y = -1 := this
    omega
  · rcases List.mem_cons.1 hy with rfl | hy
    · obtain ⟨j, hj⟩ := List.mem_iff_getElem?.1 hx
      have hjt : j < t := by
        have := (List.getElem?_eq_some_iff.1 hj).1
        rw [List.length_take] at this; omega
      rw [List.getElem?_take_of_lt hjt] at hj
      have ht1 : t - 1 < out.length := by omega
      obtain ⟨z, hz⟩ : ∃ z, out[t - 1]? = some z := ⟨_, List.getElem?_eq_getElem ht1⟩
      have hzv := h2 (by omega)
      rw [List.getD_eq_getElem?_getD, hz] at hzv
      have hzv : cmpJ y z ≠ -1 := hzv
      have hzg := hg z (List.mem_of_getElem? hz)
      have hxg := hg x (List.mem_of_getElem? hj)
      have hzy : cmpJ z y ≤ 0 := by
        have := cmpJ_anti hzg.j hv.j
        rcases cmpJ_3 y z with e | e | e <;> omega
      by_cases hjz : j = t - 1
      · subst hjz
        obtain rfl : x = z := by rw [hj] at hz; exact Option.some.inj hz
        exact hzy
      · refine cmp_le_trans hxg hzg hv ?_ hzy
        have h9 := List.pairwise_iff_getElem.1 h j (t - 1) (by omega) ht1 (by omega)
        rw [List.getElem?_eq_getElem (by omega)] at hj hz
        rw [Option.some.inj hj, Option.some.inj hz] at h9
        exact h9
    · exact hq.2.2 x hx y hy
theorem rSortJ_all : ∀ (l out : List JV), (∀ x ∈ l, gd x) → (∀ x ∈ out, gd x) → SortedJ out → (l.foldl rInsJ out).Perm (l ++ out) ∧ SortedJ (l.foldl rInsJ out)
  | [], out, _, _, hs => ⟨List.Perm.refl _, hs⟩
  | v :: r, out, hl, ho, hs => by
    have hv := hl v List.mem_cons_self
    have hp := rInsJ_perm out v
    have ih := rSortJ_all r (rInsJ out v) (fun x hx => hl x (List.mem_cons_of_mem _ hx)) (fun x hx => by
      rcases List.mem_cons.1 (hp.subset hx) with rfl | hx
      · exact hv
      · exact ho x hx) (rInsJ_sorted ho hv hs)
    refine ⟨ih.1.trans ?_, ih.2⟩
    rw [List.cons_append]
    exact (List.Perm.append_left r hp).trans List.perm_middle
theorem rSortJ_perm {l : List JV} (h : ∀ x ∈ l, gd x) : (rSortJ l).Perm l := by
  have := (rSortJ_all l [] h (by simp) List.Pairwise.nil).1
  rwa [List.append_nil] at this
theorem rSortJ_sorted {l : List JV} (h : ∀ x ∈ l, gd x) : SortedJ (rSortJ l) := (rSortJ_all l [] h (by simp) List.Pairwise.nil).2
/-- a sorted permutation is the reference's -/
theorem rSortJ_is {l s : List JV} (h : ∀ x ∈ l, gd x) (hp : s.Perm l) (hs : SortedJ s) : s = rSortJ l :=
  sorted_one (fun x hx => h x (hp.subset hx)) (hp.trans (rSortJ_perm h).symm) hs (rSortJ_sorted h)
theorem rSortJ_self {l : List JV} (h : ∀ x ∈ l, gd x) : l = rSortJ l ↔ SortedJ l :=
  ⟨fun e => by rw [e]; exact rSortJ_sorted h, fun hs => rSortJ_is h (List.Perm.refl _) hs⟩
/-- how many are ahead of a value, and not behind it -/
def aheadJ (l : List JV) (v : JV) : Nat := l.countP fun x => decide (cmpJ x v < 0)
def notJ (l : List JV) (v : JV) : Nat := l.countP fun x => decide (cmpJ x v ≤ 0)
theorem ahead_le (l : List JV) (v : JV) : aheadJ l v ≤ l.length ∧ notJ l v ≤ l.length := ⟨List.countP_le_length, List.countP_le_length⟩
/-- in a sorted row a value stands where it is -/
theorem stands {l : List JV} (hg : ∀ x ∈ l, gd x) (hs : SortedJ l) {i : Nat} {v : JV} (hv : l[i]? = some v) : aheadJ l v ≤ i ∧ i < notJ l v := by
  have hvg := hg v (List.mem_of_getElem? hv)
  have hlt := (List.getElem?_eq_some_iff.1 hv).1
  have e : l.take i ++ v :: l.drop (i + 1) = l := by
    have h := List.take_append_drop i l
    rw [List.drop_eq_getElem_cons hlt, (List.getElem?_eq_some_iff.1 hv).2] at h
    exact h
  have hq : (l.take i ++ v :: l.drop (i + 1)).Pairwise fun a b => cmpJ a b ≤ 0 := by rw [e]; exact hs
  rw [List.pairwise_append, List.pairwise_cons] at hq
  constructor
  · unfold aheadJ
    rw [← e, List.countP_append, List.countP_cons]
    have z : (l.drop (i + 1)).countP (fun x => decide (cmpJ x v < 0)) = 0 := by
      rw [List.countP_eq_zero]
      intro x hx
      have h1 := hq.2.1.1 x hx
      have h2 := cmpJ_anti hvg.j (hg x (List.mem_of_mem_drop hx)).j
      simp; omega
    rw [z, cmpJ_self]
    have := List.countP_le_length (p := fun x => decide (cmpJ x v < 0)) (l := l.take i)
    rw [List.length_take] at this
    simp; omega
  · unfold notJ
    rw [← e, List.countP_append, List.countP_cons]
    have z : (l.take i).countP (fun x => decide (cmpJ x v ≤ 0)) = (l.take i).length := by
      rw [List.countP_eq_length]
      intro x hx
      simpa using hq.2.2 x hx v List.mem_cons_self
    rw [z, cmpJ_self, List.length_take]
    simp; omega
/-- how often a value is there -/
theorem counts {l : List JV} {v : JV} (hg : ∀ x ∈ l, gd x) (hv : gd v) : notJ l v = aheadJ l v + l.countP (fun x => decide (cmpJ x v = 0)) := by
  unfold notJ aheadJ
  clear hg hv
  induction l with
  | nil => rfl
  | cons x r ih =>
    rw [List.countP_cons, List.countP_cons, List.countP_cons, ih]
    rcases cmpJ_3 x v with e | e | e <;> rw [e] <;> simp <;> omega
end Go.Proofs.YtoejdhabpajhlaaDoor
