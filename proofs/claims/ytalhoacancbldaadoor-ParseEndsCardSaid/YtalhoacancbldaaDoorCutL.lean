/- Plain: THE LAW OF ParseCuts: a list, an object or a text that is cut off is an error at the cut or ahead of it. -/
import Derived.Test.YtalhoacancbldaaDoorCut
import Derived.Test.YtalhoacancbldaaDoorParse16
namespace Go.Proofs.YtalhoacancbldaaDoor
set_option linter.unusedVariables false
set_option linter.unusedSimpArgs false
open Go.RowKit

section CutL
variable {l : List UInt8}
theorem pRun_succ (k : Nat) (r : PRes) : pRun l (k + 1) r = pRun l k (pStep l r) := rfl
theorem more_end {n m : Nat} {stk : JStk} (hn : n ≤ l.length) (hs : stk ≠ []) : stopBad n (pStep (l.take n) (.go 5 n m stk)) := by
  match stk, hs with
  | (v, k) :: r, _ =>
    show stopBad n (pMore (l.take n) n m ((v, k) :: r))
    simp only [pMore]
    rw [skipB_end (by rw [take_len hn]; exact Nat.le_refl _), get_end hn, if_neg (by simp), if_neg (by simp)]
    exact end_bad hn
theorem stop_end {n : Nat} {r : PRes} (h : stopBad n r) : ∃ p e, r = .fail p e ∧ badAt n p e := by
  cases r with
  | fail p e => exact ⟨p, e, rfl, h⟩
  | go => exact h.elim
  | done => exact h.elim
theorem run_cut {n : Nat} (hn : n ≤ l.length) : ∀ (k s p m : Nat) (stk : JStk) (q : Nat) (v : JV), okG l s p m stk → p ≤ n → pRun l k (.go s p m stk) = .done q v → n < q → v.kind ≠ 3 →
    ∃ at_ e, Reach (l.take n) (.go s p m stk) (.fail at_ e) ∧ badAt n at_ e
  | 0, s, p, m, stk, q, v, _, _, h, _, _ => by cases h
  | k + 1, s, p, m, stk, q, v, hok, hp, h, hq, hv => by
    rw [pRun_succ] at h
    have hc := step_cut (m := m) (stk := stk) hn hp hok.h5
    have ho := step_ok hok
    generalize hx : pStep l (.go s p m stk) = nx at h hc ho
    cases nx with
    | fail a b => rw [pRun_fail] at h; cases h
    | done q' v' =>
      rw [pRun_done] at h
      injection h with h1 h2
      subst h1; subst h2
      have hc : if q' ≤ n then _ else _ := hc
      rw [if_neg (by omega)] at hc
      obtain ⟨a, e, h3, h4⟩ := stop_end (hc hv)
      exact ⟨a, e, Reach.step' h3 (Reach.refl _), h4⟩
    | go s' p' m' stk' =>
      have hc : if p' ≤ n then _ else _ := hc
      by_cases hp' : p' ≤ n
      · rw [if_pos hp'] at hc
        obtain ⟨a, e, h3, h4⟩ := run_cut hn k s' p' m' stk' q v ho.1 hp' h hq hv
        exact ⟨a, e, Reach.step' hc h3, h4⟩
      · rw [if_neg hp'] at hc
        rcases hc with hc | ⟨m2, stk2, hne, hc⟩
        · obtain ⟨a, e, h3, h4⟩ := stop_end hc
          exact ⟨a, e, Reach.step' h3 (Reach.refl _), h4⟩
        · obtain ⟨a, e, h3, h4⟩ := stop_end (more_end (m := m2) hn hne)
          exact ⟨a, e, Reach.step' hc (Reach.step' h3 (Reach.refl _)), h4⟩
abbrev kindsOk (stk : JStk) : Prop := ∀ x ∈ stk, 1 ≤ x.1.kind
def whatP (p : Nat) : PRes → Prop
  | .fail _ _ => True
  | .go _ p' _ stk => kindsOk stk ∧ p < p'
  | .done q v => 1 ≤ v.kind ∧ p < q
theorem addKid_kind (v x : JV) (key : List UInt8) : (addKid v key x).kind = v.kind := by
  obtain ⟨k, n, s, kids, keys⟩ := v
  unfold addKid
  simp only
  split <;> rfl
theorem put_what {p q m : Nat} {v : JV} {stk : JStk} (hv : 1 ≤ v.kind) (hq : p < q) (hk : kindsOk stk) : whatP p (pPut v q m stk) := by
  cases stk with
  | nil => exact ⟨hv, hq⟩
  | cons x r =>
    obtain ⟨t, k⟩ := x
    refine ⟨fun y hy => ?_, hq⟩
    rcases List.mem_cons.1 hy with rfl | h
    · show 1 ≤ (addKid t k v).kind
      rw [addKid_kind]; exact hk (t, k) (List.mem_cons_self ..)
    · exact hk y (List.mem_cons_of_mem _ h)
theorem atom_kind {p : Nat} {c : UInt8} {v : JV} {m : Nat} (h : atomJ l p c = .inl (v, m)) : 1 ≤ v.kind := by
  have hw : ∀ u w, wordJ l p u w = .inl (v, m) → v = w := fun u w h => by
    unfold wordJ at h
    cases hm : wordMis l p u with
    | none => rw [hm] at h; simp only [Sum.inl.injEq, Prod.mk.injEq] at h; exact h.1.symm
    | some k => rw [hm] at h; cases h
  unfold atomJ at h
  repeat' split at h
  · unfold textJ at h
    split at h
    · simp only [Sum.inl.injEq, Prod.mk.injEq] at h; rw [← h.1]; exact (show (1 : Int) ≤ 4 by decide)
    · cases h
  · rw [hw _ _ h]; exact (show (1 : Int) ≤ 1 by decide)
  · rw [hw _ _ h]; exact (show (1 : Int) ≤ 2 by decide)
  · rw [hw _ _ h]; exact (show (1 : Int) ≤ 2 by decide)
  · unfold numJ at h
    split at h
    · simp only [Sum.inl.injEq, Prod.mk.injEq] at h; rw [← h.1]; exact (show (1 : Int) ≤ 3 by decide)
    · cases h
theorem begin_kind {a m d : Nat} {v : JV} {q : Nat} (h : beginJ l a m d = .atom v q) : 1 ≤ v.kind := by
  unfold beginJ at h
  cases hc : l[skipB l a]? with
  | none => rw [hc] at h; cases h
  | some c =>
    rw [hc] at h
    simp only at h
    split at h
    · cases h
    · split at h
      · cases h
      · split at h
        · split at h <;> cases h
        · cases hat : atomJ l (skipB l a) c with
          | inr e => rw [hat] at h; cases h
          | inl r =>
            obtain ⟨v', q'⟩ := r
            rw [hat] at h
            injection h with h1 h2
            rw [← h1]; exact atom_kind hat
theorem value_what {s p m : Nat} {stk : JStk} (h : okG l s p m stk) (hk : kindsOk stk) : whatP p (pValue l p m stk) := by
  have hw := begin_what (m := m) (d := stk.length) h.hp
  unfold pValue
  cases hb : beginJ l p m stk.length with
  | err _ _ => trivial
  | atom v q =>
    rw [hb] at hw
    exact put_what (begin_kind hb) hw.1 hk
  | opens q o =>
    rw [hb] at hw
    have h1 : p ≤ q := hw.1
    refine ⟨fun y hy => ?_, by omega⟩
    rcases List.mem_cons.1 hy with rfl | hy
    · show 1 ≤ (if o = true then (6 : Int) else 5); split <;> decide
    · exact hk y hy
theorem close_what {p m : Nat} {stk : JStk} (hk : kindsOk stk) : whatP p (pClose l (skipB l p) m stk) := by
  have hge := skipB_ge l p
  cases stk with
  | nil => trivial
  | cons x r =>
    obtain ⟨v, k⟩ := x
    exact put_what (hk (v, k) (List.mem_cons_self ..)) (by omega) (fun y hy => hk y (List.mem_cons_of_mem _ hy))
theorem key_what {p m : Nat} {stk : JStk} (hk : kindsOk stk) : whatP p (pKey l p m stk) := by
  have hge := skipB_ge l p
  cases stk with
  | nil => trivial
  | cons x r =>
    obtain ⟨v, k⟩ := x
    simp only [pKey]
    split
    · split
      · rename_i h0
        obtain ⟨m', e1, e2, e3⟩ := qRead_ok h0
        split
        · trivial
        · refine ⟨fun y hy => ?_, by rw [e1, Int.toNat_natCast]; omega⟩
          rcases List.mem_cons.1 hy with rfl | hy
          · exact hk (v, k) (List.mem_cons_self ..)
          · exact hk y (List.mem_cons_of_mem _ hy)
      · trivial
    · trivial
theorem step_what {s p m : Nat} {stk : JStk} (h : okG l s p m stk) (hk : kindsOk stk) : whatP p (pStep l (.go s p m stk)) := by
  have h5 := h.h5
  have hge := skipB_ge l p
  match s, h, h5 with
  | 0, h, _ => exact value_what h hk
  | 1, h, _ =>
    show whatP p (pFirst l p m stk)
    unfold pFirst; split
    · exact close_what hk
    · exact value_what h hk
  | 2, h, _ =>
    show whatP p (pFirstKey l p m stk)
    unfold pFirstKey; split
    · exact close_what hk
    · exact key_what hk
  | 3, h, _ => exact key_what hk
  | 4, h, _ =>
    show whatP p (pColon l p m stk)
    unfold pColon; split
    · exact ⟨hk, by omega⟩
    · trivial
  | 5, h, _ =>
    show whatP p (pMore l p m stk)
    cases stk with
    | nil => trivial
    | cons x r =>
      obtain ⟨v, k⟩ := x
      simp only [pMore]
      by_cases h1 : l[skipB l p]? = some 44
      · rw [if_pos h1]; exact ⟨hk, by omega⟩
      · rw [if_neg h1]
        by_cases h2 : l[skipB l p]? = some (if v.kind = 6 then 125 else 93)
        · rw [if_pos h2]; exact close_what hk
        · rw [if_neg h2]; trivial
/-- what a value is that was read: its kind, and the place behind it -/
theorem run_what : ∀ (k s p m : Nat) (stk : JStk) (q : Nat) (v : JV), okG l s p m stk → kindsOk stk → pRun l k (.go s p m stk) = .done q v → 1 ≤ v.kind ∧ p < q
  | 0, s, p, m, stk, q, v, _, _, h => by cases h
  | k + 1, s, p, m, stk, q, v, hok, hk, h => by
    rw [pRun_succ] at h
    have hw := step_what hok hk
    have ho := step_ok hok
    generalize hx : pStep l (.go s p m stk) = nx at h hw ho
    cases nx with
    | fail a b => rw [pRun_fail] at h; cases h
    | done q' v' =>
      rw [pRun_done] at h
      injection h with h1 h2
      subst h1; subst h2
      exact hw
    | go s' p' m' stk' =>
      have h1 := run_what k s' p' m' stk' q v ho.1 hw.1 h
      have h2 : p < p' := hw.2
      exact ⟨h1.1, by omega⟩
/-- what parse.Value answers at a row's first place -/
theorem value_says {o : JV × Int × Int} (hl : l.length ≤ 2048) (h : ValueR l (0 : Nat) o) (h0 : o.2.2 = 0) : 1 ≤ o.1.kind ∧ ∃ q : Nat, o.2.1 = (q : Int) ∧ 1 ≤ q ∧ q ≤ l.length := by
  unfold ValueR at h
  rw [if_neg (by omega), if_neg (by omega)] at h
  obtain ⟨r, ⟨k, h1⟩, h2, h3, rfl⟩ := h
  cases r with
  | go => exact h2.elim
  | fail p e => exact absurd h0 h3
  | done q v =>
    have := run_what k 0 0 0 [] q v (start_ok (Nat.zero_le _)) (fun _ h => by cases h) h1
    exact ⟨this.1, q, rfl, this.2, h3⟩
/-- THE LAW: cut short, it is an error at the cut or ahead of it -/
theorem cut_law {o o' : JV × Int × Int} {n q : Nat} (hl : l.length ≤ 2048) (h : ValueR l (0 : Nat) o) (h0 : o.2.2 = 0) (hk : 4 ≤ o.1.kind) (hq : o.2.1 = (q : Int)) (hn : n < q) (h' : ParseR (l.take n) o') :
    o'.2.2 ≠ 0 ∧ o'.2.1 ≤ (n : Int) ∧ (o'.2.2 = 6 ∨ o'.2.1 < (n : Int)) := by
  obtain ⟨_, q', e1, e2, e3⟩ := value_says hl h h0
  obtain rfl : q' = q := by omega
  unfold ValueR at h
  rw [if_neg (by omega), if_neg (by omega)] at h
  obtain ⟨r, ⟨k, h1⟩, h2, h3, rfl⟩ := h
  cases r with
  | go => exact h2.elim
  | fail p e => exact absurd h0 h3
  | done p v =>
    have hpq : p = q' := by have : ((p : Nat) : Int) = q' := e1; omega
    subst hpq
    obtain ⟨a, e, h4, h5⟩ := run_cut (n := n) (by omega) k 0 0 0 [] p v (start_ok (Nat.zero_le _)) (Nat.zero_le _) h1 hn (by have : (4 : Int) ≤ v.kind := hk; omega)
    have := ParseR_det (by rw [List.length_take]; omega) h4 trivial h'
    rw [this]
    exact h5
end CutL
end Go.Proofs.YtalhoacancbldaaDoor
