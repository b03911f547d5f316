/- Plain: white space ahead of and behind a text. -/
import Derived.Test.YtalhoacancbldaaDoorJoinN
import Derived.Test.YtalhoacancbldaaDoorTotal5
namespace Go.Proofs.YtalhoacancbldaaDoor
set_option linter.unusedVariables false
set_option linter.unusedSimpArgs false

theorem tw_all {f : UInt8 → Bool} : ∀ {u : List UInt8}, (∀ c ∈ u, f c = true) → u.takeWhile f = u
  | [], _ => rfl
  | c :: u, h => by rw [List.takeWhile_cons, if_pos (h c List.mem_cons_self), tw_all (fun x hx => h x (List.mem_cons_of_mem _ hx))]
/-- how an error stands to the error of a row that goes on with blanks -/
def ErrT (n : Nat) (p e p' e' : Int) : Prop := e' ≠ 0 ∧ p ≤ p' ∧ (e ≠ 6 → p < n → p' = p ∧ e' = e)
def JnR (n : Nat) (r r' : RRes) : Prop := match r with
  | .ok v q k => q ≤ n ∧ r' = .ok v q k
  | .err p e => ∃ p' e', r' = .err p' e' ∧ ErrT n p e p' e'
section Tail
variable {s t : List UInt8} {b : UInt8}
theorem skip_tail (hb : isBlankB b = true) (ht : ∀ c ∈ t, isBlankB c = true) {a : Nat} (ha : a ≤ s.length) :
    (skipB s a < s.length ∧ skipB (s ++ b :: t) a = skipB s a) ∨ (skipB s a = s.length ∧ skipB (s ++ b :: t) a = (s ++ b :: t).length) := by
  by_cases h : skipB s a < s.length
  · left
    refine ⟨h, ?_⟩
    unfold skipB
    rw [drop_join ha, tw_lt (skipB_in.1 h).2]
  · right
    have hle := skipB_le ha
    refine ⟨by omega, ?_⟩
    unfold skipB
    rw [drop_join ha, tw_whole (fun h' => h (skipB_in.2 ⟨ha, h'⟩)), tw_all (u := b :: t) (fun c hc => (List.mem_cons.1 hc).elim (fun e => e ▸ hb) (ht c))]
    simp; omega
theorem get_tail {q : Nat} {c : UInt8} (h : s[q]? = some c) : (s ++ b :: t)[q]? = some c := by rw [get_join_lt (get_lt h)]; exact h
theorem skip2 (hb : isBlankB b = true) (ht : ∀ c ∈ t, isBlankB c = true) {a : Nat} (ha : a ≤ s.length) : skipB (s ++ b :: t) (skipB s a) = skipB (s ++ b :: t) a := by
  rcases skip_tail hb ht ha with ⟨h1, h2⟩ | ⟨h1, h2⟩
  · rw [← h2, skipB_idem]
  · rw [h1, h2]
    rcases skip_tail hb ht (Nat.le_refl s.length) with ⟨h3, _⟩ | ⟨_, h4⟩
    · rw [skipB_end (Nat.le_refl _)] at h3; omega
    · exact h4
theorem fail_tail {x : Nat} {e : Int} (hx : x ≤ s.length) (he : e ≠ 0) : ∃ p1 e1 p2 e2, failF s x e = (p1, e1) ∧ failF (s ++ b :: t) x e = (p2, e2) ∧ ErrT s.length p1 e1 p2 e2 := by
  refine ⟨_, _, _, _, rfl, rfl, failF_ne (l := s ++ b :: t) (p := (x : Int)) he, Int.le_refl _, fun h1 h2 => ⟨rfl, ?_⟩⟩
  have hlt : (x : Int) < s.length := h2
  show (if e = 7 ∧ ((s ++ b :: t).length : Int) ≤ (x : Int) then 6 else e) = (if e = 7 ∧ (s.length : Int) ≤ (x : Int) then 6 else e)
  rw [if_neg (by rw [List.length_append]; omega), if_neg (by omega)]
theorem word_tail : ∀ {u : List UInt8} {p : Nat}, p ≤ s.length → b ∉ u → wordMis (s ++ b :: t) p u = wordMis s p u
  | [], _, _, _ => rfl
  | c :: u, p, hp, hu => by
    unfold wordMis
    rcases Nat.lt_or_eq_of_le hp with hlt | rfl
    · rw [get_join_lt hlt]
      split
      · exact word_tail hlt (fun h => hu (List.mem_cons_of_mem _ h))
      · rfl
    · rw [get_join_eq, List.getElem?_eq_none (Nat.le_refl _), if_neg (by intro e; injection e with e; exact hu (by rw [e]; exact List.mem_cons_self)), if_neg (by simp)]
theorem signs_mono (hb : isBlankB b = true) : ∀ (k a : Nat), s.length - a ≤ k → a ≤ s.length → qEnd a (signsL s a) ≤ qEnd a (signsL (s ++ b :: t) a)
  | k, a, hk, ha => by
    have hl2 : s.length ≤ (s ++ b :: t).length := by simp
    by_cases hlt : a < s.length
    · by_cases h0 : (qsS s a).2.2 = 0
      · obtain ⟨⟨c, n, e⟩, hq⟩ : ∃ r, qsS s a = r := ⟨_, rfl⟩
        rw [hq] at h0
        obtain rfl : e = 0 := h0
        obtain ⟨p, m, rfl, rfl, h1, h2, _⟩ := qs_ok hq hlt
        have hq2 : qsS (s ++ b :: t) a = ((p : Int), (m : Int), 0) := by rw [qsS_join hb hlt, hq]
        rw [signsL_cons hq hlt, signsL_cons hq2 (by omega), qEnd_cons, qEnd_cons]
        simp only [Int.toNat_natCast]
        cases k with
        | zero => omega
        | succ k => exact signs_mono hb k m (by omega) h2
      · rw [signsL_nil (fun _ => h0)]
        show a ≤ _
        exact (ce_in (l := s ++ b :: t) (a := a) (by omega)).1
    · rw [signsL_nil (fun h => absurd h hlt)]
      show a ≤ _
      exact (ce_in (l := s ++ b :: t) (a := a) (by omega)).1
theorem no34 (hb : isBlankB b = true) (ht : ∀ c ∈ t, isBlankB c = true) {q : Nat} (hq : s.length ≤ q) : (s ++ b :: t)[q]? ≠ some 34 := by
  rw [List.getElem?_append_right hq]
  intro h
  have hm := List.mem_of_getElem? h
  have : isBlankB 34 = true := by
    rcases List.mem_cons.1 hm with h | h
    · rw [h]; exact hb
    · exact ht _ h
  exact absurd this (by decide)
theorem text_tail (hb : isBlankB b = true) (ht : ∀ c ∈ t, isBlankB c = true) {p : Nat} (h34 : s[p]? = some 34) :
    qRead (s ++ b :: t) p = qRead s p ∨ (qRead s p = ([], (s.length : Int), 6) ∧ ∃ (E : Nat) (e : Int), qRead (s ++ b :: t) p = ([], (E : Int), e) ∧ e ≠ 0 ∧ s.length ≤ E) := by
  have hp := get_lt h34
  have hl : (s ++ b :: t).length = s.length + (t.length + 1) := by simp
  have h34' := get_tail (b := b) (t := t) h34
  have e1 := qRead_in (l := s ++ b :: t) (a := p) (by omega)
  rw [if_neg (by rw [h34']; simp)] at e1
  have e2 := qRead_in hp
  rw [if_neg (by rw [h34]; simp)] at e2
  rw [e1, e2]
  clear e1 e2
  obtain ⟨hge, hin⟩ := ce_in (l := s) (a := p + 1) (by omega)
  have hmono := signs_mono (t := t) hb _ (p + 1) (Nat.le_refl _) (show p + 1 ≤ s.length by omega)
  rcases Nat.lt_or_eq_of_le hin with hE | hE
  · left
    rw [signsL_join hb _ (p + 1) (Nat.le_refl _) (by omega) hE, get_join_lt hE]
    split
    · rfl
    · rw [qSign_in hE, qSign_in (show _ < (s ++ b :: t).length by omega), qsS_join hb hE]
  · right
    rw [hE, List.getElem?_eq_none (Nat.le_refl _), if_neg (by simp)]
    have hE2 : s.length ≤ qEnd (p + 1) (signsL (s ++ b :: t) (p + 1)) := by rw [hE] at hmono; exact hmono
    obtain ⟨hge2, hin2⟩ := ce_in (l := s ++ b :: t) (a := p + 1) (by omega)
    have hst := signs_stop (l := s ++ b :: t) (a := p + 1) (by omega)
    rw [if_neg (no34 hb ht hE2)]
    refine ⟨?_, _, _, rfl, ?_, hE2⟩
    · show ([], (s.length : Int), (qSign s (s.length : Int)).2.2) = _
      unfold qSign
      rw [if_neg (by omega), if_pos (by omega)]
    · show (qSign (s ++ b :: t) _).2.2 ≠ 0
      rcases Nat.lt_or_eq_of_le hin2 with h | h
      · rw [qSign_in h]; exact qsS_more hst h
      · unfold qSign; rw [if_neg (by omega), if_pos (by omega)]; decide
theorem atom_tail (hb : isBlankB b = true) (ht : ∀ c ∈ t, isBlankB c = true) {p : Nat} {c : UInt8} (hc : s[p]? = some c) :
    (∀ v q, atomJ s p c = .inl (v, q) → atomJ (s ++ b :: t) p c = .inl (v, q)) ∧ (∀ p1 e1, atomJ s p c = .inr (p1, e1) → ∃ p2 e2, atomJ (s ++ b :: t) p c = .inr (p2, e2) ∧ ErrT s.length p1 e1 p2 e2) := by
  have hp := get_lt hc
  have hbw : ∀ u : List UInt8, (∀ c ∈ u, isBlankB c = false) → b ∉ u := fun u h hu => by rw [h b hu] at hb; cases hb
  have hw : ∀ u v, (∀ c ∈ u, isBlankB c = false) → (∀ w q, wordJ s p u v = .inl (w, q) → wordJ (s ++ b :: t) p u v = .inl (w, q)) ∧ (∀ p1 e1, wordJ s p u v = .inr (p1, e1) → ∃ p2 e2, wordJ (s ++ b :: t) p u v = .inr (p2, e2) ∧ ErrT s.length p1 e1 p2 e2) := fun u v hu => by
    have e := word_tail (t := t) (show p ≤ s.length by omega) (hbw u hu)
    unfold wordJ
    rw [e]
    cases hm : wordMis s p u with
    | none => exact ⟨fun w q h => h, fun p1 e1 h => (nomatch h)⟩
    | some k =>
      refine ⟨fun w q h => (nomatch h), fun p1 e1 h => ?_⟩
      obtain ⟨a1, a2, a3, a4, h1, h2, h3⟩ := fail_tail (b := b) (t := t) (wordMis_place hm (by omega)) (show (7 : Int) ≠ 0 by decide)
      simp only [Sum.inr.injEq] at h
      rw [h1] at h
      simp only [Prod.mk.injEq] at h
      obtain ⟨rfl, rfl⟩ := h
      exact ⟨a3, a4, by simp only [h2], h3⟩
  unfold atomJ
  split
  · rename_i h34
    have h34 : s[p]? = some 34 := by rw [hc]; congr 1; exact UInt8.toNat_inj.1 (by rw [h34]; rfl)
    unfold textJ
    rcases text_tail hb ht h34 with h | ⟨h1, E, e, h2, h3, h4⟩
    · rw [h]
      refine ⟨fun v q hh => ?_, fun p1 e1 hh => ?_⟩
      · split at hh
        · rename_i h0; rw [if_pos h0]; exact hh
        · cases hh
      split at hh
      · cases hh
      · rename_i h0
        obtain ⟨x, hx, hx1, hx2, _⟩ := qRead_err hp h34 h0
        rw [if_neg h0]
        rw [hx] at hh ⊢
        obtain ⟨a1, a2, a3, a4, g1, g2, g3⟩ := fail_tail (b := b) (t := t) hx2 h0
        rw [g1] at hh
        rw [g2]
        simp only [Sum.inr.injEq, Prod.mk.injEq] at hh
        obtain ⟨rfl, rfl⟩ := hh
        exact ⟨a3, a4, rfl, g3⟩
    · rw [h1, h2]
      simp only
      rw [if_neg (by decide), if_neg h3]
      refine ⟨fun v q hh => (nomatch hh), fun p1 e1 hh => ?_⟩
      have hne := failF_ne (l := s ++ b :: t) (p := (E : Int)) h3
      simp only [Sum.inr.injEq] at hh
      have h5 : (failF s (s.length : Int) 6) = ((s.length : Int), 6) := rfl
      rw [h5] at hh
      simp only [Prod.mk.injEq] at hh
      obtain ⟨rfl, rfl⟩ := hh
      exact ⟨_, _, rfl, hne, by show (s.length : Int) ≤ (E : Int); omega, fun h => absurd rfl h⟩
  split
  · exact hw _ _ (by decide)
  split
  · exact hw _ _ (by decide)
  split
  · exact hw _ _ (by decide)
  unfold numJ
  rw [numRead_join hb (by omega)]
  refine ⟨fun v q hh => ?_, fun p1 e1 hh => ?_⟩
  · split at hh
    · rename_i h0; rw [if_pos h0]; exact hh
    · cases hh
  split at hh
  · cases hh
  · rename_i h0
    rw [if_neg h0]
    obtain ⟨x, hx, hx2⟩ : ∃ x : Nat, (numRead s p).2.1 = (x : Int) ∧ x ≤ s.length := by
      unfold numRead
      rw [if_neg (by omega), Int.toNat_natCast]
      obtain ⟨⟨st, r⟩, hr⟩ : ∃ r, numRun s (numStart p) = r := ⟨_, rfl⟩
      rw [hr]
      cases r with
      | some k => exact ⟨k, rfl, runK_place hr (show p ≤ s.length by omega) (show 0 < 18446744073709551616 by omega)⟩
      | none =>
        simp only
        unfold numEnd
        split
        · exact ⟨p, rfl, by omega⟩
        · exact ⟨st.pos, rfl, (runK_in hr (show p ≤ s.length by omega) (show 0 < 18446744073709551616 by omega)).2⟩
    rw [hx] at hh ⊢
    obtain ⟨a1, a2, a3, a4, g1, g2, g3⟩ := fail_tail (b := b) (t := t) hx2 h0
    rw [g1] at hh
    rw [g2]
    simp only [Sum.inr.injEq, Prod.mk.injEq] at hh
    obtain ⟨rfl, rfl⟩ := hh
    exact ⟨a3, a4, rfl, g3⟩
theorem begin_tail (hb : isBlankB b = true) (ht : ∀ c ∈ t, isBlankB c = true) {a m d : Nat} (ha : a ≤ s.length) : match beginJ s a m d with
    | .err p e => ∃ p' e', beginJ (s ++ b :: t) a m d = .err p' e' ∧ ErrT s.length p e p' e'
    | .atom v q => beginJ (s ++ b :: t) a m d = .atom v q ∧ q ≤ s.length
    | .opens p o => beginJ (s ++ b :: t) a m d = .opens p o ∧ p < s.length := by
  have hw := begin_what (l := s) (a := a) (m := m) (d := d) ha
  unfold beginJ at hw ⊢
  rcases skip_tail hb ht ha with ⟨h1, h2⟩ | ⟨h1, h2⟩
  · rw [h2, get_join_lt h1]
    obtain ⟨c, hc⟩ : ∃ c, s[skipB s a]? = some c := ⟨_, List.getElem?_eq_getElem h1⟩
    rw [hc] at hw ⊢
    simp only at hw ⊢
    obtain ⟨a1, a2, a3, a4, g1, g2, g3⟩ := fail_tail (b := b) (t := t) (show skipB s a ≤ s.length by omega) (show (7 : Int) ≠ 0 by decide)
    split
    · rename_i heq
      split at heq
      · rename_i hbg
        simp only [BRes.err.injEq] at heq
        rw [g1] at heq
        obtain ⟨rfl, rfl⟩ := heq
        rw [if_pos hbg, g2]
        exact ⟨_, _, rfl, g3⟩
      rename_i hbg
      rw [if_neg hbg]
      split at heq
      · rename_i hm
        simp only [BRes.err.injEq] at heq
        obtain ⟨rfl, rfl⟩ := heq
        rw [if_pos hm]
        exact ⟨_, _, rfl, by decide, Int.le_refl _, fun _ _ => ⟨rfl, rfl⟩⟩
      rename_i hm
      rw [if_neg hm]
      split at heq
      · rename_i hop
        rw [if_pos hop]
        split at heq
        · rename_i hd
          simp only [BRes.err.injEq] at heq
          obtain ⟨rfl, rfl⟩ := heq
          rw [if_pos hd]
          exact ⟨_, _, rfl, by decide, Int.le_refl _, fun _ _ => ⟨rfl, rfl⟩⟩
        · cases heq
      rename_i hop
      rw [if_neg hop]
      cases hat : atomJ s (skipB s a) c with
      | inl r => rw [hat] at heq; cases heq
      | inr r =>
        obtain ⟨x, y⟩ := r
        rw [hat] at heq
        simp only [BRes.err.injEq] at heq
        obtain ⟨rfl, rfl⟩ := heq
        obtain ⟨p2, e2, k1, k2⟩ := (atom_tail hb ht hc).2 _ _ hat
        rw [k1]
        exact ⟨_, _, rfl, k2⟩
    · rename_i v q heq
      split at heq
      · cases heq
      rename_i hbg
      rw [if_neg hbg]
      split at heq
      · cases heq
      rename_i hm
      rw [if_neg hm]
      split at heq
      · split at heq <;> cases heq
      rename_i hop
      rw [if_neg hop]
      cases hat : atomJ s (skipB s a) c with
      | inr r => rw [hat] at heq; cases heq
      | inl r =>
        obtain ⟨x, y⟩ := r
        rw [hat] at heq
        simp only [BRes.atom.injEq] at heq
        obtain ⟨rfl, rfl⟩ := heq
        rw [(atom_tail hb ht hc).1 _ _ hat]
        exact ⟨rfl, (atom_ok hat (by omega)).2⟩
    · rename_i p o heq
      split at heq
      · cases heq
      rename_i hbg
      rw [if_neg hbg]
      split at heq
      · cases heq
      rename_i hm
      rw [if_neg hm]
      split at heq
      · rename_i hop
        rw [if_pos hop]
        split at heq
        · cases heq
        · rename_i hd
          rw [if_neg hd]
          simp only [BRes.opens.injEq] at heq
          obtain ⟨rfl, rfl⟩ := heq
          exact ⟨rfl, h1⟩
      rename_i hop
      cases hat : atomJ s (skipB s a) c with
      | inr r => rw [hat] at heq; cases heq
      | inl r => rw [hat] at heq; cases heq
  · rw [h2, h1, List.getElem?_eq_none (Nat.le_refl _), List.getElem?_eq_none (Nat.le_refl _)]
    simp only
    refine ⟨_, _, rfl, failF_ne (by decide), ?_, fun _ h => absurd h (by show ¬ (s.length : Int) < s.length; omega)⟩
    show (s.length : Int) ≤ ((s ++ b :: t).length : Int)
    simp
    omega
end Tail
section Skip
variable {l : List UInt8}
theorem beginJ_same {a a' m d : Nat} (h : skipB l a = skipB l a') : beginJ l a m d = beginJ l a' m d := by rw [← beginJ_skip a, ← beginJ_skip a', h]
theorem rd_skip {a a' m d : Nat} {r : RRes} (h : skipB l a = skipB l a') (hr : RdR l a m d r) : RdR l a' m d r := by
  have hb := beginJ_same (m := m) (d := d) h
  cases hr with
  | err h1 => exact .err (hb ▸ h1)
  | atom h1 => exact .atom (hb ▸ h1)
  | list0 h1 h2 => exact .list0 (hb ▸ h1) h2
  | list1 h1 h2 h3 => exact .list1 (hb ▸ h1) h2 h3
  | obj0 h1 h2 => exact .obj0 (hb ▸ h1) h2
  | obj1 h1 h2 h3 => exact .obj1 (hb ▸ h1) h2 h3
theorem ls_skip {a a' m d : Nat} {kids : List JV} {r : RRes} (h : skipB l a = skipB l a') (hr : LsR l a m d kids r) : LsR l a' m d kids r := by
  cases hr with
  | err h1 => exact .err (rd_skip h h1)
  | close h1 h2 => exact .close (rd_skip h h1) h2
  | comma h1 h2 h3 => exact .comma (rd_skip h h1) h2 h3
  | bad h1 h2 h3 => exact .bad (rd_skip h h1) h2 h3
theorem ob_skip {a a' m d : Nat} {keys : List (List UInt8)} {kids : List JV} {r : RRes} (h : skipB l a = skipB l a') (hr : ObR l a m d keys kids r) : ObR l a' m d keys kids r := by
  cases hr with
  | nokey h1 => rw [h] at h1 ⊢; exact .nokey h1
  | badkey h1 h2 => rw [h] at h1 h2 ⊢; exact .badkey h1 h2
  | double h1 h2 h3 => rw [h] at h1 h2 h3 ⊢; exact .double h1 h2 h3
  | nocolon h1 h2 h3 h4 => rw [h] at h1 h2; exact .nocolon h1 h2 h3 h4
  | err h1 h2 h3 h4 h5 => rw [h] at h1 h2; exact .err h1 h2 h3 h4 h5
  | close h1 h2 h3 h4 h5 h6 => rw [h] at h1 h2; exact .close h1 h2 h3 h4 h5 h6
  | comma h1 h2 h3 h4 h5 h6 h7 => rw [h] at h1 h2; exact .comma h1 h2 h3 h4 h5 h6 h7
  | bad h1 h2 h3 h4 h5 h6 h7 => rw [h] at h1 h2; exact .bad h1 h2 h3 h4 h5 h6 h7
end Skip
section TailR
variable {s t : List UInt8} {b : UInt8}
/-- the byte behind blanks, in the row that goes on -/
theorem next_tail (hb : isBlankB b = true) (ht : ∀ c ∈ t, isBlankB c = true) {q : Nat} (hq : q ≤ s.length) :
    (∀ c, s[skipB s q]? = some c → (s ++ b :: t)[skipB (s ++ b :: t) q]? = some c ∧ skipB (s ++ b :: t) q = skipB s q) ∧ (∀ c, s[skipB s q]? ≠ some c → (s ++ b :: t)[skipB (s ++ b :: t) q]? ≠ some c) := by
  rcases skip_tail hb ht hq with ⟨h1, h2⟩ | ⟨h1, h2⟩
  · rw [h2, get_join_lt h1]; exact ⟨fun c h => ⟨h, rfl⟩, fun c h => h⟩
  · rw [h2, h1, List.getElem?_eq_none (Nat.le_refl _), List.getElem?_eq_none (Nat.le_refl _)]
    exact ⟨fun c h => by simp at h, fun c _ => by simp⟩
theorem fail_next (hb : isBlankB b = true) (ht : ∀ c ∈ t, isBlankB c = true) {q : Nat} (hq : q ≤ s.length) : ∃ p1 e1 p2 e2, rFail s (skipB s q) 7 = .err p1 e1 ∧ rFail (s ++ b :: t) (skipB (s ++ b :: t) q) 7 = .err p2 e2 ∧ ErrT s.length p1 e1 p2 e2 := by
  rcases skip_tail hb ht hq with ⟨h1, h2⟩ | ⟨h1, h2⟩
  · obtain ⟨a1, a2, a3, a4, g1, g2, g3⟩ := fail_tail (b := b) (t := t) (show skipB s q ≤ s.length by omega) (show (7 : Int) ≠ 0 by decide)
    rw [h2]
    exact ⟨a1, a2, a3, a4, by unfold rFail; rw [g1], by unfold rFail; rw [g2], g3⟩
  · rw [h1, h2]
    refine ⟨_, _, _, _, rfl, rfl, failF_ne (by decide), ?_, fun _ h => absurd h (by show ¬ (s.length : Int) < s.length; omega)⟩
    show (s.length : Int) ≤ ((s ++ b :: t).length : Int)
    simp
    omega
mutual
theorem rd_tail (hb : isBlankB b = true) (ht : ∀ c ∈ t, isBlankB c = true) {a m d : Nat} {r : RRes} : RdR s a m d r → a ≤ s.length → ∃ r', RdR (s ++ b :: t) a m d r' ∧ JnR s.length r r'
  | .err h, ha => by
    have h1 := begin_tail (t := t) (m := m) (d := d) hb ht ha
    rw [h] at h1
    obtain ⟨p', e', h2, h3⟩ := h1
    exact ⟨_, .err h2, _, _, rfl, h3⟩
  | .atom h, ha => by
    have h1 := begin_tail (t := t) (m := m) (d := d) hb ht ha
    rw [h] at h1
    exact ⟨_, .atom h1.1, h1.2, rfl⟩
  | .list0 (p := p) h h1, ha => by
    have h2 := begin_tail (t := t) (m := m) (d := d) hb ht ha
    rw [h] at h2
    obtain ⟨g1, g2⟩ := (next_tail (b := b) (t := t) hb ht (show p + 1 ≤ s.length from h2.2)).1 _ h1
    have h3 := RdR.list0 (d := d) h2.1 g1
    rw [g2] at h3
    exact ⟨_, h3, get_lt h1, rfl⟩
  | .list1 (p := p) h h1 h3, ha => by
    have h2 := begin_tail (t := t) (m := m) (d := d) hb ht ha
    rw [h] at h2
    have hp : p + 1 ≤ s.length := h2.2
    obtain ⟨r', h4, h5⟩ := ls_tail hb ht h3 (skipB_le hp)
    exact ⟨r', .list1 h2.1 ((next_tail hb ht hp).2 _ h1) (ls_skip (by rw [skip2 hb ht hp, skipB_idem]) h4), h5⟩
  | .obj0 (p := p) h h1, ha => by
    have h2 := begin_tail (t := t) (m := m) (d := d) hb ht ha
    rw [h] at h2
    obtain ⟨g1, g2⟩ := (next_tail (b := b) (t := t) hb ht (show p + 1 ≤ s.length from h2.2)).1 _ h1
    have h3 := RdR.obj0 (d := d) h2.1 g1
    rw [g2] at h3
    exact ⟨_, h3, get_lt h1, rfl⟩
  | .obj1 (p := p) h h1 h3, ha => by
    have h2 := begin_tail (t := t) (m := m) (d := d) hb ht ha
    rw [h] at h2
    have hp : p + 1 ≤ s.length := h2.2
    obtain ⟨r', h4, h5⟩ := ob_tail hb ht h3 (skipB_le hp)
    exact ⟨r', .obj1 h2.1 ((next_tail hb ht hp).2 _ h1) (ob_skip (by rw [skip2 hb ht hp, skipB_idem]) h4), h5⟩
theorem ls_tail (hb : isBlankB b = true) (ht : ∀ c ∈ t, isBlankB c = true) {a m d : Nat} {kids : List JV} {r : RRes} : LsR s a m d kids r → a ≤ s.length → ∃ r', LsR (s ++ b :: t) a m d kids r' ∧ JnR s.length r r'
  | .err h, ha => by
    obtain ⟨r', h1, p', e', rfl, h3⟩ := rd_tail hb ht h ha
    exact ⟨_, .err h1, p', e', rfl, h3⟩
  | .close h h1, ha => by
    obtain ⟨r', h2, hq, rfl⟩ := rd_tail hb ht h ha
    obtain ⟨g1, g2⟩ := (next_tail (b := b) (t := t) hb ht hq).1 _ h1
    have h3 := LsR.close (kids := kids) h2 g1
    rw [g2] at h3
    exact ⟨_, h3, get_lt h1, rfl⟩
  | .comma h h1 h2, ha => by
    obtain ⟨r', h3, hq, rfl⟩ := rd_tail hb ht h ha
    obtain ⟨g1, g2⟩ := (next_tail (b := b) (t := t) hb ht hq).1 _ h1
    obtain ⟨r', h4, h5⟩ := ls_tail hb ht h2 (get_lt h1)
    exact ⟨r', .comma h3 g1 (by rw [g2]; exact h4), h5⟩
  | .bad h h1 h2, ha => by
    obtain ⟨r', h3, hq, rfl⟩ := rd_tail hb ht h ha
    obtain ⟨p1, e1, p2, e2, g1, g2, g3⟩ := fail_next (b := b) (t := t) hb ht hq
    have hn := (next_tail (b := b) (t := t) hb ht hq).2
    have h4 := LsR.bad (kids := kids) h3 (hn _ h1) (hn _ h2)
    rw [g2] at h4
    rw [g1]
    exact ⟨_, h4, _, _, rfl, g3⟩
theorem ob_tail (hb : isBlankB b = true) (ht : ∀ c ∈ t, isBlankB c = true) {a m d : Nat} {keys : List (List UInt8)} {kids : List JV} {r : RRes} : ObR s a m d keys kids r → a ≤ s.length → ∃ r', ObR (s ++ b :: t) a m d keys kids r' ∧ JnR s.length r r'
  | .nokey h, ha => by
    obtain ⟨p1, e1, p2, e2, g1, g2, g3⟩ := fail_next (b := b) (t := t) hb ht ha
    have h4 := ObR.nokey (m := m) (d := d) (keys := keys) (kids := kids) ((next_tail (b := b) (t := t) hb ht ha).2 _ h)
    rw [g2] at h4
    rw [g1]
    exact ⟨_, h4, _, _, rfl, g3⟩
  | .badkey h h0, ha => by
    obtain ⟨g1, g2⟩ := (next_tail (b := b) (t := t) hb ht ha).1 _ h
    obtain ⟨x, hx, _, hx2, _⟩ := qRead_err (get_lt h) h h0
    rcases text_tail (t := t) hb ht h with h1 | ⟨h1, E, e, h2, h3, h4⟩
    · obtain ⟨a1, a2, a3, a4, k1, k2, k3⟩ := fail_tail (b := b) (t := t) hx2 h0
      have h5 := ObR.badkey (m := m) (d := d) (keys := keys) (kids := kids) g1 (by rw [g2, h1]; exact h0)
      rw [g2, h1, hx] at h5
      unfold rFail at h5 ⊢
      rw [k2] at h5
      rw [hx, k1]
      exact ⟨_, h5, _, _, rfl, k3⟩
    · have h5 := ObR.badkey (m := m) (d := d) (keys := keys) (kids := kids) g1 (by rw [g2, h2]; exact h3)
      rw [g2, h2] at h5
      rw [h1]
      exact ⟨_, h5, _, _, rfl, failF_ne (l := s ++ b :: t) (p := (E : Int)) h3, by show (s.length : Int) ≤ (E : Int); omega, fun _ hh => absurd hh (by show ¬ (s.length : Int) < s.length; omega)⟩
  | .double h h0 h1, ha => by
    obtain ⟨g1, g2⟩ := (next_tail (b := b) (t := t) hb ht ha).1 _ h
    rcases text_tail (t := t) hb ht h with h2 | ⟨h2, _⟩
    · have h5 := ObR.double (m := m) (d := d) (keys := keys) (kids := kids) g1 (by rw [g2, h2]; exact h0) (by rw [g2, h2]; exact h1)
      rw [g2] at h5
      exact ⟨_, h5, _, _, rfl, by decide, Int.le_refl _, fun _ _ => ⟨rfl, rfl⟩⟩
    · rw [h2] at h0; exact absurd h0 (show ¬ (6 : Int) = 0 by decide)
  | .nocolon (c := c) h h0 h1 h2, ha => by
    obtain ⟨g1, g2⟩ := (next_tail (b := b) (t := t) hb ht ha).1 _ h
    have hc : c ≤ s.length := by obtain ⟨c', e1, _, e2⟩ := qRead_ok (show (qRead s (skipB s a)).2.2 = 0 by rw [h0]); rw [h0] at e1; simp only at e1; omega
    rcases text_tail (t := t) hb ht h with h3 | ⟨h3, _⟩
    · obtain ⟨p1, e1, p2, e2, k1, k2, k3⟩ := fail_next (b := b) (t := t) hb ht hc
      have h5 := ObR.nocolon (m := m) (d := d) (keys := keys) (kids := kids) g1 (by rw [g2, h3]; exact h0) h1 ((next_tail (b := b) (t := t) hb ht hc).2 _ h2)
      rw [k2] at h5
      rw [k1]
      exact ⟨_, h5, _, _, rfl, k3⟩
    · rw [h3] at h0; simp at h0
  | .err (c := c) h h0 h1 h2 h3, ha => by
    obtain ⟨g1, g2⟩ := (next_tail (b := b) (t := t) hb ht ha).1 _ h
    have hc : c ≤ s.length := by obtain ⟨c', e1, _, e2⟩ := qRead_ok (show (qRead s (skipB s a)).2.2 = 0 by rw [h0]); rw [h0] at e1; simp only at e1; omega
    obtain ⟨k1, k2⟩ := (next_tail (b := b) (t := t) hb ht hc).1 _ h2
    rcases text_tail (t := t) hb ht h with h4 | ⟨h4, _⟩
    · obtain ⟨r', h5, p', e', rfl, h6⟩ := rd_tail hb ht h3 (get_lt h2)
      exact ⟨_, .err g1 (by rw [g2, h4]; exact h0) h1 k1 (by rw [k2]; exact h5), p', e', rfl, h6⟩
    · rw [h4] at h0; simp at h0
  | .close (c := c) h h0 h1 h2 h3 h6, ha => by
    obtain ⟨g1, g2⟩ := (next_tail (b := b) (t := t) hb ht ha).1 _ h
    have hc : c ≤ s.length := by obtain ⟨c', e1, _, e2⟩ := qRead_ok (show (qRead s (skipB s a)).2.2 = 0 by rw [h0]); rw [h0] at e1; simp only at e1; omega
    obtain ⟨k1, k2⟩ := (next_tail (b := b) (t := t) hb ht hc).1 _ h2
    rcases text_tail (t := t) hb ht h with h4 | ⟨h4, _⟩
    · obtain ⟨r', h5, hq, rfl⟩ := rd_tail hb ht h3 (get_lt h2)
      obtain ⟨j1, j2⟩ := (next_tail (b := b) (t := t) hb ht hq).1 _ h6
      have h7 := ObR.close (keys := keys) (kids := kids) g1 (by rw [g2, h4]; exact h0) h1 k1 (by rw [k2]; exact h5) j1
      rw [j2] at h7
      exact ⟨_, h7, get_lt h6, rfl⟩
    · rw [h4] at h0; simp at h0
  | .comma (c := c) h h0 h1 h2 h3 h6 h8, ha => by
    obtain ⟨g1, g2⟩ := (next_tail (b := b) (t := t) hb ht ha).1 _ h
    have hc : c ≤ s.length := by obtain ⟨c', e1, _, e2⟩ := qRead_ok (show (qRead s (skipB s a)).2.2 = 0 by rw [h0]); rw [h0] at e1; simp only at e1; omega
    obtain ⟨k1, k2⟩ := (next_tail (b := b) (t := t) hb ht hc).1 _ h2
    rcases text_tail (t := t) hb ht h with h4 | ⟨h4, _⟩
    · obtain ⟨r', h5, hq, rfl⟩ := rd_tail hb ht h3 (get_lt h2)
      obtain ⟨j1, j2⟩ := (next_tail (b := b) (t := t) hb ht hq).1 _ h6
      obtain ⟨r', h9, h10⟩ := ob_tail hb ht h8 (get_lt h6)
      exact ⟨r', .comma g1 (by rw [g2, h4]; exact h0) h1 k1 (by rw [k2]; exact h5) j1 (by rw [j2]; exact h9), h10⟩
    · rw [h4] at h0; simp at h0
  | .bad (c := c) h h0 h1 h2 h3 h6 h7, ha => by
    obtain ⟨g1, g2⟩ := (next_tail (b := b) (t := t) hb ht ha).1 _ h
    have hc : c ≤ s.length := by obtain ⟨c', e1, _, e2⟩ := qRead_ok (show (qRead s (skipB s a)).2.2 = 0 by rw [h0]); rw [h0] at e1; simp only at e1; omega
    obtain ⟨k1, k2⟩ := (next_tail (b := b) (t := t) hb ht hc).1 _ h2
    rcases text_tail (t := t) hb ht h with h4 | ⟨h4, _⟩
    · obtain ⟨r', h5, hq, rfl⟩ := rd_tail hb ht h3 (get_lt h2)
      have hn := (next_tail (b := b) (t := t) hb ht hq).2
      obtain ⟨p1, e1, p2, e2, l1, l2, l3⟩ := fail_next (b := b) (t := t) hb ht hq
      have h8 := ObR.bad (keys := keys) (kids := kids) g1 (by rw [g2, h4]; exact h0) h1 k1 (by rw [k2]; exact h5) (hn _ h6) (hn _ h7)
      rw [l2] at h8
      rw [l1]
      exact ⟨_, h8, _, _, rfl, l3⟩
    · rw [h4] at h0; simp at h0
end
end TailR

section Shift
variable {a l : List UInt8}
def shRR (n : Nat) : RRes → RRes
  | .ok v q k => .ok v (n + q) k
  | .err p e => .err (n + p) e
def shJ (n : Nat) : Sum (JV × Nat) (Int × Int) → Sum (JV × Nat) (Int × Int)
  | .inl (v, q) => .inl (v, n + q)
  | .inr (p, e) => .inr (n + p, e)
def shB (n : Nat) : BRes → BRes
  | .err p e => .err (n + p) e
  | .atom v q => .atom v (n + q)
  | .opens p o => .opens (n + p) o
theorem fail_shift (p e : Int) : failF (a ++ l) ((a.length : Int) + p) e = ((a.length : Int) + (failF l p e).1, (failF l p e).2) := by
  unfold failF
  have : (e = 7 ∧ ((a ++ l).length : Int) ≤ (a.length : Int) + p) ↔ (e = 7 ∧ (l.length : Int) ≤ p) := by rw [List.length_append]; omega
  simp only [this]
theorem word_shift : ∀ (u : List UInt8) (p : Nat), wordMis (a ++ l) (a.length + p) u = (wordMis l p u).map (a.length + ·)
  | [], _ => rfl
  | c :: u, p => by
    unfold wordMis
    rw [get_shift]
    split
    · exact word_shift u (p + 1)
    · rfl
theorem wordJ_shift (p : Nat) (u : List UInt8) (v : JV) : wordJ (a ++ l) (a.length + p) u v = shJ a.length (wordJ l p u v) := by
  unfold wordJ
  rw [word_shift]
  cases wordMis l p u with
  | none => show Sum.inl _ = Sum.inl _; rw [Nat.add_assoc]
  | some k =>
    show Sum.inr (failF (a ++ l) ((a.length + k : Nat) : Int) 7) = _
    rw [show ((a.length + k : Nat) : Int) = (a.length : Int) + (k : Int) by omega, fail_shift]
    rfl
theorem atom_shift {p : Nat} (hp : p < l.length) (c : UInt8) : atomJ (a ++ l) (a.length + p) c = shJ a.length (atomJ l p c) := by
  unfold atomJ
  split
  · unfold textJ
    rw [qRead_shift hp]
    simp only
    split
    · rename_i h0
      obtain ⟨m, hm, _⟩ := qRead_ok h0
      show Sum.inl _ = Sum.inl _
      rw [hm, show ((a.length : Int) + (m : Int)).toNat = a.length + m by omega, Int.toNat_natCast]
    · rw [fail_shift]; rfl
  split
  · exact wordJ_shift _ _ _
  split
  · exact wordJ_shift _ _ _
  split
  · exact wordJ_shift _ _ _
  unfold numJ
  rw [numRead_shift (show p ≤ l.length by omega)]
  simp only
  split
  · rename_i h0
    obtain ⟨m, hm, _⟩ := numRead_ok h0
    show Sum.inl _ = Sum.inl _
    rw [hm, show ((a.length : Int) + (m : Int)).toNat = a.length + m by omega, Int.toNat_natCast]
  · rw [fail_shift]; rfl
theorem begin_shift (x m d : Nat) : beginJ (a ++ l) (a.length + x) m d = shB a.length (beginJ l x m d) := by
  unfold beginJ
  rw [skipB_shift, get_shift]
  have hf := fail_shift (a := a) (l := l) (skipB l x : Nat) 7
  cases hc : l[skipB l x]? with
  | none =>
    simp only
    rw [show ((a.length + skipB l x : Nat) : Int) = (a.length : Int) + (skipB l x : Nat) by omega, hf]
    rfl
  | some c =>
    simp only
    rw [show ((a.length + skipB l x : Nat) : Int) = (a.length : Int) + (skipB l x : Nat) by omega, hf, atom_shift (get_lt hc)]
    split
    · rfl
    split
    · rfl
    split
    · split <;> rfl
    cases atomJ l (skipB l x) c with
    | inl r => rfl
    | inr r => rfl
theorem rFail_shift (q : Nat) (e : Int) : rFail (a ++ l) (a.length + q : Nat) e = shRR a.length (rFail l q e) := by
  unfold rFail
  rw [show ((a.length + q : Nat) : Int) = (a.length : Int) + (q : Nat) by omega, fail_shift]
  rfl
theorem next_shift (q : Nat) : (a ++ l)[skipB (a ++ l) (a.length + q)]? = l[skipB l q]? := by rw [skipB_shift, get_shift]
theorem next_shift1 (q : Nat) : (a ++ l)[skipB (a ++ l) (a.length + q + 1)]? = l[skipB l (q + 1)]? := next_shift (q + 1)
theorem skip_shift1 (q : Nat) : skipB (a ++ l) (a.length + q + 1) = a.length + skipB l (q + 1) := skipB_shift (q + 1)
mutual
theorem rd_shift {x m d : Nat} {r : RRes} : RdR l x m d r → RdR (a ++ l) (a.length + x) m d (shRR a.length r)
  | .err h => .err (by rw [begin_shift, h]; rfl)
  | .atom h => .atom (by rw [begin_shift, h]; rfl)
  | .list0 (p := p) h h1 => by
    have h2 := RdR.list0 (l := a ++ l) (a := a.length + x) (m := m) (d := d) (p := a.length + p) (by rw [begin_shift, h]; rfl) (by rw [next_shift1]; exact h1)
    rw [skip_shift1] at h2
    exact h2
  | .list1 (p := p) h h1 h2 => by
    have h3 := ls_shift h2
    rw [← skip_shift1] at h3
    exact .list1 (by rw [begin_shift, h]; rfl) (by rw [next_shift1]; exact h1) h3
  | .obj0 (p := p) h h1 => by
    have h2 := RdR.obj0 (l := a ++ l) (a := a.length + x) (m := m) (d := d) (p := a.length + p) (by rw [begin_shift, h]; rfl) (by rw [next_shift1]; exact h1)
    rw [skip_shift1] at h2
    exact h2
  | .obj1 (p := p) h h1 h2 => by
    have h3 := ob_shift h2
    rw [← skip_shift1] at h3
    exact .obj1 (by rw [begin_shift, h]; rfl) (by rw [next_shift1]; exact h1) h3
theorem ls_shift {x m d : Nat} {kids : List JV} {r : RRes} : LsR l x m d kids r → LsR (a ++ l) (a.length + x) m d kids (shRR a.length r)
  | .err h => .err (rd_shift h)
  | .close h h1 => by
    have h2 := LsR.close (kids := kids) (rd_shift h) (by rw [next_shift]; exact h1)
    rw [skipB_shift] at h2
    exact h2
  | .comma h h1 h2 => by
    have h3 := ls_shift h2
    rw [← Nat.add_assoc, ← skipB_shift] at h3
    exact .comma (rd_shift h) (by rw [next_shift]; exact h1) h3
  | .bad h h1 h2 => by
    have h3 := LsR.bad (kids := kids) (rd_shift h) (by rw [next_shift]; exact h1) (by rw [next_shift]; exact h2)
    rw [skipB_shift, rFail_shift] at h3
    exact h3
theorem ob_shift {x m d : Nat} {keys : List (List UInt8)} {kids : List JV} {r : RRes} : ObR l x m d keys kids r → ObR (a ++ l) (a.length + x) m d keys kids (shRR a.length r)
  | .nokey h => by
    have h3 := ObR.nokey (l := a ++ l) (a := a.length + x) (m := m) (d := d) (keys := keys) (kids := kids) (by rw [next_shift]; exact h)
    rw [skipB_shift, rFail_shift] at h3
    exact h3
  | .badkey h h1 => by
    have hp := get_lt h
    have hq := qRead_shift (a := a) hp
    have h3 := ObR.badkey (l := a ++ l) (a := a.length + x) (m := m) (d := d) (keys := keys) (kids := kids) (by rw [next_shift]; exact h) (by rw [skipB_shift, hq]; exact h1)
    rw [skipB_shift, hq] at h3
    unfold rFail at h3 ⊢
    simp only at h3
    rw [fail_shift] at h3
    exact h3
  | .double h h1 h2 => by
    have hp := get_lt h
    have hq := qRead_shift (a := a) hp
    have h3 := ObR.double (l := a ++ l) (a := a.length + x) (m := m) (d := d) (keys := keys) (kids := kids) (by rw [next_shift]; exact h) (by rw [skipB_shift, hq]; exact h1) (by rw [skipB_shift, hq]; exact h2)
    rw [skipB_shift] at h3
    exact h3
  | .nocolon (c := c) h h1 h2 h3 => by
    have hq := qRead_shift (a := a) (get_lt h)
    rw [h1] at hq
    have h4 := ObR.nocolon (l := a ++ l) (a := a.length + x) (m := m) (d := d) (keys := keys) (kids := kids) (c := a.length + c) (by rw [next_shift]; exact h) (by rw [skipB_shift, hq]; simp) h2 (by rw [next_shift]; exact h3)
    rw [skipB_shift, rFail_shift] at h4
    exact h4
  | .err (c := c) h h1 h2 h3 h4 => by
    have hq := qRead_shift (a := a) (get_lt h)
    rw [h1] at hq
    have h5 := rd_shift h4
    rw [← Nat.add_assoc, ← skipB_shift] at h5
    exact .err (c := a.length + c) (by rw [next_shift]; exact h) (by rw [skipB_shift, hq]; simp) h2 (by rw [next_shift]; exact h3) h5
  | .close (c := c) h h1 h2 h3 h4 h6 => by
    have hq := qRead_shift (a := a) (get_lt h)
    rw [h1] at hq
    have h5 := rd_shift h4
    rw [← Nat.add_assoc, ← skipB_shift] at h5
    have h7 := ObR.close (l := a ++ l) (a := a.length + x) (keys := keys) (kids := kids) (c := a.length + c) (by rw [next_shift]; exact h) (by rw [skipB_shift, hq]; simp) h2 (by rw [next_shift]; exact h3) h5 (by rw [next_shift]; exact h6)
    rw [skipB_shift] at h7
    exact h7
  | .comma (c := c) h h1 h2 h3 h4 h6 h8 => by
    have hq := qRead_shift (a := a) (get_lt h)
    rw [h1] at hq
    have h5 := rd_shift h4
    rw [← Nat.add_assoc, ← skipB_shift] at h5
    have h9 := ob_shift h8
    rw [← Nat.add_assoc, ← skipB_shift] at h9
    exact .comma (c := a.length + c) (by rw [next_shift]; exact h) (by rw [skipB_shift, hq]; simp) h2 (by rw [next_shift]; exact h3) h5 (by rw [next_shift]; exact h6) h9
  | .bad (c := c) h h1 h2 h3 h4 h6 h7 => by
    have hq := qRead_shift (a := a) (get_lt h)
    rw [h1] at hq
    have h5 := rd_shift h4
    rw [← Nat.add_assoc, ← skipB_shift] at h5
    have h8 := ObR.bad (l := a ++ l) (a := a.length + x) (keys := keys) (kids := kids) (c := a.length + c) (by rw [next_shift]; exact h) (by rw [skipB_shift, hq]; simp) h2 (by rw [next_shift]; exact h3) h5 (by rw [next_shift]; exact h6) (by rw [next_shift]; exact h7)
    rw [skipB_shift, rFail_shift] at h8
    exact h8
end
end Shift
/-- white space ahead of a row and behind it: what Parse answers -/
theorem blanks_law {A b T : List UInt8} (hA : ∀ c ∈ A, isBlankB c = true) (hT : ∀ c ∈ T, isBlankB c = true) (hlen : (A ++ (b ++ T)).length ≤ 2048) {v w : JV} {at_ e pl f : Int} (h : ParseR b (v, at_, e)) (h' : ParseR (A ++ (b ++ T)) (w, pl, f)) :
    (e = 0 → f = 0 ∧ pl = 0 ∧ w = v ∧ rightJ 8 v ∧ nodesJ v ≤ 256) ∧ (e ≠ 0 → f ≠ 0 ∧ (A.length : Int) + at_ ≤ pl ∧ 0 ≤ at_ ∧ at_ ≤ b.length ∧ (e ≠ 6 → at_ ≠ b.length → f = e ∧ pl = (A.length : Int) + at_)) := by
  have hl : (A ++ (b ++ T)).length = A.length + (b.length + T.length) := by simp
  have hbl : b.length ≤ 2048 := by omega
  obtain ⟨r, h1, h2, h3⟩ := parse_is hbl h
  have hsk : ∀ q, q ≤ b.length → (skipB b q < b.length → skipB (b ++ T) q = skipB b q) ∧ (¬ skipB b q < b.length → skipB (b ++ T) q = (b ++ T).length) := fun q hq => by
    cases T with
    | nil => rw [List.append_nil]; exact ⟨fun _ => rfl, fun h => by have := skipB_le hq; omega⟩
    | cons c t =>
      rcases skip_tail (hT c List.mem_cons_self) (fun x hx => hT x (List.mem_cons_of_mem _ hx)) hq with ⟨g1, g2⟩ | ⟨g1, g2⟩
      · exact ⟨fun _ => g2, fun h => absurd g1 h⟩
      · exact ⟨fun h => by omega, fun _ => g2⟩
  have htl : ∃ r', RdR (b ++ T) 0 0 0 r' ∧ JnR b.length r r' := by
    cases T with
    | nil =>
      rw [List.append_nil]
      refine ⟨r, h1, ?_⟩
      cases r with
      | ok v q k => exact ⟨h2.2, rfl⟩
      | err p e => exact ⟨p, e, rfl, h2.2.2, Int.le_refl _, fun _ _ => ⟨rfl, rfl⟩⟩
    | cons c t => exact rd_tail (hT c List.mem_cons_self) (fun x hx => hT x (List.mem_cons_of_mem _ hx)) h1 (Nat.zero_le _)
  obtain ⟨r', h4, h5⟩ := htl
  have h6 := rd_shift (a := A) h4
  have hs0 : skipB (A ++ (b ++ T)) (A.length + 0) = skipB (A ++ (b ++ T)) 0 := by
    rw [skipB_shift]
    unfold skipB
    simp only [List.drop_zero, Nat.zero_add]
    rw [tw_whole (u := A) (v := b ++ T) (by rw [tw_all hA]; omega)]
    simp
  have h7 := rd_skip hs0 h6
  have h8 : (w, pl, f) = refOut (A ++ (b ++ T)) (shRR A.length r') := by rw [ParseR_det hlen (start_reach h7) (outR_end _) h', refOut_is]
  cases r with
  | err p x =>
    obtain ⟨p', e', rfl, k1, k2, k3⟩ := h5
    have h3 : (v, at_, e) = (jZero, p, x) := h3
    have h8 : (w, pl, f) = (jZero, (A.length : Int) + p', e') := h8
    simp only [Prod.mk.injEq] at h3 h8
    obtain ⟨rfl, rfl, rfl⟩ := h3
    obtain ⟨rfl, rfl, rfl⟩ := h8
    obtain ⟨m1, m2, m3⟩ := h2
    refine ⟨fun h0 => absurd h0 m3, fun _ => ⟨k1, by omega, m1, m2, fun g1 g2 => ?_⟩⟩
    obtain ⟨q1, q2⟩ := k3 g1 (by omega)
    exact ⟨q2, by rw [q1]⟩
  | ok u q k =>
    obtain ⟨g1, rfl⟩ := h5
    obtain ⟨i1, i2, i3⟩ := rd_right (by omega) h1 (Nat.zero_le _) (Nat.zero_le _)
    obtain ⟨t1, t2⟩ := hsk q g1
    have h3 : (v, at_, e) = if skipB b q < b.length then (jZero, ((skipB b q : Nat) : Int), (7 : Int)) else (u, 0, 0) := h3
    have h8 : (w, pl, f) = if skipB (A ++ (b ++ T)) (A.length + q) < (A ++ (b ++ T)).length then (jZero, ((skipB (A ++ (b ++ T)) (A.length + q) : Nat) : Int), (7 : Int)) else (u, 0, 0) := h8
    rw [skipB_shift] at h8
    by_cases hc : skipB b q < b.length
    · rw [if_pos hc] at h3
      rw [t1 hc, if_pos (by omega)] at h8
      simp only [Prod.mk.injEq] at h3 h8
      obtain ⟨rfl, rfl, rfl⟩ := h3
      obtain ⟨rfl, rfl, rfl⟩ := h8
      exact ⟨fun h0 => absurd h0 (by decide), fun _ => ⟨by decide, by omega, by omega, by omega, fun _ _ => ⟨rfl, by omega⟩⟩⟩
    · rw [if_neg hc] at h3
      rw [t2 hc, if_neg (by rw [hl, List.length_append]; omega)] at h8
      simp only [Prod.mk.injEq] at h3 h8
      obtain ⟨rfl, rfl, rfl⟩ := h3
      obtain ⟨rfl, rfl, rfl⟩ := h8
      exact ⟨fun _ => ⟨rfl, rfl, rfl, i1, by omega⟩, fun h0 => absurd rfl h0⟩
end Go.Proofs.YtalhoacancbldaaDoor
