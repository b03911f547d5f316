/- Plain: rows of bytes joined by a blank: what is read of them. -/
import Derived.Test.YtalhoacancbldaaDoorVlex11
namespace Go.Proofs.YtalhoacancbldaaDoor
set_option linter.unusedVariables false
set_option linter.unusedSimpArgs false
open Go.RowKit

theorem blank_cases {b : UInt8} (h : isBlankB b = true) : b = 9 ∨ b = 10 ∨ b = 13 ∨ b = 32 := by
  have := of_decide_eq_true h
  rcases this with e | e | e | e
  · exact .inl (UInt8.toNat_inj.1 e)
  · exact .inr (.inl (UInt8.toNat_inj.1 e))
  · exact .inr (.inr (.inl (UInt8.toNat_inj.1 e)))
  · exact .inr (.inr (.inr (UInt8.toNat_inj.1 e)))
section Join
variable {s t : List UInt8} {b : UInt8}
theorem drop_join {p : Nat} (hp : p ≤ s.length) : (s ++ b :: t).drop p = s.drop p ++ b :: t := List.drop_append_of_le_length hp
theorem tw_join {f : UInt8 → Bool} (hb : f b = false) : ∀ u : List UInt8, (u ++ b :: t).takeWhile f = u.takeWhile f
  | [] => by simp [List.takeWhile_cons, hb]
  | c :: r => by rw [List.cons_append, List.takeWhile_cons, List.takeWhile_cons, tw_join hb r]
theorem get_join_lt {p : Nat} (hp : p < s.length) : (s ++ b :: t)[p]? = s[p]? := List.getElem?_append_left hp
theorem get_join_eq : (s ++ b :: t)[s.length]? = some b := by simp
theorem sees_join {p : Nat} (hp : p ≤ s.length) {x : List UInt8} (hx : x.contains b = false) : seesB (s ++ b :: t) p x = seesB s p x := by
  unfold seesB
  rcases Nat.lt_or_eq_of_le hp with h | rfl
  · rw [get_join_lt h]
  · rw [get_join_eq, List.getElem?_eq_none (Nat.le_refl _)]; exact hx
theorem blank_dig (hb : isBlankB b = true) : isDig b = false := by rcases blank_cases hb with rfl | rfl | rfl | rfl <;> decide
theorem digs_join {p : Nat} (hp : p ≤ s.length) (hb : isBlankB b = true) : digs (s ++ b :: t) p = digs s p := by unfold digs; rw [drop_join hp, tw_join (blank_dig hb)]
theorem takeS_join {x : List UInt8} {st : NSt} (hx : x.contains b = false) (hp : st.pos ≤ s.length) : takeS x (s ++ b :: t) st = takeS x s st := by unfold takeS; rw [sees_join hp hx]
theorem rowS_join (hb : isBlankB b = true) {gr : Bool} {st : NSt} (hp : st.pos ≤ s.length) : rowS gr (s ++ b :: t) st = rowS gr s st := by unfold rowS; rw [digs_join hp hb]
theorem blank_in (hb : isBlankB b = true) : ([45] : List UInt8).contains b = false ∧ ([48] : List UInt8).contains b = false ∧ ([46] : List UInt8).contains b = false ∧ ([101, 69] : List UInt8).contains b = false ∧ ([43, 45] : List UInt8).contains b = false := by
  rcases blank_cases hb with rfl | rfl | rfl | rfl <;> decide
theorem sees_lt2 {l : List UInt8} {p : Nat} {x : List UInt8} (h : seesB l p x = true) : p + 1 ≤ l.length := by
  unfold seesB at h
  cases hl : l[p]? with
  | none => rw [hl] at h; cases h
  | some c => exact (List.getElem?_eq_some_iff.1 hl).1
theorem stepK_join (hb : isBlankB b = true) {k : Nat} {st : NSt} (hp : st.pos ≤ s.length) : stepK k (s ++ b :: t) st = stepK k s st := by
  obtain ⟨h1, h2, h3, h4, h5⟩ := blank_in hb
  rcases k with _ | _ | _ | k
  · show signS _ _ = signS _ _
    unfold signS; rw [takeS_join h1 hp, sees_join hp h1]
  · show wholeS _ _ = wholeS _ _
    unfold wholeS; rw [sees_join hp h2, rowS_join hb hp]
  · show fracS _ _ = fracS _ _
    unfold fracS; rw [sees_join hp h3]
    split
    · rename_i h; exact rowS_join hb (sees_lt2 h)
    · rfl
  · show expS _ _ = expS _ _
    unfold expS; rw [sees_join hp h4]
    split
    · rename_i h
      have hq : ({ st with pos := st.pos + 1, part := true } : NSt).pos ≤ s.length := sees_lt2 h
      rw [takeS_join h5 hq]
      refine rowS_join hb ?_
      unfold takeS
      split
      · rename_i h'; exact sees_lt2 h'
      · exact hq
    · rfl
theorem runK_join (hb : isBlankB b = true) : ∀ (ks : List Nat) (st : NSt), st.pos ≤ s.length → st.size < 18446744073709551616 → runK (s ++ b :: t) ks st = runK s ks st
  | [], _, _, _ => rfl
  | k :: ks, st, hp, hs => by
    obtain ⟨⟨s1, r1⟩, e1⟩ : ∃ r, stepK k s st = r := ⟨_, rfl⟩
    have e2 : stepK k (s ++ b :: t) st = (s1, r1) := by rw [stepK_join hb hp, e1]
    have h1 := stepK_le e1 hp hs
    cases r1 with
    | none => rw [runK_none e1, runK_none e2]; exact runK_join hb ks s1 h1.1 h1.2
    | some q => rw [runK_some e1, runK_some e2]
theorem numRead_join (hb : isBlankB b = true) {p : Nat} (hp : p ≤ s.length) : numRead (s ++ b :: t) (p : Int) = numRead s (p : Int) := by
  unfold numRead numRun
  rw [if_neg (by simp; omega), if_neg (by omega), runK_join hb _ _ (by show (p : Int).toNat ≤ _; omega) (by show 0 < _; omega)]
theorem vNumber_join (hb : isBlankB b = true) {p : Nat} (hp : p ≤ s.length) : vNumber (s ++ b :: t) p = vNumber s p := by
  unfold vNumber
  simp only
  rw [numRead_join hb hp]
  split
  · rename_i h
    obtain ⟨m, h1, h2, h3⟩ := numRead_more h
    rw [h1, Int.toNat_natCast, drop_join hp, List.take_append_of_le_length (by simp; omega)]
  · rfl
theorem vName_join (hb : isBlankB b = true) {p : Nat} (hp : p ≤ s.length) : vName (s ++ b :: t) p = vName s p := by
  have : isLD b = false := by rcases blank_cases hb with rfl | rfl | rfl | rfl <;> decide
  unfold vName
  rw [drop_join hp, tw_join this]
theorem take_join_iff {u x : List UInt8} (hx : b ∉ x) : (u ++ b :: t).take x.length = x ↔ u.take x.length = x := by
  by_cases h : x.length ≤ u.length
  · rw [List.take_append_of_le_length h]
  · constructor
    · intro e
      exfalso
      apply hx
      rw [← e, List.mem_take_iff_getElem]
      exact ⟨u.length, by simp; omega, by simp⟩
    · intro e
      exfalso
      have := congrArg List.length e
      simp at this
      omega
theorem firstAt_join {p : Nat} (hp : p ≤ s.length) : ∀ {xs : List (List UInt8)}, (∀ x ∈ xs, b ∉ x) → firstAt (s ++ b :: t) p xs = firstAt s p xs
  | [], _ => rfl
  | x :: xs, h => by
    unfold firstAt standsAt
    rw [drop_join hp, decide_eq_decide.2 (take_join_iff (h x List.mem_cons_self)), firstAt_join hp (fun y hy => h y (List.mem_cons_of_mem _ hy))]
theorem vSign_join (hb : isBlankB b = true) {p : Nat} (hp : p ≤ s.length) : vSign (s ++ b :: t) p = vSign s p := by
  have : ∀ x ∈ signsT, b ∉ x := by rcases blank_cases hb with rfl | rfl | rfl | rfl <;> decide
  unfold vSign
  rw [firstAt_join hp this]
theorem hexs_none (hb : hexv b = none) : ∀ {l : List UInt8} {n : Nat}, b ∈ l → hexs l n = none
  | c :: r, n, h => by
    unfold hexs
    rcases List.mem_cons.1 h with rfl | h
    · rw [hb]
    · cases hexv c with
      | none => rfl
      | some d => exact hexs_none hb h
theorem unitO_join (hb : isBlankB b = true) {a : Nat} (ha : a ≤ s.length) : unitO (s ++ b :: t) a = unitO s a := by
  obtain ⟨h1, h2, h3⟩ : hexv b = none ∧ b ≠ 92 ∧ b ≠ 117 := by rcases blank_cases hb with rfl | rfl | rfl | rfl <;> decide
  by_cases h6 : a + 6 ≤ s.length
  · unfold unitO
    rw [get_join_lt (by omega), get_join_lt (by omega), drop_join (by omega), List.take_append_of_le_length (by simp; omega)]
    have e : ((s ++ b :: t).length < a + 6 ∨ s[a]? ≠ some 92 ∨ s[a + 1]? ≠ some 117) ↔ (s.length < a + 6 ∨ s[a]? ≠ some 92 ∨ s[a + 1]? ≠ some 117) := by
      rw [show ((s ++ b :: t).length < a + 6) ↔ (s.length < a + 6) from by simp; omega]
    by_cases hc : s.length < a + 6 ∨ s[a]? ≠ some 92 ∨ s[a + 1]? ≠ some 117
    · rw [if_pos hc, if_pos (e.2 hc)]
    · rw [if_neg hc, if_neg (fun h => hc (e.1 h))]
  · have hs : unitO s a = none := by unfold unitO; rw [if_pos (.inl (by omega))]
    rw [hs]
    cases hu : unitO (s ++ b :: t) a with
    | none => rfl
    | some u =>
      exfalso
      unfold unitO at hu
      split at hu
      · cases hu
      · rename_i hn
        simp only [not_or, Classical.not_not] at hn
        obtain ⟨n1, n2, n3⟩ := hn
        rcases (by omega : s.length = a ∨ s.length = a + 1 ∨ a + 2 ≤ s.length) with e | e | e
        · rw [← e, get_join_eq] at n2; exact h2 (Option.some.inj n2)
        · rw [← e, get_join_eq] at n3; exact h3 (Option.some.inj n3)
        · rw [drop_join e, hexs_none h1] at hu
          · cases hu
          · rw [List.mem_take_iff_getElem]
            exact ⟨(s.drop (a + 2)).length, by simp; omega, by simp⟩
theorem escS_join (hb : isBlankB b = true) {a : Nat} (ha : a < s.length) : escS (s ++ b :: t) a = escS s a := by
  have hl : letterS b.toNat = none := by rcases blank_cases hb with rfl | rfl | rfl | rfl <;> decide
  unfold escS
  rw [unitO_join hb (Nat.le_of_lt ha)]
  cases hu : unitO s a with
  | some u =>
    simp only
    rw [unitO_join hb (unitO_lt hu).2]
  | none =>
    simp only
    by_cases h : a + 1 < s.length
    · rw [get_join_lt h]
    · have e : a + 1 = s.length := by omega
      rw [e, get_join_eq, List.getElem?_eq_none (Nat.le_refl _)]
      simp [hl]
theorem cpOk_join (hb : b.toNat < 128) {u : List UInt8} (hu : u ≠ []) {n : Nat} (hn : 1 ≤ n ∧ n ≤ 4) : cpOk (u ++ b :: t) n = cpOk u n := by
  by_cases h : n ≤ u.length
  · obtain ⟨c, r, rfl⟩ : ∃ c r, u = c :: r := by cases u with | nil => exact absurd rfl hu | cons c r => exact ⟨c, r, rfl⟩
    have e : cpNum (c :: r ++ b :: t) n = cpNum (c :: r) n := by
      unfold cpNum
      simp only [List.cons_append, List.drop_succ_cons, List.drop_zero, List.headD_cons]
      rw [List.take_append_of_le_length (by simp at h; omega)]
    unfold cpOk
    rw [e, List.take_append_of_le_length h, decide_eq_true h, decide_eq_true (show n ≤ (c :: r ++ b :: t).length by simp at h ⊢; omega)]
  · have h2 : cpOk u n = false := by unfold cpOk; rw [decide_eq_false h]; rfl
    rw [h2, Bool.eq_false_iff]
    intro hk
    match u, hu, h with
    | [c0], _, h =>
      rcases (by simp at h; omega : n = 2 ∨ n = 3 ∨ n = 4) with rfl | rfl | rfl
      · have := (ok2 _ _ _).1 hk; omega
      · rcases t with _ | ⟨c2, t⟩
        · have := ((cpOk_iff _ _).1 hk).1; simp at this
        · have := (ok3 _ _ _ _).1 hk; omega
      · rcases t with _ | ⟨c2, _ | ⟨c3, t⟩⟩
        · have := ((cpOk_iff _ _).1 hk).1; simp at this
        · have := ((cpOk_iff _ _).1 hk).1; simp at this
        · have := (ok4 _ _ _ _ _).1 hk; omega
    | [c0, c1], _, h =>
      rcases (by simp at h; omega : n = 3 ∨ n = 4) with rfl | rfl
      · have := (ok3 _ _ _ _).1 hk; omega
      · rcases t with _ | ⟨c3, t⟩
        · have := ((cpOk_iff _ _).1 hk).1; simp at this
        · have := (ok4 _ _ _ _ _).1 hk; omega
    | [c0, c1, c2], _, h =>
      obtain rfl : n = 4 := by simp at h; omega
      have := (ok4 _ _ _ _ _).1 hk; omega
    | c0 :: c1 :: c2 :: c3 :: r, _, h => simp at h; omega
theorem cpNum_join {u : List UInt8} (hu : u ≠ []) {n : Nat} (h : cpOk u n = true) (hn : 1 ≤ n) : cpNum (u ++ b :: t) n = cpNum u n := by
  have h := ((cpOk_iff _ _).1 h).1
  obtain ⟨c, r, rfl⟩ : ∃ c r, u = c :: r := by cases u with | nil => exact absurd rfl hu | cons c r => exact ⟨c, r, rfl⟩
  unfold cpNum
  simp only [List.cons_append, List.drop_succ_cons, List.drop_zero, List.headD_cons]
  rw [List.take_append_of_le_length (by simp at h; omega)]
theorem cpBegin_join (hb : b.toNat < 128) {u : List UInt8} (hu : u ≠ []) : cpBegin (u ++ b :: t) = cpBegin u := by
  unfold cpBegin
  rw [cpOk_join hb hu (by omega), cpOk_join hb hu (by omega), cpOk_join hb hu (by omega), cpOk_join hb hu (by omega)]
  split
  · rename_i h; rw [cpNum_join hu h (by omega)]
  · split
    · rename_i h; rw [cpNum_join hu h (by omega)]
    · split
      · rename_i h; rw [cpNum_join hu h (by omega)]
      · split
        · rename_i h; rw [cpNum_join hu h (by omega)]
        · rfl
theorem nextR_in {l : List UInt8} {a : Nat} (h : a < l.length) : nextR l (a : Int) = if (cpBegin (l.drop a)).2 = 0 then ((0 : Int), (0 : Int), (110 : Int)) else (((cpBegin (l.drop a)).1 : Int), (a : Int) + (cpBegin (l.drop a)).2, 0) := by
  unfold nextR
  rw [if_neg (by omega), if_neg (by omega), Int.toNat_natCast]
theorem qSign_in {l : List UInt8} {a : Nat} (h : a < l.length) : qSign l (a : Int) = qsS l a := by
  unfold qSign
  rw [if_neg (by omega), if_neg (by omega), Int.toNat_natCast]
theorem qRead_in {l : List UInt8} {a : Nat} (h : a < l.length) : qRead l (a : Int) = if l[a]? ≠ some 34 then ([], (a : Int), 7)
  else if l[qEnd (a + 1) (signsL l (a + 1))]? = some 34 then (qBytes (signsL l (a + 1)), (qEnd (a + 1) (signsL l (a + 1)) : Int) + 1, 0)
  else ([], (qEnd (a + 1) (signsL l (a + 1)) : Int), (qSign l (qEnd (a + 1) (signsL l (a + 1)) : Nat)).2.2) := by
  unfold qRead
  rw [if_neg (by omega), if_neg (by omega), Int.toNat_natCast]
theorem qsS_join (hb : isBlankB b = true) {a : Nat} (ha : a < s.length) : qsS (s ++ b :: t) a = qsS s a := by
  have h8 : b.toNat < 128 := by rcases blank_cases hb with rfl | rfl | rfl | rfl <;> decide
  unfold qsS
  rw [get_join_lt ha, escS_join hb ha]
  have : nextR (s ++ b :: t) (a : Int) = nextR s (a : Int) := by
    rw [nextR_in (show a < (s ++ b :: t).length by simp; omega), nextR_in ha, drop_join (Nat.le_of_lt ha), cpBegin_join h8 (by intro e; have := congrArg List.length e; simp at this; omega)]
  rw [this]
theorem qEnd_cons (a : Nat) (x : Int × Int) (xs : List (Int × Int)) : qEnd a (x :: xs) = qEnd x.2.toNat xs := by
  unfold qEnd
  cases xs with
  | nil => rfl
  | cons y ys => rw [List.getLast?_cons_cons]; rw [List.getLast?_eq_some_getLast (by simp)]
theorem signsL_join (hb : isBlankB b = true) : ∀ (k a : Nat), s.length - a ≤ k → a ≤ s.length → qEnd a (signsL s a) < s.length → signsL (s ++ b :: t) a = signsL s a
  | k, a, hk, ha, hq => by
    by_cases hc : a < s.length ∧ (qsS s a).2.2 = 0
    · obtain ⟨p, m, h1, h2, h3, h4, h5⟩ := qs_ok (c := (qsS s a).1) (n := (qsS s a).2.1) (by rw [← hc.2]) hc.1
      have he : qsS s a = ((p : Int), (m : Int), 0) := by rw [← h1, ← h2, ← hc.2]
      have he2 : qsS (s ++ b :: t) a = ((p : Int), (m : Int), 0) := by rw [qsS_join hb hc.1, he]
      rw [signsL_cons he hc.1] at hq ⊢
      rw [signsL_cons he2 (by simp; omega)]
      rw [qEnd_cons] at hq
      match k, hk with
      | 0, hk => omega
      | k + 1, hk => rw [signsL_join hb k m (by omega) h4 (by simpa using hq)]
    · have hn : signsL s a = [] := signsL_nil (fun h e => hc ⟨h, e⟩)
      rw [hn] at hq ⊢
      have hlt : a < s.length := hq
      refine signsL_nil (fun _ => ?_)
      rw [qsS_join hb hlt]
      exact fun e => hc ⟨hlt, e⟩
theorem qEnd_in {l : List UInt8} {a : Nat} (ha : a ≤ l.length) : qEnd a (signsL l a) ≤ l.length := (signs_pre _ a _ (Nat.le_refl _) (List.prefix_refl _) ha).2.2.1
theorem vText_join (hb : isBlankB b = true) {p : Nat} (hp : p < s.length) {r : VRes} (h : vText s p = r) (hr : ∀ q, r ≠ .inr (q, 6)) : vText (s ++ b :: t) p = r := by
  have key : qRead (s ++ b :: t) (p : Int) = qRead s (p : Int) ∨ (qRead s (p : Int)).2.2 = 6 := by
    rw [qRead_in (show p < (s ++ b :: t).length by simp; omega), qRead_in hp, get_join_lt hp]
    split
    · exact .inl rfl
    · obtain ⟨E, hE⟩ : ∃ E, qEnd (p + 1) (signsL s (p + 1)) = E := ⟨_, rfl⟩
      have hle := qEnd_in (l := s) (a := p + 1) (by omega)
      rw [hE] at hle
      rcases Nat.lt_or_eq_of_le hle with hlt | heq
      · left
        rw [signsL_join hb _ (p + 1) (Nat.le_refl _) (by omega) (by rw [hE]; exact hlt), hE, get_join_lt hlt]
        have : (qSign (s ++ b :: t) (E : Nat)) = qSign s (E : Nat) := by
          rw [qSign_in (show E < (s ++ b :: t).length by simp; omega), qSign_in hlt, qsS_join hb hlt]
        rw [this]
      · right
        rw [hE, if_neg (by rw [heq, List.getElem?_eq_none (Nat.le_refl _)]; simp)]
        unfold qSign
        rw [if_neg (by omega), if_pos (by omega)]
  unfold vText at h ⊢
  simp only at h ⊢
  rcases key with e | e
  · rw [e]; exact h
  · rw [e] at h
    exact absurd h.symm (by simpa using hr _)
theorem vTake_join (hb : isBlankB b = true) {p : Nat} (hp : p < s.length) {r : VRes} (h : vTake s p = r) (hr : ∀ q, r ≠ .inr (q, 6)) : vTake (s ++ b :: t) p = r := by
  unfold vTake at h ⊢
  rw [get_join_lt hp]
  cases hc : s[p]? with
  | none => rw [hc] at h; exact h
  | some c =>
    rw [hc] at h
    simp only at h ⊢
    rw [vName_join hb (Nat.le_of_lt hp), vNumber_join hb (Nat.le_of_lt hp), vSign_join hb (Nat.le_of_lt hp)]
    split
    · rename_i h1; rw [if_pos h1] at h; exact h
    · rename_i h1
      rw [if_neg h1] at h
      split
      · rename_i h2; rw [if_pos h2] at h; exact h
      · rename_i h2
        rw [if_neg h2] at h
        split
        · rename_i h3; rw [if_pos h3] at h; exact vText_join hb hp h hr
        · rename_i h3; rw [if_neg h3] at h; exact h
end Join
end Go.Proofs.YtalhoacancbldaaDoor
