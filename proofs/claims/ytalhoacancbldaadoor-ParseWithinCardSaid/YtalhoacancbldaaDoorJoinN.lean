/- Plain: a row that is joined by a blank reads the same; a row behind another one reads the same, moved. -/
import Derived.Test.YtalhoacancbldaaDoorQuoteP
import Derived.Test.YtalhoacancbldaaDoorNumP
import Derived.Test.YtalhoacancbldaaDoorBlank
namespace Go.Proofs.YtalhoacancbldaaDoor
set_option linter.unusedVariables false
set_option linter.unusedSimpArgs false
section
variable {s t : List UInt8} {b : UInt8}
theorem blank_cases {b : UInt8} (h : isBlankB b = true) : b = 9 ∨ b = 10 ∨ b = 13 ∨ b = 32 := by
  have := of_decide_eq_true h
  rcases this with e | e | e | e
  · exact .inl (UInt8.toNat_inj.1 e)
  · exact .inr (.inl (UInt8.toNat_inj.1 e))
  · exact .inr (.inr (.inl (UInt8.toNat_inj.1 e)))
  · exact .inr (.inr (.inr (UInt8.toNat_inj.1 e)))
theorem drop_join {p : Nat} (hp : p ≤ s.length) : (s ++ b :: t).drop p = s.drop p ++ b :: t := List.drop_append_of_le_length hp
theorem tw_join {f : UInt8 → Bool} (hb : f b = false) : ∀ u : List UInt8, (u ++ b :: t).takeWhile f = u.takeWhile f
  | [] => by simp [List.takeWhile_cons, hb]
  | c :: r => by rw [List.cons_append, List.takeWhile_cons, List.takeWhile_cons, tw_join hb r]
theorem get_join_lt {p : Nat} (hp : p < s.length) : (s ++ b :: t)[p]? = s[p]? := List.getElem?_append_left hp
theorem get_join_eq : (s ++ b :: t)[s.length]? = some b := by simp
theorem sees_join {p : Nat} (hp : p ≤ s.length) {x : List UInt8} (hx : x.contains b = false) : seesB (s ++ b :: t) p x = seesB s p x := by
  unfold seesB
  rcases Nat.lt_or_eq_of_le hp with h | rfl
  · rw [get_join_lt h]
  · rw [get_join_eq, List.getElem?_eq_none (Nat.le_refl _)]; exact hx
theorem blank_dig (hb : isBlankB b = true) : isDig b = false := by rcases blank_cases hb with rfl | rfl | rfl | rfl <;> decide
theorem digs_join {p : Nat} (hp : p ≤ s.length) (hb : isBlankB b = true) : digs (s ++ b :: t) p = digs s p := by unfold digs; rw [drop_join hp, tw_join (blank_dig hb)]
theorem takeS_join {x : List UInt8} {st : NSt} (hx : x.contains b = false) (hp : st.pos ≤ s.length) : takeS x (s ++ b :: t) st = takeS x s st := by unfold takeS; rw [sees_join hp hx]
theorem rowS_join (hb : isBlankB b = true) {gr : Bool} {st : NSt} (hp : st.pos ≤ s.length) : rowS gr (s ++ b :: t) st = rowS gr s st := by unfold rowS; rw [digs_join hp hb]
theorem blank_in (hb : isBlankB b = true) : ([45] : List UInt8).contains b = false ∧ ([48] : List UInt8).contains b = false ∧ ([46] : List UInt8).contains b = false ∧ ([101, 69] : List UInt8).contains b = false ∧ ([43, 45] : List UInt8).contains b = false := by
  rcases blank_cases hb with rfl | rfl | rfl | rfl <;> decide
theorem sees_lt2 {l : List UInt8} {p : Nat} {x : List UInt8} (h : seesB l p x = true) : p + 1 ≤ l.length := by
  unfold seesB at h
  cases hl : l[p]? with
  | none => rw [hl] at h; cases h
  | some c => exact (List.getElem?_eq_some_iff.1 hl).1
theorem stepK_join (hb : isBlankB b = true) {k : Nat} {st : NSt} (hp : st.pos ≤ s.length) : stepK k (s ++ b :: t) st = stepK k s st := by
  obtain ⟨h1, h2, h3, h4, h5⟩ := blank_in hb
  rcases k with _ | _ | _ | k
  · show signS _ _ = signS _ _
    unfold signS; rw [takeS_join h1 hp, sees_join hp h1]
  · show wholeS _ _ = wholeS _ _
    unfold wholeS; rw [sees_join hp h2, rowS_join hb hp]
  · show fracS _ _ = fracS _ _
    unfold fracS; rw [sees_join hp h3]
    split
    · rename_i h; exact rowS_join hb (sees_lt2 h)
    · rfl
  · show expS _ _ = expS _ _
    unfold expS; rw [sees_join hp h4]
    split
    · rename_i h
      have hq : ({ st with pos := st.pos + 1, part := true } : NSt).pos ≤ s.length := sees_lt2 h
      rw [takeS_join h5 hq]
      refine rowS_join hb ?_
      unfold takeS
      split
      · rename_i h'; exact sees_lt2 h'
      · exact hq
    · rfl
theorem runK_join (hb : isBlankB b = true) : ∀ (ks : List Nat) (st : NSt), st.pos ≤ s.length → st.size < 18446744073709551616 → runK (s ++ b :: t) ks st = runK s ks st
  | [], _, _, _ => rfl
  | k :: ks, st, hp, hs => by
    obtain ⟨⟨s1, r1⟩, e1⟩ : ∃ r, stepK k s st = r := ⟨_, rfl⟩
    have e2 : stepK k (s ++ b :: t) st = (s1, r1) := by rw [stepK_join hb hp, e1]
    have h1 := stepK_le e1 hp hs
    cases r1 with
    | none => rw [runK_none e1, runK_none e2]; exact runK_join hb ks s1 h1.1 h1.2
    | some q => rw [runK_some e1, runK_some e2]
theorem numRead_join (hb : isBlankB b = true) {p : Nat} (hp : p ≤ s.length) : numRead (s ++ b :: t) (p : Int) = numRead s (p : Int) := by
  unfold numRead numRun
  rw [if_neg (by simp; omega), if_neg (by omega), runK_join hb _ _ (by show (p : Int).toNat ≤ _; omega) (by show 0 < _; omega)]
theorem hexs_none (hb : hexv b = none) : ∀ {l : List UInt8} {n : Nat}, b ∈ l → hexs l n = none
  | c :: r, n, h => by
    unfold hexs
    rcases List.mem_cons.1 h with rfl | h
    · rw [hb]
    · cases hexv c with
      | none => rfl
      | some d => exact hexs_none hb h
theorem unitO_join (hb : isBlankB b = true) {a : Nat} (ha : a ≤ s.length) : unitO (s ++ b :: t) a = unitO s a := by
  obtain ⟨h1, h2, h3⟩ : hexv b = none ∧ b ≠ 92 ∧ b ≠ 117 := by rcases blank_cases hb with rfl | rfl | rfl | rfl <;> decide
  by_cases h6 : a + 6 ≤ s.length
  · unfold unitO
    rw [get_join_lt (by omega), get_join_lt (by omega), drop_join (by omega), List.take_append_of_le_length (by simp; omega)]
    have e : ((s ++ b :: t).length < a + 6 ∨ s[a]? ≠ some 92 ∨ s[a + 1]? ≠ some 117) ↔ (s.length < a + 6 ∨ s[a]? ≠ some 92 ∨ s[a + 1]? ≠ some 117) := by
      rw [show ((s ++ b :: t).length < a + 6) ↔ (s.length < a + 6) from by simp; omega]
    by_cases hc : s.length < a + 6 ∨ s[a]? ≠ some 92 ∨ s[a + 1]? ≠ some 117
    · rw [if_pos hc, if_pos (e.2 hc)]
    · rw [if_neg hc, if_neg (fun h => hc (e.1 h))]
  · have hs : unitO s a = none := by unfold unitO; rw [if_pos (.inl (by omega))]
    rw [hs]
    cases hu : unitO (s ++ b :: t) a with
    | none => rfl
    | some u =>
      exfalso
      unfold unitO at hu
      split at hu
      · cases hu
      · rename_i hn
        simp only [not_or, Classical.not_not] at hn
        obtain ⟨n1, n2, n3⟩ := hn
        rcases (by omega : s.length = a ∨ s.length = a + 1 ∨ a + 2 ≤ s.length) with e | e | e
        · rw [← e, get_join_eq] at n2; exact h2 (Option.some.inj n2)
        · rw [← e, get_join_eq] at n3; exact h3 (Option.some.inj n3)
        · rw [drop_join e, hexs_none h1] at hu
          · cases hu
          · rw [List.mem_take_iff_getElem]
            exact ⟨(s.drop (a + 2)).length, by simp; omega, by simp⟩
theorem escS_join (hb : isBlankB b = true) {a : Nat} (ha : a < s.length) : escS (s ++ b :: t) a = escS s a := by
  have hl : letterS b.toNat = none := by rcases blank_cases hb with rfl | rfl | rfl | rfl <;> decide
  unfold escS
  rw [unitO_join hb (Nat.le_of_lt ha)]
  cases hu : unitO s a with
  | some u =>
    simp only
    rw [unitO_join hb (unitO_lt hu).2]
  | none =>
    simp only
    by_cases h : a + 1 < s.length
    · rw [get_join_lt h]
    · have e : a + 1 = s.length := by omega
      rw [e, get_join_eq, List.getElem?_eq_none (Nat.le_refl _)]
      simp [hl]
theorem cpOk_join (hb : b.toNat < 128) {u : List UInt8} (hu : u ≠ []) {n : Nat} (hn : 1 ≤ n ∧ n ≤ 4) : cpOk (u ++ b :: t) n = cpOk u n := by
  by_cases h : n ≤ u.length
  · obtain ⟨c, r, rfl⟩ : ∃ c r, u = c :: r := by cases u with | nil => exact absurd rfl hu | cons c r => exact ⟨c, r, rfl⟩
    have e : cpNum (c :: r ++ b :: t) n = cpNum (c :: r) n := by
      unfold cpNum
      simp only [List.cons_append, List.drop_succ_cons, List.drop_zero, List.headD_cons]
      rw [List.take_append_of_le_length (by simp at h; omega)]
    unfold cpOk
    rw [e, List.take_append_of_le_length h, decide_eq_true h, decide_eq_true (show n ≤ (c :: r ++ b :: t).length by simp at h ⊢; omega)]
  · have h2 : cpOk u n = false := by unfold cpOk; rw [decide_eq_false h]; rfl
    rw [h2, Bool.eq_false_iff]
    intro hk
    match u, hu, h with
    | [c0], _, h =>
      rcases (by simp at h; omega : n = 2 ∨ n = 3 ∨ n = 4) with rfl | rfl | rfl
      · have := (ok2 _ _ _).1 hk; omega
      · rcases t with _ | ⟨c2, t⟩
        · have := ((cpOk_iff _ _).1 hk).1; simp at this
        · have := (ok3 _ _ _ _).1 hk; omega
      · rcases t with _ | ⟨c2, _ | ⟨c3, t⟩⟩
        · have := ((cpOk_iff _ _).1 hk).1; simp at this
        · have := ((cpOk_iff _ _).1 hk).1; simp at this
        · have := (ok4 _ _ _ _ _).1 hk; omega
    | [c0, c1], _, h =>
      rcases (by simp at h; omega : n = 3 ∨ n = 4) with rfl | rfl
      · have := (ok3 _ _ _ _).1 hk; omega
      · rcases t with _ | ⟨c3, t⟩
        · have := ((cpOk_iff _ _).1 hk).1; simp at this
        · have := (ok4 _ _ _ _ _).1 hk; omega
    | [c0, c1, c2], _, h =>
      obtain rfl : n = 4 := by simp at h; omega
      have := (ok4 _ _ _ _ _).1 hk; omega
    | c0 :: c1 :: c2 :: c3 :: r, _, h => simp at h; omega
theorem cpNum_join {u : List UInt8} (hu : u ≠ []) {n : Nat} (h : cpOk u n = true) (hn : 1 ≤ n) : cpNum (u ++ b :: t) n = cpNum u n := by
  have h := ((cpOk_iff _ _).1 h).1
  obtain ⟨c, r, rfl⟩ : ∃ c r, u = c :: r := by cases u with | nil => exact absurd rfl hu | cons c r => exact ⟨c, r, rfl⟩
  unfold cpNum
  simp only [List.cons_append, List.drop_succ_cons, List.drop_zero, List.headD_cons]
  rw [List.take_append_of_le_length (by simp at h; omega)]
theorem cpBegin_join (hb : b.toNat < 128) {u : List UInt8} (hu : u ≠ []) : cpBegin (u ++ b :: t) = cpBegin u := by
  unfold cpBegin
  rw [cpOk_join hb hu (by omega), cpOk_join hb hu (by omega), cpOk_join hb hu (by omega), cpOk_join hb hu (by omega)]
  split
  · rename_i h; rw [cpNum_join hu h (by omega)]
  · split
    · rename_i h; rw [cpNum_join hu h (by omega)]
    · split
      · rename_i h; rw [cpNum_join hu h (by omega)]
      · split
        · rename_i h; rw [cpNum_join hu h (by omega)]
        · rfl
theorem qsS_join (hb : isBlankB b = true) {a : Nat} (ha : a < s.length) : qsS (s ++ b :: t) a = qsS s a := by
  have h8 : b.toNat < 128 := by rcases blank_cases hb with rfl | rfl | rfl | rfl <;> decide
  unfold qsS
  rw [get_join_lt ha, escS_join hb ha]
  have : nextR (s ++ b :: t) (a : Int) = nextR s (a : Int) := by
    rw [nextR_in (show a < (s ++ b :: t).length by simp; omega), nextR_in ha, drop_join (Nat.le_of_lt ha), cpBegin_join h8 (by intro e; have := congrArg List.length e; simp at this; omega)]
  rw [this]
theorem signsL_join (hb : isBlankB b = true) : ∀ (k a : Nat), s.length - a ≤ k → a ≤ s.length → qEnd a (signsL s a) < s.length → signsL (s ++ b :: t) a = signsL s a
  | k, a, hk, ha, hq => by
    by_cases hc : a < s.length ∧ (qsS s a).2.2 = 0
    · obtain ⟨p, m, h1, h2, h3, h4, h5⟩ := qs_ok (c := (qsS s a).1) (n := (qsS s a).2.1) (by rw [← hc.2]) hc.1
      have he : qsS s a = ((p : Int), (m : Int), 0) := by rw [← h1, ← h2, ← hc.2]
      have he2 : qsS (s ++ b :: t) a = ((p : Int), (m : Int), 0) := by rw [qsS_join hb hc.1, he]
      rw [signsL_cons he hc.1] at hq ⊢
      rw [signsL_cons he2 (by simp; omega)]
      rw [qEnd_cons] at hq
      match k, hk with
      | 0, hk => omega
      | k + 1, hk => rw [signsL_join hb k m (by omega) h4 (by simpa using hq)]
    · have hn : signsL s a = [] := signsL_nil (fun h e => hc ⟨h, e⟩)
      rw [hn] at hq ⊢
      have hlt : a < s.length := hq
      refine signsL_nil (fun _ => ?_)
      rw [qsS_join hb hlt]
      exact fun e => hc ⟨hlt, e⟩
end
section
variable {a l : List UInt8}
theorem drop_shift (p : Nat) : (a ++ l).drop (a.length + p) = l.drop p := by rw [← List.drop_drop, List.drop_left]
theorem get_shift (p : Nat) : (a ++ l)[a.length + p]? = l[p]? := by rw [List.getElem?_append_right (Nat.le_add_right _ _), Nat.add_sub_cancel_left]
theorem sees_shift (p : Nat) (x : List UInt8) : seesB (a ++ l) (a.length + p) x = seesB l p x := by unfold seesB; rw [get_shift]
theorem digs_shift (p : Nat) : digs (a ++ l) (a.length + p) = digs l p := by unfold digs; rw [drop_shift]
def shN (A : Nat) (st : NSt) : NSt := { st with pos := A + st.pos }
def shR (A : Nat) (r : NSt × Option Nat) : NSt × Option Nat := (shN A r.1, r.2.map (A + ·))
theorem growAll_sh (A : Nat) : ∀ (ds : List UInt8) (st : NSt), growAll ds (shN A st) = shN A (growAll ds st)
  | [], _ => rfl
  | c :: ds, st => by
    show growAll ds (growS (dval c) (shN A st)) = shN A (growAll ds (growS (dval c) st))
    rw [← growAll_sh A ds]; rfl
theorem takeS_sh (x : List UInt8) (st : NSt) : takeS x (a ++ l) (shN a.length st) = shN a.length (takeS x l st) := by
  unfold takeS
  have : (shN a.length st).pos = a.length + st.pos := rfl
  rw [this, sees_shift]
  split
  · unfold shN; simp only [Nat.add_assoc]
  · rfl
theorem rowS_sh (gr : Bool) (st : NSt) : rowS gr (a ++ l) (shN a.length st) = shR a.length (rowS gr l st) := by
  unfold rowS
  have : (shN a.length st).pos = a.length + st.pos := rfl
  rw [this, digs_shift]
  split
  · rfl
  · unfold shR digS
    cases gr with
    | false => simp [shN, Nat.add_assoc]
    | true => simp only [growAll_sh, if_true]; simp [shN, Nat.add_assoc]
theorem stepK_sh (k : Nat) (st : NSt) : stepK k (a ++ l) (shN a.length st) = shR a.length (stepK k l st) := by
  have hp : (shN a.length st).pos = a.length + st.pos := rfl
  rcases k with _ | _ | _ | k
  · show signS _ _ = shR _ (signS _ _)
    unfold signS; rw [takeS_sh, hp, sees_shift]; rfl
  · show wholeS _ _ = shR _ (wholeS _ _)
    unfold wholeS; rw [hp, sees_shift, rowS_sh]
    split
    · simp [shR, shN, Nat.add_assoc]
    · rfl
  · show fracS _ _ = shR _ (fracS _ _)
    unfold fracS; rw [hp, sees_shift]
    split
    · rw [← rowS_sh]; rfl
    · rfl
  · show expS _ _ = shR _ (expS _ _)
    unfold expS; rw [hp, sees_shift]
    split
    · rw [← rowS_sh, ← takeS_sh]; rfl
    · rfl
theorem runK_sh : ∀ (ks : List Nat) (st : NSt), runK (a ++ l) ks (shN a.length st) = shR a.length (runK l ks st)
  | [], _ => rfl
  | k :: ks, st => by
    obtain ⟨⟨s1, r1⟩, e1⟩ : ∃ r, stepK k l st = r := ⟨_, rfl⟩
    have e2 : stepK k (a ++ l) (shN a.length st) = shR a.length (s1, r1) := by rw [stepK_sh, e1]
    cases r1 with
    | none => rw [runK_none e1, runK_none (st' := shN a.length s1) e2]; exact runK_sh ks s1
    | some q => rw [runK_some e1, runK_some (p := a.length + q) (st' := shN a.length s1) e2]; rfl
theorem numRead_shift {p : Nat} (hp : p ≤ l.length) : numRead (a ++ l) ((a.length + p : Nat) : Int) = ((numRead l p).1, (a.length : Int) + (numRead l p).2.1, (numRead l p).2.2) := by
  unfold numRead
  rw [if_neg (by simp; omega), if_neg (by omega), Int.toNat_natCast, Int.toNat_natCast]
  have e : numRun (a ++ l) (numStart (a.length + p)) = shR a.length (numRun l (numStart p)) := runK_sh [0, 1, 2, 3] (numStart p)
  rw [e]
  obtain ⟨⟨st, q⟩, hq⟩ : ∃ r, numRun l (numStart p) = r := ⟨_, rfl⟩
  rw [hq]
  cases q with
  | some q => simp [shR]
  | none =>
    show numEnd (shN a.length st) _ = ((numEnd st (p : Int)).1, (a.length : Int) + (numEnd st (p : Int)).2.1, (numEnd st (p : Int)).2.2)
    unfold numEnd
    show (if (st.part || st.over || decide (numBig st.minus < st.size)) = true then _ else _) = _
    split
    · simp
    · simp [shN]; rfl
theorem unitO_shift (p : Nat) : unitO (a ++ l) (a.length + p) = unitO l p := by
  have e : ((a ++ l).length < a.length + p + 6 ∨ (a ++ l)[a.length + p]? ≠ some 92 ∨ (a ++ l)[a.length + p + 1]? ≠ some 117) ↔ (l.length < p + 6 ∨ l[p]? ≠ some 92 ∨ l[p + 1]? ≠ some 117) := by
    rw [show a.length + p + 1 = a.length + (p + 1) from rfl, get_shift, get_shift, show ((a ++ l).length < a.length + p + 6) ↔ (l.length < p + 6) from by simp; omega]
  unfold unitO
  rw [show a.length + p + 2 = a.length + (p + 2) from rfl, drop_shift]
  by_cases hc : l.length < p + 6 ∨ l[p]? ≠ some 92 ∨ l[p + 1]? ≠ some 117
  · rw [if_pos hc, if_pos (e.2 hc)]
  · rw [if_neg hc, if_neg (fun h => hc (e.1 h))]
def shQ (A : Nat) (r : Int × Int × Int) : Int × Int × Int := if r.2.2 = 0 then (r.1, (A : Int) + r.2.1, 0) else r
theorem escS_shift (p : Nat) : escS (a ++ l) (a.length + p) = shQ a.length (escS l p) := by
  unfold escS
  rw [unitO_shift, show a.length + p + 6 = a.length + (p + 6) from rfl, unitO_shift, show a.length + p + 1 = a.length + (p + 1) from rfl, get_shift]
  cases unitO l p with
  | some u =>
    simp only
    split
    · simp [shQ]; omega
    · split
      · cases unitO l (p + 6) with
        | none => rfl
        | some v =>
          simp only
          split
          · simp [shQ]; omega
          · rfl
      · rfl
  | none =>
    simp only
    cases l[p + 1]? with
    | none => rfl
    | some c =>
      simp only
      cases letterS c.toNat with
      | none => rfl
      | some x => simp [shQ]; omega
theorem qsS_shift {p : Nat} (hp : p < l.length) : qsS (a ++ l) (a.length + p) = shQ a.length (qsS l p) := by
  unfold qsS
  rw [get_shift, escS_shift, nextR_in (show a.length + p < (a ++ l).length by simp; omega), nextR_in hp, drop_shift]
  cases hc : l[p]? with
  | none => exact absurd hp (by simpa using hc)
  | some c =>
    simp only
    split
    · rfl
    · split
      · rfl
      · split
        · rfl
        · simp [shQ]; omega
def shX (A : Nat) (x : Int × Int) : Int × Int := (x.1, (A : Int) + x.2)
theorem signsL_shift : ∀ (k p : Nat), l.length - p ≤ k → p ≤ l.length → signsL (a ++ l) (a.length + p) = (signsL l p).map (shX a.length) ∧ qEnd (a.length + p) ((signsL l p).map (shX a.length)) = a.length + qEnd p (signsL l p)
  | k, p, hk, hp => by
    by_cases hc : p < l.length ∧ (qsS l p).2.2 = 0
    · obtain ⟨c, m, h1, h2, h3, h4, h5⟩ := qs_ok (c := (qsS l p).1) (n := (qsS l p).2.1) (by rw [← hc.2]) hc.1
      have he : qsS l p = ((c : Int), (m : Int), 0) := by rw [← h1, ← h2, ← hc.2]
      have he2 : qsS (a ++ l) (a.length + p) = ((c : Int), ((a.length + m : Nat) : Int), 0) := by rw [qsS_shift hc.1, he]; simp [shQ]
      rw [signsL_cons he hc.1, signsL_cons he2 (by simp; omega)]
      match k, hk with
      | 0, hk => omega
      | k + 1, hk =>
        obtain ⟨i1, i2⟩ := signsL_shift k m (by omega) h4
        rw [i1, List.map_cons, qEnd_cons, qEnd_cons]
        refine ⟨by simp [shX], ?_⟩
        have e : (shX a.length ((c : Int), (m : Int))).2.toNat = a.length + m := by simp [shX]; omega
        rw [e, i2]; simp
    · have hn : signsL l p = [] := signsL_nil (fun h e => hc ⟨h, e⟩)
      rw [hn]
      refine ⟨signsL_nil (fun h => ?_), rfl⟩
      have hlt : p < l.length := by simp at h; omega
      rw [qsS_shift hlt]
      have hne : ¬ (qsS l p).2.2 = 0 := fun e => hc ⟨hlt, e⟩
      unfold shQ
      rw [if_neg hne]; exact hne
theorem qBytes_sh (A : Nat) : ∀ xs : List (Int × Int), qBytes (xs.map (shX A)) = qBytes xs
  | [] => rfl
  | x :: xs => by
    show cpBytes _ ++ qBytes (xs.map (shX A)) = cpBytes _ ++ qBytes xs
    rw [qBytes_sh A xs]; rfl
theorem qSign_shift {p : Nat} (hp : p ≤ l.length) : (qSign (a ++ l) ((a.length + p : Nat) : Int)).2.2 = (qSign l (p : Int)).2.2 := by
  rcases Nat.lt_or_eq_of_le hp with h | h
  · rw [qSign_in (show a.length + p < (a ++ l).length by simp; omega), qSign_in h, qsS_shift h]
    unfold shQ
    split
    · rename_i e; exact e.symm
    · rfl
  · subst h
    unfold qSign
    rw [if_neg (by rw [List.length_append]; omega), if_pos (by rw [List.length_append]), if_neg (by omega), if_pos rfl]
theorem qRead_shift {p : Nat} (hp : p < l.length) : qRead (a ++ l) ((a.length + p : Nat) : Int) = ((qRead l p).1, (a.length : Int) + (qRead l p).2.1, (qRead l p).2.2) := by
  rw [qRead_in (show a.length + p < (a ++ l).length by simp; omega), qRead_in hp, get_shift]
  obtain ⟨i1, i2⟩ := signsL_shift (a := a) (l := l) _ (p + 1) (Nat.le_refl _) (by omega)
  have hle := qEnd_in (l := l) (a := p + 1) (by omega)
  rw [show a.length + p + 1 = a.length + (p + 1) from rfl, i1, i2, get_shift, qBytes_sh, qSign_shift hle]
  split
  · simp
  · split
    · simp; omega
    · simp
theorem skipB_shift (p : Nat) : skipB (a ++ l) (a.length + p) = a.length + skipB l p := by
  unfold skipB; rw [drop_shift, Nat.add_assoc]
theorem tw_lt {f : UInt8 → Bool} {v : List UInt8} : ∀ {u : List UInt8}, (u.takeWhile f).length < u.length → (u ++ v).takeWhile f = u.takeWhile f
  | [], h => by simp at h
  | c :: r, h => by
    rw [List.takeWhile_cons] at h
    rw [List.cons_append, List.takeWhile_cons, List.takeWhile_cons]
    split
    · rename_i hc
      rw [if_pos hc] at h
      rw [tw_lt (by simpa using h)]
    · rfl
theorem tw_whole {f : UInt8 → Bool} {v : List UInt8} : ∀ {u : List UInt8}, ¬ (u.takeWhile f).length < u.length → (u ++ v).takeWhile f = u ++ v.takeWhile f
  | [], h => rfl
  | c :: r, h => by
    rw [List.takeWhile_cons] at h
    rw [List.cons_append, List.takeWhile_cons]
    split
    · rename_i hc
      rw [if_pos hc] at h
      rw [tw_whole (by simpa using h)]; rfl
    · rename_i hc
      rw [if_neg hc] at h
      simp at h
theorem skipB_in {s : List UInt8} {p : Nat} : skipB s p < s.length ↔ p ≤ s.length ∧ ((s.drop p).takeWhile isBlankB).length < (s.drop p).length := by
  unfold skipB; simp; omega
end
end Go.Proofs.YtalhoacancbldaaDoor
