import Derived.Test.YtoejdhabpajhlaaDoorQuote6
import Derived.Test.YtoejdhabpajhlaaDoorNum4
import Derived.Test.YtoejdhabpajhlaaDoorSpecJson
import Derived.Test.YtoejdhabpajhlaaDoorSpecUtf
/- Plain: where a quoted text ends. -/
namespace Go.Proofs.YtoejdhabpajhlaaDoor
set_option linter.unusedVariables false
set_option linter.unusedSimpArgs false

theorem qsS_more {l : List UInt8} {e : Nat} (h : signsL l e = []) (he : e < l.length) : (qsS l e).2.2 ≠ 0 := fun h0 => by
  obtain ⟨p, m, h1, h2, _⟩ := qs_ok (c := (qsS l e).1) (n := (qsS l e).2.1) (by rw [← h0]) he
  have := signsL_cons (l := l) (a := e) (p := p) (m := m) (by rw [← h1, ← h2, ← h0]) he
  rw [h] at this
  cases this
/-- where a quoted text is read, it ends within the row -/
theorem qRead_ok {l : List UInt8} {a : Nat} (h : (qRead l a).2.2 = 0) : ∃ m : Nat, (qRead l a).2.1 = m ∧ a < m ∧ m ≤ l.length := by
  unfold qRead at h ⊢
  split at h
  · simp at h
  · rename_i h1
    rw [if_neg h1]
    split at h
    · simp at h
    · rename_i h2
      rw [if_neg h2]
      rw [Int.toNat_natCast] at h ⊢
      split at h
      · simp at h
      · rename_i h3
        rw [if_neg h3]
        have hp := signs_pre (l := l) (l.length - (a + 1)) (a + 1) _ (Nat.le_refl _) (List.prefix_refl _) (by omega)
        obtain ⟨_, g2, g3, g4⟩ := hp
        split at h
        · rename_i h4
          rw [if_pos h4]
          have := (List.getElem?_eq_some_iff.1 h4).1
          exact ⟨qEnd (a + 1) (signsL l (a + 1)) + 1, rfl, by omega, this⟩
        · exfalso
          have hnil : signsL l (qEnd (a + 1) (signsL l (a + 1))) = [] := List.self_eq_append_right.1 g4
          unfold qSign at h
          rw [if_neg (by omega)] at h
          split at h
          · simp at h
          · rename_i h5
            rw [Int.toNat_natCast] at h
            exact qsS_more hnil (by omega) h

theorem nextR_in {l : List UInt8} {a : Nat} (h : a < l.length) : nextR l (a : Int) = if (cpBegin (l.drop a)).2 = 0 then ((0 : Int), (0 : Int), (110 : Int)) else (((cpBegin (l.drop a)).1 : Int), (a : Int) + (cpBegin (l.drop a)).2, 0) := by
  unfold nextR
  rw [if_neg (by omega), if_neg (by omega), Int.toNat_natCast]
theorem qSign_in {l : List UInt8} {a : Nat} (h : a < l.length) : qSign l (a : Int) = qsS l a := by
  unfold qSign
  rw [if_neg (by omega), if_neg (by omega), Int.toNat_natCast]
theorem qRead_in {l : List UInt8} {a : Nat} (h : a < l.length) : qRead l (a : Int) = if l[a]? ≠ some 34 then ([], (a : Int), 7)
  else if l[qEnd (a + 1) (signsL l (a + 1))]? = some 34 then (qBytes (signsL l (a + 1)), (qEnd (a + 1) (signsL l (a + 1)) : Int) + 1, 0)
  else ([], (qEnd (a + 1) (signsL l (a + 1)) : Int), (qSign l (qEnd (a + 1) (signsL l (a + 1)) : Nat)).2.2) := by
  unfold qRead
  rw [if_neg (by omega), if_neg (by omega), Int.toNat_natCast]
theorem qEnd_cons (a : Nat) (x : Int × Int) (xs : List (Int × Int)) : qEnd a (x :: xs) = qEnd x.2.toNat xs := by
  unfold qEnd
  cases xs with
  | nil => rfl
  | cons y ys => rw [List.getLast?_cons_cons]; rw [List.getLast?_eq_some_getLast (by simp)]
theorem qEnd_in {l : List UInt8} {a : Nat} (ha : a ≤ l.length) : qEnd a (signsL l a) ≤ l.length := (signs_pre _ a _ (Nat.le_refl _) (List.prefix_refl _) ha).2.2.1
end Go.Proofs.YtoejdhabpajhlaaDoor

/- Plain: where a numeral ends. -/
namespace Go.Proofs.YtoejdhabpajhlaaDoor
set_option linter.unusedVariables false
set_option linter.unusedSimpArgs false
open Go.RowKit

theorem takeS_ge {s l : List UInt8} {st : NSt} : st.pos ≤ (takeS s l st).pos := by
  unfold takeS; split
  · exact Nat.le_succ _
  · exact Nat.le_refl _
theorem rowS_ge {gr : Bool} {l : List UInt8} {st : NSt} : st.pos ≤ (rowS gr l st).1.pos := by
  unfold rowS
  split
  · exact Nat.le_refl _
  · cases gr <;> exact Nat.le_add_right _ _
theorem stepK_ge {k : Nat} {l : List UInt8} {st st' : NSt} {q : Option Nat} (h : stepK k l st = (st', q)) : st.pos ≤ st'.pos := by
  have e : (stepK k l st).1 = st' := by rw [h]
  rw [← e]
  rcases k with _ | _ | _ | k
  · exact takeS_ge (s := [45])
  · show st.pos ≤ (wholeS l st).1.pos
    unfold wholeS
    split
    · exact Nat.le_succ _
    · exact rowS_ge
  · show st.pos ≤ (fracS l st).1.pos
    unfold fracS
    split
    · exact Nat.le_trans (Nat.le_succ st.pos) (rowS_ge (gr := false) (l := l) (st := { st with pos := st.pos + 1, part := true }))
    · exact Nat.le_refl _
  · show st.pos ≤ (expS l st).1.pos
    unfold expS
    split
    · exact Nat.le_trans (Nat.le_trans (Nat.le_succ st.pos) (takeS_ge (s := [43, 45]) (l := l) (st := { st with pos := st.pos + 1, part := true }))) rowS_ge
    · exact Nat.le_refl _
theorem runK_in {l : List UInt8} : ∀ {ks : List Nat} {st st' : NSt} {q : Option Nat}, runK l ks st = (st', q) → st.pos ≤ l.length → st.size < 18446744073709551616 → st.pos ≤ st'.pos ∧ st'.pos ≤ l.length
  | [], st, st', q, h, hp, _ => by
    simp only [runK, Prod.mk.injEq] at h
    rw [← h.1]; exact ⟨Nat.le_refl _, hp⟩
  | k :: ks, st, st', q, h, hp, hs => by
    obtain ⟨⟨s1, r⟩, hr⟩ : ∃ r, stepK k l st = r := ⟨_, rfl⟩
    have hle := stepK_le hr hp hs
    have hge := stepK_ge hr
    cases r with
    | none =>
      rw [runK_none hr] at h
      have := runK_in h hle.1 hle.2
      exact ⟨Nat.le_trans hge this.1, this.2⟩
    | some p =>
      rw [runK_some hr] at h
      simp only [Prod.mk.injEq] at h
      rw [← h.1]; exact ⟨hge, hle.1⟩
theorem numRead_ok {l : List UInt8} {a : Nat} (h : (numRead l a).2.2 = 0) : ∃ m : Nat, (numRead l a).2.1 = m ∧ a ≤ m ∧ m ≤ l.length := by
  unfold numRead at h ⊢
  split at h
  · simp at h
  · rename_i h1
    rw [if_neg h1]
    rw [Int.toNat_natCast] at h ⊢
    obtain ⟨⟨st, q⟩, hq⟩ : ∃ r, numRun l (numStart a) = r := ⟨_, rfl⟩
    have hin := runK_in hq (by show a ≤ _; omega) (by show 0 < _; omega)
    rw [hq] at h ⊢
    cases q with
    | some p => simp at h
    | none =>
      simp only at h ⊢
      unfold numEnd at h ⊢
      split at h
      · simp at h
      · rename_i h2
        rw [if_neg h2]
        exact ⟨st.pos, rfl, hin.1, hin.2⟩

theorem wholeS_more {l : List UInt8} {st st' : NSt} (h : wholeS l st = (st', none)) : st.pos < st'.pos := by
  unfold wholeS at h
  split at h
  · simp only [Prod.mk.injEq] at h; rw [← h.1]; exact Nat.lt_succ_self _
  · unfold rowS at h
    split at h
    · simp at h
    · rename_i hd
      simp only [Prod.mk.injEq] at h
      rw [← h.1]
      have : 0 < (digs l st.pos).length := List.length_pos_iff.2 hd
      show st.pos < st.pos + _
      omega
theorem numRead_more {l : List UInt8} {a : Nat} (h : (numRead l a).2.2 = 0) : ∃ m : Nat, (numRead l a).2.1 = m ∧ a < m ∧ m ≤ l.length := by
  obtain ⟨m, h1, _, h3⟩ := numRead_ok h
  refine ⟨m, h1, ?_, h3⟩
  unfold numRead at h h1
  split at h
  · simp at h
  · rename_i hin
    rw [if_neg hin] at h1
    rw [Int.toNat_natCast] at h h1
    obtain ⟨⟨st, q⟩, hq⟩ : ∃ r, numRun l (numStart a) = r := ⟨_, rfl⟩
    rw [hq] at h h1
    cases q with
    | some p => simp at h
    | none =>
      simp only at h h1
      unfold numEnd at h h1
      split at h
      · simp at h
      · rename_i h2
        rw [if_neg h2] at h1
        have hm : st.pos = m := by simp at h1; omega
        rw [← hm]
        unfold numRun at hq
        have ha : a ≤ l.length := by omega
        obtain ⟨⟨s1, r1⟩, e1⟩ : ∃ r, stepK 0 l (numStart a) = r := ⟨_, rfl⟩
        have b1 := stepK_ge e1
        have c1 := stepK_le e1 ha (by show 0 < _; omega)
        have hr1 : r1 = none := by
          have : (stepK 0 l (numStart a)).2 = none := rfl
          rw [e1] at this; exact this
        subst hr1
        rw [runK_none e1] at hq
        obtain ⟨⟨s2, r2⟩, e2⟩ : ∃ r, stepK 1 l s1 = r := ⟨_, rfl⟩
        cases r2 with
        | some x => rw [runK_some e2] at hq; simp at hq
        | none =>
          have b2 := wholeS_more (l := l) (st := s1) (st' := s2) e2
          have c2 := stepK_le e2 c1.1 c1.2
          rw [runK_none e2] at hq
          have b3 := runK_in hq c2.1 c2.2
          have : (numStart a).pos = a := rfl
          omega
end Go.Proofs.YtoejdhabpajhlaaDoor

/- Plain: state by state and level within level are one. -/
namespace Go.Proofs.YtoejdhabpajhlaaDoor
set_option linter.unusedVariables false
set_option linter.unusedSimpArgs false

section
variable {l : List UInt8}
theorem pRun_add : ∀ (a b : Nat) (r : PRes), pRun l (a + b) r = pRun l b (pRun l a r)
  | 0, b, r => by rw [Nat.zero_add]; rfl
  | a + 1, b, r => by rw [show a + 1 + b = (a + b) + 1 from by omega]; exact pRun_add a b _
theorem pRun_fail (p e : Int) : ∀ k, pRun l k (.fail p e) = .fail p e
  | 0 => rfl
  | k + 1 => pRun_fail p e k
theorem pRun_done (p : Nat) (v : JV) : ∀ k, pRun l k (.done p v) = .done p v
  | 0 => rfl
  | k + 1 => pRun_done p v k
/-- one leads to the other -/
def Reach (l : List UInt8) (a b : PRes) : Prop := ∃ k, pRun l k a = b
theorem Reach.refl (a : PRes) : Reach l a a := ⟨0, rfl⟩
theorem Reach.trans {a b c : PRes} : Reach l a b → Reach l b c → Reach l a c
  | ⟨k, h⟩, ⟨k', h'⟩ => ⟨k + k', by rw [pRun_add, h, h']⟩
theorem Reach.step {a c : PRes} (h : Reach l (pStep l a) c) : Reach l a c := by obtain ⟨k, h⟩ := h; exact ⟨k + 1, h⟩
theorem Reach.step' {a b c : PRes} (e : pStep l a = b) (h : Reach l b c) : Reach l a c := Reach.step (by rw [e]; exact h)
def outR (r : RRes) (stk : JStk) : PRes := match r with | .ok v q k => pPut v q k stk | .err p e => .fail p e

theorem beginJ_skip (a m d : Nat) : beginJ l (skipB l a) m d = beginJ l a m d := by unfold beginJ; rw [skipB_idem]
theorem pValue_skip (a m : Nat) (stk : JStk) : pValue l (skipB l a) m stk = pValue l a m stk := by unfold pValue; rw [beginJ_skip]
theorem pKey_skip (a m : Nat) (x : JV × List UInt8) (r : JStk) : pKey l (skipB l a) m (x :: r) = pKey l a m (x :: r) := by
  obtain ⟨v, k⟩ := x; simp only [pKey]; rw [skipB_idem]
theorem addKid_list (kids : List JV) (key : List UInt8) (x : JV) : addKid (.mk 5 0 [] kids []) key x = .mk 5 0 [] (kids ++ [x]) [] := by
  unfold addKid; simp only; rw [if_neg (by decide)]
theorem step_more (x : JV) (q k : Nat) (top : JV) (key : List UInt8) (stk : JStk) : pStep l (outR (.ok x q k) ((top, key) :: stk)) = pMore l q k ((addKid top key x, key) :: stk) := rfl

theorem mem_insAt {α : Type} {l : List α} {i : Nat} {x y : α} : y ∈ insAt l i x ↔ y ∈ l ∨ y = x := by
  unfold insAt
  constructor
  · intro h
    rcases List.mem_append.1 h with h | h
    · exact .inl (List.mem_of_mem_take h)
    · rcases List.mem_cons.1 h with h | h
      · exact .inr h
      · exact .inl (List.mem_of_mem_drop h)
  · rintro (h | rfl)
    · rw [← List.take_append_drop i l] at h
      rcases List.mem_append.1 h with h | h
      · exact List.mem_append_left _ h
      · exact List.mem_append_right _ (List.mem_cons_of_mem _ h)
    · simp
/-- an object under way -/
structure IsObj (v : JV) (keys : List (List UInt8)) : Prop where
  kind : v.kind = 6
  len : v.keys.length = v.kids.length
  mem : ∀ s, s ∈ v.keys ↔ s ∈ keys
theorem IsObj.add {v : JV} {keys : List (List UInt8)} (h : IsObj v keys) (s : List UInt8) (x : JV) : IsObj (addKid v s x) (keys ++ [s]) := by
  obtain ⟨k, n, t, kids, ks⟩ := v
  have hk : k = 6 := h.kind
  have hl : ks.length = kids.length := h.len
  unfold addKid
  simp only
  rw [if_pos hk]
  refine ⟨hk, ?_, fun y => ?_⟩
  · show (insAt ks _ s).length = (insAt kids _ x).length
    have := insPos_le s ks kids.length
    simp [insAt]; omega
  · show y ∈ insAt ks _ s ↔ _
    rw [mem_insAt, List.mem_append, List.mem_singleton]
    have : y ∈ ks ↔ y ∈ keys := h.mem y
    rw [this]
theorem sortedJ_snoc {keys : List (List UInt8)} {kids : List JV} (h : keys.length = kids.length) (s : List UInt8) (x : JV) :
    sortedJ (keys ++ [s]) (kids ++ [x]) = addKid (sortedJ keys kids) s x := by
  unfold sortedJ
  rw [List.zip_append h, List.foldl_append]; rfl
theorem isObj_foldl : ∀ (ps : List (List UInt8 × JV)) (v : JV) (keys : List (List UInt8)), IsObj v keys → IsObj (ps.foldl (fun v kx => addKid v kx.1 kx.2) v) (keys ++ ps.map Prod.fst)
  | [], v, keys, h => by simpa using h
  | (s, x) :: r, v, keys, h => by
    have := isObj_foldl r _ _ (h.add s x)
    simpa using this
theorem isObj_sorted {keys : List (List UInt8)} {kids : List JV} (h : keys.length = kids.length) : IsObj (sortedJ keys kids) keys := by
  have h1 := isObj_foldl (keys.zip kids) (.mk 6 0 [] [] []) [] ⟨rfl, rfl, fun s => Iff.rfl⟩
  rw [List.nil_append, List.map_fst_zip (Nat.le_of_eq h)] at h1
  exact h1

mutual
theorem sim_rd {a m d : Nat} {r : RRes} : RdR l a m d r → ∀ stk : JStk, stk.length = d → Reach l (pValue l a m stk) (outR r stk)
  | .err h, stk, hs => by subst hs; unfold pValue; rw [h]; exact Reach.refl _
  | .atom h, stk, hs => by subst hs; unfold pValue; rw [h]; exact Reach.refl _
  | .list0 h h1, stk, hs => by
    subst hs; unfold pValue; rw [h]
    refine Reach.step' (b := pFirst l _ _ _) rfl ?_
    unfold pFirst; rw [if_pos h1]; exact Reach.refl _
  | .list1 h h1 h2, stk, hs => by
    have ih := sim_ls h2 stk [] hs
    subst hs; unfold pValue; rw [h]
    refine Reach.step' (b := pFirst l _ _ _) rfl ?_
    unfold pFirst; rw [if_neg h1, ← pValue_skip]; exact ih
  | .obj0 h h1, stk, hs => by
    subst hs; unfold pValue; rw [h]
    refine Reach.step' (b := pFirstKey l _ _ _) rfl ?_
    unfold pFirstKey; rw [if_pos h1]; exact Reach.refl _
  | .obj1 h h1 h2, stk, hs => by
    have ih := sim_ob h2 stk [] hs rfl
    subst hs; unfold pValue; rw [h]
    refine Reach.step' (b := pFirstKey l _ _ _) rfl ?_
    unfold pFirstKey; rw [if_neg h1, ← pKey_skip]; exact ih
theorem sim_ls {a m d : Nat} {kids : List JV} {r : RRes} : LsR l a m d kids r → ∀ (stk : JStk) (key : List UInt8), stk.length = d → Reach l (pValue l a m ((.mk 5 0 [] kids [], key) :: stk)) (outR r stk)
  | .err h, stk, key, hs => sim_rd h ((.mk 5 0 [] kids [], key) :: stk) (by simp [hs])
  | .close h h1, stk, key, hs => by
    refine (sim_rd h ((.mk 5 0 [] kids [], key) :: stk) (by simp [hs])).trans ?_
    refine Reach.step' (step_more _ _ _ _ _ _) ?_
    have : (some (93 : UInt8)) ≠ some 44 := by decide
    rw [addKid_list]
    simp only [pMore, h1, JV.kind]
    exact Reach.refl _
  | .comma h h1 h2, stk, key, hs => by
    refine (sim_rd h ((.mk 5 0 [] kids [], key) :: stk) (by simp [hs])).trans ?_
    refine Reach.step' (step_more _ _ _ _ _ _) ?_
    rw [addKid_list]
    simp only [pMore, h1, JV.kind]
    exact Reach.step' (b := pValue l _ _ _) rfl (sim_ls h2 stk key hs)
  | .bad h h1 h2, stk, key, hs => by
    refine (sim_rd h ((.mk 5 0 [] kids [], key) :: stk) (by simp [hs])).trans ?_
    refine Reach.step' (step_more _ _ _ _ _ _) ?_
    rw [addKid_list]
    simp only [pMore]
    rw [if_neg h2, if_neg (by simpa [JV.kind] using h1)]
    exact Reach.refl _
theorem sim_ob {a m d : Nat} {keys : List (List UInt8)} {kids : List JV} {r : RRes} : ObR l a m d keys kids r → ∀ (stk : JStk) (key : List UInt8), stk.length = d → keys.length = kids.length →
    Reach l (pKey l a m ((sortedJ keys kids, key) :: stk)) (outR r stk)
  | .nokey h, stk, key, hs, hl => by simp only [pKey]; rw [if_neg h]; exact Reach.refl _
  | .badkey h h1, stk, key, hs, hl => by simp only [pKey]; rw [if_pos h, if_neg h1]; exact Reach.refl _
  | .double h h1 h2, stk, key, hs, hl => by simp only [pKey]; rw [if_pos h, if_pos h1, if_pos ((isObj_sorted hl).mem _ |>.2 h2)]; exact Reach.refl _
  | .nocolon h h1 h2 h3, stk, key, hs, hl => by
    simp only [pKey]; rw [if_pos h, h1, if_pos rfl, if_neg (fun h => h2 ((isObj_sorted hl).mem _ |>.1 h))]
    refine Reach.step' (b := pColon l _ _ _) rfl ?_
    unfold pColon
    simp only [Int.toNat_natCast]
    rw [if_neg h3]; exact Reach.refl _
  | .err h h1 h2 h3 h4, stk, key, hs, hl => by
    simp only [pKey]; rw [if_pos h, h1, if_pos rfl, if_neg (fun h => h2 ((isObj_sorted hl).mem _ |>.1 h))]
    refine Reach.step' (b := pColon l _ _ _) rfl ?_
    unfold pColon
    simp only [Int.toNat_natCast]
    rw [if_pos h3]
    exact Reach.step' (b := pValue l _ _ _) rfl (sim_rd h4 (_ :: stk) (by simp [hs]))
  | .close (s := s) (x := x) h h1 h2 h3 h4 h5, stk, key, hs, hl => by
    simp only [pKey]; rw [if_pos h, h1, if_pos rfl, if_neg (fun h => h2 ((isObj_sorted hl).mem _ |>.1 h))]
    refine Reach.step' (b := pColon l _ _ _) rfl ?_
    unfold pColon
    simp only [Int.toNat_natCast]
    rw [if_pos h3]
    refine Reach.step' (b := pValue l _ _ _) rfl ((sim_rd h4 (_ :: stk) (by simp [hs])).trans ?_)
    have hk : (addKid (sortedJ keys kids) s x).kind = 6 := ((isObj_sorted hl).add s x).kind
    refine Reach.step' (step_more _ _ _ _ _ _) ?_
    simp only [pMore]
    rw [hk, if_neg (by rw [h5]; decide), if_pos (by rw [h5]; rfl), ← sortedJ_snoc hl]
    exact Reach.refl _
  | .comma (s := s) (x := x) h h1 h2 h3 h4 h5 h6, stk, key, hs, hl => by
    have ih := sim_ob h6 stk s hs (by simp [hl])
    simp only [pKey]; rw [if_pos h, h1, if_pos rfl, if_neg (fun h => h2 ((isObj_sorted hl).mem _ |>.1 h))]
    refine Reach.step' (b := pColon l _ _ _) rfl ?_
    unfold pColon
    simp only [Int.toNat_natCast]
    rw [if_pos h3]
    refine Reach.step' (b := pValue l _ _ _) rfl ((sim_rd h4 (_ :: stk) (by simp [hs])).trans ?_)
    have hk : (addKid (sortedJ keys kids) s x).kind = 6 := ((isObj_sorted hl).add s x).kind
    refine Reach.step' (step_more _ _ _ _ _ _) ?_
    simp only [pMore]
    rw [hk, if_pos h5, if_pos rfl, ← sortedJ_snoc hl]
    exact Reach.step' (b := pKey l _ _ _) rfl ih
  | .bad (s := s) (x := x) h h1 h2 h3 h4 h5 h6, stk, key, hs, hl => by
    simp only [pKey]; rw [if_pos h, h1, if_pos rfl, if_neg (fun h => h2 ((isObj_sorted hl).mem _ |>.1 h))]
    refine Reach.step' (b := pColon l _ _ _) rfl ?_
    unfold pColon
    simp only [Int.toNat_natCast]
    rw [if_pos h3]
    refine Reach.step' (b := pValue l _ _ _) rfl ((sim_rd h4 (_ :: stk) (by simp [hs])).trans ?_)
    have hk : (addKid (sortedJ keys kids) s x).kind = 6 := ((isObj_sorted hl).add s x).kind
    refine Reach.step' (step_more _ _ _ _ _ _) ?_
    simp only [pMore]
    rw [hk, if_neg h6, if_neg (by simpa using h5)]
    exact Reach.refl _
end
end
end Go.Proofs.YtoejdhabpajhlaaDoor

/- Plain: what holds of a parser at every state; every state but the last one goes on. -/
namespace Go.Proofs.YtoejdhabpajhlaaDoor
set_option linter.unusedVariables false
set_option linter.unusedSimpArgs false

def entOk (v : JV) : Prop := (v.kind = 6 → v.keys.length = v.kids.length) ∧ (v.kind ≠ 6 → v.keys = [])
def stkI : Nat → JStk → Prop
  | _, [] => True
  | m, (v, _) :: r => v.kids.length + 1 ≤ m ∧ entOk v ∧ stkI (m - 1) r
theorem stkI_mono : ∀ {stk : JStk} {m m' : Nat}, m ≤ m' → stkI m stk → stkI m' stk
  | [], _, _, _, _ => trivial
  | (v, _) :: r, m, m', h, hi => ⟨Nat.le_trans hi.1 h, hi.2.1, stkI_mono (by omega) hi.2.2⟩
theorem stkI_mem : ∀ {stk : JStk} {m : Nat}, stkI m stk → ∀ x ∈ stk, x.1.kids.length ≤ m ∧ entOk x.1
  | [], _, _, _, h => by cases h
  | (v, k) :: r, m, hi, x, h => by
    rcases List.mem_cons.1 h with rfl | h
    · exact ⟨Nat.le_trans (Nat.le_succ _) hi.1, hi.2.1⟩
    · have := stkI_mem hi.2.2 x h
      exact ⟨by omega, this.2⟩
theorem entOk_add {v x : JV} (h : entOk v) (key : List UInt8) : entOk (addKid v key x) ∧ (addKid v key x).kids.length = v.kids.length + 1 := by
  obtain ⟨k, n, s, kids, keys⟩ := v
  unfold addKid
  simp only
  by_cases h6 : k = 6
  · rw [if_pos h6]
    have hl : keys.length = kids.length := h.1 h6
    have hle := insPos_le key keys kids.length
    refine ⟨⟨fun _ => ?_, fun h' => absurd h6 h'⟩, ?_⟩
    · show (insAt keys _ key).length = (insAt kids _ x).length
      simp [insAt]; omega
    · show (insAt kids _ x).length = kids.length + 1
      simp [insAt]; omega
  · rw [if_neg h6]
    exact ⟨⟨fun h' => absurd h' h6, fun _ => h.2 h6⟩, by show (kids ++ [x]).length = _; simp; rfl⟩
structure okG (l : List UInt8) (s p m : Nat) (stk : JStk) : Prop where
  hp : p ≤ l.length
  hm : m ≤ 256
  hd : stk.length ≤ 8
  hi : stkI m stk
  hs : s = 0 ∨ stk ≠ []
  h5 : s ≤ 5
def okP (l : List UInt8) : PRes → Prop
  | .go s p m stk => okG l s p m stk
  | .fail _ e => e ≠ 0
  | .done q _ => q ≤ l.length
theorem failF_ne {l : List UInt8} {p e : Int} (h : e ≠ 0) : (failF l p e).2 ≠ 0 := by unfold failF; simp only; split; decide; exact h
def later (p : Nat) : PRes → Prop
  | .go _ p' _ _ => p < p'
  | _ => True
section
variable {l : List UInt8}
theorem get_lt {q : Nat} {c : UInt8} (h : l[q]? = some c) : q < l.length := (List.getElem?_eq_some_iff.1 h).1
theorem put_ok {v : JV} {p q m : Nat} {stk : JStk} (hpq : p < q) (hq : q ≤ l.length) (hm : m ≤ 256) (h1 : 1 ≤ m) (hd : stk.length ≤ 8) (hi : stkI (m - 1) stk) : okP l (pPut v q m stk) ∧ later p (pPut v q m stk) := by
  match stk, hd, hi with
  | [], _, _ => exact ⟨hq, trivial⟩
  | (top, key) :: r, hd, hi =>
    obtain ⟨e1, e2⟩ := entOk_add hi.2.1 key (x := v)
    refine ⟨⟨hq, hm, hd, ⟨?_, e1, stkI_mono (by omega) hi.2.2⟩, .inr (by simp), Nat.le_refl _⟩, hpq⟩
    have := hi.1
    rw [e2]; omega
theorem wordMis_none : ∀ {u : List UInt8} {p : Nat}, wordMis l p u = none → p ≤ l.length → p + u.length ≤ l.length
  | [], p, _, hp => by simpa using hp
  | c :: r, p, h, hp => by
    unfold wordMis at h
    split at h
    · rename_i hc
      have := wordMis_none h (by have := get_lt hc; omega)
      simp; omega
    · cases h
theorem word_ok {p : Nat} {u : List UInt8} {v w : JV} {m : Nat} (h : wordJ l p u v = .inl (w, m)) (hp : p ≤ l.length) (hu : u ≠ []) : p < m ∧ m ≤ l.length := by
  unfold wordJ at h
  cases hw : wordMis l p u with
  | some q => rw [hw] at h; cases h
  | none =>
    rw [hw] at h
    simp only [Sum.inl.injEq, Prod.mk.injEq] at h
    have := wordMis_none hw hp
    have := List.length_pos_iff.2 hu
    omega
theorem atom_ok {p : Nat} {c : UInt8} {v : JV} {m : Nat} (h : atomJ l p c = .inl (v, m)) (hp : p ≤ l.length) : p < m ∧ m ≤ l.length := by
  unfold atomJ at h
  repeat' split at h
  · unfold textJ at h
    split at h
    · rename_i h0
      obtain ⟨m', e, h1, h2⟩ := qRead_ok h0
      simp only [Sum.inl.injEq, Prod.mk.injEq] at h
      rw [e, Int.toNat_natCast] at h
      omega
    · cases h
  · exact word_ok h hp (by decide)
  · exact word_ok h hp (by decide)
  · exact word_ok h hp (by decide)
  · unfold numJ at h
    split at h
    · rename_i h0
      obtain ⟨m', e, h1, h2⟩ := numRead_more h0
      simp only [Sum.inl.injEq, Prod.mk.injEq] at h
      rw [e, Int.toNat_natCast] at h
      omega
    · cases h
theorem atom_err {p : Nat} {c : UInt8} {q e : Int} (h : atomJ l p c = .inr (q, e)) : e ≠ 0 := by
  unfold atomJ at h
  have hw : ∀ u v, wordJ l p u v = .inr (q, e) → e ≠ 0 := fun u v h => by
    unfold wordJ at h
    cases hm : wordMis l p u with
    | none => rw [hm] at h; cases h
    | some k =>
      rw [hm] at h
      injection h with h
      have := failF_ne (l := l) (p := (k : Int)) (e := 7) (by decide)
      rw [h] at this; exact this
  repeat' split at h
  · unfold textJ at h
    split at h
    · cases h
    · rename_i h0
      injection h with h
      have := failF_ne (l := l) (p := (qRead l p).2.1) h0
      rw [h] at this; exact this
  · exact hw _ _ h
  · exact hw _ _ h
  · exact hw _ _ h
  · unfold numJ at h
    split at h
    · cases h
    · rename_i h0
      injection h with h
      have := failF_ne (l := l) (p := (numRead l p).2.1) h0
      rw [h] at this; exact this
def bOk (l : List UInt8) (a m d : Nat) : BRes → Prop
  | .err _ e => e ≠ 0
  | .atom _ q => a < q ∧ q ≤ l.length ∧ m ≠ 256
  | .opens q _ => a ≤ q ∧ q < l.length ∧ m ≠ 256 ∧ d ≠ 8
theorem begin_what {a m d : Nat} (ha : a ≤ l.length) : bOk l a m d (beginJ l a m d) := by
  unfold beginJ
  have hge := skipB_ge l a
  have hle := skipB_le ha
  cases hc : l[skipB l a]? with
  | none => exact failF_ne (by decide)
  | some c =>
    simp only
    have hlt := get_lt hc
    by_cases h1 : beginsB c = false
    · rw [if_pos h1]; exact failF_ne (by decide)
    · rw [if_neg h1]
      by_cases hm : m = 256
      · rw [if_pos hm]; exact (show (151 : Int) ≠ 0 by decide)
      · rw [if_neg hm]
        by_cases ho : c.toNat = 91 ∨ c.toNat = 123
        · rw [if_pos ho]
          by_cases hd : d = 8
          · rw [if_pos hd]; exact (show (150 : Int) ≠ 0 by decide)
          · rw [if_neg hd]; exact ⟨hge, hlt, hm, hd⟩
        · rw [if_neg ho]
          cases hat : atomJ l (skipB l a) c with
          | inr e => exact atom_err hat
          | inl r =>
            obtain ⟨v, q⟩ := r
            have := atom_ok hat hle
            exact ⟨by omega, this.2, hm⟩
theorem value_ok {s p m : Nat} {stk : JStk} (h : okG l s p m stk) : okP l (pValue l p m stk) ∧ later p (pValue l p m stk) := by
  have hw := begin_what (m := m) (d := stk.length) h.hp
  unfold pValue
  cases hb : beginJ l p m stk.length with
  | err _ _ => rw [hb] at hw; exact ⟨hw, trivial⟩
  | atom v q =>
    rw [hb] at hw
    have h1 := h.hm
    have h2 : m ≠ 256 := hw.2.2
    exact put_ok hw.1 hw.2.1 (by omega) (by omega) h.hd (by simpa using h.hi)
  | opens q o =>
    rw [hb] at hw
    have h1 := h.hm
    have h2 := h.hd
    obtain ⟨w1, w2, w3, w4⟩ := hw
    refine ⟨⟨w2, by omega, by simp; omega, ⟨by show 0 + 1 ≤ _; omega, ?_, by simpa using h.hi⟩, .inr (by simp), by split <;> decide⟩, by show p < q + 1; omega⟩
    exact ⟨fun _ => rfl, fun _ => rfl⟩
theorem close_ok {s p m : Nat} {stk : JStk} {c : UInt8} (h : okG l s p m stk) (hs : stk ≠ []) (hc : l[skipB l p]? = some c) : okP l (pClose l (skipB l p) m stk) ∧ later p (pClose l (skipB l p) m stk) := by
  match stk, h, hs with
  | (v, k) :: r, h, _ =>
    have h1 := h.hi
    have h2 := h.hd
    have h3 := skipB_ge l p
    simp only [List.length_cons] at h2
    exact put_ok (by omega) (get_lt hc) h.hm (by have := h1.1; omega) (by omega) h1.2.2
theorem key_ok {s p m : Nat} {stk : JStk} (h : okG l s p m stk) (hs : stk ≠ []) : okP l (pKey l p m stk) ∧ later p (pKey l p m stk) := by
  match stk, h, hs with
  | (v, k) :: r, h, _ =>
    simp only [pKey]
    have h3 := skipB_ge l p
    split
    · split
      · rename_i h0
        obtain ⟨q, e, h1, h2⟩ := qRead_ok h0
        split
        · exact ⟨show (141 : Int) ≠ 0 by decide, trivial⟩
        · rw [e, Int.toNat_natCast]
          refine ⟨⟨h2, h.hm, h.hd, h.hi, .inr (by simp), by decide⟩, by show p < q; omega⟩
      · rename_i h0; exact ⟨failF_ne h0, trivial⟩
    · exact ⟨failF_ne (by decide), trivial⟩
theorem step_ok {s p m : Nat} {stk : JStk} (h : okG l s p m stk) : okP l (pStep l (.go s p m stk)) ∧ later p (pStep l (.go s p m stk)) := by
  have h5 := h.h5
  have h3 := skipB_ge l p
  match s, h, h5 with
  | 0, h, _ => exact value_ok h
  | 1, h, _ =>
    have hne := h.hs.resolve_left (by decide)
    show okP l (pFirst l p m stk) ∧ later p (pFirst l p m stk)
    unfold pFirst; split
    · rename_i hc; exact close_ok h hne hc
    · exact value_ok h
  | 2, h, _ =>
    have hne := h.hs.resolve_left (by decide)
    show okP l (pFirstKey l p m stk) ∧ later p (pFirstKey l p m stk)
    unfold pFirstKey; split
    · rename_i hc; exact close_ok h hne hc
    · exact key_ok h hne
  | 3, h, _ => exact key_ok h (h.hs.resolve_left (by decide))
  | 4, h, _ =>
    show okP l (pColon l p m stk) ∧ later p (pColon l p m stk)
    unfold pColon; split
    · rename_i hc
      have := get_lt hc
      exact ⟨⟨this, h.hm, h.hd, h.hi, .inl rfl, by decide⟩, by show p < _ + 1; omega⟩
    · exact ⟨failF_ne (by decide), trivial⟩
  | 5, h, _ =>
    have hne := h.hs.resolve_left (by decide)
    match stk, h, hne with
    | (v, k) :: r, h, hne =>
      show okP l (pMore l p m ((v, k) :: r)) ∧ later p (pMore l p m ((v, k) :: r))
      simp only [pMore]
      by_cases hc : l[skipB l p]? = some 44
      · rw [if_pos hc]
        have := get_lt hc
        exact ⟨⟨this, h.hm, h.hd, h.hi, .inr (by simp), by split <;> decide⟩, by show p < _ + 1; omega⟩
      · rw [if_neg hc]
        by_cases hc2 : l[skipB l p]? = some (if v.kind = 6 then 125 else 93)
        · rw [if_pos hc2]; exact close_ok h hne hc2
        · rw [if_neg hc2]; exact ⟨failF_ne (by decide), trivial⟩
theorem start_ok {a : Nat} (h : a ≤ l.length) : okG l 0 a 0 [] := ⟨h, by decide, by decide, trivial, .inl rfl, by decide⟩
end
end Go.Proofs.YtoejdhabpajhlaaDoor

/- Plain: a row that is cut, and what is read of it. -/
namespace Go.Proofs.YtoejdhabpajhlaaDoor
set_option linter.unusedVariables false
set_option linter.unusedSimpArgs false
open Go.RowKit

section Cut
variable {l : List UInt8}
theorem cut_drop {p m : Nat} (h : p ≤ m) : (l.take m).drop p = (l.drop p).take (m - p) := by
  rw [List.drop_take]
theorem get_cut {p m : Nat} (h : p < m) : (l.take m)[p]? = l[p]? := by rw [List.getElem?_take]; simp [h]
theorem tw_self {f : UInt8 → Bool} : ∀ u : List UInt8, (u.takeWhile f).takeWhile f = u.takeWhile f
  | [] => rfl
  | c :: r => by
    rw [List.takeWhile_cons]
    split
    · rename_i h; rw [List.takeWhile_cons, if_pos h, tw_self r]
    · rfl
theorem take_tw {f : UInt8 → Bool} (u : List UInt8) : u.take (u.takeWhile f).length = u.takeWhile f := (List.prefix_iff_eq_take.1 (List.takeWhile_prefix f)).symm
theorem unitO_cut {a m : Nat} (hm : m ≤ l.length) : unitO (l.take m) a = if a + 6 ≤ m then unitO l a else none := by
  have hl : (l.take m).length = m := by rw [List.length_take]; omega
  by_cases h : a + 6 ≤ m
  · rw [if_pos h]
    have e : ((l.take m).length < a + 6 ∨ (l.take m)[a]? ≠ some 92 ∨ (l.take m)[a + 1]? ≠ some 117) ↔ (l.length < a + 6 ∨ l[a]? ≠ some 92 ∨ l[a + 1]? ≠ some 117) := by
      rw [get_cut (by omega), get_cut (by omega), hl, show (m < a + 6) ↔ (l.length < a + 6) from by omega]
    unfold unitO
    rw [cut_drop (by omega), List.take_take, Nat.min_eq_left (by omega)]
    by_cases hc : l.length < a + 6 ∨ l[a]? ≠ some 92 ∨ l[a + 1]? ≠ some 117
    · rw [if_pos hc, if_pos (e.2 hc)]
    · rw [if_neg hc, if_neg (fun h => hc (e.1 h))]
  · rw [if_neg h]
    unfold unitO
    rw [if_pos (.inl (by omega))]
theorem escS_cut {a m : Nat} (hm : m ≤ l.length) {c : Int} {n : Nat} (h : escS l a = (c, (n : Int), 0)) (hn : n ≤ m) : escS (l.take m) a = (c, (n : Int), 0) := by
  unfold escS at h ⊢
  rw [unitO_cut hm, unitO_cut hm]
  cases hu : unitO l a with
  | some u =>
    rw [hu] at h
    simp only at h
    split at h
    · rename_i h1
      have : a + 6 ≤ m := by simp only [Prod.mk.injEq] at h; omega
      rw [if_pos this]; simp only; rw [if_pos h1]; exact h
    · rename_i h1
      split at h
      · rename_i h2
        cases hv : unitO l (a + 6) with
        | none => rw [hv] at h; simp at h
        | some v =>
          rw [hv] at h
          simp only at h
          split at h
          · rename_i h3
            have : a + 12 ≤ m := by simp only [Prod.mk.injEq] at h; omega
            rw [if_pos (by omega), if_pos (by omega)]
            simp only
            rw [if_neg h1, if_pos h2, if_pos h3]; exact h
          · simp at h
      · simp at h
  | none =>
    rw [hu] at h
    have e : (if a + 6 ≤ m then (none : Option Nat) else none) = none := by split <;> rfl
    rw [e]
    simp only at h ⊢
    cases hx : l[a + 1]? with
    | none => rw [hx] at h; simp at h
    | some d =>
      rw [hx] at h
      simp only at h
      cases hy : letterS d.toNat with
      | none => rw [hy] at h; simp at h
      | some z =>
        rw [hy] at h
        have : a + 2 ≤ m := by simp only [Prod.mk.injEq] at h; omega
        rw [get_cut (by omega), hx]
        simp only
        rw [hy]; exact h
theorem cpNum_cut {u : List UInt8} {k n : Nat} (hn : 1 ≤ n) (hk : n ≤ k) : cpNum (u.take k) n = cpNum u n := by
  unfold cpNum
  cases u with
  | nil => simp
  | cons c r =>
    obtain ⟨j, rfl⟩ : ∃ j, k = j + 1 := ⟨k - 1, by omega⟩
    simp only [List.take_succ_cons, List.drop_succ_cons, List.drop_zero, List.headD_cons]
    rw [List.take_take, Nat.min_eq_left (by omega)]
theorem cpOk_cut {u : List UInt8} {k n : Nat} (hku : k ≤ u.length) (hn : 1 ≤ n) (hk : n ≤ k) : cpOk (u.take k) n = cpOk u n := by
  unfold cpOk
  rw [cpNum_cut hn hk, List.take_take, Nat.min_eq_left hk, decide_eq_true (show n ≤ (u.take k).length by rw [List.length_take]; omega), decide_eq_true (show n ≤ u.length by omega)]
theorem cpBegin_cut {u : List UInt8} {k : Nat} (hku : k ≤ u.length) (h0 : (cpBegin u).2 ≠ 0) (hk : (cpBegin u).2 ≤ k) : cpBegin (u.take k) = cpBegin u := by
  unfold cpBegin at h0 hk ⊢
  split at hk
  · rename_i h1
    rw [cpOk_cut hku (by omega) hk, if_pos h1, if_pos h1, cpNum_cut (by omega) hk]
  · rename_i h1
    split at hk
    · rename_i h2
      rw [cpOk_cut hku (by omega) (by show 1 ≤ k; simp only at hk; omega), cpOk_cut hku (by omega) hk, if_neg h1, if_neg h1, if_pos h2, if_pos h2, cpNum_cut (by omega) hk]
    · rename_i h2
      split at hk
      · rename_i h3
        simp only at hk
        rw [cpOk_cut hku (by omega) (by omega : 1 ≤ k), cpOk_cut hku (by omega) (by omega : 2 ≤ k), cpOk_cut hku (by omega) hk, if_neg h1, if_neg h1, if_neg h2, if_neg h2, if_pos h3, if_pos h3, cpNum_cut (by omega) hk]
      · rename_i h3
        split at hk
        · rename_i h4
          simp only at hk
          rw [cpOk_cut hku (by omega) (by omega : 1 ≤ k), cpOk_cut hku (by omega) (by omega : 2 ≤ k), cpOk_cut hku (by omega) (by omega : 3 ≤ k), cpOk_cut hku (by omega) hk, if_neg h1, if_neg h1, if_neg h2, if_neg h2, if_neg h3, if_neg h3, if_pos h4, if_pos h4, cpNum_cut (by omega) hk]
        · rename_i h4
          rw [if_neg h1, if_neg h2, if_neg h3, if_neg h4] at h0
          exact absurd rfl h0
theorem qsS_cut {a m : Nat} (hm : m ≤ l.length) {c : Int} {n : Nat} (h : qsS l a = (c, (n : Int), 0)) (ha : a < m) (hn : n ≤ m) : qsS (l.take m) a = (c, (n : Int), 0) := by
  have hl : (l.take m).length = m := by rw [List.length_take]; omega
  unfold qsS at h ⊢
  rw [get_cut ha]
  cases hc : l[a]? with
  | none => have := List.getElem?_eq_none_iff.1 hc; omega
  | some d =>
    rw [hc] at h
    simp only at h ⊢
    split at h
    · rename_i h1
      rw [if_pos h1]
      exact escS_cut hm h hn
    · rename_i h1
      rw [if_neg h1]
      split at h
      · simp at h
      · rename_i h2
        rw [if_neg h2]
        rw [nextR_in (show a < l.length by omega)] at h
        rw [nextR_in (show a < (l.take m).length by omega), cut_drop (by omega)]
        split at h
        · simp at h
        · rename_i h3
          have h5 : a + (cpBegin (l.drop a)).2 = n := by simp only [Prod.mk.injEq] at h; omega
          rw [cpBegin_cut (by rw [List.length_drop]; omega) h3 (by omega), if_neg h3]
          exact h
theorem qEnd_ge {a : Nat} (ha : a ≤ l.length) : a ≤ qEnd a (signsL l a) := by
  have := (signs_pre _ a _ (Nat.le_refl _) (List.prefix_refl (signsL l a)) ha).2.1
  omega
theorem signsL_cut {m : Nat} (hm : m ≤ l.length) : ∀ (k a : Nat), l.length - a ≤ k → a ≤ l.length → qEnd a (signsL l a) < m → l[qEnd a (signsL l a)]? = some 34 → signsL (l.take m) a = signsL l a
  | k, a, hk, ha, hq, h34 => by
    have hl : (l.take m).length = m := by rw [List.length_take]; omega
    have hge := qEnd_ge ha
    by_cases hc : a < l.length ∧ (qsS l a).2.2 = 0
    · obtain ⟨p, n, h1, h2, h3, h4, h5⟩ := qs_ok (c := (qsS l a).1) (n := (qsS l a).2.1) (by rw [← hc.2]) hc.1
      have he : qsS l a = ((p : Int), (n : Int), 0) := by rw [← h1, ← h2, ← hc.2]
      rw [signsL_cons he hc.1] at hq h34 ⊢
      rw [qEnd_cons] at hq h34
      simp only [Int.toNat_natCast] at hq h34
      have hge2 := qEnd_ge (l := l) h4
      have he2 := qsS_cut hm he (by omega) (by omega : n ≤ m)
      rw [signsL_cons he2 (by omega)]
      match k, hk with
      | 0, hk => omega
      | k + 1, hk => rw [signsL_cut hm k n (by omega) h4 hq h34]
    · have hn : signsL l a = [] := signsL_nil (fun h e => hc ⟨h, e⟩)
      rw [hn] at hq h34 ⊢
      have hq : a < m := hq
      have h34 : l[a]? = some 34 := h34
      refine signsL_nil (fun _ => ?_)
      unfold qsS
      rw [get_cut hq, h34]
      simp only
      rw [if_neg (by decide), if_pos (by decide)]
      simp
theorem sees_cut {p m : Nat} (h : p < m) (x : List UInt8) : seesB (l.take m) p x = seesB l p x := by unfold seesB; rw [get_cut h]
theorem sees_cutEnd (m : Nat) (x : List UInt8) : seesB (l.take m) m x = false := by
  unfold seesB
  have : (l.take m)[m]? = none := List.getElem?_eq_none_iff.2 (by rw [List.length_take]; omega)
  rw [this]
end Cut
end Go.Proofs.YtoejdhabpajhlaaDoor

/- Plain: a quoted text in a row that is cut. -/
namespace Go.Proofs.YtoejdhabpajhlaaDoor
set_option linter.unusedVariables false
set_option linter.unusedSimpArgs false
open Go.RowKit

section Cut
variable {l : List UInt8}
theorem take_len {n : Nat} (h : n ≤ l.length) : (l.take n).length = n := by rw [List.length_take]; omega
theorem ce_in {a : Nat} (ha : a ≤ l.length) : a ≤ qEnd a (signsL l a) ∧ qEnd a (signsL l a) ≤ l.length := ⟨qEnd_ge ha, qEnd_in ha⟩
/-- what stands behind the signs is no sign -/
theorem signs_stop {a : Nat} (ha : a ≤ l.length) : signsL l (qEnd a (signsL l a)) = [] := by
  have hs := (signs_pre _ a _ (Nat.le_refl _) (List.prefix_refl (signsL l a)) ha).2.2.2
  have := congrArg List.length hs
  rw [List.length_append] at this
  exact List.eq_nil_of_length_eq_zero (by omega)
/-- a quoted text that is read, further cut behind its end -/
theorem qRead_keep {a m n : Nat} {s : List UInt8} (h : qRead l a = (s, (m : Int), 0)) (ha : a < l.length) (hmn : m ≤ n) (hn : n ≤ l.length) : qRead (l.take n) a = (s, (m : Int), 0) := by
  have hl := take_len hn
  rw [qRead_in ha] at h
  by_cases h1 : l[a]? ≠ some 34
  · rw [if_pos h1] at h; simp at h
  · rw [if_neg h1] at h
    by_cases h2 : l[qEnd (a + 1) (signsL l (a + 1))]? = some 34
    · rw [if_pos h2] at h
      have hE : qEnd (a + 1) (signsL l (a + 1)) + 1 = m := by simp only [Prod.mk.injEq] at h; omega
      have hge := (ce_in (l := l) (a := a + 1) (by omega)).1
      rw [qRead_in (show a < (l.take n).length by omega), get_cut (by omega), if_neg h1, signsL_cut hn _ (a + 1) (Nat.le_refl _) (by omega) (by omega) h2, get_cut (by omega), if_pos h2]
      exact h
    · rw [if_neg h2] at h
      exfalso
      obtain ⟨E, hE⟩ : ∃ E, qEnd (a + 1) (signsL l (a + 1)) = E := ⟨_, rfl⟩
      have hst := signs_stop (l := l) (a := a + 1) (by omega)
      have hin := (ce_in (l := l) (a := a + 1) (by omega)).2
      rw [hE] at h hst hin
      have h0 : (qSign l (E : Int)).2.2 = 0 := by simp only [Prod.mk.injEq] at h; exact h.2.2
      rcases Nat.lt_or_eq_of_le hin with hlt | heq
      · rw [qSign_in hlt] at h0; exact qsS_more hst hlt h0
      · unfold qSign at h0
        rw [if_neg (by omega), if_pos (by omega)] at h0
        simp at h0
/-- a text that can't be read: where, and why -/
theorem qRead_err {a : Nat} (ha : a < l.length) (h34 : l[a]? = some 34) (h : (qRead l a).2.2 ≠ 0) : ∃ p : Nat, (qRead l a).2.1 = (p : Int) ∧ a < p ∧ p ≤ l.length ∧ (p = l.length → (qRead l a).2.2 = 6) := by
  rw [qRead_in ha, if_neg (by rw [h34]; simp)] at h ⊢
  obtain ⟨hge, hin⟩ := ce_in (l := l) (a := a + 1) (by omega)
  by_cases h2 : l[qEnd (a + 1) (signsL l (a + 1))]? = some 34
  · rw [if_pos h2] at h; exact absurd rfl h
  · rw [if_neg h2]
    refine ⟨_, rfl, by omega, hin, fun he => ?_⟩
    show (qSign l _).2.2 = 6
    unfold qSign
    rw [if_neg (by omega), if_pos (by omega)]
theorem cpOk_grow {u : List UInt8} {k n : Nat} (hn : 1 ≤ n) (h : cpOk (u.take k) n = true) : n ≤ k ∧ cpOk u n = true := by
  have hlen : n ≤ (u.take k).length := by
    unfold cpOk at h
    rw [Bool.and_eq_true] at h
    exact of_decide_eq_true h.1
  rw [List.length_take] at hlen
  have hk : n ≤ k := by omega
  refine ⟨hk, ?_⟩
  rcases Nat.lt_or_ge k u.length with hlt | hge
  · rw [cpOk_cut (by omega) hn hk] at h; exact h
  · rw [List.take_of_length_le hge] at h; exact h
theorem cpBegin_grow {u : List UInt8} {k : Nat} (h : (cpBegin (u.take k)).2 ≠ 0) : cpBegin u = cpBegin (u.take k) := by
  rcases Nat.lt_or_ge k u.length with hlt | hge
  · have h1 : ∀ n, 1 ≤ n → cpOk (u.take k) n = true → n ≤ k ∧ cpOk u n = true := fun n hn h => cpOk_grow hn h
    have hkey : (cpBegin u).2 ≠ 0 ∧ (cpBegin u).2 ≤ k := by
      unfold cpBegin at h ⊢
      by_cases c1 : cpOk u 1 = true
      · rw [if_pos c1]
        refine ⟨by simp, ?_⟩
        simp only
        rcases Nat.eq_zero_or_pos k with h0 | h0
        · subst h0
          exfalso
          have : ∀ n, 1 ≤ n → cpOk (u.take 0) n = false := fun n hn => by
            cases hc : cpOk (u.take 0) n with
            | false => rfl
            | true => have := (h1 n hn hc).1; omega
          rw [this 1 (by omega), this 2 (by omega), this 3 (by omega), this 4 (by omega)] at h
          simp at h
        · omega
      · rw [if_neg c1]
        have n1 : ¬ cpOk (u.take k) 1 = true := fun hc => c1 (h1 1 (by omega) hc).2
        rw [if_neg n1] at h
        by_cases c2 : cpOk (u.take k) 2 = true
        · have := h1 2 (by omega) c2
          rw [if_pos this.2]; exact ⟨by simp, this.1⟩
        · rw [if_neg c2] at h
          by_cases c3 : cpOk (u.take k) 3 = true
          · have g3 := h1 3 (by omega) c3
            have n2 : ¬ cpOk u 2 = true := fun hc => c2 (by rw [cpOk_cut (by omega) (by omega) (by omega)]; exact hc)
            rw [if_neg n2, if_pos g3.2]; exact ⟨by simp, g3.1⟩
          · rw [if_neg c3] at h
            by_cases c4 : cpOk (u.take k) 4 = true
            · have g4 := h1 4 (by omega) c4
              have n2 : ¬ cpOk u 2 = true := fun hc => c2 (by rw [cpOk_cut (by omega) (by omega) (by omega)]; exact hc)
              have n3 : ¬ cpOk u 3 = true := fun hc => c3 (by rw [cpOk_cut (by omega) (by omega) (by omega)]; exact hc)
              rw [if_neg n2, if_neg n3, if_pos g4.2]; exact ⟨by simp, g4.1⟩
            · rw [if_neg c4] at h; exact absurd rfl h
    exact (cpBegin_cut (by omega) hkey.1 hkey.2).symm
  · rw [List.take_of_length_le hge]
theorem escS_grow {a n : Nat} (hn : n ≤ l.length) {c k : Int} (h : escS (l.take n) a = (c, k, 0)) : escS l a = (c, k, 0) := by
  have hl := take_len hn
  unfold escS at h ⊢
  rw [unitO_cut hn, unitO_cut hn] at h
  by_cases h6 : a + 6 ≤ n
  · rw [if_pos h6] at h
    cases hu : unitO l a with
    | some u =>
      rw [hu] at h
      simp only at h ⊢
      by_cases c1 : 0 < cpSize (u : Int)
      · rw [if_pos c1] at h ⊢; exact h
      · rw [if_neg c1] at h ⊢
        by_cases c2 : u < 56320
        · rw [if_pos c2] at h ⊢
          by_cases h12 : a + 6 + 6 ≤ n
          · rw [if_pos h12] at h; exact h
          · rw [if_neg h12] at h; simp at h
        · rw [if_neg c2] at h; simp at h
    | none =>
      rw [hu] at h
      simp only at h ⊢
      rw [get_cut (by omega)] at h
      exact h
  · rw [if_neg h6] at h
    simp only at h
    have ha1 : a + 1 < n := by
      rcases Nat.lt_or_ge (a + 1) n with h1 | h1
      · exact h1
      · rw [List.getElem?_eq_none (by omega)] at h; simp at h
    rw [get_cut ha1] at h
    cases hu : unitO l a with
    | none => exact h
    | some u =>
      exfalso
      unfold unitO at hu
      by_cases hc : l.length < a + 6 ∨ l[a]? ≠ some 92 ∨ l[a + 1]? ≠ some 117
      · rw [if_pos hc] at hu; cases hu
      · have : l[a + 1]? = some 117 := Classical.byContradiction (fun h' => hc (.inr (.inr h')))
        rw [this] at h
        simp [letterS] at h
theorem qsS_grow {a n : Nat} (hn : n ≤ l.length) (ha : a < n) {c k : Int} (h : qsS (l.take n) a = (c, k, 0)) : qsS l a = (c, k, 0) := by
  have hl := take_len hn
  unfold qsS at h ⊢
  rw [get_cut ha] at h
  cases hc : l[a]? with
  | none => have := List.getElem?_eq_none_iff.1 hc; omega
  | some d =>
    rw [hc] at h
    simp only at h ⊢
    split at h
    · rename_i h1; rw [if_pos h1]; exact escS_grow hn h
    · rename_i h1
      rw [if_neg h1]
      split at h
      · simp at h
      · rename_i h2
        rw [if_neg h2]
        rw [nextR_in (show a < (l.take n).length by omega), cut_drop (by omega)] at h
        rw [nextR_in (show a < l.length by omega)]
        by_cases h3 : (cpBegin ((l.drop a).take (n - a))).2 = 0
        · rw [if_pos h3] at h; simp at h
        · rw [if_neg h3] at h
          have hg := cpBegin_grow h3
          rw [hg, if_neg h3]; exact h
theorem signsL_grow {n : Nat} (hn : n ≤ l.length) : ∀ (k a : Nat), n - a ≤ k → a ≤ n → (l.take n)[qEnd a (signsL (l.take n) a)]? = some 34 → signsL l a = signsL (l.take n) a
  | k, a, hk, ha, h34 => by
    have hl := take_len hn
    by_cases hc : a < n ∧ (qsS (l.take n) a).2.2 = 0
    · obtain ⟨p, m, h1, h2, h3, h4, h5⟩ := qs_ok (l := l.take n) (a := a) (c := (qsS (l.take n) a).1) (n := (qsS (l.take n) a).2.1) (by rw [← hc.2]) (by omega)
      have he : qsS (l.take n) a = ((p : Int), (m : Int), 0) := by rw [← h1, ← h2, ← hc.2]
      have hg := qsS_grow hn hc.1 he
      rw [signsL_cons he (by omega)] at h34 ⊢
      rw [qEnd_cons] at h34
      simp only [Int.toNat_natCast] at h34
      rw [signsL_cons hg (by omega)]
      match k, hk with
      | 0, hk => omega
      | k + 1, hk => rw [signsL_grow hn k m (by omega) (by omega) h34]
    · have hnil : signsL (l.take n) a = [] := signsL_nil (fun h e => hc ⟨by omega, e⟩)
      rw [hnil] at h34 ⊢
      have h34 : (l.take n)[a]? = some 34 := h34
      have han : a < n := by have := (List.getElem?_eq_some_iff.1 h34).1; omega
      rw [get_cut han] at h34
      refine signsL_nil (fun _ => ?_)
      unfold qsS
      rw [h34]
      simp only
      rw [if_neg (by decide), if_pos (by decide)]
      simp
theorem qRead_grow {a m n : Nat} {s : List UInt8} (hn : n ≤ l.length) (ha : a < n) (h : qRead (l.take n) a = (s, (m : Int), 0)) : qRead l a = (s, (m : Int), 0) := by
  have hl := take_len hn
  rw [qRead_in (show a < (l.take n).length by omega), get_cut ha] at h
  rw [qRead_in (show a < l.length by omega)]
  by_cases h1 : l[a]? ≠ some 34
  · rw [if_pos h1] at h; simp at h
  · rw [if_neg h1] at h ⊢
    by_cases h2 : (l.take n)[qEnd (a + 1) (signsL (l.take n) (a + 1))]? = some 34
    · rw [if_pos h2] at h
      have hg := signsL_grow hn _ (a + 1) (Nat.le_refl _) (by omega) h2
      have hlt := (List.getElem?_eq_some_iff.1 h2).1
      rw [hg]
      rw [get_cut (by omega)] at h2
      rw [if_pos h2]; exact h
    · exfalso
      have h34 : (l.take n)[a]? = some 34 := by rw [get_cut ha]; exact Classical.byContradiction (fun h' => h1 h')
      rw [if_neg h2] at h
      obtain ⟨E, hE⟩ : ∃ E, qEnd (a + 1) (signsL (l.take n) (a + 1)) = E := ⟨_, rfl⟩
      have hst := signs_stop (l := l.take n) (a := a + 1) (by omega)
      have hin := (ce_in (l := l.take n) (a := a + 1) (by omega)).2
      rw [hE] at h hst hin
      have h0 : (qSign (l.take n) (E : Int)).2.2 = 0 := by simp only [Prod.mk.injEq] at h; exact h.2.2
      rcases Nat.lt_or_eq_of_le hin with hlt | heq
      · rw [qSign_in hlt] at h0; exact qsS_more hst hlt h0
      · unfold qSign at h0
        rw [if_neg (by omega), if_pos (by omega)] at h0
        simp at h0
/-- a quoted text that is cut within -/
theorem qRead_short {a m n : Nat} {s : List UInt8} (h : qRead l a = (s, (m : Int), 0)) (hn : n ≤ l.length) (ha : a < n) (hnm : n < m) :
    (qRead (l.take n) a).2.2 ≠ 0 ∧ ∃ p : Nat, (qRead (l.take n) a).2.1 = (p : Int) ∧ a < p ∧ p ≤ n ∧ (p = n → (qRead (l.take n) a).2.2 = 6) := by
  have hl := take_len hn
  have h34 : l[a]? = some 34 := by
    rw [qRead_in (show a < l.length by omega)] at h
    by_cases h1 : l[a]? ≠ some 34
    · rw [if_pos h1] at h; simp at h
    · exact Classical.byContradiction (fun h' => h1 h')
  have hne : (qRead (l.take n) a).2.2 ≠ 0 := fun h0 => by
    obtain ⟨m', e1, e2, e3⟩ := qRead_ok h0
    have hg := qRead_grow (s := (qRead (l.take n) a).1) (m := m') hn ha (by rw [← e1, ← h0])
    rw [h] at hg
    simp only [Prod.mk.injEq] at hg
    omega
  obtain ⟨p, h1, h2, h3, h4⟩ := qRead_err (l := l.take n) (a := a) (by omega) (by rw [get_cut ha]; exact h34) hne
  rw [hl] at h3 h4
  exact ⟨hne, p, h1, h2, h3, h4⟩
end Cut
end Go.Proofs.YtoejdhabpajhlaaDoor

/- Plain: blanks, words and numbers in a row that is cut. -/
namespace Go.Proofs.YtoejdhabpajhlaaDoor
set_option linter.unusedVariables false
set_option linter.unusedSimpArgs false
open Go.RowKit

section CutN
variable {l : List UInt8}
theorem tw_take {f : UInt8 → Bool} : ∀ (u : List UInt8) (k : Nat), (u.take k).takeWhile f = (u.takeWhile f).take k
  | [], k => by simp
  | c :: r, 0 => by simp
  | c :: r, k + 1 => by
    rw [List.take_succ_cons, List.takeWhile_cons, List.takeWhile_cons]
    split
    · rw [List.take_succ_cons, tw_take r k]
    · simp
theorem sees_take {n q : Nat} {x : List UInt8} : seesB (l.take n) q x = if q < n then seesB l q x else false := by
  unfold seesB
  by_cases h : q < n
  · rw [if_pos h, List.getElem?_take, if_pos h]
  · rw [if_neg h, List.getElem?_take, if_neg h]
theorem digs_cut {n p : Nat} : digs (l.take n) p = (digs l p).take (n - p) := by
  unfold digs
  rw [List.drop_take, tw_take]
theorem skipB_cut {n p : Nat} (h : p ≤ n) : skipB (l.take n) p = min (skipB l p) n := by
  unfold skipB
  rw [List.drop_take, tw_take, List.length_take]
  omega
theorem wordMis_keep {n : Nat} : ∀ {u : List UInt8} {p : Nat}, p + u.length ≤ n → wordMis (l.take n) p u = wordMis l p u
  | [], p, _ => rfl
  | c :: r, p, h => by
    simp only [List.length_cons] at h
    unfold wordMis
    rw [List.getElem?_take, if_pos (show p < n by omega), wordMis_keep (u := r) (p := p + 1) (by omega)]
theorem wordMis_short {n : Nat} : ∀ {u : List UInt8} {p : Nat}, wordMis l p u = none → p ≤ n → n < p + u.length → wordMis (l.take n) p u = some n
  | [], p, _, h1, h2 => by simp at h2; omega
  | c :: r, p, h, h1, h2 => by
    unfold wordMis at h ⊢
    simp only [List.length_cons] at h2
    rw [List.getElem?_take]
    by_cases hp : p < n
    · rw [if_pos hp]
      split at h
      · rename_i hc
        rw [if_pos hc]
        exact wordMis_short h (by omega) (by omega)
      · cases h
    · rw [if_neg hp, if_neg (by simp)]
      congr 1; omega
theorem rowS_part {gr : Bool} {st st' : NSt} (h : rowS gr l st = (st', none)) : st'.part = st.part := by
  unfold rowS at h
  split at h
  · cases h
  · simp only [Prod.mk.injEq, and_true] at h
    rw [← h]
    unfold digS
    split
    · exact (growAll_keep _ _).2.2
    · rfl
theorem takeS_part (x : List UInt8) (st : NSt) : (takeS x l st).part = st.part := by unfold takeS; split <;> rfl
/-- the sign of a numeral that begins at a place -/
def sgn (l : List UInt8) (a : Nat) : NSt := { takeS [45] l (numStart a) with minus := seesB l a [45] }
theorem sgn_le {a : Nat} : a ≤ (sgn l a).pos ∧ (sgn l a).pos ≤ a + 1 := by
  unfold sgn takeS numStart
  split <;> exact ⟨by simp, by simp⟩
theorem sgn_cut {a n : Nat} (h : a < n) : sgn (l.take n) a = sgn l a := by
  unfold sgn takeS numStart
  rw [sees_take, if_pos h]
theorem num_form {a : Nat} (h : (numRead l a).2.2 = 0) : ∃ s2, wholeS l (sgn l a) = (s2, none) ∧ seesB l s2.pos [46] = false ∧ seesB l s2.pos [101, 69] = false ∧ numRead l a = numEnd s2 a := by
  unfold numRead at h ⊢
  split at h
  · simp at h
  · rename_i h1
    rw [if_neg h1, Int.toNat_natCast] at *
    unfold numRun at h ⊢
    have e1 : stepK 0 l (numStart a) = (sgn l a, none) := rfl
    rw [runK_none e1] at h ⊢
    obtain ⟨⟨s2, r2⟩, e2⟩ : ∃ r, stepK 1 l (sgn l a) = r := ⟨_, rfl⟩
    cases r2 with
    | some q => rw [runK_some e2] at h; simp at h
    | none =>
      rw [runK_none e2] at h ⊢
      obtain ⟨⟨s3, r3⟩, e3⟩ : ∃ r, stepK 2 l s2 = r := ⟨_, rfl⟩
      cases r3 with
      | some q => rw [runK_some e3] at h; simp at h
      | none =>
        rw [runK_none e3] at h ⊢
        obtain ⟨⟨s4, r4⟩, e4⟩ : ∃ r, stepK 3 l s3 = r := ⟨_, rfl⟩
        cases r4 with
        | some q => rw [runK_some e4] at h; simp at h
        | none =>
          rw [runK_none e4] at h ⊢
          simp only [runK] at h ⊢
          have hp : s4.part = false := by
            cases hp : s4.part with
            | false => rfl
            | true => unfold numEnd at h; rw [hp] at h; simp at h
          have e4' : expS l s3 = (s4, none) := e4
          have e3' : fracS l s2 = (s3, none) := e3
          unfold expS at e4'
          cases he : seesB l s3.pos [101, 69] with
          | true =>
            rw [he, if_pos rfl] at e4'
            have := rowS_part e4'
            rw [takeS_part, hp] at this
            cases this
          | false =>
            rw [he, if_neg (by decide)] at e4'
            simp only [Prod.mk.injEq, and_true] at e4'
            subst e4'
            unfold fracS at e3'
            cases hf : seesB l s2.pos [46] with
            | true =>
              rw [hf, if_pos rfl] at e3'
              have := rowS_part e3'
              rw [hp] at this
              cases this
            | false =>
              rw [hf, if_neg (by decide)] at e3'
              simp only [Prod.mk.injEq, and_true] at e3'
              subst e3'
              exact ⟨s2, e2, hf, he, rfl⟩
theorem num_of {a : Nat} (ha : a ≤ l.length) {s2 : NSt} (h2 : wholeS l (sgn l a) = (s2, none)) (hf : seesB l s2.pos [46] = false) (he : seesB l s2.pos [101, 69] = false) : numRead l a = numEnd s2 a := by
  unfold numRead
  rw [if_neg (by omega), Int.toNat_natCast]
  unfold numRun
  have e1 : stepK 0 l (numStart a) = (sgn l a, none) := rfl
  have e3 : stepK 2 l s2 = (s2, none) := by show fracS _ _ = _; unfold fracS; rw [hf]; rfl
  have e4 : stepK 3 l s2 = (s2, none) := by show expS _ _ = _; unfold expS; rw [he]; rfl
  rw [runK_none e1, runK_none (show stepK 1 l (sgn l a) = (s2, none) from h2), runK_none e3, runK_none e4]
  rfl
theorem whole_pos {st s2 : NSt} (h : wholeS l st = (s2, none)) : (seesB l st.pos [48] = true ∧ s2 = { st with pos := st.pos + 1 }) ∨ (seesB l st.pos [48] = false ∧ digs l st.pos ≠ [] ∧ s2 = digS true (digs l st.pos) st ∧ s2.pos = st.pos + (digs l st.pos).length) := by
  unfold wholeS at h
  cases hz : seesB l st.pos [48] with
  | true =>
    rw [hz, if_pos rfl] at h
    simp only [Prod.mk.injEq, and_true] at h
    exact .inl ⟨rfl, h.symm⟩
  | false =>
    rw [hz, if_neg (by decide)] at h
    unfold rowS at h
    split at h
    · cases h
    · rename_i hd
      simp only [Prod.mk.injEq, and_true] at h
      exact .inr ⟨rfl, hd, h.symm, by rw [← h]; rfl⟩
theorem whole_keep {st s2 : NSt} {n : Nat} (h : wholeS l st = (s2, none)) (hn : s2.pos ≤ n) : wholeS (l.take n) st = (s2, none) := by
  have hm := wholeS_more h
  rcases whole_pos h with ⟨h1, h2⟩ | ⟨h1, h2, h3, h4⟩
  · unfold wholeS
    rw [sees_take, if_pos (show st.pos < n by omega), h1, if_pos rfl, h2]
  · unfold wholeS
    rw [sees_take, if_pos (show st.pos < n by omega), h1, if_neg (by decide)]
    unfold rowS
    rw [digs_cut, List.take_of_length_le (by omega), if_neg h2, ← h3]
theorem whole_short {st s2 : NSt} {n : Nat} (h : wholeS l st = (s2, none)) (ha : st.pos < n) (hn : n < s2.pos) : ∃ s, wholeS (l.take n) st = (s, none) ∧ s.pos = n := by
  rcases whole_pos h with ⟨h1, h2⟩ | ⟨h1, h2, h3, h4⟩
  · rw [h2] at hn; simp only at hn; omega
  · unfold wholeS
    rw [sees_take, if_pos ha, h1, if_neg (by decide)]
    unfold rowS
    have hl : ((digs l st.pos).take (n - st.pos)).length = n - st.pos := by rw [List.length_take]; omega
    rw [digs_cut, if_neg (fun h0 => by rw [h0] at hl; simp at hl; omega)]
    exact ⟨_, rfl, by show st.pos + _ = _; rw [hl]; omega⟩
theorem numEnd_pos {st : NSt} {a v : Int} {m : Nat} (h : numEnd st a = (v, (m : Int), 0)) : st.pos = m := by
  unfold numEnd at h
  split at h
  · simp at h
  · simp only [Prod.mk.injEq] at h; omega
theorem numRead_keep {a m n : Nat} {v : Int} (h : numRead l a = (v, (m : Int), 0)) (ha : a ≤ n) (hn : n ≤ l.length) (hm : m ≤ n) : numRead (l.take n) a = (v, (m : Int), 0) := by
  obtain ⟨s2, h1, h2, h3, h4⟩ := num_form (l := l) (a := a) (by rw [h])
  rw [h4] at h
  have hp := numEnd_pos h
  have hge := sgn_le (l := l) (a := a)
  have hw := wholeS_more h1
  rw [num_of (s2 := s2) (by rw [List.length_take]; omega) (by rw [sgn_cut (by omega)]; exact whole_keep h1 (by omega)) (by rw [sees_take, h2]; split <;> rfl) (by rw [sees_take, h3]; split <;> rfl)]
  exact h
theorem numRead_short {a m n : Nat} {v : Int} (h : numRead l a = (v, (m : Int), 0)) (ha : a < n) (hn : n ≤ l.length) (hm : n < m) :
    (∃ v', numRead (l.take n) a = (v', (n : Int), 0)) ∨ numRead (l.take n) a = (0, (n : Int), 7) ∨ numRead (l.take n) a = (0, (a : Int), 130) := by
  have hlen : (l.take n).length = n := by rw [List.length_take]; omega
  obtain ⟨s2, h1, h2, h3, h4⟩ := num_form (l := l) (a := a) (by rw [h])
  rw [h4] at h
  have hp := numEnd_pos h
  have hge := sgn_le (l := l) (a := a)
  rcases Nat.lt_or_ge (sgn l a).pos n with hlt | hge'
  · obtain ⟨s, e1, e2⟩ := whole_short h1 hlt (by omega)
    rw [← sgn_cut ha] at e1
    rw [num_of (by rw [hlen]; omega) e1 (by rw [sees_take, if_neg (by omega)]) (by rw [sees_take, if_neg (by omega)])]
    unfold numEnd
    split
    · exact .inr (.inr rfl)
    · exact .inl ⟨_, by rw [e2]⟩
  · refine .inr (.inl ?_)
    unfold numRead
    rw [if_neg (by omega), Int.toNat_natCast]
    unfold numRun
    have e1 : stepK 0 (l.take n) (numStart a) = (sgn l a, none) := by
      show (sgn (l.take n) a, none) = _
      rw [sgn_cut ha]
    have hn' : (sgn l a).pos = n := by omega
    have e2 : stepK 1 (l.take n) (sgn l a) = (sgn l a, some n) := by
      show wholeS _ _ = _
      unfold wholeS
      rw [sees_take, if_neg (show ¬ (sgn l a).pos < n by omega), if_neg (by decide)]
      unfold rowS
      rw [digs_cut, hn', Nat.sub_self, List.take_zero, if_pos rfl]
    rw [runK_none e1, runK_some e2]
end CutN
end Go.Proofs.YtoejdhabpajhlaaDoor

/- Plain: one step of a parser in a row that is cut. -/
namespace Go.Proofs.YtoejdhabpajhlaaDoor
set_option linter.unusedVariables false
set_option linter.unusedSimpArgs false
open Go.RowKit

section CutS
variable {l : List UInt8}
/-- an error at a cut, or ahead of it -/
def badAt (n : Nat) (at_ e : Int) : Prop := e ≠ 0 ∧ at_ ≤ (n : Int) ∧ (e = 6 ∨ at_ < (n : Int))
def stopBad (n : Nat) : PRes → Prop
  | .fail p e => badAt n p e
  | _ => False
theorem fail_bad {n : Nat} {p e : Int} (hn : n ≤ l.length) (he : e ≠ 0) (hp : p ≤ (n : Int)) (h : p < (n : Int) ∨ e = 6 ∨ e = 7) : badAt n (failF (l.take n) p e).1 (failF (l.take n) p e).2 := by
  have hl := take_len hn
  unfold failF badAt
  simp only
  rw [hl]
  by_cases hc : e = 7 ∧ (n : Int) ≤ p
  · rw [if_pos hc]
    exact ⟨by decide, hp, .inl rfl⟩
  · rw [if_neg hc]
    refine ⟨he, hp, ?_⟩
    by_cases h6 : e = 6
    · exact .inl h6
    · right
      by_cases h7 : e = 7
      · have : ¬ (n : Int) ≤ p := fun h => hc ⟨h7, h⟩
        omega
      · rcases h with h | h | h
        · exact h
        · exact absurd h h6
        · exact absurd h h7
theorem text_keep {a m n : Nat} {v : JV} (h : textJ l a = .inl (v, m)) (ha : a < n) (hn : n ≤ l.length) :
    (m ≤ n → textJ (l.take n) a = .inl (v, m)) ∧ (n < m → ∃ p e, textJ (l.take n) a = .inr (p, e) ∧ badAt n p e) := by
  unfold textJ at h
  split at h
  · rename_i h0
    obtain ⟨m', e1, e2, e3⟩ := qRead_ok h0
    obtain ⟨⟨s, q, x⟩, hq⟩ : ∃ r, qRead l a = r := ⟨_, rfl⟩
    rw [hq] at h h0 e1
    simp only at h h0 e1
    subst h0; subst e1
    simp only [Sum.inl.injEq, Prod.mk.injEq, Int.toNat_natCast] at h
    obtain ⟨rfl, rfl⟩ := h
    refine ⟨fun hm => ?_, fun hm => ?_⟩
    · unfold textJ
      rw [qRead_keep hq (by omega) hm hn, if_pos rfl, Int.toNat_natCast]
    · obtain ⟨hne, p, h1, h2, h3, h4⟩ := qRead_short hq hn ha hm
      unfold textJ
      rw [if_neg hne]
      refine ⟨_, _, rfl, fail_bad hn hne (Int.le_trans (Int.le_of_eq h1) (Int.ofNat_le.2 h3)) ?_⟩
      rcases Nat.lt_or_eq_of_le h3 with hlt | heq
      · exact .inl (Int.lt_of_le_of_lt (Int.le_of_eq h1) (Int.ofNat_lt.2 hlt))
      · exact .inr (.inl (h4 heq))
  · cases h
theorem word_keep {a m n : Nat} {u : List UInt8} {v w : JV} (h : wordJ l a u w = .inl (v, m)) (ha : a < n) (hn : n ≤ l.length) :
    (m ≤ n → wordJ (l.take n) a u w = .inl (v, m)) ∧ (n < m → ∃ p e, wordJ (l.take n) a u w = .inr (p, e) ∧ badAt n p e) := by
  unfold wordJ at h
  cases hw : wordMis l a u with
  | some q => rw [hw] at h; cases h
  | none =>
    rw [hw] at h
    simp only [Sum.inl.injEq, Prod.mk.injEq] at h
    obtain ⟨rfl, rfl⟩ := h
    refine ⟨fun hm => ?_, fun hm => ?_⟩
    · unfold wordJ
      rw [wordMis_keep hm, hw]
    · unfold wordJ
      rw [wordMis_short hw (by omega) hm]
      exact ⟨_, _, rfl, fail_bad hn (by decide) (Int.le_refl _) (.inr (.inr rfl))⟩
theorem num_keep {a m n : Nat} {v : JV} (h : numJ l a = .inl (v, m)) (ha : a < n) (hn : n ≤ l.length) :
    (m ≤ n → numJ (l.take n) a = .inl (v, m)) ∧ (n < m → (∃ p e, numJ (l.take n) a = .inr (p, e) ∧ badAt n p e) ∨ (v.kind = 3 ∧ ∃ v', numJ (l.take n) a = .inl (v', n))) := by
  unfold numJ at h
  split at h
  · rename_i h0
    obtain ⟨m', e1, e2, e3⟩ := numRead_more h0
    obtain ⟨⟨s, q, x⟩, hq⟩ : ∃ r, numRead l a = r := ⟨_, rfl⟩
    rw [hq] at h h0 e1
    simp only at h h0 e1
    subst h0; subst e1
    simp only [Sum.inl.injEq, Prod.mk.injEq, Int.toNat_natCast] at h
    obtain ⟨rfl, rfl⟩ := h
    refine ⟨fun hm => ?_, fun hm => ?_⟩
    · unfold numJ
      rw [numRead_keep hq (by omega) hn hm, if_pos rfl, Int.toNat_natCast]
    · unfold numJ
      rcases numRead_short hq ha hn hm with ⟨v', h1⟩ | h1 | h1
      · rw [h1]
        exact .inr ⟨rfl, _, by rw [if_pos rfl, Int.toNat_natCast]⟩
      · rw [h1]
        exact .inl ⟨_, _, if_neg (show ¬ ((7 : Int) = 0) by decide), fail_bad hn (show (7 : Int) ≠ 0 by decide) (Int.le_refl _) (.inr (.inr rfl))⟩
      · rw [h1]
        exact .inl ⟨_, _, if_neg (show ¬ ((130 : Int) = 0) by decide), fail_bad hn (show (130 : Int) ≠ 0 by decide) (Int.ofNat_le.2 (by omega)) (.inl (Int.ofNat_lt.2 ha))⟩
  · cases h
theorem atom_keep {a m n : Nat} {c : UInt8} {v : JV} (h : atomJ l a c = .inl (v, m)) (ha : a < n) (hn : n ≤ l.length) :
    (m ≤ n → atomJ (l.take n) a c = .inl (v, m)) ∧ (n < m → (∃ p e, atomJ (l.take n) a c = .inr (p, e) ∧ badAt n p e) ∨ (v.kind = 3 ∧ ∃ v', atomJ (l.take n) a c = .inl (v', n))) := by
  unfold atomJ at h ⊢
  by_cases c1 : c.toNat = 34
  · rw [if_pos c1] at h; rw [if_pos c1]
    exact ⟨(text_keep h ha hn).1, fun hm => .inl ((text_keep h ha hn).2 hm)⟩
  rw [if_neg c1] at h; rw [if_neg c1]
  by_cases c2 : c.toNat = 110
  · rw [if_pos c2] at h; rw [if_pos c2]
    exact ⟨(word_keep h ha hn).1, fun hm => .inl ((word_keep h ha hn).2 hm)⟩
  rw [if_neg c2] at h; rw [if_neg c2]
  by_cases c3 : c.toNat = 116
  · rw [if_pos c3] at h; rw [if_pos c3]
    exact ⟨(word_keep h ha hn).1, fun hm => .inl ((word_keep h ha hn).2 hm)⟩
  rw [if_neg c3] at h; rw [if_neg c3]
  by_cases c4 : c.toNat = 102
  · rw [if_pos c4] at h; rw [if_pos c4]
    exact ⟨(word_keep h ha hn).1, fun hm => .inl ((word_keep h ha hn).2 hm)⟩
  rw [if_neg c4] at h; rw [if_neg c4]
  exact num_keep h ha hn

/-- what a step is in a row that is cut, if it is 'next' in the whole row -/
def CR (n : Nat) (next r : PRes) : Prop :=
  match next with
  | .fail _ _ => True
  | .go _ p' _ _ => if p' ≤ n then r = next else stopBad n r ∨ ∃ m stk, stk ≠ [] ∧ r = .go 5 n m stk
  | .done q v => if q ≤ n then r = next else v.kind ≠ 3 → stopBad n r
def far (n : Nat) : PRes → Prop
  | .fail _ _ => True
  | .go _ p' _ _ => n < p'
  | .done q _ => n < q
def near (n : Nat) : PRes → Prop
  | .fail _ _ => True
  | .go _ p' _ _ => p' ≤ n
  | .done q _ => q ≤ n
theorem CR_stop {n : Nat} {next r : PRes} (h : far n next) (hr : stopBad n r) : CR n next r := by
  cases next with
  | fail => trivial
  | go s p m k => show if p ≤ n then _ else _; rw [if_neg (by have : n < p := h; omega)]; exact .inl hr
  | done q v => show if q ≤ n then _ else _; rw [if_neg (by have : n < q := h; omega)]; exact fun _ => hr
theorem CR_same {n : Nat} {next : PRes} (h : near n next) : CR n next next := by
  cases next with
  | fail => trivial
  | go s p m k => show if p ≤ n then _ else _; rw [if_pos (show p ≤ n from h)]
  | done q v => show if q ≤ n then _ else _; rw [if_pos (show q ≤ n from h)]
theorem put_far {n q m : Nat} {v : JV} (h : n < q) : ∀ {stk : JStk}, far n (pPut v q m stk)
  | [] => h
  | (_, _) :: _ => h
theorem put_near {n q m : Nat} {v : JV} (h : q ≤ n) : ∀ {stk : JStk}, near n (pPut v q m stk)
  | [] => h
  | (_, _) :: _ => h
theorem begin_far {n p m d : Nat} (hp : p ≤ l.length) (h : n ≤ skipB l p) : match beginJ l p m d with | .err _ _ => True | .atom _ q => n < q | .opens q _ => n ≤ q := by
  have hw := begin_what (m := m) (d := d) (skipB_le hp)
  have e : beginJ l (skipB l p) m d = beginJ l p m d := by unfold beginJ; rw [skipB_idem]
  rw [e] at hw
  cases hb : beginJ l p m d with
  | err => trivial
  | atom v q => rw [hb] at hw; have := hw.1; show n < q; omega
  | opens q o => rw [hb] at hw; have := hw.1; show n ≤ q; omega
theorem get_end {n : Nat} (hn : n ≤ l.length) : (l.take n)[n]? = none := List.getElem?_eq_none (by rw [take_len hn]; exact Nat.le_refl _)
theorem end_bad {n : Nat} (hn : n ≤ l.length) : stopBad n (pFail (l.take n) (n : Int) 7) := fail_bad hn (by decide) (Int.le_refl _) (.inr (.inr rfl))
theorem value_cut {n p m : Nat} {stk : JStk} (hn : n ≤ l.length) (hp : p ≤ n) : CR n (pValue l p m stk) (pValue (l.take n) p m stk) := by
  have hs := skipB_cut (l := l) hp
  rcases Nat.lt_or_ge (skipB l p) n with hlt | hge
  · rw [Nat.min_eq_left (by omega)] at hs
    obtain ⟨c, hc⟩ : ∃ c, l[skipB l p]? = some c := ⟨_, List.getElem?_eq_getElem (by omega)⟩
    have hc' : (l.take n)[skipB l p]? = some c := by rw [get_cut hlt]; exact hc
    unfold pValue beginJ
    rw [hs, hc, hc']
    simp only
    by_cases h1 : beginsB c = false
    · rw [if_pos h1]; trivial
    rw [if_neg h1, if_neg h1]
    by_cases h2 : m = 256
    · rw [if_pos h2]; trivial
    rw [if_neg h2, if_neg h2]
    by_cases h3 : c.toNat = 91 ∨ c.toNat = 123
    · rw [if_pos h3, if_pos h3]
      by_cases h4 : stk.length = 8
      · rw [if_pos h4]; trivial
      rw [if_neg h4]
      exact CR_same (show skipB l p + 1 ≤ n by omega)
    rw [if_neg h3, if_neg h3]
    cases ha : atomJ l (skipB l p) c with
    | inr e => trivial
    | inl r =>
      obtain ⟨v, q⟩ := r
      have hk := atom_keep ha hlt hn
      simp only
      rcases Nat.lt_or_ge n q with hq | hq
      · rcases hk.2 hq with ⟨p', e', e1, e2⟩ | ⟨e1, v', e2⟩
        · rw [e1]
          exact CR_stop (put_far hq) e2
        · rw [e2]
          simp only
          cases stk with
          | nil => show if q ≤ n then _ else _; rw [if_neg (by omega)]; exact fun h => absurd e1 h
          | cons x r =>
            obtain ⟨t, k⟩ := x
            show if q ≤ n then _ else _
            rw [if_neg (by omega)]
            exact .inr ⟨_, _, by simp, rfl⟩
      · rw [hk.1 hq]
        exact CR_same (put_near hq)
  · rw [Nat.min_eq_right hge] at hs
    have hfar := begin_far (m := m) (d := stk.length) (show p ≤ l.length by omega) hge
    have hr : stopBad n (pValue (l.take n) p m stk) := by
      unfold pValue beginJ
      rw [hs, get_end hn]
      exact end_bad hn
    refine CR_stop ?_ hr
    unfold pValue
    cases hb : beginJ l p m stk.length with
    | err => trivial
    | atom v q => rw [hb] at hfar; exact put_far hfar
    | opens q o => rw [hb] at hfar; have hfar : n ≤ q := hfar; show n < q + 1; omega
theorem close_cut {n p m : Nat} {stk : JStk} (hn : n ≤ l.length) (hp : p ≤ n) (hs : skipB l p < n) : CR n (pClose l (skipB l p) m stk) (pClose (l.take n) (skipB l p) m stk) := by
  cases stk with
  | nil => trivial
  | cons x r => exact CR_same (put_near (show skipB l p + 1 ≤ n by omega))
theorem close_far {n p m : Nat} {stk : JStk} (hs : n ≤ skipB l p) : far n (pClose l (skipB l p) m stk) := by
  cases stk with
  | nil => trivial
  | cons x r => exact put_far (show n < skipB l p + 1 by omega)
theorem key_cut {n p m : Nat} {stk : JStk} (hn : n ≤ l.length) (hp : p ≤ n) : CR n (pKey l p m stk) (pKey (l.take n) p m stk) := by
  have hs := skipB_cut (l := l) hp
  cases stk with
  | nil => trivial
  | cons x r =>
    obtain ⟨v, k⟩ := x
    simp only [pKey]
    rw [hs]
    rcases Nat.lt_or_ge (skipB l p) n with hlt | hge
    · rw [Nat.min_eq_left (by omega), get_cut hlt]
      by_cases h34 : l[skipB l p]? = some 34
      · rw [if_pos h34, if_pos h34]
        by_cases h0 : (qRead l (skipB l p)).2.2 = 0
        · rw [if_pos h0]
          obtain ⟨m', e1, e2, e3⟩ := qRead_ok h0
          obtain ⟨⟨s, q, x⟩, hq⟩ : ∃ r, qRead l (skipB l p) = r := ⟨_, rfl⟩
          rw [hq] at h0 e1
          simp only at h0 e1
          subst h0; subst e1
          rw [hq]
          simp only [Int.toNat_natCast]
          rcases Nat.lt_or_ge n m' with hlt' | hge'
          · obtain ⟨hne, p', h1, h2, h3, h4⟩ := qRead_short hq hn hlt hlt'
            rw [if_neg hne]
            refine CR_stop ?_ (fail_bad hn hne (Int.le_trans (Int.le_of_eq h1) (Int.ofNat_le.2 h3)) ?_)
            · split
              · trivial
              · exact hlt'
            · rcases Nat.lt_or_eq_of_le h3 with h | h
              · exact .inl (Int.lt_of_le_of_lt (Int.le_of_eq h1) (Int.ofNat_lt.2 h))
              · exact .inr (.inl (h4 h))
          · rw [qRead_keep hq (by omega) hge' hn]
            simp only [Int.toNat_natCast, if_true]
            refine CR_same ?_
            split
            · trivial
            · exact hge'
        · rw [if_neg h0]; trivial
      · rw [if_neg h34]; trivial
    · rw [Nat.min_eq_right hge, get_end hn, if_neg (show ¬ ((none : Option UInt8) = some 34) by simp)]
      refine CR_stop ?_ (end_bad hn)
      split
      · split
        · rename_i h0
          obtain ⟨m', e1, e2, e3⟩ := qRead_ok h0
          split
          · trivial
          · show n < _
            rw [e1, Int.toNat_natCast]; omega
        · trivial
      · trivial
theorem step_cut {n s p m : Nat} {stk : JStk} (hn : n ≤ l.length) (hp : p ≤ n) (h5 : s ≤ 5) : CR n (pStep l (.go s p m stk)) (pStep (l.take n) (.go s p m stk)) := by
  have hs := skipB_cut (l := l) hp
  match s, h5 with
  | 0, _ => exact value_cut hn hp
  | 1, _ =>
    show CR n (pFirst l p m stk) (pFirst (l.take n) p m stk)
    unfold pFirst
    rcases Nat.lt_or_ge (skipB l p) n with hlt | hge
    · rw [hs, Nat.min_eq_left (by omega), get_cut hlt]
      by_cases hc : l[skipB l p]? = some 93
      · rw [if_pos hc, if_pos hc]; exact close_cut hn hp hlt
      · rw [if_neg hc, if_neg hc]; exact value_cut hn hp
    · by_cases hc : l[skipB l p]? = some 93
      · rw [if_pos hc, hs, Nat.min_eq_right hge, get_end hn, if_neg (by simp)]
        refine CR_stop (close_far hge) ?_
        unfold pValue beginJ
        rw [hs, Nat.min_eq_right hge, get_end hn]
        exact end_bad hn
      · rw [if_neg hc, hs, Nat.min_eq_right hge, get_end hn, if_neg (by simp)]
        exact value_cut hn hp
  | 2, _ =>
    show CR n (pFirstKey l p m stk) (pFirstKey (l.take n) p m stk)
    unfold pFirstKey
    rcases Nat.lt_or_ge (skipB l p) n with hlt | hge
    · rw [hs, Nat.min_eq_left (by omega), get_cut hlt]
      by_cases hc : l[skipB l p]? = some 125
      · rw [if_pos hc, if_pos hc]; exact close_cut hn hp hlt
      · rw [if_neg hc, if_neg hc]; exact key_cut hn hp
    · by_cases hc : l[skipB l p]? = some 125
      · rw [if_pos hc, hs, Nat.min_eq_right hge, get_end hn, if_neg (by simp)]
        cases stk with
        | nil => trivial
        | cons x r =>
          refine CR_stop (close_far hge) ?_
          obtain ⟨v, k⟩ := x
          simp only [pKey]
          rw [hs, Nat.min_eq_right hge, get_end hn, if_neg (by simp)]
          exact end_bad hn
      · rw [if_neg hc, hs, Nat.min_eq_right hge, get_end hn, if_neg (by simp)]
        exact key_cut hn hp
  | 3, _ => exact key_cut hn hp
  | 4, _ =>
    show CR n (pColon l p m stk) (pColon (l.take n) p m stk)
    unfold pColon
    rcases Nat.lt_or_ge (skipB l p) n with hlt | hge
    · rw [hs, Nat.min_eq_left (by omega), get_cut hlt]
      by_cases hc : l[skipB l p]? = some 58
      · rw [if_pos hc, if_pos hc]; exact CR_same (show skipB l p + 1 ≤ n by omega)
      · rw [if_neg hc]; trivial
    · rw [hs, Nat.min_eq_right hge, get_end hn, if_neg (show ¬ ((none : Option UInt8) = some 58) by simp)]
      refine CR_stop ?_ (end_bad hn)
      split
      · show n < skipB l p + 1; omega
      · trivial
  | 5, _ =>
    show CR n (pMore l p m stk) (pMore (l.take n) p m stk)
    cases stk with
    | nil => trivial
    | cons x r =>
      obtain ⟨v, k⟩ := x
      simp only [pMore]
      rw [hs]
      rcases Nat.lt_or_ge (skipB l p) n with hlt | hge
      · rw [Nat.min_eq_left (by omega), get_cut hlt]
        by_cases hc : l[skipB l p]? = some 44
        · rw [if_pos hc, if_pos hc]; exact CR_same (show skipB l p + 1 ≤ n by omega)
        · rw [if_neg hc, if_neg hc]
          by_cases hd : l[skipB l p]? = some (if v.kind = 6 then 125 else 93)
          · rw [if_pos hd, if_pos hd]; exact close_cut hn hp hlt
          · rw [if_neg hd]; trivial
      · rw [Nat.min_eq_right hge, get_end hn, if_neg (show ¬ ((none : Option UInt8) = some 44) by simp), if_neg (show ¬ ((none : Option UInt8) = some (if v.kind = 6 then 125 else 93)) by simp)]
        refine CR_stop ?_ (end_bad hn)
        split
        · show n < skipB l p + 1; omega
        · by_cases hd : l[skipB l p]? = some (if v.kind = 6 then 125 else 93)
          · rw [if_pos hd]; exact close_far hge
          · rw [if_neg hd]; trivial
end CutS
end Go.Proofs.YtoejdhabpajhlaaDoor
