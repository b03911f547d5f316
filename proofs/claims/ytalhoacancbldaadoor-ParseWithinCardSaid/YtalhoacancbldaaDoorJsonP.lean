import Derived.Test.YtalhoacancbldaaDoorSpecJson
import Derived.Test.YtalhoacancbldaaDoorQuoteP
import Derived.Test.YtalhoacancbldaaDoorNumP
/- Plain: state by state and level within level are one. -/
namespace Go.Proofs.YtalhoacancbldaaDoor
set_option linter.unusedVariables false
set_option linter.unusedSimpArgs false

section
variable {l : List UInt8}
theorem pRun_add : ∀ (a b : Nat) (r : PRes), pRun l (a + b) r = pRun l b (pRun l a r)
  | 0, b, r => by rw [Nat.zero_add]; rfl
  | a + 1, b, r => by rw [show a + 1 + b = (a + b) + 1 from by omega]; exact pRun_add a b _
theorem pRun_fail (p e : Int) : ∀ k, pRun l k (.fail p e) = .fail p e
  | 0 => rfl
  | k + 1 => pRun_fail p e k
theorem pRun_done (p : Nat) (v : JV) : ∀ k, pRun l k (.done p v) = .done p v
  | 0 => rfl
  | k + 1 => pRun_done p v k
/-- one leads to the other -/
def Reach (l : List UInt8) (a b : PRes) : Prop := ∃ k, pRun l k a = b
theorem Reach.refl (a : PRes) : Reach l a a := ⟨0, rfl⟩
theorem Reach.trans {a b c : PRes} : Reach l a b → Reach l b c → Reach l a c
  | ⟨k, h⟩, ⟨k', h'⟩ => ⟨k + k', by rw [pRun_add, h, h']⟩
theorem Reach.step {a c : PRes} (h : Reach l (pStep l a) c) : Reach l a c := by obtain ⟨k, h⟩ := h; exact ⟨k + 1, h⟩
theorem Reach.step' {a b c : PRes} (e : pStep l a = b) (h : Reach l b c) : Reach l a c := Reach.step (by rw [e]; exact h)
def outR (r : RRes) (stk : JStk) : PRes := match r with | .ok v q k => pPut v q k stk | .err p e => .fail p e

theorem beginJ_skip (a m d : Nat) : beginJ l (skipB l a) m d = beginJ l a m d := by unfold beginJ; rw [skipB_idem]
theorem pValue_skip (a m : Nat) (stk : JStk) : pValue l (skipB l a) m stk = pValue l a m stk := by unfold pValue; rw [beginJ_skip]
theorem pKey_skip (a m : Nat) (x : JV × List UInt8) (r : JStk) : pKey l (skipB l a) m (x :: r) = pKey l a m (x :: r) := by
  obtain ⟨v, k⟩ := x; simp only [pKey]; rw [skipB_idem]
theorem addKid_list (kids : List JV) (key : List UInt8) (x : JV) : addKid (.mk 5 0 [] kids []) key x = .mk 5 0 [] (kids ++ [x]) [] := by
  unfold addKid; simp only; rw [if_neg (by decide)]
theorem step_more (x : JV) (q k : Nat) (top : JV) (key : List UInt8) (stk : JStk) : pStep l (outR (.ok x q k) ((top, key) :: stk)) = pMore l q k ((addKid top key x, key) :: stk) := rfl

theorem mem_insAt {α : Type} {l : List α} {i : Nat} {x y : α} : y ∈ insAt l i x ↔ y ∈ l ∨ y = x := by
  unfold insAt
  constructor
  · intro h
    rcases List.mem_append.1 h with h | h
    · exact .inl (List.mem_of_mem_take h)
    · rcases List.mem_cons.1 h with h | h
      · exact .inr h
      · exact .inl (List.mem_of_mem_drop h)
  · rintro (h | rfl)
    · rw [← List.take_append_drop i l] at h
      rcases List.mem_append.1 h with h | h
      · exact List.mem_append_left _ h
      · exact List.mem_append_right _ (List.mem_cons_of_mem _ h)
    · simp
/-- an object under way -/
structure IsObj (v : JV) (keys : List (List UInt8)) : Prop where
  kind : v.kind = 6
  len : v.keys.length = v.kids.length
  mem : ∀ s, s ∈ v.keys ↔ s ∈ keys
theorem IsObj.add {v : JV} {keys : List (List UInt8)} (h : IsObj v keys) (s : List UInt8) (x : JV) : IsObj (addKid v s x) (keys ++ [s]) := by
  obtain ⟨k, n, t, kids, ks⟩ := v
  have hk : k = 6 := h.kind
  have hl : ks.length = kids.length := h.len
  unfold addKid
  simp only
  rw [if_pos hk]
  refine ⟨hk, ?_, fun y => ?_⟩
  · show (insAt ks _ s).length = (insAt kids _ x).length
    have := insPos_le s ks kids.length
    simp [insAt]; omega
  · show y ∈ insAt ks _ s ↔ _
    rw [mem_insAt, List.mem_append, List.mem_singleton]
    have : y ∈ ks ↔ y ∈ keys := h.mem y
    rw [this]
theorem sortedJ_snoc {keys : List (List UInt8)} {kids : List JV} (h : keys.length = kids.length) (s : List UInt8) (x : JV) :
    sortedJ (keys ++ [s]) (kids ++ [x]) = addKid (sortedJ keys kids) s x := by
  unfold sortedJ
  rw [List.zip_append h, List.foldl_append]; rfl
theorem isObj_foldl : ∀ (ps : List (List UInt8 × JV)) (v : JV) (keys : List (List UInt8)), IsObj v keys → IsObj (ps.foldl (fun v kx => addKid v kx.1 kx.2) v) (keys ++ ps.map Prod.fst)
  | [], v, keys, h => by simpa using h
  | (s, x) :: r, v, keys, h => by
    have := isObj_foldl r _ _ (h.add s x)
    simpa using this
theorem isObj_sorted {keys : List (List UInt8)} {kids : List JV} (h : keys.length = kids.length) : IsObj (sortedJ keys kids) keys := by
  have h1 := isObj_foldl (keys.zip kids) (.mk 6 0 [] [] []) [] ⟨rfl, rfl, fun s => Iff.rfl⟩
  rw [List.nil_append, List.map_fst_zip (Nat.le_of_eq h)] at h1
  exact h1

mutual
theorem sim_rd {a m d : Nat} {r : RRes} : RdR l a m d r → ∀ stk : JStk, stk.length = d → Reach l (pValue l a m stk) (outR r stk)
  | .err h, stk, hs => by subst hs; unfold pValue; rw [h]; exact Reach.refl _
  | .atom h, stk, hs => by subst hs; unfold pValue; rw [h]; exact Reach.refl _
  | .list0 h h1, stk, hs => by
    subst hs; unfold pValue; rw [h]
    refine Reach.step' (b := pFirst l _ _ _) rfl ?_
    unfold pFirst; rw [if_pos h1]; exact Reach.refl _
  | .list1 h h1 h2, stk, hs => by
    have ih := sim_ls h2 stk [] hs
    subst hs; unfold pValue; rw [h]
    refine Reach.step' (b := pFirst l _ _ _) rfl ?_
    unfold pFirst; rw [if_neg h1, ← pValue_skip]; exact ih
  | .obj0 h h1, stk, hs => by
    subst hs; unfold pValue; rw [h]
    refine Reach.step' (b := pFirstKey l _ _ _) rfl ?_
    unfold pFirstKey; rw [if_pos h1]; exact Reach.refl _
  | .obj1 h h1 h2, stk, hs => by
    have ih := sim_ob h2 stk [] hs rfl
    subst hs; unfold pValue; rw [h]
    refine Reach.step' (b := pFirstKey l _ _ _) rfl ?_
    unfold pFirstKey; rw [if_neg h1, ← pKey_skip]; exact ih
theorem sim_ls {a m d : Nat} {kids : List JV} {r : RRes} : LsR l a m d kids r → ∀ (stk : JStk) (key : List UInt8), stk.length = d → Reach l (pValue l a m ((.mk 5 0 [] kids [], key) :: stk)) (outR r stk)
  | .err h, stk, key, hs => sim_rd h ((.mk 5 0 [] kids [], key) :: stk) (by simp [hs])
  | .close h h1, stk, key, hs => by
    refine (sim_rd h ((.mk 5 0 [] kids [], key) :: stk) (by simp [hs])).trans ?_
    refine Reach.step' (step_more _ _ _ _ _ _) ?_
    have : (some (93 : UInt8)) ≠ some 44 := by decide
    rw [addKid_list]
    simp only [pMore, h1, JV.kind]
    exact Reach.refl _
  | .comma h h1 h2, stk, key, hs => by
    refine (sim_rd h ((.mk 5 0 [] kids [], key) :: stk) (by simp [hs])).trans ?_
    refine Reach.step' (step_more _ _ _ _ _ _) ?_
    rw [addKid_list]
    simp only [pMore, h1, JV.kind]
    exact Reach.step' (b := pValue l _ _ _) rfl (sim_ls h2 stk key hs)
  | .bad h h1 h2, stk, key, hs => by
    refine (sim_rd h ((.mk 5 0 [] kids [], key) :: stk) (by simp [hs])).trans ?_
    refine Reach.step' (step_more _ _ _ _ _ _) ?_
    rw [addKid_list]
    simp only [pMore]
    rw [if_neg h2, if_neg (by simpa [JV.kind] using h1)]
    exact Reach.refl _
theorem sim_ob {a m d : Nat} {keys : List (List UInt8)} {kids : List JV} {r : RRes} : ObR l a m d keys kids r → ∀ (stk : JStk) (key : List UInt8), stk.length = d → keys.length = kids.length →
    Reach l (pKey l a m ((sortedJ keys kids, key) :: stk)) (outR r stk)
  | .nokey h, stk, key, hs, hl => by simp only [pKey]; rw [if_neg h]; exact Reach.refl _
  | .badkey h h1, stk, key, hs, hl => by simp only [pKey]; rw [if_pos h, if_neg h1]; exact Reach.refl _
  | .double h h1 h2, stk, key, hs, hl => by simp only [pKey]; rw [if_pos h, if_pos h1, if_pos ((isObj_sorted hl).mem _ |>.2 h2)]; exact Reach.refl _
  | .nocolon h h1 h2 h3, stk, key, hs, hl => by
    simp only [pKey]; rw [if_pos h, h1, if_pos rfl, if_neg (fun h => h2 ((isObj_sorted hl).mem _ |>.1 h))]
    refine Reach.step' (b := pColon l _ _ _) rfl ?_
    unfold pColon
    simp only [Int.toNat_natCast]
    rw [if_neg h3]; exact Reach.refl _
  | .err h h1 h2 h3 h4, stk, key, hs, hl => by
    simp only [pKey]; rw [if_pos h, h1, if_pos rfl, if_neg (fun h => h2 ((isObj_sorted hl).mem _ |>.1 h))]
    refine Reach.step' (b := pColon l _ _ _) rfl ?_
    unfold pColon
    simp only [Int.toNat_natCast]
    rw [if_pos h3]
    exact Reach.step' (b := pValue l _ _ _) rfl (sim_rd h4 (_ :: stk) (by simp [hs]))
  | .close (s := s) (x := x) h h1 h2 h3 h4 h5, stk, key, hs, hl => by
    simp only [pKey]; rw [if_pos h, h1, if_pos rfl, if_neg (fun h => h2 ((isObj_sorted hl).mem _ |>.1 h))]
    refine Reach.step' (b := pColon l _ _ _) rfl ?_
    unfold pColon
    simp only [Int.toNat_natCast]
    rw [if_pos h3]
    refine Reach.step' (b := pValue l _ _ _) rfl ((sim_rd h4 (_ :: stk) (by simp [hs])).trans ?_)
    have hk : (addKid (sortedJ keys kids) s x).kind = 6 := ((isObj_sorted hl).add s x).kind
    refine Reach.step' (step_more _ _ _ _ _ _) ?_
    simp only [pMore]
    rw [hk, if_neg (by rw [h5]; decide), if_pos (by rw [h5]; rfl), ← sortedJ_snoc hl]
    exact Reach.refl _
  | .comma (s := s) (x := x) h h1 h2 h3 h4 h5 h6, stk, key, hs, hl => by
    have ih := sim_ob h6 stk s hs (by simp [hl])
    simp only [pKey]; rw [if_pos h, h1, if_pos rfl, if_neg (fun h => h2 ((isObj_sorted hl).mem _ |>.1 h))]
    refine Reach.step' (b := pColon l _ _ _) rfl ?_
    unfold pColon
    simp only [Int.toNat_natCast]
    rw [if_pos h3]
    refine Reach.step' (b := pValue l _ _ _) rfl ((sim_rd h4 (_ :: stk) (by simp [hs])).trans ?_)
    have hk : (addKid (sortedJ keys kids) s x).kind = 6 := ((isObj_sorted hl).add s x).kind
    refine Reach.step' (step_more _ _ _ _ _ _) ?_
    simp only [pMore]
    rw [hk, if_pos h5, if_pos rfl, ← sortedJ_snoc hl]
    exact Reach.step' (b := pKey l _ _ _) rfl ih
  | .bad (s := s) (x := x) h h1 h2 h3 h4 h5 h6, stk, key, hs, hl => by
    simp only [pKey]; rw [if_pos h, h1, if_pos rfl, if_neg (fun h => h2 ((isObj_sorted hl).mem _ |>.1 h))]
    refine Reach.step' (b := pColon l _ _ _) rfl ?_
    unfold pColon
    simp only [Int.toNat_natCast]
    rw [if_pos h3]
    refine Reach.step' (b := pValue l _ _ _) rfl ((sim_rd h4 (_ :: stk) (by simp [hs])).trans ?_)
    have hk : (addKid (sortedJ keys kids) s x).kind = 6 := ((isObj_sorted hl).add s x).kind
    refine Reach.step' (step_more _ _ _ _ _ _) ?_
    simp only [pMore]
    rw [hk, if_neg h6, if_neg (by simpa using h5)]
    exact Reach.refl _
end
end
end Go.Proofs.YtalhoacancbldaaDoor

/- Plain: what holds of a parser at every state; every state but the last one goes on. -/
namespace Go.Proofs.YtalhoacancbldaaDoor
set_option linter.unusedVariables false
set_option linter.unusedSimpArgs false

def entOk (v : JV) : Prop := (v.kind = 6 → v.keys.length = v.kids.length) ∧ (v.kind ≠ 6 → v.keys = [])
def stkI : Nat → JStk → Prop
  | _, [] => True
  | m, (v, _) :: r => v.kids.length + 1 ≤ m ∧ entOk v ∧ stkI (m - 1) r
theorem stkI_mono : ∀ {stk : JStk} {m m' : Nat}, m ≤ m' → stkI m stk → stkI m' stk
  | [], _, _, _, _ => trivial
  | (v, _) :: r, m, m', h, hi => ⟨Nat.le_trans hi.1 h, hi.2.1, stkI_mono (by omega) hi.2.2⟩
theorem stkI_mem : ∀ {stk : JStk} {m : Nat}, stkI m stk → ∀ x ∈ stk, x.1.kids.length ≤ m ∧ entOk x.1
  | [], _, _, _, h => by cases h
  | (v, k) :: r, m, hi, x, h => by
    rcases List.mem_cons.1 h with rfl | h
    · exact ⟨Nat.le_trans (Nat.le_succ _) hi.1, hi.2.1⟩
    · have := stkI_mem hi.2.2 x h
      exact ⟨by omega, this.2⟩
theorem entOk_add {v x : JV} (h : entOk v) (key : List UInt8) : entOk (addKid v key x) ∧ (addKid v key x).kids.length = v.kids.length + 1 := by
  obtain ⟨k, n, s, kids, keys⟩ := v
  unfold addKid
  simp only
  by_cases h6 : k = 6
  · rw [if_pos h6]
    have hl : keys.length = kids.length := h.1 h6
    have hle := insPos_le key keys kids.length
    refine ⟨⟨fun _ => ?_, fun h' => absurd h6 h'⟩, ?_⟩
    · show (insAt keys _ key).length = (insAt kids _ x).length
      simp [insAt]; omega
    · show (insAt kids _ x).length = kids.length + 1
      simp [insAt]; omega
  · rw [if_neg h6]
    exact ⟨⟨fun h' => absurd h' h6, fun _ => h.2 h6⟩, by show (kids ++ [x]).length = _; simp; rfl⟩
structure okG (l : List UInt8) (s p m : Nat) (stk : JStk) : Prop where
  hp : p ≤ l.length
  hm : m ≤ 256
  hd : stk.length ≤ 8
  hi : stkI m stk
  hs : s = 0 ∨ stk ≠ []
  h5 : s ≤ 5
def okP (l : List UInt8) : PRes → Prop
  | .go s p m stk => okG l s p m stk
  | .fail _ e => e ≠ 0
  | .done q _ => q ≤ l.length
theorem failF_ne {l : List UInt8} {p e : Int} (h : e ≠ 0) : (failF l p e).2 ≠ 0 := by unfold failF; simp only; split; decide; exact h
def later (p : Nat) : PRes → Prop
  | .go _ p' _ _ => p < p'
  | _ => True
section
variable {l : List UInt8}
theorem get_lt {q : Nat} {c : UInt8} (h : l[q]? = some c) : q < l.length := (List.getElem?_eq_some_iff.1 h).1
theorem put_ok {v : JV} {p q m : Nat} {stk : JStk} (hpq : p < q) (hq : q ≤ l.length) (hm : m ≤ 256) (h1 : 1 ≤ m) (hd : stk.length ≤ 8) (hi : stkI (m - 1) stk) : okP l (pPut v q m stk) ∧ later p (pPut v q m stk) := by
  match stk, hd, hi with
  | [], _, _ => exact ⟨hq, trivial⟩
  | (top, key) :: r, hd, hi =>
    obtain ⟨e1, e2⟩ := entOk_add hi.2.1 key (x := v)
    refine ⟨⟨hq, hm, hd, ⟨?_, e1, stkI_mono (by omega) hi.2.2⟩, .inr (by simp), Nat.le_refl _⟩, hpq⟩
    have := hi.1
    rw [e2]; omega
theorem wordMis_none : ∀ {u : List UInt8} {p : Nat}, wordMis l p u = none → p ≤ l.length → p + u.length ≤ l.length
  | [], p, _, hp => by simpa using hp
  | c :: r, p, h, hp => by
    unfold wordMis at h
    split at h
    · rename_i hc
      have := wordMis_none h (by have := get_lt hc; omega)
      simp; omega
    · cases h
theorem word_ok {p : Nat} {u : List UInt8} {v w : JV} {m : Nat} (h : wordJ l p u v = .inl (w, m)) (hp : p ≤ l.length) (hu : u ≠ []) : p < m ∧ m ≤ l.length := by
  unfold wordJ at h
  cases hw : wordMis l p u with
  | some q => rw [hw] at h; cases h
  | none =>
    rw [hw] at h
    simp only [Sum.inl.injEq, Prod.mk.injEq] at h
    have := wordMis_none hw hp
    have := List.length_pos_iff.2 hu
    omega
theorem atom_ok {p : Nat} {c : UInt8} {v : JV} {m : Nat} (h : atomJ l p c = .inl (v, m)) (hp : p ≤ l.length) : p < m ∧ m ≤ l.length := by
  unfold atomJ at h
  repeat' split at h
  · unfold textJ at h
    split at h
    · rename_i h0
      obtain ⟨m', e, h1, h2⟩ := qRead_ok h0
      simp only [Sum.inl.injEq, Prod.mk.injEq] at h
      rw [e, Int.toNat_natCast] at h
      omega
    · cases h
  · exact word_ok h hp (by decide)
  · exact word_ok h hp (by decide)
  · exact word_ok h hp (by decide)
  · unfold numJ at h
    split at h
    · rename_i h0
      obtain ⟨m', e, h1, h2⟩ := numRead_more h0
      simp only [Sum.inl.injEq, Prod.mk.injEq] at h
      rw [e, Int.toNat_natCast] at h
      omega
    · cases h
theorem atom_err {p : Nat} {c : UInt8} {q e : Int} (h : atomJ l p c = .inr (q, e)) : e ≠ 0 := by
  unfold atomJ at h
  have hw : ∀ u v, wordJ l p u v = .inr (q, e) → e ≠ 0 := fun u v h => by
    unfold wordJ at h
    cases hm : wordMis l p u with
    | none => rw [hm] at h; cases h
    | some k =>
      rw [hm] at h
      injection h with h
      have := failF_ne (l := l) (p := (k : Int)) (e := 7) (by decide)
      rw [h] at this; exact this
  repeat' split at h
  · unfold textJ at h
    split at h
    · cases h
    · rename_i h0
      injection h with h
      have := failF_ne (l := l) (p := (qRead l p).2.1) h0
      rw [h] at this; exact this
  · exact hw _ _ h
  · exact hw _ _ h
  · exact hw _ _ h
  · unfold numJ at h
    split at h
    · cases h
    · rename_i h0
      injection h with h
      have := failF_ne (l := l) (p := (numRead l p).2.1) h0
      rw [h] at this; exact this
def bOk (l : List UInt8) (a m d : Nat) : BRes → Prop
  | .err _ e => e ≠ 0
  | .atom _ q => a < q ∧ q ≤ l.length ∧ m ≠ 256
  | .opens q _ => a ≤ q ∧ q < l.length ∧ m ≠ 256 ∧ d ≠ 8
theorem begin_what {a m d : Nat} (ha : a ≤ l.length) : bOk l a m d (beginJ l a m d) := by
  unfold beginJ
  have hge := skipB_ge l a
  have hle := skipB_le ha
  cases hc : l[skipB l a]? with
  | none => exact failF_ne (by decide)
  | some c =>
    simp only
    have hlt := get_lt hc
    by_cases h1 : beginsB c = false
    · rw [if_pos h1]; exact failF_ne (by decide)
    · rw [if_neg h1]
      by_cases hm : m = 256
      · rw [if_pos hm]; exact (show (151 : Int) ≠ 0 by decide)
      · rw [if_neg hm]
        by_cases ho : c.toNat = 91 ∨ c.toNat = 123
        · rw [if_pos ho]
          by_cases hd : d = 8
          · rw [if_pos hd]; exact (show (150 : Int) ≠ 0 by decide)
          · rw [if_neg hd]; exact ⟨hge, hlt, hm, hd⟩
        · rw [if_neg ho]
          cases hat : atomJ l (skipB l a) c with
          | inr e => exact atom_err hat
          | inl r =>
            obtain ⟨v, q⟩ := r
            have := atom_ok hat hle
            exact ⟨by omega, this.2, hm⟩
theorem value_ok {s p m : Nat} {stk : JStk} (h : okG l s p m stk) : okP l (pValue l p m stk) ∧ later p (pValue l p m stk) := by
  have hw := begin_what (m := m) (d := stk.length) h.hp
  unfold pValue
  cases hb : beginJ l p m stk.length with
  | err _ _ => rw [hb] at hw; exact ⟨hw, trivial⟩
  | atom v q =>
    rw [hb] at hw
    have h1 := h.hm
    have h2 : m ≠ 256 := hw.2.2
    exact put_ok hw.1 hw.2.1 (by omega) (by omega) h.hd (by simpa using h.hi)
  | opens q o =>
    rw [hb] at hw
    have h1 := h.hm
    have h2 := h.hd
    obtain ⟨w1, w2, w3, w4⟩ := hw
    refine ⟨⟨w2, by omega, by simp; omega, ⟨by show 0 + 1 ≤ _; omega, ?_, by simpa using h.hi⟩, .inr (by simp), by split <;> decide⟩, by show p < q + 1; omega⟩
    exact ⟨fun _ => rfl, fun _ => rfl⟩
theorem close_ok {s p m : Nat} {stk : JStk} {c : UInt8} (h : okG l s p m stk) (hs : stk ≠ []) (hc : l[skipB l p]? = some c) : okP l (pClose l (skipB l p) m stk) ∧ later p (pClose l (skipB l p) m stk) := by
  match stk, h, hs with
  | (v, k) :: r, h, _ =>
    have h1 := h.hi
    have h2 := h.hd
    have h3 := skipB_ge l p
    simp only [List.length_cons] at h2
    exact put_ok (by omega) (get_lt hc) h.hm (by have := h1.1; omega) (by omega) h1.2.2
theorem key_ok {s p m : Nat} {stk : JStk} (h : okG l s p m stk) (hs : stk ≠ []) : okP l (pKey l p m stk) ∧ later p (pKey l p m stk) := by
  match stk, h, hs with
  | (v, k) :: r, h, _ =>
    simp only [pKey]
    have h3 := skipB_ge l p
    split
    · split
      · rename_i h0
        obtain ⟨q, e, h1, h2⟩ := qRead_ok h0
        split
        · exact ⟨show (141 : Int) ≠ 0 by decide, trivial⟩
        · rw [e, Int.toNat_natCast]
          refine ⟨⟨h2, h.hm, h.hd, h.hi, .inr (by simp), by decide⟩, by show p < q; omega⟩
      · rename_i h0; exact ⟨failF_ne h0, trivial⟩
    · exact ⟨failF_ne (by decide), trivial⟩
theorem step_ok {s p m : Nat} {stk : JStk} (h : okG l s p m stk) : okP l (pStep l (.go s p m stk)) ∧ later p (pStep l (.go s p m stk)) := by
  have h5 := h.h5
  have h3 := skipB_ge l p
  match s, h, h5 with
  | 0, h, _ => exact value_ok h
  | 1, h, _ =>
    have hne := h.hs.resolve_left (by decide)
    show okP l (pFirst l p m stk) ∧ later p (pFirst l p m stk)
    unfold pFirst; split
    · rename_i hc; exact close_ok h hne hc
    · exact value_ok h
  | 2, h, _ =>
    have hne := h.hs.resolve_left (by decide)
    show okP l (pFirstKey l p m stk) ∧ later p (pFirstKey l p m stk)
    unfold pFirstKey; split
    · rename_i hc; exact close_ok h hne hc
    · exact key_ok h hne
  | 3, h, _ => exact key_ok h (h.hs.resolve_left (by decide))
  | 4, h, _ =>
    show okP l (pColon l p m stk) ∧ later p (pColon l p m stk)
    unfold pColon; split
    · rename_i hc
      have := get_lt hc
      exact ⟨⟨this, h.hm, h.hd, h.hi, .inl rfl, by decide⟩, by show p < _ + 1; omega⟩
    · exact ⟨failF_ne (by decide), trivial⟩
  | 5, h, _ =>
    have hne := h.hs.resolve_left (by decide)
    match stk, h, hne with
    | (v, k) :: r, h, hne =>
      show okP l (pMore l p m ((v, k) :: r)) ∧ later p (pMore l p m ((v, k) :: r))
      simp only [pMore]
      by_cases hc : l[skipB l p]? = some 44
      · rw [if_pos hc]
        have := get_lt hc
        exact ⟨⟨this, h.hm, h.hd, h.hi, .inr (by simp), by split <;> decide⟩, by show p < _ + 1; omega⟩
      · rw [if_neg hc]
        by_cases hc2 : l[skipB l p]? = some (if v.kind = 6 then 125 else 93)
        · rw [if_pos hc2]; exact close_ok h hne hc2
        · rw [if_neg hc2]; exact ⟨failF_ne (by decide), trivial⟩
theorem start_ok {a : Nat} (h : a ≤ l.length) : okG l 0 a 0 [] := ⟨h, by decide, by decide, trivial, .inl rfl, by decide⟩
end
end Go.Proofs.YtalhoacancbldaaDoor
