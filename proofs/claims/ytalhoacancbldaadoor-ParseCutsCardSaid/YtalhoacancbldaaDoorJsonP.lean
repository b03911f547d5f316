/- Plain: state by state and level within level are one. -/
import Derived.Test.YtalhoacancbldaaDoorSpecJson
namespace Go.Proofs.YtalhoacancbldaaDoor
set_option linter.unusedVariables false
set_option linter.unusedSimpArgs false

section
variable {l : List UInt8}
theorem pRun_add : ∀ (a b : Nat) (r : PRes), pRun l (a + b) r = pRun l b (pRun l a r)
  | 0, b, r => by rw [Nat.zero_add]; rfl
  | a + 1, b, r => by rw [show a + 1 + b = (a + b) + 1 from by omega]; exact pRun_add a b _
theorem pRun_fail (p e : Int) : ∀ k, pRun l k (.fail p e) = .fail p e
  | 0 => rfl
  | k + 1 => pRun_fail p e k
theorem pRun_done (p : Nat) (v : JV) : ∀ k, pRun l k (.done p v) = .done p v
  | 0 => rfl
  | k + 1 => pRun_done p v k
/-- one leads to the other -/
def Reach (l : List UInt8) (a b : PRes) : Prop := ∃ k, pRun l k a = b
theorem Reach.refl (a : PRes) : Reach l a a := ⟨0, rfl⟩
theorem Reach.trans {a b c : PRes} : Reach l a b → Reach l b c → Reach l a c
  | ⟨k, h⟩, ⟨k', h'⟩ => ⟨k + k', by rw [pRun_add, h, h']⟩
theorem Reach.step {a c : PRes} (h : Reach l (pStep l a) c) : Reach l a c := by obtain ⟨k, h⟩ := h; exact ⟨k + 1, h⟩
theorem Reach.step' {a b c : PRes} (e : pStep l a = b) (h : Reach l b c) : Reach l a c := Reach.step (by rw [e]; exact h)
def outR (r : RRes) (stk : JStk) : PRes := match r with | .ok v q k => pPut v q k stk | .err p e => .fail p e

theorem beginJ_skip (a m d : Nat) : beginJ l (skipB l a) m d = beginJ l a m d := by unfold beginJ; rw [skipB_idem]
theorem pValue_skip (a m : Nat) (stk : JStk) : pValue l (skipB l a) m stk = pValue l a m stk := by unfold pValue; rw [beginJ_skip]
theorem pKey_skip (a m : Nat) (x : JV × List UInt8) (r : JStk) : pKey l (skipB l a) m (x :: r) = pKey l a m (x :: r) := by
  obtain ⟨v, k⟩ := x; simp only [pKey]; rw [skipB_idem]
theorem addKid_list (kids : List JV) (key : List UInt8) (x : JV) : addKid (.mk 5 0 [] kids []) key x = .mk 5 0 [] (kids ++ [x]) [] := by
  unfold addKid; simp only; rw [if_neg (by decide)]
theorem step_more (x : JV) (q k : Nat) (top : JV) (key : List UInt8) (stk : JStk) : pStep l (outR (.ok x q k) ((top, key) :: stk)) = pMore l q k ((addKid top key x, key) :: stk) := rfl

theorem mem_insAt {α : Type} {l : List α} {i : Nat} {x y : α} : y ∈ insAt l i x ↔ y ∈ l ∨ y = x := by
  unfold insAt
  constructor
  · intro h
    rcases List.mem_append.1 h with h | h
    · exact .inl (List.mem_of_mem_take h)
    · rcases List.mem_cons.1 h with h | h
      · exact .inr h
      · exact .inl (List.mem_of_mem_drop h)
  · rintro (h | rfl)
    · rw [← List.take_append_drop i l] at h
      rcases List.mem_append.1 h with h | h
      · exact List.mem_append_left _ h
      · exact List.mem_append_right _ (List.mem_cons_of_mem _ h)
    · simp
/-- an object under way -/
structure IsObj (v : JV) (keys : List (List UInt8)) : Prop where
  kind : v.kind = 6
  len : v.keys.length = v.kids.length
  mem : ∀ s, s ∈ v.keys ↔ s ∈ keys
theorem IsObj.add {v : JV} {keys : List (List UInt8)} (h : IsObj v keys) (s : List UInt8) (x : JV) : IsObj (addKid v s x) (keys ++ [s]) := by
  obtain ⟨k, n, t, kids, ks⟩ := v
  have hk : k = 6 := h.kind
  have hl : ks.length = kids.length := h.len
  unfold addKid
  simp only
  rw [if_pos hk]
  refine ⟨hk, ?_, fun y => ?_⟩
  · show (insAt ks _ s).length = (insAt kids _ x).length
    have := insPos_le s ks kids.length
    simp [insAt]; omega
  · show y ∈ insAt ks _ s ↔ _
    rw [mem_insAt, List.mem_append, List.mem_singleton]
    have : y ∈ ks ↔ y ∈ keys := h.mem y
    rw [this]
theorem sortedJ_snoc {keys : List (List UInt8)} {kids : List JV} (h : keys.length = kids.length) (s : List UInt8) (x : JV) :
    sortedJ (keys ++ [s]) (kids ++ [x]) = addKid (sortedJ keys kids) s x := by
  unfold sortedJ
  rw [List.zip_append h, List.foldl_append]; rfl
theorem isObj_foldl : ∀ (ps : List (List UInt8 × JV)) (v : JV) (keys : List (List UInt8)), IsObj v keys → IsObj (ps.foldl (fun v kx => addKid v kx.1 kx.2) v) (keys ++ ps.map Prod.fst)
  | [], v, keys, h => by simpa using h
  | (s, x) :: r, v, keys, h => by
    have := isObj_foldl r _ _ (h.add s x)
    simpa using this
theorem isObj_sorted {keys : List (List UInt8)} {kids : List JV} (h : keys.length = kids.length) : IsObj (sortedJ keys kids) keys := by
  have h1 := isObj_foldl (keys.zip kids) (.mk 6 0 [] [] []) [] ⟨rfl, rfl, fun s => Iff.rfl⟩
  rw [List.nil_append, List.map_fst_zip (Nat.le_of_eq h)] at h1
  exact h1

mutual
theorem sim_rd {a m d : Nat} {r : RRes} : RdR l a m d r → ∀ stk : JStk, stk.length = d → Reach l (pValue l a m stk) (outR r stk)
  | .err h, stk, hs => by subst hs; unfold pValue; rw [h]; exact Reach.refl _
  | .atom h, stk, hs => by subst hs; unfold pValue; rw [h]; exact Reach.refl _
  | .list0 h h1, stk, hs => by
    subst hs; unfold pValue; rw [h]
    refine Reach.step' (b := pFirst l _ _ _) rfl ?_
    unfold pFirst; rw [if_pos h1]; exact Reach.refl _
  | .list1 h h1 h2, stk, hs => by
    have ih := sim_ls h2 stk [] hs
    subst hs; unfold pValue; rw [h]
    refine Reach.step' (b := pFirst l _ _ _) rfl ?_
    unfold pFirst; rw [if_neg h1, ← pValue_skip]; exact ih
  | .obj0 h h1, stk, hs => by
    subst hs; unfold pValue; rw [h]
    refine Reach.step' (b := pFirstKey l _ _ _) rfl ?_
    unfold pFirstKey; rw [if_pos h1]; exact Reach.refl _
  | .obj1 h h1 h2, stk, hs => by
    have ih := sim_ob h2 stk [] hs rfl
    subst hs; unfold pValue; rw [h]
    refine Reach.step' (b := pFirstKey l _ _ _) rfl ?_
    unfold pFirstKey; rw [if_neg h1, ← pKey_skip]; exact ih
theorem sim_ls {a m d : Nat} {kids : List JV} {r : RRes} : LsR l a m d kids r → ∀ (stk : JStk) (key : List UInt8), stk.length = d → Reach l (pValue l a m ((.mk 5 0 [] kids [], key) :: stk)) (outR r stk)
  | .err h, stk, key, hs => sim_rd h ((.mk 5 0 [] kids [], key) :: stk) (by simp [hs])
  | .close h h1, stk, key, hs => by
    refine (sim_rd h ((.mk 5 0 [] kids [], key) :: stk) (by simp [hs])).trans ?_
    refine Reach.step' (step_more _ _ _ _ _ _) ?_
    have : (some (93 : UInt8)) ≠ some 44 := by decide
    rw [addKid_list]
    simp only [pMore, h1, JV.kind]
    exact Reach.refl _
  | .comma h h1 h2, stk, key, hs => by
    refine (sim_rd h ((.mk 5 0 [] kids [], key) :: stk) (by simp [hs])).trans ?_
    refine Reach.step' (step_more _ _ _ _ _ _) ?_
    rw [addKid_list]
    simp only [pMore, h1, JV.kind]
    exact Reach.step' (b := pValue l _ _ _) rfl (sim_ls h2 stk key hs)
  | .bad h h1 h2, stk, key, hs => by
    refine (sim_rd h ((.mk 5 0 [] kids [], key) :: stk) (by simp [hs])).trans ?_
    refine Reach.step' (step_more _ _ _ _ _ _) ?_
    rw [addKid_list]
    simp only [pMore]
    rw [if_neg h2, if_neg (by simpa [JV.kind] using h1)]
    exact Reach.refl _
theorem sim_ob {a m d : Nat} {keys : List (List UInt8)} {kids : List JV} {r : RRes} : ObR l a m d keys kids r → ∀ (stk : JStk) (key : List UInt8), stk.length = d → keys.length = kids.length →
    Reach l (pKey l a m ((sortedJ keys kids, key) :: stk)) (outR r stk)
  | .nokey h, stk, key, hs, hl => by simp only [pKey]; rw [if_neg h]; exact Reach.refl _
  | .badkey h h1, stk, key, hs, hl => by simp only [pKey]; rw [if_pos h, if_neg h1]; exact Reach.refl _
  | .double h h1 h2, stk, key, hs, hl => by simp only [pKey]; rw [if_pos h, if_pos h1, if_pos ((isObj_sorted hl).mem _ |>.2 h2)]; exact Reach.refl _
  | .nocolon h h1 h2 h3, stk, key, hs, hl => by
    simp only [pKey]; rw [if_pos h, h1, if_pos rfl, if_neg (fun h => h2 ((isObj_sorted hl).mem _ |>.1 h))]
    refine Reach.step' (b := pColon l _ _ _) rfl ?_
    unfold pColon
    simp only [Int.toNat_natCast]
    rw [if_neg h3]; exact Reach.refl _
  | .err h h1 h2 h3 h4, stk, key, hs, hl => by
    simp only [pKey]; rw [if_pos h, h1, if_pos rfl, if_neg (fun h => h2 ((isObj_sorted hl).mem _ |>.1 h))]
    refine Reach.step' (b := pColon l _ _ _) rfl ?_
    unfold pColon
    simp only [Int.toNat_natCast]
    rw [if_pos h3]
    exact Reach.step' (b := pValue l _ _ _) rfl (sim_rd h4 (_ :: stk) (by simp [hs]))
  | .close (s := s) (x := x) h h1 h2 h3 h4 h5, stk, key, hs, hl => by
    simp only [pKey]; rw [if_pos h, h1, if_pos rfl, if_neg (fun h => h2 ((isObj_sorted hl).mem _ |>.1 h))]
    refine Reach.step' (b := pColon l _ _ _) rfl ?_
    unfold pColon
    simp only [Int.toNat_natCast]
    rw [if_pos h3]
    refine Reach.step' (b := pValue l _ _ _) rfl ((sim_rd h4 (_ :: stk) (by simp [hs])).trans ?_)
    have hk : (addKid (sortedJ keys kids) s x).kind = 6 := ((isObj_sorted hl).add s x).kind
    refine Reach.step' (step_more _ _ _ _ _ _) ?_
    simp only [pMore]
    rw [hk, if_neg (by rw [h5]; decide), if_pos (by rw [h5]; rfl), ← sortedJ_snoc hl]
    exact Reach.refl _
  | .comma (s := s) (x := x) h h1 h2 h3 h4 h5 h6, stk, key, hs, hl => by
    have ih := sim_ob h6 stk s hs (by simp [hl])
    simp only [pKey]; rw [if_pos h, h1, if_pos rfl, if_neg (fun h => h2 ((isObj_sorted hl).mem _ |>.1 h))]
    refine Reach.step' (b := pColon l _ _ _) rfl ?_
    unfold pColon
    simp only [Int.toNat_natCast]
    rw [if_pos h3]
    refine Reach.step' (b := pValue l _ _ _) rfl ((sim_rd h4 (_ :: stk) (by simp [hs])).trans ?_)
    have hk : (addKid (sortedJ keys kids) s x).kind = 6 := ((isObj_sorted hl).add s x).kind
    refine Reach.step' (step_more _ _ _ _ _ _) ?_
    simp only [pMore]
    rw [hk, if_pos h5, if_pos rfl, ← sortedJ_snoc hl]
    exact Reach.step' (b := pKey l _ _ _) rfl ih
  | .bad (s := s) (x := x) h h1 h2 h3 h4 h5 h6, stk, key, hs, hl => by
    simp only [pKey]; rw [if_pos h, h1, if_pos rfl, if_neg (fun h => h2 ((isObj_sorted hl).mem _ |>.1 h))]
    refine Reach.step' (b := pColon l _ _ _) rfl ?_
    unfold pColon
    simp only [Int.toNat_natCast]
    rw [if_pos h3]
    refine Reach.step' (b := pValue l _ _ _) rfl ((sim_rd h4 (_ :: stk) (by simp [hs])).trans ?_)
    have hk : (addKid (sortedJ keys kids) s x).kind = 6 := ((isObj_sorted hl).add s x).kind
    refine Reach.step' (step_more _ _ _ _ _ _) ?_
    simp only [pMore]
    rw [hk, if_neg h6, if_neg (by simpa using h5)]
    exact Reach.refl _
end
end
end Go.Proofs.YtalhoacancbldaaDoor
