/- Plain: the order of values: total, and equal only for the same ones. -/
import Derived.Test.YtoejdhabpajhlaaDoorGoodP
namespace Go.Proofs.YtoejdhabpajhlaaDoor
set_option linter.unusedVariables false
set_option linter.unusedSimpArgs false
open Go.RowKit

def sgnI (n : Int) : Int := if n < 0 then -1 else if 0 < n then 1 else 0
def lexI (a b : Int) : Int := if a = 0 then b else a
def cmpB (s t : List UInt8) : Int := if s = t then 0 else if ltB s t = true then -1 else 1
def cmpN (a b : Int) : Int := sgnI (a - b)
def rankJ : JV → Int
  | .mk k n _ _ _ => if k = 1 then 0 else if k = 2 then (if n = 1 then 2 else 1) else k
mutual
def cmpJ : JV → JV → Int
  | .mk k n s kids keys, b =>
    if rankJ (.mk k n s kids keys) ≠ rankJ b then sgnI (rankJ (.mk k n s kids keys) - rankJ b)
    else if k = 3 then cmpN n b.num
    else if k = 4 then cmpB s b.txt
    else cmpL (decide (k = 6)) kids keys b.kids b.keys
def cmpL : Bool → List JV → List (List UInt8) → List JV → List (List UInt8) → Int
  | o, x :: r, ks, y :: r', ks' => lexI (if o = true then cmpB (ks.headD []) (ks'.headD []) else 0) (lexI (cmpJ x y) (cmpL o r ks.tail r' ks'.tail))
  | _, [], _, [], _ => 0
  | _, [], _, _ :: _, _ => -1
  | _, _ :: _, _, [], _ => 1
end
theorem sgnI_3 (n : Int) : sgnI n = -1 ∨ sgnI n = 0 ∨ sgnI n = 1 := by unfold sgnI; split; · simp
                                                                       split <;> simp
theorem cmpB_3 (s t : List UInt8) : cmpB s t = -1 ∨ cmpB s t = 0 ∨ cmpB s t = 1 := by unfold cmpB; split; · simp
                                                                                      split <;> simp
theorem cmpB_zero {s t : List UInt8} : cmpB s t = 0 ↔ s = t := by
  unfold cmpB
  split
  · rename_i h; simp [h]
  · rename_i h; split <;> simp [h]
theorem cmpB_neg {s t : List UInt8} : cmpB s t = -1 ↔ ltB s t = true := by
  unfold cmpB
  split
  · rename_i h; subst h; have := ltB_irrefl s; simp [this]
  · rename_i h; split <;> simp_all
theorem cmpB_anti (s t : List UInt8) : cmpB t s = - cmpB s t := by
  unfold cmpB
  by_cases h : s = t
  · rw [if_pos h, if_pos h.symm]; rfl
  · rw [if_neg h, if_neg (fun e => h e.symm)]
    rcases ltB_total h with h1 | h1
    · have h2 : ¬ ltB t s = true := fun h2 => ltB_irrefl s (ltB_trans h1 h2)
      rw [if_pos h1, if_neg h2]; rfl
    · have h2 : ¬ ltB s t = true := fun h2 => ltB_irrefl s (ltB_trans h2 h1)
      rw [if_pos h1, if_neg h2]
theorem cmpB_trans {s t u : List UInt8} (h1 : cmpB s t = -1) (h2 : cmpB t u = -1) : cmpB s u = -1 := cmpB_neg.2 (ltB_trans (cmpB_neg.1 h1) (cmpB_neg.1 h2))
theorem lexI_3 {a b : Int} (ha : a = -1 ∨ a = 0 ∨ a = 1) (hb : b = -1 ∨ b = 0 ∨ b = 1) : lexI a b = -1 ∨ lexI a b = 0 ∨ lexI a b = 1 := by unfold lexI; split <;> assumption
theorem lexI_zero {a b : Int} : lexI a b = 0 ↔ a = 0 ∧ b = 0 := by unfold lexI; split <;> simp_all
theorem lexI_neg (a b : Int) : lexI (-a) (-b) = - lexI a b := by
  unfold lexI
  by_cases h : a = 0
  · rw [if_pos h, if_pos (by omega)]
  · rw [if_neg h, if_neg (by omega)]
/-- a key's part of an element -/
def keyC (o : Bool) (ks ks' : List (List UInt8)) : Int := if o = true then cmpB (ks.headD []) (ks'.headD []) else 0
theorem keyC_3 (o : Bool) (ks ks' : List (List UInt8)) : keyC o ks ks' = -1 ∨ keyC o ks ks' = 0 ∨ keyC o ks ks' = 1 := by
  unfold keyC; split
  · exact cmpB_3 _ _
  · simp
theorem keyC_anti (o : Bool) (ks ks' : List (List UInt8)) : keyC o ks' ks = - keyC o ks ks' := by
  unfold keyC; split
  · exact cmpB_anti _ _
  · rfl
theorem keyC_left {o : Bool} {a b c : List (List UInt8)} (h : keyC o a b = 0) : keyC o a c = keyC o b c := by
  unfold keyC at *
  split at h
  · rename_i ho; rw [if_pos ho, if_pos ho, cmpB_zero.1 h]
  · rename_i ho; rw [if_neg ho, if_neg ho]
theorem keyC_trans {o : Bool} {a b c : List (List UInt8)} (h1 : keyC o a b = -1) (h2 : keyC o b c = -1) : keyC o a c = -1 := by
  unfold keyC at *
  split at h1
  · rename_i ho; rw [if_pos ho] at h2 ⊢; exact cmpB_trans h1 h2
  · exact absurd h1 (by decide)
theorem cmpL_cons (o : Bool) (x : JV) (r : List JV) (ks : List (List UInt8)) (y : JV) (r' : List JV) (ks' : List (List UInt8)) :
    cmpL o (x :: r) ks (y :: r') ks' = lexI (keyC o ks ks') (lexI (cmpJ x y) (cmpL o r ks.tail r' ks'.tail)) := by
  rw [cmpL]; rfl
theorem cmpL_nn (o : Bool) (ks ks' : List (List UInt8)) : cmpL o [] ks [] ks' = 0 := by rw [cmpL]
theorem cmpL_nc (o : Bool) (ks : List (List UInt8)) (y : JV) (r' : List JV) (ks' : List (List UInt8)) : cmpL o [] ks (y :: r') ks' = -1 := by rw [cmpL]
theorem cmpL_cn (o : Bool) (x : JV) (r : List JV) (ks ks' : List (List UInt8)) : cmpL o (x :: r) ks [] ks' = 1 := by rw [cmpL]
mutual
theorem cmpJ_3 : ∀ (a b : JV), cmpJ a b = -1 ∨ cmpJ a b = 0 ∨ cmpJ a b = 1
  | .mk k n s kids keys, b => by
    rw [cmpJ]
    split
    · exact sgnI_3 _
    split
    · exact sgnI_3 _
    split
    · exact cmpB_3 _ _
    · exact cmpL_3 _ _ _ _ _
theorem cmpL_3 : ∀ (o : Bool) (xs : List JV) (ks : List (List UInt8)) (ys : List JV) (ls : List (List UInt8)), cmpL o xs ks ys ls = -1 ∨ cmpL o xs ks ys ls = 0 ∨ cmpL o xs ks ys ls = 1
  | o, x :: r, ks, y :: r', ls => by
    rw [cmpL_cons]
    exact lexI_3 (keyC_3 _ _ _) (lexI_3 (cmpJ_3 x y) (cmpL_3 _ r _ _ _))
  | o, [], ks, [], ls => by rw [cmpL_nn]; simp
  | o, [], ks, y :: r', ls => by rw [cmpL_nc]; simp
  | o, x :: r, ks, [], ls => by rw [cmpL_cn]; simp
end
theorem goodJ_out {d : Nat} {k n : Int} {s : List UInt8} {kids : List JV} {keys : List (List UInt8)} (h : goodJ d (.mk k n s kids keys) = true) : goodA k n s kids.length keys = true ∧ (5 ≤ k → d ≠ 0) ∧ goodL (d - 1) kids = true := by
  unfold goodJ at h
  simp only [Bool.and_eq_true, decide_eq_true_eq] at h
  exact ⟨h.1, h.2.1, h.2.2⟩
theorem rank_of {k n : Int} {s : List UInt8} {kids : List JV} {keys : List (List UInt8)} (h : 1 ≤ k ∧ k ≤ 6) :
    (k = 1 ∧ rankJ (.mk k n s kids keys) = 0) ∨ (k = 2 ∧ n = 1 ∧ rankJ (.mk k n s kids keys) = 2) ∨ (k = 2 ∧ n ≠ 1 ∧ rankJ (.mk k n s kids keys) = 1) ∨ (3 ≤ k ∧ rankJ (.mk k n s kids keys) = k) := by
  rw [rankJ]
  by_cases h1 : k = 1
  · rw [if_pos h1]; exact .inl ⟨h1, rfl⟩
  rw [if_neg h1]
  by_cases h2 : k = 2
  · rw [if_pos h2]
    by_cases h3 : n = 1
    · rw [if_pos h3]; exact .inr (.inl ⟨h2, h3, rfl⟩)
    · rw [if_neg h3]; exact .inr (.inr (.inl ⟨h2, h3, rfl⟩))
  · rw [if_neg h2]; exact .inr (.inr (.inr ⟨by omega, rfl⟩))
/-- what right values of one rank share -/
theorem rank_same {k n k' n' : Int} {s s' : List UInt8} {kids kids' : List JV} {keys keys' : List (List UInt8)} (h : goodA k n s kids.length keys = true) (h' : goodA k' n' s' kids'.length keys' = true)
    (hr : rankJ (.mk k n s kids keys) = rankJ (.mk k' n' s' kids' keys')) : k = k' ∧ (k ≠ 3 → n = n') ∧ (k ≠ 4 → s = s') := by
  have h1 := goodA_kind h
  have h2 := goodA_kind h'
  have hk : k = k' := by
    have r1 := rank_of (n := n) (s := s) (kids := kids) (keys := keys) h1
    have r2 := rank_of (n := n') (s := s') (kids := kids') (keys := keys') h2
    omega
  subst hk
  refine ⟨rfl, ?_⟩
  have hk7 : k = 1 ∨ k = 2 ∨ k = 3 ∨ k = 4 ∨ k = 5 ∨ k = 6 := by omega
  rcases hk7 with rfl | rfl | rfl | rfl | rfl | rfl <;> simp [goodA] at h h' <;> refine ⟨fun _ => ?_, fun _ => ?_⟩ <;> simp_all
  unfold rankJ at hr
  simp at hr
  rcases h.1.1.1 with rfl | rfl <;> rcases h'.1.1.1 with rfl | rfl <;> simp_all
theorem keyed {k n : Int} {s : List UInt8} {nk : Nat} {keys : List (List UInt8)} (h : goodA k n s nk keys = true) : (k = 6 → keys.length = nk) ∧ (k ≠ 6 → keys = []) := by
  have h1 := goodA_kind h
  refine ⟨fun e => ?_, fun e => ?_⟩
  · subst e; exact (goodA_obj h).2.2.1.symm
  · rcases Int.lt_or_le k 5 with h2 | h2
    · exact (goodA_leaf h h2).2
    · obtain rfl : k = 5 := by omega
      exact (goodA_list h).2.2
mutual
theorem cmpJ_self : ∀ (a : JV), cmpJ a a = 0
  | .mk k n s kids keys => by
    rw [cmpJ, if_neg (fun h => h rfl)]
    split
    · simp [cmpN, sgnI, JV.num]
    split
    · simp [cmpB, JV.txt]
    · exact cmpL_self _ _ _
theorem cmpL_self : ∀ (o : Bool) (xs : List JV) (ks : List (List UInt8)), cmpL o xs ks xs ks = 0
  | o, x :: r, ks => by
    rw [cmpL_cons, cmpJ_self x, cmpL_self o r]
    have : keyC o ks ks = 0 := by unfold keyC; split <;> simp [cmpB]
    rw [this]; rfl
  | o, [], ks => cmpL_nn _ _ _
end
mutual
theorem cmpJ_eq : ∀ {a b : JV} {d d' : Nat}, goodJ d a = true → goodJ d' b = true → cmpJ a b = 0 → a = b
  | .mk k n s kids keys, .mk k' n' s' kids' keys', d, d', h, h', e => by
    obtain ⟨h1, h2, h3⟩ := goodJ_out h
    obtain ⟨h1', h2', h3'⟩ := goodJ_out h'
    rw [cmpJ] at e
    split at e
    · rename_i hr
      unfold sgnI at e
      split at e
      · exact absurd e (by decide)
      split at e
      · exact absurd e (by decide)
      · omega
    rename_i hr
    have hr : rankJ (.mk k n s kids keys) = rankJ (.mk k' n' s' kids' keys') := Decidable.not_not.1 hr
    obtain ⟨rfl, hn, hs⟩ := rank_same h1 h1' hr
    obtain ⟨q1, q2⟩ := keyed h1
    obtain ⟨q1', q2'⟩ := keyed h1'
    split at e
    · rename_i hk
      subst hk
      obtain rfl := hs (by decide)
      have h4 := goodA_leaf h1 (by decide)
      have h4' := goodA_leaf h1' (by decide)
      obtain rfl := List.length_eq_zero_iff.1 h4.1
      obtain rfl := List.length_eq_zero_iff.1 h4'.1
      rw [h4.2, h4'.2]
      have : n = n' := by
        have e : cmpN n n' = 0 := e
        unfold cmpN sgnI at e
        split at e
        · exact absurd e (by decide)
        split at e
        · exact absurd e (by decide)
        · omega
      rw [this]
    rename_i hk3
    obtain rfl := hn hk3
    split at e
    · rename_i hk
      subst hk
      have h4 := goodA_leaf h1 (by decide)
      have h4' := goodA_leaf h1' (by decide)
      obtain rfl := List.length_eq_zero_iff.1 h4.1
      obtain rfl := List.length_eq_zero_iff.1 h4'.1
      rw [h4.2, h4'.2, cmpB_zero.1 e]; rfl
    rename_i hk4
    obtain rfl := hs hk4
    obtain ⟨e1, e2⟩ := cmpL_eq h3 h3' (fun ho => q1 (by simpa using ho)) (fun ho => q1' (by simpa using ho)) (show cmpL (decide (k = 6)) kids keys kids' keys' = 0 from e)
    subst e1
    by_cases hk6 : k = 6
    · rw [e2 (by simpa using hk6)]
    · rw [q2 hk6, q2' hk6]
theorem cmpL_eq : ∀ {o : Bool} {xs : List JV} {ks : List (List UInt8)} {ys : List JV} {ls : List (List UInt8)} {d d' : Nat}, goodL d xs = true → goodL d' ys = true → (o = true → ks.length = xs.length) → (o = true → ls.length = ys.length) →
    cmpL o xs ks ys ls = 0 → xs = ys ∧ (o = true → ks = ls)
  | o, x :: r, ks, y :: r', ls, d, d', h, h', hk, hl, e => by
    rw [cmpL_cons, lexI_zero, lexI_zero] at e
    unfold goodL at h h'
    rw [Bool.and_eq_true] at h h'
    have h1 := cmpJ_eq h.1 h'.1 e.2.1
    obtain ⟨h2, h3⟩ := cmpL_eq (ks := ks.tail) (ls := ls.tail) h.2 h'.2 (fun ho => by rw [List.length_tail, hk ho]; rfl) (fun ho => by rw [List.length_tail, hl ho]; rfl) e.2.2
    refine ⟨by rw [h1, h2], fun ho => ?_⟩
    have e1 := e.1
    unfold keyC at e1
    rw [if_pos ho, cmpB_zero] at e1
    have hk := hk ho
    have hl := hl ho
    have h3 := h3 ho
    match ks, ls, hk, hl with
    | k :: ks, l :: ls, _, _ =>
      have e1 : k = l := e1
      have h3 : ks = ls := h3
      rw [e1, h3]
  | o, [], ks, [], ls, d, d', h, h', hk, hl, e => ⟨rfl, fun ho => by
      have h1 := List.length_eq_zero_iff.1 (hk ho)
      have h2 := List.length_eq_zero_iff.1 (hl ho)
      rw [h1, h2]⟩
  | o, [], ks, y :: r', ls, d, d', h, h', hk, hl, e => by rw [cmpL_nc] at e; exact absurd e (by decide)
  | o, x :: r, ks, [], ls, d, d', h, h', hk, hl, e => by rw [cmpL_cn] at e; exact absurd e (by decide)
end
theorem sgnI_neg (n : Int) : sgnI (-n) = - sgnI n := by
  unfold sgnI
  rcases Int.lt_trichotomy n 0 with h | h | h
  · rw [if_pos h, if_neg (by omega), if_pos (by omega)]; rfl
  · subst h; rfl
  · rw [if_pos (by omega), if_neg (by omega), if_pos h]
mutual
theorem cmpJ_anti : ∀ {a b : JV} {d d' : Nat}, goodJ d a = true → goodJ d' b = true → cmpJ b a = - cmpJ a b
  | .mk k n s kids keys, .mk k' n' s' kids' keys', d, d', h, h' => by
    obtain ⟨h1, h2, h3⟩ := goodJ_out h
    obtain ⟨h1', h2', h3'⟩ := goodJ_out h'
    rw [cmpJ, cmpJ]
    by_cases hr : rankJ (.mk k n s kids keys) = rankJ (.mk k' n' s' kids' keys')
    · obtain ⟨rfl, hn, hs⟩ := rank_same h1 h1' hr
      have q1 : ¬ (rankJ (.mk k n' s' kids' keys') ≠ rankJ (.mk k n s kids keys)) := fun e => e hr.symm
      have q2 : ¬ (rankJ (.mk k n s kids keys) ≠ rankJ (.mk k n' s' kids' keys')) := fun e => e hr
      rw [if_neg q1, if_neg q2]
      split
      · show sgnI (n' - n) = - sgnI (n - n'); rw [← sgnI_neg]; congr 1; omega
      split
      · exact cmpB_anti _ _
      · exact cmpL_anti h3 h3'
    · have q1 : rankJ (.mk k' n' s' kids' keys') ≠ rankJ (.mk k n s kids keys) := fun e => hr e.symm
      rw [if_pos q1, if_pos hr, ← sgnI_neg]; congr 1; omega
theorem cmpL_anti : ∀ {o : Bool} {xs : List JV} {ks : List (List UInt8)} {ys : List JV} {ls : List (List UInt8)} {d d' : Nat}, goodL d xs = true → goodL d' ys = true → cmpL o ys ls xs ks = - cmpL o xs ks ys ls
  | o, x :: r, ks, y :: r', ls, d, d', h, h' => by
    unfold goodL at h h'
    rw [Bool.and_eq_true] at h h'
    rw [cmpL_cons, cmpL_cons, cmpJ_anti h.1 h'.1, keyC_anti o ks ls, cmpL_anti h.2 h'.2, lexI_neg, lexI_neg]
  | o, [], ks, [], ls, d, d', h, h' => by rw [cmpL_nn, cmpL_nn]; rfl
  | o, [], ks, y :: r', ls, d, d', h, h' => by rw [cmpL_nc, cmpL_cn]; rfl
  | o, x :: r, ks, [], ls, d, d', h, h' => by rw [cmpL_nc, cmpL_cn]
end
theorem lexI_lt {a a' a'' b b' b'' : Int} (h3 : a = -1 ∨ a = 0 ∨ a = 1) (h3' : a' = -1 ∨ a' = 0 ∨ a' = 1) (t : a = -1 → a' = -1 → a'' = -1) (l : a = 0 → a'' = a') (r : a' = 0 → a'' = a) (u : b = -1 → b' = -1 → b'' = -1)
    (h : lexI a b = -1) (h' : lexI a' b' = -1) : lexI a'' b'' = -1 := by
  unfold lexI at *
  split at h <;> split at h'
  · rename_i e e'; rw [if_pos (by rw [l e, e'])]; exact u h h'
  · rename_i e e'; rw [if_neg (by rw [l e]; exact e'), l e]; exact h'
  · rename_i e e'; rw [if_neg (by rw [r e']; exact e), r e']; exact h
  · rw [if_neg (by rw [t h h']; decide), t h h']
mutual
theorem cmpJ_trans : ∀ {a b c : JV} {d d' d'' : Nat}, goodJ d a = true → goodJ d' b = true → goodJ d'' c = true → cmpJ a b = -1 → cmpJ b c = -1 → cmpJ a c = -1
  | .mk k n s kids keys, .mk k' n' s' kids' keys', .mk k2 n2 s2 kids2 keys2, d, d', d'', h, h', h'', e, e' => by
    obtain ⟨h1, h2, h3⟩ := goodJ_out h
    obtain ⟨h1', h2', h3'⟩ := goodJ_out h'
    obtain ⟨h1'', h2'', h3''⟩ := goodJ_out h''
    rw [cmpJ] at e e' ⊢
    have sg : ∀ m : Int, sgnI m = -1 → m < 0 := fun m hm => by
      unfold sgnI at hm
      split at hm
      · assumption
      split at hm
      · exact absurd hm (by decide)
      · exact absurd hm (by decide)
    have gs : ∀ m : Int, m < 0 → sgnI m = -1 := fun m hm => by unfold sgnI; rw [if_pos hm]
    by_cases hr : rankJ (.mk k n s kids keys) = rankJ (.mk k' n' s' kids' keys')
    · rw [if_neg (show ¬ (rankJ (.mk k n s kids keys) ≠ rankJ (.mk k' n' s' kids' keys')) from fun q => q hr)] at e
      by_cases hr' : rankJ (.mk k' n' s' kids' keys') = rankJ (.mk k2 n2 s2 kids2 keys2)
      · rw [if_neg (show ¬ (rankJ (.mk k' n' s' kids' keys') ≠ rankJ (.mk k2 n2 s2 kids2 keys2)) from fun q => q hr')] at e'
        rw [if_neg (show ¬ (rankJ (.mk k n s kids keys) ≠ rankJ (.mk k2 n2 s2 kids2 keys2)) from fun q => q (hr.trans hr'))]
        obtain ⟨rfl, hn, hs⟩ := rank_same h1 h1' hr
        obtain ⟨rfl, hn', hs'⟩ := rank_same h1' h1'' hr'
        split at e
        · rename_i hk
          rw [if_pos hk] at e' ⊢
          have q1 : n - n' < 0 := sg _ e
          have q2 : n' - n2 < 0 := sg _ e'
          exact gs _ (show n - n2 < 0 by omega)
        rename_i hk3
        rw [if_neg hk3] at e' ⊢
        split at e
        · rename_i hk
          rw [if_pos hk] at e' ⊢
          exact cmpB_trans (t := s') e e'
        rename_i hk4
        rw [if_neg hk4] at e' ⊢
        exact cmpL_trans (ys := kids') (ls := keys') h3 h3' h3'' e e'
      · rw [if_pos hr'] at e'
        rw [if_pos (show rankJ (.mk k n s kids keys) ≠ rankJ (.mk k2 n2 s2 kids2 keys2) from fun q => hr' (hr.symm.trans q)), hr]; exact e'
    · rw [if_pos hr] at e
      by_cases hr' : rankJ (.mk k' n' s' kids' keys') = rankJ (.mk k2 n2 s2 kids2 keys2)
      · rw [← hr', if_pos hr]; exact e
      · rw [if_pos hr'] at e'
        have := sg _ e
        have := sg _ e'
        rw [if_pos (show rankJ (.mk k n s kids keys) ≠ rankJ (.mk k2 n2 s2 kids2 keys2) by omega)]
        exact gs _ (by omega)
theorem cmpL_trans : ∀ {o : Bool} {xs : List JV} {ks : List (List UInt8)} {ys : List JV} {ls : List (List UInt8)} {zs : List JV} {ms : List (List UInt8)} {d d' d'' : Nat}, goodL d xs = true → goodL d' ys = true → goodL d'' zs = true →
    cmpL o xs ks ys ls = -1 → cmpL o ys ls zs ms = -1 → cmpL o xs ks zs ms = -1
  | o, x :: r, ks, y :: r', ls, z :: r'', ms, d, d', d'', h, h', h'', e, e' => by
    unfold goodL at h h' h''
    rw [Bool.and_eq_true] at h h' h''
    rw [cmpL_cons] at e e' ⊢
    refine lexI_lt (keyC_3 _ _ _) (keyC_3 _ _ _) keyC_trans (fun q => keyC_left q) (fun q => ?_) (fun e e' => ?_) e e'
    · have := keyC_anti o ls ms
      rw [q] at this
      have h1 := keyC_left (c := ks) this
      rw [keyC_anti o ks ms, keyC_anti o ks ls] at h1
      omega
    · exact lexI_lt (cmpJ_3 _ _) (cmpJ_3 _ _) (cmpJ_trans h.1 h'.1 h''.1) (fun q => by rw [cmpJ_eq h.1 h'.1 q]) (fun q => by rw [cmpJ_eq h'.1 h''.1 q]) (cmpL_trans h.2 h'.2 h''.2) e e'
  | o, [], ks, y :: r', ls, z :: r'', ms, d, d', d'', h, h', h'', e, e' => cmpL_nc _ _ _ _ _
  | o, [], ks, y :: r', ls, [], ms, d, d', d'', h, h', h'', e, e' => by rw [cmpL_cn] at e'; exact absurd e' (by decide)
  | o, [], ks, [], ls, zs, ms, d, d', d'', h, h', h'', e, e' => by rw [cmpL_nn] at e; exact absurd e (by decide)
  | o, x :: r, ks, [], ls, zs, ms, d, d', d'', h, h', h'', e, e' => by rw [cmpL_cn] at e; exact absurd e (by decide)
  | o, x :: r, ks, y :: r', ls, [], ms, d, d', d'', h, h', h'', e, e' => by rw [cmpL_cn] at e'; exact absurd e' (by decide)
end
end Go.Proofs.YtoejdhabpajhlaaDoor
