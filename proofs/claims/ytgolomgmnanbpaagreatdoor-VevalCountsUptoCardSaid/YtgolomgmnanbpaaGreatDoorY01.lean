import Derived.Test.YtgolomgmnanbpaaGreatDoorZ04
import Derived.Test.YtgolomgmnanbpaaGreatDoorZ23
namespace Go.Proofs.YtgolomgmnanbpaaGreatDoor
set_option linter.unusedVariables false
set_option linter.unusedSimpArgs false
theorem deepE_into {r : Nat} {k : Int} {v : JV} {s : List UInt8} {kids : List EJ} (h0 : r ≠ 0) (h1 : okX k v s kids.length = true) (h2 : ∀ x ∈ kids, deepE (r - 1) x ≠ 0) : deepE r (.mk k v s kids) ≠ 0 := by
  unfold deepE
  rw [if_neg h0, if_pos h1]
  cases hd : deepL (r - 1) kids with
  | none => exact absurd hd (deepL_iff.2 h2)
  | some m => simp
end Go.Proofs.YtgolomgmnanbpaaGreatDoor
namespace Go.Proofs.YtgolomgmnanbpaaGreatDoor
set_option linter.unusedVariables false
set_option linter.unusedSimpArgs false
def sumX : Nat → EJ | 0 => xInt 0 | n + 1 => xOf 9 [sumX n, xName aT]
theorem good_num (n : Int) : good (jNum n) = true := by
  unfold good jNum
  have h1 : goodJ 8 (.mk 3 n [] [] []) = true := by
    unfold goodJ goodL goodA
    simp
  have h2 : nodesJ (.mk 3 n [] [] []) ≤ 256 := by unfold nodesJ; simp [nodesL]
  simp [h1, h2]
theorem deep_two {r : Nat} {k : Int} {x y : EJ} (hr : r ≠ 0) (hk : okX k jZero [] 2 = true) (hx : deepE (r - 1) x ≠ 0) (hy : deepE (r - 1) y ≠ 0) : deepE r (xOf k [x, y]) ≠ 0 :=
  deepE_into hr hk (by intro z hz; rcases List.mem_cons.1 hz with rfl | hz; exact hx; obtain rfl := List.mem_singleton.1 hz; exact hy)
theorem deep_name {r : Nat} (hr : r ≠ 0) (s : List UInt8) (hs : okX 2 jZero s 0 = true) : deepE r (xName s) ≠ 0 := deepE_into hr hs (by simp)
theorem deep_int {r : Nat} (hr : r ≠ 0) (n : Int) (hn : 0 ≤ n) : deepE r (xInt n) ≠ 0 := by
  refine deepE_into hr ?_ (by simp)
  have h : litOk (jNum n) = true := by
    unfold litOk
    rw [good_num, Bool.true_and, Bool.or_eq_true]
    exact .inl (decide_eq_true ⟨rfl, hn⟩)
  unfold okX
  rw [if_pos rfl, h]
  rfl
theorem deep_sum : ∀ (n r : Nat), n < r → deepE r (sumX n) ≠ 0
  | 0, r, h => deep_int (by omega) 0 (by omega)
  | n + 1, r, h => deep_two (by omega) (by decide) (deep_sum n (r - 1) (by omega)) (deep_name (by omega) aT (by decide))
theorem ev_a (a b : Int) : evE (env2 (jNum a) (jNum b)) (xName aT) = some (jNum a) := rfl
theorem ev_b (a b : Int) : evE (env2 (jNum a) (jNum b)) (xName bT) = some (jNum b) := rfl
theorem ev_int (env : List (List UInt8 × JV)) (n : Int) : evE env (xInt n) = some (jNum n) := rfl
def numQ (k : Int) : Option JV → Option JV → Option JV | some a, some b => if a.kind = 3 ∧ b.kind = 3 then numO k a.num b.num else none | _, _ => none
theorem ev_two (env : List (List UInt8 × JV)) {k : Int} (hk : k = 8 ∨ k = 9 ∨ k = 10) (x y : EJ) : evE env (xOf k [x, y]) = numQ k (evE env x) (evE env y) := by
  show combJ env k jZero [] [evE env x, evE env y] = _
  unfold combJ
  rcases hk with rfl | rfl | rfl <;> (cases h1 : evE env x <;> cases h2 : evE env y <;> simp [numQ])
theorem numR_ok {n : Int} (h : iw n) : numR n = some (jNum n) := by unfold iw at h; unfold numR; rw [if_pos h]
theorem numR_bad {n : Int} (h : ¬ iw n) : numR n = none := by unfold iw at h; unfold numR; rw [if_neg h]
theorem numQ_some (k a b : Int) : numQ k (some (jNum a)) (some (jNum b)) = numO k a b := rfl
theorem cnt_two {k a b : Int} (hk : k = 9 ∨ k = 10) : evalJ (xAB k) (env2 (jNum a) (jNum b)) = numO k a b := by
  rw [eval_ok (good_num a) (good_num b) (by rcases hk with rfl | rfl <;> decide), xAB, ev_two _ (by omega), ev_a, ev_b, numQ_some]
theorem cnt_back1 {a b : Int} (ha : iw a) (h : iw (a + b)) : evalJ (xOf 10 [xAB 9, xName bT]) (env2 (jNum a) (jNum b)) = some (jNum a) := by
  rw [eval_ok (good_num a) (good_num b) (by decide), ev_two _ (by omega), xAB, ev_two _ (by omega), ev_a, ev_b, numQ_some]
  rw [show numO 9 a b = some (jNum (a + b)) from numR_ok h, numQ_some]
  show numR (a + b - b) = _
  rw [show a + b - b = a by omega, numR_ok ha]
theorem cnt_back2 {a b : Int} (ha : iw a) (h : iw (a - b)) : evalJ (xOf 9 [xAB 10, xName bT]) (env2 (jNum a) (jNum b)) = some (jNum a) := by
  rw [eval_ok (good_num a) (good_num b) (by decide), ev_two _ (by omega), xAB, ev_two _ (by omega), ev_a, ev_b, numQ_some]
  rw [show numO 10 a b = some (jNum (a - b)) from numR_ok h, numQ_some]
  show numR (a - b + b) = _
  rw [show a - b + b = a by omega, numR_ok ha]
theorem ev_sum (a b : Int) (ha : iw a) : ∀ n : Nat, evE (env2 (jNum a) (jNum b)) (sumX n) = numR ((n : Int) * a)
  | 0 => by rw [show sumX 0 = xInt 0 from rfl, ev_int]; simp; exact (numR_ok (by unfold iw; omega)).symm
  | n + 1 => by
    rw [show sumX (n + 1) = xOf 9 [sumX n, xName aT] from rfl, ev_two _ (by omega), ev_sum a b ha n, ev_a]
    have e : ((n + 1 : Nat) : Int) * a = (n : Int) * a + a := by rw [Int.natCast_add, Int.add_mul]; simp
    by_cases h : iw ((n : Int) * a)
    · rw [numR_ok h, numQ_some, e]; rfl
    · rw [numR_bad h]
      refine (numR_bad fun h2 => h ?_).symm
      rw [e] at h2
      have key : (0 ≤ a → 0 ≤ (n : Int) * a) ∧ (a ≤ 0 → (n : Int) * a ≤ 0) := ⟨fun h => Int.mul_nonneg (by omega) h, fun h => Int.mul_nonpos_of_nonneg_of_nonpos (by omega) h⟩
      unfold iw at h2 ⊢
      rcases Int.le_total 0 a with h0 | h0
      · have := key.1 h0; omega
      · have := key.2 h0; omega
theorem cnt_sum {a b : Int} (ha : iw a) {n : Nat} (hn : n ≤ 7) : evalJ (sumX n) (env2 (jNum a) (jNum b)) = numR ((n : Int) * a) := by
  rw [eval_ok (good_num a) (good_num b) (deep_sum n 12 (by omega)), ev_sum a b ha]
theorem cnt_mul {a b : Int} {n : Nat} : evalJ (xOf 8 [xName aT, xInt n]) (env2 (jNum a) (jNum b)) = numR ((n : Int) * a) := by
  rw [eval_ok (good_num a) (good_num b) (deep_two (by omega) (by decide) (deep_name (by omega) aT (by decide)) (deep_int (by omega) n (by omega))), ev_two _ (by omega), ev_a, ev_int, numQ_some]
  show numR (a * n) = _
  rw [Int.mul_comm]
end Go.Proofs.YtgolomgmnanbpaaGreatDoor
