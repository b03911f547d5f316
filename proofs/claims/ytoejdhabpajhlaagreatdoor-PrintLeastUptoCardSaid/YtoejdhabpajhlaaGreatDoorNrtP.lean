/- Plain: the canonical text of a good value has none of the three letters. -/
import Derived.Test.YtoejdhabpajhlaaGreatDoorAnyN
import Derived.Test.YtoejdhabpajhlaaGreatDoorBackJ
namespace Go.Proofs.YtoejdhabpajhlaaGreatDoor
set_option linter.unusedVariables false
set_option linter.unusedSimpArgs false

theorem nrt_app {a b : List UInt8} (ha : noNrt a) (hb : noNrt b) : noNrt (a ++ b) := fun x hx => (List.mem_append.1 hx).elim (ha x) (hb x)
theorem nrt_nil : noNrt [] := fun x hx => by cases hx
theorem nrt_cons {x : UInt8} {l : List UInt8} (hx : x ≠ 10 ∧ x ≠ 13 ∧ x ≠ 9) (hl : noNrt l) : noNrt (x :: l) := fun y hy => (List.mem_cons.1 hy).elim (fun e => e ▸ hx) (hl y)
theorem nrt_big {n : Nat} (h : 32 ≤ n) (h' : n < 256) : UInt8.ofNat n ≠ 10 ∧ UInt8.ofNat n ≠ 13 ∧ UInt8.ofNat n ≠ 9 := by
  have e := oN8 n h'
  refine ⟨fun h1 => ?_, fun h1 => ?_, fun h1 => ?_⟩ <;> (rw [h1] at e; simp at e; omega)
theorem nrt_lit {l : List UInt8} (h : l.all (fun x => decide (x ≠ 10 ∧ x ≠ 13 ∧ x ≠ 9)) = true) : noNrt l := fun x hx => of_decide_eq_true (List.all_eq_true.1 h x hx)
theorem nrt_flat {α : Type} {f : α → List UInt8} : ∀ {cs : List α}, (∀ c ∈ cs, noNrt (f c)) → noNrt (cs.flatMap f)
  | [], _ => nrt_nil
  | c :: r, h => by
    rw [List.flatMap_cons]
    exact nrt_app (h c List.mem_cons_self) (nrt_flat (fun x hx => h x (List.mem_cons_of_mem _ hx)))
theorem nrt_cp {c : Nat} (h : 32 ≤ c) (h' : c ≤ 1114111) : noNrt (cpBytes c) := by
  unfold cpBytes
  split
  · exact nrt_cons (nrt_big h (by omega)) nrt_nil
  · split
    · exact nrt_cons (nrt_big (by omega) (by omega)) (nrt_cons (nrt_big (by omega) (by omega)) nrt_nil)
    · split
      · exact nrt_cons (nrt_big (by omega) (by omega)) (nrt_cons (nrt_big (by omega) (by omega)) (nrt_cons (nrt_big (by omega) (by omega)) nrt_nil))
      · exact nrt_cons (nrt_big (by omega) (by omega)) (nrt_cons (nrt_big (by omega) (by omega)) (nrt_cons (nrt_big (by omega) (by omega)) (nrt_cons (nrt_big (by omega) (by omega)) nrt_nil)))
theorem nrt_sign {c : Nat} (h : isCp (c : Int) = true) : noNrt (qSignT c) := by
  unfold qSignT
  cases he : escOf c with
  | some s =>
    unfold escOf at he
    have hs : s = 34 ∨ s = 92 ∨ s = 98 ∨ s = 102 ∨ s = 110 ∨ s = 114 ∨ s = 116 := by
      repeat' split at he
      all_goals first | (cases he; decide) | cases he
    exact nrt_cons (by decide) (nrt_cons (nrt_big (by omega) (by omega)) nrt_nil)
  | none =>
    simp only
    by_cases hc : c < 32
    · rw [if_pos hc]
      have hx : 32 ≤ hexD (c % 16) ∧ hexD (c % 16) < 256 := by unfold hexD; split <;> omega
      exact nrt_cons (by decide) (nrt_cons (by decide) (nrt_cons (by decide) (nrt_cons (by decide) (nrt_cons (nrt_big (by omega) (by omega)) (nrt_cons (nrt_big hx.1 hx.2) nrt_nil)))))
    · rw [if_neg hc]
      exact nrt_cp (by omega) ((isCp_iff c).1 h).1
theorem nrt_quo {s : List UInt8} (h : txtOk s = true) : noNrt (quoT s) := by
  unfold quoT
  exact nrt_app (nrt_cons (by decide) (nrt_flat (fun c hc => nrt_sign ((txtOk_cpsOf h).1 c hc)))) (nrt_lit (by decide))
theorem nrt_natD : ∀ (K N : Nat), N < K → noNrt (natD N)
  | 0, _, h => absurd h (Nat.not_lt_zero _)
  | K + 1, N, h => by
    by_cases h10 : N < 10
    · rw [natD_small h10]; exact nrt_cons (nrt_big (by omega) (by omega)) nrt_nil
    · rw [natD_step (by omega)]
      exact nrt_app (nrt_natD K (N / 10) (by omega)) (nrt_cons (nrt_big (by omega) (by omega)) nrt_nil)
theorem nrt_num (n : Int) : noNrt (numT n) := by
  unfold numT
  split
  · exact nrt_cons (by decide) (nrt_natD _ _ (Nat.lt_succ_self _))
  · exact nrt_natD _ _ (Nat.lt_succ_self _)
mutual
theorem nrt_can : ∀ (v : JV) (d : Nat), goodJ d v = true → noNrt (canJ v)
  | .mk k n s kids keys, d, h => by
    unfold goodJ at h
    simp only [Bool.and_eq_true] at h
    obtain ⟨hA, _, hL⟩ := h
    have hk := goodA_kind hA
    have hl := nrt_canL kids keys false true (d - 1) hL (fun h => by cases h)
    have ho := nrt_canL kids keys true true (d - 1) hL
    by_cases hk5 : k < 5
    · obtain ⟨e1, e2⟩ := goodA_leaf hA hk5
      have e1 : kids = [] := List.eq_nil_of_length_eq_zero e1
      subst e1 e2
      obtain rfl | rfl | rfl | rfl : k = 1 ∨ k = 2 ∨ k = 3 ∨ k = 4 := by omega
      · have e : canJ (.mk 1 n s [] []) = nullT := by unfold canJ; rfl
        rw [e]; exact nrt_lit (by decide)
      · unfold goodA at hA; simp at hA
        rcases hA.1 with rfl | rfl
        · have e : canJ (.mk 2 0 s [] []) = falseT := by unfold canJ; rfl
          rw [e]; exact nrt_lit (by decide)
        · have e : canJ (.mk 2 1 s [] []) = trueT := by unfold canJ; rfl
          rw [e]; exact nrt_lit (by decide)
      · have e : canJ (.mk 3 n s [] []) = numT n := by unfold canJ; rfl
        rw [e]; exact nrt_num n
      · unfold goodA at hA; simp at hA
        have e : canJ (.mk 4 n s [] []) = quoT s := by unfold canJ; rfl
        rw [e]; exact nrt_quo hA.2
    · obtain rfl | rfl : k = 5 ∨ k = 6 := by omega
      · obtain ⟨rfl, rfl, rfl⟩ := goodA_list hA
        have e : canJ (.mk 5 0 [] kids []) = 91 :: canL false true kids [] ++ [93] := by unfold canJ; rfl
        rw [e]
        exact nrt_app (nrt_cons (by decide) hl) (nrt_lit (by decide))
      · obtain ⟨rfl, rfl, hlen, hko⟩ := goodA_obj hA
        have e : canJ (.mk 6 0 [] kids keys) = 123 :: canL true true kids keys ++ [125] := by unfold canJ; rfl
        rw [e]
        exact nrt_app (nrt_cons (by decide) (ho (fun _ => ⟨hlen.symm, (keysOk_iff.1 hko).1⟩))) (nrt_lit (by decide))
  termination_by v => SizeOf.sizeOf v
theorem nrt_canL : ∀ (kids : List JV) (keys : List (List UInt8)) (o f : Bool) (d : Nat), goodL d kids = true → (o = true → keys.length = kids.length ∧ ∀ t ∈ keys, txtOk t = true) → noNrt (canL o f kids keys)
  | [], _, _, _, _, _, _ => by rw [canL]; exact nrt_nil
  | x :: r, keys, o, f, d, hg, h => by
    unfold goodL at hg
    simp only [Bool.and_eq_true] at hg
    have h1 := nrt_can x d hg.1
    have h2 := fun hh => nrt_canL r keys.tail o false d hg.2 hh
    have h0 : noNrt (if f = true then ([] : List UInt8) else [44]) := by split <;> exact nrt_lit (by decide)
    rw [canL]
    cases o with
    | false => exact nrt_app h0 (nrt_app nrt_nil (nrt_app h1 (h2 (fun h => by cases h))))
    | true =>
      obtain ⟨hl, ht⟩ := h rfl
      cases keys with
      | nil => simp at hl
      | cons key ks =>
        exact nrt_app h0 (nrt_app (nrt_app (nrt_quo (ht key List.mem_cons_self)) (nrt_lit (by decide))) (nrt_app h1 (h2 (fun _ => ⟨by simpa using hl, fun t h' => ht t (List.mem_cons_of_mem _ h')⟩))))
  termination_by kids => SizeOf.sizeOf kids
end
end Go.Proofs.YtoejdhabpajhlaaGreatDoor
