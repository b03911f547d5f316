/- Plain: texts, keys in memory, the nodes of a value. -/
import Derived.Test.YtoejdhabpajhlaaDoorRightP
import Derived.Test.YtoejdhabpajhlaaDoorVal
namespace Go.Proofs.YtoejdhabpajhlaaDoor
set_option linter.unusedVariables false
set_option linter.unusedSimpArgs false
open Go.RowKit

theorem oN8 (n : Nat) (h : n < 256) : (UInt8.ofNat n).toNat = n := by
  have : (UInt8.ofNat n).toNat = n % 256 := by simp
  rw [this]; omega
theorem cpBegin_bytes (c : Nat) (r : List UInt8) (h : isCp (c : Int) = true) : cpBegin (cpBytes c ++ r) = (c, (cpBytes c).length) ∧ 1 ≤ (cpBytes c).length ∧ (cpBytes c).length ≤ 4 := by
  have hc := (isCp_iff c).1 h
  by_cases h1 : c < 128
  · obtain ⟨c0, e0, h0⟩ : ∃ c0 : UInt8, UInt8.ofNat c = c0 ∧ c0.toNat = c := ⟨_, rfl, oN8 _ (by omega)⟩
    have e : cpBytes c = [c0] := by unfold cpBytes; rw [if_pos h1, e0]
    rw [e, List.cons_append, List.nil_append, begin_1 ((ok1 c0 r).2 (by omega))]
    refine ⟨?_, by simp, by simp⟩
    have : cpNum (c0 :: r) 1 = c0.toNat := by simp [cpNum]
    rw [this, h0]; rfl
  by_cases h2 : c < 2048
  · obtain ⟨c0, e0, h0⟩ : ∃ c0 : UInt8, UInt8.ofNat (192 + c / 64) = c0 ∧ c0.toNat = 192 + c / 64 := ⟨_, rfl, oN8 _ (by omega)⟩
    obtain ⟨c1, e1, k1⟩ : ∃ c1 : UInt8, UInt8.ofNat (128 + c % 64) = c1 ∧ c1.toNat = 128 + c % 64 := ⟨_, rfl, oN8 _ (by omega)⟩
    have e : cpBytes c = [c0, c1] := by unfold cpBytes; rw [if_neg h1, if_pos h2, e0, e1]
    have n1 : cpOk (c0 :: c1 :: r) 1 = false := by rw [Bool.eq_false_iff, Ne, ok1]; omega
    rw [e]
    show cpBegin (c0 :: c1 :: r) = _ ∧ _
    rw [begin_2 n1 ((ok2 c0 c1 r).2 (by omega))]
    refine ⟨?_, by simp, by simp⟩
    have : cpNum (c0 :: c1 :: r) 2 = c0.toNat % 32 * 64 + c1.toNat % 64 := by simp [cpNum]
    rw [this, h0, k1]
    show (_, 2) = (_, 2)
    congr 1; omega
  by_cases h3 : c < 65536
  · obtain ⟨c0, e0, h0⟩ : ∃ c0 : UInt8, UInt8.ofNat (224 + c / 4096) = c0 ∧ c0.toNat = 224 + c / 4096 := ⟨_, rfl, oN8 _ (by omega)⟩
    obtain ⟨c1, e1, k1⟩ : ∃ c1 : UInt8, UInt8.ofNat (128 + c / 64 % 64) = c1 ∧ c1.toNat = 128 + c / 64 % 64 := ⟨_, rfl, oN8 _ (by omega)⟩
    obtain ⟨c2, e2, k2⟩ : ∃ c2 : UInt8, UInt8.ofNat (128 + c % 64) = c2 ∧ c2.toNat = 128 + c % 64 := ⟨_, rfl, oN8 _ (by omega)⟩
    have e : cpBytes c = [c0, c1, c2] := by unfold cpBytes; rw [if_neg h1, if_neg h2, if_pos h3, e0, e1, e2]
    have n1 : cpOk (c0 :: c1 :: c2 :: r) 1 = false := by rw [Bool.eq_false_iff, Ne, ok1]; omega
    have n2 : cpOk (c0 :: c1 :: c2 :: r) 2 = false := no2 _ _ (by omega)
    rw [e]
    show cpBegin (c0 :: c1 :: c2 :: r) = _ ∧ _
    rw [begin_3 n1 n2 ((ok3 c0 c1 c2 r).2 (by omega))]
    refine ⟨?_, by simp, by simp⟩
    have : cpNum (c0 :: c1 :: c2 :: r) 3 = (c0.toNat % 16 * 64 + c1.toNat % 64) * 64 + c2.toNat % 64 := by simp [cpNum]
    rw [this, h0, k1, k2]
    show (_, 3) = (_, 3)
    congr 1; omega
  · obtain ⟨c0, e0, h0⟩ : ∃ c0 : UInt8, UInt8.ofNat (240 + c / 262144) = c0 ∧ c0.toNat = 240 + c / 262144 := ⟨_, rfl, oN8 _ (by omega)⟩
    obtain ⟨c1, e1, k1⟩ : ∃ c1 : UInt8, UInt8.ofNat (128 + c / 4096 % 64) = c1 ∧ c1.toNat = 128 + c / 4096 % 64 := ⟨_, rfl, oN8 _ (by omega)⟩
    obtain ⟨c2, e2, k2⟩ : ∃ c2 : UInt8, UInt8.ofNat (128 + c / 64 % 64) = c2 ∧ c2.toNat = 128 + c / 64 % 64 := ⟨_, rfl, oN8 _ (by omega)⟩
    obtain ⟨c3, e3, k3⟩ : ∃ c3 : UInt8, UInt8.ofNat (128 + c % 64) = c3 ∧ c3.toNat = 128 + c % 64 := ⟨_, rfl, oN8 _ (by omega)⟩
    have e : cpBytes c = [c0, c1, c2, c3] := by unfold cpBytes; rw [if_neg h1, if_neg h2, if_neg h3, e0, e1, e2, e3]
    have n1 : cpOk (c0 :: c1 :: c2 :: c3 :: r) 1 = false := by rw [Bool.eq_false_iff, Ne, ok1]; omega
    have n2 : cpOk (c0 :: c1 :: c2 :: c3 :: r) 2 = false := no2 _ _ (by omega)
    have n3 : cpOk (c0 :: c1 :: c2 :: c3 :: r) 3 = false := no3 _ _ (by omega)
    rw [e]
    show cpBegin (c0 :: c1 :: c2 :: c3 :: r) = _ ∧ _
    rw [begin_4 n1 n2 n3 ((ok4 c0 c1 c2 c3 r).2 (by omega))]
    refine ⟨?_, by simp, by simp⟩
    have : cpNum (c0 :: c1 :: c2 :: c3 :: r) 4 = ((c0.toNat % 8 * 64 + c1.toNat % 64) * 64 + c2.toNat % 64) * 64 + c3.toNat % 64 := by simp [cpNum]
    rw [this, h0, k1, k2, k3]
    show (_, 4) = (_, 4)
    congr 1; omega
theorem cps_len {cs : List Nat} (h : ∀ c ∈ cs, isCp (c : Int) = true) : cs.length ≤ (cs.flatMap cpBytes).length ∧ (cs.flatMap cpBytes).length ≤ 4 * cs.length := by
  induction cs with
  | nil => simp
  | cons c r ih =>
    have h1 := cpBegin_bytes c [] (h c List.mem_cons_self)
    have h2 := ih (fun x hx => h x (List.mem_cons_of_mem _ hx))
    rw [List.flatMap_cons, List.length_append, List.length_cons]
    omega
theorem strV_cell {W : World} {b o : Nat} {ks : List (List UInt8)} {n : Nat} (h : RdF W (fun _ => True) (some ⟨b, o, none⟩) (strV ks)) {i : Nat} {t : List UInt8} (hx : ks[i]? = some t) : W.cell? ⟨b, o + i, none⟩ = some (.string ⟨t.toArray⟩) := by
  have hkl := List.getElem?_eq_some_iff.1 hx
  obtain ⟨b', o', e, _, _, hc⟩ := h (by intro e; have h := strV_len ks; rw [e] at h; have := hkl.1; simp at h; omega)
  injection e with e; injection e with e1 e2
  subst e1; subst e2
  rw [hc i (by rw [strV_len]; exact hkl.1)]
  simp [strV, hkl.2]
theorem strV_some {W : World} {F : Nat → Prop} {A : Option Addr} {ks : List (List UInt8)} (h : RdF W F A (strV ks)) (hx : 0 < ks.length) : ∃ b o, A = some ⟨b, o, none⟩ ∧ b < W.heap.size := by
  obtain ⟨b, o, e, hb, _⟩ := h (by intro e; have h := strV_len ks; rw [e] at h; simp at h; omega)
  exact ⟨b, o, e, hb⟩
theorem nodesJ_pos (v : JV) : 1 ≤ nodesJ v := by cases v; unfold nodesJ; omega
theorem nodesL_len : ∀ xs : List JV, xs.length ≤ nodesL xs
  | [] => Nat.zero_le _
  | x :: r => by have := nodesL_len r; have := nodesJ_pos x; rw [nodesL, List.length_cons]; omega
theorem nodesL_at {xs : List JV} {i : Nat} {x : JV} (h : xs[i]? = some x) : nodesL (xs.take (i + 1)) = nodesL (xs.take i) + nodesJ x ∧ nodesL (xs.take i) + nodesJ x ≤ nodesL xs := by
  have e : nodesL (xs.take (i + 1)) = nodesL (xs.take i) + nodesJ x := by rw [List.take_add_one, h, nodesL_app]; show _ + nodesL [x] = _; rw [nodesL, nodesL]; omega
  refine ⟨e, ?_⟩
  have := nodesL_app (xs.take (i + 1)) (xs.drop (i + 1))
  rw [List.take_append_drop] at this
  omega
end Go.Proofs.YtoejdhabpajhlaaDoor
