import Derived.Test.YtoejdhabpajhlaaGreatDoorRef1
import Derived.Test.YtoejdhabpajhlaaGreatDoorSpecUtf
/- The walks of the reference davenportref02: Digit, Four, Letter, Wrong. -/
namespace Go.Proofs.YtoejdhabpajhlaaGreatDoor
set_option linter.unusedVariables false
set_option linter.unusedSimpArgs false
open Go.RowKit
attribute [local go_sem] run_index_arr run_part_agg run_part_one run_field_agg

end Go.Proofs.YtoejdhabpajhlaaGreatDoor

/- The walks of the reference davenportref02: Letter, Begin. -/
namespace Go.Proofs.YtoejdhabpajhlaaGreatDoor
set_option linter.unusedVariables false
set_option linter.unusedSimpArgs false
open Go.RowKit
attribute [local go_sem] run_index_arr run_part_agg run_part_one run_field_agg

def signRow : List UInt8 := [34, 92, 47, 98, 102, 110, 114, 116]
def saysRow : List Nat := [34, 92, 47, 8, 12, 10, 13, 9]
theorem letterS_at {k : Nat} (hk : k < 8) {c : UInt8} (h : c = signRow.getD k 0) : letterS c.toNat = some (saysRow.getD k 0) := by
  subst h
  rcases (by omega : k = 0 ∨ k = 1 ∨ k = 2 ∨ k = 3 ∨ k = 4 ∨ k = 5 ∨ k = 6 ∨ k = 7) with rfl | rfl | rfl | rfl | rfl | rfl | rfl | rfl <;> rfl
theorem letterS_no {c : UInt8} (h : ∀ k, k < 8 → c ≠ signRow.getD k 0) : letterS c.toNat = none := by
  have key : ∀ n : Nat, ∀ u : UInt8, u.toNat = n → c.toNat = n → c = u := fun n u h1 h2 => UInt8.toNat_inj.1 (by omega)
  have g : ∀ k, k < 8 → ∀ n, (signRow.getD k 0).toNat = n → c.toNat ≠ n := fun k hk n hn e => h k hk (key n _ hn e)
  unfold letterS
  rw [if_neg (g 0 (by omega) 34 rfl), if_neg (g 1 (by omega) 92 rfl), if_neg (g 2 (by omega) 47 rfl), if_neg (g 3 (by omega) 98 rfl), if_neg (g 4 (by omega) 102 rfl), if_neg (g 5 (by omega) 110 rfl), if_neg (g 6 (by omega) 114 rfl), if_neg (g 7 (by omega) 116 rfl)]

set_option maxRecDepth 100000 in
set_option maxHeartbeats 2000000 in
theorem rLetterS_any (c : UInt8) (w : World) : Calls Tryz.prog 81 #[.int .u8 c.toNat] w fun e w' => e = .returned (.int .i64 (optI (letterS c.toNat))) ∧ Below w.heap.size w w' := by
  obtain ⟨r, hr⟩ : ∃ r, optI (letterS c.toNat) = r := ⟨_, rfl⟩
  rw [hr]
  have HR := Lib.hid hr
  clear hr
  go_enter Tryz.func81, Tryz.ntmps81
  go_wp2
  go_loopg [5] 8 (fun gk i wx => ∃ k : Nat, k ≤ 8 ∧ gk = 8 - k ∧ i = .int .i64 k ∧ Hid (∀ j, j < k → c ≠ signRow.getD j 0) ∧ wx = w.alloc (.cells #[.int .i64 34, .int .i64 92, .int .i64 47, .int .i64 8, .int .i64 12, .int .i64 10, .int .i64 13, .int .i64 9] 3))
  case atStart => exact ⟨0, by omega, rfl, rfl, Lib.hid (by intro j hj; omega), rfl⟩
  case round =>
    obtain ⟨k, hk, hgk, rfl, HN, rfl⟩ := hrel
    have HG := Lib.hid hgk
    clear hgk
    by_cases h8 : k = 8
    · subst h8
      have HF := Lib.hid (show r = -1 by rw [← HR.out, letterS_no (HN.out)]; rfl)
      go_wp2
      go_ret
      exact ⟨ret_int HF.out.symm, (Below.refl _ w).alloc (Nat.le_refl _) _⟩
    · have hk8 : k < 8 := by omega
      by_cases hc : c = signRow.getD k 0
      · have HF := Lib.hid (show r = (saysRow.getD k 0 : Nat) by rw [← HR.out, letterS_at hk8 hc]; rfl)
        rcases (by omega : k = 0 ∨ k = 1 ∨ k = 2 ∨ k = 3 ∨ k = 4 ∨ k = 5 ∨ k = 6 ∨ k = 7) with rfl | rfl | rfl | rfl | rfl | rfl | rfl | rfl
        all_goals
          subst hc
          simp only [signRow, saysRow, List.getD_cons_zero, List.getD_cons_succ] at HF ⊢
          go_wp2
          go_ret
          exact ⟨ret_int HF.out.symm, (Below.refl _ w).alloc (Nat.le_refl _) _⟩
      · have HN2 := Lib.hid (show ∀ j, j < k + 1 → c ≠ signRow.getD j 0 from fun j hj => by
          by_cases e : j = k
          · rw [e]; exact hc
          · exact HN.out j (by omega))
        have hq := c.toNat_lt
        rcases (by omega : k = 0 ∨ k = 1 ∨ k = 2 ∨ k = 3 ∨ k = 4 ∨ k = 5 ∨ k = 6 ∨ k = 7) with rfl | rfl | rfl | rfl | rfl | rfl | rfl | rfl
        · have HNE := Lib.hid (show (signRow.getD 0 0).toNat ≠ c.toNat from fun e => hc (UInt8.toNat_inj.1 e.symm))
          clear hc
          go_wp2
          all_goals first
            | (exfalso; have h := ‹((_ : Int) == (c.toNat : Int)) = true›; exact absurd (Int.natCast_inj.1 (beq_iff_eq.1 h)) HNE.out)
            | (go_roundg (8 - 1))
          case measure => rw [HG.out]; omega
          case rel => exact ⟨1, by omega, rfl, by go_num, HN2, rfl⟩
        · have HNE := Lib.hid (show (signRow.getD 1 0).toNat ≠ c.toNat from fun e => hc (UInt8.toNat_inj.1 e.symm))
          clear hc
          go_wp2
          all_goals first
            | (exfalso; have h := ‹((_ : Int) == (c.toNat : Int)) = true›; exact absurd (Int.natCast_inj.1 (beq_iff_eq.1 h)) HNE.out)
            | (go_roundg (8 - 2))
          case measure => rw [HG.out]; omega
          case rel => exact ⟨2, by omega, rfl, by go_num, HN2, rfl⟩
        · have HNE := Lib.hid (show (signRow.getD 2 0).toNat ≠ c.toNat from fun e => hc (UInt8.toNat_inj.1 e.symm))
          clear hc
          go_wp2
          all_goals first
            | (exfalso; have h := ‹((_ : Int) == (c.toNat : Int)) = true›; exact absurd (Int.natCast_inj.1 (beq_iff_eq.1 h)) HNE.out)
            | (go_roundg (8 - 3))
          case measure => rw [HG.out]; omega
          case rel => exact ⟨3, by omega, rfl, by go_num, HN2, rfl⟩
        · have HNE := Lib.hid (show (signRow.getD 3 0).toNat ≠ c.toNat from fun e => hc (UInt8.toNat_inj.1 e.symm))
          clear hc
          go_wp2
          all_goals first
            | (exfalso; have h := ‹((_ : Int) == (c.toNat : Int)) = true›; exact absurd (Int.natCast_inj.1 (beq_iff_eq.1 h)) HNE.out)
            | (go_roundg (8 - 4))
          case measure => rw [HG.out]; omega
          case rel => exact ⟨4, by omega, rfl, by go_num, HN2, rfl⟩
        · have HNE := Lib.hid (show (signRow.getD 4 0).toNat ≠ c.toNat from fun e => hc (UInt8.toNat_inj.1 e.symm))
          clear hc
          go_wp2
          all_goals first
            | (exfalso; have h := ‹((_ : Int) == (c.toNat : Int)) = true›; exact absurd (Int.natCast_inj.1 (beq_iff_eq.1 h)) HNE.out)
            | (go_roundg (8 - 5))
          case measure => rw [HG.out]; omega
          case rel => exact ⟨5, by omega, rfl, by go_num, HN2, rfl⟩
        · have HNE := Lib.hid (show (signRow.getD 5 0).toNat ≠ c.toNat from fun e => hc (UInt8.toNat_inj.1 e.symm))
          clear hc
          go_wp2
          all_goals first
            | (exfalso; have h := ‹((_ : Int) == (c.toNat : Int)) = true›; exact absurd (Int.natCast_inj.1 (beq_iff_eq.1 h)) HNE.out)
            | (go_roundg (8 - 6))
          case measure => rw [HG.out]; omega
          case rel => exact ⟨6, by omega, rfl, by go_num, HN2, rfl⟩
        · have HNE := Lib.hid (show (signRow.getD 6 0).toNat ≠ c.toNat from fun e => hc (UInt8.toNat_inj.1 e.symm))
          clear hc
          go_wp2
          all_goals first
            | (exfalso; have h := ‹((_ : Int) == (c.toNat : Int)) = true›; exact absurd (Int.natCast_inj.1 (beq_iff_eq.1 h)) HNE.out)
            | (go_roundg (8 - 7))
          case measure => rw [HG.out]; omega
          case rel => exact ⟨7, by omega, rfl, by go_num, HN2, rfl⟩
        · have HNE := Lib.hid (show (signRow.getD 7 0).toNat ≠ c.toNat from fun e => hc (UInt8.toNat_inj.1 e.symm))
          clear hc
          go_wp2
          all_goals first
            | (exfalso; have h := ‹((_ : Int) == (c.toNat : Int)) = true›; exact absurd (Int.natCast_inj.1 (beq_iff_eq.1 h)) HNE.out)
            | (go_roundg (8 - 8))
          case measure => rw [HG.out]; omega
          case rel => exact ⟨8, by omega, rfl, by go_num, HN2, rfl⟩

/-- what begins a row, as the reference reckons it: what the sign says, and its size; 0: none -/
def rB2 (l : List UInt8) : Nat × Nat :=
  match (if l[0]? = some 92 then l[1]?.bind (fun c => letterS c.toNat) else none) with
  | some x => (x, 2)
  | none =>
    match unitO l 0 with
    | some u =>
      if isCp (u : Int) then (u, 6) else if 55296 ≤ u ∧ u ≤ 56319 then
        match unitO l 6 with
        | some v => if 56320 ≤ v ∧ v ≤ 57343 then (65536 + 1024 * (u - 55296) + (v - 56320), 12) else (0, 0)
        | none => (0, 0)
      else if (cpBegin l).2 = 0 ∨ (cpBegin l).1 < 32 ∨ (cpBegin l).1 = 34 ∨ (cpBegin l).1 = 92 then (0, 0) else cpBegin l
    | none => if (cpBegin l).2 = 0 ∨ (cpBegin l).1 < 32 ∨ (cpBegin l).1 = 34 ∨ (cpBegin l).1 = 92 then (0, 0) else cpBegin l
end Go.Proofs.YtoejdhabpajhlaaGreatDoor

/- The walk of the reference davenportref02: Begin. -/
namespace Go.Proofs.YtoejdhabpajhlaaGreatDoor
set_option linter.unusedVariables false
set_option linter.unusedSimpArgs false
open Go.RowKit
attribute [local go_sem] run_index_arr run_part_agg run_part_one run_field_agg

theorem unitO_drop {l : List UInt8} {a : Nat} (h : a ≤ l.length) : unitO (l.drop a) 0 = unitO l a := by
  unfold unitO
  have e1 : ((l.drop a).length < 0 + 6 ∨ (l.drop a)[0]? ≠ some 92 ∨ (l.drop a)[0 + 1]? ≠ some 117) ↔ (l.length < a + 6 ∨ l[a]? ≠ some 92 ∨ l[a + 1]? ≠ some 117) := by
    rw [List.length_drop, List.getElem?_drop, List.getElem?_drop]
    simp only [Nat.add_zero, Nat.zero_add]
    constructor
    · rintro (h | h | h)
      · exact .inl (by omega)
      · exact .inr (.inl h)
      · exact .inr (.inr h)
    · rintro (h | h | h)
      · exact .inl (by omega)
      · exact .inr (.inl h)
      · exact .inr (.inr h)
  by_cases hc : l.length < a + 6 ∨ l[a]? ≠ some 92 ∨ l[a + 1]? ≠ some 117
  · rw [if_pos hc, if_pos (e1.2 hc)]
  · rw [if_neg hc, if_neg (fun h => hc (e1.1 h)), List.drop_drop]
theorem BS.dropN {w : World} {b o n cap : Nat} {l : List UInt8} (h : Rd w (some ⟨b, o, none⟩) (byteV l)) (hcap : l.length ≤ cap) (k : Nat) (hk : k ≤ l.length) : BS w (.slice (some ⟨b, o + k, none⟩) (l.length - k) (cap - k)) (l.drop k) := by
  refine ⟨_, _, by rw [List.length_drop], by rw [List.length_drop]; omega, ?_⟩
  have h1 := h.drop k
  have e : ((some (⟨b, o, none⟩ : Addr)).map fun a => a.add k) = some ⟨b, o + k, none⟩ := by
    simp only [Option.map_some, Option.some.injEq]; unfold Addr.add; split <;> simp_all
  rw [e] at h1
  simpa [byteV, List.map_drop] using h1

def tailB (l : List UInt8) : Nat × Nat := if (cpBegin l).2 = 0 ∨ (cpBegin l).1 < 32 ∨ (cpBegin l).1 = 34 ∨ (cpBegin l).1 = 92 then (0, 0) else cpBegin l
def unitB (l : List UInt8) : Nat × Nat :=
  match unitO l 0 with
  | some u =>
    if isCp (u : Int) then (u, 6) else if 55296 ≤ u ∧ u ≤ 56319 then
      match unitO l 6 with
      | some v => if 56320 ≤ v ∧ v ≤ 57343 then (65536 + 1024 * (u - 55296) + (v - 56320), 12) else (0, 0)
      | none => (0, 0)
    else tailB l
  | none => tailB l
theorem rB2_eq (l : List UInt8) : rB2 l = match (if l[0]? = some 92 then l[1]?.bind (fun c => letterS c.toNat) else none) with | some x => (x, 2) | none => unitB l := rfl

end Go.Proofs.YtoejdhabpajhlaaGreatDoor
