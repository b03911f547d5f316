import Derived.Test.YtoejdhabpajhlaaDoorRef1
import Derived.Test.YtoejdhabpajhlaaDoorSpecUtf
/- The walks of the reference davenportref02: Digit, Four, Letter, Wrong. -/
namespace Go.Proofs.YtoejdhabpajhlaaDoor
set_option linter.unusedVariables false
set_option linter.unusedSimpArgs false
open Go.RowKit
attribute [local go_sem] run_index_arr run_part_agg run_part_one run_field_agg

set_option maxRecDepth 100000 in
set_option maxHeartbeats 1000000 in
theorem rHex_any (c : UInt8) (w : World) : Calls Tryd.prog 137 #[.int .u8 c.toNat] w fun e w' => e = .returned (.int .i64 (optI (hexv c))) ∧ w = w' := by
  obtain ⟨r, hr⟩ : ∃ r, optI (hexv c) = r := ⟨_, rfl⟩
  rw [hr]
  have HR := Lib.hid hr
  have hb := c.toNat_lt
  obtain ⟨q, hq⟩ : ∃ q, c.toNat = q := ⟨_, rfl⟩
  rw [hq] at hb ⊢
  have HQ := Lib.hid hq
  clear hr hq
  go_enter Tryd.func137, Tryd.ntmps137
  go_wp2
  all_goals
    go_ret
    refine ⟨ret_int ?_, rfl⟩
    rw [← HR.out]
    unfold hexv
    rw [HQ.out]
    first
      | (rw [if_pos (by omega)]; simp only [optI]; omega)
      | (rw [if_neg (by omega), if_pos (by omega)]; simp only [optI]; omega)
      | (rw [if_neg (by omega), if_neg (by omega), if_pos (by omega)]; simp only [optI]; omega)
      | (rw [if_neg (by omega), if_neg (by omega), if_neg (by omega)]; rfl)

set_option maxRecDepth 100000 in
set_option maxHeartbeats 1000000 in
theorem rWrong_any (v : Value) (l : List UInt8) (p : Nat) (w : World) (hv : BS w v l) (hl : l.length ≤ 4194304) (hp : p ≤ l.length) :
    Calls Tryd.prog 87 #[v, .int .i64 p] w fun e w' => e = .returned (.int .i64 (match l[p]? with | none => 6 | some c => if 128 ≤ c.toNat then 110 else 7)) ∧ w = w' := by
  obtain ⟨A, cap, rfl, hcap, hr⟩ := hv
  by_cases hlt : p < l.length
  · obtain ⟨c, hc⟩ : ∃ c, l[p]? = some c := ⟨_, List.getElem?_eq_getElem hlt⟩
    obtain ⟨b, o, rfl, hb⟩ := hr.some_ (by omega)
    have hx := BS.at_ (n := 0) (cap := 0) hr hc
    rw [hc]
    simp only
    clear hc
    have hne : ((p : Int) == (l.length : Int)) = false := by simp; omega
    by_cases h128 : 128 ≤ c.toNat
    · rw [if_pos h128]
      go_enter Tryd.func87, Tryd.ntmps87
      go_wp2
      go_ret
      exact ⟨rfl, rfl⟩
    · rw [if_neg h128]
      have h129 : c.toNat < 128 := by omega
      go_enter Tryd.func87, Tryd.ntmps87
      go_wp2
      go_ret
      exact ⟨rfl, rfl⟩
  · obtain rfl : p = l.length := by omega
    rw [List.getElem?_eq_none (Nat.le_refl _)]
    simp only
    go_enter Tryd.func87, Tryd.ntmps87
    go_wp2
    go_ret
    exact ⟨rfl, rfl⟩

set_option maxRecDepth 100000 in
set_option maxHeartbeats 2000000 in
theorem rFour_any (v : Value) (l : List UInt8) (w : World) (hv : BS w v l) (hl : l.length ≤ 4194304) :
    Calls Tryd.prog 120 #[v] w fun e w' => e = .returned (.int .i64 (unitI l 0)) ∧ w = w' := by
  obtain ⟨A, cap, rfl, hcap, hr⟩ := hv
  obtain ⟨r, hr0⟩ : ∃ r, unitI l 0 = r := ⟨_, rfl⟩
  rw [hr0]
  by_cases h6 : l.length < 6
  · have HR := Lib.hid (show r = -1 by rw [← hr0, unitI, unitO, if_pos (.inl (by omega))]; rfl)
    clear hr0
    go_enter Tryd.func120, Tryd.ntmps120
    go_wp2
    go_ret
    exact ⟨ret_int HR.out.symm, rfl⟩
  · obtain ⟨b, o, rfl, hb⟩ := hr.some_ (by omega)
    obtain ⟨c0, hc0⟩ : ∃ c, l[0]? = some c := ⟨_, List.getElem?_eq_getElem (by omega)⟩
    obtain ⟨c1, hc1⟩ : ∃ c, l[1]? = some c := ⟨_, List.getElem?_eq_getElem (by omega)⟩
    have hx0 := BS.at_ (n := 0) (cap := 0) hr hc0
    have hx1 := BS.at_ (n := 0) (cap := 0) hr hc1
    rw [Nat.add_zero] at hx0
    have hu : ∀ q : UInt8, ∀ n : Nat, n < 256 → q.toNat = n → q = UInt8.ofNat n := fun q n _ h => by rw [← h]; simp
    by_cases h92 : c0 = 92
    · subst h92
      by_cases h117 : c1 = 117
      · subst h117
        have hun : r = optI (hexs ((l.drop 2).take 4) 0) := by rw [← hr0, unitI, unitO, if_neg (by rw [hc0, hc1]; simp; omega)]
        have HUN := Lib.hid hun
        clear hr0 hun hc0 hc1 hu
        have h60 : (l.length : Int) < 6 → False := by omega
        go_enter Tryd.func120, Tryd.ntmps120
        go_wp2
        go_loopg [3, 4] 4 (fun gk s3 s4 wx => ∃ i n : Nat, 2 ≤ i ∧ i ≤ 6 ∧ gk = 6 - i ∧ s4 = .int .i64 i ∧ s3 = .int .i64 n ∧ n < 65536 ∧ n < 16 ^ (i - 2) ∧ Hid (r = optI (hexs ((l.drop i).take (6 - i)) n)) ∧ wx = w)
        case atStart => exact ⟨2, 0, by omega, by omega, rfl, rfl, rfl, by omega, by decide, HUN, rfl⟩
        case round =>
          obtain ⟨i, n, hi2, hi6, hgk, rfl, rfl, hn, hn16, HI, rfl⟩ := hrel
          have HG := Lib.hid hgk
          have HN16 := Lib.hid hn16
          clear hgk hn16
          by_cases hlt : i < 6
          · obtain ⟨c, hc⟩ : ∃ c, l[i]? = some c := ⟨_, List.getElem?_eq_getElem (by omega)⟩
            have hx := BS.at_ (n := 0) (cap := 0) hr hc
            have hd : (l.drop i).take (6 - i) = c :: (l.drop (i + 1)).take (6 - (i + 1)) := by
              obtain ⟨h1, h2⟩ := List.getElem?_eq_some_iff.1 hc
              rw [List.drop_eq_getElem_cons h1, h2, show 6 - i = (6 - (i + 1)) + 1 from by omega, List.take_succ_cons]
            have HD := Lib.hid hd
            have HH := Lib.hid (rHex_any c)
            cases hh : hexv c with
            | none =>
              rw [hh] at HH
              have HR := Lib.hid (show r = -1 by rw [HI.out, HD.out, hexs, hh]; rfl)
              simp only [optI] at HH
              clear hd hc hh
              go_wp2_with fail
              refine (HH.out _).mono ?_
              rintro e w1 ⟨rfl, rfl⟩
              go_wp2_with fail
              go_ret
              exact ⟨ret_int HR.out.symm, rfl⟩
            | some h =>
              rw [hh] at HH
              have hlt16 := hexv_lt hh
              have HR := Lib.hid (show r = optI (hexs ((l.drop (i + 1)).take (6 - (i + 1))) (n * 16 + h)) by rw [HI.out, HD.out, hexs, hh])
              have hn4 : n < 4096 := by
                have h1 := HN16.out
                have h2 : (16 : Nat) ^ (i - 2) ≤ 16 ^ 3 := Nat.pow_le_pow_right (by omega) (by omega)
                omega
              have hnx : n * 16 + h < 16 ^ (i + 1 - 2) := by
                have h1 := HN16.out
                rw [show i + 1 - 2 = (i - 2) + 1 from by omega, Nat.pow_succ]
                omega
              have HNX := Lib.hid hnx
              simp only [optI] at HH
              clear hd hc hh hnx
              go_wp2_with fail
              refine (HH.out _).mono ?_
              rintro e w1 ⟨rfl, rfl⟩
              go_wp2_with fail
              refine (HH.out _).mono ?_
              rintro e w1 ⟨rfl, rfl⟩
              go_wp2_with fail
              go_roundg (6 - (i + 1))
              case measure => rw [HG.out]; omega
              case rel => exact ⟨i + 1, n * 16 + h, by omega, by omega, rfl, by go_num, by go_num, by omega, HNX.out, HR, rfl⟩
          · obtain rfl : i = 6 := by omega
            have HR := Lib.hid (show r = n by rw [HI.out]; simp [hexs, optI])
            go_wp2
            go_ret
            exact ⟨ret_int HR.out.symm, rfl⟩
      · have HR := Lib.hid (show r = -1 by rw [← hr0, unitI, unitO, if_pos (.inr (.inr (by rw [hc1]; simpa using h117)))]; rfl)
        have hne : ((c1.toNat : Int) != 117) = true := by
          have : c1.toNat ≠ 117 := fun e => h117 (UInt8.toNat_inj.1 (by simpa using e))
          simp; omega
        clear hr0 hc0 hc1 hu
        go_enter Tryd.func120, Tryd.ntmps120
        go_wp2
        go_ret
        exact ⟨ret_int HR.out.symm, rfl⟩
    · have HR := Lib.hid (show r = -1 by rw [← hr0, unitI, unitO, if_pos (.inr (.inl (by rw [hc0]; simpa using h92)))]; rfl)
      have hne : ((c0.toNat : Int) != 92) = true := by
        have : c0.toNat ≠ 92 := fun e => h92 (UInt8.toNat_inj.1 (by simpa using e))
        simp; omega
      clear hr0 hc0 hc1 hu
      go_enter Tryd.func120, Tryd.ntmps120
      go_wp2
      go_ret
      exact ⟨ret_int HR.out.symm, rfl⟩
end Go.Proofs.YtoejdhabpajhlaaDoor

/- The walks of the reference davenportref02: Letter, Begin. -/
namespace Go.Proofs.YtoejdhabpajhlaaDoor
set_option linter.unusedVariables false
set_option linter.unusedSimpArgs false
open Go.RowKit
attribute [local go_sem] run_index_arr run_part_agg run_part_one run_field_agg

def signRow : List UInt8 := [34, 92, 47, 98, 102, 110, 114, 116]
def saysRow : List Nat := [34, 92, 47, 8, 12, 10, 13, 9]
theorem letterS_at {k : Nat} (hk : k < 8) {c : UInt8} (h : c = signRow.getD k 0) : letterS c.toNat = some (saysRow.getD k 0) := by
  subst h
  rcases (by omega : k = 0 ∨ k = 1 ∨ k = 2 ∨ k = 3 ∨ k = 4 ∨ k = 5 ∨ k = 6 ∨ k = 7) with rfl | rfl | rfl | rfl | rfl | rfl | rfl | rfl <;> rfl
theorem letterS_no {c : UInt8} (h : ∀ k, k < 8 → c ≠ signRow.getD k 0) : letterS c.toNat = none := by
  have key : ∀ n : Nat, ∀ u : UInt8, u.toNat = n → c.toNat = n → c = u := fun n u h1 h2 => UInt8.toNat_inj.1 (by omega)
  have g : ∀ k, k < 8 → ∀ n, (signRow.getD k 0).toNat = n → c.toNat ≠ n := fun k hk n hn e => h k hk (key n _ hn e)
  unfold letterS
  rw [if_neg (g 0 (by omega) 34 rfl), if_neg (g 1 (by omega) 92 rfl), if_neg (g 2 (by omega) 47 rfl), if_neg (g 3 (by omega) 98 rfl), if_neg (g 4 (by omega) 102 rfl), if_neg (g 5 (by omega) 110 rfl), if_neg (g 6 (by omega) 114 rfl), if_neg (g 7 (by omega) 116 rfl)]

set_option maxRecDepth 100000 in
set_option maxHeartbeats 2000000 in
theorem rLetterS_any (c : UInt8) (w : World) : Calls Tryd.prog 119 #[.int .u8 c.toNat] w fun e w' => e = .returned (.int .i64 (optI (letterS c.toNat))) ∧ Below w.heap.size w w' := by
  obtain ⟨r, hr⟩ : ∃ r, optI (letterS c.toNat) = r := ⟨_, rfl⟩
  rw [hr]
  have HR := Lib.hid hr
  clear hr
  go_enter Tryd.func119, Tryd.ntmps119
  go_wp2
  go_loopg [5] 8 (fun gk i wx => ∃ k : Nat, k ≤ 8 ∧ gk = 8 - k ∧ i = .int .i64 k ∧ Hid (∀ j, j < k → c ≠ signRow.getD j 0) ∧ wx = w.alloc (.cells #[.int .i64 34, .int .i64 92, .int .i64 47, .int .i64 8, .int .i64 12, .int .i64 10, .int .i64 13, .int .i64 9] 3))
  case atStart => exact ⟨0, by omega, rfl, rfl, Lib.hid (by intro j hj; omega), rfl⟩
  case round =>
    obtain ⟨k, hk, hgk, rfl, HN, rfl⟩ := hrel
    have HG := Lib.hid hgk
    clear hgk
    by_cases h8 : k = 8
    · subst h8
      have HF := Lib.hid (show r = -1 by rw [← HR.out, letterS_no (HN.out)]; rfl)
      go_wp2
      go_ret
      exact ⟨ret_int HF.out.symm, (Below.refl _ w).alloc (Nat.le_refl _) _⟩
    · have hk8 : k < 8 := by omega
      by_cases hc : c = signRow.getD k 0
      · have HF := Lib.hid (show r = (saysRow.getD k 0 : Nat) by rw [← HR.out, letterS_at hk8 hc]; rfl)
        rcases (by omega : k = 0 ∨ k = 1 ∨ k = 2 ∨ k = 3 ∨ k = 4 ∨ k = 5 ∨ k = 6 ∨ k = 7) with rfl | rfl | rfl | rfl | rfl | rfl | rfl | rfl
        all_goals
          subst hc
          simp only [signRow, saysRow, List.getD_cons_zero, List.getD_cons_succ] at HF ⊢
          go_wp2
          go_ret
          exact ⟨ret_int HF.out.symm, (Below.refl _ w).alloc (Nat.le_refl _) _⟩
      · have HN2 := Lib.hid (show ∀ j, j < k + 1 → c ≠ signRow.getD j 0 from fun j hj => by
          by_cases e : j = k
          · rw [e]; exact hc
          · exact HN.out j (by omega))
        have hq := c.toNat_lt
        rcases (by omega : k = 0 ∨ k = 1 ∨ k = 2 ∨ k = 3 ∨ k = 4 ∨ k = 5 ∨ k = 6 ∨ k = 7) with rfl | rfl | rfl | rfl | rfl | rfl | rfl | rfl
        · have HNE := Lib.hid (show (signRow.getD 0 0).toNat ≠ c.toNat from fun e => hc (UInt8.toNat_inj.1 e.symm))
          clear hc
          go_wp2
          all_goals first
            | (exfalso; have h := ‹((_ : Int) == (c.toNat : Int)) = true›; exact absurd (Int.natCast_inj.1 (beq_iff_eq.1 h)) HNE.out)
            | (go_roundg (8 - 1))
          case measure => rw [HG.out]; omega
          case rel => exact ⟨1, by omega, rfl, by go_num, HN2, rfl⟩
        · have HNE := Lib.hid (show (signRow.getD 1 0).toNat ≠ c.toNat from fun e => hc (UInt8.toNat_inj.1 e.symm))
          clear hc
          go_wp2
          all_goals first
            | (exfalso; have h := ‹((_ : Int) == (c.toNat : Int)) = true›; exact absurd (Int.natCast_inj.1 (beq_iff_eq.1 h)) HNE.out)
            | (go_roundg (8 - 2))
          case measure => rw [HG.out]; omega
          case rel => exact ⟨2, by omega, rfl, by go_num, HN2, rfl⟩
        · have HNE := Lib.hid (show (signRow.getD 2 0).toNat ≠ c.toNat from fun e => hc (UInt8.toNat_inj.1 e.symm))
          clear hc
          go_wp2
          all_goals first
            | (exfalso; have h := ‹((_ : Int) == (c.toNat : Int)) = true›; exact absurd (Int.natCast_inj.1 (beq_iff_eq.1 h)) HNE.out)
            | (go_roundg (8 - 3))
          case measure => rw [HG.out]; omega
          case rel => exact ⟨3, by omega, rfl, by go_num, HN2, rfl⟩
        · have HNE := Lib.hid (show (signRow.getD 3 0).toNat ≠ c.toNat from fun e => hc (UInt8.toNat_inj.1 e.symm))
          clear hc
          go_wp2
          all_goals first
            | (exfalso; have h := ‹((_ : Int) == (c.toNat : Int)) = true›; exact absurd (Int.natCast_inj.1 (beq_iff_eq.1 h)) HNE.out)
            | (go_roundg (8 - 4))
          case measure => rw [HG.out]; omega
          case rel => exact ⟨4, by omega, rfl, by go_num, HN2, rfl⟩
        · have HNE := Lib.hid (show (signRow.getD 4 0).toNat ≠ c.toNat from fun e => hc (UInt8.toNat_inj.1 e.symm))
          clear hc
          go_wp2
          all_goals first
            | (exfalso; have h := ‹((_ : Int) == (c.toNat : Int)) = true›; exact absurd (Int.natCast_inj.1 (beq_iff_eq.1 h)) HNE.out)
            | (go_roundg (8 - 5))
          case measure => rw [HG.out]; omega
          case rel => exact ⟨5, by omega, rfl, by go_num, HN2, rfl⟩
        · have HNE := Lib.hid (show (signRow.getD 5 0).toNat ≠ c.toNat from fun e => hc (UInt8.toNat_inj.1 e.symm))
          clear hc
          go_wp2
          all_goals first
            | (exfalso; have h := ‹((_ : Int) == (c.toNat : Int)) = true›; exact absurd (Int.natCast_inj.1 (beq_iff_eq.1 h)) HNE.out)
            | (go_roundg (8 - 6))
          case measure => rw [HG.out]; omega
          case rel => exact ⟨6, by omega, rfl, by go_num, HN2, rfl⟩
        · have HNE := Lib.hid (show (signRow.getD 6 0).toNat ≠ c.toNat from fun e => hc (UInt8.toNat_inj.1 e.symm))
          clear hc
          go_wp2
          all_goals first
            | (exfalso; have h := ‹((_ : Int) == (c.toNat : Int)) = true›; exact absurd (Int.natCast_inj.1 (beq_iff_eq.1 h)) HNE.out)
            | (go_roundg (8 - 7))
          case measure => rw [HG.out]; omega
          case rel => exact ⟨7, by omega, rfl, by go_num, HN2, rfl⟩
        · have HNE := Lib.hid (show (signRow.getD 7 0).toNat ≠ c.toNat from fun e => hc (UInt8.toNat_inj.1 e.symm))
          clear hc
          go_wp2
          all_goals first
            | (exfalso; have h := ‹((_ : Int) == (c.toNat : Int)) = true›; exact absurd (Int.natCast_inj.1 (beq_iff_eq.1 h)) HNE.out)
            | (go_roundg (8 - 8))
          case measure => rw [HG.out]; omega
          case rel => exact ⟨8, by omega, rfl, by go_num, HN2, rfl⟩

/-- what begins a row, as the reference reckons it: what the sign says, and its size; 0: none -/
def rB2 (l : List UInt8) : Nat × Nat :=
  match (if l[0]? = some 92 then l[1]?.bind (fun c => letterS c.toNat) else none) with
  | some x => (x, 2)
  | none =>
    match unitO l 0 with
    | some u =>
      if isCp (u : Int) then (u, 6) else if 55296 ≤ u ∧ u ≤ 56319 then
        match unitO l 6 with
        | some v => if 56320 ≤ v ∧ v ≤ 57343 then (65536 + 1024 * (u - 55296) + (v - 56320), 12) else (0, 0)
        | none => (0, 0)
      else if (cpBegin l).2 = 0 ∨ (cpBegin l).1 < 32 ∨ (cpBegin l).1 = 34 ∨ (cpBegin l).1 = 92 then (0, 0) else cpBegin l
    | none => if (cpBegin l).2 = 0 ∨ (cpBegin l).1 < 32 ∨ (cpBegin l).1 = 34 ∨ (cpBegin l).1 = 92 then (0, 0) else cpBegin l
end Go.Proofs.YtoejdhabpajhlaaDoor

/- The walk of the reference davenportref02: Begin. -/
namespace Go.Proofs.YtoejdhabpajhlaaDoor
set_option linter.unusedVariables false
set_option linter.unusedSimpArgs false
open Go.RowKit
attribute [local go_sem] run_index_arr run_part_agg run_part_one run_field_agg

theorem unitO_drop {l : List UInt8} {a : Nat} (h : a ≤ l.length) : unitO (l.drop a) 0 = unitO l a := by
  unfold unitO
  have e1 : ((l.drop a).length < 0 + 6 ∨ (l.drop a)[0]? ≠ some 92 ∨ (l.drop a)[0 + 1]? ≠ some 117) ↔ (l.length < a + 6 ∨ l[a]? ≠ some 92 ∨ l[a + 1]? ≠ some 117) := by
    rw [List.length_drop, List.getElem?_drop, List.getElem?_drop]
    simp only [Nat.add_zero, Nat.zero_add]
    constructor
    · rintro (h | h | h)
      · exact .inl (by omega)
      · exact .inr (.inl h)
      · exact .inr (.inr h)
    · rintro (h | h | h)
      · exact .inl (by omega)
      · exact .inr (.inl h)
      · exact .inr (.inr h)
  by_cases hc : l.length < a + 6 ∨ l[a]? ≠ some 92 ∨ l[a + 1]? ≠ some 117
  · rw [if_pos hc, if_pos (e1.2 hc)]
  · rw [if_neg hc, if_neg (fun h => hc (e1.1 h)), List.drop_drop]
theorem BS.dropN {w : World} {b o n cap : Nat} {l : List UInt8} (h : Rd w (some ⟨b, o, none⟩) (byteV l)) (hcap : l.length ≤ cap) (k : Nat) (hk : k ≤ l.length) : BS w (.slice (some ⟨b, o + k, none⟩) (l.length - k) (cap - k)) (l.drop k) := by
  refine ⟨_, _, by rw [List.length_drop], by rw [List.length_drop]; omega, ?_⟩
  have h1 := h.drop k
  have e : ((some (⟨b, o, none⟩ : Addr)).map fun a => a.add k) = some ⟨b, o + k, none⟩ := by
    simp only [Option.map_some, Option.some.injEq]; unfold Addr.add; split <;> simp_all
  rw [e] at h1
  simpa [byteV, List.map_drop] using h1

def tailB (l : List UInt8) : Nat × Nat := if (cpBegin l).2 = 0 ∨ (cpBegin l).1 < 32 ∨ (cpBegin l).1 = 34 ∨ (cpBegin l).1 = 92 then (0, 0) else cpBegin l
def unitB (l : List UInt8) : Nat × Nat :=
  match unitO l 0 with
  | some u =>
    if isCp (u : Int) then (u, 6) else if 55296 ≤ u ∧ u ≤ 56319 then
      match unitO l 6 with
      | some v => if 56320 ≤ v ∧ v ≤ 57343 then (65536 + 1024 * (u - 55296) + (v - 56320), 12) else (0, 0)
      | none => (0, 0)
    else tailB l
  | none => tailB l
theorem rB2_eq (l : List UInt8) : rB2 l = match (if l[0]? = some 92 then l[1]?.bind (fun c => letterS c.toNat) else none) with | some x => (x, 2) | none => unitB l := rfl

set_option maxRecDepth 100000 in
set_option maxHeartbeats 4000000 in
theorem rBegin2_any (v : Value) (l : List UInt8) (w : World) (hv : BS w v l) (hl : l.length ≤ 4194304) : Calls Tryd.prog 86 #[v] w (BeginPost (rB2 l) w) := by
  have HBS := Lib.hid hv
  obtain ⟨A, cap, rfl, hcap, hr⟩ := hv
  obtain ⟨r, hr0⟩ : ∃ r, rB2 l = r := ⟨_, rfl⟩
  rw [hr0]
  have hrr := rB2_eq l
  rw [hr0] at hrr
  cases hL : (if l[0]? = some 92 then l[1]?.bind (fun c => letterS c.toNat) else none) with
  | some x =>
    rw [hL] at hrr
    split at hL
    · rename_i h92
      obtain ⟨c1, hc1, hx⟩ := Option.bind_eq_some_iff.1 hL
      have hlt := (List.getElem?_eq_some_iff.1 hc1).1
      obtain ⟨b, o, rfl, hb⟩ := hr.some_ (by omega)
      have hx0 := BS.at_ (n := 0) (cap := 0) hr h92
      have hx1 := BS.at_ (n := 0) (cap := 0) hr hc1
      rw [Nat.add_zero] at hx0
      have HR := Lib.hid hrr
      have hS := fun w => rLetterS_any c1 w
      rw [hx] at hS
      simp only [optI] at hS
      have HS := Lib.hid hS
      clear hL hrr hr0 h92 hc1 hx hS
      go_enter Tryd.func86, Tryd.ntmps86
      go_wp2_with fail
      refine (HS.out _).mono ?_
      rintro e w1 ⟨rfl, hb1⟩
      have hx1' : w1.cell? ⟨b, o + 1, none⟩ = some (.int .u8 c1.toNat) := (hb1.cell (p := ⟨b, o + 1, none⟩) hb).trans hx1
      clear hx0 hx1
      go_wp2_with fail
      refine (HS.out _).mono ?_
      rintro e w2 ⟨rfl, hb2⟩
      go_wp2
      go_ret2
      rw [HR.out]
      exact ⟨rfl, hb1.trans (hb2.mono hb1.size)⟩
    · cases hL
  | none =>
    rw [hL] at hrr
    simp only at hrr
    have HR := Lib.hid hrr
    clear hrr hr0
    go_enter Tryd.func86, Tryd.ntmps86
    go_upto_region 1 with fail
    go_cut [23] (fun s23 wx => s23 = .bool false ∧ Below w.heap.size w wx)
    case first =>
      by_cases h1 : 1 < l.length
      · obtain ⟨b, o, rfl, hb⟩ := hr.some_ (by omega)
        obtain ⟨c0, hc0⟩ : ∃ c, l[0]? = some c := ⟨_, List.getElem?_eq_getElem (by omega)⟩
        obtain ⟨c1, hc1⟩ : ∃ c, l[1]? = some c := ⟨_, List.getElem?_eq_getElem h1⟩
        have hx0 := BS.at_ (n := 0) (cap := 0) hr hc0
        have hx1 := BS.at_ (n := 0) (cap := 0) hr hc1
        rw [Nat.add_zero] at hx0
        by_cases h92 : c0 = 92
        · subst h92
          have hln : letterS c1.toNat = none := by rw [hc0, hc1] at hL; simpa using hL
          have hS := fun w => rLetterS_any c1 w
          rw [hln] at hS
          simp only [optI] at hS
          have HS := Lib.hid hS
          clear hL hc0 hc1 hln hS
          go_wp2_with fail
          refine (HS.out _).mono ?_
          rintro e w1 ⟨rfl, hb1⟩
          go_wp2
          go_meet
          case rel => exact ⟨rfl, hb1⟩
        · have hne : ((c0.toNat : Int) == 92) = false := by
            have : c0.toNat ≠ 92 := fun e => h92 (UInt8.toNat_inj.1 (by simpa using e))
            simp; omega
          clear hL hc0 hc1
          go_wp2
          go_meet
          case rel => exact ⟨rfl, Below.refl _ _⟩
      · have h2 : (l.length : Int) ≤ 1 := by omega
        go_wp2
        go_meet
        case rel => exact ⟨rfl, Below.refl _ _⟩
    case rest =>
      obtain ⟨rfl, hbw⟩ := hcut
      have HV := Lib.hid (HBS.out.below hbw)
      have H4 := Lib.hid (rFour_any _ l wc HV.out hl)
      have HB := Lib.hid (fun wx (h : Below wc.heap.size wc wx) => rBegin_any _ l wx (HV.out.below h) hl)
      clear hL
      go_upto_if 31 with fail
      refine H4.out.mono ?_
      rintro e w1 ⟨rfl, rfl⟩
      obtain ⟨u, hu⟩ : ∃ u, unitI l 0 = u := ⟨_, rfl⟩
      rw [hu]
      have HU := Lib.hid hu
      have HI := Lib.hid (rIs_any u wc)
      obtain ⟨bi, hbi⟩ : ∃ b, isCp u = b := ⟨_, rfl⟩
      rw [hbi] at HI
      have HBI := Lib.hid hbi
      clear hu hbi H4
      go_upto_if 31 with fail
      refine HI.out.mono ?_
      rintro e w2 ⟨rfl, rfl⟩
      go_upto_if 31 with fail
      go_cut [] (fun wx => Hid (r = tailB l) ∧ wx = wc)
      case first =>
        cases hO : unitO l 0 with
        | none =>
          have hu : u = -1 := by rw [← HU.out, unitI, hO]; rfl
          subst hu
          have hbf : bi = false := by rw [← HBI.out]; decide
          subst hbf
          have HRT := Lib.hid (show r = tailB l by rw [HR.out, unitB, hO])
          clear hO
          go_wp2
          go_meet
          case rel => exact ⟨HRT, rfl⟩
        | some n =>
          have hu : u = (n : Int) := by rw [← HU.out, unitI, hO]; rfl
          have hn6 : 0 + 6 ≤ l.length := (unitO_lt hO).2
          cases hbi : bi with
          | true =>
            have HRT := Lib.hid (show r = (n, 6) by rw [HR.out, unitB, hO]; simp only; rw [← hu, HBI.out, hbi]; simp)
            subst hbi
            clear hO
            have HUU := Lib.hid hu
            clear hu
            go_wp2
            go_ret2
            rw [HRT.out, HUU.out]
            exact ⟨rfl, hbw⟩
          | false =>
            by_cases hhi : 55296 ≤ u ∧ u ≤ 56319
            · obtain ⟨hh1, hh2⟩ := hhi
              obtain ⟨b, o, rfl, hb⟩ := hr.some_ (by omega)
              have hrw : Rd wc (some ⟨b, o, none⟩) (byteV l) := hr.below hbw
              have hru : r = match unitO l 6 with | some v => if 56320 ≤ v ∧ v ≤ 57343 then (65536 + 1024 * (n - 55296) + (v - 56320), 12) else (0, 0) | none => (0, 0) := by
                rw [HR.out, unitB, hO]
                simp only
                rw [← hu, HBI.out, hbi, if_neg (by simp), if_pos (by omega)]
              have HRU := Lib.hid hru
              have HUU := Lib.hid hu
              subst hbi
              clear hO hu hru
              have hcapne : ¬ cap = 6 ∨ cap = 6 := by omega
              have hF : Calls Tryd.prog 120 #[.slice (if cap = 6 then some ⟨b, o, none⟩ else some ⟨b, o + 6, none⟩) (l.length - 6) (cap - 6)] wc fun e w' => e = .returned (.int .i64 (unitI l 6)) ∧ wc = w' := by
                have hbs : BS wc (.slice (if cap = 6 then some ⟨b, o, none⟩ else some ⟨b, o + 6, none⟩) (l.length - 6) (cap - 6)) (l.drop 6) := by
                  split
                  · refine ⟨_, _, by rw [List.length_drop], by rw [List.length_drop]; omega, ?_⟩
                    rw [List.drop_eq_nil_of_le (by omega)]
                    exact Rd.nil
                  · exact BS.dropN (n := 0) hrw hcap 6 (by omega)
                have := rFour_any _ (l.drop 6) wc hbs (by rw [List.length_drop]; omega)
                have e : unitI (l.drop 6) 0 = unitI l 6 := by unfold unitI; rw [unitO_drop hn6]
                rw [e] at this
                exact this
              obtain ⟨v6, hv6⟩ : ∃ v, unitI l 6 = v := ⟨_, rfl⟩
              rw [hv6] at hF
              have HF := Lib.hid hF
              have HV6 := Lib.hid hv6
              clear hF hv6 hcapne
              have hl6 : 6 ≤ l.length := hn6
              by_cases hlo : 56320 ≤ v6 ∧ v6 ≤ 57343
              · obtain ⟨hl1, hl2⟩ := hlo
                have hres : r = ((65536 + 1024 * (u - 55296) + (v6 - 56320)).toNat, 12) := by
                  cases hO6 : unitO l 6 with
                  | none =>
                    have : v6 = -1 := by rw [← HV6.out, unitI, hO6]; rfl
                    omega
                  | some m =>
                    have hm : v6 = (m : Int) := by rw [← HV6.out, unitI, hO6]; rfl
                    have h1 := HUU.out
                    rw [HRU.out, hO6]; simp only; rw [if_pos (by omega)]
                    refine Prod.ext ?_ rfl
                    show _ = ((65536 + 1024 * (u - 55296) + (v6 - 56320)).toNat : Nat)
                    omega
                have HRT := Lib.hid hres
                have hz : ((65536 + 1024 * (u - 55296) + (v6 - 56320)).toNat : Int) = 65536 + 1024 * (u - 55296) + (v6 - 56320) := Int.toNat_of_nonneg (by omega)
                have HZ := Lib.hid (show Ending.returned (.tuple #[.int .i64 (65536 + 1024 * (u - 55296) + (v6 - 56320)), .int .i64 12]) = Ending.returned (.tuple #[.int .i64 ((65536 + 1024 * (u - 55296) + (v6 - 56320)).toNat : Nat), .int .i64 ((12 : Nat) : Int)]) by rw [hz]; rfl)
                clear hres hz
                by_cases hc6 : cap = 6
                · skip
                  rw [if_pos hc6, show cap - 6 = 0 from by omega] at HF
                  go_wp2_with fail
                  refine HF.out.mono ?_
                  rintro e w3 ⟨rfl, rfl⟩
                  go_wp2
                  go_ret2
                  rw [HRT.out]
                  exact ⟨HZ.out, hbw⟩
                · skip
                  rw [if_neg hc6] at HF
                  go_wp2_with fail
                  refine HF.out.mono ?_
                  rintro e w3 ⟨rfl, rfl⟩
                  go_wp2
                  go_ret2
                  rw [HRT.out]
                  exact ⟨HZ.out, hbw⟩
              · have HRT := Lib.hid (show r = (0, 0) by
                  rw [HRU.out]
                  cases hO6 : unitO l 6 with
                  | none => rfl
                  | some m =>
                    have hm : v6 = (m : Int) := by rw [← HV6.out, unitI, hO6]; rfl
                    simp only
                    rw [if_neg (by omega)])
                have hg : (56320 ≤ v6 ∧ 57343 < v6) ∨ v6 < 56320 := by omega
                clear hlo
                rcases hg with ⟨hg1, hg2⟩ | hg2
                · by_cases hc6 : cap = 6
                  · skip
                    rw [if_pos hc6, show cap - 6 = 0 from by omega] at HF
                    go_wp2_with fail
                    refine HF.out.mono ?_
                    rintro e w3 ⟨rfl, rfl⟩
                    go_wp2
                    go_ret2
                    rw [HRT.out]
                    exact ⟨rfl, hbw⟩
                  · skip
                    rw [if_neg hc6] at HF
                    go_wp2_with fail
                    refine HF.out.mono ?_
                    rintro e w3 ⟨rfl, rfl⟩
                    go_wp2
                    go_ret2
                    rw [HRT.out]
                    exact ⟨rfl, hbw⟩
                · by_cases hc6 : cap = 6
                  · skip
                    rw [if_pos hc6, show cap - 6 = 0 from by omega] at HF
                    go_wp2_with fail
                    refine HF.out.mono ?_
                    rintro e w3 ⟨rfl, rfl⟩
                    go_wp2
                    go_ret2
                    rw [HRT.out]
                    exact ⟨rfl, hbw⟩
                  · skip
                    rw [if_neg hc6] at HF
                    go_wp2_with fail
                    refine HF.out.mono ?_
                    rintro e w3 ⟨rfl, rfl⟩
                    go_wp2
                    go_ret2
                    rw [HRT.out]
                    exact ⟨rfl, hbw⟩
            · have HRT := Lib.hid (show r = tailB l by
                rw [HR.out, unitB, hO]
                simp only
                rw [← hu, HBI.out, hbi, if_neg (by simp), if_neg (by omega)])
              subst hbi
              clear hO hu
              by_cases hg1 : 55296 ≤ u
              · have hg2 : 56319 < u := by omega
                clear hhi
                go_wp2
                go_meet
                case rel => exact ⟨HRT, rfl⟩
              · have hg2 : u < 55296 := by omega
                clear hhi
                go_wp2
                go_meet
                case rel => exact ⟨HRT, rfl⟩
      case rest =>
        obtain ⟨HRT, rfl⟩ := hcut
        obtain ⟨⟨p, n⟩, hpn⟩ : ∃ x, cpBegin l = x := ⟨_, rfl⟩
        have hB := HB.out wc (Below.refl _ _)
        rw [hpn] at hB
        have hrt : r = if n = 0 ∨ p < 32 ∨ p = 34 ∨ p = 92 then (0, 0) else (p, n) := by rw [HRT.out, tailB, hpn]
        have HB2 := Lib.hid hB
        have HRR := Lib.hid hrt
        clear hB hrt hpn
        go_wp2_with fail
        refine HB2.out.mono ?_
        rintro e w3 ⟨rfl, hb3⟩
        obtain ⟨q, hq⟩ : ∃ q : Int, (p : Int) = q := ⟨_, rfl⟩
        obtain ⟨m, hm⟩ : ∃ m : Int, (n : Int) = m := ⟨_, rfl⟩
        simp only
        rw [hq, hm]
        have HQ := Lib.hid hq
        have HM := Lib.hid hm
        have hq0 : 0 ≤ q := by omega
        have hm0 : 0 ≤ m := by omega
        clear hq hm
        by_cases g1 : m = 0
        · have HF := Lib.hid (show r = (0, 0) by rw [HRR.out, if_pos (.inl (by have := HM.out; omega))])
          have gb : (m == 0) = true := by simpa using g1
          clear g1
          go_wp2
          go_ret2
          rw [HF.out]
          exact ⟨rfl, hbw.trans (hb3.mono hbw.size)⟩
        · have gb : (m == 0) = false := by simpa using g1
          by_cases g2 : q < 32
          · have HF := Lib.hid (show r = (0, 0) by rw [HRR.out, if_pos (.inr (.inl (by have := HQ.out; omega)))])
            clear g1
            go_wp2
            go_ret2
            rw [HF.out]
            exact ⟨rfl, hbw.trans (hb3.mono hbw.size)⟩
          · have g2' : 32 ≤ q := by omega
            by_cases g3 : q = 34
            · have HF := Lib.hid (show r = (0, 0) by rw [HRR.out, if_pos (.inr (.inr (.inl (by have := HQ.out; omega))))])
              have gb3 : (q == 34) = true := by simpa using g3
              clear g1 g2 g3
              go_wp2
              go_ret2
              rw [HF.out]
              exact ⟨rfl, hbw.trans (hb3.mono hbw.size)⟩
            · have gb3 : (q == 34) = false := by simpa using g3
              by_cases g4 : q = 92
              · have HF := Lib.hid (show r = (0, 0) by rw [HRR.out, if_pos (.inr (.inr (.inr (by have := HQ.out; omega))))])
                have gb4 : (q == 92) = true := by simpa using g4
                clear g1 g2 g3 g4
                go_wp2
                go_ret2
                rw [HF.out]
                exact ⟨rfl, hbw.trans (hb3.mono hbw.size)⟩
              · have gb4 : (q == 92) = false := by simpa using g4
                have HF := Lib.hid (show r = (p, n) by
                  rw [HRR.out, if_neg]
                  have h1 := HQ.out
                  have h2 := HM.out
                  rintro (h | h | h | h) <;> omega)
                clear g1 g2 g3 g4
                go_wp2
                go_ret2
                rw [HF.out]
                exact ⟨by simp only; rw [HQ.out, HM.out]; rfl, hbw.trans (hb3.mono hbw.size)⟩
end Go.Proofs.YtoejdhabpajhlaaDoor
