/- The walk of the reference's numerals. -/
import Derived.Test.YtoejdhabpajhlaaGreatDoorRef6a
import Derived.Test.YtoejdhabpajhlaaGreatDoorWrtV
namespace Go.Proofs.YtoejdhabpajhlaaGreatDoor
set_option linter.unusedVariables false
set_option linter.unusedSimpArgs false
open Go.RowKit
attribute [local go_sem] run_index_arr run_part_agg run_part_one run_field_agg

theorem ba_app (a b : List UInt8) : (⟨a.toArray⟩ : ByteArray) ++ ⟨b.toArray⟩ = ⟨(a ++ b).toArray⟩ := by apply str_ext; simp [sl]
theorem ret_app {a b c : List UInt8} (h : a ++ b = c) : Ending.returned (.string ((⟨a.toArray⟩ : ByteArray) ++ ⟨b.toArray⟩)) = .returned (.string ⟨c.toArray⟩) := by rw [ba_app, h]
theorem numT_nat (N : Nat) : numT (N : Int) = natD N := by unfold numT; rw [if_neg (by omega), Int.natAbs_natCast]
theorem numT_neg (N : Nat) (h : 0 < N) : numT (-(N : Int)) = 45 :: natD N := by unfold numT; rw [if_pos (by omega), Int.natAbs_neg, Int.natAbs_natCast]
def msr (n : Int) : Nat := 2 * n.natAbs + (if n < 0 then 1 else 0)
theorem msr_neg {n : Int} (h : n < 0) : msr n = 2 * n.natAbs + 1 := by unfold msr; rw [if_pos h]
theorem msr_pos {n : Int} (h : ¬ n < 0) : msr n = 2 * n.natAbs := by unfold msr; rw [if_neg h]; omega
theorem msr_le (n : Int) : msr n ≤ 2 * n.natAbs + 1 := by unfold msr; split <;> omega
set_option maxRecDepth 100000 in
set_option maxHeartbeats 4000000 in
theorem rNumStep (n : Int) (hn : iw n) (ih : ∀ m : Int, iw m → msr m < msr n → ∀ w, Calls Tryz.prog 28 #[.int .i64 m] w (StrS (numT m) w)) (w : World) : Calls Tryz.prog 28 #[.int .i64 n] w (StrS (numT n) w) := by
  unfold iw at hn
  by_cases h0 : n < 0
  · obtain ⟨N, rfl⟩ : ∃ N : Nat, n = -(N : Int) := ⟨n.natAbs, by omega⟩
    rw [msr_neg h0] at ih
    by_cases h1 : -10 < -(N : Int)
    · have HI := Lib.hid (fun w => ih (N : Int) (by unfold iw; omega) (by rw [msr_pos (by omega)]; omega) w)
      have hw : IntKind.i64.wrap (-(-(N : Int))) = (N : Int) := by rw [IntKind.wrap_i64]; omega
      have HF := Lib.hid (show [45] ++ numT (N : Int) = numT (-(N : Int)) by rw [numT_nat, numT_neg N (by omega)]; rfl)
      have hlb := numT_le (n := (N : Int)) (by unfold iw; omega)
      clear ih
      go_enter Tryz.func28, Tryz.ntmps28
      go_wp2_with fail
      refine (HI.out _).mono ?_
      rintro e w1 ⟨rfl, hb1⟩
      go_wp2
      go_ret
      exact ⟨ret_app HF.out, hb1⟩
    · have h1' : -(N : Int) ≤ -10 := by omega
      have e1 : (-(N : Int)).tdiv 10 = -((N / 10 : Nat) : Int) := by rw [Int.neg_tdiv]; congr 1
      have e2 : (-(N : Int)).tmod 10 = -((N % 10 : Nat) : Int) := by rw [Int.neg_tmod]; congr 1
      have HI1 := Lib.hid (fun w => ih (-((N / 10 : Nat) : Int)) (by unfold iw; omega) (by have := msr_le (-((N / 10 : Nat) : Int)); omega) w)
      have HI2 := Lib.hid (fun w => ih ((N % 10 : Nat) : Int) (by unfold iw; omega) (by have := msr_le ((N % 10 : Nat) : Int); omega) w)
      have HF := Lib.hid (show numT (-((N / 10 : Nat) : Int)) ++ numT ((N % 10 : Nat) : Int) = numT (-(N : Int)) by
        rw [numT_nat, numT_neg N (by omega), numT_neg (N / 10) (by omega), natD_step (show 10 ≤ N by omega), natD_small (show N % 10 < 10 by omega)]; rfl)
      obtain ⟨T1, hT1⟩ : ∃ T, numT (-((N / 10 : Nat) : Int)) = T := ⟨_, rfl⟩
      obtain ⟨T2, hT2⟩ : ∃ T, numT ((N % 10 : Nat) : Int) = T := ⟨_, rfl⟩
      have hl1 : T1.length ≤ 20 := by rw [← hT1]; exact numT_le (by unfold iw; omega)
      have hl2 : T2.length ≤ 20 := by rw [← hT2]; exact numT_le (by unfold iw; omega)
      rw [hT1] at HI1 HF
      rw [hT2] at HI2 HF
      rw [← e1] at HI1
      have e3 : ((N % 10 : Nat) : Int) = -((-(N : Int)).tmod 10) := by rw [e2]; omega
      rw [e3] at HI2
      obtain ⟨n, hn9⟩ : ∃ n : Int, n = -(N : Int) := ⟨_, rfl⟩
      rw [← hn9] at HI1 HI2 HF h0 h1' hn h1 ⊢
      have hw : IntKind.i64.wrap (-(n.tmod 10)) = -(n.tmod 10) := by rw [hn9, ← e3, IntKind.wrap_i64]; omega
      clear ih hn9 e1 e2 e3 hT1 hT2
      go_enter Tryz.func28, Tryz.ntmps28
      go_wp2_with fail
      refine (HI1.out _).mono ?_
      rintro e w1 ⟨rfl, hb1⟩
      go_wp2_with fail
      refine (HI2.out _).mono ?_
      rintro e w2 ⟨rfl, hb2⟩
      go_wp2
      go_ret
      exact ⟨ret_app HF.out, hb1.trans (hb2.mono hb1.size)⟩
  · obtain ⟨N, rfl⟩ : ∃ N : Nat, n = (N : Int) := ⟨n.toNat, by omega⟩
    rw [msr_pos h0] at ih
    by_cases h10 : (N : Int) < 10
    · have hd := natD_small (show N < 10 by omega)
      have h48 := oN8 (48 + N) (by omega)
      have hbs := BS.lit w (natD N) #[.int .u8 (48 + (N : Int))] (by rw [hd]; simp only [byteV, List.map_cons, List.map_nil, h48]; rfl) 1 (by rw [hd]; rfl)
      have hcv := hbs.conv
      rw [← numT_nat] at hcv
      clear ih hbs hd h48
      go_enter Tryz.func28, Tryz.ntmps28
      go_wp2
      go_ret
      exact ⟨rfl, (Below.refl _ w).alloc (Nat.le_refl _) _⟩
    · have HI1 := Lib.hid (fun w => ih ((N / 10 : Nat) : Int) (by unfold iw; omega) (by have := msr_le ((N / 10 : Nat) : Int); omega) w)
      have HI2 := Lib.hid (fun w => ih ((N % 10 : Nat) : Int) (by unfold iw; omega) (by have := msr_le ((N % 10 : Nat) : Int); omega) w)
      have HF := Lib.hid (show numT ((N / 10 : Nat) : Int) ++ numT ((N % 10 : Nat) : Int) = numT (N : Int) by
        rw [numT_nat, numT_nat, numT_nat, natD_step (show 10 ≤ N by omega), natD_small (show N % 10 < 10 by omega)])
      obtain ⟨T1, hT1⟩ : ∃ T, numT ((N / 10 : Nat) : Int) = T := ⟨_, rfl⟩
      obtain ⟨T2, hT2⟩ : ∃ T, numT ((N % 10 : Nat) : Int) = T := ⟨_, rfl⟩
      have hl1 : T1.length ≤ 20 := by rw [← hT1]; exact numT_le (by unfold iw; omega)
      have hl2 : T2.length ≤ 20 := by rw [← hT2]; exact numT_le (by unfold iw; omega)
      rw [hT1] at HI1 HF
      rw [hT2] at HI2 HF
      rw [show ((N / 10 : Nat) : Int) = (N : Int) / 10 by omega] at HI1
      rw [show ((N % 10 : Nat) : Int) = (N : Int) % 10 by omega] at HI2
      clear ih hT1 hT2
      go_enter Tryz.func28, Tryz.ntmps28
      go_wp2_with fail
      refine (HI1.out _).mono ?_
      rintro e w1 ⟨rfl, hb1⟩
      go_wp2_with fail
      refine (HI2.out _).mono ?_
      rintro e w2 ⟨rfl, hb2⟩
      go_wp2
      go_ret
      exact ⟨ret_app HF.out, hb1.trans (hb2.mono hb1.size)⟩
theorem rNumAll : ∀ (K : Nat) (n : Int), iw n → msr n < K → ∀ w, Calls Tryz.prog 28 #[.int .i64 n] w (StrS (numT n) w)
  | 0, _, _, h, _ => absurd h (Nat.not_lt_zero _)
  | K + 1, n, hn, h, w => rNumStep n hn (fun m hm h' => rNumAll K m hm (by omega)) w
theorem rNum (n : Int) (hn : iw n) (w : World) : Calls Tryz.prog 28 #[.int .i64 n] w (StrS (numT n) w) := rNumAll _ n hn (Nat.lt_succ_self _) w
end Go.Proofs.YtoejdhabpajhlaaGreatDoor
