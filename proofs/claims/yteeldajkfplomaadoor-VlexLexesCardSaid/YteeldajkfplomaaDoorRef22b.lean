/- The walks of the reference davenportref22: Word, Name. -/
import Derived.Test.YteeldajkfplomaaDoorRef22
import Derived.Test.YteeldajkfplomaaDoorVlex2
namespace Go.Proofs.YteeldajkfplomaaDoor
set_option linter.unusedVariables false
set_option linter.unusedSimpArgs false
open Go.RowKit
attribute [local go_sem] run_index_arr run_part_agg run_part_one run_field_agg

def wordRow : List UInt8 := [101, 109, 105, 116, 32, 105, 102, 32, 101, 108, 115, 101, 32, 102, 111, 114, 32, 105, 110, 32, 111, 114, 32, 97, 110, 100, 32, 110, 111, 116, 32, 115, 105, 122, 101, 32, 107, 105, 110, 100, 32, 116, 114, 117, 101, 32, 102, 97, 108, 115, 101, 32, 110, 117, 108, 108]
theorem wordRow_split : splitB wordRow [] = wordsL := by decide
def letterRow : List UInt8 := [97, 98, 99, 100, 101, 102, 103, 104, 105, 106, 107, 108, 109, 110, 111, 112, 113, 114, 115, 116, 117, 118, 119, 120, 121, 122]
def digitRow : List UInt8 := [48, 49, 50, 51, 52, 53, 54, 55, 56, 57]
theorem u8_all {p : UInt8 → Bool} (h : (List.range 256).all (fun n => p (UInt8.ofNat n)) = true) (c : UInt8) : p c = true := by
  have := List.all_eq_true.1 h c.toNat (List.mem_range.2 c.toNat_lt)
  simpa using this
theorem letterRow_is (c : UInt8) : letterRow.contains c = isLetter c := by
  have := u8_all (p := fun c => letterRow.contains c == isLetter c) (by decide +kernel) c
  simpa using this
theorem digitRow_is (c : UInt8) : digitRow.contains c = isDig c := by
  have := u8_all (p := fun c => digitRow.contains c == isDig c) (by decide +kernel) c
  simpa using this
theorem rLetter_any (c : UInt8) (w : World) : Calls Tryd.prog 19 #[.int .u8 c.toNat, .string ⟨#[97, 98, 99, 100, 101, 102, 103, 104, 105, 106, 107, 108, 109, 110, 111, 112, 113, 114, 115, 116, 117, 118, 119, 120, 121, 122]⟩] w fun e w' => e = .returned (.bool (isLetter c)) ∧ w = w' := by
  have := rOne_any c ⟨letterRow.toArray⟩ w (by decide)
  rw [sl_mk, letterRow_is] at this
  exact this
theorem rDigit_any (c : UInt8) (w : World) : Calls Tryd.prog 19 #[.int .u8 c.toNat, .string ⟨#[48, 49, 50, 51, 52, 53, 54, 55, 56, 57]⟩] w fun e w' => e = .returned (.bool (isDig c)) ∧ w = w' := by
  have := rOne_any c ⟨digitRow.toArray⟩ w (by decide)
  rw [sl_mk, digitRow_is] at this
  exact this

set_option maxRecDepth 100000 in
set_option maxHeartbeats 1000000 in
theorem rWord_any (s : ByteArray) (w : World) : Calls Tryd.prog 16 #[.string s] w fun e w' => e = .returned (.bool (isWord (sl s))) ∧ w = w' := by
  have h := rAmong_any s ⟨wordRow.toArray⟩ w (by decide)
  rw [sl_mk, wordRow_split] at h
  have H := Lib.hid (show Calls Tryd.prog 24 #[.string s, .string ⟨wordRow.toArray⟩] w fun e w' => e = .returned (.bool (isWord (sl s))) ∧ w = w' from h)
  clear h
  obtain ⟨b, hb⟩ : ∃ b, isWord (sl s) = b := ⟨_, rfl⟩
  rw [hb] at H ⊢
  clear hb
  unfold wordRow at H
  go_enter Tryd.func16, Tryd.ntmps16
  go_wp2_with fail
  refine H.out.mono ?_
  rintro e w1 ⟨rfl, rfl⟩
  go_wp2_with fail
  go_ret
  exact ⟨rfl, rfl⟩

set_option maxRecDepth 100000 in
set_option maxHeartbeats 2000000 in
theorem rName_any (s : ByteArray) (w : World) : Calls Tryd.prog 14 #[.string s] w fun e w' => e = .returned (.bool (isName s)) ∧ w = w' := by
  have HW := Lib.hid (rWord_any s)
  have HL := Lib.hid rLetter_any
  have HD := Lib.hid rDigit_any
  by_cases h1 : s.size < 1
  · have HN := Lib.hid (show isName s = false by rw [isName, decide_eq_false (show ¬ (1 ≤ s.size ∧ s.size ≤ 12) by omega)]; simp)
    go_enter Tryd.func14, Tryd.ntmps14
    go_wp2
    go_ret
    exact ⟨ret_bool HN.out.symm, rfl⟩
  · by_cases h2 : 12 < s.size
    · have HN := Lib.hid (show isName s = false by rw [isName, decide_eq_false (show ¬ (1 ≤ s.size ∧ s.size ≤ 12) by omega)]; simp)
      go_enter Tryd.func14, Tryd.ntmps14
      go_wp2
      go_ret
      exact ⟨ret_bool HN.out.symm, rfl⟩
    · cases hw : isWord (sl s) with
      | true =>
        have HN := Lib.hid (show isName s = false by rw [isName, hw]; simp)
        rw [hw] at HW
        clear hw
        go_enter Tryd.func14, Tryd.ntmps14
        go_wp2_with (go_at_call 16; refine (HW.out _).mono ?_; rintro e w1 ⟨rfl, rfl⟩)
        go_ret
        exact ⟨ret_bool HN.out.symm, rfl⟩
      | false =>
        have hN0 : isName s = nameFrom 0 (sl s) := by rw [isName, hw, decide_eq_true (show 1 ≤ s.size ∧ s.size ≤ 12 by omega)]; simp
        rw [hw] at HW
        have h0 : 0 < s.size := by omega
        have hd0 : sl s = s[0] :: (sl s).drop 1 := by
          have := List.drop_eq_getElem_cons (l := sl s) (i := 0) (by rw [sl_len]; exact h0)
          rw [List.drop_zero] at this
          exact this
        obtain ⟨c, hc⟩ : ∃ c, s[0] = c := ⟨_, rfl⟩
        rw [hc] at hd0
        cases hl : isLetter c with
        | false =>
          have HN := Lib.hid (show isName s = false by rw [hN0, hd0, nameFrom, hl]; simp)
          have HC := Lib.hid (HL.out c)
          rw [hl] at HC
          clear hw hN0 hd0 hl HL
          go_enter Tryd.func14, Tryd.ntmps14
          go_wp2_with (first | (go_at_call 16; refine (HW.out _).mono ?_; rintro e w1 ⟨rfl, rfl⟩) | (go_at_call 19; refine (HC.out _).mono ?_; rintro e w1 ⟨rfl, rfl⟩))
          go_ret
          exact ⟨ret_bool HN.out.symm, rfl⟩
        | true =>
          have hN1 : isName s = nameFrom 1 ((sl s).drop 1) := by rw [hN0, hd0, nameFrom, hl]; simp
          obtain ⟨b, hb⟩ : ∃ b, isName s = b := ⟨_, rfl⟩
          rw [hb] at hN1 ⊢
          have HN1 := Lib.hid hN1
          have HC := Lib.hid (HL.out c)
          rw [hl] at HC
          have hs12 : s.size ≤ 12 := by omega
          clear hw hN0 hd0 hl hN1 hb h1 h2
          go_enter Tryd.func14, Tryd.ntmps14
          go_wp2_with (first | (go_at_call 16; refine (HW.out _).mono ?_; rintro e w1 ⟨rfl, rfl⟩) | (go_at_call 19; refine (HC.out _).mono ?_; rintro e w1 ⟨rfl, rfl⟩))
          clear hc
          go_loopw [3] (fun i wr => ∃ k : Nat, k ≤ s.size ∧ 1 ≤ k ∧ i = .int .i64 k ∧ wr = w ∧ Hid (b = nameFrom k ((sl s).drop k))) (fun i _ => s.size - (intOf i).toNat)
          case atStart => exact ⟨1, by omega, by omega, rfl, rfl, HN1⟩
          case round =>
            obtain ⟨k, hk, hk1, rfl, rfl, hrb⟩ := hrel
            by_cases hlt : k < s.size
            · have hd : (sl s).drop k = s[k] :: (sl s).drop (k + 1) := List.drop_eq_getElem_cons (by rw [sl_len]; exact hlt)
              obtain ⟨x, hx⟩ : ∃ x, s[k] = x := ⟨_, rfl⟩
              rw [hx] at hd
              cases hxl : isLetter x with
              | true =>
                have HX := Lib.hid (HL.out x)
                rw [hxl] at HX
                have HR := Lib.hid (show b = nameFrom (k + 1) ((sl s).drop (k + 1)) by rw [hrb.out, hd, nameFrom, hxl]; simp)
                clear hd hxl hrb
                go_wp2_with (go_at_call 19; refine (HX.out _).mono ?_; rintro e w1 ⟨rfl, rfl⟩)
                go_roundw
                case rel => exact ⟨k + 1, hlt, by omega, by go_num, by trivial, HR⟩
                case measure => simp [intOf]; omega
              | false =>
                have HX := Lib.hid (HL.out x)
                rw [hxl] at HX
                cases hxd : isDig x with
                | true =>
                  have HY := Lib.hid (HD.out x)
                  rw [hxd] at HY
                  have HR := Lib.hid (show b = nameFrom (k + 1) ((sl s).drop (k + 1)) by rw [hrb.out, hd, nameFrom, hxl, hxd, decide_eq_true (show 0 < k by omega)]; simp)
                  clear hd hxl hrb hxd
                  go_wp2_with fail
                  refine (HX.out _).mono ?_
                  rintro e w1 ⟨rfl, rfl⟩
                  go_wp2_with fail
                  refine (HY.out _).mono ?_
                  rintro e w1 ⟨rfl, rfl⟩
                  go_wp2_with fail
                  go_roundw
                  case rel => exact ⟨k + 1, hlt, by omega, by go_num, by trivial, HR⟩
                  case measure => simp [intOf]; omega
                | false =>
                  have HY := Lib.hid (HD.out x)
                  rw [hxd] at HY
                  have HR := Lib.hid (show b = false by rw [hrb.out, hd, nameFrom, hxl, hxd]; simp)
                  clear hd hxl hrb hxd
                  go_wp2_with fail
                  refine (HX.out _).mono ?_
                  rintro e w1 ⟨rfl, rfl⟩
                  go_wp2_with fail
                  refine (HY.out _).mono ?_
                  rintro e w1 ⟨rfl, rfl⟩
                  go_wp2_with fail
                  go_ret
                  exact ⟨ret_bool HR.out.symm, rfl⟩
            · obtain rfl : k = s.size := by omega
              have HR := Lib.hid (show b = true by rw [hrb.out, List.drop_eq_nil_of_le (by rw [sl_len]; exact Nat.le_refl _), nameFrom])
              clear hrb
              go_wp2
              go_ret
              exact ⟨ret_bool HR.out.symm, rfl⟩
end Go.Proofs.YteeldajkfplomaaDoor
