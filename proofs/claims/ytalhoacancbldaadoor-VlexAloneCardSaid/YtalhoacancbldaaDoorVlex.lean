/- The walks of package vlex: kinds of bytes, words. -/
import Derived.Test.YtalhoacancbldaaDoorQuote8
import Derived.Test.YtalhoacancbldaaDoorNum5
namespace Go.Proofs.YtalhoacancbldaaDoor
set_option linter.unusedVariables false
set_option linter.unusedSimpArgs false
open Go.RowKit
attribute [local go_sem] run_index_arr run_part_agg run_part_one run_field_agg

theorem letter_any (q : Nat) (w : World) : Calls Tryd.prog 44 #[.int .u8 q] w fun e w' => e = .returned (.bool (decide (97 ≤ q ∧ q ≤ 122))) ∧ w = w' := by
  go_enter Tryd.func44, Tryd.ntmps44
  go_wp2
  all_goals
    go_ret
    exact ⟨ret_bool (by rw [Bool.eq_iff_iff]; simp; try omega), rfl⟩
theorem digit_any (q : Nat) (w : World) : Calls Tryd.prog 45 #[.int .u8 q] w fun e w' => e = .returned (.bool (decide (48 ≤ q ∧ q ≤ 57))) ∧ w = w' := by
  go_enter Tryd.func45, Tryd.ntmps45
  go_wp2
  all_goals
    go_ret
    exact ⟨ret_bool (by rw [Bool.eq_iff_iff]; simp; try omega), rfl⟩
theorem mark_any (q : Nat) (w : World) : Calls Tryd.prog 68 #[.int .u8 q] w fun e w' => e = .returned (.bool (decide (q = 34))) ∧ w = w' := by
  go_enter Tryd.func68, Tryd.ntmps68
  go_wp2
  go_ret
  exact ⟨ret_bool (by rw [Bool.eq_iff_iff]; simp; omega), rfl⟩
theorem every_any (q : Nat) (w : World) : Calls Tryd.prog 70 #[.int .u8 q] w fun e w' => e = .returned (.bool true) ∧ w = w' := by
  go_enter Tryd.func70, Tryd.ntmps70
  go_wp2
  go_ret
  exact ⟨rfl, rfl⟩

theorem str_of_eq {a b : ByteArray} (h : (a.toList == b.toList) = true) : a = b := by
  have : a.toList = b.toList := by simpa using h
  rw [ByteArray.toList_eq, ByteArray.toList_eq] at this
  exact str_ext this
theorem str_of_ne {a b : ByteArray} (h : (a.toList == b.toList) = false) : a ≠ b := by rintro rfl; simp at h

def wordsL : List (List UInt8) := [[101, 109, 105, 116], [105, 102], [101, 108, 115, 101], [102, 111, 114], [105, 110], [111, 114], [97, 110, 100], [110, 111, 116], [115, 105, 122, 101], [107, 105, 110, 100], [116, 114, 117, 101], [102, 97, 108, 115, 101], [110, 117, 108, 108]]
def wordsV : Value := .agg (wordsL.map fun l => Value.string ⟨l.toArray⟩).toArray
set_option maxRecDepth 100000 in
set_option maxHeartbeats 1000000 in
theorem words_any (w : World) : Calls Tryd.prog 46 #[] w fun e w' => e = .returned wordsV ∧ Below w.heap.size w w' := by
  go_enter Tryd.func46, Tryd.ntmps46
  go_wp2
  go_returns
  exact ⟨rfl, by go_grown⟩

theorem words_at (k : Nat) (h : k < 13) (w : World) : (Instr.index 72 wordsV (.int .i64 (k : Int))).run Tryd.prog w = .ok (.string ⟨(wordsL.getD k []).toArray⟩) w := by
  rcases (by omega : k = 0 ∨ k = 1 ∨ k = 2 ∨ k = 3 ∨ k = 4 ∨ k = 5 ∨ k = 6 ∨ k = 7 ∨ k = 8 ∨ k = 9 ∨ k = 10 ∨ k = 11 ∨ k = 12) with rfl | rfl | rfl | rfl | rfl | rfl | rfl | rfl | rfl | rfl | rfl | rfl | rfl <;> kernel_rfl
/-- is a text a word? -/
def isWord (l : List UInt8) : Bool := decide (l ∈ wordsL)

set_option maxRecDepth 100000 in
set_option maxHeartbeats 1000000 in
theorem Word_any (s : ByteArray) (w : World) : Calls Tryd.prog 22 #[.string s] w fun e w' => e = .returned (.bool (isWord (sl s))) ∧ Below w.heap.size w w' := by
  go_enter Tryd.func22, Tryd.ntmps22
  go_wp2_with (go_at_call 46; refine (words_any _).mono ?_; rintro e w1 ⟨rfl, hb⟩)
  go_loopw [4, 6] (fun _ i wr => ∃ k : Nat, k ≤ 13 ∧ i = .int .i64 k ∧ wr = w1 ∧ ∀ j, j < k → wordsL.getD j [] ≠ sl s) (fun _ i _ => 13 - (intOf i).toNat)
  case atStart => exact ⟨0, by omega, rfl, rfl, by intro j hj; omega⟩
  case round =>
    obtain ⟨k, hk, rfl, rfl, hno⟩ := hrel
    have HN := Lib.hid hno
    clear hno
    by_cases h13 : k < 13
    · have hix := words_at k h13 wr
      obtain ⟨x, hx⟩ : ∃ x : ByteArray, ⟨(wordsL.getD k []).toArray⟩ = x := ⟨_, rfl⟩
      rw [hx] at hix
      have HX := Lib.hid hx
      clear hx
      go_wp2
      · have hq : x = s := str_of_eq ‹(x.toList == s.toList) = true›
        go_ret
        refine ⟨ret_bool ?_, hb⟩
        have : sl s ∈ wordsL := by
          rw [← hq, ← HX.out, sl_mk, List.getD_eq_getElem?_getD, List.getElem?_eq_getElem (show k < wordsL.length from h13)]
          exact List.getElem_mem _
        simp [isWord, this]
      · have hq : x ≠ s := str_of_ne ‹(x.toList == s.toList) = false›
        go_roundw
        case rel =>
          refine ⟨k + 1, by omega, by go_num, trivial, ?_⟩
          intro j hj
          by_cases hjk : j = k
          · rw [hjk]
            intro e
            exact hq (by rw [← HX.out, e])
          · exact HN.out j (by omega)
        case measure => simp [intOf]; omega
    · obtain rfl : k = 13 := by omega
      go_wp2
      go_ret
      refine ⟨ret_bool ?_, hb⟩
      have : sl s ∉ wordsL := fun hm => by
        obtain ⟨j, hj, e⟩ := List.getElem_of_mem hm
        exact HN.out j hj (by rw [List.getD_eq_getElem?_getD, List.getElem?_eq_getElem hj]; exact e)
      simp [isWord, this]
end Go.Proofs.YtalhoacancbldaaDoor
