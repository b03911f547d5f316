/- The walk of ParseBlanks' closure: a row of white space. -/
import Derived.Test.YtalhoacancbldaaDoorBlank
import Derived.Test.YtalhoacancbldaaDoorParse18
namespace Go.Proofs.YtalhoacancbldaaDoor
set_option linter.unusedVariables false
set_option linter.unusedSimpArgs false
open Go.RowKit
attribute [local go_sem] run_index_arr run_part_agg run_part_one run_field_agg

def RowPost (w : World) (e : Ending) (w' : World) : Prop := ∃ v l, e = .returned v ∧ BS w' v l ∧ (∀ c ∈ l, isBlankB c = true) ∧ l.length ≤ 39 ∧ Below w.heap.size w w'
set_option maxRecDepth 100000 in
set_option maxHeartbeats 4000000 in
theorem blankRow_any (n : Nat) (w : World) (hn : n ≤ 255) : Calls Tryd.prog 37 #[.int .u8 n] w (RowPost w) := by
  obtain ⟨i0, hi, hz0, hz1, hz2⟩ := info_parts infoByte5
  obtain ⟨m, hm⟩ : ∃ m, n % 40 = m := ⟨_, rfl⟩
  have hm9 : m ≤ 39 := by omega
  have hmt : (n : Int).tmod 40 = (m : Int) := by rw [Int.tmod_eq_emod_of_nonneg (by omega)]; omega
  have hmw : IntKind.u8.wrap (m : Int) = (m : Int) := by rw [IntKind.wrap_u8]; omega
  clear hm
  have HI := Lib.hid hi
  clear hi
  go_enter Tryd.func37, Tryd.ntmps37
  go_wp2
  go_loopg [2, 6] m (fun gk s2 s6 wr => ∃ (i : Nat) (l : List UInt8), i ≤ m ∧ gk = m - i ∧ s6 = .int .u8 i ∧ l.length = i ∧ Hid (∀ c ∈ l, isBlankB c = true) ∧ wr.ownsRow w.heap.size 5 1 s2 l.length (byteV l) ∧ Below w.heap.size w wr)
  case atStart => exact ⟨0, [], Nat.zero_le _, rfl, by go_num, rfl, Lib.hid (by simp), World.ownsRow_nil _ _ _ _, Below.refl _ _⟩
  case round =>
    obtain ⟨i, l, hi, hgk, rfl, hl, HBL, hown, hbw⟩ := hrel
    have HG := Lib.hid hgk
    clear hgk
    by_cases hlt : i < m
    · obtain ⟨x, hx⟩ : ∃ x, (i + n) % 256 = x := ⟨_, rfl⟩
      have hxw : IntKind.u8.wrap ((i : Int) + (n : Int)) = (x : Int) := by rw [IntKind.wrap_u8]; omega
      obtain ⟨j, hj⟩ : ∃ j, x % 4 = j := ⟨_, rfl⟩
      have hjt : (x : Int).tmod 4 = (j : Int) := by rw [Int.tmod_eq_emod_of_nonneg (by omega)]; omega
      have hjw : IntKind.u8.wrap (j : Int) = (j : Int) := by rw [IntKind.wrap_u8]; omega
      have hj4 : j < 4 := by omega
      clear hx hj
      rcases (show j = 0 ∨ j = 1 ∨ j = 2 ∨ j = 3 by omega) with rfl | rfl | rfl | rfl
      · go_wp2_with (at_builtin; refine wpList_append_own _ rfl _ _ 36 rfl w.heap.size 5 i0 (.int .u8 0) 1 1 Tryd.underlying36 HI.out hz0 hz1 hz2 rfl (by decide) _ _ _ rfl (hown.alloc _) ⟨wr.heap.size, 0, none⟩ 1 1 [.int .u8 32] rfl rfl (cell_one_new _ _ _) (by simp [Value.oneCell']) (by unfold maxLen; omega) (by omega) (by have := hbw.size; simp; omega) ?_; intro v' w2 hown2 hgr2 _)
        go_roundg (m - (i + 1))
        case measure => rw [HG.out]; omega
        case rel =>
          refine ⟨i + 1, l ++ [32], hlt, rfl, by go_num, by simp [hl], Lib.hid (fun y hy => (List.mem_append.1 hy).elim (HBL.out y) (fun h => by rw [List.mem_singleton.1 h]; decide)), ?_, ?_⟩
          · have e : byteV (l ++ [32]) = byteV l ++ [.int .u8 32] := by simp [byteV]
            rw [e, List.length_append, List.length_singleton]; exact hown2
          · exact (hbw.alloc hbw.size _).grown hgr2 (by have := hbw.size; simp; omega) (fun k e => (hown.lt k e).1)
      · go_wp2_with (at_builtin; refine wpList_append_own _ rfl _ _ 36 rfl w.heap.size 5 i0 (.int .u8 0) 1 1 Tryd.underlying36 HI.out hz0 hz1 hz2 rfl (by decide) _ _ _ rfl (hown.alloc _) ⟨wr.heap.size, 0, none⟩ 1 1 [.int .u8 9] rfl rfl (cell_one_new _ _ _) (by simp [Value.oneCell']) (by unfold maxLen; omega) (by omega) (by have := hbw.size; simp; omega) ?_; intro v' w2 hown2 hgr2 _)
        go_roundg (m - (i + 1))
        case measure => rw [HG.out]; omega
        case rel =>
          refine ⟨i + 1, l ++ [9], hlt, rfl, by go_num, by simp [hl], Lib.hid (fun y hy => (List.mem_append.1 hy).elim (HBL.out y) (fun h => by rw [List.mem_singleton.1 h]; decide)), ?_, ?_⟩
          · have e : byteV (l ++ [9]) = byteV l ++ [.int .u8 9] := by simp [byteV]
            rw [e, List.length_append, List.length_singleton]; exact hown2
          · exact (hbw.alloc hbw.size _).grown hgr2 (by have := hbw.size; simp; omega) (fun k e => (hown.lt k e).1)
      · go_wp2_with (at_builtin; refine wpList_append_own _ rfl _ _ 36 rfl w.heap.size 5 i0 (.int .u8 0) 1 1 Tryd.underlying36 HI.out hz0 hz1 hz2 rfl (by decide) _ _ _ rfl (hown.alloc _) ⟨wr.heap.size, 0, none⟩ 1 1 [.int .u8 10] rfl rfl (cell_one_new _ _ _) (by simp [Value.oneCell']) (by unfold maxLen; omega) (by omega) (by have := hbw.size; simp; omega) ?_; intro v' w2 hown2 hgr2 _)
        go_roundg (m - (i + 1))
        case measure => rw [HG.out]; omega
        case rel =>
          refine ⟨i + 1, l ++ [10], hlt, rfl, by go_num, by simp [hl], Lib.hid (fun y hy => (List.mem_append.1 hy).elim (HBL.out y) (fun h => by rw [List.mem_singleton.1 h]; decide)), ?_, ?_⟩
          · have e : byteV (l ++ [10]) = byteV l ++ [.int .u8 10] := by simp [byteV]
            rw [e, List.length_append, List.length_singleton]; exact hown2
          · exact (hbw.alloc hbw.size _).grown hgr2 (by have := hbw.size; simp; omega) (fun k e => (hown.lt k e).1)
      · go_wp2_with (at_builtin; refine wpList_append_own _ rfl _ _ 36 rfl w.heap.size 5 i0 (.int .u8 0) 1 1 Tryd.underlying36 HI.out hz0 hz1 hz2 rfl (by decide) _ _ _ rfl (hown.alloc _) ⟨wr.heap.size, 0, none⟩ 1 1 [.int .u8 13] rfl rfl (cell_one_new _ _ _) (by simp [Value.oneCell']) (by unfold maxLen; omega) (by omega) (by have := hbw.size; simp; omega) ?_; intro v' w2 hown2 hgr2 _)
        go_roundg (m - (i + 1))
        case measure => rw [HG.out]; omega
        case rel =>
          refine ⟨i + 1, l ++ [13], hlt, rfl, by go_num, by simp [hl], Lib.hid (fun y hy => (List.mem_append.1 hy).elim (HBL.out y) (fun h => by rw [List.mem_singleton.1 h]; decide)), ?_, ?_⟩
          · have e : byteV (l ++ [13]) = byteV l ++ [.int .u8 13] := by simp [byteV]
            rw [e, List.length_append, List.length_singleton]; exact hown2
          · exact (hbw.alloc hbw.size _).grown hgr2 (by have := hbw.size; simp; omega) (fun k e => (hown.lt k e).1)
    · obtain rfl : i = m := by omega
      go_wp2
      go_ret
      exact ⟨_, l, rfl, BS.of_own hown, HBL.out, by omega, hbw⟩
end Go.Proofs.YtalhoacancbldaaDoor
