/- The walks of package utf and of its reference, as far as they make no loop over an iterator. -/
import Derived.Test.YtalhoacancbldaaDoorProg
import Derived.Test.YtalhoacancbldaaDoorBase
import Derived.Test.YtalhoacancbldaaDoorSpecUtf
namespace Go.Proofs.YtalhoacancbldaaDoor
set_option linter.unusedVariables false
set_option linter.unusedSimpArgs false
open Go.RowKit
attribute [local go_sem] run_index_arr run_part_agg run_part_one

/-- the variable 'none' of package utf -/
structure GOK (w : World) : Prop where
  lt : 0 < w.heap.size
  c0 : w.cell? ⟨0, 0, none⟩ = some (.int .i64 0)
  c1 : w.cell? ⟨0, 1, none⟩ = some (.int .i64 0)
theorem GOK.below {B : Nat} {w w' : World} (h : GOK w) (hb : Below B w w') (hB : 0 < B) : GOK w' :=
  ⟨Nat.lt_of_lt_of_le h.lt hb.size, (hb.cell (p := ⟨0, 0, none⟩) hB).trans h.c0, (hb.cell (p := ⟨0, 1, none⟩) hB).trans h.c1⟩
theorem GOK.keep {w w' : World} (h : GOK w) (hb : Below w.heap.size w w') : GOK w' := h.below hb h.lt
theorem GOK.alloc {w : World} (h : GOK w) (o : Obj) : GOK (w.alloc o) := h.keep ((Below.refl w.heap.size w).alloc (Nat.le_refl _) o)
theorem GOK.drewN {w : World} (h : GOK w) (n : Nat) : GOK (w.drewN n) := ⟨h.lt, h.c0, h.c1⟩

set_option maxHeartbeats 400000 in
theorem size_any (p : Int) (w : World) :
    Calls Tryd.prog 133 #[.int .i64 p] w fun e w' => e = .returned (.int .i64 (cpSize p)) ∧ w = w' := by
  go_enter Tryd.func133, Tryd.ntmps133
  go_wp2
  all_goals go_ret
  all_goals exact ⟨ret_int (by rw [cpSize_eq]; repeat' split <;> omega), rfl⟩

set_option maxHeartbeats 400000 in
theorem Size_any (p : Int) (w : World) :
    Calls Tryd.prog 147 #[.int .i64 p] w fun e w' => e = .returned (.int .i64 (cpSize p)) ∧ w = w' := by
  go_enter Tryd.func147, Tryd.ntmps147
  go_wp2_with (go_at_call 133; refine (size_any _ _).mono ?_; rintro e w' ⟨rfl, rfl⟩)
  go_ret
  exact ⟨rfl, rfl⟩

set_option maxHeartbeats 400000 in
theorem forms_any (w : World) :
    Calls Tryd.prog 158 #[] w fun e w' => e = .returned (.agg #[.int .i64 0, .int .i64 0, .int .i64 7, .int .i64 0, .int .i64 5, .int .i64 192, .int .i64 4, .int .i64 224, .int .i64 3, .int .i64 240]) ∧ Below w.heap.size w w' := by
  go_enter Tryd.func158, Tryd.ntmps158
  go_wp2
  go_returns
  exact ⟨rfl, by go_grown⟩

/-- the tests that the first k forms have failed -/
def sizedNo (c k : Nat) : Prop := (2 ≤ k → ¬ c / 128 = 0) ∧ (3 ≤ k → ¬ c / 32 = 6) ∧ (4 ≤ k → ¬ c / 16 = 14) ∧ (5 ≤ k → ¬ c / 8 = 30)

set_option maxRecDepth 100000 in
set_option maxHeartbeats 2000000 in
theorem sized_any (c : Nat) (w : World) (hG : GOK w) (hc : c < 256) :
    Calls Tryd.prog 156 #[.int .u8 c] w fun e w' => e = .returned (.tuple #[.agg #[.int .i64 (sizedS c).1, .int .i64 (sizedS c).2.1], .int .i64 (sizedS c).2.2]) ∧ Below w.heap.size w w' := by
  have HG := hG
  obtain ⟨hg, h0, h1⟩ := hG
  go_enter Tryd.func156, Tryd.ntmps156
  go_wp2
  go_step3
  go_wp2
  go_step3
  go_wp2_with (go_at_call 158; refine (forms_any _).mono ?_; rintro e w' ⟨rfl, hb⟩)
  go_loopw [5, 10] (fun s i wr => ∃ k : Nat, k ≤ 5 ∧ i = .int .i64 k ∧ s = .int .i64 0 ∧ Blk wr w.heap.size 193 #[.int .i64 0, .int .i64 0] ∧ Blk wr (w.heap.size + 1) 193 #[.int .i64 0, .int .i64 0] ∧ GOK wr ∧ Below w.heap.size w wr ∧ sizedNo c k)
    (fun _ i _ => 5 - (intOf i).toNat)
  case atStart =>
    have b1 := (Blk.new (w.alloc (.cells #[.int .i64 0, .int .i64 0] 193)) 193 #[.int .i64 0, .int .i64 0]).keep hb
    rw [World.size_alloc] at b1
    exact ⟨0, by omega, rfl, rfl, ((Blk.new w 193 _).alloc _).keep hb, b1, ((HG.alloc _).alloc _).keep hb,
      (((Below.refl _ w).alloc (Nat.le_refl _) _).alloc (by simp) _).trans (hb.mono (by simp; omega)), by simp [sizedNo]⟩
  case round =>
    obtain ⟨k, hk, rfl, rfl, b2, b4, hGr, hbr, hno⟩ := hrel
    clear hb h0 h1 hg
    have hs := b4.lt
    obtain ⟨h2, h2f, _⟩ := b2.rules
    obtain ⟨h4, h4f, _⟩ := b4.rules
    obtain ⟨hg, h0, h1⟩ := hGr
    have HN := Lib.hid hno
    clear hno
    rcases (by omega : k = 0 ∨ k = 1 ∨ k = 2 ∨ k = 3 ∨ k = 4 ∨ k = 5) with rfl | rfl | rfl | rfl | rfl | rfl
    · go_wp2
      go_quiet (fail)
      go_wp2
      go_roundw
      case rel => exact ⟨1, by omega, rfl, rfl, (b2.alloc _).drewN _, (b4.alloc _).drewN _, (GOK.alloc ⟨hg, h0, h1⟩ _).drewN _, (by repeat (first | exact hbr | apply bel_drewN | (refine Below.setCell ?_ (by first | (simp; done) | (simp; omega) | omega) _) | (refine Below.alloc ?_ (by first | (simp; done) | (simp; omega) | omega) _))), by simp [sizedNo]⟩
      case measure => simp [intOf]
    · go_wp2
      go_quiet (fail)
      go_wp2
      · have hh : c / 128 = 0 := by
          have h := ‹((c : Int) / 128 == 0) = true›
          simp at h; omega
        rw [Exit.noGoto_ret]
        refine bodyPost_ret (v := .tuple #[.agg #[.int .i64 7, .int .i64 0], .int .i64 1]) (by simp only [results, Tryd.results156]; go_simp) rfl ⟨?_, (by repeat (first | exact hbr | apply bel_drewN | (refine Below.setCell ?_ (by first | (simp; done) | (simp; omega) | omega) _) | (refine Below.alloc ?_ (by first | (simp; done) | (simp; omega) | omega) _)))⟩
        have hno := HN.out
        simp only [sizedNo] at hno
        have hs : sizedS c = (7, 0, 1) := by simp only [sizedS]; rw [if_pos hh]
        rw [hs]; rfl
      · have hh : ¬ c / 128 = 0 := by
          have h := ‹((c : Int) / 128 == 0) = false›
          simp at h; omega
        go_roundw
        case rel => exact ⟨2, by omega, rfl, rfl, (b2.alloc _).drewN _, (b4.alloc _).drewN _, (GOK.alloc ⟨hg, h0, h1⟩ _).drewN _, (by repeat (first | exact hbr | apply bel_drewN | (refine Below.setCell ?_ (by first | (simp; done) | (simp; omega) | omega) _) | (refine Below.alloc ?_ (by first | (simp; done) | (simp; omega) | omega) _))), by have hno := HN.out; simp only [sizedNo] at hno ⊢; omega⟩
        case measure => simp [intOf]
    · go_wp2
      go_quiet (fail)
      go_wp2
      · have hh : c / 32 = 6 := by
          have h := ‹((c : Int) / 32 == 6) = true›
          simp at h; omega
        rw [Exit.noGoto_ret]
        refine bodyPost_ret (v := .tuple #[.agg #[.int .i64 5, .int .i64 192], .int .i64 2]) (by simp only [results, Tryd.results156]; go_simp) rfl ⟨?_, (by repeat (first | exact hbr | apply bel_drewN | (refine Below.setCell ?_ (by first | (simp; done) | (simp; omega) | omega) _) | (refine Below.alloc ?_ (by first | (simp; done) | (simp; omega) | omega) _)))⟩
        have hno := HN.out
        simp only [sizedNo] at hno
        have hs : sizedS c = (5, 192, 2) := by simp only [sizedS]; rw [if_neg (by omega)]; rw [if_pos hh]
        rw [hs]; rfl
      · have hh : ¬ c / 32 = 6 := by
          have h := ‹((c : Int) / 32 == 6) = false›
          simp at h; omega
        go_roundw
        case rel => exact ⟨3, by omega, rfl, rfl, (b2.alloc _).drewN _, (b4.alloc _).drewN _, (GOK.alloc ⟨hg, h0, h1⟩ _).drewN _, (by repeat (first | exact hbr | apply bel_drewN | (refine Below.setCell ?_ (by first | (simp; done) | (simp; omega) | omega) _) | (refine Below.alloc ?_ (by first | (simp; done) | (simp; omega) | omega) _))), by have hno := HN.out; simp only [sizedNo] at hno ⊢; omega⟩
        case measure => simp [intOf]
    · go_wp2
      go_quiet (fail)
      go_wp2
      · have hh : c / 16 = 14 := by
          have h := ‹((c : Int) / 16 == 14) = true›
          simp at h; omega
        rw [Exit.noGoto_ret]
        refine bodyPost_ret (v := .tuple #[.agg #[.int .i64 4, .int .i64 224], .int .i64 3]) (by simp only [results, Tryd.results156]; go_simp) rfl ⟨?_, (by repeat (first | exact hbr | apply bel_drewN | (refine Below.setCell ?_ (by first | (simp; done) | (simp; omega) | omega) _) | (refine Below.alloc ?_ (by first | (simp; done) | (simp; omega) | omega) _)))⟩
        have hno := HN.out
        simp only [sizedNo] at hno
        have hs : sizedS c = (4, 224, 3) := by simp only [sizedS]; rw [if_neg (by omega)]; rw [if_neg (by omega)]; rw [if_pos hh]
        rw [hs]; rfl
      · have hh : ¬ c / 16 = 14 := by
          have h := ‹((c : Int) / 16 == 14) = false›
          simp at h; omega
        go_roundw
        case rel => exact ⟨4, by omega, rfl, rfl, (b2.alloc _).drewN _, (b4.alloc _).drewN _, (GOK.alloc ⟨hg, h0, h1⟩ _).drewN _, (by repeat (first | exact hbr | apply bel_drewN | (refine Below.setCell ?_ (by first | (simp; done) | (simp; omega) | omega) _) | (refine Below.alloc ?_ (by first | (simp; done) | (simp; omega) | omega) _))), by have hno := HN.out; simp only [sizedNo] at hno ⊢; omega⟩
        case measure => simp [intOf]
    · go_wp2
      go_quiet (fail)
      go_wp2
      · have hh : c / 8 = 30 := by
          have h := ‹((c : Int) / 8 == 30) = true›
          simp at h; omega
        rw [Exit.noGoto_ret]
        refine bodyPost_ret (v := .tuple #[.agg #[.int .i64 3, .int .i64 240], .int .i64 4]) (by simp only [results, Tryd.results156]; go_simp) rfl ⟨?_, (by repeat (first | exact hbr | apply bel_drewN | (refine Below.setCell ?_ (by first | (simp; done) | (simp; omega) | omega) _) | (refine Below.alloc ?_ (by first | (simp; done) | (simp; omega) | omega) _)))⟩
        have hno := HN.out
        simp only [sizedNo] at hno
        have hs : sizedS c = (3, 240, 4) := by simp only [sizedS]; rw [if_neg (by omega)]; rw [if_neg (by omega)]; rw [if_neg (by omega)]; rw [if_pos hh]
        rw [hs]; rfl
      · have hh : ¬ c / 8 = 30 := by
          have h := ‹((c : Int) / 8 == 30) = false›
          simp at h; omega
        go_roundw
        case rel => exact ⟨5, by omega, rfl, rfl, (b2.alloc _).drewN _, (b4.alloc _).drewN _, (GOK.alloc ⟨hg, h0, h1⟩ _).drewN _, (by repeat (first | exact hbr | apply bel_drewN | (refine Below.setCell ?_ (by first | (simp; done) | (simp; omega) | omega) _) | (refine Below.alloc ?_ (by first | (simp; done) | (simp; omega) | omega) _))), by have hno := HN.out; simp only [sizedNo] at hno ⊢; omega⟩
        case measure => simp [intOf]
    · go_wp2
      rw [Exit.noGoto_ret]
      refine bodyPost_ret (v := .tuple #[.agg #[.int .i64 0, .int .i64 0], .int .i64 0]) (by simp only [results, Tryd.results156]; go_simp) rfl ⟨?_, (by repeat (first | exact hbr | apply bel_drewN | (refine Below.setCell ?_ (by first | (simp; done) | (simp; omega) | omega) _) | (refine Below.alloc ?_ (by first | (simp; done) | (simp; omega) | omega) _)))⟩
      have hno := HN.out
      simp only [sizedNo] at hno
      have hs : sizedS c = (0, 0, 0) := by simp only [sizedS]; rw [if_neg (by omega), if_neg (by omega), if_neg (by omega), if_neg (by omega)]
      rw [hs]; rfl
end Go.Proofs.YtalhoacancbldaaDoor
