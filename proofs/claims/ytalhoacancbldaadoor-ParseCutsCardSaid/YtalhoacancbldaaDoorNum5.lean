/- The walk of numeral.Read. -/
import Derived.Test.YtalhoacancbldaaDoorNum4
namespace Go.Proofs.YtalhoacancbldaaDoor
set_option linter.unusedVariables false
set_option linter.unusedSimpArgs false
open Go.RowKit
attribute [local go_sem] run_index_arr run_part_agg run_part_one run_field_agg

def numStart (a : Nat) : NSt := { pos := a, minus := false, size := 0, over := false, part := false }
/-- the greatest size that a numeral may have -/
def numBig (minus : Bool) : Nat := if minus then 9223372036854775808 else 9223372036854775807
def numEnd (st : NSt) (a : Int) : Int × Int × Int :=
  if (st.part || st.over || decide (numBig st.minus < st.size)) = true then (0, a, 130) else ((if st.minus then -(st.size : Int) else st.size), st.pos, 0)
/-- what numeral.Read answers: the number, the place, the error -/
def numRead (l : List UInt8) (a : Int) : Int × Int × Int :=
  if a < 0 ∨ (l.length : Int) < a then (0, 0, 2) else
  match numRun l (numStart a.toNat) with
  | (_, some p) => (0, p, 7)
  | (st, none) => numEnd st a

theorem runK_size {l : List UInt8} : ∀ {ks : List Nat} {st st' : NSt} {q : Option Nat}, runK l ks st = (st', q) → st.pos ≤ l.length → st.size < 18446744073709551616 → st'.size < 18446744073709551616
  | [], st, st', q, h, _, hs => by
    simp only [runK, Prod.mk.injEq] at h
    rw [← h.1]; exact hs
  | k :: ks, st, st', q, h, hp, hs => by
    obtain ⟨⟨s1, r⟩, hr⟩ : ∃ r, stepK k l st = r := ⟨_, rfl⟩
    have hle := stepK_le hr hp hs
    cases r with
    | none => rw [runK_none hr] at h; exact runK_size h hle.1 hle.2
    | some p =>
      rw [runK_some hr] at h
      simp only [Prod.mk.injEq] at h
      rw [← h.1]; exact hle.2
theorem neg_wrap {k : Nat} (h : k ≤ 9223372036854775808) : wrap64 (IntKind.u64.wrap (-(k : Int))) = -(k : Int) := by
  unfold wrap64; rw [IntKind.wrap_u64]; omega
theorem pos_wrap {k : Nat} (h : k ≤ 9223372036854775807) : wrap64 (k : Int) = (k : Int) := by
  unfold wrap64; omega
def NumPost (r : Int × Int × Int) (w : World) (e : Ending) (w' : World) : Prop :=
  e = .returned (.tuple #[.int .i64 r.1, .int .i64 r.2.1, .int .i64 r.2.2]) ∧ Below w.heap.size w w'

set_option maxRecDepth 100000 in
set_option maxHeartbeats 4000000 in
theorem numRead_any (w : World) (v : Value) (l : List UInt8) (a : Int) (hv : BS w v l) (hl : l.length ≤ 1048576) :
    Calls Tryd.prog 89 #[v, .int .i64 a] w (NumPost (numRead l a) w) := by
  obtain ⟨A, cap, rfl, hcap, hr⟩ := hv
  by_cases h0 : a < 0
  · unfold numRead
    rw [if_pos (.inl h0)]
    go_enter Tryd.func89, Tryd.ntmps89
    go_wp2
    go_returns
    exact ⟨rfl, by go_grown⟩
  · obtain ⟨n, rfl⟩ : ∃ n : Nat, a = n := ⟨a.toNat, by omega⟩
    by_cases h1 : (l.length : Int) < (n : Int)
    · unfold numRead
      rw [if_pos (.inr h1)]
      clear h0
      go_enter Tryd.func89, Tryd.ntmps89
      go_wp2
      go_returns
      exact ⟨rfl, by go_grown⟩
    · unfold numRead
      rw [if_neg (by omega), Int.toNat_natCast]
      clear h0
      have hreads := fun (w1 : World) h => reads_any w1 w.heap.size A cap l (numStart n) h hl (by show n ≤ _; omega) (by show 0 < _; omega)
      obtain ⟨⟨st, q⟩, hq⟩ : ∃ r, numRun l (numStart n) = r := ⟨_, rfl⟩
      rw [hq] at hreads ⊢
      have hNB : NB (w.alloc (.cells (numCells A l.length cap (numStart n)) 144)) w.heap.size A cap l (numStart n) := ⟨Blk.new _ _ _, hr.alloc _⟩
      unfold numCells numStart at hNB
      have HNB := Lib.hid hNB
      clear hNB
      cases q with
      | some p =>
        have HR := Lib.hid (show ∀ w1, NB w1 w.heap.size A cap l (numStart n) → Calls Tryd.prog 113 #[.pointer (some ⟨w.heap.size, 0, none⟩)] w1 (fun e w' => e = .returned (.tuple #[.int .i64 p, .int .i64 7]) ∧ NStep w1 w.heap.size A cap l st w') from hreads)
        clear hreads hq
        go_enter Tryd.func89, Tryd.ntmps89
        go_wp2_with (go_at_call 113; refine (HR.out _ HNB.out).mono ?_; rintro e w1 ⟨rfl, hw1⟩)
        go_returns
        exact ⟨rfl, ((Below.refl w.heap.size w).alloc (Nat.le_refl _) _).grown hw1.2 (by simp) (by simp)⟩
      | none =>
        have HR := Lib.hid (show ∀ w1, NB w1 w.heap.size A cap l (numStart n) → Calls Tryd.prog 113 #[.pointer (some ⟨w.heap.size, 0, none⟩)] w1 (fun e w' => e = .returned (.tuple #[.int .i64 st.pos, .int .i64 0]) ∧ NStep w1 w.heap.size A cap l st w') from hreads)
        clear hreads
        have hsz : st.size < 18446744073709551616 := runK_size hq (by show n ≤ _; omega) (by show 0 < _; omega)
        clear hq
        obtain ⟨pos, minus, size, over, part⟩ := st
        cases minus <;> cases part <;> cases over
        · by_cases hb : size ≤ 9223372036854775807
          · have hwr := pos_wrap hb
            go_enter Tryd.func89, Tryd.ntmps89
            go_wp2_with (go_at_call 113; refine (HR.out _ HNB.out).mono ?_; rintro e w1 ⟨rfl, hw1⟩; obtain ⟨hc, _, _⟩ := hw1.1.1.rules; unfold numCells at hc)
            go_returns
            refine ⟨?_, ((Below.refl w.heap.size w).alloc (Nat.le_refl _) _).grown hw1.2 (by simp) (by simp)⟩
            rw [show numEnd { pos := pos, minus := false, size := size, over := false, part := false } (n : Int) = ((size : Int), (pos : Int), 0) from by simp [numEnd, numBig]; omega]
            rfl
          · skip
            go_enter Tryd.func89, Tryd.ntmps89
            go_wp2_with (go_at_call 113; refine (HR.out _ HNB.out).mono ?_; rintro e w1 ⟨rfl, hw1⟩; obtain ⟨hc, _, _⟩ := hw1.1.1.rules; unfold numCells at hc)
            go_returns
            refine ⟨?_, ((Below.refl w.heap.size w).alloc (Nat.le_refl _) _).grown hw1.2 (by simp) (by simp)⟩
            rw [show numEnd { pos := pos, minus := false, size := size, over := false, part := false } (n : Int) = (0, (n : Int), 130) from by simp [numEnd, numBig]; omega]
            rfl
        · skip
          go_enter Tryd.func89, Tryd.ntmps89
          go_wp2_with (go_at_call 113; refine (HR.out _ HNB.out).mono ?_; rintro e w1 ⟨rfl, hw1⟩; obtain ⟨hc, _, _⟩ := hw1.1.1.rules; unfold numCells at hc)
          go_returns
          refine ⟨?_, ((Below.refl w.heap.size w).alloc (Nat.le_refl _) _).grown hw1.2 (by simp) (by simp)⟩
          rw [show numEnd { pos := pos, minus := false, size := size, over := true, part := false } (n : Int) = (0, (n : Int), 130) from by simp [numEnd, numBig]]
          rfl
        · skip
          go_enter Tryd.func89, Tryd.ntmps89
          go_wp2_with (go_at_call 113; refine (HR.out _ HNB.out).mono ?_; rintro e w1 ⟨rfl, hw1⟩; obtain ⟨hc, _, _⟩ := hw1.1.1.rules; unfold numCells at hc)
          go_returns
          refine ⟨?_, ((Below.refl w.heap.size w).alloc (Nat.le_refl _) _).grown hw1.2 (by simp) (by simp)⟩
          rw [show numEnd { pos := pos, minus := false, size := size, over := false, part := true } (n : Int) = (0, (n : Int), 130) from by simp [numEnd, numBig]]
          rfl
        · skip
          go_enter Tryd.func89, Tryd.ntmps89
          go_wp2_with (go_at_call 113; refine (HR.out _ HNB.out).mono ?_; rintro e w1 ⟨rfl, hw1⟩; obtain ⟨hc, _, _⟩ := hw1.1.1.rules; unfold numCells at hc)
          go_returns
          refine ⟨?_, ((Below.refl w.heap.size w).alloc (Nat.le_refl _) _).grown hw1.2 (by simp) (by simp)⟩
          rw [show numEnd { pos := pos, minus := false, size := size, over := true, part := true } (n : Int) = (0, (n : Int), 130) from by simp [numEnd, numBig]]
          rfl
        · by_cases hb : size ≤ 9223372036854775808
          · have hwr := neg_wrap hb
            go_enter Tryd.func89, Tryd.ntmps89
            go_wp2_with (go_at_call 113; refine (HR.out _ HNB.out).mono ?_; rintro e w1 ⟨rfl, hw1⟩; obtain ⟨hc, _, _⟩ := hw1.1.1.rules; unfold numCells at hc)
            go_returns
            refine ⟨?_, ((Below.refl w.heap.size w).alloc (Nat.le_refl _) _).grown hw1.2 (by simp) (by simp)⟩
            rw [show numEnd { pos := pos, minus := true, size := size, over := false, part := false } (n : Int) = (-(size : Int), (pos : Int), 0) from by simp [numEnd, numBig]; omega]
            show Ending.returned (.tuple #[.int .i64 (wrap64 (IntKind.u64.wrap (-(size : Int)))), _, _]) = _
            rw [hwr]
            rfl
          · skip
            go_enter Tryd.func89, Tryd.ntmps89
            go_wp2_with (go_at_call 113; refine (HR.out _ HNB.out).mono ?_; rintro e w1 ⟨rfl, hw1⟩; obtain ⟨hc, _, _⟩ := hw1.1.1.rules; unfold numCells at hc)
            go_returns
            refine ⟨?_, ((Below.refl w.heap.size w).alloc (Nat.le_refl _) _).grown hw1.2 (by simp) (by simp)⟩
            rw [show numEnd { pos := pos, minus := true, size := size, over := false, part := false } (n : Int) = (0, (n : Int), 130) from by simp [numEnd, numBig]; omega]
            rfl
        · skip
          go_enter Tryd.func89, Tryd.ntmps89
          go_wp2_with (go_at_call 113; refine (HR.out _ HNB.out).mono ?_; rintro e w1 ⟨rfl, hw1⟩; obtain ⟨hc, _, _⟩ := hw1.1.1.rules; unfold numCells at hc)
          go_returns
          refine ⟨?_, ((Below.refl w.heap.size w).alloc (Nat.le_refl _) _).grown hw1.2 (by simp) (by simp)⟩
          rw [show numEnd { pos := pos, minus := true, size := size, over := true, part := false } (n : Int) = (0, (n : Int), 130) from by simp [numEnd, numBig]]
          rfl
        · skip
          go_enter Tryd.func89, Tryd.ntmps89
          go_wp2_with (go_at_call 113; refine (HR.out _ HNB.out).mono ?_; rintro e w1 ⟨rfl, hw1⟩; obtain ⟨hc, _, _⟩ := hw1.1.1.rules; unfold numCells at hc)
          go_returns
          refine ⟨?_, ((Below.refl w.heap.size w).alloc (Nat.le_refl _) _).grown hw1.2 (by simp) (by simp)⟩
          rw [show numEnd { pos := pos, minus := true, size := size, over := false, part := true } (n : Int) = (0, (n : Int), 130) from by simp [numEnd, numBig]]
          rfl
        · skip
          go_enter Tryd.func89, Tryd.ntmps89
          go_wp2_with (go_at_call 113; refine (HR.out _ HNB.out).mono ?_; rintro e w1 ⟨rfl, hw1⟩; obtain ⟨hc, _, _⟩ := hw1.1.1.rules; unfold numCells at hc)
          go_returns
          refine ⟨?_, ((Below.refl w.heap.size w).alloc (Nat.le_refl _) _).grown hw1.2 (by simp) (by simp)⟩
          rw [show numEnd { pos := pos, minus := true, size := size, over := true, part := true } (n : Int) = (0, (n : Int), 130) from by simp [numEnd, numBig]]
          rfl
end Go.Proofs.YtalhoacancbldaaDoor
