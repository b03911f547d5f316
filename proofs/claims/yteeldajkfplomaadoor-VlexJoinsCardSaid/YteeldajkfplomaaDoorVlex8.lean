/- The walk of package vlex: the iterator over the tokens is made. -/
import Derived.Test.YteeldajkfplomaaDoorVlex7
import Derived.Test.YteeldajkfplomaaDoorQuote6
namespace Go.Proofs.YteeldajkfplomaaDoor
set_option linter.unusedVariables false
set_option linter.unusedSimpArgs false
open Go.RowKit
attribute [local go_sem] run_index_arr run_part_agg run_part_one run_field_agg

/-- the four ways of taking a token -/
def waysC (g : Nat) : Array Value := #[.func (.func 21) #[] #[], .func (.func 26) #[.pointer (some ⟨g, 0, none⟩)] #[],
  .func (.func 22) #[] #[], .func (.func 27) #[.pointer (some ⟨g, 0, none⟩)] #[],
  .func (.func 28) #[] #[], .func (.func 29) #[.pointer (some ⟨g, 0, none⟩)] #[],
  .func (.func 30) #[] #[], .func (.func 31) #[.pointer (some ⟨g, 0, none⟩)] #[]]
set_option maxRecDepth 100000 in
set_option maxHeartbeats 2000000 in
theorem tokens_any (g : Nat) (w : World) :
    Calls Tryd.prog 18 #[.pointer (some ⟨g, 0, none⟩)] w fun e w' => e = .returned (.func (.func 32) #[] #[.pointer (some ⟨w.heap.size, 0, none⟩), .pointer (some ⟨w.heap.size + 1, 0, none⟩)]) ∧
      Blk w' w.heap.size 36 #[.pointer (some ⟨g, 0, none⟩)] ∧ Blk w' (w.heap.size + 1) 56 (waysC g) ∧ w'.heap.size = w.heap.size + 2 ∧ Below w.heap.size w w' := by
  have hmf : ∀ (fn : Fn) (first cap : Array Value) (w : World), (Instr.makeFunc fn first cap).run Tryd.prog w = .ok (.func fn first cap) w := fun _ _ _ _ => rfl
  go_enter Tryd.func18, Tryd.ntmps18
  go_wp2
  go_ret
  refine ⟨rfl, (Blk.new w _ _).alloc _, ?_, by simp, by go_grown⟩
  have := Blk.new (w.alloc (.cells #[.pointer (some ⟨g, 0, none⟩)] 36)) 56 (waysC g)
  rw [World.size_alloc] at this
  exact this
end Go.Proofs.YteeldajkfplomaaDoor
