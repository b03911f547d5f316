/- The walk of package vlex: the iterator over the tokens is made. -/
import Derived.Test.YtalhoacancbldaaDoorVlex7
import Derived.Test.YtalhoacancbldaaDoorQuote6
namespace Go.Proofs.YtalhoacancbldaaDoor
set_option linter.unusedVariables false
set_option linter.unusedSimpArgs false
open Go.RowKit
attribute [local go_sem] run_index_arr run_part_agg run_part_one run_field_agg

/-- the four ways of taking a token -/
def waysC (g : Nat) : Array Value := #[.func (.func 44) #[] #[], .func (.func 66) #[.pointer (some ⟨g, 0, none⟩)] #[],
  .func (.func 45) #[] #[], .func (.func 67) #[.pointer (some ⟨g, 0, none⟩)] #[],
  .func (.func 68) #[] #[], .func (.func 69) #[.pointer (some ⟨g, 0, none⟩)] #[],
  .func (.func 70) #[] #[], .func (.func 71) #[.pointer (some ⟨g, 0, none⟩)] #[]]
set_option maxRecDepth 100000 in
set_option maxHeartbeats 2000000 in
theorem tokens_any (g : Nat) (w : World) :
    Calls Tryd.prog 41 #[.pointer (some ⟨g, 0, none⟩)] w fun e w' => e = .returned (.func (.func 72) #[] #[.pointer (some ⟨w.heap.size, 0, none⟩), .pointer (some ⟨w.heap.size + 1, 0, none⟩)]) ∧
      Blk w' w.heap.size 60 #[.pointer (some ⟨g, 0, none⟩)] ∧ Blk w' (w.heap.size + 1) 98 (waysC g) ∧ w'.heap.size = w.heap.size + 2 ∧ Below w.heap.size w w' := by
  have hmf : ∀ (fn : Fn) (first cap : Array Value) (w : World), (Instr.makeFunc fn first cap).run Tryd.prog w = .ok (.func fn first cap) w := fun _ _ _ _ => rfl
  go_enter Tryd.func41, Tryd.ntmps41
  go_wp2
  go_ret
  refine ⟨rfl, (Blk.new w _ _).alloc _, ?_, by simp, by go_grown⟩
  have := Blk.new (w.alloc (.cells #[.pointer (some ⟨g, 0, none⟩)] 60)) 98 (waysC g)
  rw [World.size_alloc] at this
  exact this
end Go.Proofs.YtalhoacancbldaaDoor
