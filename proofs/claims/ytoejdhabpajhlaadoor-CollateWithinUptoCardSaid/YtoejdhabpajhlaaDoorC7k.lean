/- Collate: Compare, as the laws call it. -/
import Derived.Test.YtoejdhabpajhlaaDoorWake7
namespace Go.Proofs.YtoejdhabpajhlaaDoor
set_option linter.unusedVariables false
set_option linter.unusedSimpArgs false
open Go.RowKit
attribute [local go_sem] run_index_arr run_part_agg run_part_one run_field_agg
theorem cmpO_yes {a b : JV} (g : gd a) (g' : gd b) : cmpO a b = (cmpJ a b, 0) := if_pos ⟨g, g'⟩
theorem cmpO_no {a b : JV} (h : ¬ (gd a ∧ gd b)) : cmpO a b = (0, 140) := if_neg h
/-- Compare, and what it tells -/
def CmpS (p q : Int) (w : World) (e : Ending) (w' : World) : Prop := e = .returned (.tuple #[.int .i64 p, .int .i64 q]) ∧ Below w.heap.size w w'
theorem cComp_is (a b : JV) (cs cs' : List Value) (w : World) (hG : GOK w) (h : VR w TT cs a) (h' : VR w TT cs' b) (c : Came a) (c' : Came b) {p q : Int} (he : cmpO a b = (p, q)) :
    Calls Tryd.prog 12 #[.agg cs.toArray, .agg cs'.toArray] w (CmpS p q w) := by
  have h9 := cComp a b cs cs' TT TT w hG h h' c c'
  rw [he] at h9
  exact h9
end Go.Proofs.YtoejdhabpajhlaaDoor
