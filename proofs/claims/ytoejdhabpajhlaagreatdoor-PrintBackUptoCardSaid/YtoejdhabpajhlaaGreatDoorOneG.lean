/- The walks of the reference davenportref04: one, Same, Zero, of any two values. -/
import Derived.Test.YtoejdhabpajhlaaGreatDoorText4
import Derived.Test.YtoejdhabpajhlaaGreatDoorParse1
import Derived.Test.YtoejdhabpajhlaaGreatDoorOrdP
import Derived.Test.YtoejdhabpajhlaaGreatDoorWithG
namespace Go.Proofs.YtoejdhabpajhlaaGreatDoor
set_option linter.unusedVariables false
set_option linter.unusedSimpArgs false
open Go.RowKit
attribute [local go_sem] run_index_arr run_part_agg run_part_one run_field_agg

def TwoB (w : World) (t : TypeId) (cs cs' : Array Value) (wr : World) : Prop := Blk wr w.heap.size t cs ∧ Blk wr (w.heap.size + 1) t cs' ∧ Below w.heap.size w wr
theorem TwoB.new (w : World) (t : TypeId) (cs cs' : Array Value) : TwoB w t cs cs' ((w.alloc (.cells cs t)).alloc (.cells cs' t)) := by
  refine ⟨(Blk.new w t cs).alloc _, ?_, ((Below.refl _ w).alloc (Nat.le_refl _) _).alloc (by simp) _⟩
  have := Blk.new (w.alloc (.cells cs t)) t cs'
  rw [World.size_alloc] at this; exact this
theorem TwoB.keep {w wr wx : World} {t : TypeId} {cs cs' : Array Value} (h : TwoB w t cs cs' wr) (hb : Below wr.heap.size wr wx) : TwoB w t cs cs' wx := ⟨h.1.keep hb, h.2.1.keep hb, h.2.2.trans (hb.mono h.2.2.size)⟩
theorem TwoB.drewN {w wr : World} {t : TypeId} {cs cs' : Array Value} (h : TwoB w t cs cs' wr) (k : Nat) : TwoB w t cs cs' (wr.drewN k) := ⟨h.1.drewN k, h.2.1.drewN k, bel_drewN h.2.2 k⟩
theorem TwoB.drew {w wr : World} {t : TypeId} {cs cs' : Array Value} (h : TwoB w t cs cs' wr) : TwoB w t cs cs' wr.drew := ⟨h.1.drew, h.2.1.drew, h.2.2.drew⟩
/-- whether something is so -/
def EqS (p : Prop) (w : World) (e : Ending) (w' : World) : Prop := ∃ t : Bool, e = .returned (.bool t) ∧ (t = true ↔ p) ∧ Below w.heap.size w w'
theorem EqS.no {p : Prop} {w w' : World} (h : ¬ p) (hb : Below w.heap.size w w') : EqS p w (.returned (.bool false)) w' := ⟨false, rfl, by simp [h], hb⟩
theorem EqS.yes {p : Prop} {w w' : World} (h : p) (hb : Below w.heap.size w w') : EqS p w (.returned (.bool true)) w' := ⟨true, rfl, by simp [h], hb⟩
end Go.Proofs.YtoejdhabpajhlaaGreatDoor
