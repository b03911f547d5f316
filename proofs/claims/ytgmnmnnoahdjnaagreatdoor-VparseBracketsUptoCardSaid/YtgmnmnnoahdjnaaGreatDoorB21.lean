import Derived.Test.YtgmnmnnoahdjnaaGreatDoorB20
set_option maxRecDepth 100000
set_option maxHeartbeats 16000000
set_option linter.unusedVariables false
set_option linter.unusedSimpArgs false
namespace Go.Proofs.YtgmnmnnoahdjnaaGreatDoor
section
open Go.RowKit
theorem tT {v:JV} (h:good v=true):iN 8 v=true∧bI v≤256:=by
 unfold good at h;simp only [Bool.and_eq_true,decide_eq_true_eq] at h;exact h
theorem wn {v:JV} {n:Int} (h:tE v=n) {cs:List Value} {F:Nat→Prop} {w:World} (hG:GOK w) (hv:VR w F cs v) (hc:df v):Calls Tryz.prog 162 #[.agg cs.toArray] w fun e w'=>e=.returned (.int .i64 n)∧Below w.heap.size w w':=by
 have h9:=wm v cs F w hG hv hc;rw [h] at h9;exact h9
end
end Go.Proofs.YtgmnmnnoahdjnaaGreatDoor
