import Derived.Test.YtgmnmnnoahdjnaaGreatDoorC16
open Go.Value renaming int → Zi, slice → Zs, string → Zt, pointer → Zp
open Go.IntKind renaming i64 → Zq
set_option maxRecDepth 100000
set_option maxHeartbeats 16000000
set_option linter.unusedVariables false
set_option linter.unusedSimpArgs false
namespace Go.Proofs.YtgmnmnnoahdjnaaGreatDoor
section
open Go.RowKit
theorem vL {v:JV} (h:fY v=true):mm 8 v=true/\bU v<=256:=by
 unfold fY at h;simp only [Bool.and_eq_true,decide_eq_true_eq] at h;exact h
theorem yH {v:JV} {n:Int} (h:vo v=n) {cs:List Value} {F:Nat->Prop} {w:World} (hG:GOK w) (hv:VR w F cs v) (hc:dq v):Calls Tryz.prog 162 #[.agg cs.toArray] w λ e w'=>e=.returned (Zi Zq n)/\Below w.heap.size w w':=by
 have h9:=yG v cs F w hG hv hc;rw [h] at h9;exact h9
end
end Go.Proofs.YtgmnmnnoahdjnaaGreatDoor
