import Derived.Test.YtgmnmnnoahdjnaaGreatDoorC45
open Go.Value renaming int → Zi, slice → Zs, string → Zt, pointer → Zp
open Go.IntKind renaming i64 → Zq
set_option maxRecDepth 100000
set_option maxHeartbeats 16000000
set_option linter.unusedVariables false
set_option linter.unusedSimpArgs false
namespace Go.Proofs.YtgmnmnnoahdjnaaGreatDoor
section
open Go.RowKit
attribute [local go_sem] aa ac ae ab
section
variable {w W W':World} {A A':Option Addr} {n n' ca ca':Nat} {p q:List SJ} {F:Nat->Prop} {e:Ending}
theorem Cf (h:dX W A n ca p) (hG:GOE W) (hC:aK p) (hs:aA p<=4194304):Calls Tryz.prog 18 #[.agg #[Zs A n ca]] W (rx (eq p) W):=by
 obtain ⟨css,h1,h2,h3,h4⟩:=h;have hl:=tl p;exact lX p css A n ca TT W hG h1 h3 h4 h2 hC (by omega)
end
end
end Go.Proofs.YtgmnmnnoahdjnaaGreatDoor
