import Derived.Test.YtgmnmnnoahdjnaaGreatDoorD01
import Derived.Test.YtgmnmnnoahdjnaaGreatDoorC14
set_option maxRecDepth 100000
set_option maxHeartbeats 16000000
set_option linter.unusedVariables false
set_option linter.unusedSimpArgs false
namespace Go.Proofs.YtgmnmnnoahdjnaaGreatDoor
section
open Go.RowKit
section
variable {α:Type} {R R':List Value->α->Prop} {css:List (List Value)} {xs:List α} {m:Nat}
theorem RR.flat (h:RR R css xs) (hR:∀ c x,R c x->c.length=m):css.flatten.length=xs.length*m:=by rw [iR (h.lens hR),h.1]
end
section
variable {W W':World} {F F':Nat->Prop} {cs:List Value} {x:EJ}
end
section
variable {W W':World} {F F':Nat->Prop} {cs:List Value} {x:SJ}
end
section
variable {W W':World} {F F':Nat->Prop} {cs:List Value}
end
end
end Go.Proofs.YtgmnmnnoahdjnaaGreatDoor
