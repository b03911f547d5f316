import Derived.Test.YtgmnmnnoahdjnaaGreatDoorC09
set_option maxRecDepth 100000
set_option maxHeartbeats 16000000
set_option linter.unusedVariables false
set_option linter.unusedSimpArgs false
namespace Go.Proofs.YtgmnmnnoahdjnaaGreatDoor
section
open Go.RowKit
section
variable {W W':World} {F F':Nat->Prop} {A:Option Addr} {xs:List Value}
end
section
variable {W W':World} {F F':Nat->Prop} {cs:List Value} {v:JV}
end
section
variable {W W':World} {F F':Nat->Prop} {css:List (List Value)} {xs:List JV}
theorem VRs.flat (h:VRs W F css xs):css.flatten.length=xs.length*5:=by rw [iQ h.five,h.1]
end
end
end Go.Proofs.YtgmnmnnoahdjnaaGreatDoor
