import Derived.Test.YtgmnmnnoahdjnaaGreatDoorH08
set_option maxRecDepth 100000
set_option maxHeartbeats 16000000
set_option linter.unusedVariables false
set_option linter.unusedSimpArgs false
namespace Go.Proofs.YtgmnmnnoahdjnaaGreatDoor
section
inductive JV where
 | mk:Int->Int->List UInt8->List JV->List (List UInt8)->JV
def JV.kind:JV->Int | .mk k _ _ _ _=>k
def JV.num:JV->Int | .mk _ n _ _ _=>n
def JV.kids:JV->List JV | .mk _ _ _ l _=>l
def JV.keys:JV->List (List UInt8) | .mk _ _ _ _ k=>k
def cJ:JV:=.mk 0 0 [] [] []
def ltB (a b:List UInt8):Bool:=Op.bytesLess a b
abbrev yd:=List (JV × List UInt8)
inductive rW where
 | fail:Int->Int->rW
 | done:Nat->JV->rW
 | go:Nat->Nat->Nat->yd->rW
end
end Go.Proofs.YtgmnmnnoahdjnaaGreatDoor
