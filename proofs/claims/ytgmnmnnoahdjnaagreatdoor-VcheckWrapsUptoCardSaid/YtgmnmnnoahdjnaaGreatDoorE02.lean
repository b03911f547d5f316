import Derived.Test.YtgmnmnnoahdjnaaGreatDoorC33
set_option maxRecDepth 100000
set_option maxHeartbeats 16000000
set_option linter.unusedVariables false
set_option linter.unusedSimpArgs false
namespace Go.Proofs.YtgmnmnnoahdjnaaGreatDoor
section
open Go.RowKit Go.Shelf
attribute [local go_sem] aa ac ae ab Oper.semAt_some
attribute [local go_sem] ew ev
section
variable {F:Fence} {n:Nat} {P:Program} {ops:Array Oper} {rest:List Oper} {op:Oper} {a:Act} {w:World} {Q:Exit->Act->World->Prop}
end
section
variable {ob:Option Nat} {w W:World}
end
theorem BP (l:List (List UInt8)):∀ u ∈ bY l,u.oneCell'=true:=λ u hu=>by
 obtain ⟨s,_,rfl⟩:=List.mem_map.1 hu;rfl
section
variable {σ:Type} {G:GoX σ}
end
end
end Go.Proofs.YtgmnmnnoahdjnaaGreatDoor
