import Derived.Test.YtgmnmnnoahdjnaaGreatDoorJ02
import Derived.Test.YtgmnmnnoahdjnaaGreatDoorB19
set_option maxRecDepth 100000
set_option maxHeartbeats 16000000
set_option linter.unusedVariables false
set_option linter.unusedSimpArgs false
namespace Go.Proofs.YtgmnmnnoahdjnaaGreatDoor
section
theorem zq:∀ a b:List SJ,cJ (a++b)=cJ a+cJ b
 | [],b=>by simp [cJ]
 | x::r,b=>by rw [List.cons_append,cJ,cJ,zq r b];omega
end
end Go.Proofs.YtgmnmnnoahdjnaaGreatDoor
