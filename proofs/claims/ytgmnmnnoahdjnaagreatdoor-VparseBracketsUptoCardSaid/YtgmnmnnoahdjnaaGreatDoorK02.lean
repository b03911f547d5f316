import Derived.Test.YtgmnmnnoahdjnaaGreatDoorB22
import Derived.Test.YtgmnmnnoahdjnaaGreatDoorK01
set_option maxRecDepth 100000
set_option maxHeartbeats 16000000
set_option linter.unusedVariables false
set_option linter.unusedSimpArgs false
namespace Go.Proofs.YtgmnmnnoahdjnaaGreatDoor
section
theorem zr (was:List UInt8):∀ (l m:List (List UInt8)),bD was (l++m)=bD was l++bD (l.getLastD was) m
 | [],m=>rfl
 |t::r,m=>by
  show (if kF was t=true then 32::t else t)++bD t (r++m)=_
  rw [zr t r m,← List.append_assoc];congr 2;cases r with
  | nil=>rfl
  | cons a r=>simp [List.getLastD]
end
end Go.Proofs.YtgmnmnnoahdjnaaGreatDoor
