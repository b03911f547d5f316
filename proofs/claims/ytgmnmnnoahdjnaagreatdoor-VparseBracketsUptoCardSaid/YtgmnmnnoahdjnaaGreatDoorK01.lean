import Derived.Test.YtgmnmnnoahdjnaaGreatDoorB19
set_option maxRecDepth 100000
set_option maxHeartbeats 16000000
set_option linter.unusedVariables false
set_option linter.unusedSimpArgs false
namespace Go.Proofs.YtgmnmnnoahdjnaaGreatDoor
section
theorem zD {r:Nat} {k:Int} {v:JV} {s:List UInt8} {kids:List EJ} (h0:r≠0) (h1:okX k v s kids.length=true) (h2:∀ x ∈ kids,bi (r-1) x≠0):bi r (.mk k v s kids)≠0:=by
 unfold bi;rw [if_neg h0,if_pos h1];cases hd:cH (r-1) kids with
 | none=>exact absurd hd (jP.2 h2)
 | some m=>simp
end
end Go.Proofs.YtgmnmnnoahdjnaaGreatDoor
