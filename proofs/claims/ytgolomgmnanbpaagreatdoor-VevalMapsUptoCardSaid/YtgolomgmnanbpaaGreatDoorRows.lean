/-
  NARROWER THAN 'FOR EVERY INPUT', by the rows' own cells (each row's printed sentence says how): VevalTells: loops, laid · VevalMaps: loops, laid · VevalOrders: loops, laid · VevalCounts: laid · VevalFronts: loops, laid · VevalRenames: loops, laid · VevalMay: loops, laid.
  DERIVED. THE GIVEN ROWS OF THIS SEAT. 7 by the template 'for every input the law returns true; each argument reads behind the call as it read before'; 0 by the template 'total and deterministic' (their statements: YtgolomgmnanbpaaGreatDoorTotals.lean).
  GIVEN WITH THE SEED: the statements are not yours to turn. If you find one false, say at which input.
  Laid BY PROGRAM, IN A SANDBOX (cutbox-rows.mjs): the forced cells as the released guide's own fill.sh prints them over the translation cf91a1bab6d4bca9… (all of the seat's roots in one cut). By AI agents, Wed Nov 11 2026. No macro, syntax, notation, axiom, sorry.
-/
import Derived.Test.YtgolomgmnanbpaaGreatDoorChecked
import GoSem.Claim
import GoSem.ClaimJoined
import GoSem.ClaimMapViews
import Derived.JoinedTies
import Derived.KernelRfl
namespace Go.Proofs.YtgolomgmnanbpaaGreatDoor
/- THE CELL 'sum', in the pinned program and in every row, IS THE sha256 OF THE DUMP (.gsa) THAT YtgolomgmnanbpaaGreatDoorProg.lean LOADS. Nothing in Lean hashes anything: it is a label: what it is worth is what the hold of that sum in a sandbox is worth. -/
noncomputable def Tryz.pinned : Pinned := { name := "ytgolomgmnanbpaagreatdoor", sum := "cf91a1bab6d4bca9e387c726b4db9cec31dbdab0341bbaa1b924cccf2a00f8a6", checked := Tryz.checked }
namespace Rows
def none {H : Type} : Left H := { results := [], args := [] }

/- WHAT THE LISTED PACKAGE-LEVEL VARIABLES READ AS WHEN THE CALL BEGINS. Each datum BY PROGRAM (the guide's laid-datum.mjs) off the statement by which the dump's own 'gosem.cut.vars' lays the variable. In a bare row this is a premise. The card (YtgolomgmnanbpaaGreatDoorCards.lean) ties it to the program's text. -/
def laid_davenport_utf_none {H : Type} : DataW H := .agg [.lit (.int .i64 0), .lit (.int .i64 0)]
def laid_davenport_vparse_none {H : Type} : DataW H := .agg [.lit (.string []), .lit (.int .i64 0), .lit (.int .i64 0)]

/-- 'davenportlaw25.VevalTells': WHATEVER THE INPUT: true; the input reads as it did. -/
def vevalTellsSpec : ChangeSpec := { name := "vevalTells", fn := fun _ => fun
  | [d1, d2] => { results := [.lit (.bool true)], args := [d1, d2] }
  | _ => none }
def vevalTellsRow : OpenClaim := { program := "ytgolomgmnanbpaagreatdoor", sum := "cf91a1bab6d4bca9e387c726b4db9cec31dbdab0341bbaa1b924cccf2a00f8a6", func := "davenport/davenportlaw25.VevalTells", spec := "vevalTells", inPlace := ["internal/bytealg.abigen_runtime_cmpstring"], unfollowed := true, recurses := true, named := ["davenport/vparse.none", "davenport/utf.none"], loops := true, apart := false, laid := [("davenport/utf.none", laid_davenport_utf_none), ("davenport/vparse.none", laid_davenport_vparse_none)] }
def VevalTellsSaid : Prop := vevalTellsRow.holds Tryz.pinned (OpenSpec.ofChange vevalTellsSpec)

/-- ITS FALSE NEIGHBOUR: 'it returns false'. Refute it at one input. -/
def vevalTellsWrong : ChangeSpec := { name := "vevalTells", fn := fun _ => fun
  | [d1, d2] => { results := [.lit (.bool false)], args := [d1, d2] }
  | _ => none }
def VevalTellsWrongFalsely : Prop := vevalTellsRow.holds Tryz.pinned (OpenSpec.ofChange vevalTellsWrong)

/-- 'davenportlaw25.VevalMaps': WHATEVER THE INPUT: true; the input reads as it did. -/
def vevalMapsSpec : ChangeSpec := { name := "vevalMaps", fn := fun _ => fun
  | [d1, d2, d3] => { results := [.lit (.bool true)], args := [d1, d2, d3] }
  | _ => none }
def vevalMapsRow : OpenClaim := { program := "ytgolomgmnanbpaagreatdoor", sum := "cf91a1bab6d4bca9e387c726b4db9cec31dbdab0341bbaa1b924cccf2a00f8a6", func := "davenport/davenportlaw25.VevalMaps", spec := "vevalMaps", inPlace := ["internal/bytealg.abigen_runtime_cmpstring"], unfollowed := true, recurses := true, named := ["davenport/vparse.none", "davenport/utf.none"], loops := true, apart := false, laid := [("davenport/utf.none", laid_davenport_utf_none), ("davenport/vparse.none", laid_davenport_vparse_none)] }
def VevalMapsSaid : Prop := vevalMapsRow.holds Tryz.pinned (OpenSpec.ofChange vevalMapsSpec)

/-- ITS FALSE NEIGHBOUR: 'it returns false'. Refute it at one input. -/
def vevalMapsWrong : ChangeSpec := { name := "vevalMaps", fn := fun _ => fun
  | [d1, d2, d3] => { results := [.lit (.bool false)], args := [d1, d2, d3] }
  | _ => none }
def VevalMapsWrongFalsely : Prop := vevalMapsRow.holds Tryz.pinned (OpenSpec.ofChange vevalMapsWrong)

/-- 'davenportlaw25.VevalOrders': WHATEVER THE INPUT: true; the input reads as it did. -/
def vevalOrdersSpec : ChangeSpec := { name := "vevalOrders", fn := fun _ => fun
  | [d1, d2] => { results := [.lit (.bool true)], args := [d1, d2] }
  | _ => none }
def vevalOrdersRow : OpenClaim := { program := "ytgolomgmnanbpaagreatdoor", sum := "cf91a1bab6d4bca9e387c726b4db9cec31dbdab0341bbaa1b924cccf2a00f8a6", func := "davenport/davenportlaw25.VevalOrders", spec := "vevalOrders", inPlace := ["internal/bytealg.abigen_runtime_cmpstring"], unfollowed := true, recurses := true, named := ["davenport/vparse.none", "davenport/utf.none"], loops := true, apart := false, laid := [("davenport/utf.none", laid_davenport_utf_none), ("davenport/vparse.none", laid_davenport_vparse_none)] }
def VevalOrdersSaid : Prop := vevalOrdersRow.holds Tryz.pinned (OpenSpec.ofChange vevalOrdersSpec)

/-- ITS FALSE NEIGHBOUR: 'it returns false'. Refute it at one input. -/
def vevalOrdersWrong : ChangeSpec := { name := "vevalOrders", fn := fun _ => fun
  | [d1, d2] => { results := [.lit (.bool false)], args := [d1, d2] }
  | _ => none }
def VevalOrdersWrongFalsely : Prop := vevalOrdersRow.holds Tryz.pinned (OpenSpec.ofChange vevalOrdersWrong)

/-- 'davenportlaw25.VevalCounts': WHATEVER THE INPUT: true; the input reads as it did. -/
def vevalCountsSpec : ChangeSpec := { name := "vevalCounts", fn := fun _ => fun
  | [d1, d2, d3] => { results := [.lit (.bool true)], args := [d1, d2, d3] }
  | _ => none }
def vevalCountsRow : OpenClaim := { program := "ytgolomgmnanbpaagreatdoor", sum := "cf91a1bab6d4bca9e387c726b4db9cec31dbdab0341bbaa1b924cccf2a00f8a6", func := "davenport/davenportlaw25.VevalCounts", spec := "vevalCounts", inPlace := ["internal/bytealg.abigen_runtime_cmpstring"], unfollowed := true, recurses := true, named := ["davenport/vparse.none", "davenport/utf.none"], apart := false, laid := [("davenport/utf.none", laid_davenport_utf_none), ("davenport/vparse.none", laid_davenport_vparse_none)] }
def VevalCountsSaid : Prop := vevalCountsRow.holds Tryz.pinned (OpenSpec.ofChange vevalCountsSpec)

/-- ITS FALSE NEIGHBOUR: 'it returns false'. Refute it at one input. -/
def vevalCountsWrong : ChangeSpec := { name := "vevalCounts", fn := fun _ => fun
  | [d1, d2, d3] => { results := [.lit (.bool false)], args := [d1, d2, d3] }
  | _ => none }
def VevalCountsWrongFalsely : Prop := vevalCountsRow.holds Tryz.pinned (OpenSpec.ofChange vevalCountsWrong)

/-- 'davenportlaw25.VevalFronts': WHATEVER THE INPUT: true; the input reads as it did. -/
def vevalFrontsSpec : ChangeSpec := { name := "vevalFronts", fn := fun _ => fun
  | [d1, d2, d3] => { results := [.lit (.bool true)], args := [d1, d2, d3] }
  | _ => none }
def vevalFrontsRow : OpenClaim := { program := "ytgolomgmnanbpaagreatdoor", sum := "cf91a1bab6d4bca9e387c726b4db9cec31dbdab0341bbaa1b924cccf2a00f8a6", func := "davenport/davenportlaw25.VevalFronts", spec := "vevalFronts", inPlace := ["internal/bytealg.abigen_runtime_cmpstring"], unfollowed := true, recurses := true, named := ["davenport/vparse.none", "davenport/utf.none"], loops := true, apart := false, laid := [("davenport/utf.none", laid_davenport_utf_none), ("davenport/vparse.none", laid_davenport_vparse_none)] }
def VevalFrontsSaid : Prop := vevalFrontsRow.holds Tryz.pinned (OpenSpec.ofChange vevalFrontsSpec)

/-- ITS FALSE NEIGHBOUR: 'it returns false'. Refute it at one input. -/
def vevalFrontsWrong : ChangeSpec := { name := "vevalFronts", fn := fun _ => fun
  | [d1, d2, d3] => { results := [.lit (.bool false)], args := [d1, d2, d3] }
  | _ => none }
def VevalFrontsWrongFalsely : Prop := vevalFrontsRow.holds Tryz.pinned (OpenSpec.ofChange vevalFrontsWrong)

/-- 'davenportlaw25.VevalRenames': WHATEVER THE INPUT: true; the input reads as it did. -/
def vevalRenamesSpec : ChangeSpec := { name := "vevalRenames", fn := fun _ => fun
  | [d1, d2, d3, d4] => { results := [.lit (.bool true)], args := [d1, d2, d3, d4] }
  | _ => none }
def vevalRenamesRow : OpenClaim := { program := "ytgolomgmnanbpaagreatdoor", sum := "cf91a1bab6d4bca9e387c726b4db9cec31dbdab0341bbaa1b924cccf2a00f8a6", func := "davenport/davenportlaw25.VevalRenames", spec := "vevalRenames", inPlace := ["internal/bytealg.abigen_runtime_cmpstring"], unfollowed := true, recurses := true, named := ["davenport/vparse.none", "davenport/utf.none"], loops := true, apart := false, laid := [("davenport/utf.none", laid_davenport_utf_none), ("davenport/vparse.none", laid_davenport_vparse_none)] }
def VevalRenamesSaid : Prop := vevalRenamesRow.holds Tryz.pinned (OpenSpec.ofChange vevalRenamesSpec)

/-- ITS FALSE NEIGHBOUR: 'it returns false'. Refute it at one input. -/
def vevalRenamesWrong : ChangeSpec := { name := "vevalRenames", fn := fun _ => fun
  | [d1, d2, d3, d4] => { results := [.lit (.bool false)], args := [d1, d2, d3, d4] }
  | _ => none }
def VevalRenamesWrongFalsely : Prop := vevalRenamesRow.holds Tryz.pinned (OpenSpec.ofChange vevalRenamesWrong)

/-- 'davenportlaw25.VevalMay': WHATEVER THE INPUT: true; the input reads as it did. -/
def vevalMaySpec : ChangeSpec := { name := "vevalMay", fn := fun _ => fun
  | [d1, d2, d3] => { results := [.lit (.bool true)], args := [d1, d2, d3] }
  | _ => none }
def vevalMayRow : OpenClaim := { program := "ytgolomgmnanbpaagreatdoor", sum := "cf91a1bab6d4bca9e387c726b4db9cec31dbdab0341bbaa1b924cccf2a00f8a6", func := "davenport/davenportlaw25.VevalMay", spec := "vevalMay", inPlace := ["internal/bytealg.abigen_runtime_cmpstring", "internal/abi.NoEscape", "internal/bytealg.MakeNoZero"], unfollowed := true, recurses := true, named := ["davenport/vparse.none", "davenport/utf.none"], loops := true, apart := false, laid := [("davenport/utf.none", laid_davenport_utf_none), ("davenport/vparse.none", laid_davenport_vparse_none)] }
def VevalMaySaid : Prop := vevalMayRow.holds Tryz.pinned (OpenSpec.ofChange vevalMaySpec)

/-- ITS FALSE NEIGHBOUR: 'it returns false'. Refute it at one input. -/
def vevalMayWrong : ChangeSpec := { name := "vevalMay", fn := fun _ => fun
  | [d1, d2, d3] => { results := [.lit (.bool false)], args := [d1, d2, d3] }
  | _ => none }
def VevalMayWrongFalsely : Prop := vevalMayRow.holds Tryz.pinned (OpenSpec.ofChange vevalMayWrong)

/- THE SECOND FORM. 'bulk': how many values and letters a reading holds, each counted each time it is reached (what is shared counts as often as it is met; a slice's spare places count too). A statement '..UptoSaid' is the law's where the arguments, and the package variables that the reading takes, are together of bulk at most 1048576: NARROWER than '..Said'. Prove '..Said' where nothing that the law and all that it calls make is longer than what came in: it says more and counts as full. Else prove '..UptoSaid'. A law counts once. -/
mutual
def uptoBulk {H : Type} : DataW H → Nat
  | .lit (.string bytes) => bytes.length + 1
  | .lit _ => 1
  | .nil => 1
  | .ptr d => uptoBulk d + 1
  | .slice elems spare => uptoBulkAll elems + uptoBulkAll spare + 1
  | .agg parts => uptoBulkAll parts + 1
  | .iface _ d => uptoBulk d + 1
  | .map entries => uptoBulkEntries entries + 1
  | .held _ => 1
def uptoBulkAll {H : Type} : List (DataW H) → Nat
  | [] => 0
  | d :: r => uptoBulk d + uptoBulkAll r
def uptoBulkEntries {H : Type} : List (Lit × DataW H) → Nat
  | [] => 0
  | x :: r => uptoBulkEntry x + uptoBulkEntries r
def uptoBulkEntry {H : Type} : Lit × DataW H → Nat
  | (.string bytes, d) => bytes.length + uptoBulk d + 1
  | (_, d) => uptoBulk d + 1
 end
def uptoSmall : (H : Type) → List (DataW H) → Bool := fun _ ds => decide (uptoBulkAll ds ≤ 1048576)
def OpenSpec.upto (s : _root_.Go.ChangeSpec) : _root_.Go.OpenSpec := { _root_.Go.OpenSpec.ofChange s with cond := some uptoSmall }

/-- 'davenportlaw25.VevalTells', WHERE WHAT IT READS IS OF BULK AT MOST 1048576: true; the input reads as it did. -/
def vevalTellsUptoRow : OpenClaim := { program := "ytgolomgmnanbpaagreatdoor", sum := "cf91a1bab6d4bca9e387c726b4db9cec31dbdab0341bbaa1b924cccf2a00f8a6", func := "davenport/davenportlaw25.VevalTells", spec := "vevalTells", inPlace := ["internal/bytealg.abigen_runtime_cmpstring"], unfollowed := true, recurses := true, named := ["davenport/vparse.none", "davenport/utf.none"], loops := true, apart := false, laid := [("davenport/utf.none", laid_davenport_utf_none), ("davenport/vparse.none", laid_davenport_vparse_none)], narrowed := true }
def VevalTellsUptoSaid : Prop := vevalTellsUptoRow.holds Tryz.pinned (OpenSpec.upto vevalTellsSpec)

/-- 'davenportlaw25.VevalMaps', WHERE WHAT IT READS IS OF BULK AT MOST 1048576: true; the input reads as it did. -/
def vevalMapsUptoRow : OpenClaim := { program := "ytgolomgmnanbpaagreatdoor", sum := "cf91a1bab6d4bca9e387c726b4db9cec31dbdab0341bbaa1b924cccf2a00f8a6", func := "davenport/davenportlaw25.VevalMaps", spec := "vevalMaps", inPlace := ["internal/bytealg.abigen_runtime_cmpstring"], unfollowed := true, recurses := true, named := ["davenport/vparse.none", "davenport/utf.none"], loops := true, apart := false, laid := [("davenport/utf.none", laid_davenport_utf_none), ("davenport/vparse.none", laid_davenport_vparse_none)], narrowed := true }
def VevalMapsUptoSaid : Prop := vevalMapsUptoRow.holds Tryz.pinned (OpenSpec.upto vevalMapsSpec)

/-- 'davenportlaw25.VevalOrders', WHERE WHAT IT READS IS OF BULK AT MOST 1048576: true; the input reads as it did. -/
def vevalOrdersUptoRow : OpenClaim := { program := "ytgolomgmnanbpaagreatdoor", sum := "cf91a1bab6d4bca9e387c726b4db9cec31dbdab0341bbaa1b924cccf2a00f8a6", func := "davenport/davenportlaw25.VevalOrders", spec := "vevalOrders", inPlace := ["internal/bytealg.abigen_runtime_cmpstring"], unfollowed := true, recurses := true, named := ["davenport/vparse.none", "davenport/utf.none"], loops := true, apart := false, laid := [("davenport/utf.none", laid_davenport_utf_none), ("davenport/vparse.none", laid_davenport_vparse_none)], narrowed := true }
def VevalOrdersUptoSaid : Prop := vevalOrdersUptoRow.holds Tryz.pinned (OpenSpec.upto vevalOrdersSpec)

/-- 'davenportlaw25.VevalCounts', WHERE WHAT IT READS IS OF BULK AT MOST 1048576: true; the input reads as it did. -/
def vevalCountsUptoRow : OpenClaim := { program := "ytgolomgmnanbpaagreatdoor", sum := "cf91a1bab6d4bca9e387c726b4db9cec31dbdab0341bbaa1b924cccf2a00f8a6", func := "davenport/davenportlaw25.VevalCounts", spec := "vevalCounts", inPlace := ["internal/bytealg.abigen_runtime_cmpstring"], unfollowed := true, recurses := true, named := ["davenport/vparse.none", "davenport/utf.none"], apart := false, laid := [("davenport/utf.none", laid_davenport_utf_none), ("davenport/vparse.none", laid_davenport_vparse_none)], narrowed := true }
def VevalCountsUptoSaid : Prop := vevalCountsUptoRow.holds Tryz.pinned (OpenSpec.upto vevalCountsSpec)

/-- 'davenportlaw25.VevalFronts', WHERE WHAT IT READS IS OF BULK AT MOST 1048576: true; the input reads as it did. -/
def vevalFrontsUptoRow : OpenClaim := { program := "ytgolomgmnanbpaagreatdoor", sum := "cf91a1bab6d4bca9e387c726b4db9cec31dbdab0341bbaa1b924cccf2a00f8a6", func := "davenport/davenportlaw25.VevalFronts", spec := "vevalFronts", inPlace := ["internal/bytealg.abigen_runtime_cmpstring"], unfollowed := true, recurses := true, named := ["davenport/vparse.none", "davenport/utf.none"], loops := true, apart := false, laid := [("davenport/utf.none", laid_davenport_utf_none), ("davenport/vparse.none", laid_davenport_vparse_none)], narrowed := true }
def VevalFrontsUptoSaid : Prop := vevalFrontsUptoRow.holds Tryz.pinned (OpenSpec.upto vevalFrontsSpec)

/-- 'davenportlaw25.VevalRenames', WHERE WHAT IT READS IS OF BULK AT MOST 1048576: true; the input reads as it did. -/
def vevalRenamesUptoRow : OpenClaim := { program := "ytgolomgmnanbpaagreatdoor", sum := "cf91a1bab6d4bca9e387c726b4db9cec31dbdab0341bbaa1b924cccf2a00f8a6", func := "davenport/davenportlaw25.VevalRenames", spec := "vevalRenames", inPlace := ["internal/bytealg.abigen_runtime_cmpstring"], unfollowed := true, recurses := true, named := ["davenport/vparse.none", "davenport/utf.none"], loops := true, apart := false, laid := [("davenport/utf.none", laid_davenport_utf_none), ("davenport/vparse.none", laid_davenport_vparse_none)], narrowed := true }
def VevalRenamesUptoSaid : Prop := vevalRenamesUptoRow.holds Tryz.pinned (OpenSpec.upto vevalRenamesSpec)

/-- 'davenportlaw25.VevalMay', WHERE WHAT IT READS IS OF BULK AT MOST 1048576: true; the input reads as it did. -/
def vevalMayUptoRow : OpenClaim := { program := "ytgolomgmnanbpaagreatdoor", sum := "cf91a1bab6d4bca9e387c726b4db9cec31dbdab0341bbaa1b924cccf2a00f8a6", func := "davenport/davenportlaw25.VevalMay", spec := "vevalMay", inPlace := ["internal/bytealg.abigen_runtime_cmpstring", "internal/abi.NoEscape", "internal/bytealg.MakeNoZero"], unfollowed := true, recurses := true, named := ["davenport/vparse.none", "davenport/utf.none"], loops := true, apart := false, laid := [("davenport/utf.none", laid_davenport_utf_none), ("davenport/vparse.none", laid_davenport_vparse_none)], narrowed := true }
def VevalMayUptoSaid : Prop := vevalMayUptoRow.holds Tryz.pinned (OpenSpec.upto vevalMaySpec)

end Rows
end Go.Proofs.YtgolomgmnanbpaaGreatDoor
