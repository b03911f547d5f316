/-
  NARROWER THAN 'FOR EVERY INPUT', by the rows' own cells (each row's printed sentence says how): ParseReads: laid · CollateWithin: loops, laid.
  DERIVED. THE GIVEN ROWS OF THIS SEAT. 2 by the template 'for every input the law returns true; each argument reads behind the call as it read before'; 0 by the template 'total and deterministic' (their statements: YtoejdhabpajhlaaDoorTotals.lean).
  GIVEN WITH THE SEED: the statements are not yours to turn. If you find one false, say at which input.
  Laid BY PROGRAM, IN A SANDBOX (cutbox-rows.mjs): the forced cells as the released guide's own fill.sh prints them over the translation 9a36223d6a609748… (all of the seat's roots in one cut). By AI agents, Wed Nov 11 2026. No macro, syntax, notation, axiom, sorry.
-/
import Derived.Test.YtoejdhabpajhlaaDoorChecked
import GoSem.Claim
import GoSem.ClaimJoined
import GoSem.ClaimMapViews
import Derived.JoinedTies
import Derived.KernelRfl
namespace Go.Proofs.YtoejdhabpajhlaaDoor
/- THE CELL 'sum', in the pinned program and in every row, IS THE sha256 OF THE DUMP (.gsa) THAT YtoejdhabpajhlaaDoorProg.lean LOADS. Nothing in Lean hashes anything: it is a label: what it is worth is what the hold of that sum in a sandbox is worth. -/
noncomputable def Tryd.pinned : Pinned := { name := "ytoejdhabpajhlaadoor", sum := "9a36223d6a609748a5c5e0c5eb92aef395b113859aaff24490e66c312b2404de", checked := Tryd.checked }
namespace Rows
def none {H : Type} : Left H := { results := [], args := [] }

/- WHAT THE LISTED PACKAGE-LEVEL VARIABLES READ AS WHEN THE CALL BEGINS. Each datum BY PROGRAM (the guide's laid-datum.mjs) off the statement by which the dump's own 'gosem.cut.vars' lays the variable. In a bare row this is a premise. The card (YtoejdhabpajhlaaDoorCards.lean) ties it to the program's text. -/
def laid_davenport_utf_none {H : Type} : DataW H := .agg [.lit (.int .i64 0), .lit (.int .i64 0)]

/-- 'davenportlaw05.ParseReads': WHATEVER THE INPUT: true; the input reads as it did. -/
def parseReadsSpec : ChangeSpec := { name := "parseReads", fn := fun _ => fun
  | [d] => { results := [.lit (.bool true)], args := [d] }
  | _ => none }
def parseReadsRow : OpenClaim := { program := "ytoejdhabpajhlaadoor", sum := "9a36223d6a609748a5c5e0c5eb92aef395b113859aaff24490e66c312b2404de", func := "davenport/davenportlaw05.ParseReads", spec := "parseReads", unfollowed := true, recurses := true, named := ["davenport/utf.none"], apart := false, laid := [("davenport/utf.none", laid_davenport_utf_none)] }
def ParseReadsSaid : Prop := parseReadsRow.holds Tryd.pinned (OpenSpec.ofChange parseReadsSpec)

/-- ITS FALSE NEIGHBOUR: 'it returns false'. Refute it at one input. -/
def parseReadsWrong : ChangeSpec := { name := "parseReads", fn := fun _ => fun
  | [d] => { results := [.lit (.bool false)], args := [d] }
  | _ => none }
def ParseReadsWrongFalsely : Prop := parseReadsRow.holds Tryd.pinned (OpenSpec.ofChange parseReadsWrong)

/-- 'davenportlaw07.CollateWithin': WHATEVER THE INPUT: true; the input reads as it did. -/
def collateWithinSpec : ChangeSpec := { name := "collateWithin", fn := fun _ => fun
  | [d1, d2, d3, d4, d5] => { results := [.lit (.bool true)], args := [d1, d2, d3, d4, d5] }
  | _ => none }
def collateWithinRow : OpenClaim := { program := "ytoejdhabpajhlaadoor", sum := "9a36223d6a609748a5c5e0c5eb92aef395b113859aaff24490e66c312b2404de", func := "davenport/davenportlaw07.CollateWithin", spec := "collateWithin", inPlace := ["internal/bytealg.abigen_runtime_cmpstring"], unfollowed := true, recurses := true, named := ["davenport/utf.none"], loops := true, apart := false, laid := [("davenport/utf.none", laid_davenport_utf_none)] }
def CollateWithinSaid : Prop := collateWithinRow.holds Tryd.pinned (OpenSpec.ofChange collateWithinSpec)

/-- ITS FALSE NEIGHBOUR: 'it returns false'. Refute it at one input. -/
def collateWithinWrong : ChangeSpec := { name := "collateWithin", fn := fun _ => fun
  | [d1, d2, d3, d4, d5] => { results := [.lit (.bool false)], args := [d1, d2, d3, d4, d5] }
  | _ => none }
def CollateWithinWrongFalsely : Prop := collateWithinRow.holds Tryd.pinned (OpenSpec.ofChange collateWithinWrong)

/- THE SECOND FORM. 'bulk': how many values and letters a reading holds, each counted each time it is reached (what is shared counts as often as it is met; a slice's spare places count too). A statement '..UptoSaid' is the law's where the arguments, and the package variables that the reading takes, are together of bulk at most 1048576: NARROWER than '..Said'. Prove '..Said' where nothing that the law and all that it calls make is longer than what came in: it says more and counts as full. Else prove '..UptoSaid'. A law counts once. -/
mutual
def uptoBulk {H : Type} : DataW H → Nat
  | .lit (.string bytes) => bytes.length + 1
  | .lit _ => 1
  | .nil => 1
  | .ptr d => uptoBulk d + 1
  | .slice elems spare => uptoBulkAll elems + uptoBulkAll spare + 1
  | .agg parts => uptoBulkAll parts + 1
  | .iface _ d => uptoBulk d + 1
  | .map entries => uptoBulkEntries entries + 1
  | .held _ => 1
def uptoBulkAll {H : Type} : List (DataW H) → Nat
  | [] => 0
  | d :: r => uptoBulk d + uptoBulkAll r
def uptoBulkEntries {H : Type} : List (Lit × DataW H) → Nat
  | [] => 0
  | x :: r => uptoBulkEntry x + uptoBulkEntries r
def uptoBulkEntry {H : Type} : Lit × DataW H → Nat
  | (.string bytes, d) => bytes.length + uptoBulk d + 1
  | (_, d) => uptoBulk d + 1
 end
def uptoSmall : (H : Type) → List (DataW H) → Bool := fun _ ds => decide (uptoBulkAll ds ≤ 1048576)
def OpenSpec.upto (s : _root_.Go.ChangeSpec) : _root_.Go.OpenSpec := { _root_.Go.OpenSpec.ofChange s with cond := some uptoSmall }

/-- 'davenportlaw05.ParseReads', WHERE WHAT IT READS IS OF BULK AT MOST 1048576: true; the input reads as it did. -/
def parseReadsUptoRow : OpenClaim := { program := "ytoejdhabpajhlaadoor", sum := "9a36223d6a609748a5c5e0c5eb92aef395b113859aaff24490e66c312b2404de", func := "davenport/davenportlaw05.ParseReads", spec := "parseReads", unfollowed := true, recurses := true, named := ["davenport/utf.none"], apart := false, laid := [("davenport/utf.none", laid_davenport_utf_none)], narrowed := true }
def ParseReadsUptoSaid : Prop := parseReadsUptoRow.holds Tryd.pinned (OpenSpec.upto parseReadsSpec)

/-- 'davenportlaw07.CollateWithin', WHERE WHAT IT READS IS OF BULK AT MOST 1048576: true; the input reads as it did. -/
def collateWithinUptoRow : OpenClaim := { program := "ytoejdhabpajhlaadoor", sum := "9a36223d6a609748a5c5e0c5eb92aef395b113859aaff24490e66c312b2404de", func := "davenport/davenportlaw07.CollateWithin", spec := "collateWithin", inPlace := ["internal/bytealg.abigen_runtime_cmpstring"], unfollowed := true, recurses := true, named := ["davenport/utf.none"], loops := true, apart := false, laid := [("davenport/utf.none", laid_davenport_utf_none)], narrowed := true }
def CollateWithinUptoSaid : Prop := collateWithinUptoRow.holds Tryd.pinned (OpenSpec.upto collateWithinSpec)

end Rows
end Go.Proofs.YtoejdhabpajhlaaDoor
