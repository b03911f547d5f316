/-
  NARROWER THAN 'FOR EVERY INPUT', by the rows' own cells (each row's printed sentence says how): VlexLexes: laid · VlexNames: laid · VlexSaid: laid · VlexJoins: laid · VlexAlone: laid · ParseReads: laid · ParseAt: laid · ParseCuts: laid · ParseEnds: laid · ParseMay: laid · ParseBlanks: laid · ParseWithin: laid.
  DERIVED. THE GIVEN ROWS OF THIS SEAT. 12 by the template 'for every input the law returns true; each argument reads behind the call as it read before'; 0 by the template 'total and deterministic' (their statements: YtalhoacancbldaaDoorTotals.lean).
  GIVEN WITH THE SEED: the statements are not yours to turn. If you find one false, say at which input.
  Laid BY PROGRAM, IN A SANDBOX (cutbox-rows.mjs): the forced cells as the released guide's own fill.sh prints them over the translation 19aadfbdb3098374… (all of the seat's roots in one cut). By AI agents, Wed Nov 11 2026. No macro, syntax, notation, axiom, sorry.
-/
import Derived.Test.YtalhoacancbldaaDoorChecked
import GoSem.Claim
import GoSem.ClaimJoined
import GoSem.ClaimMapViews
import Derived.JoinedTies
import Derived.KernelRfl
namespace Go.Proofs.YtalhoacancbldaaDoor
/- THE CELL 'sum', in the pinned program and in every row, IS THE sha256 OF THE DUMP (.gsa) THAT YtalhoacancbldaaDoorProg.lean LOADS. Nothing in Lean hashes anything: it is a label: what it is worth is what the hold of that sum in a sandbox is worth. -/
noncomputable def Tryd.pinned : Pinned := { name := "ytalhoacancbldaadoor", sum := "19aadfbdb309837467e90874d5ecf28ebb91ecdedcc73904e58b234974c7a158", checked := Tryd.checked }
namespace Rows
def none {H : Type} : Left H := { results := [], args := [] }

/- WHAT THE LISTED PACKAGE-LEVEL VARIABLES READ AS WHEN THE CALL BEGINS. Each datum BY PROGRAM (the guide's laid-datum.mjs) off the statement by which the dump's own 'gosem.cut.vars' lays the variable. In a bare row this is a premise. The card (YtalhoacancbldaaDoorCards.lean) ties it to the program's text. -/
def laid_davenport_utf_none {H : Type} : DataW H := .agg [.lit (.int .i64 0), .lit (.int .i64 0)]

/-- 'davenportlaw22.VlexLexes': WHATEVER THE INPUT: true; the input reads as it did. -/
def vlexLexesSpec : ChangeSpec := { name := "vlexLexes", fn := fun _ => fun
  | [d] => { results := [.lit (.bool true)], args := [d] }
  | _ => none }
def vlexLexesRow : OpenClaim := { program := "ytalhoacancbldaadoor", sum := "19aadfbdb309837467e90874d5ecf28ebb91ecdedcc73904e58b234974c7a158", func := "davenport/davenportlaw22.VlexLexes", spec := "vlexLexes", unfollowed := true, recurses := true, named := ["davenport/utf.none"], apart := false, laid := [("davenport/utf.none", laid_davenport_utf_none)] }
def VlexLexesSaid : Prop := vlexLexesRow.holds Tryd.pinned (OpenSpec.ofChange vlexLexesSpec)

/-- ITS FALSE NEIGHBOUR: 'it returns false'. Refute it at one input. -/
def vlexLexesWrong : ChangeSpec := { name := "vlexLexes", fn := fun _ => fun
  | [d] => { results := [.lit (.bool false)], args := [d] }
  | _ => none }
def VlexLexesWrongFalsely : Prop := vlexLexesRow.holds Tryd.pinned (OpenSpec.ofChange vlexLexesWrong)

/-- 'davenportlaw22.VlexNames': WHATEVER THE INPUT: true; the input reads as it did. -/
def vlexNamesSpec : ChangeSpec := { name := "vlexNames", fn := fun _ => fun
  | [d] => { results := [.lit (.bool true)], args := [d] }
  | _ => none }
def vlexNamesRow : OpenClaim := { program := "ytalhoacancbldaadoor", sum := "19aadfbdb309837467e90874d5ecf28ebb91ecdedcc73904e58b234974c7a158", func := "davenport/davenportlaw22.VlexNames", spec := "vlexNames", unfollowed := true, recurses := true, named := ["davenport/utf.none"], apart := false, laid := [("davenport/utf.none", laid_davenport_utf_none)] }
def VlexNamesSaid : Prop := vlexNamesRow.holds Tryd.pinned (OpenSpec.ofChange vlexNamesSpec)

/-- ITS FALSE NEIGHBOUR: 'it returns false'. Refute it at one input. -/
def vlexNamesWrong : ChangeSpec := { name := "vlexNames", fn := fun _ => fun
  | [d] => { results := [.lit (.bool false)], args := [d] }
  | _ => none }
def VlexNamesWrongFalsely : Prop := vlexNamesRow.holds Tryd.pinned (OpenSpec.ofChange vlexNamesWrong)

/-- 'davenportlaw22.VlexSaid': WHATEVER THE INPUT: true; the input reads as it did. -/
def vlexSaidSpec : ChangeSpec := { name := "vlexSaid", fn := fun _ => fun
  | [d] => { results := [.lit (.bool true)], args := [d] }
  | _ => none }
def vlexSaidRow : OpenClaim := { program := "ytalhoacancbldaadoor", sum := "19aadfbdb309837467e90874d5ecf28ebb91ecdedcc73904e58b234974c7a158", func := "davenport/davenportlaw22.VlexSaid", spec := "vlexSaid", unfollowed := true, recurses := true, named := ["davenport/utf.none"], apart := false, laid := [("davenport/utf.none", laid_davenport_utf_none)] }
def VlexSaidSaid : Prop := vlexSaidRow.holds Tryd.pinned (OpenSpec.ofChange vlexSaidSpec)

/-- ITS FALSE NEIGHBOUR: 'it returns false'. Refute it at one input. -/
def vlexSaidWrong : ChangeSpec := { name := "vlexSaid", fn := fun _ => fun
  | [d] => { results := [.lit (.bool false)], args := [d] }
  | _ => none }
def VlexSaidWrongFalsely : Prop := vlexSaidRow.holds Tryd.pinned (OpenSpec.ofChange vlexSaidWrong)

/-- 'davenportlaw22.VlexJoins': WHATEVER THE INPUT: true; the input reads as it did. -/
def vlexJoinsSpec : ChangeSpec := { name := "vlexJoins", fn := fun _ => fun
  | [d1, d2, d3] => { results := [.lit (.bool true)], args := [d1, d2, d3] }
  | _ => none }
def vlexJoinsRow : OpenClaim := { program := "ytalhoacancbldaadoor", sum := "19aadfbdb309837467e90874d5ecf28ebb91ecdedcc73904e58b234974c7a158", func := "davenport/davenportlaw22.VlexJoins", spec := "vlexJoins", unfollowed := true, recurses := true, named := ["davenport/utf.none"], apart := false, laid := [("davenport/utf.none", laid_davenport_utf_none)] }
def VlexJoinsSaid : Prop := vlexJoinsRow.holds Tryd.pinned (OpenSpec.ofChange vlexJoinsSpec)

/-- ITS FALSE NEIGHBOUR: 'it returns false'. Refute it at one input. -/
def vlexJoinsWrong : ChangeSpec := { name := "vlexJoins", fn := fun _ => fun
  | [d1, d2, d3] => { results := [.lit (.bool false)], args := [d1, d2, d3] }
  | _ => none }
def VlexJoinsWrongFalsely : Prop := vlexJoinsRow.holds Tryd.pinned (OpenSpec.ofChange vlexJoinsWrong)

/-- 'davenportlaw22.VlexAlone': WHATEVER THE INPUT: true; the input reads as it did. -/
def vlexAloneSpec : ChangeSpec := { name := "vlexAlone", fn := fun _ => fun
  | [d] => { results := [.lit (.bool true)], args := [d] }
  | _ => none }
def vlexAloneRow : OpenClaim := { program := "ytalhoacancbldaadoor", sum := "19aadfbdb309837467e90874d5ecf28ebb91ecdedcc73904e58b234974c7a158", func := "davenport/davenportlaw22.VlexAlone", spec := "vlexAlone", unfollowed := true, recurses := true, named := ["davenport/utf.none"], apart := false, laid := [("davenport/utf.none", laid_davenport_utf_none)] }
def VlexAloneSaid : Prop := vlexAloneRow.holds Tryd.pinned (OpenSpec.ofChange vlexAloneSpec)

/-- ITS FALSE NEIGHBOUR: 'it returns false'. Refute it at one input. -/
def vlexAloneWrong : ChangeSpec := { name := "vlexAlone", fn := fun _ => fun
  | [d] => { results := [.lit (.bool false)], args := [d] }
  | _ => none }
def VlexAloneWrongFalsely : Prop := vlexAloneRow.holds Tryd.pinned (OpenSpec.ofChange vlexAloneWrong)

/-- 'davenportlaw05.ParseReads': WHATEVER THE INPUT: true; the input reads as it did. -/
def parseReadsSpec : ChangeSpec := { name := "parseReads", fn := fun _ => fun
  | [d] => { results := [.lit (.bool true)], args := [d] }
  | _ => none }
def parseReadsRow : OpenClaim := { program := "ytalhoacancbldaadoor", sum := "19aadfbdb309837467e90874d5ecf28ebb91ecdedcc73904e58b234974c7a158", func := "davenport/davenportlaw05.ParseReads", spec := "parseReads", unfollowed := true, recurses := true, named := ["davenport/utf.none"], apart := false, laid := [("davenport/utf.none", laid_davenport_utf_none)] }
def ParseReadsSaid : Prop := parseReadsRow.holds Tryd.pinned (OpenSpec.ofChange parseReadsSpec)

/-- ITS FALSE NEIGHBOUR: 'it returns false'. Refute it at one input. -/
def parseReadsWrong : ChangeSpec := { name := "parseReads", fn := fun _ => fun
  | [d] => { results := [.lit (.bool false)], args := [d] }
  | _ => none }
def ParseReadsWrongFalsely : Prop := parseReadsRow.holds Tryd.pinned (OpenSpec.ofChange parseReadsWrong)

/-- 'davenportlaw05.ParseAt': WHATEVER THE INPUT: true; the input reads as it did. -/
def parseAtSpec : ChangeSpec := { name := "parseAt", fn := fun _ => fun
  | [d1, d2] => { results := [.lit (.bool true)], args := [d1, d2] }
  | _ => none }
def parseAtRow : OpenClaim := { program := "ytalhoacancbldaadoor", sum := "19aadfbdb309837467e90874d5ecf28ebb91ecdedcc73904e58b234974c7a158", func := "davenport/davenportlaw05.ParseAt", spec := "parseAt", unfollowed := true, recurses := true, named := ["davenport/utf.none"], apart := false, laid := [("davenport/utf.none", laid_davenport_utf_none)] }
def ParseAtSaid : Prop := parseAtRow.holds Tryd.pinned (OpenSpec.ofChange parseAtSpec)

/-- ITS FALSE NEIGHBOUR: 'it returns false'. Refute it at one input. -/
def parseAtWrong : ChangeSpec := { name := "parseAt", fn := fun _ => fun
  | [d1, d2] => { results := [.lit (.bool false)], args := [d1, d2] }
  | _ => none }
def ParseAtWrongFalsely : Prop := parseAtRow.holds Tryd.pinned (OpenSpec.ofChange parseAtWrong)

/-- 'davenportlaw05.ParseCuts': WHATEVER THE INPUT: true; the input reads as it did. -/
def parseCutsSpec : ChangeSpec := { name := "parseCuts", fn := fun _ => fun
  | [d1, d2] => { results := [.lit (.bool true)], args := [d1, d2] }
  | _ => none }
def parseCutsRow : OpenClaim := { program := "ytalhoacancbldaadoor", sum := "19aadfbdb309837467e90874d5ecf28ebb91ecdedcc73904e58b234974c7a158", func := "davenport/davenportlaw05.ParseCuts", spec := "parseCuts", unfollowed := true, recurses := true, named := ["davenport/utf.none"], apart := false, laid := [("davenport/utf.none", laid_davenport_utf_none)] }
def ParseCutsSaid : Prop := parseCutsRow.holds Tryd.pinned (OpenSpec.ofChange parseCutsSpec)

/-- ITS FALSE NEIGHBOUR: 'it returns false'. Refute it at one input. -/
def parseCutsWrong : ChangeSpec := { name := "parseCuts", fn := fun _ => fun
  | [d1, d2] => { results := [.lit (.bool false)], args := [d1, d2] }
  | _ => none }
def ParseCutsWrongFalsely : Prop := parseCutsRow.holds Tryd.pinned (OpenSpec.ofChange parseCutsWrong)

/-- 'davenportlaw05.ParseEnds': WHATEVER THE INPUT: true; the input reads as it did. -/
def parseEndsSpec : ChangeSpec := { name := "parseEnds", fn := fun _ => fun
  | [d1, d2] => { results := [.lit (.bool true)], args := [d1, d2] }
  | _ => none }
def parseEndsRow : OpenClaim := { program := "ytalhoacancbldaadoor", sum := "19aadfbdb309837467e90874d5ecf28ebb91ecdedcc73904e58b234974c7a158", func := "davenport/davenportlaw05.ParseEnds", spec := "parseEnds", unfollowed := true, recurses := true, named := ["davenport/utf.none"], apart := false, laid := [("davenport/utf.none", laid_davenport_utf_none)] }
def ParseEndsSaid : Prop := parseEndsRow.holds Tryd.pinned (OpenSpec.ofChange parseEndsSpec)

/-- ITS FALSE NEIGHBOUR: 'it returns false'. Refute it at one input. -/
def parseEndsWrong : ChangeSpec := { name := "parseEnds", fn := fun _ => fun
  | [d1, d2] => { results := [.lit (.bool false)], args := [d1, d2] }
  | _ => none }
def ParseEndsWrongFalsely : Prop := parseEndsRow.holds Tryd.pinned (OpenSpec.ofChange parseEndsWrong)

/-- 'davenportlaw05.ParseMay': WHATEVER THE INPUT: true; the input reads as it did. -/
def parseMaySpec : ChangeSpec := { name := "parseMay", fn := fun _ => fun
  | [d] => { results := [.lit (.bool true)], args := [d] }
  | _ => none }
def parseMayRow : OpenClaim := { program := "ytalhoacancbldaadoor", sum := "19aadfbdb309837467e90874d5ecf28ebb91ecdedcc73904e58b234974c7a158", func := "davenport/davenportlaw05.ParseMay", spec := "parseMay", unfollowed := true, recurses := true, named := ["davenport/utf.none"], apart := false, laid := [("davenport/utf.none", laid_davenport_utf_none)] }
def ParseMaySaid : Prop := parseMayRow.holds Tryd.pinned (OpenSpec.ofChange parseMaySpec)

/-- ITS FALSE NEIGHBOUR: 'it returns false'. Refute it at one input. -/
def parseMayWrong : ChangeSpec := { name := "parseMay", fn := fun _ => fun
  | [d] => { results := [.lit (.bool false)], args := [d] }
  | _ => none }
def ParseMayWrongFalsely : Prop := parseMayRow.holds Tryd.pinned (OpenSpec.ofChange parseMayWrong)

/-- 'davenportlaw05.ParseBlanks': WHATEVER THE INPUT: true; the input reads as it did. -/
def parseBlanksSpec : ChangeSpec := { name := "parseBlanks", fn := fun _ => fun
  | [d1, d2, d3] => { results := [.lit (.bool true)], args := [d1, d2, d3] }
  | _ => none }
def parseBlanksRow : OpenClaim := { program := "ytalhoacancbldaadoor", sum := "19aadfbdb309837467e90874d5ecf28ebb91ecdedcc73904e58b234974c7a158", func := "davenport/davenportlaw05.ParseBlanks", spec := "parseBlanks", unfollowed := true, recurses := true, named := ["davenport/utf.none"], apart := false, laid := [("davenport/utf.none", laid_davenport_utf_none)] }
def ParseBlanksSaid : Prop := parseBlanksRow.holds Tryd.pinned (OpenSpec.ofChange parseBlanksSpec)

/-- ITS FALSE NEIGHBOUR: 'it returns false'. Refute it at one input. -/
def parseBlanksWrong : ChangeSpec := { name := "parseBlanks", fn := fun _ => fun
  | [d1, d2, d3] => { results := [.lit (.bool false)], args := [d1, d2, d3] }
  | _ => none }
def ParseBlanksWrongFalsely : Prop := parseBlanksRow.holds Tryd.pinned (OpenSpec.ofChange parseBlanksWrong)

/-- 'davenportlaw05.ParseWithin': WHATEVER THE INPUT: true; the input reads as it did. -/
def parseWithinSpec : ChangeSpec := { name := "parseWithin", fn := fun _ => fun
  | [d1, d2] => { results := [.lit (.bool true)], args := [d1, d2] }
  | _ => none }
def parseWithinRow : OpenClaim := { program := "ytalhoacancbldaadoor", sum := "19aadfbdb309837467e90874d5ecf28ebb91ecdedcc73904e58b234974c7a158", func := "davenport/davenportlaw05.ParseWithin", spec := "parseWithin", unfollowed := true, recurses := true, named := ["davenport/utf.none"], apart := false, laid := [("davenport/utf.none", laid_davenport_utf_none)] }
def ParseWithinSaid : Prop := parseWithinRow.holds Tryd.pinned (OpenSpec.ofChange parseWithinSpec)

/-- ITS FALSE NEIGHBOUR: 'it returns false'. Refute it at one input. -/
def parseWithinWrong : ChangeSpec := { name := "parseWithin", fn := fun _ => fun
  | [d1, d2] => { results := [.lit (.bool false)], args := [d1, d2] }
  | _ => none }
def ParseWithinWrongFalsely : Prop := parseWithinRow.holds Tryd.pinned (OpenSpec.ofChange parseWithinWrong)

/- THE SECOND FORM. 'bulk': how many values and letters a reading holds, each counted each time it is reached (what is shared counts as often as it is met; a slice's spare places count too). A statement '..UptoSaid' is the law's where the arguments, and the package variables that the reading takes, are together of bulk at most 1048576: NARROWER than '..Said'. Prove '..Said' where nothing that the law and all that it calls make is longer than what came in: it says more and counts as full. Else prove '..UptoSaid'. A law counts once. -/
mutual
def uptoBulk {H : Type} : DataW H → Nat
  | .lit (.string bytes) => bytes.length + 1
  | .lit _ => 1
  | .nil => 1
  | .ptr d => uptoBulk d + 1
  | .slice elems spare => uptoBulkAll elems + uptoBulkAll spare + 1
  | .agg parts => uptoBulkAll parts + 1
  | .iface _ d => uptoBulk d + 1
  | .map entries => uptoBulkEntries entries + 1
  | .held _ => 1
def uptoBulkAll {H : Type} : List (DataW H) → Nat
  | [] => 0
  | d :: r => uptoBulk d + uptoBulkAll r
def uptoBulkEntries {H : Type} : List (Lit × DataW H) → Nat
  | [] => 0
  | x :: r => uptoBulkEntry x + uptoBulkEntries r
def uptoBulkEntry {H : Type} : Lit × DataW H → Nat
  | (.string bytes, d) => bytes.length + uptoBulk d + 1
  | (_, d) => uptoBulk d + 1
 end
def uptoSmall : (H : Type) → List (DataW H) → Bool := fun _ ds => decide (uptoBulkAll ds ≤ 1048576)
def OpenSpec.upto (s : _root_.Go.ChangeSpec) : _root_.Go.OpenSpec := { _root_.Go.OpenSpec.ofChange s with cond := some uptoSmall }

/-- 'davenportlaw22.VlexLexes', WHERE WHAT IT READS IS OF BULK AT MOST 1048576: true; the input reads as it did. -/
def vlexLexesUptoRow : OpenClaim := { program := "ytalhoacancbldaadoor", sum := "19aadfbdb309837467e90874d5ecf28ebb91ecdedcc73904e58b234974c7a158", func := "davenport/davenportlaw22.VlexLexes", spec := "vlexLexes", unfollowed := true, recurses := true, named := ["davenport/utf.none"], apart := false, laid := [("davenport/utf.none", laid_davenport_utf_none)], narrowed := true }
def VlexLexesUptoSaid : Prop := vlexLexesUptoRow.holds Tryd.pinned (OpenSpec.upto vlexLexesSpec)

/-- 'davenportlaw22.VlexNames', WHERE WHAT IT READS IS OF BULK AT MOST 1048576: true; the input reads as it did. -/
def vlexNamesUptoRow : OpenClaim := { program := "ytalhoacancbldaadoor", sum := "19aadfbdb309837467e90874d5ecf28ebb91ecdedcc73904e58b234974c7a158", func := "davenport/davenportlaw22.VlexNames", spec := "vlexNames", unfollowed := true, recurses := true, named := ["davenport/utf.none"], apart := false, laid := [("davenport/utf.none", laid_davenport_utf_none)], narrowed := true }
def VlexNamesUptoSaid : Prop := vlexNamesUptoRow.holds Tryd.pinned (OpenSpec.upto vlexNamesSpec)

/-- 'davenportlaw22.VlexSaid', WHERE WHAT IT READS IS OF BULK AT MOST 1048576: true; the input reads as it did. -/
def vlexSaidUptoRow : OpenClaim := { program := "ytalhoacancbldaadoor", sum := "19aadfbdb309837467e90874d5ecf28ebb91ecdedcc73904e58b234974c7a158", func := "davenport/davenportlaw22.VlexSaid", spec := "vlexSaid", unfollowed := true, recurses := true, named := ["davenport/utf.none"], apart := false, laid := [("davenport/utf.none", laid_davenport_utf_none)], narrowed := true }
def VlexSaidUptoSaid : Prop := vlexSaidUptoRow.holds Tryd.pinned (OpenSpec.upto vlexSaidSpec)

/-- 'davenportlaw22.VlexJoins', WHERE WHAT IT READS IS OF BULK AT MOST 1048576: true; the input reads as it did. -/
def vlexJoinsUptoRow : OpenClaim := { program := "ytalhoacancbldaadoor", sum := "19aadfbdb309837467e90874d5ecf28ebb91ecdedcc73904e58b234974c7a158", func := "davenport/davenportlaw22.VlexJoins", spec := "vlexJoins", unfollowed := true, recurses := true, named := ["davenport/utf.none"], apart := false, laid := [("davenport/utf.none", laid_davenport_utf_none)], narrowed := true }
def VlexJoinsUptoSaid : Prop := vlexJoinsUptoRow.holds Tryd.pinned (OpenSpec.upto vlexJoinsSpec)

/-- 'davenportlaw22.VlexAlone', WHERE WHAT IT READS IS OF BULK AT MOST 1048576: true; the input reads as it did. -/
def vlexAloneUptoRow : OpenClaim := { program := "ytalhoacancbldaadoor", sum := "19aadfbdb309837467e90874d5ecf28ebb91ecdedcc73904e58b234974c7a158", func := "davenport/davenportlaw22.VlexAlone", spec := "vlexAlone", unfollowed := true, recurses := true, named := ["davenport/utf.none"], apart := false, laid := [("davenport/utf.none", laid_davenport_utf_none)], narrowed := true }
def VlexAloneUptoSaid : Prop := vlexAloneUptoRow.holds Tryd.pinned (OpenSpec.upto vlexAloneSpec)

/-- 'davenportlaw05.ParseReads', WHERE WHAT IT READS IS OF BULK AT MOST 1048576: true; the input reads as it did. -/
def parseReadsUptoRow : OpenClaim := { program := "ytalhoacancbldaadoor", sum := "19aadfbdb309837467e90874d5ecf28ebb91ecdedcc73904e58b234974c7a158", func := "davenport/davenportlaw05.ParseReads", spec := "parseReads", unfollowed := true, recurses := true, named := ["davenport/utf.none"], apart := false, laid := [("davenport/utf.none", laid_davenport_utf_none)], narrowed := true }
def ParseReadsUptoSaid : Prop := parseReadsUptoRow.holds Tryd.pinned (OpenSpec.upto parseReadsSpec)

/-- 'davenportlaw05.ParseAt', WHERE WHAT IT READS IS OF BULK AT MOST 1048576: true; the input reads as it did. -/
def parseAtUptoRow : OpenClaim := { program := "ytalhoacancbldaadoor", sum := "19aadfbdb309837467e90874d5ecf28ebb91ecdedcc73904e58b234974c7a158", func := "davenport/davenportlaw05.ParseAt", spec := "parseAt", unfollowed := true, recurses := true, named := ["davenport/utf.none"], apart := false, laid := [("davenport/utf.none", laid_davenport_utf_none)], narrowed := true }
def ParseAtUptoSaid : Prop := parseAtUptoRow.holds Tryd.pinned (OpenSpec.upto parseAtSpec)

/-- 'davenportlaw05.ParseCuts', WHERE WHAT IT READS IS OF BULK AT MOST 1048576: true; the input reads as it did. -/
def parseCutsUptoRow : OpenClaim := { program := "ytalhoacancbldaadoor", sum := "19aadfbdb309837467e90874d5ecf28ebb91ecdedcc73904e58b234974c7a158", func := "davenport/davenportlaw05.ParseCuts", spec := "parseCuts", unfollowed := true, recurses := true, named := ["davenport/utf.none"], apart := false, laid := [("davenport/utf.none", laid_davenport_utf_none)], narrowed := true }
def ParseCutsUptoSaid : Prop := parseCutsUptoRow.holds Tryd.pinned (OpenSpec.upto parseCutsSpec)

/-- 'davenportlaw05.ParseEnds', WHERE WHAT IT READS IS OF BULK AT MOST 1048576: true; the input reads as it did. -/
def parseEndsUptoRow : OpenClaim := { program := "ytalhoacancbldaadoor", sum := "19aadfbdb309837467e90874d5ecf28ebb91ecdedcc73904e58b234974c7a158", func := "davenport/davenportlaw05.ParseEnds", spec := "parseEnds", unfollowed := true, recurses := true, named := ["davenport/utf.none"], apart := false, laid := [("davenport/utf.none", laid_davenport_utf_none)], narrowed := true }
def ParseEndsUptoSaid : Prop := parseEndsUptoRow.holds Tryd.pinned (OpenSpec.upto parseEndsSpec)

/-- 'davenportlaw05.ParseMay', WHERE WHAT IT READS IS OF BULK AT MOST 1048576: true; the input reads as it did. -/
def parseMayUptoRow : OpenClaim := { program := "ytalhoacancbldaadoor", sum := "19aadfbdb309837467e90874d5ecf28ebb91ecdedcc73904e58b234974c7a158", func := "davenport/davenportlaw05.ParseMay", spec := "parseMay", unfollowed := true, recurses := true, named := ["davenport/utf.none"], apart := false, laid := [("davenport/utf.none", laid_davenport_utf_none)], narrowed := true }
def ParseMayUptoSaid : Prop := parseMayUptoRow.holds Tryd.pinned (OpenSpec.upto parseMaySpec)

/-- 'davenportlaw05.ParseBlanks', WHERE WHAT IT READS IS OF BULK AT MOST 1048576: true; the input reads as it did. -/
def parseBlanksUptoRow : OpenClaim := { program := "ytalhoacancbldaadoor", sum := "19aadfbdb309837467e90874d5ecf28ebb91ecdedcc73904e58b234974c7a158", func := "davenport/davenportlaw05.ParseBlanks", spec := "parseBlanks", unfollowed := true, recurses := true, named := ["davenport/utf.none"], apart := false, laid := [("davenport/utf.none", laid_davenport_utf_none)], narrowed := true }
def ParseBlanksUptoSaid : Prop := parseBlanksUptoRow.holds Tryd.pinned (OpenSpec.upto parseBlanksSpec)

/-- 'davenportlaw05.ParseWithin', WHERE WHAT IT READS IS OF BULK AT MOST 1048576: true; the input reads as it did. -/
def parseWithinUptoRow : OpenClaim := { program := "ytalhoacancbldaadoor", sum := "19aadfbdb309837467e90874d5ecf28ebb91ecdedcc73904e58b234974c7a158", func := "davenport/davenportlaw05.ParseWithin", spec := "parseWithin", unfollowed := true, recurses := true, named := ["davenport/utf.none"], apart := false, laid := [("davenport/utf.none", laid_davenport_utf_none)], narrowed := true }
def ParseWithinUptoSaid : Prop := parseWithinUptoRow.holds Tryd.pinned (OpenSpec.upto parseWithinSpec)

end Rows
end Go.Proofs.YtalhoacancbldaaDoor
