/-
  NARROWER THAN 'FOR EVERY INPUT', by the rows' own cells (each row's printed sentence says how): VlexLexes: laid · VlexNames: laid · VlexSaid: laid · VlexJoins: laid · VlexAlone: laid.
  DERIVED. THE GIVEN ROWS OF THIS SEAT. 5 by the template 'for every input the law returns true; each argument reads behind the call as it read before'; 0 by the template 'total and deterministic' (their statements: YteeldajkfplomaaDoorTotals.lean).
  GIVEN WITH THE SEED: the statements are not yours to turn. If you find one false, say at which input.
  Laid BY PROGRAM, IN A SANDBOX (cutbox-rows.mjs): the forced cells as the released guide's own fill.sh prints them over the translation 82dfa1f7e6317992… (all of the seat's roots in one cut). By AI agents, Wed Nov 11 2026. No macro, syntax, notation, axiom, sorry.
-/
import Derived.Test.YteeldajkfplomaaDoorChecked
import GoSem.Claim
import GoSem.ClaimJoined
import GoSem.ClaimMapViews
import Derived.JoinedTies
import Derived.KernelRfl
namespace Go.Proofs.YteeldajkfplomaaDoor
/- THE CELL 'sum', in the pinned program and in every row, IS THE sha256 OF THE DUMP (.gsa) THAT YteeldajkfplomaaDoorProg.lean LOADS. Nothing in Lean hashes anything: it is a label: what it is worth is what the hold of that sum in a sandbox is worth. -/
noncomputable def Tryd.pinned : Pinned := { name := "yteeldajkfplomaadoor", sum := "82dfa1f7e6317992983b7b198af5f10011f0fc67e3f94a0ac0d3461ab9ab984e", checked := Tryd.checked }
namespace Rows
def none {H : Type} : Left H := { results := [], args := [] }

/- WHAT THE LISTED PACKAGE-LEVEL VARIABLES READ AS WHEN THE CALL BEGINS. Each datum BY PROGRAM (the guide's laid-datum.mjs) off the statement by which the dump's own 'gosem.cut.vars' lays the variable. In a bare row this is a premise. The card (YteeldajkfplomaaDoorCards.lean) ties it to the program's text. -/
def laid_davenport_utf_none {H : Type} : DataW H := .agg [.lit (.int .i64 0), .lit (.int .i64 0)]

/-- 'davenportlaw22.VlexLexes': WHATEVER THE INPUT: true; the input reads as it did. -/
def vlexLexesSpec : ChangeSpec := { name := "vlexLexes", fn := fun _ => fun
  | [d] => { results := [.lit (.bool true)], args := [d] }
  | _ => none }
def vlexLexesRow : OpenClaim := { program := "yteeldajkfplomaadoor", sum := "82dfa1f7e6317992983b7b198af5f10011f0fc67e3f94a0ac0d3461ab9ab984e", func := "davenport/davenportlaw22.VlexLexes", spec := "vlexLexes", unfollowed := true, recurses := true, named := ["davenport/utf.none"], apart := false, laid := [("davenport/utf.none", laid_davenport_utf_none)] }
def VlexLexesSaid : Prop := vlexLexesRow.holds Tryd.pinned (OpenSpec.ofChange vlexLexesSpec)

/-- ITS FALSE NEIGHBOUR: 'it returns false'. Refute it at one input. -/
def vlexLexesWrong : ChangeSpec := { name := "vlexLexes", fn := fun _ => fun
  | [d] => { results := [.lit (.bool false)], args := [d] }
  | _ => none }
def VlexLexesWrongFalsely : Prop := vlexLexesRow.holds Tryd.pinned (OpenSpec.ofChange vlexLexesWrong)

/-- 'davenportlaw22.VlexNames': WHATEVER THE INPUT: true; the input reads as it did. -/
def vlexNamesSpec : ChangeSpec := { name := "vlexNames", fn := fun _ => fun
  | [d] => { results := [.lit (.bool true)], args := [d] }
  | _ => none }
def vlexNamesRow : OpenClaim := { program := "yteeldajkfplomaadoor", sum := "82dfa1f7e6317992983b7b198af5f10011f0fc67e3f94a0ac0d3461ab9ab984e", func := "davenport/davenportlaw22.VlexNames", spec := "vlexNames", unfollowed := true, recurses := true, named := ["davenport/utf.none"], apart := false, laid := [("davenport/utf.none", laid_davenport_utf_none)] }
def VlexNamesSaid : Prop := vlexNamesRow.holds Tryd.pinned (OpenSpec.ofChange vlexNamesSpec)

/-- ITS FALSE NEIGHBOUR: 'it returns false'. Refute it at one input. -/
def vlexNamesWrong : ChangeSpec := { name := "vlexNames", fn := fun _ => fun
  | [d] => { results := [.lit (.bool false)], args := [d] }
  | _ => none }
def VlexNamesWrongFalsely : Prop := vlexNamesRow.holds Tryd.pinned (OpenSpec.ofChange vlexNamesWrong)

/-- 'davenportlaw22.VlexSaid': WHATEVER THE INPUT: true; the input reads as it did. -/
def vlexSaidSpec : ChangeSpec := { name := "vlexSaid", fn := fun _ => fun
  | [d] => { results := [.lit (.bool true)], args := [d] }
  | _ => none }
def vlexSaidRow : OpenClaim := { program := "yteeldajkfplomaadoor", sum := "82dfa1f7e6317992983b7b198af5f10011f0fc67e3f94a0ac0d3461ab9ab984e", func := "davenport/davenportlaw22.VlexSaid", spec := "vlexSaid", unfollowed := true, recurses := true, named := ["davenport/utf.none"], apart := false, laid := [("davenport/utf.none", laid_davenport_utf_none)] }
def VlexSaidSaid : Prop := vlexSaidRow.holds Tryd.pinned (OpenSpec.ofChange vlexSaidSpec)

/-- ITS FALSE NEIGHBOUR: 'it returns false'. Refute it at one input. -/
def vlexSaidWrong : ChangeSpec := { name := "vlexSaid", fn := fun _ => fun
  | [d] => { results := [.lit (.bool false)], args := [d] }
  | _ => none }
def VlexSaidWrongFalsely : Prop := vlexSaidRow.holds Tryd.pinned (OpenSpec.ofChange vlexSaidWrong)

/-- 'davenportlaw22.VlexJoins': WHATEVER THE INPUT: true; the input reads as it did. -/
def vlexJoinsSpec : ChangeSpec := { name := "vlexJoins", fn := fun _ => fun
  | [d1, d2, d3] => { results := [.lit (.bool true)], args := [d1, d2, d3] }
  | _ => none }
def vlexJoinsRow : OpenClaim := { program := "yteeldajkfplomaadoor", sum := "82dfa1f7e6317992983b7b198af5f10011f0fc67e3f94a0ac0d3461ab9ab984e", func := "davenport/davenportlaw22.VlexJoins", spec := "vlexJoins", unfollowed := true, recurses := true, named := ["davenport/utf.none"], apart := false, laid := [("davenport/utf.none", laid_davenport_utf_none)] }
def VlexJoinsSaid : Prop := vlexJoinsRow.holds Tryd.pinned (OpenSpec.ofChange vlexJoinsSpec)

/-- ITS FALSE NEIGHBOUR: 'it returns false'. Refute it at one input. -/
def vlexJoinsWrong : ChangeSpec := { name := "vlexJoins", fn := fun _ => fun
  | [d1, d2, d3] => { results := [.lit (.bool false)], args := [d1, d2, d3] }
  | _ => none }
def VlexJoinsWrongFalsely : Prop := vlexJoinsRow.holds Tryd.pinned (OpenSpec.ofChange vlexJoinsWrong)

/-- 'davenportlaw22.VlexAlone': WHATEVER THE INPUT: true; the input reads as it did. -/
def vlexAloneSpec : ChangeSpec := { name := "vlexAlone", fn := fun _ => fun
  | [d] => { results := [.lit (.bool true)], args := [d] }
  | _ => none }
def vlexAloneRow : OpenClaim := { program := "yteeldajkfplomaadoor", sum := "82dfa1f7e6317992983b7b198af5f10011f0fc67e3f94a0ac0d3461ab9ab984e", func := "davenport/davenportlaw22.VlexAlone", spec := "vlexAlone", unfollowed := true, recurses := true, named := ["davenport/utf.none"], apart := false, laid := [("davenport/utf.none", laid_davenport_utf_none)] }
def VlexAloneSaid : Prop := vlexAloneRow.holds Tryd.pinned (OpenSpec.ofChange vlexAloneSpec)

/-- ITS FALSE NEIGHBOUR: 'it returns false'. Refute it at one input. -/
def vlexAloneWrong : ChangeSpec := { name := "vlexAlone", fn := fun _ => fun
  | [d] => { results := [.lit (.bool false)], args := [d] }
  | _ => none }
def VlexAloneWrongFalsely : Prop := vlexAloneRow.holds Tryd.pinned (OpenSpec.ofChange vlexAloneWrong)

/- THE SECOND FORM. 'bulk': how many values and letters a reading holds, each counted each time it is reached (what is shared counts as often as it is met; a slice's spare places count too). A statement '..UptoSaid' is the law's where the arguments, and the package variables that the reading takes, are together of bulk at most 1048576: NARROWER than '..Said'. Prove '..Said' where nothing that the law and all that it calls make is longer than what came in: it says more and counts as full. Else prove '..UptoSaid'. A law counts once. -/
mutual
def uptoBulk {H : Type} : DataW H → Nat
  | .lit (.string bytes) => bytes.length + 1
  | .lit _ => 1
  | .nil => 1
  | .ptr d => uptoBulk d + 1
  | .slice elems spare => uptoBulkAll elems + uptoBulkAll spare + 1
  | .agg parts => uptoBulkAll parts + 1
  | .iface _ d => uptoBulk d + 1
  | .map entries => uptoBulkEntries entries + 1
  | .held _ => 1
def uptoBulkAll {H : Type} : List (DataW H) → Nat
  | [] => 0
  | d :: r => uptoBulk d + uptoBulkAll r
def uptoBulkEntries {H : Type} : List (Lit × DataW H) → Nat
  | [] => 0
  | x :: r => uptoBulkEntry x + uptoBulkEntries r
def uptoBulkEntry {H : Type} : Lit × DataW H → Nat
  | (.string bytes, d) => bytes.length + uptoBulk d + 1
  | (_, d) => uptoBulk d + 1
 end
def uptoSmall : (H : Type) → List (DataW H) → Bool := fun _ ds => decide (uptoBulkAll ds ≤ 1048576)
def OpenSpec.upto (s : _root_.Go.ChangeSpec) : _root_.Go.OpenSpec := { _root_.Go.OpenSpec.ofChange s with cond := some uptoSmall }

/-- 'davenportlaw22.VlexLexes', WHERE WHAT IT READS IS OF BULK AT MOST 1048576: true; the input reads as it did. -/
def vlexLexesUptoRow : OpenClaim := { program := "yteeldajkfplomaadoor", sum := "82dfa1f7e6317992983b7b198af5f10011f0fc67e3f94a0ac0d3461ab9ab984e", func := "davenport/davenportlaw22.VlexLexes", spec := "vlexLexes", unfollowed := true, recurses := true, named := ["davenport/utf.none"], apart := false, laid := [("davenport/utf.none", laid_davenport_utf_none)], narrowed := true }
def VlexLexesUptoSaid : Prop := vlexLexesUptoRow.holds Tryd.pinned (OpenSpec.upto vlexLexesSpec)

/-- 'davenportlaw22.VlexNames', WHERE WHAT IT READS IS OF BULK AT MOST 1048576: true; the input reads as it did. -/
def vlexNamesUptoRow : OpenClaim := { program := "yteeldajkfplomaadoor", sum := "82dfa1f7e6317992983b7b198af5f10011f0fc67e3f94a0ac0d3461ab9ab984e", func := "davenport/davenportlaw22.VlexNames", spec := "vlexNames", unfollowed := true, recurses := true, named := ["davenport/utf.none"], apart := false, laid := [("davenport/utf.none", laid_davenport_utf_none)], narrowed := true }
def VlexNamesUptoSaid : Prop := vlexNamesUptoRow.holds Tryd.pinned (OpenSpec.upto vlexNamesSpec)

/-- 'davenportlaw22.VlexSaid', WHERE WHAT IT READS IS OF BULK AT MOST 1048576: true; the input reads as it did. -/
def vlexSaidUptoRow : OpenClaim := { program := "yteeldajkfplomaadoor", sum := "82dfa1f7e6317992983b7b198af5f10011f0fc67e3f94a0ac0d3461ab9ab984e", func := "davenport/davenportlaw22.VlexSaid", spec := "vlexSaid", unfollowed := true, recurses := true, named := ["davenport/utf.none"], apart := false, laid := [("davenport/utf.none", laid_davenport_utf_none)], narrowed := true }
def VlexSaidUptoSaid : Prop := vlexSaidUptoRow.holds Tryd.pinned (OpenSpec.upto vlexSaidSpec)

/-- 'davenportlaw22.VlexJoins', WHERE WHAT IT READS IS OF BULK AT MOST 1048576: true; the input reads as it did. -/
def vlexJoinsUptoRow : OpenClaim := { program := "yteeldajkfplomaadoor", sum := "82dfa1f7e6317992983b7b198af5f10011f0fc67e3f94a0ac0d3461ab9ab984e", func := "davenport/davenportlaw22.VlexJoins", spec := "vlexJoins", unfollowed := true, recurses := true, named := ["davenport/utf.none"], apart := false, laid := [("davenport/utf.none", laid_davenport_utf_none)], narrowed := true }
def VlexJoinsUptoSaid : Prop := vlexJoinsUptoRow.holds Tryd.pinned (OpenSpec.upto vlexJoinsSpec)

/-- 'davenportlaw22.VlexAlone', WHERE WHAT IT READS IS OF BULK AT MOST 1048576: true; the input reads as it did. -/
def vlexAloneUptoRow : OpenClaim := { program := "yteeldajkfplomaadoor", sum := "82dfa1f7e6317992983b7b198af5f10011f0fc67e3f94a0ac0d3461ab9ab984e", func := "davenport/davenportlaw22.VlexAlone", spec := "vlexAlone", unfollowed := true, recurses := true, named := ["davenport/utf.none"], apart := false, laid := [("davenport/utf.none", laid_davenport_utf_none)], narrowed := true }
def VlexAloneUptoSaid : Prop := vlexAloneUptoRow.holds Tryd.pinned (OpenSpec.upto vlexAloneSpec)

end Rows
end Go.Proofs.YteeldajkfplomaaDoor
