/-
  DERIVED. GIVEN WITH THE SEED: THE CARDS: each row of YteeldajkfplomaaDoorRows.lean that lists a variable, with what it lists TIED to the program's text (the seventh form; the later family's looks); each row that meets fmt, with fmt's text TOLD by the authors' own Lean function (tested against real Go, not proved from fmt's source: count such statements apart). THE CARD IS WHAT COUNTS. Prove the row's statement (the work); the ties are given (YteeldajkfplomaaDoorTie.lean); close each card by the builder's one call (the guide's Derived/Test/ToyasCard.lean, 'card_holds'). Laid BY PROGRAM, IN A SANDBOX (cutbox-door.mjs). By AI agents, Wed Nov 11 2026. No macro, syntax, notation, axiom, sorry.
-/
import Derived.Test.YteeldajkfplomaaDoorRows
import GoSem.ClaimSeven
namespace Go.Proofs.YteeldajkfplomaaDoor
namespace Rows

/-- THE TIED CARD OF 'davenportlaw22.VlexLexes'. -/
def vlexLexesCard : Claim7 := { stood := { row := vlexLexesRow, standIns := [], harness := (true, "7201bc0248135de06ba309f533f0b88094b8c54869f5560b61793ff0c02f573d"), looks := true }, kinds := [], alts := [], laidByText := true, laidKinds := [.data], laidTests := true, laidLooks := .later }
def VlexLexesCardSaid : Prop := Claim7.holds Tryd.pinned (.plain (OpenSpec.ofChange vlexLexesSpec)) vlexLexesCard

/-- THE TIED CARD OF 'davenportlaw22.VlexNames'. -/
def vlexNamesCard : Claim7 := { stood := { row := vlexNamesRow, standIns := [], harness := (true, "7201bc0248135de06ba309f533f0b88094b8c54869f5560b61793ff0c02f573d"), looks := true }, kinds := [], alts := [], laidByText := true, laidKinds := [.data], laidTests := true, laidLooks := .later }
def VlexNamesCardSaid : Prop := Claim7.holds Tryd.pinned (.plain (OpenSpec.ofChange vlexNamesSpec)) vlexNamesCard

/-- THE TIED CARD OF 'davenportlaw22.VlexSaid'. -/
def vlexSaidCard : Claim7 := { stood := { row := vlexSaidRow, standIns := [], harness := (true, "7201bc0248135de06ba309f533f0b88094b8c54869f5560b61793ff0c02f573d"), looks := true }, kinds := [], alts := [], laidByText := true, laidKinds := [.data], laidTests := true, laidLooks := .later }
def VlexSaidCardSaid : Prop := Claim7.holds Tryd.pinned (.plain (OpenSpec.ofChange vlexSaidSpec)) vlexSaidCard

/-- THE TIED CARD OF 'davenportlaw22.VlexJoins'. -/
def vlexJoinsCard : Claim7 := { stood := { row := vlexJoinsRow, standIns := [], harness := (true, "7201bc0248135de06ba309f533f0b88094b8c54869f5560b61793ff0c02f573d"), looks := true }, kinds := [], alts := [], laidByText := true, laidKinds := [.data], laidTests := true, laidLooks := .later }
def VlexJoinsCardSaid : Prop := Claim7.holds Tryd.pinned (.plain (OpenSpec.ofChange vlexJoinsSpec)) vlexJoinsCard

/-- THE TIED CARD OF 'davenportlaw22.VlexAlone'. -/
def vlexAloneCard : Claim7 := { stood := { row := vlexAloneRow, standIns := [], harness := (true, "7201bc0248135de06ba309f533f0b88094b8c54869f5560b61793ff0c02f573d"), looks := true }, kinds := [], alts := [], laidByText := true, laidKinds := [.data], laidTests := true, laidLooks := .later }
def VlexAloneCardSaid : Prop := Claim7.holds Tryd.pinned (.plain (OpenSpec.ofChange vlexAloneSpec)) vlexAloneCard

/-- THE SECOND FORM's CARD OF 'davenportlaw22.VlexLexes'. -/
def vlexLexesUptoCard : Claim7 := { stood := { row := vlexLexesUptoRow, standIns := [], harness := (true, "7201bc0248135de06ba309f533f0b88094b8c54869f5560b61793ff0c02f573d"), looks := true }, kinds := [], alts := [], laidByText := true, laidKinds := [.data], laidTests := true, laidLooks := .later }
def VlexLexesUptoCardSaid : Prop := Claim7.holds Tryd.pinned (.plain (OpenSpec.upto vlexLexesSpec)) vlexLexesUptoCard

/-- THE SECOND FORM's CARD OF 'davenportlaw22.VlexNames'. -/
def vlexNamesUptoCard : Claim7 := { stood := { row := vlexNamesUptoRow, standIns := [], harness := (true, "7201bc0248135de06ba309f533f0b88094b8c54869f5560b61793ff0c02f573d"), looks := true }, kinds := [], alts := [], laidByText := true, laidKinds := [.data], laidTests := true, laidLooks := .later }
def VlexNamesUptoCardSaid : Prop := Claim7.holds Tryd.pinned (.plain (OpenSpec.upto vlexNamesSpec)) vlexNamesUptoCard

/-- THE SECOND FORM's CARD OF 'davenportlaw22.VlexSaid'. -/
def vlexSaidUptoCard : Claim7 := { stood := { row := vlexSaidUptoRow, standIns := [], harness := (true, "7201bc0248135de06ba309f533f0b88094b8c54869f5560b61793ff0c02f573d"), looks := true }, kinds := [], alts := [], laidByText := true, laidKinds := [.data], laidTests := true, laidLooks := .later }
def VlexSaidUptoCardSaid : Prop := Claim7.holds Tryd.pinned (.plain (OpenSpec.upto vlexSaidSpec)) vlexSaidUptoCard

/-- THE SECOND FORM's CARD OF 'davenportlaw22.VlexJoins'. -/
def vlexJoinsUptoCard : Claim7 := { stood := { row := vlexJoinsUptoRow, standIns := [], harness := (true, "7201bc0248135de06ba309f533f0b88094b8c54869f5560b61793ff0c02f573d"), looks := true }, kinds := [], alts := [], laidByText := true, laidKinds := [.data], laidTests := true, laidLooks := .later }
def VlexJoinsUptoCardSaid : Prop := Claim7.holds Tryd.pinned (.plain (OpenSpec.upto vlexJoinsSpec)) vlexJoinsUptoCard

/-- THE SECOND FORM's CARD OF 'davenportlaw22.VlexAlone'. -/
def vlexAloneUptoCard : Claim7 := { stood := { row := vlexAloneUptoRow, standIns := [], harness := (true, "7201bc0248135de06ba309f533f0b88094b8c54869f5560b61793ff0c02f573d"), looks := true }, kinds := [], alts := [], laidByText := true, laidKinds := [.data], laidTests := true, laidLooks := .later }
def VlexAloneUptoCardSaid : Prop := Claim7.holds Tryd.pinned (.plain (OpenSpec.upto vlexAloneSpec)) vlexAloneUptoCard
end Rows
end Go.Proofs.YteeldajkfplomaaDoor
