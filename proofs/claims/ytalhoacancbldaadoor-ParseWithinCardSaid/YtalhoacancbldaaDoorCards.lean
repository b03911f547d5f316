/-
  DERIVED. GIVEN WITH THE SEED: THE CARDS: each row of YtalhoacancbldaaDoorRows.lean that lists a variable, with what it lists TIED to the program's text (the seventh form; the later family's looks); each row that meets fmt, with fmt's text TOLD by the authors' own Lean function (tested against real Go, not proved from fmt's source: count such statements apart). THE CARD IS WHAT COUNTS. Prove the row's statement (the work); the ties are given (YtalhoacancbldaaDoorTie.lean); close each card by the builder's one call (the guide's Derived/Test/ToyasCard.lean, 'card_holds'). Laid BY PROGRAM, IN A SANDBOX (cutbox-door.mjs). By AI agents, Wed Nov 11 2026. No macro, syntax, notation, axiom, sorry.
-/
import Derived.Test.YtalhoacancbldaaDoorRows
import GoSem.ClaimSeven
namespace Go.Proofs.YtalhoacancbldaaDoor
namespace Rows

/-- THE TIED CARD OF 'davenportlaw22.VlexLexes'. -/
def vlexLexesCard : Claim7 := { stood := { row := vlexLexesRow, standIns := [], harness := (true, "8b0f75b31a49a239b2dc4d251e3ad579e129a41e298e6abc2099f0d0e627d400"), looks := true }, kinds := [], alts := [], laidByText := true, laidKinds := [.data], laidTests := true, laidLooks := .later }
def VlexLexesCardSaid : Prop := Claim7.holds Tryd.pinned (.plain (OpenSpec.ofChange vlexLexesSpec)) vlexLexesCard

/-- THE TIED CARD OF 'davenportlaw22.VlexNames'. -/
def vlexNamesCard : Claim7 := { stood := { row := vlexNamesRow, standIns := [], harness := (true, "8b0f75b31a49a239b2dc4d251e3ad579e129a41e298e6abc2099f0d0e627d400"), looks := true }, kinds := [], alts := [], laidByText := true, laidKinds := [.data], laidTests := true, laidLooks := .later }
def VlexNamesCardSaid : Prop := Claim7.holds Tryd.pinned (.plain (OpenSpec.ofChange vlexNamesSpec)) vlexNamesCard

/-- THE TIED CARD OF 'davenportlaw22.VlexSaid'. -/
def vlexSaidCard : Claim7 := { stood := { row := vlexSaidRow, standIns := [], harness := (true, "8b0f75b31a49a239b2dc4d251e3ad579e129a41e298e6abc2099f0d0e627d400"), looks := true }, kinds := [], alts := [], laidByText := true, laidKinds := [.data], laidTests := true, laidLooks := .later }
def VlexSaidCardSaid : Prop := Claim7.holds Tryd.pinned (.plain (OpenSpec.ofChange vlexSaidSpec)) vlexSaidCard

/-- THE TIED CARD OF 'davenportlaw22.VlexJoins'. -/
def vlexJoinsCard : Claim7 := { stood := { row := vlexJoinsRow, standIns := [], harness := (true, "8b0f75b31a49a239b2dc4d251e3ad579e129a41e298e6abc2099f0d0e627d400"), looks := true }, kinds := [], alts := [], laidByText := true, laidKinds := [.data], laidTests := true, laidLooks := .later }
def VlexJoinsCardSaid : Prop := Claim7.holds Tryd.pinned (.plain (OpenSpec.ofChange vlexJoinsSpec)) vlexJoinsCard

/-- THE TIED CARD OF 'davenportlaw22.VlexAlone'. -/
def vlexAloneCard : Claim7 := { stood := { row := vlexAloneRow, standIns := [], harness := (true, "8b0f75b31a49a239b2dc4d251e3ad579e129a41e298e6abc2099f0d0e627d400"), looks := true }, kinds := [], alts := [], laidByText := true, laidKinds := [.data], laidTests := true, laidLooks := .later }
def VlexAloneCardSaid : Prop := Claim7.holds Tryd.pinned (.plain (OpenSpec.ofChange vlexAloneSpec)) vlexAloneCard

/-- THE TIED CARD OF 'davenportlaw05.ParseReads'. -/
def parseReadsCard : Claim7 := { stood := { row := parseReadsRow, standIns := [], harness := (true, "8b0f75b31a49a239b2dc4d251e3ad579e129a41e298e6abc2099f0d0e627d400"), looks := true }, kinds := [], alts := [], laidByText := true, laidKinds := [.data], laidTests := true, laidLooks := .later }
def ParseReadsCardSaid : Prop := Claim7.holds Tryd.pinned (.plain (OpenSpec.ofChange parseReadsSpec)) parseReadsCard

/-- THE TIED CARD OF 'davenportlaw05.ParseAt'. -/
def parseAtCard : Claim7 := { stood := { row := parseAtRow, standIns := [], harness := (true, "8b0f75b31a49a239b2dc4d251e3ad579e129a41e298e6abc2099f0d0e627d400"), looks := true }, kinds := [], alts := [], laidByText := true, laidKinds := [.data], laidTests := true, laidLooks := .later }
def ParseAtCardSaid : Prop := Claim7.holds Tryd.pinned (.plain (OpenSpec.ofChange parseAtSpec)) parseAtCard

/-- THE TIED CARD OF 'davenportlaw05.ParseCuts'. -/
def parseCutsCard : Claim7 := { stood := { row := parseCutsRow, standIns := [], harness := (true, "8b0f75b31a49a239b2dc4d251e3ad579e129a41e298e6abc2099f0d0e627d400"), looks := true }, kinds := [], alts := [], laidByText := true, laidKinds := [.data], laidTests := true, laidLooks := .later }
def ParseCutsCardSaid : Prop := Claim7.holds Tryd.pinned (.plain (OpenSpec.ofChange parseCutsSpec)) parseCutsCard

/-- THE TIED CARD OF 'davenportlaw05.ParseEnds'. -/
def parseEndsCard : Claim7 := { stood := { row := parseEndsRow, standIns := [], harness := (true, "8b0f75b31a49a239b2dc4d251e3ad579e129a41e298e6abc2099f0d0e627d400"), looks := true }, kinds := [], alts := [], laidByText := true, laidKinds := [.data], laidTests := true, laidLooks := .later }
def ParseEndsCardSaid : Prop := Claim7.holds Tryd.pinned (.plain (OpenSpec.ofChange parseEndsSpec)) parseEndsCard

/-- THE TIED CARD OF 'davenportlaw05.ParseMay'. -/
def parseMayCard : Claim7 := { stood := { row := parseMayRow, standIns := [], harness := (true, "8b0f75b31a49a239b2dc4d251e3ad579e129a41e298e6abc2099f0d0e627d400"), looks := true }, kinds := [], alts := [], laidByText := true, laidKinds := [.data], laidTests := true, laidLooks := .later }
def ParseMayCardSaid : Prop := Claim7.holds Tryd.pinned (.plain (OpenSpec.ofChange parseMaySpec)) parseMayCard

/-- THE TIED CARD OF 'davenportlaw05.ParseBlanks'. -/
def parseBlanksCard : Claim7 := { stood := { row := parseBlanksRow, standIns := [], harness := (true, "8b0f75b31a49a239b2dc4d251e3ad579e129a41e298e6abc2099f0d0e627d400"), looks := true }, kinds := [], alts := [], laidByText := true, laidKinds := [.data], laidTests := true, laidLooks := .later }
def ParseBlanksCardSaid : Prop := Claim7.holds Tryd.pinned (.plain (OpenSpec.ofChange parseBlanksSpec)) parseBlanksCard

/-- THE TIED CARD OF 'davenportlaw05.ParseWithin'. -/
def parseWithinCard : Claim7 := { stood := { row := parseWithinRow, standIns := [], harness := (true, "8b0f75b31a49a239b2dc4d251e3ad579e129a41e298e6abc2099f0d0e627d400"), looks := true }, kinds := [], alts := [], laidByText := true, laidKinds := [.data], laidTests := true, laidLooks := .later }
def ParseWithinCardSaid : Prop := Claim7.holds Tryd.pinned (.plain (OpenSpec.ofChange parseWithinSpec)) parseWithinCard

/-- THE SECOND FORM's CARD OF 'davenportlaw22.VlexLexes'. -/
def vlexLexesUptoCard : Claim7 := { stood := { row := vlexLexesUptoRow, standIns := [], harness := (true, "8b0f75b31a49a239b2dc4d251e3ad579e129a41e298e6abc2099f0d0e627d400"), looks := true }, kinds := [], alts := [], laidByText := true, laidKinds := [.data], laidTests := true, laidLooks := .later }
def VlexLexesUptoCardSaid : Prop := Claim7.holds Tryd.pinned (.plain (OpenSpec.upto vlexLexesSpec)) vlexLexesUptoCard

/-- THE SECOND FORM's CARD OF 'davenportlaw22.VlexNames'. -/
def vlexNamesUptoCard : Claim7 := { stood := { row := vlexNamesUptoRow, standIns := [], harness := (true, "8b0f75b31a49a239b2dc4d251e3ad579e129a41e298e6abc2099f0d0e627d400"), looks := true }, kinds := [], alts := [], laidByText := true, laidKinds := [.data], laidTests := true, laidLooks := .later }
def VlexNamesUptoCardSaid : Prop := Claim7.holds Tryd.pinned (.plain (OpenSpec.upto vlexNamesSpec)) vlexNamesUptoCard

/-- THE SECOND FORM's CARD OF 'davenportlaw22.VlexSaid'. -/
def vlexSaidUptoCard : Claim7 := { stood := { row := vlexSaidUptoRow, standIns := [], harness := (true, "8b0f75b31a49a239b2dc4d251e3ad579e129a41e298e6abc2099f0d0e627d400"), looks := true }, kinds := [], alts := [], laidByText := true, laidKinds := [.data], laidTests := true, laidLooks := .later }
def VlexSaidUptoCardSaid : Prop := Claim7.holds Tryd.pinned (.plain (OpenSpec.upto vlexSaidSpec)) vlexSaidUptoCard

/-- THE SECOND FORM's CARD OF 'davenportlaw22.VlexJoins'. -/
def vlexJoinsUptoCard : Claim7 := { stood := { row := vlexJoinsUptoRow, standIns := [], harness := (true, "8b0f75b31a49a239b2dc4d251e3ad579e129a41e298e6abc2099f0d0e627d400"), looks := true }, kinds := [], alts := [], laidByText := true, laidKinds := [.data], laidTests := true, laidLooks := .later }
def VlexJoinsUptoCardSaid : Prop := Claim7.holds Tryd.pinned (.plain (OpenSpec.upto vlexJoinsSpec)) vlexJoinsUptoCard

/-- THE SECOND FORM's CARD OF 'davenportlaw22.VlexAlone'. -/
def vlexAloneUptoCard : Claim7 := { stood := { row := vlexAloneUptoRow, standIns := [], harness := (true, "8b0f75b31a49a239b2dc4d251e3ad579e129a41e298e6abc2099f0d0e627d400"), looks := true }, kinds := [], alts := [], laidByText := true, laidKinds := [.data], laidTests := true, laidLooks := .later }
def VlexAloneUptoCardSaid : Prop := Claim7.holds Tryd.pinned (.plain (OpenSpec.upto vlexAloneSpec)) vlexAloneUptoCard

/-- THE SECOND FORM's CARD OF 'davenportlaw05.ParseReads'. -/
def parseReadsUptoCard : Claim7 := { stood := { row := parseReadsUptoRow, standIns := [], harness := (true, "8b0f75b31a49a239b2dc4d251e3ad579e129a41e298e6abc2099f0d0e627d400"), looks := true }, kinds := [], alts := [], laidByText := true, laidKinds := [.data], laidTests := true, laidLooks := .later }
def ParseReadsUptoCardSaid : Prop := Claim7.holds Tryd.pinned (.plain (OpenSpec.upto parseReadsSpec)) parseReadsUptoCard

/-- THE SECOND FORM's CARD OF 'davenportlaw05.ParseAt'. -/
def parseAtUptoCard : Claim7 := { stood := { row := parseAtUptoRow, standIns := [], harness := (true, "8b0f75b31a49a239b2dc4d251e3ad579e129a41e298e6abc2099f0d0e627d400"), looks := true }, kinds := [], alts := [], laidByText := true, laidKinds := [.data], laidTests := true, laidLooks := .later }
def ParseAtUptoCardSaid : Prop := Claim7.holds Tryd.pinned (.plain (OpenSpec.upto parseAtSpec)) parseAtUptoCard

/-- THE SECOND FORM's CARD OF 'davenportlaw05.ParseCuts'. -/
def parseCutsUptoCard : Claim7 := { stood := { row := parseCutsUptoRow, standIns := [], harness := (true, "8b0f75b31a49a239b2dc4d251e3ad579e129a41e298e6abc2099f0d0e627d400"), looks := true }, kinds := [], alts := [], laidByText := true, laidKinds := [.data], laidTests := true, laidLooks := .later }
def ParseCutsUptoCardSaid : Prop := Claim7.holds Tryd.pinned (.plain (OpenSpec.upto parseCutsSpec)) parseCutsUptoCard

/-- THE SECOND FORM's CARD OF 'davenportlaw05.ParseEnds'. -/
def parseEndsUptoCard : Claim7 := { stood := { row := parseEndsUptoRow, standIns := [], harness := (true, "8b0f75b31a49a239b2dc4d251e3ad579e129a41e298e6abc2099f0d0e627d400"), looks := true }, kinds := [], alts := [], laidByText := true, laidKinds := [.data], laidTests := true, laidLooks := .later }
def ParseEndsUptoCardSaid : Prop := Claim7.holds Tryd.pinned (.plain (OpenSpec.upto parseEndsSpec)) parseEndsUptoCard

/-- THE SECOND FORM's CARD OF 'davenportlaw05.ParseMay'. -/
def parseMayUptoCard : Claim7 := { stood := { row := parseMayUptoRow, standIns := [], harness := (true, "8b0f75b31a49a239b2dc4d251e3ad579e129a41e298e6abc2099f0d0e627d400"), looks := true }, kinds := [], alts := [], laidByText := true, laidKinds := [.data], laidTests := true, laidLooks := .later }
def ParseMayUptoCardSaid : Prop := Claim7.holds Tryd.pinned (.plain (OpenSpec.upto parseMaySpec)) parseMayUptoCard

/-- THE SECOND FORM's CARD OF 'davenportlaw05.ParseBlanks'. -/
def parseBlanksUptoCard : Claim7 := { stood := { row := parseBlanksUptoRow, standIns := [], harness := (true, "8b0f75b31a49a239b2dc4d251e3ad579e129a41e298e6abc2099f0d0e627d400"), looks := true }, kinds := [], alts := [], laidByText := true, laidKinds := [.data], laidTests := true, laidLooks := .later }
def ParseBlanksUptoCardSaid : Prop := Claim7.holds Tryd.pinned (.plain (OpenSpec.upto parseBlanksSpec)) parseBlanksUptoCard

/-- THE SECOND FORM's CARD OF 'davenportlaw05.ParseWithin'. -/
def parseWithinUptoCard : Claim7 := { stood := { row := parseWithinUptoRow, standIns := [], harness := (true, "8b0f75b31a49a239b2dc4d251e3ad579e129a41e298e6abc2099f0d0e627d400"), looks := true }, kinds := [], alts := [], laidByText := true, laidKinds := [.data], laidTests := true, laidLooks := .later }
def ParseWithinUptoCardSaid : Prop := Claim7.holds Tryd.pinned (.plain (OpenSpec.upto parseWithinSpec)) parseWithinUptoCard
end Rows
end Go.Proofs.YtalhoacancbldaaDoor
