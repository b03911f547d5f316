/-
  DERIVED. GIVEN WITH THE SEED: THE CARDS: each row of YtoejdhabpajhlaaDoorRows.lean that lists a variable, with what it lists TIED to the program's text (the seventh form; the later family's looks); each row that meets fmt, with fmt's text TOLD by the authors' own Lean function (tested against real Go, not proved from fmt's source: count such statements apart). THE CARD IS WHAT COUNTS. Prove the row's statement (the work); the ties are given (YtoejdhabpajhlaaDoorTie.lean); close each card by the builder's one call (the guide's Derived/Test/ToyasCard.lean, 'card_holds'). Laid BY PROGRAM, IN A SANDBOX (cutbox-door.mjs). By AI agents, Wed Nov 11 2026. No macro, syntax, notation, axiom, sorry.
-/
import Derived.Test.YtoejdhabpajhlaaDoorRows
import GoSem.ClaimSeven
namespace Go.Proofs.YtoejdhabpajhlaaDoor
namespace Rows

/-- THE TIED CARD OF 'davenportlaw05.ParseReads'. -/
def parseReadsCard : Claim7 := { stood := { row := parseReadsRow, standIns := [], harness := (true, "fee0ca3fe121573de4cccde6834f7d0989f60d4429da4aaacef59eb83826d266"), looks := true }, kinds := [], alts := [], laidByText := true, laidKinds := [.data], laidTests := true, laidLooks := .later }
def ParseReadsCardSaid : Prop := Claim7.holds Tryd.pinned (.plain (OpenSpec.ofChange parseReadsSpec)) parseReadsCard

/-- THE TIED CARD OF 'davenportlaw07.CollateWithin'. -/
def collateWithinCard : Claim7 := { stood := { row := collateWithinRow, standIns := [], harness := (true, "fee0ca3fe121573de4cccde6834f7d0989f60d4429da4aaacef59eb83826d266"), looks := true }, kinds := [], alts := [], laidByText := true, laidKinds := [.data], laidTests := true, laidLooks := .later }
def CollateWithinCardSaid : Prop := Claim7.holds Tryd.pinned (.plain (OpenSpec.ofChange collateWithinSpec)) collateWithinCard

/-- THE SECOND FORM's CARD OF 'davenportlaw05.ParseReads'. -/
def parseReadsUptoCard : Claim7 := { stood := { row := parseReadsUptoRow, standIns := [], harness := (true, "fee0ca3fe121573de4cccde6834f7d0989f60d4429da4aaacef59eb83826d266"), looks := true }, kinds := [], alts := [], laidByText := true, laidKinds := [.data], laidTests := true, laidLooks := .later }
def ParseReadsUptoCardSaid : Prop := Claim7.holds Tryd.pinned (.plain (OpenSpec.upto parseReadsSpec)) parseReadsUptoCard

/-- THE SECOND FORM's CARD OF 'davenportlaw07.CollateWithin'. -/
def collateWithinUptoCard : Claim7 := { stood := { row := collateWithinUptoRow, standIns := [], harness := (true, "fee0ca3fe121573de4cccde6834f7d0989f60d4429da4aaacef59eb83826d266"), looks := true }, kinds := [], alts := [], laidByText := true, laidKinds := [.data], laidTests := true, laidLooks := .later }
def CollateWithinUptoCardSaid : Prop := Claim7.holds Tryd.pinned (.plain (OpenSpec.upto collateWithinSpec)) collateWithinUptoCard
end Rows
end Go.Proofs.YtoejdhabpajhlaaDoor
