/-
  DERIVED. GIVEN WITH THE SEED: THE CARDS: each row of YtgolomgmnanbpaaGreatDoorRows.lean that lists a variable, with what it lists TIED to the program's text (the seventh form; the later family's looks); each row that meets fmt, with fmt's text TOLD by the authors' own Lean function (tested against real Go, not proved from fmt's source: count such statements apart). THE CARD IS WHAT COUNTS. Prove the row's statement (the work); the ties are given (YtgolomgmnanbpaaGreatDoorTie.lean); close each card by the builder's one call (the guide's Derived/Test/ToyasCard.lean, 'card_holds'). Laid BY PROGRAM, IN A SANDBOX (cutbox-door.mjs). By AI agents, Wed Nov 11 2026. No macro, syntax, notation, axiom, sorry.
-/
import Derived.Test.YtgolomgmnanbpaaGreatDoorRows
import GoSem.ClaimSeven
namespace Go.Proofs.YtgolomgmnanbpaaGreatDoor
namespace Rows

/-- THE TIED CARD OF 'davenportlaw25.VevalTells'. -/
def vevalTellsCard : Claim7 := { stood := { row := vevalTellsRow, standIns := [], harness := (true, "0e0ac818983d99b512caf65e3f795790728da743e91c957d26bf2bf9b7ce8f5e"), looks := false }, kinds := [], alts := [], laidByText := true, laidKinds := [.data, .data], laidTests := true, laidLooks := .later }
def VevalTellsCardSaid : Prop := Claim7.holds Tryz.pinned (.plain (OpenSpec.ofChange vevalTellsSpec)) vevalTellsCard

/-- THE TIED CARD OF 'davenportlaw25.VevalMaps'. -/
def vevalMapsCard : Claim7 := { stood := { row := vevalMapsRow, standIns := [], harness := (true, "0e0ac818983d99b512caf65e3f795790728da743e91c957d26bf2bf9b7ce8f5e"), looks := false }, kinds := [], alts := [], laidByText := true, laidKinds := [.data, .data], laidTests := true, laidLooks := .later }
def VevalMapsCardSaid : Prop := Claim7.holds Tryz.pinned (.plain (OpenSpec.ofChange vevalMapsSpec)) vevalMapsCard

/-- THE TIED CARD OF 'davenportlaw25.VevalOrders'. -/
def vevalOrdersCard : Claim7 := { stood := { row := vevalOrdersRow, standIns := [], harness := (true, "0e0ac818983d99b512caf65e3f795790728da743e91c957d26bf2bf9b7ce8f5e"), looks := false }, kinds := [], alts := [], laidByText := true, laidKinds := [.data, .data], laidTests := true, laidLooks := .later }
def VevalOrdersCardSaid : Prop := Claim7.holds Tryz.pinned (.plain (OpenSpec.ofChange vevalOrdersSpec)) vevalOrdersCard

/-- THE TIED CARD OF 'davenportlaw25.VevalCounts'. -/
def vevalCountsCard : Claim7 := { stood := { row := vevalCountsRow, standIns := [], harness := (true, "0e0ac818983d99b512caf65e3f795790728da743e91c957d26bf2bf9b7ce8f5e"), looks := false }, kinds := [], alts := [], laidByText := true, laidKinds := [.data, .data], laidTests := true, laidLooks := .later }
def VevalCountsCardSaid : Prop := Claim7.holds Tryz.pinned (.plain (OpenSpec.ofChange vevalCountsSpec)) vevalCountsCard

/-- THE TIED CARD OF 'davenportlaw25.VevalFronts'. -/
def vevalFrontsCard : Claim7 := { stood := { row := vevalFrontsRow, standIns := [], harness := (true, "0e0ac818983d99b512caf65e3f795790728da743e91c957d26bf2bf9b7ce8f5e"), looks := false }, kinds := [], alts := [], laidByText := true, laidKinds := [.data, .data], laidTests := true, laidLooks := .later }
def VevalFrontsCardSaid : Prop := Claim7.holds Tryz.pinned (.plain (OpenSpec.ofChange vevalFrontsSpec)) vevalFrontsCard

/-- THE TIED CARD OF 'davenportlaw25.VevalRenames'. -/
def vevalRenamesCard : Claim7 := { stood := { row := vevalRenamesRow, standIns := [], harness := (true, "0e0ac818983d99b512caf65e3f795790728da743e91c957d26bf2bf9b7ce8f5e"), looks := false }, kinds := [], alts := [], laidByText := true, laidKinds := [.data, .data], laidTests := true, laidLooks := .later }
def VevalRenamesCardSaid : Prop := Claim7.holds Tryz.pinned (.plain (OpenSpec.ofChange vevalRenamesSpec)) vevalRenamesCard

/-- THE TIED CARD OF 'davenportlaw25.VevalMay'. -/
def vevalMayCard : Claim7 := { stood := { row := vevalMayRow, standIns := [], harness := (true, "0e0ac818983d99b512caf65e3f795790728da743e91c957d26bf2bf9b7ce8f5e"), looks := false }, kinds := [], alts := [], laidByText := true, laidKinds := [.data, .data], laidTests := true, laidLooks := .later }
def VevalMayCardSaid : Prop := Claim7.holds Tryz.pinned (.plain (OpenSpec.ofChange vevalMaySpec)) vevalMayCard

/-- THE SECOND FORM's CARD OF 'davenportlaw25.VevalTells'. -/
def vevalTellsUptoCard : Claim7 := { stood := { row := vevalTellsUptoRow, standIns := [], harness := (true, "0e0ac818983d99b512caf65e3f795790728da743e91c957d26bf2bf9b7ce8f5e"), looks := false }, kinds := [], alts := [], laidByText := true, laidKinds := [.data, .data], laidTests := true, laidLooks := .later }
def VevalTellsUptoCardSaid : Prop := Claim7.holds Tryz.pinned (.plain (OpenSpec.upto vevalTellsSpec)) vevalTellsUptoCard

/-- THE SECOND FORM's CARD OF 'davenportlaw25.VevalMaps'. -/
def vevalMapsUptoCard : Claim7 := { stood := { row := vevalMapsUptoRow, standIns := [], harness := (true, "0e0ac818983d99b512caf65e3f795790728da743e91c957d26bf2bf9b7ce8f5e"), looks := false }, kinds := [], alts := [], laidByText := true, laidKinds := [.data, .data], laidTests := true, laidLooks := .later }
def VevalMapsUptoCardSaid : Prop := Claim7.holds Tryz.pinned (.plain (OpenSpec.upto vevalMapsSpec)) vevalMapsUptoCard

/-- THE SECOND FORM's CARD OF 'davenportlaw25.VevalOrders'. -/
def vevalOrdersUptoCard : Claim7 := { stood := { row := vevalOrdersUptoRow, standIns := [], harness := (true, "0e0ac818983d99b512caf65e3f795790728da743e91c957d26bf2bf9b7ce8f5e"), looks := false }, kinds := [], alts := [], laidByText := true, laidKinds := [.data, .data], laidTests := true, laidLooks := .later }
def VevalOrdersUptoCardSaid : Prop := Claim7.holds Tryz.pinned (.plain (OpenSpec.upto vevalOrdersSpec)) vevalOrdersUptoCard

/-- THE SECOND FORM's CARD OF 'davenportlaw25.VevalCounts'. -/
def vevalCountsUptoCard : Claim7 := { stood := { row := vevalCountsUptoRow, standIns := [], harness := (true, "0e0ac818983d99b512caf65e3f795790728da743e91c957d26bf2bf9b7ce8f5e"), looks := false }, kinds := [], alts := [], laidByText := true, laidKinds := [.data, .data], laidTests := true, laidLooks := .later }
def VevalCountsUptoCardSaid : Prop := Claim7.holds Tryz.pinned (.plain (OpenSpec.upto vevalCountsSpec)) vevalCountsUptoCard

/-- THE SECOND FORM's CARD OF 'davenportlaw25.VevalFronts'. -/
def vevalFrontsUptoCard : Claim7 := { stood := { row := vevalFrontsUptoRow, standIns := [], harness := (true, "0e0ac818983d99b512caf65e3f795790728da743e91c957d26bf2bf9b7ce8f5e"), looks := false }, kinds := [], alts := [], laidByText := true, laidKinds := [.data, .data], laidTests := true, laidLooks := .later }
def VevalFrontsUptoCardSaid : Prop := Claim7.holds Tryz.pinned (.plain (OpenSpec.upto vevalFrontsSpec)) vevalFrontsUptoCard

/-- THE SECOND FORM's CARD OF 'davenportlaw25.VevalRenames'. -/
def vevalRenamesUptoCard : Claim7 := { stood := { row := vevalRenamesUptoRow, standIns := [], harness := (true, "0e0ac818983d99b512caf65e3f795790728da743e91c957d26bf2bf9b7ce8f5e"), looks := false }, kinds := [], alts := [], laidByText := true, laidKinds := [.data, .data], laidTests := true, laidLooks := .later }
def VevalRenamesUptoCardSaid : Prop := Claim7.holds Tryz.pinned (.plain (OpenSpec.upto vevalRenamesSpec)) vevalRenamesUptoCard

/-- THE SECOND FORM's CARD OF 'davenportlaw25.VevalMay'. -/
def vevalMayUptoCard : Claim7 := { stood := { row := vevalMayUptoRow, standIns := [], harness := (true, "0e0ac818983d99b512caf65e3f795790728da743e91c957d26bf2bf9b7ce8f5e"), looks := false }, kinds := [], alts := [], laidByText := true, laidKinds := [.data, .data], laidTests := true, laidLooks := .later }
def VevalMayUptoCardSaid : Prop := Claim7.holds Tryz.pinned (.plain (OpenSpec.upto vevalMaySpec)) vevalMayUptoCard
end Rows
end Go.Proofs.YtgolomgmnanbpaaGreatDoor
