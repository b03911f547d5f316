/-
  DERIVED. GIVEN WITH THE SEED: THE CARDS: each row of YtgmnmnnoahdjnaaGreatDoorRows.lean that lists a variable, with what it lists TIED to the program's text (the seventh form; the later family's looks); each row that meets fmt, with fmt's text TOLD by the authors' own Lean function (tested against real Go, not proved from fmt's source: count such statements apart). THE CARD IS WHAT COUNTS. Prove the row's statement (the work); the ties are given (YtgmnmnnoahdjnaaGreatDoorTie.lean); close each card by the builder's one call (the guide's Derived/Test/ToyasCard.lean, 'card_holds'). Laid BY PROGRAM, IN A SANDBOX (cutbox-door.mjs). By AI agents, Wed Nov 11 2026. No macro, syntax, notation, axiom, sorry.
-/
import Derived.Test.YtgmnmnnoahdjnaaGreatDoorRows
import GoSem.ClaimSeven
namespace Go.Proofs.YtgmnmnnoahdjnaaGreatDoor
namespace Rows

/-- THE TIED CARD OF 'davenportlaw23.VparsePrints'. -/
def vparsePrintsCard : Claim7 := { stood := { row := vparsePrintsRow, standIns := [], harness := (true, "7713b38b403454b2eb8863a74fc27a44fe8a591dee98370f0a4a6ea53d025870"), looks := true }, kinds := [], alts := [], laidByText := true, laidKinds := [.data, .data], laidTests := true, laidLooks := .later }
def VparsePrintsCardSaid : Prop := Claim7.holds Tryz.pinned (.plain (OpenSpec.ofChange vparsePrintsSpec)) vparsePrintsCard

/-- THE TIED CARD OF 'davenportlaw23.VparseReads'. -/
def vparseReadsCard : Claim7 := { stood := { row := vparseReadsRow, standIns := [], harness := (true, "7713b38b403454b2eb8863a74fc27a44fe8a591dee98370f0a4a6ea53d025870"), looks := true }, kinds := [], alts := [], laidByText := true, laidKinds := [.data, .data], laidTests := true, laidLooks := .later }
def VparseReadsCardSaid : Prop := Claim7.holds Tryz.pinned (.plain (OpenSpec.ofChange vparseReadsSpec)) vparseReadsCard

/-- THE TIED CARD OF 'davenportlaw23.VparseSame'. -/
def vparseSameCard : Claim7 := { stood := { row := vparseSameRow, standIns := [], harness := (true, "7713b38b403454b2eb8863a74fc27a44fe8a591dee98370f0a4a6ea53d025870"), looks := true }, kinds := [], alts := [], laidByText := true, laidKinds := [.data, .data], laidTests := true, laidLooks := .later }
def VparseSameCardSaid : Prop := Claim7.holds Tryz.pinned (.plain (OpenSpec.ofChange vparseSameSpec)) vparseSameCard

/-- THE TIED CARD OF 'davenportlaw23.VparseBack'. -/
def vparseBackCard : Claim7 := { stood := { row := vparseBackRow, standIns := [], harness := (true, "7713b38b403454b2eb8863a74fc27a44fe8a591dee98370f0a4a6ea53d025870"), looks := true }, kinds := [], alts := [], laidByText := true, laidKinds := [.data, .data], laidTests := true, laidLooks := .later }
def VparseBackCardSaid : Prop := Claim7.holds Tryz.pinned (.plain (OpenSpec.ofChange vparseBackSpec)) vparseBackCard

/-- THE TIED CARD OF 'davenportlaw23.VparseJoins'. -/
def vparseJoinsCard : Claim7 := { stood := { row := vparseJoinsRow, standIns := [], harness := (true, "7713b38b403454b2eb8863a74fc27a44fe8a591dee98370f0a4a6ea53d025870"), looks := true }, kinds := [], alts := [], laidByText := true, laidKinds := [.data, .data], laidTests := true, laidLooks := .later }
def VparseJoinsCardSaid : Prop := Claim7.holds Tryz.pinned (.plain (OpenSpec.ofChange vparseJoinsSpec)) vparseJoinsCard

/-- THE TIED CARD OF 'davenportlaw23.VparseBrackets'. -/
def vparseBracketsCard : Claim7 := { stood := { row := vparseBracketsRow, standIns := [], harness := (true, "7713b38b403454b2eb8863a74fc27a44fe8a591dee98370f0a4a6ea53d025870"), looks := true }, kinds := [], alts := [], laidByText := true, laidKinds := [.data, .data], laidTests := true, laidLooks := .later }
def VparseBracketsCardSaid : Prop := Claim7.holds Tryz.pinned (.plain (OpenSpec.ofChange vparseBracketsSpec)) vparseBracketsCard

/-- THE TIED CARD OF 'davenportlaw24.VcheckTells'. -/
def vcheckTellsCard : Claim7 := { stood := { row := vcheckTellsRow, standIns := [], harness := (true, "7713b38b403454b2eb8863a74fc27a44fe8a591dee98370f0a4a6ea53d025870"), looks := true }, kinds := [], alts := [], laidByText := true, laidKinds := [.data, .data], laidTests := true, laidLooks := .later }
def VcheckTellsCardSaid : Prop := Claim7.holds Tryz.pinned (.plain (OpenSpec.ofChange vcheckTellsSpec)) vcheckTellsCard

/-- THE TIED CARD OF 'davenportlaw24.VcheckCompiles'. -/
def vcheckCompilesCard : Claim7 := { stood := { row := vcheckCompilesRow, standIns := [], harness := (true, "7713b38b403454b2eb8863a74fc27a44fe8a591dee98370f0a4a6ea53d025870"), looks := true }, kinds := [], alts := [], laidByText := true, laidKinds := [.data, .data], laidTests := true, laidLooks := .later }
def VcheckCompilesCardSaid : Prop := Claim7.holds Tryz.pinned (.plain (OpenSpec.ofChange vcheckCompilesSpec)) vcheckCompilesCard

/-- THE TIED CARD OF 'davenportlaw24.VcheckJoins'. -/
def vcheckJoinsCard : Claim7 := { stood := { row := vcheckJoinsRow, standIns := [], harness := (true, "7713b38b403454b2eb8863a74fc27a44fe8a591dee98370f0a4a6ea53d025870"), looks := true }, kinds := [], alts := [], laidByText := true, laidKinds := [.data, .data], laidTests := true, laidLooks := .later }
def VcheckJoinsCardSaid : Prop := Claim7.holds Tryz.pinned (.plain (OpenSpec.ofChange vcheckJoinsSpec)) vcheckJoinsCard

/-- THE TIED CARD OF 'davenportlaw24.VcheckWraps'. -/
def vcheckWrapsCard : Claim7 := { stood := { row := vcheckWrapsRow, standIns := [], harness := (true, "7713b38b403454b2eb8863a74fc27a44fe8a591dee98370f0a4a6ea53d025870"), looks := true }, kinds := [], alts := [], laidByText := true, laidKinds := [.data, .data], laidTests := true, laidLooks := .later }
def VcheckWrapsCardSaid : Prop := Claim7.holds Tryz.pinned (.plain (OpenSpec.ofChange vcheckWrapsSpec)) vcheckWrapsCard

/-- THE TIED CARD OF 'davenportlaw24.VcheckPrints'. -/
def vcheckPrintsCard : Claim7 := { stood := { row := vcheckPrintsRow, standIns := [], harness := (true, "7713b38b403454b2eb8863a74fc27a44fe8a591dee98370f0a4a6ea53d025870"), looks := true }, kinds := [], alts := [], laidByText := true, laidKinds := [.data, .data], laidTests := true, laidLooks := .later }
def VcheckPrintsCardSaid : Prop := Claim7.holds Tryz.pinned (.plain (OpenSpec.ofChange vcheckPrintsSpec)) vcheckPrintsCard

/-- THE SECOND FORM's CARD OF 'davenportlaw23.VparsePrints'. -/
def vparsePrintsUptoCard : Claim7 := { stood := { row := vparsePrintsUptoRow, standIns := [], harness := (true, "7713b38b403454b2eb8863a74fc27a44fe8a591dee98370f0a4a6ea53d025870"), looks := true }, kinds := [], alts := [], laidByText := true, laidKinds := [.data, .data], laidTests := true, laidLooks := .later }
def VparsePrintsUptoCardSaid : Prop := Claim7.holds Tryz.pinned (.plain (OpenSpec.upto vparsePrintsSpec)) vparsePrintsUptoCard

/-- THE SECOND FORM's CARD OF 'davenportlaw23.VparseReads'. -/
def vparseReadsUptoCard : Claim7 := { stood := { row := vparseReadsUptoRow, standIns := [], harness := (true, "7713b38b403454b2eb8863a74fc27a44fe8a591dee98370f0a4a6ea53d025870"), looks := true }, kinds := [], alts := [], laidByText := true, laidKinds := [.data, .data], laidTests := true, laidLooks := .later }
def VparseReadsUptoCardSaid : Prop := Claim7.holds Tryz.pinned (.plain (OpenSpec.upto vparseReadsSpec)) vparseReadsUptoCard

/-- THE SECOND FORM's CARD OF 'davenportlaw23.VparseSame'. -/
def vparseSameUptoCard : Claim7 := { stood := { row := vparseSameUptoRow, standIns := [], harness := (true, "7713b38b403454b2eb8863a74fc27a44fe8a591dee98370f0a4a6ea53d025870"), looks := true }, kinds := [], alts := [], laidByText := true, laidKinds := [.data, .data], laidTests := true, laidLooks := .later }
def VparseSameUptoCardSaid : Prop := Claim7.holds Tryz.pinned (.plain (OpenSpec.upto vparseSameSpec)) vparseSameUptoCard

/-- THE SECOND FORM's CARD OF 'davenportlaw23.VparseBack'. -/
def vparseBackUptoCard : Claim7 := { stood := { row := vparseBackUptoRow, standIns := [], harness := (true, "7713b38b403454b2eb8863a74fc27a44fe8a591dee98370f0a4a6ea53d025870"), looks := true }, kinds := [], alts := [], laidByText := true, laidKinds := [.data, .data], laidTests := true, laidLooks := .later }
def VparseBackUptoCardSaid : Prop := Claim7.holds Tryz.pinned (.plain (OpenSpec.upto vparseBackSpec)) vparseBackUptoCard

/-- THE SECOND FORM's CARD OF 'davenportlaw23.VparseJoins'. -/
def vparseJoinsUptoCard : Claim7 := { stood := { row := vparseJoinsUptoRow, standIns := [], harness := (true, "7713b38b403454b2eb8863a74fc27a44fe8a591dee98370f0a4a6ea53d025870"), looks := true }, kinds := [], alts := [], laidByText := true, laidKinds := [.data, .data], laidTests := true, laidLooks := .later }
def VparseJoinsUptoCardSaid : Prop := Claim7.holds Tryz.pinned (.plain (OpenSpec.upto vparseJoinsSpec)) vparseJoinsUptoCard

/-- THE SECOND FORM's CARD OF 'davenportlaw23.VparseBrackets'. -/
def vparseBracketsUptoCard : Claim7 := { stood := { row := vparseBracketsUptoRow, standIns := [], harness := (true, "7713b38b403454b2eb8863a74fc27a44fe8a591dee98370f0a4a6ea53d025870"), looks := true }, kinds := [], alts := [], laidByText := true, laidKinds := [.data, .data], laidTests := true, laidLooks := .later }
def VparseBracketsUptoCardSaid : Prop := Claim7.holds Tryz.pinned (.plain (OpenSpec.upto vparseBracketsSpec)) vparseBracketsUptoCard

/-- THE SECOND FORM's CARD OF 'davenportlaw24.VcheckTells'. -/
def vcheckTellsUptoCard : Claim7 := { stood := { row := vcheckTellsUptoRow, standIns := [], harness := (true, "7713b38b403454b2eb8863a74fc27a44fe8a591dee98370f0a4a6ea53d025870"), looks := true }, kinds := [], alts := [], laidByText := true, laidKinds := [.data, .data], laidTests := true, laidLooks := .later }
def VcheckTellsUptoCardSaid : Prop := Claim7.holds Tryz.pinned (.plain (OpenSpec.upto vcheckTellsSpec)) vcheckTellsUptoCard

/-- THE SECOND FORM's CARD OF 'davenportlaw24.VcheckCompiles'. -/
def vcheckCompilesUptoCard : Claim7 := { stood := { row := vcheckCompilesUptoRow, standIns := [], harness := (true, "7713b38b403454b2eb8863a74fc27a44fe8a591dee98370f0a4a6ea53d025870"), looks := true }, kinds := [], alts := [], laidByText := true, laidKinds := [.data, .data], laidTests := true, laidLooks := .later }
def VcheckCompilesUptoCardSaid : Prop := Claim7.holds Tryz.pinned (.plain (OpenSpec.upto vcheckCompilesSpec)) vcheckCompilesUptoCard

/-- THE SECOND FORM's CARD OF 'davenportlaw24.VcheckJoins'. -/
def vcheckJoinsUptoCard : Claim7 := { stood := { row := vcheckJoinsUptoRow, standIns := [], harness := (true, "7713b38b403454b2eb8863a74fc27a44fe8a591dee98370f0a4a6ea53d025870"), looks := true }, kinds := [], alts := [], laidByText := true, laidKinds := [.data, .data], laidTests := true, laidLooks := .later }
def VcheckJoinsUptoCardSaid : Prop := Claim7.holds Tryz.pinned (.plain (OpenSpec.upto vcheckJoinsSpec)) vcheckJoinsUptoCard

/-- THE SECOND FORM's CARD OF 'davenportlaw24.VcheckWraps'. -/
def vcheckWrapsUptoCard : Claim7 := { stood := { row := vcheckWrapsUptoRow, standIns := [], harness := (true, "7713b38b403454b2eb8863a74fc27a44fe8a591dee98370f0a4a6ea53d025870"), looks := true }, kinds := [], alts := [], laidByText := true, laidKinds := [.data, .data], laidTests := true, laidLooks := .later }
def VcheckWrapsUptoCardSaid : Prop := Claim7.holds Tryz.pinned (.plain (OpenSpec.upto vcheckWrapsSpec)) vcheckWrapsUptoCard

/-- THE SECOND FORM's CARD OF 'davenportlaw24.VcheckPrints'. -/
def vcheckPrintsUptoCard : Claim7 := { stood := { row := vcheckPrintsUptoRow, standIns := [], harness := (true, "7713b38b403454b2eb8863a74fc27a44fe8a591dee98370f0a4a6ea53d025870"), looks := true }, kinds := [], alts := [], laidByText := true, laidKinds := [.data, .data], laidTests := true, laidLooks := .later }
def VcheckPrintsUptoCardSaid : Prop := Claim7.holds Tryz.pinned (.plain (OpenSpec.upto vcheckPrintsSpec)) vcheckPrintsUptoCard
end Rows
end Go.Proofs.YtgmnmnnoahdjnaaGreatDoor
