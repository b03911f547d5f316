/-
  NARROWER THAN 'FOR EVERY INPUT', by the rows' own cells (each row's printed sentence says how): VparsePrints: loops, laid · VparseReads: laid · VparseSame: loops, laid · VparseBack: loops, laid · VparseJoins: loops, laid · VparseBrackets: loops, laid · VcheckTells: loops, laid · VcheckCompiles: laid · VcheckJoins: loops, laid · VcheckWraps: loops, laid · VcheckPrints: loops, laid.
  DERIVED. THE GIVEN ROWS OF THIS SEAT. 11 by the template 'for every input the law returns true; each argument reads behind the call as it read before'; 0 by the template 'total and deterministic' (their statements: YtgmnmnnoahdjnaaGreatDoorTotals.lean).
  GIVEN WITH THE SEED: the statements are not yours to turn. If you find one false, say at which input.
  Laid BY PROGRAM, IN A SANDBOX (cutbox-rows.mjs): the forced cells as the released guide's own fill.sh prints them over the translation dd7b0df39bf61af9… (all of the seat's roots in one cut). By AI agents, Wed Nov 11 2026. No macro, syntax, notation, axiom, sorry.
-/
import Derived.Test.YtgmnmnnoahdjnaaGreatDoorChecked
import GoSem.Claim
import GoSem.ClaimJoined
import GoSem.ClaimMapViews
import Derived.JoinedTies
import Derived.KernelRfl
namespace Go.Proofs.YtgmnmnnoahdjnaaGreatDoor
/- THE CELL 'sum', in the pinned program and in every row, IS THE sha256 OF THE DUMP (.gsa) THAT YtgmnmnnoahdjnaaGreatDoorProg.lean LOADS. Nothing in Lean hashes anything: it is a label: what it is worth is what the hold of that sum in a sandbox is worth. -/
noncomputable def Tryz.pinned : Pinned := { name := "ytgmnmnnoahdjnaagreatdoor", sum := "dd7b0df39bf61af95a7acb89d9396204cdd719ce3e06bec653c42c985adac5a7", checked := Tryz.checked }
namespace Rows
def none {H : Type} : Left H := { results := [], args := [] }

/- WHAT THE LISTED PACKAGE-LEVEL VARIABLES READ AS WHEN THE CALL BEGINS. Each datum BY PROGRAM (the guide's laid-datum.mjs) off the statement by which the dump's own 'gosem.cut.vars' lays the variable. In a bare row this is a premise. The card (YtgmnmnnoahdjnaaGreatDoorCards.lean) ties it to the program's text. -/
def laid_davenport_utf_none {H : Type} : DataW H := .agg [.lit (.int .i64 0), .lit (.int .i64 0)]
def laid_davenport_vparse_none {H : Type} : DataW H := .agg [.lit (.string []), .lit (.int .i64 0), .lit (.int .i64 0)]

/-- 'davenportlaw23.VparsePrints': WHATEVER THE INPUT: true; the input reads as it did. -/
def vparsePrintsSpec : ChangeSpec := { name := "vparsePrints", fn := fun _ => fun
  | [d] => { results := [.lit (.bool true)], args := [d] }
  | _ => none }
def vparsePrintsRow : OpenClaim := { program := "ytgmnmnnoahdjnaagreatdoor", sum := "dd7b0df39bf61af95a7acb89d9396204cdd719ce3e06bec653c42c985adac5a7", func := "davenport/davenportlaw23.VparsePrints", spec := "vparsePrints", unfollowed := true, recurses := true, named := ["davenport/utf.none", "davenport/vparse.none"], loops := true, apart := false, laid := [("davenport/utf.none", laid_davenport_utf_none), ("davenport/vparse.none", laid_davenport_vparse_none)] }
def VparsePrintsSaid : Prop := vparsePrintsRow.holds Tryz.pinned (OpenSpec.ofChange vparsePrintsSpec)

/-- ITS FALSE NEIGHBOUR: 'it returns false'. Refute it at one input. -/
def vparsePrintsWrong : ChangeSpec := { name := "vparsePrints", fn := fun _ => fun
  | [d] => { results := [.lit (.bool false)], args := [d] }
  | _ => none }
def VparsePrintsWrongFalsely : Prop := vparsePrintsRow.holds Tryz.pinned (OpenSpec.ofChange vparsePrintsWrong)

/-- 'davenportlaw23.VparseReads': WHATEVER THE INPUT: true; the input reads as it did. -/
def vparseReadsSpec : ChangeSpec := { name := "vparseReads", fn := fun _ => fun
  | [d] => { results := [.lit (.bool true)], args := [d] }
  | _ => none }
def vparseReadsRow : OpenClaim := { program := "ytgmnmnnoahdjnaagreatdoor", sum := "dd7b0df39bf61af95a7acb89d9396204cdd719ce3e06bec653c42c985adac5a7", func := "davenport/davenportlaw23.VparseReads", spec := "vparseReads", unfollowed := true, recurses := true, named := ["davenport/utf.none", "davenport/vparse.none"], apart := false, laid := [("davenport/utf.none", laid_davenport_utf_none), ("davenport/vparse.none", laid_davenport_vparse_none)] }
def VparseReadsSaid : Prop := vparseReadsRow.holds Tryz.pinned (OpenSpec.ofChange vparseReadsSpec)

/-- ITS FALSE NEIGHBOUR: 'it returns false'. Refute it at one input. -/
def vparseReadsWrong : ChangeSpec := { name := "vparseReads", fn := fun _ => fun
  | [d] => { results := [.lit (.bool false)], args := [d] }
  | _ => none }
def VparseReadsWrongFalsely : Prop := vparseReadsRow.holds Tryz.pinned (OpenSpec.ofChange vparseReadsWrong)

/-- 'davenportlaw23.VparseSame': WHATEVER THE INPUT: true; the input reads as it did. -/
def vparseSameSpec : ChangeSpec := { name := "vparseSame", fn := fun _ => fun
  | [d1, d2] => { results := [.lit (.bool true)], args := [d1, d2] }
  | _ => none }
def vparseSameRow : OpenClaim := { program := "ytgmnmnnoahdjnaagreatdoor", sum := "dd7b0df39bf61af95a7acb89d9396204cdd719ce3e06bec653c42c985adac5a7", func := "davenport/davenportlaw23.VparseSame", spec := "vparseSame", unfollowed := true, recurses := true, named := ["davenport/utf.none", "davenport/vparse.none"], loops := true, apart := false, laid := [("davenport/utf.none", laid_davenport_utf_none), ("davenport/vparse.none", laid_davenport_vparse_none)] }
def VparseSameSaid : Prop := vparseSameRow.holds Tryz.pinned (OpenSpec.ofChange vparseSameSpec)

/-- ITS FALSE NEIGHBOUR: 'it returns false'. Refute it at one input. -/
def vparseSameWrong : ChangeSpec := { name := "vparseSame", fn := fun _ => fun
  | [d1, d2] => { results := [.lit (.bool false)], args := [d1, d2] }
  | _ => none }
def VparseSameWrongFalsely : Prop := vparseSameRow.holds Tryz.pinned (OpenSpec.ofChange vparseSameWrong)

/-- 'davenportlaw23.VparseBack': WHATEVER THE INPUT: true; the input reads as it did. -/
def vparseBackSpec : ChangeSpec := { name := "vparseBack", fn := fun _ => fun
  | [d] => { results := [.lit (.bool true)], args := [d] }
  | _ => none }
def vparseBackRow : OpenClaim := { program := "ytgmnmnnoahdjnaagreatdoor", sum := "dd7b0df39bf61af95a7acb89d9396204cdd719ce3e06bec653c42c985adac5a7", func := "davenport/davenportlaw23.VparseBack", spec := "vparseBack", unfollowed := true, recurses := true, named := ["davenport/utf.none", "davenport/vparse.none"], loops := true, apart := false, laid := [("davenport/utf.none", laid_davenport_utf_none), ("davenport/vparse.none", laid_davenport_vparse_none)] }
def VparseBackSaid : Prop := vparseBackRow.holds Tryz.pinned (OpenSpec.ofChange vparseBackSpec)

/-- ITS FALSE NEIGHBOUR: 'it returns false'. Refute it at one input. -/
def vparseBackWrong : ChangeSpec := { name := "vparseBack", fn := fun _ => fun
  | [d] => { results := [.lit (.bool false)], args := [d] }
  | _ => none }
def VparseBackWrongFalsely : Prop := vparseBackRow.holds Tryz.pinned (OpenSpec.ofChange vparseBackWrong)

/-- 'davenportlaw23.VparseJoins': WHATEVER THE INPUT: true; the input reads as it did. -/
def vparseJoinsSpec : ChangeSpec := { name := "vparseJoins", fn := fun _ => fun
  | [d1, d2] => { results := [.lit (.bool true)], args := [d1, d2] }
  | _ => none }
def vparseJoinsRow : OpenClaim := { program := "ytgmnmnnoahdjnaagreatdoor", sum := "dd7b0df39bf61af95a7acb89d9396204cdd719ce3e06bec653c42c985adac5a7", func := "davenport/davenportlaw23.VparseJoins", spec := "vparseJoins", unfollowed := true, recurses := true, named := ["davenport/utf.none", "davenport/vparse.none"], loops := true, apart := false, laid := [("davenport/utf.none", laid_davenport_utf_none), ("davenport/vparse.none", laid_davenport_vparse_none)] }
def VparseJoinsSaid : Prop := vparseJoinsRow.holds Tryz.pinned (OpenSpec.ofChange vparseJoinsSpec)

/-- ITS FALSE NEIGHBOUR: 'it returns false'. Refute it at one input. -/
def vparseJoinsWrong : ChangeSpec := { name := "vparseJoins", fn := fun _ => fun
  | [d1, d2] => { results := [.lit (.bool false)], args := [d1, d2] }
  | _ => none }
def VparseJoinsWrongFalsely : Prop := vparseJoinsRow.holds Tryz.pinned (OpenSpec.ofChange vparseJoinsWrong)

/-- 'davenportlaw23.VparseBrackets': WHATEVER THE INPUT: true; the input reads as it did. -/
def vparseBracketsSpec : ChangeSpec := { name := "vparseBrackets", fn := fun _ => fun
  | [d1, d2] => { results := [.lit (.bool true)], args := [d1, d2] }
  | _ => none }
def vparseBracketsRow : OpenClaim := { program := "ytgmnmnnoahdjnaagreatdoor", sum := "dd7b0df39bf61af95a7acb89d9396204cdd719ce3e06bec653c42c985adac5a7", func := "davenport/davenportlaw23.VparseBrackets", spec := "vparseBrackets", unfollowed := true, recurses := true, named := ["davenport/utf.none", "davenport/vparse.none"], loops := true, apart := false, laid := [("davenport/utf.none", laid_davenport_utf_none), ("davenport/vparse.none", laid_davenport_vparse_none)] }
def VparseBracketsSaid : Prop := vparseBracketsRow.holds Tryz.pinned (OpenSpec.ofChange vparseBracketsSpec)

/-- ITS FALSE NEIGHBOUR: 'it returns false'. Refute it at one input. -/
def vparseBracketsWrong : ChangeSpec := { name := "vparseBrackets", fn := fun _ => fun
  | [d1, d2] => { results := [.lit (.bool false)], args := [d1, d2] }
  | _ => none }
def VparseBracketsWrongFalsely : Prop := vparseBracketsRow.holds Tryz.pinned (OpenSpec.ofChange vparseBracketsWrong)

/-- 'davenportlaw24.VcheckTells': WHATEVER THE INPUT: true; the input reads as it did. -/
def vcheckTellsSpec : ChangeSpec := { name := "vcheckTells", fn := fun _ => fun
  | [d] => { results := [.lit (.bool true)], args := [d] }
  | _ => none }
def vcheckTellsRow : OpenClaim := { program := "ytgmnmnnoahdjnaagreatdoor", sum := "dd7b0df39bf61af95a7acb89d9396204cdd719ce3e06bec653c42c985adac5a7", func := "davenport/davenportlaw24.VcheckTells", spec := "vcheckTells", unfollowed := true, recurses := true, named := ["davenport/vparse.none", "davenport/utf.none"], loops := true, apart := false, laid := [("davenport/utf.none", laid_davenport_utf_none), ("davenport/vparse.none", laid_davenport_vparse_none)] }
def VcheckTellsSaid : Prop := vcheckTellsRow.holds Tryz.pinned (OpenSpec.ofChange vcheckTellsSpec)

/-- ITS FALSE NEIGHBOUR: 'it returns false'. Refute it at one input. -/
def vcheckTellsWrong : ChangeSpec := { name := "vcheckTells", fn := fun _ => fun
  | [d] => { results := [.lit (.bool false)], args := [d] }
  | _ => none }
def VcheckTellsWrongFalsely : Prop := vcheckTellsRow.holds Tryz.pinned (OpenSpec.ofChange vcheckTellsWrong)

/-- 'davenportlaw24.VcheckCompiles': WHATEVER THE INPUT: true; the input reads as it did. -/
def vcheckCompilesSpec : ChangeSpec := { name := "vcheckCompiles", fn := fun _ => fun
  | [d] => { results := [.lit (.bool true)], args := [d] }
  | _ => none }
def vcheckCompilesRow : OpenClaim := { program := "ytgmnmnnoahdjnaagreatdoor", sum := "dd7b0df39bf61af95a7acb89d9396204cdd719ce3e06bec653c42c985adac5a7", func := "davenport/davenportlaw24.VcheckCompiles", spec := "vcheckCompiles", unfollowed := true, recurses := true, named := ["davenport/vparse.none", "davenport/utf.none"], apart := false, laid := [("davenport/utf.none", laid_davenport_utf_none), ("davenport/vparse.none", laid_davenport_vparse_none)] }
def VcheckCompilesSaid : Prop := vcheckCompilesRow.holds Tryz.pinned (OpenSpec.ofChange vcheckCompilesSpec)

/-- ITS FALSE NEIGHBOUR: 'it returns false'. Refute it at one input. -/
def vcheckCompilesWrong : ChangeSpec := { name := "vcheckCompiles", fn := fun _ => fun
  | [d] => { results := [.lit (.bool false)], args := [d] }
  | _ => none }
def VcheckCompilesWrongFalsely : Prop := vcheckCompilesRow.holds Tryz.pinned (OpenSpec.ofChange vcheckCompilesWrong)

/-- 'davenportlaw24.VcheckJoins': WHATEVER THE INPUT: true; the input reads as it did. -/
def vcheckJoinsSpec : ChangeSpec := { name := "vcheckJoins", fn := fun _ => fun
  | [d1, d2] => { results := [.lit (.bool true)], args := [d1, d2] }
  | _ => none }
def vcheckJoinsRow : OpenClaim := { program := "ytgmnmnnoahdjnaagreatdoor", sum := "dd7b0df39bf61af95a7acb89d9396204cdd719ce3e06bec653c42c985adac5a7", func := "davenport/davenportlaw24.VcheckJoins", spec := "vcheckJoins", unfollowed := true, recurses := true, named := ["davenport/vparse.none", "davenport/utf.none"], loops := true, apart := false, laid := [("davenport/utf.none", laid_davenport_utf_none), ("davenport/vparse.none", laid_davenport_vparse_none)] }
def VcheckJoinsSaid : Prop := vcheckJoinsRow.holds Tryz.pinned (OpenSpec.ofChange vcheckJoinsSpec)

/-- ITS FALSE NEIGHBOUR: 'it returns false'. Refute it at one input. -/
def vcheckJoinsWrong : ChangeSpec := { name := "vcheckJoins", fn := fun _ => fun
  | [d1, d2] => { results := [.lit (.bool false)], args := [d1, d2] }
  | _ => none }
def VcheckJoinsWrongFalsely : Prop := vcheckJoinsRow.holds Tryz.pinned (OpenSpec.ofChange vcheckJoinsWrong)

/-- 'davenportlaw24.VcheckWraps': WHATEVER THE INPUT: true; the input reads as it did. -/
def vcheckWrapsSpec : ChangeSpec := { name := "vcheckWraps", fn := fun _ => fun
  | [d] => { results := [.lit (.bool true)], args := [d] }
  | _ => none }
def vcheckWrapsRow : OpenClaim := { program := "ytgmnmnnoahdjnaagreatdoor", sum := "dd7b0df39bf61af95a7acb89d9396204cdd719ce3e06bec653c42c985adac5a7", func := "davenport/davenportlaw24.VcheckWraps", spec := "vcheckWraps", unfollowed := true, recurses := true, named := ["davenport/vparse.none", "davenport/utf.none"], loops := true, apart := false, laid := [("davenport/utf.none", laid_davenport_utf_none), ("davenport/vparse.none", laid_davenport_vparse_none)] }
def VcheckWrapsSaid : Prop := vcheckWrapsRow.holds Tryz.pinned (OpenSpec.ofChange vcheckWrapsSpec)

/-- ITS FALSE NEIGHBOUR: 'it returns false'. Refute it at one input. -/
def vcheckWrapsWrong : ChangeSpec := { name := "vcheckWraps", fn := fun _ => fun
  | [d] => { results := [.lit (.bool false)], args := [d] }
  | _ => none }
def VcheckWrapsWrongFalsely : Prop := vcheckWrapsRow.holds Tryz.pinned (OpenSpec.ofChange vcheckWrapsWrong)

/-- 'davenportlaw24.VcheckPrints': WHATEVER THE INPUT: true; the input reads as it did. -/
def vcheckPrintsSpec : ChangeSpec := { name := "vcheckPrints", fn := fun _ => fun
  | [d] => { results := [.lit (.bool true)], args := [d] }
  | _ => none }
def vcheckPrintsRow : OpenClaim := { program := "ytgmnmnnoahdjnaagreatdoor", sum := "dd7b0df39bf61af95a7acb89d9396204cdd719ce3e06bec653c42c985adac5a7", func := "davenport/davenportlaw24.VcheckPrints", spec := "vcheckPrints", unfollowed := true, recurses := true, named := ["davenport/vparse.none", "davenport/utf.none"], loops := true, apart := false, laid := [("davenport/utf.none", laid_davenport_utf_none), ("davenport/vparse.none", laid_davenport_vparse_none)] }
def VcheckPrintsSaid : Prop := vcheckPrintsRow.holds Tryz.pinned (OpenSpec.ofChange vcheckPrintsSpec)

/-- ITS FALSE NEIGHBOUR: 'it returns false'. Refute it at one input. -/
def vcheckPrintsWrong : ChangeSpec := { name := "vcheckPrints", fn := fun _ => fun
  | [d] => { results := [.lit (.bool false)], args := [d] }
  | _ => none }
def VcheckPrintsWrongFalsely : Prop := vcheckPrintsRow.holds Tryz.pinned (OpenSpec.ofChange vcheckPrintsWrong)

/- THE SECOND FORM. 'bulk': how many values and letters a reading holds, each counted each time it is reached (what is shared counts as often as it is met; a slice's spare places count too). A statement '..UptoSaid' is the law's where the arguments, and the package variables that the reading takes, are together of bulk at most 1048576: NARROWER than '..Said'. Prove '..Said' where nothing that the law and all that it calls make is longer than what came in: it says more and counts as full. Else prove '..UptoSaid'. A law counts once. -/
mutual
def uptoBulk {H : Type} : DataW H → Nat
  | .lit (.string bytes) => bytes.length + 1
  | .lit _ => 1
  | .nil => 1
  | .ptr d => uptoBulk d + 1
  | .slice elems spare => uptoBulkAll elems + uptoBulkAll spare + 1
  | .agg parts => uptoBulkAll parts + 1
  | .iface _ d => uptoBulk d + 1
  | .map entries => uptoBulkEntries entries + 1
  | .held _ => 1
def uptoBulkAll {H : Type} : List (DataW H) → Nat
  | [] => 0
  | d :: r => uptoBulk d + uptoBulkAll r
def uptoBulkEntries {H : Type} : List (Lit × DataW H) → Nat
  | [] => 0
  | x :: r => uptoBulkEntry x + uptoBulkEntries r
def uptoBulkEntry {H : Type} : Lit × DataW H → Nat
  | (.string bytes, d) => bytes.length + uptoBulk d + 1
  | (_, d) => uptoBulk d + 1
 end
def uptoSmall : (H : Type) → List (DataW H) → Bool := fun _ ds => decide (uptoBulkAll ds ≤ 1048576)
def OpenSpec.upto (s : _root_.Go.ChangeSpec) : _root_.Go.OpenSpec := { _root_.Go.OpenSpec.ofChange s with cond := some uptoSmall }

/-- 'davenportlaw23.VparsePrints', WHERE WHAT IT READS IS OF BULK AT MOST 1048576: true; the input reads as it did. -/
def vparsePrintsUptoRow : OpenClaim := { program := "ytgmnmnnoahdjnaagreatdoor", sum := "dd7b0df39bf61af95a7acb89d9396204cdd719ce3e06bec653c42c985adac5a7", func := "davenport/davenportlaw23.VparsePrints", spec := "vparsePrints", unfollowed := true, recurses := true, named := ["davenport/utf.none", "davenport/vparse.none"], loops := true, apart := false, laid := [("davenport/utf.none", laid_davenport_utf_none), ("davenport/vparse.none", laid_davenport_vparse_none)], narrowed := true }
def VparsePrintsUptoSaid : Prop := vparsePrintsUptoRow.holds Tryz.pinned (OpenSpec.upto vparsePrintsSpec)

/-- 'davenportlaw23.VparseReads', WHERE WHAT IT READS IS OF BULK AT MOST 1048576: true; the input reads as it did. -/
def vparseReadsUptoRow : OpenClaim := { program := "ytgmnmnnoahdjnaagreatdoor", sum := "dd7b0df39bf61af95a7acb89d9396204cdd719ce3e06bec653c42c985adac5a7", func := "davenport/davenportlaw23.VparseReads", spec := "vparseReads", unfollowed := true, recurses := true, named := ["davenport/utf.none", "davenport/vparse.none"], apart := false, laid := [("davenport/utf.none", laid_davenport_utf_none), ("davenport/vparse.none", laid_davenport_vparse_none)], narrowed := true }
def VparseReadsUptoSaid : Prop := vparseReadsUptoRow.holds Tryz.pinned (OpenSpec.upto vparseReadsSpec)

/-- 'davenportlaw23.VparseSame', WHERE WHAT IT READS IS OF BULK AT MOST 1048576: true; the input reads as it did. -/
def vparseSameUptoRow : OpenClaim := { program := "ytgmnmnnoahdjnaagreatdoor", sum := "dd7b0df39bf61af95a7acb89d9396204cdd719ce3e06bec653c42c985adac5a7", func := "davenport/davenportlaw23.VparseSame", spec := "vparseSame", unfollowed := true, recurses := true, named := ["davenport/utf.none", "davenport/vparse.none"], loops := true, apart := false, laid := [("davenport/utf.none", laid_davenport_utf_none), ("davenport/vparse.none", laid_davenport_vparse_none)], narrowed := true }
def VparseSameUptoSaid : Prop := vparseSameUptoRow.holds Tryz.pinned (OpenSpec.upto vparseSameSpec)

/-- 'davenportlaw23.VparseBack', WHERE WHAT IT READS IS OF BULK AT MOST 1048576: true; the input reads as it did. -/
def vparseBackUptoRow : OpenClaim := { program := "ytgmnmnnoahdjnaagreatdoor", sum := "dd7b0df39bf61af95a7acb89d9396204cdd719ce3e06bec653c42c985adac5a7", func := "davenport/davenportlaw23.VparseBack", spec := "vparseBack", unfollowed := true, recurses := true, named := ["davenport/utf.none", "davenport/vparse.none"], loops := true, apart := false, laid := [("davenport/utf.none", laid_davenport_utf_none), ("davenport/vparse.none", laid_davenport_vparse_none)], narrowed := true }
def VparseBackUptoSaid : Prop := vparseBackUptoRow.holds Tryz.pinned (OpenSpec.upto vparseBackSpec)

/-- 'davenportlaw23.VparseJoins', WHERE WHAT IT READS IS OF BULK AT MOST 1048576: true; the input reads as it did. -/
def vparseJoinsUptoRow : OpenClaim := { program := "ytgmnmnnoahdjnaagreatdoor", sum := "dd7b0df39bf61af95a7acb89d9396204cdd719ce3e06bec653c42c985adac5a7", func := "davenport/davenportlaw23.VparseJoins", spec := "vparseJoins", unfollowed := true, recurses := true, named := ["davenport/utf.none", "davenport/vparse.none"], loops := true, apart := false, laid := [("davenport/utf.none", laid_davenport_utf_none), ("davenport/vparse.none", laid_davenport_vparse_none)], narrowed := true }
def VparseJoinsUptoSaid : Prop := vparseJoinsUptoRow.holds Tryz.pinned (OpenSpec.upto vparseJoinsSpec)

/-- 'davenportlaw23.VparseBrackets', WHERE WHAT IT READS IS OF BULK AT MOST 1048576: true; the input reads as it did. -/
def vparseBracketsUptoRow : OpenClaim := { program := "ytgmnmnnoahdjnaagreatdoor", sum := "dd7b0df39bf61af95a7acb89d9396204cdd719ce3e06bec653c42c985adac5a7", func := "davenport/davenportlaw23.VparseBrackets", spec := "vparseBrackets", unfollowed := true, recurses := true, named := ["davenport/utf.none", "davenport/vparse.none"], loops := true, apart := false, laid := [("davenport/utf.none", laid_davenport_utf_none), ("davenport/vparse.none", laid_davenport_vparse_none)], narrowed := true }
def VparseBracketsUptoSaid : Prop := vparseBracketsUptoRow.holds Tryz.pinned (OpenSpec.upto vparseBracketsSpec)

/-- 'davenportlaw24.VcheckTells', WHERE WHAT IT READS IS OF BULK AT MOST 1048576: true; the input reads as it did. -/
def vcheckTellsUptoRow : OpenClaim := { program := "ytgmnmnnoahdjnaagreatdoor", sum := "dd7b0df39bf61af95a7acb89d9396204cdd719ce3e06bec653c42c985adac5a7", func := "davenport/davenportlaw24.VcheckTells", spec := "vcheckTells", unfollowed := true, recurses := true, named := ["davenport/vparse.none", "davenport/utf.none"], loops := true, apart := false, laid := [("davenport/utf.none", laid_davenport_utf_none), ("davenport/vparse.none", laid_davenport_vparse_none)], narrowed := true }
def VcheckTellsUptoSaid : Prop := vcheckTellsUptoRow.holds Tryz.pinned (OpenSpec.upto vcheckTellsSpec)

/-- 'davenportlaw24.VcheckCompiles', WHERE WHAT IT READS IS OF BULK AT MOST 1048576: true; the input reads as it did. -/
def vcheckCompilesUptoRow : OpenClaim := { program := "ytgmnmnnoahdjnaagreatdoor", sum := "dd7b0df39bf61af95a7acb89d9396204cdd719ce3e06bec653c42c985adac5a7", func := "davenport/davenportlaw24.VcheckCompiles", spec := "vcheckCompiles", unfollowed := true, recurses := true, named := ["davenport/vparse.none", "davenport/utf.none"], apart := false, laid := [("davenport/utf.none", laid_davenport_utf_none), ("davenport/vparse.none", laid_davenport_vparse_none)], narrowed := true }
def VcheckCompilesUptoSaid : Prop := vcheckCompilesUptoRow.holds Tryz.pinned (OpenSpec.upto vcheckCompilesSpec)

/-- 'davenportlaw24.VcheckJoins', WHERE WHAT IT READS IS OF BULK AT MOST 1048576: true; the input reads as it did. -/
def vcheckJoinsUptoRow : OpenClaim := { program := "ytgmnmnnoahdjnaagreatdoor", sum := "dd7b0df39bf61af95a7acb89d9396204cdd719ce3e06bec653c42c985adac5a7", func := "davenport/davenportlaw24.VcheckJoins", spec := "vcheckJoins", unfollowed := true, recurses := true, named := ["davenport/vparse.none", "davenport/utf.none"], loops := true, apart := false, laid := [("davenport/utf.none", laid_davenport_utf_none), ("davenport/vparse.none", laid_davenport_vparse_none)], narrowed := true }
def VcheckJoinsUptoSaid : Prop := vcheckJoinsUptoRow.holds Tryz.pinned (OpenSpec.upto vcheckJoinsSpec)

/-- 'davenportlaw24.VcheckWraps', WHERE WHAT IT READS IS OF BULK AT MOST 1048576: true; the input reads as it did. -/
def vcheckWrapsUptoRow : OpenClaim := { program := "ytgmnmnnoahdjnaagreatdoor", sum := "dd7b0df39bf61af95a7acb89d9396204cdd719ce3e06bec653c42c985adac5a7", func := "davenport/davenportlaw24.VcheckWraps", spec := "vcheckWraps", unfollowed := true, recurses := true, named := ["davenport/vparse.none", "davenport/utf.none"], loops := true, apart := false, laid := [("davenport/utf.none", laid_davenport_utf_none), ("davenport/vparse.none", laid_davenport_vparse_none)], narrowed := true }
def VcheckWrapsUptoSaid : Prop := vcheckWrapsUptoRow.holds Tryz.pinned (OpenSpec.upto vcheckWrapsSpec)

/-- 'davenportlaw24.VcheckPrints', WHERE WHAT IT READS IS OF BULK AT MOST 1048576: true; the input reads as it did. -/
def vcheckPrintsUptoRow : OpenClaim := { program := "ytgmnmnnoahdjnaagreatdoor", sum := "dd7b0df39bf61af95a7acb89d9396204cdd719ce3e06bec653c42c985adac5a7", func := "davenport/davenportlaw24.VcheckPrints", spec := "vcheckPrints", unfollowed := true, recurses := true, named := ["davenport/vparse.none", "davenport/utf.none"], loops := true, apart := false, laid := [("davenport/utf.none", laid_davenport_utf_none), ("davenport/vparse.none", laid_davenport_vparse_none)], narrowed := true }
def VcheckPrintsUptoSaid : Prop := vcheckPrintsUptoRow.holds Tryz.pinned (OpenSpec.upto vcheckPrintsSpec)

end Rows
end Go.Proofs.YtgmnmnnoahdjnaaGreatDoor
