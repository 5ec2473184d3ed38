/-
  NARROWER THAN 'FOR EVERY INPUT', by the rows' own cells (each row's printed sentence says how): PacksSplit: laid · PacksJoin: laid · PacksBack: laid · PacksWay: laid · PacksSpoilt: laid · PacksCount: laid · PacksParts: laid · PacksMixed: laid.
  DERIVED. THE GIVEN ROWS OF THIS SEAT. 8 by the template 'for every input the law returns true; each argument reads behind the call as it read before'; 0 by the template 'total and deterministic' (their statements: YtbhhahjmdifbcaaDoorTotals.lean).
  GIVEN WITH THE SEED: the statements are not yours to turn. If you find one false, say at which input.
  Laid BY PROGRAM, IN A SANDBOX (cutbox-rows.mjs): the forced cells as the released guide's own fill.sh prints them over the translation 03485271118e2cf8… (all of the seat's roots in one cut). By AI agents, Wed Nov 11 2026. No macro, syntax, notation, axiom, sorry.
-/
import Derived.Test.YtbhhahjmdifbcaaDoorChecked
import GoSem.Claim
import GoSem.ClaimJoined
import GoSem.ClaimMapViews
import Derived.JoinedTies
import Derived.KernelRfl
namespace Go.Proofs.YtbhhahjmdifbcaaDoor
/- THE CELL 'sum', in the pinned program and in every row, IS THE sha256 OF THE DUMP (.gsa) THAT YtbhhahjmdifbcaaDoorProg.lean LOADS. Nothing in Lean hashes anything: it is a label: what it is worth is what the hold of that sum in a sandbox is worth. -/
noncomputable def Tryd.pinned : Pinned := { name := "ytbhhahjmdifbcaadoor", sum := "03485271118e2cf83714636bb85c90cfaf5c6a9d7991150ba3be82a6efb0703a", checked := Tryd.checked }
namespace Rows
def none {H : Type} : Left H := { results := [], args := [] }

/- WHAT THE LISTED PACKAGE-LEVEL VARIABLES READ AS WHEN THE CALL BEGINS. Each datum BY PROGRAM (the guide's laid-datum.mjs) off the statement by which the dump's own 'gosem.cut.vars' lays the variable. In a bare row this is a premise. The card (YtbhhahjmdifbcaaDoorCards.lean) ties it to the program's text. -/
def laid_sealingwax_sums_table {H : Type} : DataW H := .agg [.lit (.int .u32 0), .lit (.int .u32 498536548), .lit (.int .u32 997073096), .lit (.int .u32 651767980), .lit (.int .u32 1994146192), .lit (.int .u32 1802195444), .lit (.int .u32 1303535960), .lit (.int .u32 1342533948), .lit (.int .u32 3988292384), .lit (.int .u32 4027552580), .lit (.int .u32 3604390888), .lit (.int .u32 3412177804), .lit (.int .u32 2607071920), .lit (.int .u32 2262029012), .lit (.int .u32 2685067896), .lit (.int .u32 3183342108)]

/-- 'sealingwaxlaw06.PacksSplit': WHATEVER THE INPUT: true; the input reads as it did. -/
def packsSplitSpec : ChangeSpec := { name := "packsSplit", fn := fun _ => fun
  | [d1, d2, d3] => { results := [.lit (.bool true)], args := [d1, d2, d3] }
  | _ => none }
def packsSplitRow : OpenClaim := { program := "ytbhhahjmdifbcaadoor", sum := "03485271118e2cf83714636bb85c90cfaf5c6a9d7991150ba3be82a6efb0703a", func := "sealingwax/sealingwaxlaw06.PacksSplit", spec := "packsSplit", inPlace := ["internal/abi.NoEscape", "internal/bytealg.MakeNoZero"], unfollowed := true, recurses := true, named := ["sealingwax/sums.table"], apart := false, laid := [("sealingwax/sums.table", laid_sealingwax_sums_table)] }
def PacksSplitSaid : Prop := packsSplitRow.holds Tryd.pinned (OpenSpec.ofChange packsSplitSpec)

/-- ITS FALSE NEIGHBOUR: 'it returns false'. Refute it at one input. -/
def packsSplitWrong : ChangeSpec := { name := "packsSplit", fn := fun _ => fun
  | [d1, d2, d3] => { results := [.lit (.bool false)], args := [d1, d2, d3] }
  | _ => none }
def PacksSplitWrongFalsely : Prop := packsSplitRow.holds Tryd.pinned (OpenSpec.ofChange packsSplitWrong)

/-- 'sealingwaxlaw06.PacksJoin': WHATEVER THE INPUT: true; the input reads as it did. -/
def packsJoinSpec : ChangeSpec := { name := "packsJoin", fn := fun _ => fun
  | [d1, d2, d3] => { results := [.lit (.bool true)], args := [d1, d2, d3] }
  | _ => none }
def packsJoinRow : OpenClaim := { program := "ytbhhahjmdifbcaadoor", sum := "03485271118e2cf83714636bb85c90cfaf5c6a9d7991150ba3be82a6efb0703a", func := "sealingwax/sealingwaxlaw06.PacksJoin", spec := "packsJoin", inPlace := ["internal/abi.NoEscape", "internal/bytealg.MakeNoZero"], unfollowed := true, recurses := true, named := ["sealingwax/sums.table"], apart := false, laid := [("sealingwax/sums.table", laid_sealingwax_sums_table)] }
def PacksJoinSaid : Prop := packsJoinRow.holds Tryd.pinned (OpenSpec.ofChange packsJoinSpec)

/-- ITS FALSE NEIGHBOUR: 'it returns false'. Refute it at one input. -/
def packsJoinWrong : ChangeSpec := { name := "packsJoin", fn := fun _ => fun
  | [d1, d2, d3] => { results := [.lit (.bool false)], args := [d1, d2, d3] }
  | _ => none }
def PacksJoinWrongFalsely : Prop := packsJoinRow.holds Tryd.pinned (OpenSpec.ofChange packsJoinWrong)

/-- 'sealingwaxlaw06.PacksBack': WHATEVER THE INPUT: true; the input reads as it did. -/
def packsBackSpec : ChangeSpec := { name := "packsBack", fn := fun _ => fun
  | [d1, d2, d3] => { results := [.lit (.bool true)], args := [d1, d2, d3] }
  | _ => none }
def packsBackRow : OpenClaim := { program := "ytbhhahjmdifbcaadoor", sum := "03485271118e2cf83714636bb85c90cfaf5c6a9d7991150ba3be82a6efb0703a", func := "sealingwax/sealingwaxlaw06.PacksBack", spec := "packsBack", inPlace := ["internal/abi.NoEscape", "internal/bytealg.MakeNoZero"], unfollowed := true, recurses := true, named := ["sealingwax/sums.table"], apart := false, laid := [("sealingwax/sums.table", laid_sealingwax_sums_table)] }
def PacksBackSaid : Prop := packsBackRow.holds Tryd.pinned (OpenSpec.ofChange packsBackSpec)

/-- ITS FALSE NEIGHBOUR: 'it returns false'. Refute it at one input. -/
def packsBackWrong : ChangeSpec := { name := "packsBack", fn := fun _ => fun
  | [d1, d2, d3] => { results := [.lit (.bool false)], args := [d1, d2, d3] }
  | _ => none }
def PacksBackWrongFalsely : Prop := packsBackRow.holds Tryd.pinned (OpenSpec.ofChange packsBackWrong)

/-- 'sealingwaxlaw06.PacksWay': WHATEVER THE INPUT: true; the input reads as it did. -/
def packsWaySpec : ChangeSpec := { name := "packsWay", fn := fun _ => fun
  | [d1, d2, d3] => { results := [.lit (.bool true)], args := [d1, d2, d3] }
  | _ => none }
def packsWayRow : OpenClaim := { program := "ytbhhahjmdifbcaadoor", sum := "03485271118e2cf83714636bb85c90cfaf5c6a9d7991150ba3be82a6efb0703a", func := "sealingwax/sealingwaxlaw06.PacksWay", spec := "packsWay", inPlace := ["internal/abi.NoEscape", "internal/bytealg.MakeNoZero"], unfollowed := true, recurses := true, named := ["sealingwax/sums.table"], apart := false, laid := [("sealingwax/sums.table", laid_sealingwax_sums_table)] }
def PacksWaySaid : Prop := packsWayRow.holds Tryd.pinned (OpenSpec.ofChange packsWaySpec)

/-- ITS FALSE NEIGHBOUR: 'it returns false'. Refute it at one input. -/
def packsWayWrong : ChangeSpec := { name := "packsWay", fn := fun _ => fun
  | [d1, d2, d3] => { results := [.lit (.bool false)], args := [d1, d2, d3] }
  | _ => none }
def PacksWayWrongFalsely : Prop := packsWayRow.holds Tryd.pinned (OpenSpec.ofChange packsWayWrong)

/-- 'sealingwaxlaw06.PacksSpoilt': WHATEVER THE INPUT: true; the input reads as it did. -/
def packsSpoiltSpec : ChangeSpec := { name := "packsSpoilt", fn := fun _ => fun
  | [d1, d2] => { results := [.lit (.bool true)], args := [d1, d2] }
  | _ => none }
def packsSpoiltRow : OpenClaim := { program := "ytbhhahjmdifbcaadoor", sum := "03485271118e2cf83714636bb85c90cfaf5c6a9d7991150ba3be82a6efb0703a", func := "sealingwax/sealingwaxlaw06.PacksSpoilt", spec := "packsSpoilt", inPlace := ["internal/abi.NoEscape", "internal/bytealg.MakeNoZero"], unfollowed := true, recurses := true, named := ["sealingwax/sums.table"], apart := false, laid := [("sealingwax/sums.table", laid_sealingwax_sums_table)] }
def PacksSpoiltSaid : Prop := packsSpoiltRow.holds Tryd.pinned (OpenSpec.ofChange packsSpoiltSpec)

/-- ITS FALSE NEIGHBOUR: 'it returns false'. Refute it at one input. -/
def packsSpoiltWrong : ChangeSpec := { name := "packsSpoilt", fn := fun _ => fun
  | [d1, d2] => { results := [.lit (.bool false)], args := [d1, d2] }
  | _ => none }
def PacksSpoiltWrongFalsely : Prop := packsSpoiltRow.holds Tryd.pinned (OpenSpec.ofChange packsSpoiltWrong)

/-- 'sealingwaxlaw06.PacksCount': WHATEVER THE INPUT: true; the input reads as it did. -/
def packsCountSpec : ChangeSpec := { name := "packsCount", fn := fun _ => fun
  | [d] => { results := [.lit (.bool true)], args := [d] }
  | _ => none }
def packsCountRow : OpenClaim := { program := "ytbhhahjmdifbcaadoor", sum := "03485271118e2cf83714636bb85c90cfaf5c6a9d7991150ba3be82a6efb0703a", func := "sealingwax/sealingwaxlaw06.PacksCount", spec := "packsCount", inPlace := ["internal/abi.NoEscape", "internal/bytealg.MakeNoZero"], unfollowed := true, recurses := true, named := ["sealingwax/sums.table"], apart := false, laid := [("sealingwax/sums.table", laid_sealingwax_sums_table)] }
def PacksCountSaid : Prop := packsCountRow.holds Tryd.pinned (OpenSpec.ofChange packsCountSpec)

/-- ITS FALSE NEIGHBOUR: 'it returns false'. Refute it at one input. -/
def packsCountWrong : ChangeSpec := { name := "packsCount", fn := fun _ => fun
  | [d] => { results := [.lit (.bool false)], args := [d] }
  | _ => none }
def PacksCountWrongFalsely : Prop := packsCountRow.holds Tryd.pinned (OpenSpec.ofChange packsCountWrong)

/-- 'sealingwaxlaw06.PacksParts': WHATEVER THE INPUT: true; the input reads as it did. -/
def packsPartsSpec : ChangeSpec := { name := "packsParts", fn := fun _ => fun
  | [d] => { results := [.lit (.bool true)], args := [d] }
  | _ => none }
def packsPartsRow : OpenClaim := { program := "ytbhhahjmdifbcaadoor", sum := "03485271118e2cf83714636bb85c90cfaf5c6a9d7991150ba3be82a6efb0703a", func := "sealingwax/sealingwaxlaw06.PacksParts", spec := "packsParts", inPlace := ["internal/abi.NoEscape", "internal/bytealg.MakeNoZero"], unfollowed := true, recurses := true, named := ["sealingwax/sums.table"], apart := false, laid := [("sealingwax/sums.table", laid_sealingwax_sums_table)] }
def PacksPartsSaid : Prop := packsPartsRow.holds Tryd.pinned (OpenSpec.ofChange packsPartsSpec)

/-- ITS FALSE NEIGHBOUR: 'it returns false'. Refute it at one input. -/
def packsPartsWrong : ChangeSpec := { name := "packsParts", fn := fun _ => fun
  | [d] => { results := [.lit (.bool false)], args := [d] }
  | _ => none }
def PacksPartsWrongFalsely : Prop := packsPartsRow.holds Tryd.pinned (OpenSpec.ofChange packsPartsWrong)

/-- 'sealingwaxlaw06.PacksMixed': WHATEVER THE INPUT: true; the input reads as it did. -/
def packsMixedSpec : ChangeSpec := { name := "packsMixed", fn := fun _ => fun
  | [d1, d2] => { results := [.lit (.bool true)], args := [d1, d2] }
  | _ => none }
def packsMixedRow : OpenClaim := { program := "ytbhhahjmdifbcaadoor", sum := "03485271118e2cf83714636bb85c90cfaf5c6a9d7991150ba3be82a6efb0703a", func := "sealingwax/sealingwaxlaw06.PacksMixed", spec := "packsMixed", inPlace := ["internal/abi.NoEscape", "internal/bytealg.MakeNoZero"], unfollowed := true, recurses := true, named := ["sealingwax/sums.table"], apart := false, laid := [("sealingwax/sums.table", laid_sealingwax_sums_table)] }
def PacksMixedSaid : Prop := packsMixedRow.holds Tryd.pinned (OpenSpec.ofChange packsMixedSpec)

/-- ITS FALSE NEIGHBOUR: 'it returns false'. Refute it at one input. -/
def packsMixedWrong : ChangeSpec := { name := "packsMixed", fn := fun _ => fun
  | [d1, d2] => { results := [.lit (.bool false)], args := [d1, d2] }
  | _ => none }
def PacksMixedWrongFalsely : Prop := packsMixedRow.holds Tryd.pinned (OpenSpec.ofChange packsMixedWrong)

/- THE SECOND FORM. 'bulk': how many values and letters a reading holds, each counted each time it is reached (what is shared counts as often as it is met; a slice's spare places count too). A statement '..UptoSaid' is the law's where the arguments, and the package variables that the reading takes, are together of bulk at most 1048576: NARROWER than '..Said'. Prove '..Said' where nothing that the law and all that it calls make is longer than what came in: it says more and counts as full. Else prove '..UptoSaid'. A law counts once. -/
mutual
def uptoBulk {H : Type} : DataW H → Nat
  | .lit (.string bytes) => bytes.length + 1
  | .lit _ => 1
  | .nil => 1
  | .ptr d => uptoBulk d + 1
  | .slice elems spare => uptoBulkAll elems + uptoBulkAll spare + 1
  | .agg parts => uptoBulkAll parts + 1
  | .iface _ d => uptoBulk d + 1
  | .map entries => uptoBulkEntries entries + 1
  | .held _ => 1
def uptoBulkAll {H : Type} : List (DataW H) → Nat
  | [] => 0
  | d :: r => uptoBulk d + uptoBulkAll r
def uptoBulkEntries {H : Type} : List (Lit × DataW H) → Nat
  | [] => 0
  | x :: r => uptoBulkEntry x + uptoBulkEntries r
def uptoBulkEntry {H : Type} : Lit × DataW H → Nat
  | (.string bytes, d) => bytes.length + uptoBulk d + 1
  | (_, d) => uptoBulk d + 1
 end
def uptoSmall : (H : Type) → List (DataW H) → Bool := fun _ ds => decide (uptoBulkAll ds ≤ 1048576)
def OpenSpec.upto (s : _root_.Go.ChangeSpec) : _root_.Go.OpenSpec := { _root_.Go.OpenSpec.ofChange s with cond := some uptoSmall }

/-- 'sealingwaxlaw06.PacksSplit', WHERE WHAT IT READS IS OF BULK AT MOST 1048576: true; the input reads as it did. -/
def packsSplitUptoRow : OpenClaim := { program := "ytbhhahjmdifbcaadoor", sum := "03485271118e2cf83714636bb85c90cfaf5c6a9d7991150ba3be82a6efb0703a", func := "sealingwax/sealingwaxlaw06.PacksSplit", spec := "packsSplit", inPlace := ["internal/abi.NoEscape", "internal/bytealg.MakeNoZero"], unfollowed := true, recurses := true, named := ["sealingwax/sums.table"], apart := false, laid := [("sealingwax/sums.table", laid_sealingwax_sums_table)], narrowed := true }
def PacksSplitUptoSaid : Prop := packsSplitUptoRow.holds Tryd.pinned (OpenSpec.upto packsSplitSpec)

/-- 'sealingwaxlaw06.PacksJoin', WHERE WHAT IT READS IS OF BULK AT MOST 1048576: true; the input reads as it did. -/
def packsJoinUptoRow : OpenClaim := { program := "ytbhhahjmdifbcaadoor", sum := "03485271118e2cf83714636bb85c90cfaf5c6a9d7991150ba3be82a6efb0703a", func := "sealingwax/sealingwaxlaw06.PacksJoin", spec := "packsJoin", inPlace := ["internal/abi.NoEscape", "internal/bytealg.MakeNoZero"], unfollowed := true, recurses := true, named := ["sealingwax/sums.table"], apart := false, laid := [("sealingwax/sums.table", laid_sealingwax_sums_table)], narrowed := true }
def PacksJoinUptoSaid : Prop := packsJoinUptoRow.holds Tryd.pinned (OpenSpec.upto packsJoinSpec)

/-- 'sealingwaxlaw06.PacksBack', WHERE WHAT IT READS IS OF BULK AT MOST 1048576: true; the input reads as it did. -/
def packsBackUptoRow : OpenClaim := { program := "ytbhhahjmdifbcaadoor", sum := "03485271118e2cf83714636bb85c90cfaf5c6a9d7991150ba3be82a6efb0703a", func := "sealingwax/sealingwaxlaw06.PacksBack", spec := "packsBack", inPlace := ["internal/abi.NoEscape", "internal/bytealg.MakeNoZero"], unfollowed := true, recurses := true, named := ["sealingwax/sums.table"], apart := false, laid := [("sealingwax/sums.table", laid_sealingwax_sums_table)], narrowed := true }
def PacksBackUptoSaid : Prop := packsBackUptoRow.holds Tryd.pinned (OpenSpec.upto packsBackSpec)

/-- 'sealingwaxlaw06.PacksWay', WHERE WHAT IT READS IS OF BULK AT MOST 1048576: true; the input reads as it did. -/
def packsWayUptoRow : OpenClaim := { program := "ytbhhahjmdifbcaadoor", sum := "03485271118e2cf83714636bb85c90cfaf5c6a9d7991150ba3be82a6efb0703a", func := "sealingwax/sealingwaxlaw06.PacksWay", spec := "packsWay", inPlace := ["internal/abi.NoEscape", "internal/bytealg.MakeNoZero"], unfollowed := true, recurses := true, named := ["sealingwax/sums.table"], apart := false, laid := [("sealingwax/sums.table", laid_sealingwax_sums_table)], narrowed := true }
def PacksWayUptoSaid : Prop := packsWayUptoRow.holds Tryd.pinned (OpenSpec.upto packsWaySpec)

/-- 'sealingwaxlaw06.PacksSpoilt', WHERE WHAT IT READS IS OF BULK AT MOST 1048576: true; the input reads as it did. -/
def packsSpoiltUptoRow : OpenClaim := { program := "ytbhhahjmdifbcaadoor", sum := "03485271118e2cf83714636bb85c90cfaf5c6a9d7991150ba3be82a6efb0703a", func := "sealingwax/sealingwaxlaw06.PacksSpoilt", spec := "packsSpoilt", inPlace := ["internal/abi.NoEscape", "internal/bytealg.MakeNoZero"], unfollowed := true, recurses := true, named := ["sealingwax/sums.table"], apart := false, laid := [("sealingwax/sums.table", laid_sealingwax_sums_table)], narrowed := true }
def PacksSpoiltUptoSaid : Prop := packsSpoiltUptoRow.holds Tryd.pinned (OpenSpec.upto packsSpoiltSpec)

/-- 'sealingwaxlaw06.PacksCount', WHERE WHAT IT READS IS OF BULK AT MOST 1048576: true; the input reads as it did. -/
def packsCountUptoRow : OpenClaim := { program := "ytbhhahjmdifbcaadoor", sum := "03485271118e2cf83714636bb85c90cfaf5c6a9d7991150ba3be82a6efb0703a", func := "sealingwax/sealingwaxlaw06.PacksCount", spec := "packsCount", inPlace := ["internal/abi.NoEscape", "internal/bytealg.MakeNoZero"], unfollowed := true, recurses := true, named := ["sealingwax/sums.table"], apart := false, laid := [("sealingwax/sums.table", laid_sealingwax_sums_table)], narrowed := true }
def PacksCountUptoSaid : Prop := packsCountUptoRow.holds Tryd.pinned (OpenSpec.upto packsCountSpec)

/-- 'sealingwaxlaw06.PacksParts', WHERE WHAT IT READS IS OF BULK AT MOST 1048576: true; the input reads as it did. -/
def packsPartsUptoRow : OpenClaim := { program := "ytbhhahjmdifbcaadoor", sum := "03485271118e2cf83714636bb85c90cfaf5c6a9d7991150ba3be82a6efb0703a", func := "sealingwax/sealingwaxlaw06.PacksParts", spec := "packsParts", inPlace := ["internal/abi.NoEscape", "internal/bytealg.MakeNoZero"], unfollowed := true, recurses := true, named := ["sealingwax/sums.table"], apart := false, laid := [("sealingwax/sums.table", laid_sealingwax_sums_table)], narrowed := true }
def PacksPartsUptoSaid : Prop := packsPartsUptoRow.holds Tryd.pinned (OpenSpec.upto packsPartsSpec)

/-- 'sealingwaxlaw06.PacksMixed', WHERE WHAT IT READS IS OF BULK AT MOST 1048576: true; the input reads as it did. -/
def packsMixedUptoRow : OpenClaim := { program := "ytbhhahjmdifbcaadoor", sum := "03485271118e2cf83714636bb85c90cfaf5c6a9d7991150ba3be82a6efb0703a", func := "sealingwax/sealingwaxlaw06.PacksMixed", spec := "packsMixed", inPlace := ["internal/abi.NoEscape", "internal/bytealg.MakeNoZero"], unfollowed := true, recurses := true, named := ["sealingwax/sums.table"], apart := false, laid := [("sealingwax/sums.table", laid_sealingwax_sums_table)], narrowed := true }
def PacksMixedUptoSaid : Prop := packsMixedUptoRow.holds Tryd.pinned (OpenSpec.upto packsMixedSpec)

end Rows
end Go.Proofs.YtbhhahjmdifbcaaDoor
