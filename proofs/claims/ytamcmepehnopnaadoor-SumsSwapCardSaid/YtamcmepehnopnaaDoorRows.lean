/-
  NARROWER THAN 'FOR EVERY INPUT', by the rows' own cells (each row's printed sentence says how): SumsOf: laid · SumsJoin: laid · SumsBits: laid · SumsGo: laid · SumsThree: laid · SumsSwap: laid.
  DERIVED. THE GIVEN ROWS OF THIS SEAT. 6 by the template 'for every input the law returns true; each argument reads behind the call as it read before'; 0 by the template 'total and deterministic' (their statements: YtamcmepehnopnaaDoorTotals.lean).
  GIVEN WITH THE SEED: the statements are not yours to turn. If you find one false, say at which input.
  Laid BY PROGRAM, IN A SANDBOX (cutbox-rows.mjs): the forced cells as the released guide's own fill.sh prints them over the translation 1ebb848b97e61619… (all of the seat's roots in one cut). By AI agents, Wed Nov 11 2026. No macro, syntax, notation, axiom, sorry.
-/
import Derived.Test.YtamcmepehnopnaaDoorChecked
import GoSem.Claim
import GoSem.ClaimJoined
import GoSem.ClaimMapViews
import Derived.JoinedTies
import Derived.KernelRfl
namespace Go.Proofs.YtamcmepehnopnaaDoor
/- THE CELL 'sum', in the pinned program and in every row, IS THE sha256 OF THE DUMP (.gsa) THAT YtamcmepehnopnaaDoorProg.lean LOADS. Nothing in Lean hashes anything: it is a label: what it is worth is what the hold of that sum in a sandbox is worth. -/
noncomputable def Tryd.pinned : Pinned := { name := "ytamcmepehnopnaadoor", sum := "1ebb848b97e61619699b054b3bae10752fdd716e68e6c9dda94e1b5e7cef171f", checked := Tryd.checked }
namespace Rows
def none {H : Type} : Left H := { results := [], args := [] }

/- WHAT THE LISTED PACKAGE-LEVEL VARIABLES READ AS WHEN THE CALL BEGINS. Each datum BY PROGRAM (the guide's laid-datum.mjs) off the statement by which the dump's own 'gosem.cut.vars' lays the variable. In a bare row this is a premise. The card (YtamcmepehnopnaaDoorCards.lean) ties it to the program's text. -/
def laid_sealingwax_sums_table {H : Type} : DataW H := .agg [.lit (.int .u32 0), .lit (.int .u32 498536548), .lit (.int .u32 997073096), .lit (.int .u32 651767980), .lit (.int .u32 1994146192), .lit (.int .u32 1802195444), .lit (.int .u32 1303535960), .lit (.int .u32 1342533948), .lit (.int .u32 3988292384), .lit (.int .u32 4027552580), .lit (.int .u32 3604390888), .lit (.int .u32 3412177804), .lit (.int .u32 2607071920), .lit (.int .u32 2262029012), .lit (.int .u32 2685067896), .lit (.int .u32 3183342108)]

/-- 'sealingwaxlaw03.SumsOf': WHATEVER THE INPUT: true; the input reads as it did. -/
def sumsOfSpec : ChangeSpec := { name := "sumsOf", fn := fun _ => fun
  | [d1, d2] => { results := [.lit (.bool true)], args := [d1, d2] }
  | _ => none }
def sumsOfRow : OpenClaim := { program := "ytamcmepehnopnaadoor", sum := "1ebb848b97e61619699b054b3bae10752fdd716e68e6c9dda94e1b5e7cef171f", func := "sealingwax/sealingwaxlaw03.SumsOf", spec := "sumsOf", named := ["sealingwax/sums.table"], apart := false, laid := [("sealingwax/sums.table", laid_sealingwax_sums_table)] }
def SumsOfSaid : Prop := sumsOfRow.holds Tryd.pinned (OpenSpec.ofChange sumsOfSpec)

/-- ITS FALSE NEIGHBOUR: 'it returns false'. Refute it at one input. -/
def sumsOfWrong : ChangeSpec := { name := "sumsOf", fn := fun _ => fun
  | [d1, d2] => { results := [.lit (.bool false)], args := [d1, d2] }
  | _ => none }
def SumsOfWrongFalsely : Prop := sumsOfRow.holds Tryd.pinned (OpenSpec.ofChange sumsOfWrong)

/-- 'sealingwaxlaw03.SumsJoin': WHATEVER THE INPUT: true; the input reads as it did. -/
def sumsJoinSpec : ChangeSpec := { name := "sumsJoin", fn := fun _ => fun
  | [d1, d2] => { results := [.lit (.bool true)], args := [d1, d2] }
  | _ => none }
def sumsJoinRow : OpenClaim := { program := "ytamcmepehnopnaadoor", sum := "1ebb848b97e61619699b054b3bae10752fdd716e68e6c9dda94e1b5e7cef171f", func := "sealingwax/sealingwaxlaw03.SumsJoin", spec := "sumsJoin", named := ["sealingwax/sums.table"], apart := false, laid := [("sealingwax/sums.table", laid_sealingwax_sums_table)] }
def SumsJoinSaid : Prop := sumsJoinRow.holds Tryd.pinned (OpenSpec.ofChange sumsJoinSpec)

/-- ITS FALSE NEIGHBOUR: 'it returns false'. Refute it at one input. -/
def sumsJoinWrong : ChangeSpec := { name := "sumsJoin", fn := fun _ => fun
  | [d1, d2] => { results := [.lit (.bool false)], args := [d1, d2] }
  | _ => none }
def SumsJoinWrongFalsely : Prop := sumsJoinRow.holds Tryd.pinned (OpenSpec.ofChange sumsJoinWrong)

/-- 'sealingwaxlaw03.SumsBits': WHATEVER THE INPUT: true; the input reads as it did. -/
def sumsBitsSpec : ChangeSpec := { name := "sumsBits", fn := fun _ => fun
  | [d1, d2, d3] => { results := [.lit (.bool true)], args := [d1, d2, d3] }
  | _ => none }
def sumsBitsRow : OpenClaim := { program := "ytamcmepehnopnaadoor", sum := "1ebb848b97e61619699b054b3bae10752fdd716e68e6c9dda94e1b5e7cef171f", func := "sealingwax/sealingwaxlaw03.SumsBits", spec := "sumsBits", named := ["sealingwax/sums.table"], apart := false, laid := [("sealingwax/sums.table", laid_sealingwax_sums_table)] }
def SumsBitsSaid : Prop := sumsBitsRow.holds Tryd.pinned (OpenSpec.ofChange sumsBitsSpec)

/-- ITS FALSE NEIGHBOUR: 'it returns false'. Refute it at one input. -/
def sumsBitsWrong : ChangeSpec := { name := "sumsBits", fn := fun _ => fun
  | [d1, d2, d3] => { results := [.lit (.bool false)], args := [d1, d2, d3] }
  | _ => none }
def SumsBitsWrongFalsely : Prop := sumsBitsRow.holds Tryd.pinned (OpenSpec.ofChange sumsBitsWrong)

/-- 'sealingwaxlaw03.SumsGo': WHATEVER THE INPUT: true; the input reads as it did. -/
def sumsGoSpec : ChangeSpec := { name := "sumsGo", fn := fun _ => fun
  | [d1, d2, d3] => { results := [.lit (.bool true)], args := [d1, d2, d3] }
  | _ => none }
def sumsGoRow : OpenClaim := { program := "ytamcmepehnopnaadoor", sum := "1ebb848b97e61619699b054b3bae10752fdd716e68e6c9dda94e1b5e7cef171f", func := "sealingwax/sealingwaxlaw03.SumsGo", spec := "sumsGo", named := ["sealingwax/sums.table"], apart := false, laid := [("sealingwax/sums.table", laid_sealingwax_sums_table)] }
def SumsGoSaid : Prop := sumsGoRow.holds Tryd.pinned (OpenSpec.ofChange sumsGoSpec)

/-- ITS FALSE NEIGHBOUR: 'it returns false'. Refute it at one input. -/
def sumsGoWrong : ChangeSpec := { name := "sumsGo", fn := fun _ => fun
  | [d1, d2, d3] => { results := [.lit (.bool false)], args := [d1, d2, d3] }
  | _ => none }
def SumsGoWrongFalsely : Prop := sumsGoRow.holds Tryd.pinned (OpenSpec.ofChange sumsGoWrong)

/-- 'sealingwaxlaw03.SumsThree': WHATEVER THE INPUT: true; the input reads as it did. -/
def sumsThreeSpec : ChangeSpec := { name := "sumsThree", fn := fun _ => fun
  | [d1, d2, d3] => { results := [.lit (.bool true)], args := [d1, d2, d3] }
  | _ => none }
def sumsThreeRow : OpenClaim := { program := "ytamcmepehnopnaadoor", sum := "1ebb848b97e61619699b054b3bae10752fdd716e68e6c9dda94e1b5e7cef171f", func := "sealingwax/sealingwaxlaw03.SumsThree", spec := "sumsThree", named := ["sealingwax/sums.table"], apart := false, laid := [("sealingwax/sums.table", laid_sealingwax_sums_table)] }
def SumsThreeSaid : Prop := sumsThreeRow.holds Tryd.pinned (OpenSpec.ofChange sumsThreeSpec)

/-- ITS FALSE NEIGHBOUR: 'it returns false'. Refute it at one input. -/
def sumsThreeWrong : ChangeSpec := { name := "sumsThree", fn := fun _ => fun
  | [d1, d2, d3] => { results := [.lit (.bool false)], args := [d1, d2, d3] }
  | _ => none }
def SumsThreeWrongFalsely : Prop := sumsThreeRow.holds Tryd.pinned (OpenSpec.ofChange sumsThreeWrong)

/-- 'sealingwaxlaw03.SumsSwap': WHATEVER THE INPUT: true; the input reads as it did. -/
def sumsSwapSpec : ChangeSpec := { name := "sumsSwap", fn := fun _ => fun
  | [d1, d2] => { results := [.lit (.bool true)], args := [d1, d2] }
  | _ => none }
def sumsSwapRow : OpenClaim := { program := "ytamcmepehnopnaadoor", sum := "1ebb848b97e61619699b054b3bae10752fdd716e68e6c9dda94e1b5e7cef171f", func := "sealingwax/sealingwaxlaw03.SumsSwap", spec := "sumsSwap", named := ["sealingwax/sums.table"], apart := false, laid := [("sealingwax/sums.table", laid_sealingwax_sums_table)] }
def SumsSwapSaid : Prop := sumsSwapRow.holds Tryd.pinned (OpenSpec.ofChange sumsSwapSpec)

/-- ITS FALSE NEIGHBOUR: 'it returns false'. Refute it at one input. -/
def sumsSwapWrong : ChangeSpec := { name := "sumsSwap", fn := fun _ => fun
  | [d1, d2] => { results := [.lit (.bool false)], args := [d1, d2] }
  | _ => none }
def SumsSwapWrongFalsely : Prop := sumsSwapRow.holds Tryd.pinned (OpenSpec.ofChange sumsSwapWrong)

/- THE SECOND FORM. 'bulk': how many values and letters a reading holds, each counted each time it is reached (what is shared counts as often as it is met; a slice's spare places count too). A statement '..UptoSaid' is the law's where the arguments, and the package variables that the reading takes, are together of bulk at most 1048576: NARROWER than '..Said'. Prove '..Said' where nothing that the law and all that it calls make is longer than what came in: it says more and counts as full. Else prove '..UptoSaid'. A law counts once. -/
mutual
def uptoBulk {H : Type} : DataW H → Nat
  | .lit (.string bytes) => bytes.length + 1
  | .lit _ => 1
  | .nil => 1
  | .ptr d => uptoBulk d + 1
  | .slice elems spare => uptoBulkAll elems + uptoBulkAll spare + 1
  | .agg parts => uptoBulkAll parts + 1
  | .iface _ d => uptoBulk d + 1
  | .map entries => uptoBulkEntries entries + 1
  | .held _ => 1
def uptoBulkAll {H : Type} : List (DataW H) → Nat
  | [] => 0
  | d :: r => uptoBulk d + uptoBulkAll r
def uptoBulkEntries {H : Type} : List (Lit × DataW H) → Nat
  | [] => 0
  | x :: r => uptoBulkEntry x + uptoBulkEntries r
def uptoBulkEntry {H : Type} : Lit × DataW H → Nat
  | (.string bytes, d) => bytes.length + uptoBulk d + 1
  | (_, d) => uptoBulk d + 1
 end
def uptoSmall : (H : Type) → List (DataW H) → Bool := fun _ ds => decide (uptoBulkAll ds ≤ 1048576)
def OpenSpec.upto (s : _root_.Go.ChangeSpec) : _root_.Go.OpenSpec := { _root_.Go.OpenSpec.ofChange s with cond := some uptoSmall }

/-- 'sealingwaxlaw03.SumsOf', WHERE WHAT IT READS IS OF BULK AT MOST 1048576: true; the input reads as it did. -/
def sumsOfUptoRow : OpenClaim := { program := "ytamcmepehnopnaadoor", sum := "1ebb848b97e61619699b054b3bae10752fdd716e68e6c9dda94e1b5e7cef171f", func := "sealingwax/sealingwaxlaw03.SumsOf", spec := "sumsOf", named := ["sealingwax/sums.table"], apart := false, laid := [("sealingwax/sums.table", laid_sealingwax_sums_table)], narrowed := true }
def SumsOfUptoSaid : Prop := sumsOfUptoRow.holds Tryd.pinned (OpenSpec.upto sumsOfSpec)

/-- 'sealingwaxlaw03.SumsJoin', WHERE WHAT IT READS IS OF BULK AT MOST 1048576: true; the input reads as it did. -/
def sumsJoinUptoRow : OpenClaim := { program := "ytamcmepehnopnaadoor", sum := "1ebb848b97e61619699b054b3bae10752fdd716e68e6c9dda94e1b5e7cef171f", func := "sealingwax/sealingwaxlaw03.SumsJoin", spec := "sumsJoin", named := ["sealingwax/sums.table"], apart := false, laid := [("sealingwax/sums.table", laid_sealingwax_sums_table)], narrowed := true }
def SumsJoinUptoSaid : Prop := sumsJoinUptoRow.holds Tryd.pinned (OpenSpec.upto sumsJoinSpec)

/-- 'sealingwaxlaw03.SumsBits', WHERE WHAT IT READS IS OF BULK AT MOST 1048576: true; the input reads as it did. -/
def sumsBitsUptoRow : OpenClaim := { program := "ytamcmepehnopnaadoor", sum := "1ebb848b97e61619699b054b3bae10752fdd716e68e6c9dda94e1b5e7cef171f", func := "sealingwax/sealingwaxlaw03.SumsBits", spec := "sumsBits", named := ["sealingwax/sums.table"], apart := false, laid := [("sealingwax/sums.table", laid_sealingwax_sums_table)], narrowed := true }
def SumsBitsUptoSaid : Prop := sumsBitsUptoRow.holds Tryd.pinned (OpenSpec.upto sumsBitsSpec)

/-- 'sealingwaxlaw03.SumsGo', WHERE WHAT IT READS IS OF BULK AT MOST 1048576: true; the input reads as it did. -/
def sumsGoUptoRow : OpenClaim := { program := "ytamcmepehnopnaadoor", sum := "1ebb848b97e61619699b054b3bae10752fdd716e68e6c9dda94e1b5e7cef171f", func := "sealingwax/sealingwaxlaw03.SumsGo", spec := "sumsGo", named := ["sealingwax/sums.table"], apart := false, laid := [("sealingwax/sums.table", laid_sealingwax_sums_table)], narrowed := true }
def SumsGoUptoSaid : Prop := sumsGoUptoRow.holds Tryd.pinned (OpenSpec.upto sumsGoSpec)

/-- 'sealingwaxlaw03.SumsThree', WHERE WHAT IT READS IS OF BULK AT MOST 1048576: true; the input reads as it did. -/
def sumsThreeUptoRow : OpenClaim := { program := "ytamcmepehnopnaadoor", sum := "1ebb848b97e61619699b054b3bae10752fdd716e68e6c9dda94e1b5e7cef171f", func := "sealingwax/sealingwaxlaw03.SumsThree", spec := "sumsThree", named := ["sealingwax/sums.table"], apart := false, laid := [("sealingwax/sums.table", laid_sealingwax_sums_table)], narrowed := true }
def SumsThreeUptoSaid : Prop := sumsThreeUptoRow.holds Tryd.pinned (OpenSpec.upto sumsThreeSpec)

/-- 'sealingwaxlaw03.SumsSwap', WHERE WHAT IT READS IS OF BULK AT MOST 1048576: true; the input reads as it did. -/
def sumsSwapUptoRow : OpenClaim := { program := "ytamcmepehnopnaadoor", sum := "1ebb848b97e61619699b054b3bae10752fdd716e68e6c9dda94e1b5e7cef171f", func := "sealingwax/sealingwaxlaw03.SumsSwap", spec := "sumsSwap", named := ["sealingwax/sums.table"], apart := false, laid := [("sealingwax/sums.table", laid_sealingwax_sums_table)], narrowed := true }
def SumsSwapUptoSaid : Prop := sumsSwapUptoRow.holds Tryd.pinned (OpenSpec.upto sumsSwapSpec)

end Rows
end Go.Proofs.YtamcmepehnopnaaDoor
