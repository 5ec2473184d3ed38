/-
  NARROWER THAN 'FOR EVERY INPUT', by the rows' own cells (each row's printed sentence says how): FramesEncode: laid · FramesDecode: laid · FramesBack: laid · FramesLack: laid · FramesOne: laid · FramesApart: laid · FramesMarks: laid · FramesEach: laid · FramesCrash: laid.
  DERIVED. THE GIVEN ROWS OF THIS SEAT. 9 by the template 'for every input the law returns true; each argument reads behind the call as it read before'; 0 by the template 'total and deterministic' (their statements: YtakipobkcckaaaaDoorTotals.lean).
  GIVEN WITH THE SEED: the statements are not yours to turn. If you find one false, say at which input.
  Laid BY PROGRAM, IN A SANDBOX (cutbox-rows.mjs): the forced cells as the released guide's own fill.sh prints them over the translation e19f42d1af61f284… (all of the seat's roots in one cut). By AI agents, Wed Nov 11 2026. No macro, syntax, notation, axiom, sorry.
-/
import Derived.Test.YtakipobkcckaaaaDoorChecked
import GoSem.Claim
import GoSem.ClaimJoined
import GoSem.ClaimMapViews
import Derived.JoinedTies
import Derived.KernelRfl
namespace Go.Proofs.YtakipobkcckaaaaDoor
/- THE CELL 'sum', in the pinned program and in every row, IS THE sha256 OF THE DUMP (.gsa) THAT YtakipobkcckaaaaDoorProg.lean LOADS. Nothing in Lean hashes anything: it is a label: what it is worth is what the hold of that sum in a sandbox is worth. -/
noncomputable def Tryd.pinned : Pinned := { name := "ytakipobkcckaaaadoor", sum := "e19f42d1af61f28414e0355221f68e55bbfa25c14bb7758f151c5a7aa929dee8", checked := Tryd.checked }
namespace Rows
def none {H : Type} : Left H := { results := [], args := [] }

/- WHAT THE LISTED PACKAGE-LEVEL VARIABLES READ AS WHEN THE CALL BEGINS. Each datum BY PROGRAM (the guide's laid-datum.mjs) off the statement by which the dump's own 'gosem.cut.vars' lays the variable. In a bare row this is a premise. The card (YtakipobkcckaaaaDoorCards.lean) ties it to the program's text. -/
def laid_sealingwax_sums_table {H : Type} : DataW H := .agg [.lit (.int .u32 0), .lit (.int .u32 498536548), .lit (.int .u32 997073096), .lit (.int .u32 651767980), .lit (.int .u32 1994146192), .lit (.int .u32 1802195444), .lit (.int .u32 1303535960), .lit (.int .u32 1342533948), .lit (.int .u32 3988292384), .lit (.int .u32 4027552580), .lit (.int .u32 3604390888), .lit (.int .u32 3412177804), .lit (.int .u32 2607071920), .lit (.int .u32 2262029012), .lit (.int .u32 2685067896), .lit (.int .u32 3183342108)]

/-- 'sealingwaxlaw05.FramesEncode': WHATEVER THE INPUT: true; the input reads as it did. -/
def framesEncodeSpec : ChangeSpec := { name := "framesEncode", fn := fun _ => fun
  | [d] => { results := [.lit (.bool true)], args := [d] }
  | _ => none }
def framesEncodeRow : OpenClaim := { program := "ytakipobkcckaaaadoor", sum := "e19f42d1af61f28414e0355221f68e55bbfa25c14bb7758f151c5a7aa929dee8", func := "sealingwax/sealingwaxlaw05.FramesEncode", spec := "framesEncode", inPlace := ["internal/abi.NoEscape", "internal/bytealg.MakeNoZero"], unfollowed := true, recurses := true, named := ["sealingwax/sums.table"], apart := false, laid := [("sealingwax/sums.table", laid_sealingwax_sums_table)] }
def FramesEncodeSaid : Prop := framesEncodeRow.holds Tryd.pinned (OpenSpec.ofChange framesEncodeSpec)

/-- ITS FALSE NEIGHBOUR: 'it returns false'. Refute it at one input. -/
def framesEncodeWrong : ChangeSpec := { name := "framesEncode", fn := fun _ => fun
  | [d] => { results := [.lit (.bool false)], args := [d] }
  | _ => none }
def FramesEncodeWrongFalsely : Prop := framesEncodeRow.holds Tryd.pinned (OpenSpec.ofChange framesEncodeWrong)

/-- 'sealingwaxlaw05.FramesDecode': WHATEVER THE INPUT: true; the input reads as it did. -/
def framesDecodeSpec : ChangeSpec := { name := "framesDecode", fn := fun _ => fun
  | [d] => { results := [.lit (.bool true)], args := [d] }
  | _ => none }
def framesDecodeRow : OpenClaim := { program := "ytakipobkcckaaaadoor", sum := "e19f42d1af61f28414e0355221f68e55bbfa25c14bb7758f151c5a7aa929dee8", func := "sealingwax/sealingwaxlaw05.FramesDecode", spec := "framesDecode", inPlace := ["internal/abi.NoEscape", "internal/bytealg.MakeNoZero"], unfollowed := true, recurses := true, named := ["sealingwax/sums.table"], apart := false, laid := [("sealingwax/sums.table", laid_sealingwax_sums_table)] }
def FramesDecodeSaid : Prop := framesDecodeRow.holds Tryd.pinned (OpenSpec.ofChange framesDecodeSpec)

/-- ITS FALSE NEIGHBOUR: 'it returns false'. Refute it at one input. -/
def framesDecodeWrong : ChangeSpec := { name := "framesDecode", fn := fun _ => fun
  | [d] => { results := [.lit (.bool false)], args := [d] }
  | _ => none }
def FramesDecodeWrongFalsely : Prop := framesDecodeRow.holds Tryd.pinned (OpenSpec.ofChange framesDecodeWrong)

/-- 'sealingwaxlaw05.FramesBack': WHATEVER THE INPUT: true; the input reads as it did. -/
def framesBackSpec : ChangeSpec := { name := "framesBack", fn := fun _ => fun
  | [d1, d2] => { results := [.lit (.bool true)], args := [d1, d2] }
  | _ => none }
def framesBackRow : OpenClaim := { program := "ytakipobkcckaaaadoor", sum := "e19f42d1af61f28414e0355221f68e55bbfa25c14bb7758f151c5a7aa929dee8", func := "sealingwax/sealingwaxlaw05.FramesBack", spec := "framesBack", inPlace := ["internal/abi.NoEscape", "internal/bytealg.MakeNoZero"], unfollowed := true, recurses := true, named := ["sealingwax/sums.table"], apart := false, laid := [("sealingwax/sums.table", laid_sealingwax_sums_table)] }
def FramesBackSaid : Prop := framesBackRow.holds Tryd.pinned (OpenSpec.ofChange framesBackSpec)

/-- ITS FALSE NEIGHBOUR: 'it returns false'. Refute it at one input. -/
def framesBackWrong : ChangeSpec := { name := "framesBack", fn := fun _ => fun
  | [d1, d2] => { results := [.lit (.bool false)], args := [d1, d2] }
  | _ => none }
def FramesBackWrongFalsely : Prop := framesBackRow.holds Tryd.pinned (OpenSpec.ofChange framesBackWrong)

/-- 'sealingwaxlaw05.FramesLack': WHATEVER THE INPUT: true; the input reads as it did. -/
def framesLackSpec : ChangeSpec := { name := "framesLack", fn := fun _ => fun
  | [d1, d2] => { results := [.lit (.bool true)], args := [d1, d2] }
  | _ => none }
def framesLackRow : OpenClaim := { program := "ytakipobkcckaaaadoor", sum := "e19f42d1af61f28414e0355221f68e55bbfa25c14bb7758f151c5a7aa929dee8", func := "sealingwax/sealingwaxlaw05.FramesLack", spec := "framesLack", inPlace := ["internal/abi.NoEscape", "internal/bytealg.MakeNoZero"], unfollowed := true, recurses := true, named := ["sealingwax/sums.table"], apart := false, laid := [("sealingwax/sums.table", laid_sealingwax_sums_table)] }
def FramesLackSaid : Prop := framesLackRow.holds Tryd.pinned (OpenSpec.ofChange framesLackSpec)

/-- ITS FALSE NEIGHBOUR: 'it returns false'. Refute it at one input. -/
def framesLackWrong : ChangeSpec := { name := "framesLack", fn := fun _ => fun
  | [d1, d2] => { results := [.lit (.bool false)], args := [d1, d2] }
  | _ => none }
def FramesLackWrongFalsely : Prop := framesLackRow.holds Tryd.pinned (OpenSpec.ofChange framesLackWrong)

/-- 'sealingwaxlaw05.FramesOne': WHATEVER THE INPUT: true; the input reads as it did. -/
def framesOneSpec : ChangeSpec := { name := "framesOne", fn := fun _ => fun
  | [d1, d2, d3] => { results := [.lit (.bool true)], args := [d1, d2, d3] }
  | _ => none }
def framesOneRow : OpenClaim := { program := "ytakipobkcckaaaadoor", sum := "e19f42d1af61f28414e0355221f68e55bbfa25c14bb7758f151c5a7aa929dee8", func := "sealingwax/sealingwaxlaw05.FramesOne", spec := "framesOne", inPlace := ["internal/abi.NoEscape", "internal/bytealg.MakeNoZero"], unfollowed := true, recurses := true, named := ["sealingwax/sums.table"], apart := false, laid := [("sealingwax/sums.table", laid_sealingwax_sums_table)] }
def FramesOneSaid : Prop := framesOneRow.holds Tryd.pinned (OpenSpec.ofChange framesOneSpec)

/-- ITS FALSE NEIGHBOUR: 'it returns false'. Refute it at one input. -/
def framesOneWrong : ChangeSpec := { name := "framesOne", fn := fun _ => fun
  | [d1, d2, d3] => { results := [.lit (.bool false)], args := [d1, d2, d3] }
  | _ => none }
def FramesOneWrongFalsely : Prop := framesOneRow.holds Tryd.pinned (OpenSpec.ofChange framesOneWrong)

/-- 'sealingwaxlaw05.FramesApart': WHATEVER THE INPUT: true; the input reads as it did. -/
def framesApartSpec : ChangeSpec := { name := "framesApart", fn := fun _ => fun
  | [d1, d2] => { results := [.lit (.bool true)], args := [d1, d2] }
  | _ => none }
def framesApartRow : OpenClaim := { program := "ytakipobkcckaaaadoor", sum := "e19f42d1af61f28414e0355221f68e55bbfa25c14bb7758f151c5a7aa929dee8", func := "sealingwax/sealingwaxlaw05.FramesApart", spec := "framesApart", inPlace := ["internal/abi.NoEscape", "internal/bytealg.MakeNoZero"], unfollowed := true, recurses := true, named := ["sealingwax/sums.table"], apart := false, laid := [("sealingwax/sums.table", laid_sealingwax_sums_table)] }
def FramesApartSaid : Prop := framesApartRow.holds Tryd.pinned (OpenSpec.ofChange framesApartSpec)

/-- ITS FALSE NEIGHBOUR: 'it returns false'. Refute it at one input. -/
def framesApartWrong : ChangeSpec := { name := "framesApart", fn := fun _ => fun
  | [d1, d2] => { results := [.lit (.bool false)], args := [d1, d2] }
  | _ => none }
def FramesApartWrongFalsely : Prop := framesApartRow.holds Tryd.pinned (OpenSpec.ofChange framesApartWrong)

/-- 'sealingwaxlaw05.FramesMarks': WHATEVER THE INPUT: true; the input reads as it did. -/
def framesMarksSpec : ChangeSpec := { name := "framesMarks", fn := fun _ => fun
  | [d] => { results := [.lit (.bool true)], args := [d] }
  | _ => none }
def framesMarksRow : OpenClaim := { program := "ytakipobkcckaaaadoor", sum := "e19f42d1af61f28414e0355221f68e55bbfa25c14bb7758f151c5a7aa929dee8", func := "sealingwax/sealingwaxlaw05.FramesMarks", spec := "framesMarks", inPlace := ["internal/abi.NoEscape", "internal/bytealg.MakeNoZero"], unfollowed := true, recurses := true, named := ["sealingwax/sums.table"], apart := false, laid := [("sealingwax/sums.table", laid_sealingwax_sums_table)] }
def FramesMarksSaid : Prop := framesMarksRow.holds Tryd.pinned (OpenSpec.ofChange framesMarksSpec)

/-- ITS FALSE NEIGHBOUR: 'it returns false'. Refute it at one input. -/
def framesMarksWrong : ChangeSpec := { name := "framesMarks", fn := fun _ => fun
  | [d] => { results := [.lit (.bool false)], args := [d] }
  | _ => none }
def FramesMarksWrongFalsely : Prop := framesMarksRow.holds Tryd.pinned (OpenSpec.ofChange framesMarksWrong)

/-- 'sealingwaxlaw05.FramesEach': WHATEVER THE INPUT: true; the input reads as it did. -/
def framesEachSpec : ChangeSpec := { name := "framesEach", fn := fun _ => fun
  | [d1, d2] => { results := [.lit (.bool true)], args := [d1, d2] }
  | _ => none }
def framesEachRow : OpenClaim := { program := "ytakipobkcckaaaadoor", sum := "e19f42d1af61f28414e0355221f68e55bbfa25c14bb7758f151c5a7aa929dee8", func := "sealingwax/sealingwaxlaw05.FramesEach", spec := "framesEach", inPlace := ["internal/abi.NoEscape", "internal/bytealg.MakeNoZero"], unfollowed := true, recurses := true, named := ["sealingwax/sums.table"], apart := false, laid := [("sealingwax/sums.table", laid_sealingwax_sums_table)] }
def FramesEachSaid : Prop := framesEachRow.holds Tryd.pinned (OpenSpec.ofChange framesEachSpec)

/-- ITS FALSE NEIGHBOUR: 'it returns false'. Refute it at one input. -/
def framesEachWrong : ChangeSpec := { name := "framesEach", fn := fun _ => fun
  | [d1, d2] => { results := [.lit (.bool false)], args := [d1, d2] }
  | _ => none }
def FramesEachWrongFalsely : Prop := framesEachRow.holds Tryd.pinned (OpenSpec.ofChange framesEachWrong)

/-- 'sealingwaxlaw05.FramesCrash': WHATEVER THE INPUT: true; the input reads as it did. -/
def framesCrashSpec : ChangeSpec := { name := "framesCrash", fn := fun _ => fun
  | [d1, d2] => { results := [.lit (.bool true)], args := [d1, d2] }
  | _ => none }
def framesCrashRow : OpenClaim := { program := "ytakipobkcckaaaadoor", sum := "e19f42d1af61f28414e0355221f68e55bbfa25c14bb7758f151c5a7aa929dee8", func := "sealingwax/sealingwaxlaw05.FramesCrash", spec := "framesCrash", inPlace := ["internal/abi.NoEscape", "internal/bytealg.MakeNoZero", "sync/atomic.AddInt64"], unfollowed := true, recurses := true, named := ["sealingwax/sums.table"], apart := false, laid := [("sealingwax/sums.table", laid_sealingwax_sums_table)] }
def FramesCrashSaid : Prop := framesCrashRow.holds Tryd.pinned (OpenSpec.ofChange framesCrashSpec)

/-- ITS FALSE NEIGHBOUR: 'it returns false'. Refute it at one input. -/
def framesCrashWrong : ChangeSpec := { name := "framesCrash", fn := fun _ => fun
  | [d1, d2] => { results := [.lit (.bool false)], args := [d1, d2] }
  | _ => none }
def FramesCrashWrongFalsely : Prop := framesCrashRow.holds Tryd.pinned (OpenSpec.ofChange framesCrashWrong)

/- THE SECOND FORM. 'bulk': how many values and letters a reading holds, each counted each time it is reached (what is shared counts as often as it is met; a slice's spare places count too). A statement '..UptoSaid' is the law's where the arguments, and the package variables that the reading takes, are together of bulk at most 1048576: NARROWER than '..Said'. Prove '..Said' where nothing that the law and all that it calls make is longer than what came in: it says more and counts as full. Else prove '..UptoSaid'. A law counts once. -/
mutual
def uptoBulk {H : Type} : DataW H → Nat
  | .lit (.string bytes) => bytes.length + 1
  | .lit _ => 1
  | .nil => 1
  | .ptr d => uptoBulk d + 1
  | .slice elems spare => uptoBulkAll elems + uptoBulkAll spare + 1
  | .agg parts => uptoBulkAll parts + 1
  | .iface _ d => uptoBulk d + 1
  | .map entries => uptoBulkEntries entries + 1
  | .held _ => 1
def uptoBulkAll {H : Type} : List (DataW H) → Nat
  | [] => 0
  | d :: r => uptoBulk d + uptoBulkAll r
def uptoBulkEntries {H : Type} : List (Lit × DataW H) → Nat
  | [] => 0
  | x :: r => uptoBulkEntry x + uptoBulkEntries r
def uptoBulkEntry {H : Type} : Lit × DataW H → Nat
  | (.string bytes, d) => bytes.length + uptoBulk d + 1
  | (_, d) => uptoBulk d + 1
 end
def uptoSmall : (H : Type) → List (DataW H) → Bool := fun _ ds => decide (uptoBulkAll ds ≤ 1048576)
def OpenSpec.upto (s : _root_.Go.ChangeSpec) : _root_.Go.OpenSpec := { _root_.Go.OpenSpec.ofChange s with cond := some uptoSmall }

/-- 'sealingwaxlaw05.FramesEncode', WHERE WHAT IT READS IS OF BULK AT MOST 1048576: true; the input reads as it did. -/
def framesEncodeUptoRow : OpenClaim := { program := "ytakipobkcckaaaadoor", sum := "e19f42d1af61f28414e0355221f68e55bbfa25c14bb7758f151c5a7aa929dee8", func := "sealingwax/sealingwaxlaw05.FramesEncode", spec := "framesEncode", inPlace := ["internal/abi.NoEscape", "internal/bytealg.MakeNoZero"], unfollowed := true, recurses := true, named := ["sealingwax/sums.table"], apart := false, laid := [("sealingwax/sums.table", laid_sealingwax_sums_table)], narrowed := true }
def FramesEncodeUptoSaid : Prop := framesEncodeUptoRow.holds Tryd.pinned (OpenSpec.upto framesEncodeSpec)

/-- 'sealingwaxlaw05.FramesDecode', WHERE WHAT IT READS IS OF BULK AT MOST 1048576: true; the input reads as it did. -/
def framesDecodeUptoRow : OpenClaim := { program := "ytakipobkcckaaaadoor", sum := "e19f42d1af61f28414e0355221f68e55bbfa25c14bb7758f151c5a7aa929dee8", func := "sealingwax/sealingwaxlaw05.FramesDecode", spec := "framesDecode", inPlace := ["internal/abi.NoEscape", "internal/bytealg.MakeNoZero"], unfollowed := true, recurses := true, named := ["sealingwax/sums.table"], apart := false, laid := [("sealingwax/sums.table", laid_sealingwax_sums_table)], narrowed := true }
def FramesDecodeUptoSaid : Prop := framesDecodeUptoRow.holds Tryd.pinned (OpenSpec.upto framesDecodeSpec)

/-- 'sealingwaxlaw05.FramesBack', WHERE WHAT IT READS IS OF BULK AT MOST 1048576: true; the input reads as it did. -/
def framesBackUptoRow : OpenClaim := { program := "ytakipobkcckaaaadoor", sum := "e19f42d1af61f28414e0355221f68e55bbfa25c14bb7758f151c5a7aa929dee8", func := "sealingwax/sealingwaxlaw05.FramesBack", spec := "framesBack", inPlace := ["internal/abi.NoEscape", "internal/bytealg.MakeNoZero"], unfollowed := true, recurses := true, named := ["sealingwax/sums.table"], apart := false, laid := [("sealingwax/sums.table", laid_sealingwax_sums_table)], narrowed := true }
def FramesBackUptoSaid : Prop := framesBackUptoRow.holds Tryd.pinned (OpenSpec.upto framesBackSpec)

/-- 'sealingwaxlaw05.FramesLack', WHERE WHAT IT READS IS OF BULK AT MOST 1048576: true; the input reads as it did. -/
def framesLackUptoRow : OpenClaim := { program := "ytakipobkcckaaaadoor", sum := "e19f42d1af61f28414e0355221f68e55bbfa25c14bb7758f151c5a7aa929dee8", func := "sealingwax/sealingwaxlaw05.FramesLack", spec := "framesLack", inPlace := ["internal/abi.NoEscape", "internal/bytealg.MakeNoZero"], unfollowed := true, recurses := true, named := ["sealingwax/sums.table"], apart := false, laid := [("sealingwax/sums.table", laid_sealingwax_sums_table)], narrowed := true }
def FramesLackUptoSaid : Prop := framesLackUptoRow.holds Tryd.pinned (OpenSpec.upto framesLackSpec)

/-- 'sealingwaxlaw05.FramesOne', WHERE WHAT IT READS IS OF BULK AT MOST 1048576: true; the input reads as it did. -/
def framesOneUptoRow : OpenClaim := { program := "ytakipobkcckaaaadoor", sum := "e19f42d1af61f28414e0355221f68e55bbfa25c14bb7758f151c5a7aa929dee8", func := "sealingwax/sealingwaxlaw05.FramesOne", spec := "framesOne", inPlace := ["internal/abi.NoEscape", "internal/bytealg.MakeNoZero"], unfollowed := true, recurses := true, named := ["sealingwax/sums.table"], apart := false, laid := [("sealingwax/sums.table", laid_sealingwax_sums_table)], narrowed := true }
def FramesOneUptoSaid : Prop := framesOneUptoRow.holds Tryd.pinned (OpenSpec.upto framesOneSpec)

/-- 'sealingwaxlaw05.FramesApart', WHERE WHAT IT READS IS OF BULK AT MOST 1048576: true; the input reads as it did. -/
def framesApartUptoRow : OpenClaim := { program := "ytakipobkcckaaaadoor", sum := "e19f42d1af61f28414e0355221f68e55bbfa25c14bb7758f151c5a7aa929dee8", func := "sealingwax/sealingwaxlaw05.FramesApart", spec := "framesApart", inPlace := ["internal/abi.NoEscape", "internal/bytealg.MakeNoZero"], unfollowed := true, recurses := true, named := ["sealingwax/sums.table"], apart := false, laid := [("sealingwax/sums.table", laid_sealingwax_sums_table)], narrowed := true }
def FramesApartUptoSaid : Prop := framesApartUptoRow.holds Tryd.pinned (OpenSpec.upto framesApartSpec)

/-- 'sealingwaxlaw05.FramesMarks', WHERE WHAT IT READS IS OF BULK AT MOST 1048576: true; the input reads as it did. -/
def framesMarksUptoRow : OpenClaim := { program := "ytakipobkcckaaaadoor", sum := "e19f42d1af61f28414e0355221f68e55bbfa25c14bb7758f151c5a7aa929dee8", func := "sealingwax/sealingwaxlaw05.FramesMarks", spec := "framesMarks", inPlace := ["internal/abi.NoEscape", "internal/bytealg.MakeNoZero"], unfollowed := true, recurses := true, named := ["sealingwax/sums.table"], apart := false, laid := [("sealingwax/sums.table", laid_sealingwax_sums_table)], narrowed := true }
def FramesMarksUptoSaid : Prop := framesMarksUptoRow.holds Tryd.pinned (OpenSpec.upto framesMarksSpec)

/-- 'sealingwaxlaw05.FramesEach', WHERE WHAT IT READS IS OF BULK AT MOST 1048576: true; the input reads as it did. -/
def framesEachUptoRow : OpenClaim := { program := "ytakipobkcckaaaadoor", sum := "e19f42d1af61f28414e0355221f68e55bbfa25c14bb7758f151c5a7aa929dee8", func := "sealingwax/sealingwaxlaw05.FramesEach", spec := "framesEach", inPlace := ["internal/abi.NoEscape", "internal/bytealg.MakeNoZero"], unfollowed := true, recurses := true, named := ["sealingwax/sums.table"], apart := false, laid := [("sealingwax/sums.table", laid_sealingwax_sums_table)], narrowed := true }
def FramesEachUptoSaid : Prop := framesEachUptoRow.holds Tryd.pinned (OpenSpec.upto framesEachSpec)

/-- 'sealingwaxlaw05.FramesCrash', WHERE WHAT IT READS IS OF BULK AT MOST 1048576: true; the input reads as it did. -/
def framesCrashUptoRow : OpenClaim := { program := "ytakipobkcckaaaadoor", sum := "e19f42d1af61f28414e0355221f68e55bbfa25c14bb7758f151c5a7aa929dee8", func := "sealingwax/sealingwaxlaw05.FramesCrash", spec := "framesCrash", inPlace := ["internal/abi.NoEscape", "internal/bytealg.MakeNoZero", "sync/atomic.AddInt64"], unfollowed := true, recurses := true, named := ["sealingwax/sums.table"], apart := false, laid := [("sealingwax/sums.table", laid_sealingwax_sums_table)], narrowed := true }
def FramesCrashUptoSaid : Prop := framesCrashUptoRow.holds Tryd.pinned (OpenSpec.upto framesCrashSpec)

end Rows
end Go.Proofs.YtakipobkcckaaaaDoor
