/-
  No cell of these rows narrows 'for every input' (looked for: loops, veiled, ifaces, maps, wideKeys, modest, calm, conditions, laid).
  DERIVED. THE GIVEN ROWS OF THIS SEAT. 7 by the template 'for every input the law returns true; each argument reads behind the call as it read before'; 0 by the template 'total and deterministic' (their statements: YtakalioikgoggaaTotals.lean).
  GIVEN WITH THE SEED: the statements are not yours to turn. If you find one false, say at which input.
  Laid BY PROGRAM, IN A SANDBOX (cutbox-rows.mjs): the forced cells as the released guide's own fill.sh prints them over the translation 6fe331756b6e245a… (all of the seat's roots in one cut). By AI agents, Wed Nov 11 2026. No macro, syntax, notation, axiom, sorry.
-/
import Derived.Test.YtakalioikgoggaaChecked
import GoSem.Claim
import GoSem.ClaimJoined
import GoSem.ClaimMapViews
import Derived.JoinedTies
import Derived.KernelRfl
namespace Go.Proofs.Ytakalioikgoggaa
/- THE CELL 'sum', in the pinned program and in every row, IS THE sha256 OF THE DUMP (.gsa) THAT YtakalioikgoggaaProg.lean LOADS. Nothing in Lean hashes anything: it is a label: what it is worth is what the hold of that sum in a sandbox is worth. -/
noncomputable def Try.pinned : Pinned := { name := "ytakalioikgoggaa", sum := "6fe331756b6e245ada0b2db447d206392e4c1cb791dd34797053ede8b33a7bef", checked := Try.checked }
namespace Rows
def none {H : Type} : Left H := { results := [], args := [] }

/-- 'sealingwaxlaw07.RunsTell': WHATEVER THE INPUT: true; the input reads as it did. -/
def runsTellSpec : ChangeSpec := { name := "runsTell", fn := fun _ => fun
  | [d1, d2, d3] => { results := [.lit (.bool true)], args := [d1, d2, d3] }
  | _ => none }
def runsTellRow : OpenClaim := { program := "ytakalioikgoggaa", sum := "6fe331756b6e245ada0b2db447d206392e4c1cb791dd34797053ede8b33a7bef", func := "sealingwax/sealingwaxlaw07.RunsTell", spec := "runsTell", unfollowed := true, recurses := true, apart := false }
def RunsTellSaid : Prop := runsTellRow.holds Try.pinned (OpenSpec.ofChange runsTellSpec)

/-- ITS FALSE NEIGHBOUR: 'it returns false'. Refute it at one input. -/
def runsTellWrong : ChangeSpec := { name := "runsTell", fn := fun _ => fun
  | [d1, d2, d3] => { results := [.lit (.bool false)], args := [d1, d2, d3] }
  | _ => none }
def RunsTellWrongFalsely : Prop := runsTellRow.holds Try.pinned (OpenSpec.ofChange runsTellWrong)

/-- 'sealingwaxlaw07.RunsFree': WHATEVER THE INPUT: true; the input reads as it did. -/
def runsFreeSpec : ChangeSpec := { name := "runsFree", fn := fun _ => fun
  | [d] => { results := [.lit (.bool true)], args := [d] }
  | _ => none }
def runsFreeRow : OpenClaim := { program := "ytakalioikgoggaa", sum := "6fe331756b6e245ada0b2db447d206392e4c1cb791dd34797053ede8b33a7bef", func := "sealingwax/sealingwaxlaw07.RunsFree", spec := "runsFree", unfollowed := true, recurses := true, apart := false }
def RunsFreeSaid : Prop := runsFreeRow.holds Try.pinned (OpenSpec.ofChange runsFreeSpec)

/-- ITS FALSE NEIGHBOUR: 'it returns false'. Refute it at one input. -/
def runsFreeWrong : ChangeSpec := { name := "runsFree", fn := fun _ => fun
  | [d] => { results := [.lit (.bool false)], args := [d] }
  | _ => none }
def RunsFreeWrongFalsely : Prop := runsFreeRow.holds Try.pinned (OpenSpec.ofChange runsFreeWrong)

/-- 'sealingwaxlaw07.RunsBack': WHATEVER THE INPUT: true; the input reads as it did. -/
def runsBackSpec : ChangeSpec := { name := "runsBack", fn := fun _ => fun
  | [d1, d2] => { results := [.lit (.bool true)], args := [d1, d2] }
  | _ => none }
def runsBackRow : OpenClaim := { program := "ytakalioikgoggaa", sum := "6fe331756b6e245ada0b2db447d206392e4c1cb791dd34797053ede8b33a7bef", func := "sealingwax/sealingwaxlaw07.RunsBack", spec := "runsBack", unfollowed := true, recurses := true, apart := false }
def RunsBackSaid : Prop := runsBackRow.holds Try.pinned (OpenSpec.ofChange runsBackSpec)

/-- ITS FALSE NEIGHBOUR: 'it returns false'. Refute it at one input. -/
def runsBackWrong : ChangeSpec := { name := "runsBack", fn := fun _ => fun
  | [d1, d2] => { results := [.lit (.bool false)], args := [d1, d2] }
  | _ => none }
def RunsBackWrongFalsely : Prop := runsBackRow.holds Try.pinned (OpenSpec.ofChange runsBackWrong)

/-- 'sealingwaxlaw07.RunsGiven': WHATEVER THE INPUT: true; the input reads as it did. -/
def runsGivenSpec : ChangeSpec := { name := "runsGiven", fn := fun _ => fun
  | [d] => { results := [.lit (.bool true)], args := [d] }
  | _ => none }
def runsGivenRow : OpenClaim := { program := "ytakalioikgoggaa", sum := "6fe331756b6e245ada0b2db447d206392e4c1cb791dd34797053ede8b33a7bef", func := "sealingwax/sealingwaxlaw07.RunsGiven", spec := "runsGiven", unfollowed := true, recurses := true, apart := false }
def RunsGivenSaid : Prop := runsGivenRow.holds Try.pinned (OpenSpec.ofChange runsGivenSpec)

/-- ITS FALSE NEIGHBOUR: 'it returns false'. Refute it at one input. -/
def runsGivenWrong : ChangeSpec := { name := "runsGiven", fn := fun _ => fun
  | [d] => { results := [.lit (.bool false)], args := [d] }
  | _ => none }
def RunsGivenWrongFalsely : Prop := runsGivenRow.holds Try.pinned (OpenSpec.ofChange runsGivenWrong)

/-- 'sealingwaxlaw07.RunsAll': WHATEVER THE INPUT: true; the input reads as it did. -/
def runsAllSpec : ChangeSpec := { name := "runsAll", fn := fun _ => fun
  | [d] => { results := [.lit (.bool true)], args := [d] }
  | _ => none }
def runsAllRow : OpenClaim := { program := "ytakalioikgoggaa", sum := "6fe331756b6e245ada0b2db447d206392e4c1cb791dd34797053ede8b33a7bef", func := "sealingwax/sealingwaxlaw07.RunsAll", spec := "runsAll", unfollowed := true, recurses := true, apart := false }
def RunsAllSaid : Prop := runsAllRow.holds Try.pinned (OpenSpec.ofChange runsAllSpec)

/-- ITS FALSE NEIGHBOUR: 'it returns false'. Refute it at one input. -/
def runsAllWrong : ChangeSpec := { name := "runsAll", fn := fun _ => fun
  | [d] => { results := [.lit (.bool false)], args := [d] }
  | _ => none }
def RunsAllWrongFalsely : Prop := runsAllRow.holds Try.pinned (OpenSpec.ofChange runsAllWrong)

/-- 'sealingwaxlaw07.RunsTurn': WHATEVER THE INPUT: true; the input reads as it did. -/
def runsTurnSpec : ChangeSpec := { name := "runsTurn", fn := fun _ => fun
  | [d1, d2] => { results := [.lit (.bool true)], args := [d1, d2] }
  | _ => none }
def runsTurnRow : OpenClaim := { program := "ytakalioikgoggaa", sum := "6fe331756b6e245ada0b2db447d206392e4c1cb791dd34797053ede8b33a7bef", func := "sealingwax/sealingwaxlaw07.RunsTurn", spec := "runsTurn", unfollowed := true, recurses := true, apart := false }
def RunsTurnSaid : Prop := runsTurnRow.holds Try.pinned (OpenSpec.ofChange runsTurnSpec)

/-- ITS FALSE NEIGHBOUR: 'it returns false'. Refute it at one input. -/
def runsTurnWrong : ChangeSpec := { name := "runsTurn", fn := fun _ => fun
  | [d1, d2] => { results := [.lit (.bool false)], args := [d1, d2] }
  | _ => none }
def RunsTurnWrongFalsely : Prop := runsTurnRow.holds Try.pinned (OpenSpec.ofChange runsTurnWrong)

/-- 'sealingwaxlaw07.RunsTwice': WHATEVER THE INPUT: true; the input reads as it did. -/
def runsTwiceSpec : ChangeSpec := { name := "runsTwice", fn := fun _ => fun
  | [d1, d2, d3] => { results := [.lit (.bool true)], args := [d1, d2, d3] }
  | _ => none }
def runsTwiceRow : OpenClaim := { program := "ytakalioikgoggaa", sum := "6fe331756b6e245ada0b2db447d206392e4c1cb791dd34797053ede8b33a7bef", func := "sealingwax/sealingwaxlaw07.RunsTwice", spec := "runsTwice", unfollowed := true, recurses := true, apart := false }
def RunsTwiceSaid : Prop := runsTwiceRow.holds Try.pinned (OpenSpec.ofChange runsTwiceSpec)

/-- ITS FALSE NEIGHBOUR: 'it returns false'. Refute it at one input. -/
def runsTwiceWrong : ChangeSpec := { name := "runsTwice", fn := fun _ => fun
  | [d1, d2, d3] => { results := [.lit (.bool false)], args := [d1, d2, d3] }
  | _ => none }
def RunsTwiceWrongFalsely : Prop := runsTwiceRow.holds Try.pinned (OpenSpec.ofChange runsTwiceWrong)

/- THE SECOND FORM. 'bulk': how many values and letters a reading holds, each counted each time it is reached (what is shared counts as often as it is met; a slice's spare places count too). A statement '..UptoSaid' is the law's where the arguments, and the package variables that the reading takes, are together of bulk at most 1048576: NARROWER than '..Said'. Prove '..Said' where nothing that the law and all that it calls make is longer than what came in: it says more and counts as full. Else prove '..UptoSaid'. A law counts once. -/
mutual
def uptoBulk {H : Type} : DataW H → Nat
  | .lit (.string bytes) => bytes.length + 1
  | .lit _ => 1
  | .nil => 1
  | .ptr d => uptoBulk d + 1
  | .slice elems spare => uptoBulkAll elems + uptoBulkAll spare + 1
  | .agg parts => uptoBulkAll parts + 1
  | .iface _ d => uptoBulk d + 1
  | .map entries => uptoBulkEntries entries + 1
  | .held _ => 1
def uptoBulkAll {H : Type} : List (DataW H) → Nat
  | [] => 0
  | d :: r => uptoBulk d + uptoBulkAll r
def uptoBulkEntries {H : Type} : List (Lit × DataW H) → Nat
  | [] => 0
  | x :: r => uptoBulkEntry x + uptoBulkEntries r
def uptoBulkEntry {H : Type} : Lit × DataW H → Nat
  | (.string bytes, d) => bytes.length + uptoBulk d + 1
  | (_, d) => uptoBulk d + 1
 end
def uptoSmall : (H : Type) → List (DataW H) → Bool := fun _ ds => decide (uptoBulkAll ds ≤ 1048576)
def OpenSpec.upto (s : _root_.Go.ChangeSpec) : _root_.Go.OpenSpec := { _root_.Go.OpenSpec.ofChange s with cond := some uptoSmall }

/-- 'sealingwaxlaw07.RunsTell', WHERE WHAT IT READS IS OF BULK AT MOST 1048576: true; the input reads as it did. -/
def runsTellUptoRow : OpenClaim := { program := "ytakalioikgoggaa", sum := "6fe331756b6e245ada0b2db447d206392e4c1cb791dd34797053ede8b33a7bef", func := "sealingwax/sealingwaxlaw07.RunsTell", spec := "runsTell", unfollowed := true, recurses := true, apart := false, narrowed := true }
def RunsTellUptoSaid : Prop := runsTellUptoRow.holds Try.pinned (OpenSpec.upto runsTellSpec)

/-- 'sealingwaxlaw07.RunsFree', WHERE WHAT IT READS IS OF BULK AT MOST 1048576: true; the input reads as it did. -/
def runsFreeUptoRow : OpenClaim := { program := "ytakalioikgoggaa", sum := "6fe331756b6e245ada0b2db447d206392e4c1cb791dd34797053ede8b33a7bef", func := "sealingwax/sealingwaxlaw07.RunsFree", spec := "runsFree", unfollowed := true, recurses := true, apart := false, narrowed := true }
def RunsFreeUptoSaid : Prop := runsFreeUptoRow.holds Try.pinned (OpenSpec.upto runsFreeSpec)

/-- 'sealingwaxlaw07.RunsBack', WHERE WHAT IT READS IS OF BULK AT MOST 1048576: true; the input reads as it did. -/
def runsBackUptoRow : OpenClaim := { program := "ytakalioikgoggaa", sum := "6fe331756b6e245ada0b2db447d206392e4c1cb791dd34797053ede8b33a7bef", func := "sealingwax/sealingwaxlaw07.RunsBack", spec := "runsBack", unfollowed := true, recurses := true, apart := false, narrowed := true }
def RunsBackUptoSaid : Prop := runsBackUptoRow.holds Try.pinned (OpenSpec.upto runsBackSpec)

/-- 'sealingwaxlaw07.RunsGiven', WHERE WHAT IT READS IS OF BULK AT MOST 1048576: true; the input reads as it did. -/
def runsGivenUptoRow : OpenClaim := { program := "ytakalioikgoggaa", sum := "6fe331756b6e245ada0b2db447d206392e4c1cb791dd34797053ede8b33a7bef", func := "sealingwax/sealingwaxlaw07.RunsGiven", spec := "runsGiven", unfollowed := true, recurses := true, apart := false, narrowed := true }
def RunsGivenUptoSaid : Prop := runsGivenUptoRow.holds Try.pinned (OpenSpec.upto runsGivenSpec)

/-- 'sealingwaxlaw07.RunsAll', WHERE WHAT IT READS IS OF BULK AT MOST 1048576: true; the input reads as it did. -/
def runsAllUptoRow : OpenClaim := { program := "ytakalioikgoggaa", sum := "6fe331756b6e245ada0b2db447d206392e4c1cb791dd34797053ede8b33a7bef", func := "sealingwax/sealingwaxlaw07.RunsAll", spec := "runsAll", unfollowed := true, recurses := true, apart := false, narrowed := true }
def RunsAllUptoSaid : Prop := runsAllUptoRow.holds Try.pinned (OpenSpec.upto runsAllSpec)

/-- 'sealingwaxlaw07.RunsTurn', WHERE WHAT IT READS IS OF BULK AT MOST 1048576: true; the input reads as it did. -/
def runsTurnUptoRow : OpenClaim := { program := "ytakalioikgoggaa", sum := "6fe331756b6e245ada0b2db447d206392e4c1cb791dd34797053ede8b33a7bef", func := "sealingwax/sealingwaxlaw07.RunsTurn", spec := "runsTurn", unfollowed := true, recurses := true, apart := false, narrowed := true }
def RunsTurnUptoSaid : Prop := runsTurnUptoRow.holds Try.pinned (OpenSpec.upto runsTurnSpec)

/-- 'sealingwaxlaw07.RunsTwice', WHERE WHAT IT READS IS OF BULK AT MOST 1048576: true; the input reads as it did. -/
def runsTwiceUptoRow : OpenClaim := { program := "ytakalioikgoggaa", sum := "6fe331756b6e245ada0b2db447d206392e4c1cb791dd34797053ede8b33a7bef", func := "sealingwax/sealingwaxlaw07.RunsTwice", spec := "runsTwice", unfollowed := true, recurses := true, apart := false, narrowed := true }
def RunsTwiceUptoSaid : Prop := runsTwiceUptoRow.holds Try.pinned (OpenSpec.upto runsTwiceSpec)

end Rows
end Go.Proofs.Ytakalioikgoggaa
