/-
  No cell of these rows narrows 'for every input' (looked for: loops, veiled, ifaces, maps, wideKeys, modest, calm, conditions, laid).
  DERIVED. THE GIVEN ROWS OF THIS SEAT. 11 by the template 'for every input the law returns true; each argument reads behind the call as it read before'; 0 by the template 'total and deterministic' (their statements: YtpeknljgjeikjaaTotals.lean).
  GIVEN WITH THE SEED: the statements are not yours to turn. If you find one false, say at which input.
  Laid BY PROGRAM, IN A SANDBOX (cutbox-rows.mjs): the forced cells as the released guide's own fill.sh prints them over the translation 91f387c716628ce8… (all of the seat's roots in one cut). By AI agents, Wed Nov 11 2026. No macro, syntax, notation, axiom, sorry.
-/
import Derived.Test.YtpeknljgjeikjaaChecked
import GoSem.Claim
import GoSem.ClaimJoined
import GoSem.ClaimMapViews
import Derived.JoinedTies
import Derived.KernelRfl
namespace Go.Proofs.Ytpeknljgjeikjaa
/- THE CELL 'sum', in the pinned program and in every row, IS THE sha256 OF THE DUMP (.gsa) THAT YtpeknljgjeikjaaProg.lean LOADS. Nothing in Lean hashes anything: it is a label: what it is worth is what the hold of that sum in a sandbox is worth. -/
noncomputable def Try.pinned : Pinned := { name := "ytpeknljgjeikjaa", sum := "91f387c716628ce87f57f0a81b77a26953646e37466758db95d8fb65e24bcf28", checked := Try.checked }
namespace Rows
def none {H : Type} : Left H := { results := [], args := [] }

/-- 'sealingwaxlaw04.DeviceSure': WHATEVER THE INPUT: true; the input reads as it did. -/
def deviceSureSpec : ChangeSpec := { name := "deviceSure", fn := fun _ => fun
  | [d1, d2, d3] => { results := [.lit (.bool true)], args := [d1, d2, d3] }
  | _ => none }
def deviceSureRow : OpenClaim := { program := "ytpeknljgjeikjaa", sum := "91f387c716628ce87f57f0a81b77a26953646e37466758db95d8fb65e24bcf28", func := "sealingwax/sealingwaxlaw04.DeviceSure", spec := "deviceSure", inPlace := ["sync/atomic.AddInt64", "sync/atomic.LoadInt64"], unfollowed := true, recurses := true, apart := false }
def DeviceSureSaid : Prop := deviceSureRow.holds Try.pinned (OpenSpec.ofChange deviceSureSpec)

/-- ITS FALSE NEIGHBOUR: 'it returns false'. Refute it at one input. -/
def deviceSureWrong : ChangeSpec := { name := "deviceSure", fn := fun _ => fun
  | [d1, d2, d3] => { results := [.lit (.bool false)], args := [d1, d2, d3] }
  | _ => none }
def DeviceSureWrongFalsely : Prop := deviceSureRow.holds Try.pinned (OpenSpec.ofChange deviceSureWrong)

/-- 'sealingwaxlaw04.DeviceTorn': WHATEVER THE INPUT: true; the input reads as it did. -/
def deviceTornSpec : ChangeSpec := { name := "deviceTorn", fn := fun _ => fun
  | [d1, d2, d3] => { results := [.lit (.bool true)], args := [d1, d2, d3] }
  | _ => none }
def deviceTornRow : OpenClaim := { program := "ytpeknljgjeikjaa", sum := "91f387c716628ce87f57f0a81b77a26953646e37466758db95d8fb65e24bcf28", func := "sealingwax/sealingwaxlaw04.DeviceTorn", spec := "deviceTorn", inPlace := ["sync/atomic.AddInt64", "sync/atomic.LoadInt64"], unfollowed := true, recurses := true, apart := false }
def DeviceTornSaid : Prop := deviceTornRow.holds Try.pinned (OpenSpec.ofChange deviceTornSpec)

/-- ITS FALSE NEIGHBOUR: 'it returns false'. Refute it at one input. -/
def deviceTornWrong : ChangeSpec := { name := "deviceTorn", fn := fun _ => fun
  | [d1, d2, d3] => { results := [.lit (.bool false)], args := [d1, d2, d3] }
  | _ => none }
def DeviceTornWrongFalsely : Prop := deviceTornRow.holds Try.pinned (OpenSpec.ofChange deviceTornWrong)

/-- 'sealingwaxlaw04.DeviceFail': WHATEVER THE INPUT: true; the input reads as it did. -/
def deviceFailSpec : ChangeSpec := { name := "deviceFail", fn := fun _ => fun
  | [d1, d2, d3] => { results := [.lit (.bool true)], args := [d1, d2, d3] }
  | _ => none }
def deviceFailRow : OpenClaim := { program := "ytpeknljgjeikjaa", sum := "91f387c716628ce87f57f0a81b77a26953646e37466758db95d8fb65e24bcf28", func := "sealingwax/sealingwaxlaw04.DeviceFail", spec := "deviceFail", inPlace := ["sync/atomic.AddInt64", "sync/atomic.LoadInt64"], unfollowed := true, recurses := true, apart := false }
def DeviceFailSaid : Prop := deviceFailRow.holds Try.pinned (OpenSpec.ofChange deviceFailSpec)

/-- ITS FALSE NEIGHBOUR: 'it returns false'. Refute it at one input. -/
def deviceFailWrong : ChangeSpec := { name := "deviceFail", fn := fun _ => fun
  | [d1, d2, d3] => { results := [.lit (.bool false)], args := [d1, d2, d3] }
  | _ => none }
def DeviceFailWrongFalsely : Prop := deviceFailRow.holds Try.pinned (OpenSpec.ofChange deviceFailWrong)

/-- 'sealingwaxlaw04.DeviceOnce': WHATEVER THE INPUT: true; the input reads as it did. -/
def deviceOnceSpec : ChangeSpec := { name := "deviceOnce", fn := fun _ => fun
  | [d1, d2] => { results := [.lit (.bool true)], args := [d1, d2] }
  | _ => none }
def deviceOnceRow : OpenClaim := { program := "ytpeknljgjeikjaa", sum := "91f387c716628ce87f57f0a81b77a26953646e37466758db95d8fb65e24bcf28", func := "sealingwax/sealingwaxlaw04.DeviceOnce", spec := "deviceOnce", inPlace := ["sync/atomic.AddInt64", "sync/atomic.LoadInt64"], unfollowed := true, recurses := true, apart := false }
def DeviceOnceSaid : Prop := deviceOnceRow.holds Try.pinned (OpenSpec.ofChange deviceOnceSpec)

/-- ITS FALSE NEIGHBOUR: 'it returns false'. Refute it at one input. -/
def deviceOnceWrong : ChangeSpec := { name := "deviceOnce", fn := fun _ => fun
  | [d1, d2] => { results := [.lit (.bool false)], args := [d1, d2] }
  | _ => none }
def DeviceOnceWrongFalsely : Prop := deviceOnceRow.holds Try.pinned (OpenSpec.ofChange deviceOnceWrong)

/-- 'sealingwaxlaw04.DeviceTamper': WHATEVER THE INPUT: true; the input reads as it did. -/
def deviceTamperSpec : ChangeSpec := { name := "deviceTamper", fn := fun _ => fun
  | [d1, d2, d3] => { results := [.lit (.bool true)], args := [d1, d2, d3] }
  | _ => none }
def deviceTamperRow : OpenClaim := { program := "ytpeknljgjeikjaa", sum := "91f387c716628ce87f57f0a81b77a26953646e37466758db95d8fb65e24bcf28", func := "sealingwax/sealingwaxlaw04.DeviceTamper", spec := "deviceTamper", inPlace := ["sync/atomic.AddInt64", "sync/atomic.LoadInt64"], unfollowed := true, recurses := true, apart := false }
def DeviceTamperSaid : Prop := deviceTamperRow.holds Try.pinned (OpenSpec.ofChange deviceTamperSpec)

/-- ITS FALSE NEIGHBOUR: 'it returns false'. Refute it at one input. -/
def deviceTamperWrong : ChangeSpec := { name := "deviceTamper", fn := fun _ => fun
  | [d1, d2, d3] => { results := [.lit (.bool false)], args := [d1, d2, d3] }
  | _ => none }
def DeviceTamperWrongFalsely : Prop := deviceTamperRow.holds Try.pinned (OpenSpec.ofChange deviceTamperWrong)

/-- 'sealingwaxlaw04.DevicePending': WHATEVER THE INPUT: true; the input reads as it did. -/
def devicePendingSpec : ChangeSpec := { name := "devicePending", fn := fun _ => fun
  | [d1, d2] => { results := [.lit (.bool true)], args := [d1, d2] }
  | _ => none }
def devicePendingRow : OpenClaim := { program := "ytpeknljgjeikjaa", sum := "91f387c716628ce87f57f0a81b77a26953646e37466758db95d8fb65e24bcf28", func := "sealingwax/sealingwaxlaw04.DevicePending", spec := "devicePending", inPlace := ["sync/atomic.AddInt64", "sync/atomic.LoadInt64"], unfollowed := true, recurses := true, apart := false }
def DevicePendingSaid : Prop := devicePendingRow.holds Try.pinned (OpenSpec.ofChange devicePendingSpec)

/-- ITS FALSE NEIGHBOUR: 'it returns false'. Refute it at one input. -/
def devicePendingWrong : ChangeSpec := { name := "devicePending", fn := fun _ => fun
  | [d1, d2] => { results := [.lit (.bool false)], args := [d1, d2] }
  | _ => none }
def DevicePendingWrongFalsely : Prop := devicePendingRow.holds Try.pinned (OpenSpec.ofChange devicePendingWrong)

/-- 'sealingwaxlaw04.DeviceDown': WHATEVER THE INPUT: true; the input reads as it did. -/
def deviceDownSpec : ChangeSpec := { name := "deviceDown", fn := fun _ => fun
  | [d1, d2, d3] => { results := [.lit (.bool true)], args := [d1, d2, d3] }
  | _ => none }
def deviceDownRow : OpenClaim := { program := "ytpeknljgjeikjaa", sum := "91f387c716628ce87f57f0a81b77a26953646e37466758db95d8fb65e24bcf28", func := "sealingwax/sealingwaxlaw04.DeviceDown", spec := "deviceDown", inPlace := ["sync/atomic.AddInt64", "sync/atomic.LoadInt64"], unfollowed := true, recurses := true, apart := false }
def DeviceDownSaid : Prop := deviceDownRow.holds Try.pinned (OpenSpec.ofChange deviceDownSpec)

/-- ITS FALSE NEIGHBOUR: 'it returns false'. Refute it at one input. -/
def deviceDownWrong : ChangeSpec := { name := "deviceDown", fn := fun _ => fun
  | [d1, d2, d3] => { results := [.lit (.bool false)], args := [d1, d2, d3] }
  | _ => none }
def DeviceDownWrongFalsely : Prop := deviceDownRow.holds Try.pinned (OpenSpec.ofChange deviceDownWrong)

/-- 'sealingwaxlaw04.DeviceTell': WHATEVER THE INPUT: true; the input reads as it did. -/
def deviceTellSpec : ChangeSpec := { name := "deviceTell", fn := fun _ => fun
  | [d1, d2] => { results := [.lit (.bool true)], args := [d1, d2] }
  | _ => none }
def deviceTellRow : OpenClaim := { program := "ytpeknljgjeikjaa", sum := "91f387c716628ce87f57f0a81b77a26953646e37466758db95d8fb65e24bcf28", func := "sealingwax/sealingwaxlaw04.DeviceTell", spec := "deviceTell", inPlace := ["sync/atomic.AddInt64", "sync/atomic.LoadInt64"], unfollowed := true, recurses := true, apart := false }
def DeviceTellSaid : Prop := deviceTellRow.holds Try.pinned (OpenSpec.ofChange deviceTellSpec)

/-- ITS FALSE NEIGHBOUR: 'it returns false'. Refute it at one input. -/
def deviceTellWrong : ChangeSpec := { name := "deviceTell", fn := fun _ => fun
  | [d1, d2] => { results := [.lit (.bool false)], args := [d1, d2] }
  | _ => none }
def DeviceTellWrongFalsely : Prop := deviceTellRow.holds Try.pinned (OpenSpec.ofChange deviceTellWrong)

/-- 'sealingwaxlaw04.DeviceNone': WHATEVER THE INPUT: true; the input reads as it did. -/
def deviceNoneSpec : ChangeSpec := { name := "deviceNone", fn := fun _ => fun
  | [d] => { results := [.lit (.bool true)], args := [d] }
  | _ => none }
def deviceNoneRow : OpenClaim := { program := "ytpeknljgjeikjaa", sum := "91f387c716628ce87f57f0a81b77a26953646e37466758db95d8fb65e24bcf28", func := "sealingwax/sealingwaxlaw04.DeviceNone", spec := "deviceNone", inPlace := ["sync/atomic.AddInt64", "sync/atomic.LoadInt64"], unfollowed := true, recurses := true, apart := false }
def DeviceNoneSaid : Prop := deviceNoneRow.holds Try.pinned (OpenSpec.ofChange deviceNoneSpec)

/-- ITS FALSE NEIGHBOUR: 'it returns false'. Refute it at one input. -/
def deviceNoneWrong : ChangeSpec := { name := "deviceNone", fn := fun _ => fun
  | [d] => { results := [.lit (.bool false)], args := [d] }
  | _ => none }
def DeviceNoneWrongFalsely : Prop := deviceNoneRow.holds Try.pinned (OpenSpec.ofChange deviceNoneWrong)

/-- 'sealingwaxlaw04.DeviceAlone': WHATEVER THE INPUT: true; the input reads as it did. -/
def deviceAloneSpec : ChangeSpec := { name := "deviceAlone", fn := fun _ => fun
  | [d1, d2, d3] => { results := [.lit (.bool true)], args := [d1, d2, d3] }
  | _ => none }
def deviceAloneRow : OpenClaim := { program := "ytpeknljgjeikjaa", sum := "91f387c716628ce87f57f0a81b77a26953646e37466758db95d8fb65e24bcf28", func := "sealingwax/sealingwaxlaw04.DeviceAlone", spec := "deviceAlone", inPlace := ["sync/atomic.AddInt64", "sync/atomic.LoadInt64"], unfollowed := true, recurses := true, apart := false }
def DeviceAloneSaid : Prop := deviceAloneRow.holds Try.pinned (OpenSpec.ofChange deviceAloneSpec)

/-- ITS FALSE NEIGHBOUR: 'it returns false'. Refute it at one input. -/
def deviceAloneWrong : ChangeSpec := { name := "deviceAlone", fn := fun _ => fun
  | [d1, d2, d3] => { results := [.lit (.bool false)], args := [d1, d2, d3] }
  | _ => none }
def DeviceAloneWrongFalsely : Prop := deviceAloneRow.holds Try.pinned (OpenSpec.ofChange deviceAloneWrong)

/-- 'sealingwaxlaw04.DeviceKept': WHATEVER THE INPUT: true; the input reads as it did. -/
def deviceKeptSpec : ChangeSpec := { name := "deviceKept", fn := fun _ => fun
  | [d1, d2] => { results := [.lit (.bool true)], args := [d1, d2] }
  | _ => none }
def deviceKeptRow : OpenClaim := { program := "ytpeknljgjeikjaa", sum := "91f387c716628ce87f57f0a81b77a26953646e37466758db95d8fb65e24bcf28", func := "sealingwax/sealingwaxlaw04.DeviceKept", spec := "deviceKept", inPlace := ["sync/atomic.AddInt64", "sync/atomic.LoadInt64"], unfollowed := true, recurses := true, apart := false }
def DeviceKeptSaid : Prop := deviceKeptRow.holds Try.pinned (OpenSpec.ofChange deviceKeptSpec)

/-- ITS FALSE NEIGHBOUR: 'it returns false'. Refute it at one input. -/
def deviceKeptWrong : ChangeSpec := { name := "deviceKept", fn := fun _ => fun
  | [d1, d2] => { results := [.lit (.bool false)], args := [d1, d2] }
  | _ => none }
def DeviceKeptWrongFalsely : Prop := deviceKeptRow.holds Try.pinned (OpenSpec.ofChange deviceKeptWrong)

/- THE SECOND FORM. 'bulk': how many values and letters a reading holds, each counted each time it is reached (what is shared counts as often as it is met; a slice's spare places count too). A statement '..UptoSaid' is the law's where the arguments, and the package variables that the reading takes, are together of bulk at most 1048576: NARROWER than '..Said'. Prove '..Said' where nothing that the law and all that it calls make is longer than what came in: it says more and counts as full. Else prove '..UptoSaid'. A law counts once. -/
mutual
def uptoBulk {H : Type} : DataW H → Nat
  | .lit (.string bytes) => bytes.length + 1
  | .lit _ => 1
  | .nil => 1
  | .ptr d => uptoBulk d + 1
  | .slice elems spare => uptoBulkAll elems + uptoBulkAll spare + 1
  | .agg parts => uptoBulkAll parts + 1
  | .iface _ d => uptoBulk d + 1
  | .map entries => uptoBulkEntries entries + 1
  | .held _ => 1
def uptoBulkAll {H : Type} : List (DataW H) → Nat
  | [] => 0
  | d :: r => uptoBulk d + uptoBulkAll r
def uptoBulkEntries {H : Type} : List (Lit × DataW H) → Nat
  | [] => 0
  | x :: r => uptoBulkEntry x + uptoBulkEntries r
def uptoBulkEntry {H : Type} : Lit × DataW H → Nat
  | (.string bytes, d) => bytes.length + uptoBulk d + 1
  | (_, d) => uptoBulk d + 1
 end
def uptoSmall : (H : Type) → List (DataW H) → Bool := fun _ ds => decide (uptoBulkAll ds ≤ 1048576)
def OpenSpec.upto (s : _root_.Go.ChangeSpec) : _root_.Go.OpenSpec := { _root_.Go.OpenSpec.ofChange s with cond := some uptoSmall }

/-- 'sealingwaxlaw04.DeviceSure', WHERE WHAT IT READS IS OF BULK AT MOST 1048576: true; the input reads as it did. -/
def deviceSureUptoRow : OpenClaim := { program := "ytpeknljgjeikjaa", sum := "91f387c716628ce87f57f0a81b77a26953646e37466758db95d8fb65e24bcf28", func := "sealingwax/sealingwaxlaw04.DeviceSure", spec := "deviceSure", inPlace := ["sync/atomic.AddInt64", "sync/atomic.LoadInt64"], unfollowed := true, recurses := true, apart := false, narrowed := true }
def DeviceSureUptoSaid : Prop := deviceSureUptoRow.holds Try.pinned (OpenSpec.upto deviceSureSpec)

/-- 'sealingwaxlaw04.DeviceTorn', WHERE WHAT IT READS IS OF BULK AT MOST 1048576: true; the input reads as it did. -/
def deviceTornUptoRow : OpenClaim := { program := "ytpeknljgjeikjaa", sum := "91f387c716628ce87f57f0a81b77a26953646e37466758db95d8fb65e24bcf28", func := "sealingwax/sealingwaxlaw04.DeviceTorn", spec := "deviceTorn", inPlace := ["sync/atomic.AddInt64", "sync/atomic.LoadInt64"], unfollowed := true, recurses := true, apart := false, narrowed := true }
def DeviceTornUptoSaid : Prop := deviceTornUptoRow.holds Try.pinned (OpenSpec.upto deviceTornSpec)

/-- 'sealingwaxlaw04.DeviceFail', WHERE WHAT IT READS IS OF BULK AT MOST 1048576: true; the input reads as it did. -/
def deviceFailUptoRow : OpenClaim := { program := "ytpeknljgjeikjaa", sum := "91f387c716628ce87f57f0a81b77a26953646e37466758db95d8fb65e24bcf28", func := "sealingwax/sealingwaxlaw04.DeviceFail", spec := "deviceFail", inPlace := ["sync/atomic.AddInt64", "sync/atomic.LoadInt64"], unfollowed := true, recurses := true, apart := false, narrowed := true }
def DeviceFailUptoSaid : Prop := deviceFailUptoRow.holds Try.pinned (OpenSpec.upto deviceFailSpec)

/-- 'sealingwaxlaw04.DeviceOnce', WHERE WHAT IT READS IS OF BULK AT MOST 1048576: true; the input reads as it did. -/
def deviceOnceUptoRow : OpenClaim := { program := "ytpeknljgjeikjaa", sum := "91f387c716628ce87f57f0a81b77a26953646e37466758db95d8fb65e24bcf28", func := "sealingwax/sealingwaxlaw04.DeviceOnce", spec := "deviceOnce", inPlace := ["sync/atomic.AddInt64", "sync/atomic.LoadInt64"], unfollowed := true, recurses := true, apart := false, narrowed := true }
def DeviceOnceUptoSaid : Prop := deviceOnceUptoRow.holds Try.pinned (OpenSpec.upto deviceOnceSpec)

/-- 'sealingwaxlaw04.DeviceTamper', WHERE WHAT IT READS IS OF BULK AT MOST 1048576: true; the input reads as it did. -/
def deviceTamperUptoRow : OpenClaim := { program := "ytpeknljgjeikjaa", sum := "91f387c716628ce87f57f0a81b77a26953646e37466758db95d8fb65e24bcf28", func := "sealingwax/sealingwaxlaw04.DeviceTamper", spec := "deviceTamper", inPlace := ["sync/atomic.AddInt64", "sync/atomic.LoadInt64"], unfollowed := true, recurses := true, apart := false, narrowed := true }
def DeviceTamperUptoSaid : Prop := deviceTamperUptoRow.holds Try.pinned (OpenSpec.upto deviceTamperSpec)

/-- 'sealingwaxlaw04.DevicePending', WHERE WHAT IT READS IS OF BULK AT MOST 1048576: true; the input reads as it did. -/
def devicePendingUptoRow : OpenClaim := { program := "ytpeknljgjeikjaa", sum := "91f387c716628ce87f57f0a81b77a26953646e37466758db95d8fb65e24bcf28", func := "sealingwax/sealingwaxlaw04.DevicePending", spec := "devicePending", inPlace := ["sync/atomic.AddInt64", "sync/atomic.LoadInt64"], unfollowed := true, recurses := true, apart := false, narrowed := true }
def DevicePendingUptoSaid : Prop := devicePendingUptoRow.holds Try.pinned (OpenSpec.upto devicePendingSpec)

/-- 'sealingwaxlaw04.DeviceDown', WHERE WHAT IT READS IS OF BULK AT MOST 1048576: true; the input reads as it did. -/
def deviceDownUptoRow : OpenClaim := { program := "ytpeknljgjeikjaa", sum := "91f387c716628ce87f57f0a81b77a26953646e37466758db95d8fb65e24bcf28", func := "sealingwax/sealingwaxlaw04.DeviceDown", spec := "deviceDown", inPlace := ["sync/atomic.AddInt64", "sync/atomic.LoadInt64"], unfollowed := true, recurses := true, apart := false, narrowed := true }
def DeviceDownUptoSaid : Prop := deviceDownUptoRow.holds Try.pinned (OpenSpec.upto deviceDownSpec)

/-- 'sealingwaxlaw04.DeviceTell', WHERE WHAT IT READS IS OF BULK AT MOST 1048576: true; the input reads as it did. -/
def deviceTellUptoRow : OpenClaim := { program := "ytpeknljgjeikjaa", sum := "91f387c716628ce87f57f0a81b77a26953646e37466758db95d8fb65e24bcf28", func := "sealingwax/sealingwaxlaw04.DeviceTell", spec := "deviceTell", inPlace := ["sync/atomic.AddInt64", "sync/atomic.LoadInt64"], unfollowed := true, recurses := true, apart := false, narrowed := true }
def DeviceTellUptoSaid : Prop := deviceTellUptoRow.holds Try.pinned (OpenSpec.upto deviceTellSpec)

/-- 'sealingwaxlaw04.DeviceNone', WHERE WHAT IT READS IS OF BULK AT MOST 1048576: true; the input reads as it did. -/
def deviceNoneUptoRow : OpenClaim := { program := "ytpeknljgjeikjaa", sum := "91f387c716628ce87f57f0a81b77a26953646e37466758db95d8fb65e24bcf28", func := "sealingwax/sealingwaxlaw04.DeviceNone", spec := "deviceNone", inPlace := ["sync/atomic.AddInt64", "sync/atomic.LoadInt64"], unfollowed := true, recurses := true, apart := false, narrowed := true }
def DeviceNoneUptoSaid : Prop := deviceNoneUptoRow.holds Try.pinned (OpenSpec.upto deviceNoneSpec)

/-- 'sealingwaxlaw04.DeviceAlone', WHERE WHAT IT READS IS OF BULK AT MOST 1048576: true; the input reads as it did. -/
def deviceAloneUptoRow : OpenClaim := { program := "ytpeknljgjeikjaa", sum := "91f387c716628ce87f57f0a81b77a26953646e37466758db95d8fb65e24bcf28", func := "sealingwax/sealingwaxlaw04.DeviceAlone", spec := "deviceAlone", inPlace := ["sync/atomic.AddInt64", "sync/atomic.LoadInt64"], unfollowed := true, recurses := true, apart := false, narrowed := true }
def DeviceAloneUptoSaid : Prop := deviceAloneUptoRow.holds Try.pinned (OpenSpec.upto deviceAloneSpec)

/-- 'sealingwaxlaw04.DeviceKept', WHERE WHAT IT READS IS OF BULK AT MOST 1048576: true; the input reads as it did. -/
def deviceKeptUptoRow : OpenClaim := { program := "ytpeknljgjeikjaa", sum := "91f387c716628ce87f57f0a81b77a26953646e37466758db95d8fb65e24bcf28", func := "sealingwax/sealingwaxlaw04.DeviceKept", spec := "deviceKept", inPlace := ["sync/atomic.AddInt64", "sync/atomic.LoadInt64"], unfollowed := true, recurses := true, apart := false, narrowed := true }
def DeviceKeptUptoSaid : Prop := deviceKeptUptoRow.holds Try.pinned (OpenSpec.upto deviceKeptSpec)

end Rows
end Go.Proofs.Ytpeknljgjeikjaa
