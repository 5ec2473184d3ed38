/- Printed by a program of this session: Go functions as Lean functions, each proved to answer as the Go code does. -/
import Derived.Test.YtamcmepehnopnaaProg
import Derived.Below
import Derived.Deep.Draws
import Derived.Deep.AppendLies
import Derived.Maps.AppendAt
import Derived.OwnWalk
import Derived.Laws.BytesArg
import Derived.Laws.MakeOwn
import Derived.Laws.OwnMore
import Derived.Deep.OwnRows
import Derived.Tactics
import Derived.Lib.ConvBytes
import Derived.Laws.Slices
import Derived.WalkKit
import Derived.KernelRfl
import Derived.RowKit3
import Derived.Deep.LoopGhost
import Derived.Deep.QuietTactic
import Derived.BigQuiet
import Derived.WideLaws
import Derived.Deep.DeepCutAuto
import Derived.Deep.CutBlock
import Derived.Deep.RegionHeld3
import Derived.Laws.Rows
import Derived.Lib.AppendStr
import Derived.ArgAppend
import Derived.Laws.IdiomCopy
import Derived.OrdersHeld
import Derived.Laws.BitsLemmas
import Derived.RowKit
import Derived.Laws.Cover1
import Derived.Test.YtamcmepehnopnaaWWords
import Derived.Test.YtamcmepehnopnaaWLast
import Derived.Test.YtamcmepehnopnaaWTab
import Derived.Test.YtamcmepehnopnaaWFour
import Derived.Test.YtamcmepehnopnaaWQPut
import Derived.Test.YtamcmepehnopnaaWApart
import Derived.Test.YtamcmepehnopnaaWArr
import Derived.Test.YtamcmepehnopnaaWZeros
import Derived.Test.YtamcmepehnopnaaWFoot
import Derived.Test.YtamcmepehnopnaaWKept
import Derived.Test.YtamcmepehnopnaaWShare
import Derived.Test.YtamcmepehnopnaaWN
import Derived.Test.YtamcmepehnopnaaWFootNe
import Derived.Test.YtamcmepehnopnaaWAt
import Derived.Test.YtamcmepehnopnaaWEqStruct
import Derived.Test.YtamcmepehnopnaaWRepsOne
import Derived.Test.YtamcmepehnopnaaWInv
import Derived.Test.YtamcmepehnopnaaWInvWords
import Derived.Test.YtamcmepehnopnaaWGuard
import Derived.Test.YtamcmepehnopnaaWNEv
import Derived.Test.YtamcmepehnopnaaWMore
namespace Go.Proofs.Ytamcmepehnopnaa.Pbehind
open Go.RowKit Go.Proofs.YtamcmepehnopnaaW.PrintWords Go.Proofs.YtamcmepehnopnaaW.PrintLast Go.Proofs.YtamcmepehnopnaaW.PrintMore
attribute [local go_sem] max2_int min2_int max_two min_two max_three min_three max_four min_four   -- for this text's walks alone
set_option linter.unusedVariables false
set_option linter.unusedSimpArgs false



def errW : Option Int → Value
  | none => .nilIface
  | some c => .iface 0 (.int .i64 c)
theorem errW_none : errW none = .nilIface := rfl
theorem errW_some (c : Int) : errW (some c) = .iface 0 (.int .i64 c) := rfl

-- the values' own types

end Go.Proofs.Ytamcmepehnopnaa.Pbehind
