/- Printed by a program of this session: Go functions as Lean functions, each proved to answer as the Go code does. -/
import Derived.Test.YtamcmepehnopnaaDoorProg
import Derived.Below
import Derived.Deep.Draws
import Derived.Deep.AppendLies
import Derived.Maps.AppendAt
import Derived.OwnWalk
import Derived.Laws.BytesArg
import Derived.Laws.MakeOwn
import Derived.Laws.OwnMore
import Derived.Deep.OwnRows
import Derived.Tactics
import Derived.Lib.ConvBytes
import Derived.Laws.Slices
import Derived.WalkKit
import Derived.KernelRfl
import Derived.RowKit3
import Derived.Deep.LoopGhost
import Derived.Deep.QuietTactic
import Derived.BigQuiet
import Derived.WideLaws
import Derived.Deep.DeepCutAuto
import Derived.Deep.CutBlock
import Derived.Deep.RegionHeld3
import Derived.Laws.Rows
import Derived.Lib.AppendStr
import Derived.ArgAppend
import Derived.Laws.IdiomCopy
import Derived.OrdersHeld
import Derived.Laws.BitsLemmas
import Derived.RowKit
import Derived.Test.YtamcmepehnopnaaDoorWWords
import Derived.Test.YtamcmepehnopnaaDoorWLast
import Derived.Test.YtamcmepehnopnaaDoorWTab
import Derived.Test.YtamcmepehnopnaaDoorWFour
import Derived.Test.YtamcmepehnopnaaDoorWQPut
import Derived.Test.YtamcmepehnopnaaDoorWApart
import Derived.Test.YtamcmepehnopnaaDoorWArr
import Derived.Test.YtamcmepehnopnaaDoorWZeros
import Derived.Test.YtamcmepehnopnaaDoorWFoot
import Derived.Test.YtamcmepehnopnaaDoorWKept
import Derived.Test.YtamcmepehnopnaaDoorWShare
import Derived.Test.YtamcmepehnopnaaDoorWN
import Derived.Test.YtamcmepehnopnaaDoorWFootNe
import Derived.Test.YtamcmepehnopnaaDoorWAt
import Derived.Test.YtamcmepehnopnaaDoorWEqStruct
import Derived.Test.YtamcmepehnopnaaDoorWRepsOne
import Derived.Test.YtamcmepehnopnaaDoorWInv
import Derived.Test.YtamcmepehnopnaaDoorWInvWords
import Derived.Test.YtamcmepehnopnaaDoorWGuard
import Derived.Test.YtamcmepehnopnaaDoorWNEv
import Derived.Test.YtamcmepehnopnaaDoorWMore
namespace Go.Proofs.YtamcmepehnopnaaDoor.PSumsJoin
open Go.RowKit Go.Proofs.YtamcmepehnopnaaDoorW.PrintWords Go.Proofs.YtamcmepehnopnaaDoorW.PrintLast Go.Proofs.YtamcmepehnopnaaDoorW.PrintMore
attribute [local go_sem] max2_int min2_int max_two min_two max_three min_three max_four min_four   -- for this text's walks alone
set_option linter.unusedVariables false
set_option linter.unusedSimpArgs false



def errW : Option Int → Value
  | none => .nilIface
  | some c => .iface 0 (.int .i64 c)
theorem errW_none : errW none = .nilIface := rfl
theorem errW_some (c : Int) : errW (some c) = .iface 0 (.int .i64 c) := rfl

-- the values' own types

end Go.Proofs.YtamcmepehnopnaaDoor.PSumsJoin
