/- Printed by a program of this session: Go functions as Lean functions, each proved to answer as the Go code does. -/
import Derived.Test.YtakalioikgoggaaProg
import Derived.Below
import Derived.Deep.Draws
import Derived.Deep.AppendLies
import Derived.Maps.AppendAt
import Derived.OwnWalk
import Derived.Laws.BytesArg
import Derived.Laws.MakeOwn
import Derived.Laws.OwnMore
import Derived.Deep.OwnRows
import Derived.Tactics
import Derived.Lib.ConvBytes
import Derived.Laws.Slices
import Derived.WalkKit
import Derived.KernelRfl
import Derived.RowKit3
import Derived.Deep.LoopGhost
import Derived.Deep.QuietTactic
import Derived.BigQuiet
import Derived.WideLaws
import Derived.Deep.DeepCutAuto
import Derived.Deep.CutBlock
import Derived.Deep.RegionHeld3
import Derived.Laws.Rows
import Derived.Lib.AppendStr
import Derived.ArgAppend
import Derived.Laws.IdiomCopy
import Derived.OrdersHeld
import Derived.Laws.BitsLemmas
import Derived.RowKit
import Derived.Laws.Cover1
import Derived.Test.YtakalioikgoggaaWWords
import Derived.Test.YtakalioikgoggaaWLast
import Derived.Test.YtakalioikgoggaaWTab
import Derived.Test.YtakalioikgoggaaWFour
import Derived.Test.YtakalioikgoggaaWQPut
import Derived.Test.YtakalioikgoggaaWApart
import Derived.Test.YtakalioikgoggaaWArr
import Derived.Test.YtakalioikgoggaaWZeros
import Derived.Test.YtakalioikgoggaaWFoot
import Derived.Test.YtakalioikgoggaaWKept
import Derived.Test.YtakalioikgoggaaWShare
import Derived.Test.YtakalioikgoggaaWN
import Derived.Test.YtakalioikgoggaaWFootNe
import Derived.Test.YtakalioikgoggaaWAt
import Derived.Test.YtakalioikgoggaaWEqStruct
import Derived.Test.YtakalioikgoggaaWRepsOne
import Derived.Test.YtakalioikgoggaaWInv
import Derived.Test.YtakalioikgoggaaWInvWords
import Derived.Test.YtakalioikgoggaaWGuard
import Derived.Test.YtakalioikgoggaaWNEv
import Derived.Test.YtakalioikgoggaaWMore
import Derived.Test.YtakalioikgoggaaRTy
namespace Go.Proofs.Ytakalioikgoggaa.PRCheck
open Go.RowKit Go.Proofs.YtakalioikgoggaaW.PrintWords Go.Proofs.YtakalioikgoggaaW.PrintLast Go.Proofs.YtakalioikgoggaaW.PrintMore
attribute [local go_sem] max2_int min2_int max_two min_two max_three min_three max_four min_four   -- for this text's walks alone
set_option linter.unusedVariables false
set_option linter.unusedSimpArgs false



end Go.Proofs.Ytakalioikgoggaa.PRCheck
