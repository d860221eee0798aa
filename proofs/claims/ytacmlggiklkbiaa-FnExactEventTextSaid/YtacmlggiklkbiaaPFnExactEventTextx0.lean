-- Written by a program of this session, out of the translation.
import Derived.Test.YtacmlggiklkbiaaProg
import Derived.Below
import Derived.Deep.Draws
import Derived.Deep.AppendLies
import Derived.Maps.AppendAt
import Derived.OwnWalk
import Derived.Laws.BytesArg
import Derived.Laws.MakeOwn
import Derived.Laws.OwnMore
import Derived.Deep.OwnRows
import Derived.Tactics
import Derived.Lib.ConvBytes
import Derived.Laws.Slices
import Derived.WalkKit
import Derived.KernelRfl
import Derived.RowKit3
import Derived.Deep.LoopGhost
import Derived.Deep.QuietTactic
import Derived.BigQuiet
import Derived.WideLaws
import Derived.Deep.DeepCutAuto
import Derived.Deep.CutBlock
import Derived.Deep.RegionHeld3
import Derived.Laws.Rows
import Derived.Lib.AppendStr
import Derived.ArgAppend
import Derived.Laws.IdiomCopy
import Derived.OrdersHeld
import Derived.Laws.BitsLemmas
import Derived.RowKit
import Derived.Lib.SlBytesConst
import Derived.Lib.Strings
import Derived.Lib.Slices
import Derived.Lib.Walk
import Derived.Lib.Bytealg
import Derived.Test.YtacmlggiklkbiaaRep
import Derived.Test.YtacmlggiklkbiaaMap
import Derived.Test.YtacmlggiklkbiaaGiv
import Derived.Test.YtacmlggiklkbiaaWWords
import Derived.Test.YtacmlggiklkbiaaWLast
import Derived.Test.YtacmlggiklkbiaaWTab
import Derived.Test.YtacmlggiklkbiaaWFour
import Derived.Test.YtacmlggiklkbiaaWQPut
import Derived.Test.YtacmlggiklkbiaaWApart
import Derived.Test.YtacmlggiklkbiaaWArr
import Derived.Test.YtacmlggiklkbiaaWZeros
import Derived.Test.YtacmlggiklkbiaaWFoot
import Derived.Test.YtacmlggiklkbiaaWKept
import Derived.Test.YtacmlggiklkbiaaWShare
import Derived.Test.YtacmlggiklkbiaaWN
import Derived.Test.YtacmlggiklkbiaaWFootNe
import Derived.Test.YtacmlggiklkbiaaWAt
import Derived.Test.YtacmlggiklkbiaaWEqStruct
import Derived.Test.YtacmlggiklkbiaaWRepsOne
import Derived.Test.YtacmlggiklkbiaaWInv
import Derived.Test.YtacmlggiklkbiaaWInvWords
import Derived.Test.YtacmlggiklkbiaaWGuard
import Derived.Test.YtacmlggiklkbiaaWNEv
import Derived.Test.YtacmlggiklkbiaaWMore
namespace Go.Proofs.Ytacmlggiklkbiaa.PFnExactEventText
open Go.RowKit Go.Proofs.YtacmlggiklkbiaaW.PrintWords Go.Proofs.YtacmlggiklkbiaaW.PrintLast Go.Proofs.YtacmlggiklkbiaaW.PrintMore
attribute [local go_sem] max2_int min2_int max_two min_two max_three min_three max_four min_four   -- for this text's walks alone
set_option linter.unusedVariables false
set_option linter.unusedSimpArgs false



def errW : Option Int → Value
  | none => .nilIface
  | some c => .iface 0 (.int .i64 c)
theorem errW_none : errW none = .nilIface := rfl
theorem errW_some (c : Int) : errW (some c) = .iface 0 (.int .i64 c) := rfl

theorem info5 : (Try.prog.info? 5).map (fun i => (i.zero, i.size, i.bytes)) = some (some (.int .u8 0), 1, 1) := by kernel_rfl
-- the values' own types

end Go.Proofs.Ytacmlggiklkbiaa.PFnExactEventText
