-- Written by a program of this session, out of the translation.
import Derived.Test.YtnkbmfbmcpdcpaaProg
import Derived.Below
import Derived.Deep.Draws
import Derived.Deep.AppendLies
import Derived.Maps.AppendAt
import Derived.OwnWalk
import Derived.Laws.BytesArg
import Derived.Laws.MakeOwn
import Derived.Laws.OwnMore
import Derived.Deep.OwnRows
import Derived.Tactics
import Derived.Lib.ConvBytes
import Derived.Laws.Slices
import Derived.WalkKit
import Derived.KernelRfl
import Derived.RowKit3
import Derived.Deep.LoopGhost
import Derived.Deep.QuietTactic
import Derived.BigQuiet
import Derived.WideLaws
import Derived.Deep.DeepCutAuto
import Derived.Deep.CutBlock
import Derived.Deep.RegionHeld3
import Derived.Laws.Rows
import Derived.Lib.AppendStr
import Derived.ArgAppend
import Derived.Laws.IdiomCopy
import Derived.OrdersHeld
import Derived.Laws.BitsLemmas
import Derived.RowKit
import Derived.Lib.Strings
import Derived.Lib.Slices
import Derived.Lib.Walk
import Derived.Lib.Bytealg
import Derived.Test.YtnkbmfbmcpdcpaaGiv
import Derived.Test.YtnkbmfbmcpdcpaaWWords
import Derived.Test.YtnkbmfbmcpdcpaaWLast
import Derived.Test.YtnkbmfbmcpdcpaaWTab
import Derived.Test.YtnkbmfbmcpdcpaaWFour
import Derived.Test.YtnkbmfbmcpdcpaaWQPut
import Derived.Test.YtnkbmfbmcpdcpaaWApart
import Derived.Test.YtnkbmfbmcpdcpaaWArr
import Derived.Test.YtnkbmfbmcpdcpaaWZeros
import Derived.Test.YtnkbmfbmcpdcpaaWFoot
import Derived.Test.YtnkbmfbmcpdcpaaWKept
import Derived.Test.YtnkbmfbmcpdcpaaWShare
import Derived.Test.YtnkbmfbmcpdcpaaWN
import Derived.Test.YtnkbmfbmcpdcpaaWFootNe
import Derived.Test.YtnkbmfbmcpdcpaaWAt
import Derived.Test.YtnkbmfbmcpdcpaaWEqStruct
import Derived.Test.YtnkbmfbmcpdcpaaWRepsOne
import Derived.Test.YtnkbmfbmcpdcpaaWInv
import Derived.Test.YtnkbmfbmcpdcpaaWInvWords
import Derived.Test.YtnkbmfbmcpdcpaaWGuard
import Derived.Test.YtnkbmfbmcpdcpaaWNEv
import Derived.Test.YtnkbmfbmcpdcpaaWMore
namespace Go.Proofs.Ytnkbmfbmcpdcpaa.PFnExactPlainFirst
open Go.RowKit Go.Proofs.YtnkbmfbmcpdcpaaW.PrintWords Go.Proofs.YtnkbmfbmcpdcpaaW.PrintLast Go.Proofs.YtnkbmfbmcpdcpaaW.PrintMore
attribute [local go_sem] max2_int min2_int max_two min_two max_three min_three max_four min_four   -- for this text's walks alone
set_option linter.unusedVariables false
set_option linter.unusedSimpArgs false



def errW : Option Int → Value
  | none => .nilIface
  | some c => .iface 0 (.int .i64 c)
theorem errW_none : errW none = .nilIface := rfl
theorem errW_some (c : Int) : errW (some c) = .iface 0 (.int .i64 c) := rfl

theorem info5 : (Try.prog.info? 5).map (fun i => (i.zero, i.size, i.bytes)) = some (some (.int .u8 0), 1, 1) := by kernel_rfl
-- the values' own types

end Go.Proofs.Ytnkbmfbmcpdcpaa.PFnExactPlainFirst
