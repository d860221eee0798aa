-- Written by a program of this session, out of the translation.
import Derived.Test.YtjbhflicehnocaaProg
import Derived.Below
import Derived.Deep.Draws
import Derived.Deep.AppendLies
import Derived.Maps.AppendAt
import Derived.OwnWalk
import Derived.Laws.BytesArg
import Derived.Laws.MakeOwn
import Derived.Laws.OwnMore
import Derived.Deep.OwnRows
import Derived.Tactics
import Derived.Lib.ConvBytes
import Derived.Laws.Slices
import Derived.WalkKit
import Derived.KernelRfl
import Derived.RowKit3
import Derived.Deep.LoopGhost
import Derived.Deep.QuietTactic
import Derived.BigQuiet
import Derived.WideLaws
import Derived.Deep.DeepCutAuto
import Derived.Deep.CutBlock
import Derived.Deep.RegionHeld3
import Derived.Laws.Rows
import Derived.Lib.AppendStr
import Derived.ArgAppend
import Derived.Laws.IdiomCopy
import Derived.OrdersHeld
import Derived.Laws.BitsLemmas
import Derived.RowKit
import Derived.Lib.Strings
import Derived.Lib.Slices
import Derived.Lib.Walk
import Derived.Lib.Bytealg
import Derived.Test.YtjbhflicehnocaaRep
import Derived.Test.YtjbhflicehnocaaMap
import Derived.Test.YtjbhflicehnocaaGiv
import Derived.Test.YtjbhflicehnocaaWWords
import Derived.Test.YtjbhflicehnocaaWLast
import Derived.Test.YtjbhflicehnocaaWTab
import Derived.Test.YtjbhflicehnocaaWFour
import Derived.Test.YtjbhflicehnocaaWQPut
import Derived.Test.YtjbhflicehnocaaWApart
import Derived.Test.YtjbhflicehnocaaWArr
import Derived.Test.YtjbhflicehnocaaWZeros
import Derived.Test.YtjbhflicehnocaaWFoot
import Derived.Test.YtjbhflicehnocaaWKept
import Derived.Test.YtjbhflicehnocaaWShare
import Derived.Test.YtjbhflicehnocaaWN
import Derived.Test.YtjbhflicehnocaaWFootNe
import Derived.Test.YtjbhflicehnocaaWAt
import Derived.Test.YtjbhflicehnocaaWEqStruct
import Derived.Test.YtjbhflicehnocaaWRepsOne
import Derived.Test.YtjbhflicehnocaaWInv
import Derived.Test.YtjbhflicehnocaaWInvWords
import Derived.Test.YtjbhflicehnocaaWGuard
import Derived.Test.YtjbhflicehnocaaWNEv
import Derived.Test.YtjbhflicehnocaaWMore
namespace Go.Proofs.Ytjbhflicehnocaa.PFnExactEscapeAt
open Go.RowKit Go.Proofs.YtjbhflicehnocaaW.PrintWords Go.Proofs.YtjbhflicehnocaaW.PrintLast Go.Proofs.YtjbhflicehnocaaW.PrintMore
attribute [local go_sem] max2_int min2_int max_two min_two max_three min_three max_four min_four   -- for this text's walks alone
set_option linter.unusedVariables false
set_option linter.unusedSimpArgs false



def errW : Option Int → Value
  | none => .nilIface
  | some c => .iface 0 (.int .i64 c)
theorem errW_none : errW none = .nilIface := rfl
theorem errW_some (c : Int) : errW (some c) = .iface 0 (.int .i64 c) := rfl

theorem info3 : (Try.prog.info? 3).map (fun i => (i.zero, i.size, i.bytes)) = some (some (.int .i64 0), 1, 8) := by kernel_rfl
theorem info5 : (Try.prog.info? 5).map (fun i => (i.zero, i.size, i.bytes)) = some (some (.int .u8 0), 1, 1) := by kernel_rfl
-- the values' own types

end Go.Proofs.Ytjbhflicehnocaa.PFnExactEscapeAt
