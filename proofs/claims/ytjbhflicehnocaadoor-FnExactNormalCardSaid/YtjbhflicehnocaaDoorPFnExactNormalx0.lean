-- Written by a program of this session, out of the translation.
import Derived.Test.YtjbhflicehnocaaDoorProg
import Derived.Below
import Derived.Deep.Draws
import Derived.Deep.AppendLies
import Derived.Maps.AppendAt
import Derived.OwnWalk
import Derived.Laws.BytesArg
import Derived.Laws.MakeOwn
import Derived.Laws.OwnMore
import Derived.Deep.OwnRows
import Derived.Tactics
import Derived.Lib.ConvBytes
import Derived.Laws.Slices
import Derived.WalkKit
import Derived.KernelRfl
import Derived.RowKit3
import Derived.Deep.LoopGhost
import Derived.Deep.QuietTactic
import Derived.BigQuiet
import Derived.WideLaws
import Derived.Deep.DeepCutAuto
import Derived.Deep.CutBlock
import Derived.Deep.RegionHeld3
import Derived.Laws.Rows
import Derived.Lib.AppendStr
import Derived.ArgAppend
import Derived.Laws.IdiomCopy
import Derived.OrdersHeld
import Derived.Laws.BitsLemmas
import Derived.RowKit
import Derived.Lib.Strings
import Derived.Lib.Slices
import Derived.Lib.Walk
import Derived.Lib.Bytealg
import Derived.Test.YtjbhflicehnocaaDoorDec
import Derived.Test.YtjbhflicehnocaaDoorTab
import Derived.Test.YtjbhflicehnocaaDoorWWords
import Derived.Test.YtjbhflicehnocaaDoorWLast
import Derived.Test.YtjbhflicehnocaaDoorWTab
import Derived.Test.YtjbhflicehnocaaDoorWFour
import Derived.Test.YtjbhflicehnocaaDoorWQPut
import Derived.Test.YtjbhflicehnocaaDoorWApart
import Derived.Test.YtjbhflicehnocaaDoorWArr
import Derived.Test.YtjbhflicehnocaaDoorWZeros
import Derived.Test.YtjbhflicehnocaaDoorWFoot
import Derived.Test.YtjbhflicehnocaaDoorWKept
import Derived.Test.YtjbhflicehnocaaDoorWShare
import Derived.Test.YtjbhflicehnocaaDoorWN
import Derived.Test.YtjbhflicehnocaaDoorWFootNe
import Derived.Test.YtjbhflicehnocaaDoorWAt
import Derived.Test.YtjbhflicehnocaaDoorWEqStruct
import Derived.Test.YtjbhflicehnocaaDoorWRepsOne
import Derived.Test.YtjbhflicehnocaaDoorWInv
import Derived.Test.YtjbhflicehnocaaDoorWInvWords
import Derived.Test.YtjbhflicehnocaaDoorWGuard
import Derived.Test.YtjbhflicehnocaaDoorWNEv
import Derived.Test.YtjbhflicehnocaaDoorWMore
namespace Go.Proofs.YtjbhflicehnocaaDoor.PFnExactNormal
open Go.RowKit Go.Proofs.YtjbhflicehnocaaDoorW.PrintWords Go.Proofs.YtjbhflicehnocaaDoorW.PrintLast Go.Proofs.YtjbhflicehnocaaDoorW.PrintMore
attribute [local go_sem] max2_int min2_int max_two min_two max_three min_three max_four min_four   -- for this text's walks alone
set_option linter.unusedVariables false
set_option linter.unusedSimpArgs false



def errW : Option Int → Value
  | none => .nilIface
  | some c => .iface 0 (.int .i64 c)
theorem errW_none : errW none = .nilIface := rfl
theorem errW_some (c : Int) : errW (some c) = .iface 0 (.int .i64 c) := rfl

theorem info3 : (Tryd.prog.info? 3).map (fun i => (i.zero, i.size, i.bytes)) = some (some (.int .i64 0), 1, 8) := by kernel_rfl
theorem info5 : (Tryd.prog.info? 5).map (fun i => (i.zero, i.size, i.bytes)) = some (some (.int .u8 0), 1, 1) := by kernel_rfl
-- the values' own types

end Go.Proofs.YtjbhflicehnocaaDoor.PFnExactNormal
