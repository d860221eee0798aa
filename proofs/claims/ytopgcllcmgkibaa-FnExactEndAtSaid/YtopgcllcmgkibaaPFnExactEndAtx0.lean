-- Written by a program of this session, out of the translation.
import Derived.Test.YtopgcllcmgkibaaProg
import Derived.Below
import Derived.Deep.Draws
import Derived.Deep.AppendLies
import Derived.Maps.AppendAt
import Derived.OwnWalk
import Derived.Laws.BytesArg
import Derived.Laws.MakeOwn
import Derived.Laws.OwnMore
import Derived.Deep.OwnRows
import Derived.Tactics
import Derived.Lib.ConvBytes
import Derived.Laws.Slices
import Derived.WalkKit
import Derived.KernelRfl
import Derived.RowKit3
import Derived.Deep.LoopGhost
import Derived.Deep.QuietTactic
import Derived.BigQuiet
import Derived.WideLaws
import Derived.Deep.DeepCutAuto
import Derived.Deep.CutBlock
import Derived.Deep.RegionHeld3
import Derived.Laws.Rows
import Derived.Lib.AppendStr
import Derived.ArgAppend
import Derived.Laws.IdiomCopy
import Derived.OrdersHeld
import Derived.Laws.BitsLemmas
import Derived.RowKit
import Derived.Lib.Strings
import Derived.Lib.Slices
import Derived.Lib.Walk
import Derived.Lib.Bytealg
import Derived.Test.YtopgcllcmgkibaaWWords
import Derived.Test.YtopgcllcmgkibaaWLast
import Derived.Test.YtopgcllcmgkibaaWTab
import Derived.Test.YtopgcllcmgkibaaWFour
import Derived.Test.YtopgcllcmgkibaaWQPut
import Derived.Test.YtopgcllcmgkibaaWApart
import Derived.Test.YtopgcllcmgkibaaWArr
import Derived.Test.YtopgcllcmgkibaaWZeros
import Derived.Test.YtopgcllcmgkibaaWFoot
import Derived.Test.YtopgcllcmgkibaaWKept
import Derived.Test.YtopgcllcmgkibaaWShare
import Derived.Test.YtopgcllcmgkibaaWN
import Derived.Test.YtopgcllcmgkibaaWFootNe
import Derived.Test.YtopgcllcmgkibaaWAt
import Derived.Test.YtopgcllcmgkibaaWEqStruct
import Derived.Test.YtopgcllcmgkibaaWRepsOne
import Derived.Test.YtopgcllcmgkibaaWInv
import Derived.Test.YtopgcllcmgkibaaWInvWords
import Derived.Test.YtopgcllcmgkibaaWGuard
import Derived.Test.YtopgcllcmgkibaaWNEv
import Derived.Test.YtopgcllcmgkibaaWMore
namespace Go.Proofs.Ytopgcllcmgkibaa.PFnExactEndAt
open Go.RowKit Go.Proofs.YtopgcllcmgkibaaW.PrintWords Go.Proofs.YtopgcllcmgkibaaW.PrintLast Go.Proofs.YtopgcllcmgkibaaW.PrintMore
attribute [local go_sem] max2_int min2_int max_two min_two max_three min_three max_four min_four   -- for this text's walks alone
set_option linter.unusedVariables false
set_option linter.unusedSimpArgs false



def errW : Option Int → Value
  | none => .nilIface
  | some c => .iface 0 (.int .i64 c)
theorem errW_none : errW none = .nilIface := rfl
theorem errW_some (c : Int) : errW (some c) = .iface 0 (.int .i64 c) := rfl

-- the values' own types

end Go.Proofs.Ytopgcllcmgkibaa.PFnExactEndAt
