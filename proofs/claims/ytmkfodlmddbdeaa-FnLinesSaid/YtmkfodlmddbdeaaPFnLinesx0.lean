-- Written by a program of this session, out of the translation.
import Derived.Test.YtmkfodlmddbdeaaProg
import Derived.Below
import Derived.Deep.Draws
import Derived.Deep.AppendLies
import Derived.Maps.AppendAt
import Derived.OwnWalk
import Derived.Laws.BytesArg
import Derived.Laws.MakeOwn
import Derived.Laws.OwnMore
import Derived.Deep.OwnRows
import Derived.Tactics
import Derived.Lib.ConvBytes
import Derived.Laws.Slices
import Derived.WalkKit
import Derived.KernelRfl
import Derived.RowKit3
import Derived.Deep.LoopGhost
import Derived.Deep.QuietTactic
import Derived.BigQuiet
import Derived.WideLaws
import Derived.Deep.DeepCutAuto
import Derived.Deep.CutBlock
import Derived.Deep.RegionHeld3
import Derived.Laws.Rows
import Derived.Lib.AppendStr
import Derived.ArgAppend
import Derived.Laws.IdiomCopy
import Derived.OrdersHeld
import Derived.Laws.BitsLemmas
import Derived.RowKit
import Derived.Lib.Strings
import Derived.Lib.Slices
import Derived.Lib.Walk
import Derived.Lib.Bytealg
import Derived.Test.YtmkfodlmddbdeaaMap
import Derived.Test.YtmkfodlmddbdeaaGiv
import Derived.Test.YtmkfodlmddbdeaaWWords
import Derived.Test.YtmkfodlmddbdeaaWLast
import Derived.Test.YtmkfodlmddbdeaaWTab
import Derived.Test.YtmkfodlmddbdeaaWFour
import Derived.Test.YtmkfodlmddbdeaaWQPut
import Derived.Test.YtmkfodlmddbdeaaWApart
import Derived.Test.YtmkfodlmddbdeaaWArr
import Derived.Test.YtmkfodlmddbdeaaWZeros
import Derived.Test.YtmkfodlmddbdeaaWFoot
import Derived.Test.YtmkfodlmddbdeaaWKept
import Derived.Test.YtmkfodlmddbdeaaWShare
import Derived.Test.YtmkfodlmddbdeaaWN
import Derived.Test.YtmkfodlmddbdeaaWFootNe
import Derived.Test.YtmkfodlmddbdeaaWAt
import Derived.Test.YtmkfodlmddbdeaaWEqStruct
import Derived.Test.YtmkfodlmddbdeaaWRepsOne
import Derived.Test.YtmkfodlmddbdeaaWInv
import Derived.Test.YtmkfodlmddbdeaaWInvWords
import Derived.Test.YtmkfodlmddbdeaaWGuard
import Derived.Test.YtmkfodlmddbdeaaWNEv
import Derived.Test.YtmkfodlmddbdeaaWMore
namespace Go.Proofs.Ytmkfodlmddbdeaa.PFnLines
open Go.RowKit Go.Proofs.YtmkfodlmddbdeaaW.PrintWords Go.Proofs.YtmkfodlmddbdeaaW.PrintLast Go.Proofs.YtmkfodlmddbdeaaW.PrintMore
attribute [local go_sem] max2_int min2_int max_two min_two max_three min_three max_four min_four   -- for this text's walks alone
set_option linter.unusedVariables false
set_option linter.unusedSimpArgs false



def errW : Option Int → Value
  | none => .nilIface
  | some c => .iface 0 (.int .i64 c)
theorem errW_none : errW none = .nilIface := rfl
theorem errW_some (c : Int) : errW (some c) = .iface 0 (.int .i64 c) := rfl

theorem info9 : (Try.prog.info? 9).map (fun i => (i.zero, i.size, i.bytes)) = some (some (.string ⟨#[]⟩), 1, 16) := by kernel_rfl
-- the values' own types

end Go.Proofs.Ytmkfodlmddbdeaa.PFnLines
