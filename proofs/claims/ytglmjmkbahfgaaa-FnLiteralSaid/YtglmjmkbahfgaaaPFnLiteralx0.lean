-- Written by a program of this session, out of the translation.
import Derived.Test.YtglmjmkbahfgaaaProg
import Derived.Below
import Derived.Deep.Draws
import Derived.Deep.AppendLies
import Derived.Maps.AppendAt
import Derived.OwnWalk
import Derived.Laws.BytesArg
import Derived.Laws.MakeOwn
import Derived.Laws.OwnMore
import Derived.Deep.OwnRows
import Derived.Tactics
import Derived.Lib.ConvBytes
import Derived.Laws.Slices
import Derived.WalkKit
import Derived.KernelRfl
import Derived.RowKit3
import Derived.Deep.LoopGhost
import Derived.Deep.QuietTactic
import Derived.BigQuiet
import Derived.WideLaws
import Derived.Deep.DeepCutAuto
import Derived.Deep.CutBlock
import Derived.Deep.RegionHeld3
import Derived.Laws.Rows
import Derived.Lib.AppendStr
import Derived.ArgAppend
import Derived.Laws.IdiomCopy
import Derived.OrdersHeld
import Derived.Laws.BitsLemmas
import Derived.RowKit
import Derived.Lib.Strings
import Derived.Lib.Slices
import Derived.Lib.Walk
import Derived.Lib.Bytealg
import Derived.Test.YtglmjmkbahfgaaaRep
import Derived.Test.YtglmjmkbahfgaaaJoi
import Derived.Test.YtglmjmkbahfgaaaGiv
import Derived.Test.YtglmjmkbahfgaaaWWords
import Derived.Test.YtglmjmkbahfgaaaWLast
import Derived.Test.YtglmjmkbahfgaaaWTab
import Derived.Test.YtglmjmkbahfgaaaWFour
import Derived.Test.YtglmjmkbahfgaaaWQPut
import Derived.Test.YtglmjmkbahfgaaaWApart
import Derived.Test.YtglmjmkbahfgaaaWArr
import Derived.Test.YtglmjmkbahfgaaaWZeros
import Derived.Test.YtglmjmkbahfgaaaWFoot
import Derived.Test.YtglmjmkbahfgaaaWKept
import Derived.Test.YtglmjmkbahfgaaaWShare
import Derived.Test.YtglmjmkbahfgaaaWN
import Derived.Test.YtglmjmkbahfgaaaWFootNe
import Derived.Test.YtglmjmkbahfgaaaWAt
import Derived.Test.YtglmjmkbahfgaaaWEqStruct
import Derived.Test.YtglmjmkbahfgaaaWRepsOne
import Derived.Test.YtglmjmkbahfgaaaWInv
import Derived.Test.YtglmjmkbahfgaaaWInvWords
import Derived.Test.YtglmjmkbahfgaaaWGuard
import Derived.Test.YtglmjmkbahfgaaaWNEv
import Derived.Test.YtglmjmkbahfgaaaWMore
namespace Go.Proofs.Ytglmjmkbahfgaaa.PFnLiteral
open Go.RowKit Go.Proofs.YtglmjmkbahfgaaaW.PrintWords Go.Proofs.YtglmjmkbahfgaaaW.PrintLast Go.Proofs.YtglmjmkbahfgaaaW.PrintMore
attribute [local go_sem] max2_int min2_int max_two min_two max_three min_three max_four min_four   -- for this text's walks alone
set_option linter.unusedVariables false
set_option linter.unusedSimpArgs false



def errW : Option Int → Value
  | none => .nilIface
  | some c => .iface 0 (.int .i64 c)
theorem errW_none : errW none = .nilIface := rfl
theorem errW_some (c : Int) : errW (some c) = .iface 0 (.int .i64 c) := rfl

theorem info9 : (Try.prog.info? 9).map (fun i => (i.zero, i.size, i.bytes)) = some (some (.string ⟨#[]⟩), 1, 16) := by kernel_rfl
-- the values' own types

end Go.Proofs.Ytglmjmkbahfgaaa.PFnLiteral
