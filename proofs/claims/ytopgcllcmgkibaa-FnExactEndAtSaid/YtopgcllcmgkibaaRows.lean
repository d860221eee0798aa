/-
  No cell of these rows narrows 'for every input' (looked for: loops, veiled, ifaces, maps, wideKeys, modest, calm, conditions, laid).
  DERIVED. THE GIVEN ROWS OF THIS SEAT. 9 by the template 'for every input the law returns true; each argument reads behind the call as it read before'; 0 by the template 'total and deterministic' (their statements: YtopgcllcmgkibaaTotals.lean).
  GIVEN WITH THE SEED: the statements are not yours to turn. If you find one false, say at which input.
  Laid BY PROGRAM, IN A SANDBOX (cutbox-rows.mjs): the forced cells as the released guide's own fill.sh prints them over the translation fc16cf89ba055423… (all of the seat's roots in one cut). By AI agents, Wed Nov 11 2026. No macro, syntax, notation, axiom, sorry.
-/
import Derived.Test.YtopgcllcmgkibaaChecked
import GoSem.Claim
import GoSem.ClaimJoined
import GoSem.ClaimMapViews
import Derived.JoinedTies
import Derived.KernelRfl
namespace Go.Proofs.Ytopgcllcmgkibaa
/- THE CELL 'sum', in the pinned program and in every row, IS THE sha256 OF THE DUMP (.gsa) THAT YtopgcllcmgkibaaProg.lean LOADS. Nothing in Lean hashes anything: it is a label: what it is worth is what the hold of that sum in a sandbox is worth. -/
noncomputable def Try.pinned : Pinned := { name := "ytopgcllcmgkibaa", sum := "fc16cf89ba05542374ce06f547651670dbd427118534c4a0c8e5519f8b14a896", checked := Try.checked }
namespace Rows
def none {H : Type} : Left H := { results := [], args := [] }

/-- 'laws.FnExactConstants': WHATEVER THE INPUT: true; the input reads as it did. -/
def fnExactConstantsSpec : ChangeSpec := { name := "fnExactConstants", fn := fun _ => fun
  | [] => { results := [.lit (.bool true)], args := [] }
  | _ => none }
def fnExactConstantsRow : OpenClaim := { program := "ytopgcllcmgkibaa", sum := "fc16cf89ba05542374ce06f547651670dbd427118534c4a0c8e5519f8b14a896", func := "loop.example/g00666/laws.FnExactConstants", spec := "fnExactConstants", apart := false }
def FnExactConstantsSaid : Prop := fnExactConstantsRow.holds Try.pinned (OpenSpec.ofChange fnExactConstantsSpec)

/-- ITS FALSE NEIGHBOUR: 'it returns false'. Refute it at one input. -/
def fnExactConstantsWrong : ChangeSpec := { name := "fnExactConstants", fn := fun _ => fun
  | [] => { results := [.lit (.bool false)], args := [] }
  | _ => none }
def FnExactConstantsWrongFalsely : Prop := fnExactConstantsRow.holds Try.pinned (OpenSpec.ofChange fnExactConstantsWrong)

/-- 'laws.FnExactRuneBytes': WHATEVER THE INPUT: true; the input reads as it did. -/
def fnExactRuneBytesSpec : ChangeSpec := { name := "fnExactRuneBytes", fn := fun _ => fun
  | [d] => { results := [.lit (.bool true)], args := [d] }
  | _ => none }
def fnExactRuneBytesRow : OpenClaim := { program := "ytopgcllcmgkibaa", sum := "fc16cf89ba05542374ce06f547651670dbd427118534c4a0c8e5519f8b14a896", func := "loop.example/g00666/laws.FnExactRuneBytes", spec := "fnExactRuneBytes", apart := false }
def FnExactRuneBytesSaid : Prop := fnExactRuneBytesRow.holds Try.pinned (OpenSpec.ofChange fnExactRuneBytesSpec)

/-- ITS FALSE NEIGHBOUR: 'it returns false'. Refute it at one input. -/
def fnExactRuneBytesWrong : ChangeSpec := { name := "fnExactRuneBytes", fn := fun _ => fun
  | [d] => { results := [.lit (.bool false)], args := [d] }
  | _ => none }
def FnExactRuneBytesWrongFalsely : Prop := fnExactRuneBytesRow.holds Try.pinned (OpenSpec.ofChange fnExactRuneBytesWrong)

/-- 'laws.FnExactNumText': WHATEVER THE INPUT: true; the input reads as it did. -/
def fnExactNumTextSpec : ChangeSpec := { name := "fnExactNumText", fn := fun _ => fun
  | [d] => { results := [.lit (.bool true)], args := [d] }
  | _ => none }
def fnExactNumTextRow : OpenClaim := { program := "ytopgcllcmgkibaa", sum := "fc16cf89ba05542374ce06f547651670dbd427118534c4a0c8e5519f8b14a896", func := "loop.example/g00666/laws.FnExactNumText", spec := "fnExactNumText", recurses := true, apart := false }
def FnExactNumTextSaid : Prop := fnExactNumTextRow.holds Try.pinned (OpenSpec.ofChange fnExactNumTextSpec)

/-- ITS FALSE NEIGHBOUR: 'it returns false'. Refute it at one input. -/
def fnExactNumTextWrong : ChangeSpec := { name := "fnExactNumText", fn := fun _ => fun
  | [d] => { results := [.lit (.bool false)], args := [d] }
  | _ => none }
def FnExactNumTextWrongFalsely : Prop := fnExactNumTextRow.holds Try.pinned (OpenSpec.ofChange fnExactNumTextWrong)

/-- 'laws.FnExactLineAt': WHATEVER THE INPUT: true; the input reads as it did. -/
def fnExactLineAtSpec : ChangeSpec := { name := "fnExactLineAt", fn := fun _ => fun
  | [d1, d2] => { results := [.lit (.bool true)], args := [d1, d2] }
  | _ => none }
def fnExactLineAtRow : OpenClaim := { program := "ytopgcllcmgkibaa", sum := "fc16cf89ba05542374ce06f547651670dbd427118534c4a0c8e5519f8b14a896", func := "loop.example/g00666/laws.FnExactLineAt", spec := "fnExactLineAt", apart := false }
def FnExactLineAtSaid : Prop := fnExactLineAtRow.holds Try.pinned (OpenSpec.ofChange fnExactLineAtSpec)

/-- ITS FALSE NEIGHBOUR: 'it returns false'. Refute it at one input. -/
def fnExactLineAtWrong : ChangeSpec := { name := "fnExactLineAt", fn := fun _ => fun
  | [d1, d2] => { results := [.lit (.bool false)], args := [d1, d2] }
  | _ => none }
def FnExactLineAtWrongFalsely : Prop := fnExactLineAtRow.holds Try.pinned (OpenSpec.ofChange fnExactLineAtWrong)

/-- 'laws.FnExactEndAt': WHATEVER THE INPUT: true; the input reads as it did. -/
def fnExactEndAtSpec : ChangeSpec := { name := "fnExactEndAt", fn := fun _ => fun
  | [d1, d2] => { results := [.lit (.bool true)], args := [d1, d2] }
  | _ => none }
def fnExactEndAtRow : OpenClaim := { program := "ytopgcllcmgkibaa", sum := "fc16cf89ba05542374ce06f547651670dbd427118534c4a0c8e5519f8b14a896", func := "loop.example/g00666/laws.FnExactEndAt", spec := "fnExactEndAt", inPlace := ["internal/bytealg.IndexByteString"], apart := false }
def FnExactEndAtSaid : Prop := fnExactEndAtRow.holds Try.pinned (OpenSpec.ofChange fnExactEndAtSpec)

/-- ITS FALSE NEIGHBOUR: 'it returns false'. Refute it at one input. -/
def fnExactEndAtWrong : ChangeSpec := { name := "fnExactEndAt", fn := fun _ => fun
  | [d1, d2] => { results := [.lit (.bool false)], args := [d1, d2] }
  | _ => none }
def FnExactEndAtWrongFalsely : Prop := fnExactEndAtRow.holds Try.pinned (OpenSpec.ofChange fnExactEndAtWrong)

/-- 'laws.FnExactCol': WHATEVER THE INPUT: true; the input reads as it did. -/
def fnExactColSpec : ChangeSpec := { name := "fnExactCol", fn := fun _ => fun
  | [d1, d2] => { results := [.lit (.bool true)], args := [d1, d2] }
  | _ => none }
def fnExactColRow : OpenClaim := { program := "ytopgcllcmgkibaa", sum := "fc16cf89ba05542374ce06f547651670dbd427118534c4a0c8e5519f8b14a896", func := "loop.example/g00666/laws.FnExactCol", spec := "fnExactCol", apart := false }
def FnExactColSaid : Prop := fnExactColRow.holds Try.pinned (OpenSpec.ofChange fnExactColSpec)

/-- ITS FALSE NEIGHBOUR: 'it returns false'. Refute it at one input. -/
def fnExactColWrong : ChangeSpec := { name := "fnExactCol", fn := fun _ => fun
  | [d1, d2] => { results := [.lit (.bool false)], args := [d1, d2] }
  | _ => none }
def FnExactColWrongFalsely : Prop := fnExactColRow.holds Try.pinned (OpenSpec.ofChange fnExactColWrong)

/-- 'laws.FnExactWhite': WHATEVER THE INPUT: true; the input reads as it did. -/
def fnExactWhiteSpec : ChangeSpec := { name := "fnExactWhite", fn := fun _ => fun
  | [d1, d2] => { results := [.lit (.bool true)], args := [d1, d2] }
  | _ => none }
def fnExactWhiteRow : OpenClaim := { program := "ytopgcllcmgkibaa", sum := "fc16cf89ba05542374ce06f547651670dbd427118534c4a0c8e5519f8b14a896", func := "loop.example/g00666/laws.FnExactWhite", spec := "fnExactWhite", apart := false }
def FnExactWhiteSaid : Prop := fnExactWhiteRow.holds Try.pinned (OpenSpec.ofChange fnExactWhiteSpec)

/-- ITS FALSE NEIGHBOUR: 'it returns false'. Refute it at one input. -/
def fnExactWhiteWrong : ChangeSpec := { name := "fnExactWhite", fn := fun _ => fun
  | [d1, d2] => { results := [.lit (.bool false)], args := [d1, d2] }
  | _ => none }
def FnExactWhiteWrongFalsely : Prop := fnExactWhiteRow.holds Try.pinned (OpenSpec.ofChange fnExactWhiteWrong)

/-- 'laws.FnExactIndentAt': WHATEVER THE INPUT: true; the input reads as it did. -/
def fnExactIndentAtSpec : ChangeSpec := { name := "fnExactIndentAt", fn := fun _ => fun
  | [d1, d2] => { results := [.lit (.bool true)], args := [d1, d2] }
  | _ => none }
def fnExactIndentAtRow : OpenClaim := { program := "ytopgcllcmgkibaa", sum := "fc16cf89ba05542374ce06f547651670dbd427118534c4a0c8e5519f8b14a896", func := "loop.example/g00666/laws.FnExactIndentAt", spec := "fnExactIndentAt", apart := false }
def FnExactIndentAtSaid : Prop := fnExactIndentAtRow.holds Try.pinned (OpenSpec.ofChange fnExactIndentAtSpec)

/-- ITS FALSE NEIGHBOUR: 'it returns false'. Refute it at one input. -/
def fnExactIndentAtWrong : ChangeSpec := { name := "fnExactIndentAt", fn := fun _ => fun
  | [d1, d2] => { results := [.lit (.bool false)], args := [d1, d2] }
  | _ => none }
def FnExactIndentAtWrongFalsely : Prop := fnExactIndentAtRow.holds Try.pinned (OpenSpec.ofChange fnExactIndentAtWrong)

/-- 'laws.FnExactTextNum': WHATEVER THE INPUT: true; the input reads as it did. -/
def fnExactTextNumSpec : ChangeSpec := { name := "fnExactTextNum", fn := fun _ => fun
  | [d] => { results := [.lit (.bool true)], args := [d] }
  | _ => none }
def fnExactTextNumRow : OpenClaim := { program := "ytopgcllcmgkibaa", sum := "fc16cf89ba05542374ce06f547651670dbd427118534c4a0c8e5519f8b14a896", func := "loop.example/g00666/laws.FnExactTextNum", spec := "fnExactTextNum", recurses := true, apart := false }
def FnExactTextNumSaid : Prop := fnExactTextNumRow.holds Try.pinned (OpenSpec.ofChange fnExactTextNumSpec)

/-- ITS FALSE NEIGHBOUR: 'it returns false'. Refute it at one input. -/
def fnExactTextNumWrong : ChangeSpec := { name := "fnExactTextNum", fn := fun _ => fun
  | [d] => { results := [.lit (.bool false)], args := [d] }
  | _ => none }
def FnExactTextNumWrongFalsely : Prop := fnExactTextNumRow.holds Try.pinned (OpenSpec.ofChange fnExactTextNumWrong)

/- THE SECOND FORM. 'bulk': how many values and letters a reading holds, each counted each time it is reached (what is shared counts as often as it is met; a slice's spare places count too). A statement '..UptoSaid' is the law's where the arguments, and the package variables that the reading takes, are together of bulk at most 1048576: NARROWER than '..Said'. Prove '..Said' where nothing that the law and all that it calls make is longer than what came in: it says more and counts as full. Else prove '..UptoSaid'. A law counts once. -/
mutual
def uptoBulk {H : Type} : DataW H → Nat
  | .lit (.string bytes) => bytes.length + 1
  | .lit _ => 1
  | .nil => 1
  | .ptr d => uptoBulk d + 1
  | .slice elems spare => uptoBulkAll elems + uptoBulkAll spare + 1
  | .agg parts => uptoBulkAll parts + 1
  | .iface _ d => uptoBulk d + 1
  | .map entries => uptoBulkEntries entries + 1
  | .held _ => 1
def uptoBulkAll {H : Type} : List (DataW H) → Nat
  | [] => 0
  | d :: r => uptoBulk d + uptoBulkAll r
def uptoBulkEntries {H : Type} : List (Lit × DataW H) → Nat
  | [] => 0
  | x :: r => uptoBulkEntry x + uptoBulkEntries r
def uptoBulkEntry {H : Type} : Lit × DataW H → Nat
  | (.string bytes, d) => bytes.length + uptoBulk d + 1
  | (_, d) => uptoBulk d + 1
 end
def uptoSmall : (H : Type) → List (DataW H) → Bool := fun _ ds => decide (uptoBulkAll ds ≤ 1048576)
def OpenSpec.upto (s : _root_.Go.ChangeSpec) : _root_.Go.OpenSpec := { _root_.Go.OpenSpec.ofChange s with cond := some uptoSmall }

/-- 'laws.FnExactConstants', WHERE WHAT IT READS IS OF BULK AT MOST 1048576: true; the input reads as it did. -/
def fnExactConstantsUptoRow : OpenClaim := { program := "ytopgcllcmgkibaa", sum := "fc16cf89ba05542374ce06f547651670dbd427118534c4a0c8e5519f8b14a896", func := "loop.example/g00666/laws.FnExactConstants", spec := "fnExactConstants", apart := false, narrowed := true }
def FnExactConstantsUptoSaid : Prop := fnExactConstantsUptoRow.holds Try.pinned (OpenSpec.upto fnExactConstantsSpec)

/-- 'laws.FnExactRuneBytes', WHERE WHAT IT READS IS OF BULK AT MOST 1048576: true; the input reads as it did. -/
def fnExactRuneBytesUptoRow : OpenClaim := { program := "ytopgcllcmgkibaa", sum := "fc16cf89ba05542374ce06f547651670dbd427118534c4a0c8e5519f8b14a896", func := "loop.example/g00666/laws.FnExactRuneBytes", spec := "fnExactRuneBytes", apart := false, narrowed := true }
def FnExactRuneBytesUptoSaid : Prop := fnExactRuneBytesUptoRow.holds Try.pinned (OpenSpec.upto fnExactRuneBytesSpec)

/-- 'laws.FnExactNumText', WHERE WHAT IT READS IS OF BULK AT MOST 1048576: true; the input reads as it did. -/
def fnExactNumTextUptoRow : OpenClaim := { program := "ytopgcllcmgkibaa", sum := "fc16cf89ba05542374ce06f547651670dbd427118534c4a0c8e5519f8b14a896", func := "loop.example/g00666/laws.FnExactNumText", spec := "fnExactNumText", recurses := true, apart := false, narrowed := true }
def FnExactNumTextUptoSaid : Prop := fnExactNumTextUptoRow.holds Try.pinned (OpenSpec.upto fnExactNumTextSpec)

/-- 'laws.FnExactLineAt', WHERE WHAT IT READS IS OF BULK AT MOST 1048576: true; the input reads as it did. -/
def fnExactLineAtUptoRow : OpenClaim := { program := "ytopgcllcmgkibaa", sum := "fc16cf89ba05542374ce06f547651670dbd427118534c4a0c8e5519f8b14a896", func := "loop.example/g00666/laws.FnExactLineAt", spec := "fnExactLineAt", apart := false, narrowed := true }
def FnExactLineAtUptoSaid : Prop := fnExactLineAtUptoRow.holds Try.pinned (OpenSpec.upto fnExactLineAtSpec)

/-- 'laws.FnExactEndAt', WHERE WHAT IT READS IS OF BULK AT MOST 1048576: true; the input reads as it did. -/
def fnExactEndAtUptoRow : OpenClaim := { program := "ytopgcllcmgkibaa", sum := "fc16cf89ba05542374ce06f547651670dbd427118534c4a0c8e5519f8b14a896", func := "loop.example/g00666/laws.FnExactEndAt", spec := "fnExactEndAt", inPlace := ["internal/bytealg.IndexByteString"], apart := false, narrowed := true }
def FnExactEndAtUptoSaid : Prop := fnExactEndAtUptoRow.holds Try.pinned (OpenSpec.upto fnExactEndAtSpec)

/-- 'laws.FnExactCol', WHERE WHAT IT READS IS OF BULK AT MOST 1048576: true; the input reads as it did. -/
def fnExactColUptoRow : OpenClaim := { program := "ytopgcllcmgkibaa", sum := "fc16cf89ba05542374ce06f547651670dbd427118534c4a0c8e5519f8b14a896", func := "loop.example/g00666/laws.FnExactCol", spec := "fnExactCol", apart := false, narrowed := true }
def FnExactColUptoSaid : Prop := fnExactColUptoRow.holds Try.pinned (OpenSpec.upto fnExactColSpec)

/-- 'laws.FnExactWhite', WHERE WHAT IT READS IS OF BULK AT MOST 1048576: true; the input reads as it did. -/
def fnExactWhiteUptoRow : OpenClaim := { program := "ytopgcllcmgkibaa", sum := "fc16cf89ba05542374ce06f547651670dbd427118534c4a0c8e5519f8b14a896", func := "loop.example/g00666/laws.FnExactWhite", spec := "fnExactWhite", apart := false, narrowed := true }
def FnExactWhiteUptoSaid : Prop := fnExactWhiteUptoRow.holds Try.pinned (OpenSpec.upto fnExactWhiteSpec)

/-- 'laws.FnExactIndentAt', WHERE WHAT IT READS IS OF BULK AT MOST 1048576: true; the input reads as it did. -/
def fnExactIndentAtUptoRow : OpenClaim := { program := "ytopgcllcmgkibaa", sum := "fc16cf89ba05542374ce06f547651670dbd427118534c4a0c8e5519f8b14a896", func := "loop.example/g00666/laws.FnExactIndentAt", spec := "fnExactIndentAt", apart := false, narrowed := true }
def FnExactIndentAtUptoSaid : Prop := fnExactIndentAtUptoRow.holds Try.pinned (OpenSpec.upto fnExactIndentAtSpec)

/-- 'laws.FnExactTextNum', WHERE WHAT IT READS IS OF BULK AT MOST 1048576: true; the input reads as it did. -/
def fnExactTextNumUptoRow : OpenClaim := { program := "ytopgcllcmgkibaa", sum := "fc16cf89ba05542374ce06f547651670dbd427118534c4a0c8e5519f8b14a896", func := "loop.example/g00666/laws.FnExactTextNum", spec := "fnExactTextNum", recurses := true, apart := false, narrowed := true }
def FnExactTextNumUptoSaid : Prop := fnExactTextNumUptoRow.holds Try.pinned (OpenSpec.upto fnExactTextNumSpec)

end Rows
end Go.Proofs.Ytopgcllcmgkibaa
