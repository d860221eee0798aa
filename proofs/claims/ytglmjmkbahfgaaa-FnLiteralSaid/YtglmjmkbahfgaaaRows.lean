/-
  No cell of these rows narrows 'for every input' (looked for: loops, veiled, ifaces, maps, wideKeys, modest, calm, conditions, laid).
  DERIVED. THE GIVEN ROWS OF THIS SEAT. 10 by the template 'for every input the law returns true; each argument reads behind the call as it read before'; 0 by the template 'total and deterministic' (their statements: YtglmjmkbahfgaaaTotals.lean).
  GIVEN WITH THE SEED: the statements are not yours to turn. If you find one false, say at which input.
  Laid BY PROGRAM, IN A SANDBOX (cutbox-rows.mjs): the forced cells as the released guide's own fill.sh prints them over the translation 40e52ac44d8b0cbc… (all of the seat's roots in one cut). By AI agents, Wed Nov 11 2026. No macro, syntax, notation, axiom, sorry.
-/
import Derived.Test.YtglmjmkbahfgaaaChecked
import GoSem.Claim
import GoSem.ClaimJoined
import GoSem.ClaimMapViews
import Derived.JoinedTies
import Derived.KernelRfl
namespace Go.Proofs.Ytglmjmkbahfgaaa
/- THE CELL 'sum', in the pinned program and in every row, IS THE sha256 OF THE DUMP (.gsa) THAT YtglmjmkbahfgaaaProg.lean LOADS. Nothing in Lean hashes anything: it is a label: what it is worth is what the hold of that sum in a sandbox is worth. -/
noncomputable def Try.pinned : Pinned := { name := "ytglmjmkbahfgaaa", sum := "40e52ac44d8b0cbcd66d509814489bce863fd170e768aa7ca8580e3b764b0cab", checked := Try.checked }
namespace Rows
def none {H : Type} : Left H := { results := [], args := [] }

/-- 'laws.FnExactPlainAt': WHATEVER THE INPUT: true; the input reads as it did. -/
def fnExactPlainAtSpec : ChangeSpec := { name := "fnExactPlainAt", fn := fun _ => fun
  | [d1, d2, d3, d4] => { results := [.lit (.bool true)], args := [d1, d2, d3, d4] }
  | _ => none }
def fnExactPlainAtRow : OpenClaim := { program := "ytglmjmkbahfgaaa", sum := "40e52ac44d8b0cbcd66d509814489bce863fd170e768aa7ca8580e3b764b0cab", func := "loop.example/g00666/laws.FnExactPlainAt", spec := "fnExactPlainAt", inPlace := ["internal/bytealg.IndexByteString", "internal/abi.NoEscape", "internal/bytealg.MakeNoZero"], apart := false }
def FnExactPlainAtSaid : Prop := fnExactPlainAtRow.holds Try.pinned (OpenSpec.ofChange fnExactPlainAtSpec)

/-- ITS FALSE NEIGHBOUR: 'it returns false'. Refute it at one input. -/
def fnExactPlainAtWrong : ChangeSpec := { name := "fnExactPlainAt", fn := fun _ => fun
  | [d1, d2, d3, d4] => { results := [.lit (.bool false)], args := [d1, d2, d3, d4] }
  | _ => none }
def FnExactPlainAtWrongFalsely : Prop := fnExactPlainAtRow.holds Try.pinned (OpenSpec.ofChange fnExactPlainAtWrong)

/-- 'laws.FnExactDoubleAt': WHATEVER THE INPUT: true; the input reads as it did. -/
def fnExactDoubleAtSpec : ChangeSpec := { name := "fnExactDoubleAt", fn := fun _ => fun
  | [d1, d2] => { results := [.lit (.bool true)], args := [d1, d2] }
  | _ => none }
def fnExactDoubleAtRow : OpenClaim := { program := "ytglmjmkbahfgaaa", sum := "40e52ac44d8b0cbcd66d509814489bce863fd170e768aa7ca8580e3b764b0cab", func := "loop.example/g00666/laws.FnExactDoubleAt", spec := "fnExactDoubleAt", inPlace := ["internal/abi.NoEscape", "internal/bytealg.MakeNoZero"], apart := false }
def FnExactDoubleAtSaid : Prop := fnExactDoubleAtRow.holds Try.pinned (OpenSpec.ofChange fnExactDoubleAtSpec)

/-- ITS FALSE NEIGHBOUR: 'it returns false'. Refute it at one input. -/
def fnExactDoubleAtWrong : ChangeSpec := { name := "fnExactDoubleAt", fn := fun _ => fun
  | [d1, d2] => { results := [.lit (.bool false)], args := [d1, d2] }
  | _ => none }
def FnExactDoubleAtWrongFalsely : Prop := fnExactDoubleAtRow.holds Try.pinned (OpenSpec.ofChange fnExactDoubleAtWrong)

/-- 'laws.FnExactSourceByte': WHATEVER THE INPUT: true; the input reads as it did. -/
def fnExactSourceByteSpec : ChangeSpec := { name := "fnExactSourceByte", fn := fun _ => fun
  | [d1, d2, d3] => { results := [.lit (.bool true)], args := [d1, d2, d3] }
  | _ => none }
def fnExactSourceByteRow : OpenClaim := { program := "ytglmjmkbahfgaaa", sum := "40e52ac44d8b0cbcd66d509814489bce863fd170e768aa7ca8580e3b764b0cab", func := "loop.example/g00666/laws.FnExactSourceByte", spec := "fnExactSourceByte", unfollowed := true, recurses := true, apart := false }
def FnExactSourceByteSaid : Prop := fnExactSourceByteRow.holds Try.pinned (OpenSpec.ofChange fnExactSourceByteSpec)

/-- ITS FALSE NEIGHBOUR: 'it returns false'. Refute it at one input. -/
def fnExactSourceByteWrong : ChangeSpec := { name := "fnExactSourceByte", fn := fun _ => fun
  | [d1, d2, d3] => { results := [.lit (.bool false)], args := [d1, d2, d3] }
  | _ => none }
def FnExactSourceByteWrongFalsely : Prop := fnExactSourceByteRow.holds Try.pinned (OpenSpec.ofChange fnExactSourceByteWrong)

/-- 'laws.FnLines': WHATEVER THE INPUT: true; the input reads as it did. -/
def fnLinesSpec : ChangeSpec := { name := "fnLines", fn := fun _ => fun
  | [d] => { results := [.lit (.bool true)], args := [d] }
  | _ => none }
def fnLinesRow : OpenClaim := { program := "ytglmjmkbahfgaaa", sum := "40e52ac44d8b0cbcd66d509814489bce863fd170e768aa7ca8580e3b764b0cab", func := "loop.example/g00666/laws.FnLines", spec := "fnLines", inPlace := ["internal/bytealg.IndexByteString"], recurses := true, apart := false }
def FnLinesSaid : Prop := fnLinesRow.holds Try.pinned (OpenSpec.ofChange fnLinesSpec)

/-- ITS FALSE NEIGHBOUR: 'it returns false'. Refute it at one input. -/
def fnLinesWrong : ChangeSpec := { name := "fnLines", fn := fun _ => fun
  | [d] => { results := [.lit (.bool false)], args := [d] }
  | _ => none }
def FnLinesWrongFalsely : Prop := fnLinesRow.holds Try.pinned (OpenSpec.ofChange fnLinesWrong)

/-- 'laws.FnExactSourceRun': WHATEVER THE INPUT: true; the input reads as it did. -/
def fnExactSourceRunSpec : ChangeSpec := { name := "fnExactSourceRun", fn := fun _ => fun
  | [d1, d2, d3, d4] => { results := [.lit (.bool true)], args := [d1, d2, d3, d4] }
  | _ => none }
def fnExactSourceRunRow : OpenClaim := { program := "ytglmjmkbahfgaaa", sum := "40e52ac44d8b0cbcd66d509814489bce863fd170e768aa7ca8580e3b764b0cab", func := "loop.example/g00666/laws.FnExactSourceRun", spec := "fnExactSourceRun", unfollowed := true, recurses := true, apart := false }
def FnExactSourceRunSaid : Prop := fnExactSourceRunRow.holds Try.pinned (OpenSpec.ofChange fnExactSourceRunSpec)

/-- ITS FALSE NEIGHBOUR: 'it returns false'. Refute it at one input. -/
def fnExactSourceRunWrong : ChangeSpec := { name := "fnExactSourceRun", fn := fun _ => fun
  | [d1, d2, d3, d4] => { results := [.lit (.bool false)], args := [d1, d2, d3, d4] }
  | _ => none }
def FnExactSourceRunWrongFalsely : Prop := fnExactSourceRunRow.holds Try.pinned (OpenSpec.ofChange fnExactSourceRunWrong)

/-- 'laws.FnFold': WHATEVER THE INPUT: true; the input reads as it did. -/
def fnFoldSpec : ChangeSpec := { name := "fnFold", fn := fun _ => fun
  | [d] => { results := [.lit (.bool true)], args := [d] }
  | _ => none }
def fnFoldRow : OpenClaim := { program := "ytglmjmkbahfgaaa", sum := "40e52ac44d8b0cbcd66d509814489bce863fd170e768aa7ca8580e3b764b0cab", func := "loop.example/g00666/laws.FnFold", spec := "fnFold", inPlace := ["internal/abi.NoEscape", "internal/bytealg.MakeNoZero"], apart := false }
def FnFoldSaid : Prop := fnFoldRow.holds Try.pinned (OpenSpec.ofChange fnFoldSpec)

/-- ITS FALSE NEIGHBOUR: 'it returns false'. Refute it at one input. -/
def fnFoldWrong : ChangeSpec := { name := "fnFold", fn := fun _ => fun
  | [d] => { results := [.lit (.bool false)], args := [d] }
  | _ => none }
def FnFoldWrongFalsely : Prop := fnFoldRow.holds Try.pinned (OpenSpec.ofChange fnFoldWrong)

/-- 'laws.FnExactBlockText': WHATEVER THE INPUT: true; the input reads as it did. -/
def fnExactBlockTextSpec : ChangeSpec := { name := "fnExactBlockText", fn := fun _ => fun
  | [d1, d2, d3] => { results := [.lit (.bool true)], args := [d1, d2, d3] }
  | _ => none }
def fnExactBlockTextRow : OpenClaim := { program := "ytglmjmkbahfgaaa", sum := "40e52ac44d8b0cbcd66d509814489bce863fd170e768aa7ca8580e3b764b0cab", func := "loop.example/g00666/laws.FnExactBlockText", spec := "fnExactBlockText", inPlace := ["internal/abi.NoEscape", "internal/bytealg.MakeNoZero"], apart := false }
def FnExactBlockTextSaid : Prop := fnExactBlockTextRow.holds Try.pinned (OpenSpec.ofChange fnExactBlockTextSpec)

/-- ITS FALSE NEIGHBOUR: 'it returns false'. Refute it at one input. -/
def fnExactBlockTextWrong : ChangeSpec := { name := "fnExactBlockText", fn := fun _ => fun
  | [d1, d2, d3] => { results := [.lit (.bool false)], args := [d1, d2, d3] }
  | _ => none }
def FnExactBlockTextWrongFalsely : Prop := fnExactBlockTextRow.holds Try.pinned (OpenSpec.ofChange fnExactBlockTextWrong)

/-- 'laws.FnExactEventsText': WHATEVER THE INPUT: true; the input reads as it did. -/
def fnExactEventsTextSpec : ChangeSpec := { name := "fnExactEventsText", fn := fun _ => fun
  | [d] => { results := [.lit (.bool true)], args := [d] }
  | _ => none }
def fnExactEventsTextRow : OpenClaim := { program := "ytglmjmkbahfgaaa", sum := "40e52ac44d8b0cbcd66d509814489bce863fd170e768aa7ca8580e3b764b0cab", func := "loop.example/g00666/laws.FnExactEventsText", spec := "fnExactEventsText", recurses := true, apart := false }
def FnExactEventsTextSaid : Prop := fnExactEventsTextRow.holds Try.pinned (OpenSpec.ofChange fnExactEventsTextSpec)

/-- ITS FALSE NEIGHBOUR: 'it returns false'. Refute it at one input. -/
def fnExactEventsTextWrong : ChangeSpec := { name := "fnExactEventsText", fn := fun _ => fun
  | [d] => { results := [.lit (.bool false)], args := [d] }
  | _ => none }
def FnExactEventsTextWrongFalsely : Prop := fnExactEventsTextRow.holds Try.pinned (OpenSpec.ofChange fnExactEventsTextWrong)

/-- 'laws.FnExactSingleAt': WHATEVER THE INPUT: true; the input reads as it did. -/
def fnExactSingleAtSpec : ChangeSpec := { name := "fnExactSingleAt", fn := fun _ => fun
  | [d1, d2] => { results := [.lit (.bool true)], args := [d1, d2] }
  | _ => none }
def fnExactSingleAtRow : OpenClaim := { program := "ytglmjmkbahfgaaa", sum := "40e52ac44d8b0cbcd66d509814489bce863fd170e768aa7ca8580e3b764b0cab", func := "loop.example/g00666/laws.FnExactSingleAt", spec := "fnExactSingleAt", inPlace := ["internal/abi.NoEscape", "internal/bytealg.MakeNoZero"], apart := false }
def FnExactSingleAtSaid : Prop := fnExactSingleAtRow.holds Try.pinned (OpenSpec.ofChange fnExactSingleAtSpec)

/-- ITS FALSE NEIGHBOUR: 'it returns false'. Refute it at one input. -/
def fnExactSingleAtWrong : ChangeSpec := { name := "fnExactSingleAt", fn := fun _ => fun
  | [d1, d2] => { results := [.lit (.bool false)], args := [d1, d2] }
  | _ => none }
def FnExactSingleAtWrongFalsely : Prop := fnExactSingleAtRow.holds Try.pinned (OpenSpec.ofChange fnExactSingleAtWrong)

/-- 'laws.FnLiteral': WHATEVER THE INPUT: true; the input reads as it did. -/
def fnLiteralSpec : ChangeSpec := { name := "fnLiteral", fn := fun _ => fun
  | [d] => { results := [.lit (.bool true)], args := [d] }
  | _ => none }
def fnLiteralRow : OpenClaim := { program := "ytglmjmkbahfgaaa", sum := "40e52ac44d8b0cbcd66d509814489bce863fd170e768aa7ca8580e3b764b0cab", func := "loop.example/g00666/laws.FnLiteral", spec := "fnLiteral", inPlace := ["internal/bytealg.IndexByteString", "internal/abi.NoEscape", "internal/bytealg.MakeNoZero"], apart := false }
def FnLiteralSaid : Prop := fnLiteralRow.holds Try.pinned (OpenSpec.ofChange fnLiteralSpec)

/-- ITS FALSE NEIGHBOUR: 'it returns false'. Refute it at one input. -/
def fnLiteralWrong : ChangeSpec := { name := "fnLiteral", fn := fun _ => fun
  | [d] => { results := [.lit (.bool false)], args := [d] }
  | _ => none }
def FnLiteralWrongFalsely : Prop := fnLiteralRow.holds Try.pinned (OpenSpec.ofChange fnLiteralWrong)

/- THE SECOND FORM. 'bulk': how many values and letters a reading holds, each counted each time it is reached (what is shared counts as often as it is met; a slice's spare places count too). A statement '..UptoSaid' is the law's where the arguments, and the package variables that the reading takes, are together of bulk at most 1048576: NARROWER than '..Said'. Prove '..Said' where nothing that the law and all that it calls make is longer than what came in: it says more and counts as full. Else prove '..UptoSaid'. A law counts once. -/
mutual
def uptoBulk {H : Type} : DataW H → Nat
  | .lit (.string bytes) => bytes.length + 1
  | .lit _ => 1
  | .nil => 1
  | .ptr d => uptoBulk d + 1
  | .slice elems spare => uptoBulkAll elems + uptoBulkAll spare + 1
  | .agg parts => uptoBulkAll parts + 1
  | .iface _ d => uptoBulk d + 1
  | .map entries => uptoBulkEntries entries + 1
  | .held _ => 1
def uptoBulkAll {H : Type} : List (DataW H) → Nat
  | [] => 0
  | d :: r => uptoBulk d + uptoBulkAll r
def uptoBulkEntries {H : Type} : List (Lit × DataW H) → Nat
  | [] => 0
  | x :: r => uptoBulkEntry x + uptoBulkEntries r
def uptoBulkEntry {H : Type} : Lit × DataW H → Nat
  | (.string bytes, d) => bytes.length + uptoBulk d + 1
  | (_, d) => uptoBulk d + 1
 end
def uptoSmall : (H : Type) → List (DataW H) → Bool := fun _ ds => decide (uptoBulkAll ds ≤ 1048576)
def OpenSpec.upto (s : _root_.Go.ChangeSpec) : _root_.Go.OpenSpec := { _root_.Go.OpenSpec.ofChange s with cond := some uptoSmall }

/-- 'laws.FnExactPlainAt', WHERE WHAT IT READS IS OF BULK AT MOST 1048576: true; the input reads as it did. -/
def fnExactPlainAtUptoRow : OpenClaim := { program := "ytglmjmkbahfgaaa", sum := "40e52ac44d8b0cbcd66d509814489bce863fd170e768aa7ca8580e3b764b0cab", func := "loop.example/g00666/laws.FnExactPlainAt", spec := "fnExactPlainAt", inPlace := ["internal/bytealg.IndexByteString", "internal/abi.NoEscape", "internal/bytealg.MakeNoZero"], apart := false, narrowed := true }
def FnExactPlainAtUptoSaid : Prop := fnExactPlainAtUptoRow.holds Try.pinned (OpenSpec.upto fnExactPlainAtSpec)

/-- 'laws.FnExactDoubleAt', WHERE WHAT IT READS IS OF BULK AT MOST 1048576: true; the input reads as it did. -/
def fnExactDoubleAtUptoRow : OpenClaim := { program := "ytglmjmkbahfgaaa", sum := "40e52ac44d8b0cbcd66d509814489bce863fd170e768aa7ca8580e3b764b0cab", func := "loop.example/g00666/laws.FnExactDoubleAt", spec := "fnExactDoubleAt", inPlace := ["internal/abi.NoEscape", "internal/bytealg.MakeNoZero"], apart := false, narrowed := true }
def FnExactDoubleAtUptoSaid : Prop := fnExactDoubleAtUptoRow.holds Try.pinned (OpenSpec.upto fnExactDoubleAtSpec)

/-- 'laws.FnExactSourceByte', WHERE WHAT IT READS IS OF BULK AT MOST 1048576: true; the input reads as it did. -/
def fnExactSourceByteUptoRow : OpenClaim := { program := "ytglmjmkbahfgaaa", sum := "40e52ac44d8b0cbcd66d509814489bce863fd170e768aa7ca8580e3b764b0cab", func := "loop.example/g00666/laws.FnExactSourceByte", spec := "fnExactSourceByte", unfollowed := true, recurses := true, apart := false, narrowed := true }
def FnExactSourceByteUptoSaid : Prop := fnExactSourceByteUptoRow.holds Try.pinned (OpenSpec.upto fnExactSourceByteSpec)

/-- 'laws.FnLines', WHERE WHAT IT READS IS OF BULK AT MOST 1048576: true; the input reads as it did. -/
def fnLinesUptoRow : OpenClaim := { program := "ytglmjmkbahfgaaa", sum := "40e52ac44d8b0cbcd66d509814489bce863fd170e768aa7ca8580e3b764b0cab", func := "loop.example/g00666/laws.FnLines", spec := "fnLines", inPlace := ["internal/bytealg.IndexByteString"], recurses := true, apart := false, narrowed := true }
def FnLinesUptoSaid : Prop := fnLinesUptoRow.holds Try.pinned (OpenSpec.upto fnLinesSpec)

/-- 'laws.FnExactSourceRun', WHERE WHAT IT READS IS OF BULK AT MOST 1048576: true; the input reads as it did. -/
def fnExactSourceRunUptoRow : OpenClaim := { program := "ytglmjmkbahfgaaa", sum := "40e52ac44d8b0cbcd66d509814489bce863fd170e768aa7ca8580e3b764b0cab", func := "loop.example/g00666/laws.FnExactSourceRun", spec := "fnExactSourceRun", unfollowed := true, recurses := true, apart := false, narrowed := true }
def FnExactSourceRunUptoSaid : Prop := fnExactSourceRunUptoRow.holds Try.pinned (OpenSpec.upto fnExactSourceRunSpec)

/-- 'laws.FnFold', WHERE WHAT IT READS IS OF BULK AT MOST 1048576: true; the input reads as it did. -/
def fnFoldUptoRow : OpenClaim := { program := "ytglmjmkbahfgaaa", sum := "40e52ac44d8b0cbcd66d509814489bce863fd170e768aa7ca8580e3b764b0cab", func := "loop.example/g00666/laws.FnFold", spec := "fnFold", inPlace := ["internal/abi.NoEscape", "internal/bytealg.MakeNoZero"], apart := false, narrowed := true }
def FnFoldUptoSaid : Prop := fnFoldUptoRow.holds Try.pinned (OpenSpec.upto fnFoldSpec)

/-- 'laws.FnExactBlockText', WHERE WHAT IT READS IS OF BULK AT MOST 1048576: true; the input reads as it did. -/
def fnExactBlockTextUptoRow : OpenClaim := { program := "ytglmjmkbahfgaaa", sum := "40e52ac44d8b0cbcd66d509814489bce863fd170e768aa7ca8580e3b764b0cab", func := "loop.example/g00666/laws.FnExactBlockText", spec := "fnExactBlockText", inPlace := ["internal/abi.NoEscape", "internal/bytealg.MakeNoZero"], apart := false, narrowed := true }
def FnExactBlockTextUptoSaid : Prop := fnExactBlockTextUptoRow.holds Try.pinned (OpenSpec.upto fnExactBlockTextSpec)

/-- 'laws.FnExactEventsText', WHERE WHAT IT READS IS OF BULK AT MOST 1048576: true; the input reads as it did. -/
def fnExactEventsTextUptoRow : OpenClaim := { program := "ytglmjmkbahfgaaa", sum := "40e52ac44d8b0cbcd66d509814489bce863fd170e768aa7ca8580e3b764b0cab", func := "loop.example/g00666/laws.FnExactEventsText", spec := "fnExactEventsText", recurses := true, apart := false, narrowed := true }
def FnExactEventsTextUptoSaid : Prop := fnExactEventsTextUptoRow.holds Try.pinned (OpenSpec.upto fnExactEventsTextSpec)

/-- 'laws.FnExactSingleAt', WHERE WHAT IT READS IS OF BULK AT MOST 1048576: true; the input reads as it did. -/
def fnExactSingleAtUptoRow : OpenClaim := { program := "ytglmjmkbahfgaaa", sum := "40e52ac44d8b0cbcd66d509814489bce863fd170e768aa7ca8580e3b764b0cab", func := "loop.example/g00666/laws.FnExactSingleAt", spec := "fnExactSingleAt", inPlace := ["internal/abi.NoEscape", "internal/bytealg.MakeNoZero"], apart := false, narrowed := true }
def FnExactSingleAtUptoSaid : Prop := fnExactSingleAtUptoRow.holds Try.pinned (OpenSpec.upto fnExactSingleAtSpec)

/-- 'laws.FnLiteral', WHERE WHAT IT READS IS OF BULK AT MOST 1048576: true; the input reads as it did. -/
def fnLiteralUptoRow : OpenClaim := { program := "ytglmjmkbahfgaaa", sum := "40e52ac44d8b0cbcd66d509814489bce863fd170e768aa7ca8580e3b764b0cab", func := "loop.example/g00666/laws.FnLiteral", spec := "fnLiteral", inPlace := ["internal/bytealg.IndexByteString", "internal/abi.NoEscape", "internal/bytealg.MakeNoZero"], apart := false, narrowed := true }
def FnLiteralUptoSaid : Prop := fnLiteralUptoRow.holds Try.pinned (OpenSpec.upto fnLiteralSpec)

end Rows
end Go.Proofs.Ytglmjmkbahfgaaa
