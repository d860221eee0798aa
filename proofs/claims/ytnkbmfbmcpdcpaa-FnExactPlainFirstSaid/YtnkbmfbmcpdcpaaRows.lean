/-
  No cell of these rows narrows 'for every input' (looked for: loops, veiled, ifaces, maps, wideKeys, modest, calm, conditions, laid).
  DERIVED. THE GIVEN ROWS OF THIS SEAT. 10 by the template 'for every input the law returns true; each argument reads behind the call as it read before'; 0 by the template 'total and deterministic' (their statements: YtnkbmfbmcpdcpaaTotals.lean).
  GIVEN WITH THE SEED: the statements are not yours to turn. If you find one false, say at which input.
  Laid BY PROGRAM, IN A SANDBOX (cutbox-rows.mjs): the forced cells as the released guide's own fill.sh prints them over the translation c490690331a05549… (all of the seat's roots in one cut). By AI agents, Wed Nov 11 2026. No macro, syntax, notation, axiom, sorry.
-/
import Derived.Test.YtnkbmfbmcpdcpaaChecked
import GoSem.Claim
import GoSem.ClaimJoined
import GoSem.ClaimMapViews
import Derived.JoinedTies
import Derived.KernelRfl
namespace Go.Proofs.Ytnkbmfbmcpdcpaa
/- THE CELL 'sum', in the pinned program and in every row, IS THE sha256 OF THE DUMP (.gsa) THAT YtnkbmfbmcpdcpaaProg.lean LOADS. Nothing in Lean hashes anything: it is a label: what it is worth is what the hold of that sum in a sandbox is worth. -/
noncomputable def Try.pinned : Pinned := { name := "ytnkbmfbmcpdcpaa", sum := "c490690331a055497dd48dcf9287398d100bfaccfc69edf64423c8ff90a40a1d", checked := Try.checked }
namespace Rows
def none {H : Type} : Left H := { results := [], args := [] }

/-- 'laws.FnExactLone': WHATEVER THE INPUT: true; the input reads as it did. -/
def fnExactLoneSpec : ChangeSpec := { name := "fnExactLone", fn := fun _ => fun
  | [d1, d2] => { results := [.lit (.bool true)], args := [d1, d2] }
  | _ => none }
def fnExactLoneRow : OpenClaim := { program := "ytnkbmfbmcpdcpaa", sum := "c490690331a055497dd48dcf9287398d100bfaccfc69edf64423c8ff90a40a1d", func := "loop.example/g00666/laws.FnExactLone", spec := "fnExactLone", apart := false }
def FnExactLoneSaid : Prop := fnExactLoneRow.holds Try.pinned (OpenSpec.ofChange fnExactLoneSpec)

/-- ITS FALSE NEIGHBOUR: 'it returns false'. Refute it at one input. -/
def fnExactLoneWrong : ChangeSpec := { name := "fnExactLone", fn := fun _ => fun
  | [d1, d2] => { results := [.lit (.bool false)], args := [d1, d2] }
  | _ => none }
def FnExactLoneWrongFalsely : Prop := fnExactLoneRow.holds Try.pinned (OpenSpec.ofChange fnExactLoneWrong)

/-- 'laws.FnExactPlainFirst': WHATEVER THE INPUT: true; the input reads as it did. -/
def fnExactPlainFirstSpec : ChangeSpec := { name := "fnExactPlainFirst", fn := fun _ => fun
  | [d1, d2, d3] => { results := [.lit (.bool true)], args := [d1, d2, d3] }
  | _ => none }
def fnExactPlainFirstRow : OpenClaim := { program := "ytnkbmfbmcpdcpaa", sum := "c490690331a055497dd48dcf9287398d100bfaccfc69edf64423c8ff90a40a1d", func := "loop.example/g00666/laws.FnExactPlainFirst", spec := "fnExactPlainFirst", inPlace := ["internal/bytealg.IndexByteString"], apart := false }
def FnExactPlainFirstSaid : Prop := fnExactPlainFirstRow.holds Try.pinned (OpenSpec.ofChange fnExactPlainFirstSpec)

/-- ITS FALSE NEIGHBOUR: 'it returns false'. Refute it at one input. -/
def fnExactPlainFirstWrong : ChangeSpec := { name := "fnExactPlainFirst", fn := fun _ => fun
  | [d1, d2, d3] => { results := [.lit (.bool false)], args := [d1, d2, d3] }
  | _ => none }
def FnExactPlainFirstWrongFalsely : Prop := fnExactPlainFirstRow.holds Try.pinned (OpenSpec.ofChange fnExactPlainFirstWrong)

/-- 'laws.FnExactPlainEnd': WHATEVER THE INPUT: true; the input reads as it did. -/
def fnExactPlainEndSpec : ChangeSpec := { name := "fnExactPlainEnd", fn := fun _ => fun
  | [d1, d2, d3] => { results := [.lit (.bool true)], args := [d1, d2, d3] }
  | _ => none }
def fnExactPlainEndRow : OpenClaim := { program := "ytnkbmfbmcpdcpaa", sum := "c490690331a055497dd48dcf9287398d100bfaccfc69edf64423c8ff90a40a1d", func := "loop.example/g00666/laws.FnExactPlainEnd", spec := "fnExactPlainEnd", apart := false }
def FnExactPlainEndSaid : Prop := fnExactPlainEndRow.holds Try.pinned (OpenSpec.ofChange fnExactPlainEndSpec)

/-- ITS FALSE NEIGHBOUR: 'it returns false'. Refute it at one input. -/
def fnExactPlainEndWrong : ChangeSpec := { name := "fnExactPlainEnd", fn := fun _ => fun
  | [d1, d2, d3] => { results := [.lit (.bool false)], args := [d1, d2, d3] }
  | _ => none }
def FnExactPlainEndWrongFalsely : Prop := fnExactPlainEndRow.holds Try.pinned (OpenSpec.ofChange fnExactPlainEndWrong)

/-- 'laws.FnExactNameAt': WHATEVER THE INPUT: true; the input reads as it did. -/
def fnExactNameAtSpec : ChangeSpec := { name := "fnExactNameAt", fn := fun _ => fun
  | [d1, d2] => { results := [.lit (.bool true)], args := [d1, d2] }
  | _ => none }
def fnExactNameAtRow : OpenClaim := { program := "ytnkbmfbmcpdcpaa", sum := "c490690331a055497dd48dcf9287398d100bfaccfc69edf64423c8ff90a40a1d", func := "loop.example/g00666/laws.FnExactNameAt", spec := "fnExactNameAt", apart := false }
def FnExactNameAtSaid : Prop := fnExactNameAtRow.holds Try.pinned (OpenSpec.ofChange fnExactNameAtSpec)

/-- ITS FALSE NEIGHBOUR: 'it returns false'. Refute it at one input. -/
def fnExactNameAtWrong : ChangeSpec := { name := "fnExactNameAt", fn := fun _ => fun
  | [d1, d2] => { results := [.lit (.bool false)], args := [d1, d2] }
  | _ => none }
def FnExactNameAtWrongFalsely : Prop := fnExactNameAtRow.holds Try.pinned (OpenSpec.ofChange fnExactNameAtWrong)

/-- 'laws.FnExactHandleOk': WHATEVER THE INPUT: true; the input reads as it did. -/
def fnExactHandleOkSpec : ChangeSpec := { name := "fnExactHandleOk", fn := fun _ => fun
  | [d] => { results := [.lit (.bool true)], args := [d] }
  | _ => none }
def fnExactHandleOkRow : OpenClaim := { program := "ytnkbmfbmcpdcpaa", sum := "c490690331a055497dd48dcf9287398d100bfaccfc69edf64423c8ff90a40a1d", func := "loop.example/g00666/laws.FnExactHandleOk", spec := "fnExactHandleOk", apart := false }
def FnExactHandleOkSaid : Prop := fnExactHandleOkRow.holds Try.pinned (OpenSpec.ofChange fnExactHandleOkSpec)

/-- ITS FALSE NEIGHBOUR: 'it returns false'. Refute it at one input. -/
def fnExactHandleOkWrong : ChangeSpec := { name := "fnExactHandleOk", fn := fun _ => fun
  | [d] => { results := [.lit (.bool false)], args := [d] }
  | _ => none }
def FnExactHandleOkWrongFalsely : Prop := fnExactHandleOkRow.holds Try.pinned (OpenSpec.ofChange fnExactHandleOkWrong)

/-- 'laws.FnExactMarkAt': WHATEVER THE INPUT: true; the input reads as it did. -/
def fnExactMarkAtSpec : ChangeSpec := { name := "fnExactMarkAt", fn := fun _ => fun
  | [d1, d2] => { results := [.lit (.bool true)], args := [d1, d2] }
  | _ => none }
def fnExactMarkAtRow : OpenClaim := { program := "ytnkbmfbmcpdcpaa", sum := "c490690331a055497dd48dcf9287398d100bfaccfc69edf64423c8ff90a40a1d", func := "loop.example/g00666/laws.FnExactMarkAt", spec := "fnExactMarkAt", apart := false }
def FnExactMarkAtSaid : Prop := fnExactMarkAtRow.holds Try.pinned (OpenSpec.ofChange fnExactMarkAtSpec)

/-- ITS FALSE NEIGHBOUR: 'it returns false'. Refute it at one input. -/
def fnExactMarkAtWrong : ChangeSpec := { name := "fnExactMarkAt", fn := fun _ => fun
  | [d1, d2] => { results := [.lit (.bool false)], args := [d1, d2] }
  | _ => none }
def FnExactMarkAtWrongFalsely : Prop := fnExactMarkAtRow.holds Try.pinned (OpenSpec.ofChange fnExactMarkAtWrong)

/-- 'laws.FnExactTagAt': WHATEVER THE INPUT: true; the input reads as it did. -/
def fnExactTagAtSpec : ChangeSpec := { name := "fnExactTagAt", fn := fun _ => fun
  | [d1, d2] => { results := [.lit (.bool true)], args := [d1, d2] }
  | _ => none }
def fnExactTagAtRow : OpenClaim := { program := "ytnkbmfbmcpdcpaa", sum := "c490690331a055497dd48dcf9287398d100bfaccfc69edf64423c8ff90a40a1d", func := "loop.example/g00666/laws.FnExactTagAt", spec := "fnExactTagAt", apart := false }
def FnExactTagAtSaid : Prop := fnExactTagAtRow.holds Try.pinned (OpenSpec.ofChange fnExactTagAtSpec)

/-- ITS FALSE NEIGHBOUR: 'it returns false'. Refute it at one input. -/
def fnExactTagAtWrong : ChangeSpec := { name := "fnExactTagAt", fn := fun _ => fun
  | [d1, d2] => { results := [.lit (.bool false)], args := [d1, d2] }
  | _ => none }
def FnExactTagAtWrongFalsely : Prop := fnExactTagAtRow.holds Try.pinned (OpenSpec.ofChange fnExactTagAtWrong)

/-- 'laws.FnExactRest': WHATEVER THE INPUT: true; the input reads as it did. -/
def fnExactRestSpec : ChangeSpec := { name := "fnExactRest", fn := fun _ => fun
  | [d1, d2] => { results := [.lit (.bool true)], args := [d1, d2] }
  | _ => none }
def fnExactRestRow : OpenClaim := { program := "ytnkbmfbmcpdcpaa", sum := "c490690331a055497dd48dcf9287398d100bfaccfc69edf64423c8ff90a40a1d", func := "loop.example/g00666/laws.FnExactRest", spec := "fnExactRest", inPlace := ["internal/bytealg.IndexByteString"], apart := false }
def FnExactRestSaid : Prop := fnExactRestRow.holds Try.pinned (OpenSpec.ofChange fnExactRestSpec)

/-- ITS FALSE NEIGHBOUR: 'it returns false'. Refute it at one input. -/
def fnExactRestWrong : ChangeSpec := { name := "fnExactRest", fn := fun _ => fun
  | [d1, d2] => { results := [.lit (.bool false)], args := [d1, d2] }
  | _ => none }
def FnExactRestWrongFalsely : Prop := fnExactRestRow.holds Try.pinned (OpenSpec.ofChange fnExactRestWrong)

/-- 'laws.FnExactGap': WHATEVER THE INPUT: true; the input reads as it did. -/
def fnExactGapSpec : ChangeSpec := { name := "fnExactGap", fn := fun _ => fun
  | [d1, d2] => { results := [.lit (.bool true)], args := [d1, d2] }
  | _ => none }
def fnExactGapRow : OpenClaim := { program := "ytnkbmfbmcpdcpaa", sum := "c490690331a055497dd48dcf9287398d100bfaccfc69edf64423c8ff90a40a1d", func := "loop.example/g00666/laws.FnExactGap", spec := "fnExactGap", inPlace := ["internal/bytealg.IndexByteString"], apart := false }
def FnExactGapSaid : Prop := fnExactGapRow.holds Try.pinned (OpenSpec.ofChange fnExactGapSpec)

/-- ITS FALSE NEIGHBOUR: 'it returns false'. Refute it at one input. -/
def fnExactGapWrong : ChangeSpec := { name := "fnExactGap", fn := fun _ => fun
  | [d1, d2] => { results := [.lit (.bool false)], args := [d1, d2] }
  | _ => none }
def FnExactGapWrongFalsely : Prop := fnExactGapRow.holds Try.pinned (OpenSpec.ofChange fnExactGapWrong)

/-- 'laws.FnExactEventOk': WHATEVER THE INPUT: true; the input reads as it did. -/
def fnExactEventOkSpec : ChangeSpec := { name := "fnExactEventOk", fn := fun _ => fun
  | [d] => { results := [.lit (.bool true)], args := [d] }
  | _ => none }
def fnExactEventOkRow : OpenClaim := { program := "ytnkbmfbmcpdcpaa", sum := "c490690331a055497dd48dcf9287398d100bfaccfc69edf64423c8ff90a40a1d", func := "loop.example/g00666/laws.FnExactEventOk", spec := "fnExactEventOk", apart := false }
def FnExactEventOkSaid : Prop := fnExactEventOkRow.holds Try.pinned (OpenSpec.ofChange fnExactEventOkSpec)

/-- ITS FALSE NEIGHBOUR: 'it returns false'. Refute it at one input. -/
def fnExactEventOkWrong : ChangeSpec := { name := "fnExactEventOk", fn := fun _ => fun
  | [d] => { results := [.lit (.bool false)], args := [d] }
  | _ => none }
def FnExactEventOkWrongFalsely : Prop := fnExactEventOkRow.holds Try.pinned (OpenSpec.ofChange fnExactEventOkWrong)

/- THE SECOND FORM. 'bulk': how many values and letters a reading holds, each counted each time it is reached (what is shared counts as often as it is met; a slice's spare places count too). A statement '..UptoSaid' is the law's where the arguments, and the package variables that the reading takes, are together of bulk at most 1048576: NARROWER than '..Said'. Prove '..Said' where nothing that the law and all that it calls make is longer than what came in: it says more and counts as full. Else prove '..UptoSaid'. A law counts once. -/
mutual
def uptoBulk {H : Type} : DataW H → Nat
  | .lit (.string bytes) => bytes.length + 1
  | .lit _ => 1
  | .nil => 1
  | .ptr d => uptoBulk d + 1
  | .slice elems spare => uptoBulkAll elems + uptoBulkAll spare + 1
  | .agg parts => uptoBulkAll parts + 1
  | .iface _ d => uptoBulk d + 1
  | .map entries => uptoBulkEntries entries + 1
  | .held _ => 1
def uptoBulkAll {H : Type} : List (DataW H) → Nat
  | [] => 0
  | d :: r => uptoBulk d + uptoBulkAll r
def uptoBulkEntries {H : Type} : List (Lit × DataW H) → Nat
  | [] => 0
  | x :: r => uptoBulkEntry x + uptoBulkEntries r
def uptoBulkEntry {H : Type} : Lit × DataW H → Nat
  | (.string bytes, d) => bytes.length + uptoBulk d + 1
  | (_, d) => uptoBulk d + 1
 end
def uptoSmall : (H : Type) → List (DataW H) → Bool := fun _ ds => decide (uptoBulkAll ds ≤ 1048576)
def OpenSpec.upto (s : _root_.Go.ChangeSpec) : _root_.Go.OpenSpec := { _root_.Go.OpenSpec.ofChange s with cond := some uptoSmall }

/-- 'laws.FnExactLone', WHERE WHAT IT READS IS OF BULK AT MOST 1048576: true; the input reads as it did. -/
def fnExactLoneUptoRow : OpenClaim := { program := "ytnkbmfbmcpdcpaa", sum := "c490690331a055497dd48dcf9287398d100bfaccfc69edf64423c8ff90a40a1d", func := "loop.example/g00666/laws.FnExactLone", spec := "fnExactLone", apart := false, narrowed := true }
def FnExactLoneUptoSaid : Prop := fnExactLoneUptoRow.holds Try.pinned (OpenSpec.upto fnExactLoneSpec)

/-- 'laws.FnExactPlainFirst', WHERE WHAT IT READS IS OF BULK AT MOST 1048576: true; the input reads as it did. -/
def fnExactPlainFirstUptoRow : OpenClaim := { program := "ytnkbmfbmcpdcpaa", sum := "c490690331a055497dd48dcf9287398d100bfaccfc69edf64423c8ff90a40a1d", func := "loop.example/g00666/laws.FnExactPlainFirst", spec := "fnExactPlainFirst", inPlace := ["internal/bytealg.IndexByteString"], apart := false, narrowed := true }
def FnExactPlainFirstUptoSaid : Prop := fnExactPlainFirstUptoRow.holds Try.pinned (OpenSpec.upto fnExactPlainFirstSpec)

/-- 'laws.FnExactPlainEnd', WHERE WHAT IT READS IS OF BULK AT MOST 1048576: true; the input reads as it did. -/
def fnExactPlainEndUptoRow : OpenClaim := { program := "ytnkbmfbmcpdcpaa", sum := "c490690331a055497dd48dcf9287398d100bfaccfc69edf64423c8ff90a40a1d", func := "loop.example/g00666/laws.FnExactPlainEnd", spec := "fnExactPlainEnd", apart := false, narrowed := true }
def FnExactPlainEndUptoSaid : Prop := fnExactPlainEndUptoRow.holds Try.pinned (OpenSpec.upto fnExactPlainEndSpec)

/-- 'laws.FnExactNameAt', WHERE WHAT IT READS IS OF BULK AT MOST 1048576: true; the input reads as it did. -/
def fnExactNameAtUptoRow : OpenClaim := { program := "ytnkbmfbmcpdcpaa", sum := "c490690331a055497dd48dcf9287398d100bfaccfc69edf64423c8ff90a40a1d", func := "loop.example/g00666/laws.FnExactNameAt", spec := "fnExactNameAt", apart := false, narrowed := true }
def FnExactNameAtUptoSaid : Prop := fnExactNameAtUptoRow.holds Try.pinned (OpenSpec.upto fnExactNameAtSpec)

/-- 'laws.FnExactHandleOk', WHERE WHAT IT READS IS OF BULK AT MOST 1048576: true; the input reads as it did. -/
def fnExactHandleOkUptoRow : OpenClaim := { program := "ytnkbmfbmcpdcpaa", sum := "c490690331a055497dd48dcf9287398d100bfaccfc69edf64423c8ff90a40a1d", func := "loop.example/g00666/laws.FnExactHandleOk", spec := "fnExactHandleOk", apart := false, narrowed := true }
def FnExactHandleOkUptoSaid : Prop := fnExactHandleOkUptoRow.holds Try.pinned (OpenSpec.upto fnExactHandleOkSpec)

/-- 'laws.FnExactMarkAt', WHERE WHAT IT READS IS OF BULK AT MOST 1048576: true; the input reads as it did. -/
def fnExactMarkAtUptoRow : OpenClaim := { program := "ytnkbmfbmcpdcpaa", sum := "c490690331a055497dd48dcf9287398d100bfaccfc69edf64423c8ff90a40a1d", func := "loop.example/g00666/laws.FnExactMarkAt", spec := "fnExactMarkAt", apart := false, narrowed := true }
def FnExactMarkAtUptoSaid : Prop := fnExactMarkAtUptoRow.holds Try.pinned (OpenSpec.upto fnExactMarkAtSpec)

/-- 'laws.FnExactTagAt', WHERE WHAT IT READS IS OF BULK AT MOST 1048576: true; the input reads as it did. -/
def fnExactTagAtUptoRow : OpenClaim := { program := "ytnkbmfbmcpdcpaa", sum := "c490690331a055497dd48dcf9287398d100bfaccfc69edf64423c8ff90a40a1d", func := "loop.example/g00666/laws.FnExactTagAt", spec := "fnExactTagAt", apart := false, narrowed := true }
def FnExactTagAtUptoSaid : Prop := fnExactTagAtUptoRow.holds Try.pinned (OpenSpec.upto fnExactTagAtSpec)

/-- 'laws.FnExactRest', WHERE WHAT IT READS IS OF BULK AT MOST 1048576: true; the input reads as it did. -/
def fnExactRestUptoRow : OpenClaim := { program := "ytnkbmfbmcpdcpaa", sum := "c490690331a055497dd48dcf9287398d100bfaccfc69edf64423c8ff90a40a1d", func := "loop.example/g00666/laws.FnExactRest", spec := "fnExactRest", inPlace := ["internal/bytealg.IndexByteString"], apart := false, narrowed := true }
def FnExactRestUptoSaid : Prop := fnExactRestUptoRow.holds Try.pinned (OpenSpec.upto fnExactRestSpec)

/-- 'laws.FnExactGap', WHERE WHAT IT READS IS OF BULK AT MOST 1048576: true; the input reads as it did. -/
def fnExactGapUptoRow : OpenClaim := { program := "ytnkbmfbmcpdcpaa", sum := "c490690331a055497dd48dcf9287398d100bfaccfc69edf64423c8ff90a40a1d", func := "loop.example/g00666/laws.FnExactGap", spec := "fnExactGap", inPlace := ["internal/bytealg.IndexByteString"], apart := false, narrowed := true }
def FnExactGapUptoSaid : Prop := fnExactGapUptoRow.holds Try.pinned (OpenSpec.upto fnExactGapSpec)

/-- 'laws.FnExactEventOk', WHERE WHAT IT READS IS OF BULK AT MOST 1048576: true; the input reads as it did. -/
def fnExactEventOkUptoRow : OpenClaim := { program := "ytnkbmfbmcpdcpaa", sum := "c490690331a055497dd48dcf9287398d100bfaccfc69edf64423c8ff90a40a1d", func := "loop.example/g00666/laws.FnExactEventOk", spec := "fnExactEventOk", apart := false, narrowed := true }
def FnExactEventOkUptoSaid : Prop := fnExactEventOkUptoRow.holds Try.pinned (OpenSpec.upto fnExactEventOkSpec)

end Rows
end Go.Proofs.Ytnkbmfbmcpdcpaa
