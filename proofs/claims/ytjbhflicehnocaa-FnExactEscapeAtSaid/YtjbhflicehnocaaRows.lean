/-
  No cell of these rows narrows 'for every input' (looked for: loops, veiled, ifaces, maps, wideKeys, modest, calm, conditions, laid).
  DERIVED. THE GIVEN ROWS OF THIS SEAT. 10 by the template 'for every input the law returns true; each argument reads behind the call as it read before'; 0 by the template 'total and deterministic' (their statements: YtjbhflicehnocaaTotals.lean).
  GIVEN WITH THE SEED: the statements are not yours to turn. If you find one false, say at which input.
  Laid BY PROGRAM, IN A SANDBOX (cutbox-rows.mjs): the forced cells as the released guide's own fill.sh prints them over the translation d2fd4ccdad16a6fe… (all of the seat's roots in one cut). By AI agents, Wed Nov 11 2026. No macro, syntax, notation, axiom, sorry.
-/
import Derived.Test.YtjbhflicehnocaaChecked
import GoSem.Claim
import GoSem.ClaimJoined
import GoSem.ClaimMapViews
import Derived.JoinedTies
import Derived.KernelRfl
namespace Go.Proofs.Ytjbhflicehnocaa
/- THE CELL 'sum', in the pinned program and in every row, IS THE sha256 OF THE DUMP (.gsa) THAT YtjbhflicehnocaaProg.lean LOADS. Nothing in Lean hashes anything: it is a label: what it is worth is what the hold of that sum in a sandbox is worth. -/
noncomputable def Try.pinned : Pinned := { name := "ytjbhflicehnocaa", sum := "d2fd4ccdad16a6fea87c31817141fc2cf5645e385442cdbf26c501b9f92a057f", checked := Try.checked }
namespace Rows
def none {H : Type} : Left H := { results := [], args := [] }

/-- 'laws.FnExactSourceNew': WHATEVER THE INPUT: true; the input reads as it did. -/
def fnExactSourceNewSpec : ChangeSpec := { name := "fnExactSourceNew", fn := fun _ => fun
  | [d] => { results := [.lit (.bool true)], args := [d] }
  | _ => none }
def fnExactSourceNewRow : OpenClaim := { program := "ytjbhflicehnocaa", sum := "d2fd4ccdad16a6fea87c31817141fc2cf5645e385442cdbf26c501b9f92a057f", func := "loop.example/g00666/laws.FnExactSourceNew", spec := "fnExactSourceNew", unfollowed := true, recurses := true, apart := false }
def FnExactSourceNewSaid : Prop := fnExactSourceNewRow.holds Try.pinned (OpenSpec.ofChange fnExactSourceNewSpec)

/-- ITS FALSE NEIGHBOUR: 'it returns false'. Refute it at one input. -/
def fnExactSourceNewWrong : ChangeSpec := { name := "fnExactSourceNew", fn := fun _ => fun
  | [d] => { results := [.lit (.bool false)], args := [d] }
  | _ => none }
def FnExactSourceNewWrongFalsely : Prop := fnExactSourceNewRow.holds Try.pinned (OpenSpec.ofChange fnExactSourceNewWrong)

/-- 'laws.FnSource': WHATEVER THE INPUT: true; the input reads as it did. -/
def fnSourceSpec : ChangeSpec := { name := "fnSource", fn := fun _ => fun
  | [d] => { results := [.lit (.bool true)], args := [d] }
  | _ => none }
def fnSourceRow : OpenClaim := { program := "ytjbhflicehnocaa", sum := "d2fd4ccdad16a6fea87c31817141fc2cf5645e385442cdbf26c501b9f92a057f", func := "loop.example/g00666/laws.FnSource", spec := "fnSource", unfollowed := true, recurses := true, apart := false }
def FnSourceSaid : Prop := fnSourceRow.holds Try.pinned (OpenSpec.ofChange fnSourceSpec)

/-- ITS FALSE NEIGHBOUR: 'it returns false'. Refute it at one input. -/
def fnSourceWrong : ChangeSpec := { name := "fnSource", fn := fun _ => fun
  | [d] => { results := [.lit (.bool false)], args := [d] }
  | _ => none }
def FnSourceWrongFalsely : Prop := fnSourceRow.holds Try.pinned (OpenSpec.ofChange fnSourceWrong)

/-- 'laws.FnExactSourceOk': WHATEVER THE INPUT: true; the input reads as it did. -/
def fnExactSourceOkSpec : ChangeSpec := { name := "fnExactSourceOk", fn := fun _ => fun
  | [d] => { results := [.lit (.bool true)], args := [d] }
  | _ => none }
def fnExactSourceOkRow : OpenClaim := { program := "ytjbhflicehnocaa", sum := "d2fd4ccdad16a6fea87c31817141fc2cf5645e385442cdbf26c501b9f92a057f", func := "loop.example/g00666/laws.FnExactSourceOk", spec := "fnExactSourceOk", unfollowed := true, recurses := true, apart := false }
def FnExactSourceOkSaid : Prop := fnExactSourceOkRow.holds Try.pinned (OpenSpec.ofChange fnExactSourceOkSpec)

/-- ITS FALSE NEIGHBOUR: 'it returns false'. Refute it at one input. -/
def fnExactSourceOkWrong : ChangeSpec := { name := "fnExactSourceOk", fn := fun _ => fun
  | [d] => { results := [.lit (.bool false)], args := [d] }
  | _ => none }
def FnExactSourceOkWrongFalsely : Prop := fnExactSourceOkRow.holds Try.pinned (OpenSpec.ofChange fnExactSourceOkWrong)

/-- 'laws.FnTag': WHATEVER THE INPUT: true; the input reads as it did. -/
def fnTagSpec : ChangeSpec := { name := "fnTag", fn := fun _ => fun
  | [d] => { results := [.lit (.bool true)], args := [d] }
  | _ => none }
def fnTagRow : OpenClaim := { program := "ytjbhflicehnocaa", sum := "d2fd4ccdad16a6fea87c31817141fc2cf5645e385442cdbf26c501b9f92a057f", func := "loop.example/g00666/laws.FnTag", spec := "fnTag", apart := false }
def FnTagSaid : Prop := fnTagRow.holds Try.pinned (OpenSpec.ofChange fnTagSpec)

/-- ITS FALSE NEIGHBOUR: 'it returns false'. Refute it at one input. -/
def fnTagWrong : ChangeSpec := { name := "fnTag", fn := fun _ => fun
  | [d] => { results := [.lit (.bool false)], args := [d] }
  | _ => none }
def FnTagWrongFalsely : Prop := fnTagRow.holds Try.pinned (OpenSpec.ofChange fnTagWrong)

/-- 'laws.FnExactHeadAt': WHATEVER THE INPUT: true; the input reads as it did. -/
def fnExactHeadAtSpec : ChangeSpec := { name := "fnExactHeadAt", fn := fun _ => fun
  | [d1, d2] => { results := [.lit (.bool true)], args := [d1, d2] }
  | _ => none }
def fnExactHeadAtRow : OpenClaim := { program := "ytjbhflicehnocaa", sum := "d2fd4ccdad16a6fea87c31817141fc2cf5645e385442cdbf26c501b9f92a057f", func := "loop.example/g00666/laws.FnExactHeadAt", spec := "fnExactHeadAt", inPlace := ["internal/bytealg.IndexByteString"], apart := false }
def FnExactHeadAtSaid : Prop := fnExactHeadAtRow.holds Try.pinned (OpenSpec.ofChange fnExactHeadAtSpec)

/-- ITS FALSE NEIGHBOUR: 'it returns false'. Refute it at one input. -/
def fnExactHeadAtWrong : ChangeSpec := { name := "fnExactHeadAt", fn := fun _ => fun
  | [d1, d2] => { results := [.lit (.bool false)], args := [d1, d2] }
  | _ => none }
def FnExactHeadAtWrongFalsely : Prop := fnExactHeadAtRow.holds Try.pinned (OpenSpec.ofChange fnExactHeadAtWrong)

/-- 'laws.FnExactEscapeAt': WHATEVER THE INPUT: true; the input reads as it did. -/
def fnExactEscapeAtSpec : ChangeSpec := { name := "fnExactEscapeAt", fn := fun _ => fun
  | [d1, d2] => { results := [.lit (.bool true)], args := [d1, d2] }
  | _ => none }
def fnExactEscapeAtRow : OpenClaim := { program := "ytjbhflicehnocaa", sum := "d2fd4ccdad16a6fea87c31817141fc2cf5645e385442cdbf26c501b9f92a057f", func := "loop.example/g00666/laws.FnExactEscapeAt", spec := "fnExactEscapeAt", apart := false }
def FnExactEscapeAtSaid : Prop := fnExactEscapeAtRow.holds Try.pinned (OpenSpec.ofChange fnExactEscapeAtSpec)

/-- ITS FALSE NEIGHBOUR: 'it returns false'. Refute it at one input. -/
def fnExactEscapeAtWrong : ChangeSpec := { name := "fnExactEscapeAt", fn := fun _ => fun
  | [d1, d2] => { results := [.lit (.bool false)], args := [d1, d2] }
  | _ => none }
def FnExactEscapeAtWrongFalsely : Prop := fnExactEscapeAtRow.holds Try.pinned (OpenSpec.ofChange fnExactEscapeAtWrong)

/-- 'laws.FnExactTagRead': WHATEVER THE INPUT: true; the input reads as it did. -/
def fnExactTagReadSpec : ChangeSpec := { name := "fnExactTagRead", fn := fun _ => fun
  | [d1, d2] => { results := [.lit (.bool true)], args := [d1, d2] }
  | _ => none }
def fnExactTagReadRow : OpenClaim := { program := "ytjbhflicehnocaa", sum := "d2fd4ccdad16a6fea87c31817141fc2cf5645e385442cdbf26c501b9f92a057f", func := "loop.example/g00666/laws.FnExactTagRead", spec := "fnExactTagRead", apart := false }
def FnExactTagReadSaid : Prop := fnExactTagReadRow.holds Try.pinned (OpenSpec.ofChange fnExactTagReadSpec)

/-- ITS FALSE NEIGHBOUR: 'it returns false'. Refute it at one input. -/
def fnExactTagReadWrong : ChangeSpec := { name := "fnExactTagRead", fn := fun _ => fun
  | [d1, d2] => { results := [.lit (.bool false)], args := [d1, d2] }
  | _ => none }
def FnExactTagReadWrongFalsely : Prop := fnExactTagReadRow.holds Try.pinned (OpenSpec.ofChange fnExactTagReadWrong)

/-- 'laws.FnExactFoldBlock': WHATEVER THE INPUT: true; the input reads as it did. -/
def fnExactFoldBlockSpec : ChangeSpec := { name := "fnExactFoldBlock", fn := fun _ => fun
  | [d] => { results := [.lit (.bool true)], args := [d] }
  | _ => none }
def fnExactFoldBlockRow : OpenClaim := { program := "ytjbhflicehnocaa", sum := "d2fd4ccdad16a6fea87c31817141fc2cf5645e385442cdbf26c501b9f92a057f", func := "loop.example/g00666/laws.FnExactFoldBlock", spec := "fnExactFoldBlock", inPlace := ["internal/abi.NoEscape", "internal/bytealg.MakeNoZero"], apart := false }
def FnExactFoldBlockSaid : Prop := fnExactFoldBlockRow.holds Try.pinned (OpenSpec.ofChange fnExactFoldBlockSpec)

/-- ITS FALSE NEIGHBOUR: 'it returns false'. Refute it at one input. -/
def fnExactFoldBlockWrong : ChangeSpec := { name := "fnExactFoldBlock", fn := fun _ => fun
  | [d] => { results := [.lit (.bool false)], args := [d] }
  | _ => none }
def FnExactFoldBlockWrongFalsely : Prop := fnExactFoldBlockRow.holds Try.pinned (OpenSpec.ofChange fnExactFoldBlockWrong)

/-- 'laws.FnExactFoldFlow': WHATEVER THE INPUT: true; the input reads as it did. -/
def fnExactFoldFlowSpec : ChangeSpec := { name := "fnExactFoldFlow", fn := fun _ => fun
  | [d] => { results := [.lit (.bool true)], args := [d] }
  | _ => none }
def fnExactFoldFlowRow : OpenClaim := { program := "ytjbhflicehnocaa", sum := "d2fd4ccdad16a6fea87c31817141fc2cf5645e385442cdbf26c501b9f92a057f", func := "loop.example/g00666/laws.FnExactFoldFlow", spec := "fnExactFoldFlow", inPlace := ["internal/abi.NoEscape", "internal/bytealg.MakeNoZero"], apart := false }
def FnExactFoldFlowSaid : Prop := fnExactFoldFlowRow.holds Try.pinned (OpenSpec.ofChange fnExactFoldFlowSpec)

/-- ITS FALSE NEIGHBOUR: 'it returns false'. Refute it at one input. -/
def fnExactFoldFlowWrong : ChangeSpec := { name := "fnExactFoldFlow", fn := fun _ => fun
  | [d] => { results := [.lit (.bool false)], args := [d] }
  | _ => none }
def FnExactFoldFlowWrongFalsely : Prop := fnExactFoldFlowRow.holds Try.pinned (OpenSpec.ofChange fnExactFoldFlowWrong)

/-- 'laws.FnExactEventText': WHATEVER THE INPUT: true; the input reads as it did. -/
def fnExactEventTextSpec : ChangeSpec := { name := "fnExactEventText", fn := fun _ => fun
  | [d] => { results := [.lit (.bool true)], args := [d] }
  | _ => none }
def fnExactEventTextRow : OpenClaim := { program := "ytjbhflicehnocaa", sum := "d2fd4ccdad16a6fea87c31817141fc2cf5645e385442cdbf26c501b9f92a057f", func := "loop.example/g00666/laws.FnExactEventText", spec := "fnExactEventText", recurses := true, apart := false }
def FnExactEventTextSaid : Prop := fnExactEventTextRow.holds Try.pinned (OpenSpec.ofChange fnExactEventTextSpec)

/-- ITS FALSE NEIGHBOUR: 'it returns false'. Refute it at one input. -/
def fnExactEventTextWrong : ChangeSpec := { name := "fnExactEventText", fn := fun _ => fun
  | [d] => { results := [.lit (.bool false)], args := [d] }
  | _ => none }
def FnExactEventTextWrongFalsely : Prop := fnExactEventTextRow.holds Try.pinned (OpenSpec.ofChange fnExactEventTextWrong)

/- THE SECOND FORM. 'bulk': how many values and letters a reading holds, each counted each time it is reached (what is shared counts as often as it is met; a slice's spare places count too). A statement '..UptoSaid' is the law's where the arguments, and the package variables that the reading takes, are together of bulk at most 1048576: NARROWER than '..Said'. Prove '..Said' where nothing that the law and all that it calls make is longer than what came in: it says more and counts as full. Else prove '..UptoSaid'. A law counts once. -/
mutual
def uptoBulk {H : Type} : DataW H → Nat
  | .lit (.string bytes) => bytes.length + 1
  | .lit _ => 1
  | .nil => 1
  | .ptr d => uptoBulk d + 1
  | .slice elems spare => uptoBulkAll elems + uptoBulkAll spare + 1
  | .agg parts => uptoBulkAll parts + 1
  | .iface _ d => uptoBulk d + 1
  | .map entries => uptoBulkEntries entries + 1
  | .held _ => 1
def uptoBulkAll {H : Type} : List (DataW H) → Nat
  | [] => 0
  | d :: r => uptoBulk d + uptoBulkAll r
def uptoBulkEntries {H : Type} : List (Lit × DataW H) → Nat
  | [] => 0
  | x :: r => uptoBulkEntry x + uptoBulkEntries r
def uptoBulkEntry {H : Type} : Lit × DataW H → Nat
  | (.string bytes, d) => bytes.length + uptoBulk d + 1
  | (_, d) => uptoBulk d + 1
 end
def uptoSmall : (H : Type) → List (DataW H) → Bool := fun _ ds => decide (uptoBulkAll ds ≤ 1048576)
def OpenSpec.upto (s : _root_.Go.ChangeSpec) : _root_.Go.OpenSpec := { _root_.Go.OpenSpec.ofChange s with cond := some uptoSmall }

/-- 'laws.FnExactSourceNew', WHERE WHAT IT READS IS OF BULK AT MOST 1048576: true; the input reads as it did. -/
def fnExactSourceNewUptoRow : OpenClaim := { program := "ytjbhflicehnocaa", sum := "d2fd4ccdad16a6fea87c31817141fc2cf5645e385442cdbf26c501b9f92a057f", func := "loop.example/g00666/laws.FnExactSourceNew", spec := "fnExactSourceNew", unfollowed := true, recurses := true, apart := false, narrowed := true }
def FnExactSourceNewUptoSaid : Prop := fnExactSourceNewUptoRow.holds Try.pinned (OpenSpec.upto fnExactSourceNewSpec)

/-- 'laws.FnSource', WHERE WHAT IT READS IS OF BULK AT MOST 1048576: true; the input reads as it did. -/
def fnSourceUptoRow : OpenClaim := { program := "ytjbhflicehnocaa", sum := "d2fd4ccdad16a6fea87c31817141fc2cf5645e385442cdbf26c501b9f92a057f", func := "loop.example/g00666/laws.FnSource", spec := "fnSource", unfollowed := true, recurses := true, apart := false, narrowed := true }
def FnSourceUptoSaid : Prop := fnSourceUptoRow.holds Try.pinned (OpenSpec.upto fnSourceSpec)

/-- 'laws.FnExactSourceOk', WHERE WHAT IT READS IS OF BULK AT MOST 1048576: true; the input reads as it did. -/
def fnExactSourceOkUptoRow : OpenClaim := { program := "ytjbhflicehnocaa", sum := "d2fd4ccdad16a6fea87c31817141fc2cf5645e385442cdbf26c501b9f92a057f", func := "loop.example/g00666/laws.FnExactSourceOk", spec := "fnExactSourceOk", unfollowed := true, recurses := true, apart := false, narrowed := true }
def FnExactSourceOkUptoSaid : Prop := fnExactSourceOkUptoRow.holds Try.pinned (OpenSpec.upto fnExactSourceOkSpec)

/-- 'laws.FnTag', WHERE WHAT IT READS IS OF BULK AT MOST 1048576: true; the input reads as it did. -/
def fnTagUptoRow : OpenClaim := { program := "ytjbhflicehnocaa", sum := "d2fd4ccdad16a6fea87c31817141fc2cf5645e385442cdbf26c501b9f92a057f", func := "loop.example/g00666/laws.FnTag", spec := "fnTag", apart := false, narrowed := true }
def FnTagUptoSaid : Prop := fnTagUptoRow.holds Try.pinned (OpenSpec.upto fnTagSpec)

/-- 'laws.FnExactHeadAt', WHERE WHAT IT READS IS OF BULK AT MOST 1048576: true; the input reads as it did. -/
def fnExactHeadAtUptoRow : OpenClaim := { program := "ytjbhflicehnocaa", sum := "d2fd4ccdad16a6fea87c31817141fc2cf5645e385442cdbf26c501b9f92a057f", func := "loop.example/g00666/laws.FnExactHeadAt", spec := "fnExactHeadAt", inPlace := ["internal/bytealg.IndexByteString"], apart := false, narrowed := true }
def FnExactHeadAtUptoSaid : Prop := fnExactHeadAtUptoRow.holds Try.pinned (OpenSpec.upto fnExactHeadAtSpec)

/-- 'laws.FnExactEscapeAt', WHERE WHAT IT READS IS OF BULK AT MOST 1048576: true; the input reads as it did. -/
def fnExactEscapeAtUptoRow : OpenClaim := { program := "ytjbhflicehnocaa", sum := "d2fd4ccdad16a6fea87c31817141fc2cf5645e385442cdbf26c501b9f92a057f", func := "loop.example/g00666/laws.FnExactEscapeAt", spec := "fnExactEscapeAt", apart := false, narrowed := true }
def FnExactEscapeAtUptoSaid : Prop := fnExactEscapeAtUptoRow.holds Try.pinned (OpenSpec.upto fnExactEscapeAtSpec)

/-- 'laws.FnExactTagRead', WHERE WHAT IT READS IS OF BULK AT MOST 1048576: true; the input reads as it did. -/
def fnExactTagReadUptoRow : OpenClaim := { program := "ytjbhflicehnocaa", sum := "d2fd4ccdad16a6fea87c31817141fc2cf5645e385442cdbf26c501b9f92a057f", func := "loop.example/g00666/laws.FnExactTagRead", spec := "fnExactTagRead", apart := false, narrowed := true }
def FnExactTagReadUptoSaid : Prop := fnExactTagReadUptoRow.holds Try.pinned (OpenSpec.upto fnExactTagReadSpec)

/-- 'laws.FnExactFoldBlock', WHERE WHAT IT READS IS OF BULK AT MOST 1048576: true; the input reads as it did. -/
def fnExactFoldBlockUptoRow : OpenClaim := { program := "ytjbhflicehnocaa", sum := "d2fd4ccdad16a6fea87c31817141fc2cf5645e385442cdbf26c501b9f92a057f", func := "loop.example/g00666/laws.FnExactFoldBlock", spec := "fnExactFoldBlock", inPlace := ["internal/abi.NoEscape", "internal/bytealg.MakeNoZero"], apart := false, narrowed := true }
def FnExactFoldBlockUptoSaid : Prop := fnExactFoldBlockUptoRow.holds Try.pinned (OpenSpec.upto fnExactFoldBlockSpec)

/-- 'laws.FnExactFoldFlow', WHERE WHAT IT READS IS OF BULK AT MOST 1048576: true; the input reads as it did. -/
def fnExactFoldFlowUptoRow : OpenClaim := { program := "ytjbhflicehnocaa", sum := "d2fd4ccdad16a6fea87c31817141fc2cf5645e385442cdbf26c501b9f92a057f", func := "loop.example/g00666/laws.FnExactFoldFlow", spec := "fnExactFoldFlow", inPlace := ["internal/abi.NoEscape", "internal/bytealg.MakeNoZero"], apart := false, narrowed := true }
def FnExactFoldFlowUptoSaid : Prop := fnExactFoldFlowUptoRow.holds Try.pinned (OpenSpec.upto fnExactFoldFlowSpec)

/-- 'laws.FnExactEventText', WHERE WHAT IT READS IS OF BULK AT MOST 1048576: true; the input reads as it did. -/
def fnExactEventTextUptoRow : OpenClaim := { program := "ytjbhflicehnocaa", sum := "d2fd4ccdad16a6fea87c31817141fc2cf5645e385442cdbf26c501b9f92a057f", func := "loop.example/g00666/laws.FnExactEventText", spec := "fnExactEventText", recurses := true, apart := false, narrowed := true }
def FnExactEventTextUptoSaid : Prop := fnExactEventTextUptoRow.holds Try.pinned (OpenSpec.upto fnExactEventTextSpec)

end Rows
end Go.Proofs.Ytjbhflicehnocaa
