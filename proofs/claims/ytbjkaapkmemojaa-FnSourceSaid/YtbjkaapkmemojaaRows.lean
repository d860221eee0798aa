/-
  No cell of these rows narrows 'for every input' (looked for: loops, veiled, ifaces, maps, wideKeys, modest, calm, conditions, laid).
  DERIVED. THE GIVEN ROWS OF THIS SEAT. 5 by the template 'for every input the law returns true; each argument reads behind the call as it read before'; 0 by the template 'total and deterministic' (their statements: YtbjkaapkmemojaaTotals.lean).
  GIVEN WITH THE SEED: the statements are not yours to turn. If you find one false, say at which input.
  Laid BY PROGRAM, IN A SANDBOX (cutbox-rows.mjs): the forced cells as the released guide's own fill.sh prints them over the translation 7b61998a26544292… (all of the seat's roots in one cut). By AI agents, Wed Nov 11 2026. No macro, syntax, notation, axiom, sorry.
-/
import Derived.Test.YtbjkaapkmemojaaChecked
import GoSem.Claim
import GoSem.ClaimJoined
import GoSem.ClaimMapViews
import Derived.JoinedTies
import Derived.KernelRfl
namespace Go.Proofs.Ytbjkaapkmemojaa
/- THE CELL 'sum', in the pinned program and in every row, IS THE sha256 OF THE DUMP (.gsa) THAT YtbjkaapkmemojaaProg.lean LOADS. Nothing in Lean hashes anything: it is a label: what it is worth is what the hold of that sum in a sandbox is worth. -/
noncomputable def Try.pinned : Pinned := { name := "ytbjkaapkmemojaa", sum := "7b61998a26544292c18ed96095e59bd57dfbca73c49c013c334663aa8ae74a9a", checked := Try.checked }
namespace Rows
def none {H : Type} : Left H := { results := [], args := [] }

/-- 'laws.FnExactSourceNew': WHATEVER THE INPUT: true; the input reads as it did. -/
def fnExactSourceNewSpec : ChangeSpec := { name := "fnExactSourceNew", fn := fun _ => fun
  | [d] => { results := [.lit (.bool true)], args := [d] }
  | _ => none }
def fnExactSourceNewRow : OpenClaim := { program := "ytbjkaapkmemojaa", sum := "7b61998a26544292c18ed96095e59bd57dfbca73c49c013c334663aa8ae74a9a", func := "loop.example/g00666/laws.FnExactSourceNew", spec := "fnExactSourceNew", unfollowed := true, recurses := true, apart := false }
def FnExactSourceNewSaid : Prop := fnExactSourceNewRow.holds Try.pinned (OpenSpec.ofChange fnExactSourceNewSpec)

/-- ITS FALSE NEIGHBOUR: 'it returns false'. Refute it at one input. -/
def fnExactSourceNewWrong : ChangeSpec := { name := "fnExactSourceNew", fn := fun _ => fun
  | [d] => { results := [.lit (.bool false)], args := [d] }
  | _ => none }
def FnExactSourceNewWrongFalsely : Prop := fnExactSourceNewRow.holds Try.pinned (OpenSpec.ofChange fnExactSourceNewWrong)

/-- 'laws.FnSource': WHATEVER THE INPUT: true; the input reads as it did. -/
def fnSourceSpec : ChangeSpec := { name := "fnSource", fn := fun _ => fun
  | [d] => { results := [.lit (.bool true)], args := [d] }
  | _ => none }
def fnSourceRow : OpenClaim := { program := "ytbjkaapkmemojaa", sum := "7b61998a26544292c18ed96095e59bd57dfbca73c49c013c334663aa8ae74a9a", func := "loop.example/g00666/laws.FnSource", spec := "fnSource", unfollowed := true, recurses := true, apart := false }
def FnSourceSaid : Prop := fnSourceRow.holds Try.pinned (OpenSpec.ofChange fnSourceSpec)

/-- ITS FALSE NEIGHBOUR: 'it returns false'. Refute it at one input. -/
def fnSourceWrong : ChangeSpec := { name := "fnSource", fn := fun _ => fun
  | [d] => { results := [.lit (.bool false)], args := [d] }
  | _ => none }
def FnSourceWrongFalsely : Prop := fnSourceRow.holds Try.pinned (OpenSpec.ofChange fnSourceWrong)

/-- 'laws.FnExactSourceOk': WHATEVER THE INPUT: true; the input reads as it did. -/
def fnExactSourceOkSpec : ChangeSpec := { name := "fnExactSourceOk", fn := fun _ => fun
  | [d] => { results := [.lit (.bool true)], args := [d] }
  | _ => none }
def fnExactSourceOkRow : OpenClaim := { program := "ytbjkaapkmemojaa", sum := "7b61998a26544292c18ed96095e59bd57dfbca73c49c013c334663aa8ae74a9a", func := "loop.example/g00666/laws.FnExactSourceOk", spec := "fnExactSourceOk", unfollowed := true, recurses := true, apart := false }
def FnExactSourceOkSaid : Prop := fnExactSourceOkRow.holds Try.pinned (OpenSpec.ofChange fnExactSourceOkSpec)

/-- ITS FALSE NEIGHBOUR: 'it returns false'. Refute it at one input. -/
def fnExactSourceOkWrong : ChangeSpec := { name := "fnExactSourceOk", fn := fun _ => fun
  | [d] => { results := [.lit (.bool false)], args := [d] }
  | _ => none }
def FnExactSourceOkWrongFalsely : Prop := fnExactSourceOkRow.holds Try.pinned (OpenSpec.ofChange fnExactSourceOkWrong)

/-- 'laws.FnExactSourceByte': WHATEVER THE INPUT: true; the input reads as it did. -/
def fnExactSourceByteSpec : ChangeSpec := { name := "fnExactSourceByte", fn := fun _ => fun
  | [d1, d2, d3] => { results := [.lit (.bool true)], args := [d1, d2, d3] }
  | _ => none }
def fnExactSourceByteRow : OpenClaim := { program := "ytbjkaapkmemojaa", sum := "7b61998a26544292c18ed96095e59bd57dfbca73c49c013c334663aa8ae74a9a", func := "loop.example/g00666/laws.FnExactSourceByte", spec := "fnExactSourceByte", unfollowed := true, recurses := true, apart := false }
def FnExactSourceByteSaid : Prop := fnExactSourceByteRow.holds Try.pinned (OpenSpec.ofChange fnExactSourceByteSpec)

/-- ITS FALSE NEIGHBOUR: 'it returns false'. Refute it at one input. -/
def fnExactSourceByteWrong : ChangeSpec := { name := "fnExactSourceByte", fn := fun _ => fun
  | [d1, d2, d3] => { results := [.lit (.bool false)], args := [d1, d2, d3] }
  | _ => none }
def FnExactSourceByteWrongFalsely : Prop := fnExactSourceByteRow.holds Try.pinned (OpenSpec.ofChange fnExactSourceByteWrong)

/-- 'laws.FnExactSourceRun': WHATEVER THE INPUT: true; the input reads as it did. -/
def fnExactSourceRunSpec : ChangeSpec := { name := "fnExactSourceRun", fn := fun _ => fun
  | [d1, d2, d3, d4] => { results := [.lit (.bool true)], args := [d1, d2, d3, d4] }
  | _ => none }
def fnExactSourceRunRow : OpenClaim := { program := "ytbjkaapkmemojaa", sum := "7b61998a26544292c18ed96095e59bd57dfbca73c49c013c334663aa8ae74a9a", func := "loop.example/g00666/laws.FnExactSourceRun", spec := "fnExactSourceRun", unfollowed := true, recurses := true, apart := false }
def FnExactSourceRunSaid : Prop := fnExactSourceRunRow.holds Try.pinned (OpenSpec.ofChange fnExactSourceRunSpec)

/-- ITS FALSE NEIGHBOUR: 'it returns false'. Refute it at one input. -/
def fnExactSourceRunWrong : ChangeSpec := { name := "fnExactSourceRun", fn := fun _ => fun
  | [d1, d2, d3, d4] => { results := [.lit (.bool false)], args := [d1, d2, d3, d4] }
  | _ => none }
def FnExactSourceRunWrongFalsely : Prop := fnExactSourceRunRow.holds Try.pinned (OpenSpec.ofChange fnExactSourceRunWrong)

/- THE SECOND FORM. 'bulk': how many values and letters a reading holds, each counted each time it is reached (what is shared counts as often as it is met; a slice's spare places count too). A statement '..UptoSaid' is the law's where the arguments, and the package variables that the reading takes, are together of bulk at most 1048576: NARROWER than '..Said'. Prove '..Said' where nothing that the law and all that it calls make is longer than what came in: it says more and counts as full. Else prove '..UptoSaid'. A law counts once. -/
mutual
def uptoBulk {H : Type} : DataW H → Nat
  | .lit (.string bytes) => bytes.length + 1
  | .lit _ => 1
  | .nil => 1
  | .ptr d => uptoBulk d + 1
  | .slice elems spare => uptoBulkAll elems + uptoBulkAll spare + 1
  | .agg parts => uptoBulkAll parts + 1
  | .iface _ d => uptoBulk d + 1
  | .map entries => uptoBulkEntries entries + 1
  | .held _ => 1
def uptoBulkAll {H : Type} : List (DataW H) → Nat
  | [] => 0
  | d :: r => uptoBulk d + uptoBulkAll r
def uptoBulkEntries {H : Type} : List (Lit × DataW H) → Nat
  | [] => 0
  | x :: r => uptoBulkEntry x + uptoBulkEntries r
def uptoBulkEntry {H : Type} : Lit × DataW H → Nat
  | (.string bytes, d) => bytes.length + uptoBulk d + 1
  | (_, d) => uptoBulk d + 1
 end
def uptoSmall : (H : Type) → List (DataW H) → Bool := fun _ ds => decide (uptoBulkAll ds ≤ 1048576)
def OpenSpec.upto (s : _root_.Go.ChangeSpec) : _root_.Go.OpenSpec := { _root_.Go.OpenSpec.ofChange s with cond := some uptoSmall }

/-- 'laws.FnExactSourceNew', WHERE WHAT IT READS IS OF BULK AT MOST 1048576: true; the input reads as it did. -/
def fnExactSourceNewUptoRow : OpenClaim := { program := "ytbjkaapkmemojaa", sum := "7b61998a26544292c18ed96095e59bd57dfbca73c49c013c334663aa8ae74a9a", func := "loop.example/g00666/laws.FnExactSourceNew", spec := "fnExactSourceNew", unfollowed := true, recurses := true, apart := false, narrowed := true }
def FnExactSourceNewUptoSaid : Prop := fnExactSourceNewUptoRow.holds Try.pinned (OpenSpec.upto fnExactSourceNewSpec)

/-- 'laws.FnSource', WHERE WHAT IT READS IS OF BULK AT MOST 1048576: true; the input reads as it did. -/
def fnSourceUptoRow : OpenClaim := { program := "ytbjkaapkmemojaa", sum := "7b61998a26544292c18ed96095e59bd57dfbca73c49c013c334663aa8ae74a9a", func := "loop.example/g00666/laws.FnSource", spec := "fnSource", unfollowed := true, recurses := true, apart := false, narrowed := true }
def FnSourceUptoSaid : Prop := fnSourceUptoRow.holds Try.pinned (OpenSpec.upto fnSourceSpec)

/-- 'laws.FnExactSourceOk', WHERE WHAT IT READS IS OF BULK AT MOST 1048576: true; the input reads as it did. -/
def fnExactSourceOkUptoRow : OpenClaim := { program := "ytbjkaapkmemojaa", sum := "7b61998a26544292c18ed96095e59bd57dfbca73c49c013c334663aa8ae74a9a", func := "loop.example/g00666/laws.FnExactSourceOk", spec := "fnExactSourceOk", unfollowed := true, recurses := true, apart := false, narrowed := true }
def FnExactSourceOkUptoSaid : Prop := fnExactSourceOkUptoRow.holds Try.pinned (OpenSpec.upto fnExactSourceOkSpec)

/-- 'laws.FnExactSourceByte', WHERE WHAT IT READS IS OF BULK AT MOST 1048576: true; the input reads as it did. -/
def fnExactSourceByteUptoRow : OpenClaim := { program := "ytbjkaapkmemojaa", sum := "7b61998a26544292c18ed96095e59bd57dfbca73c49c013c334663aa8ae74a9a", func := "loop.example/g00666/laws.FnExactSourceByte", spec := "fnExactSourceByte", unfollowed := true, recurses := true, apart := false, narrowed := true }
def FnExactSourceByteUptoSaid : Prop := fnExactSourceByteUptoRow.holds Try.pinned (OpenSpec.upto fnExactSourceByteSpec)

/-- 'laws.FnExactSourceRun', WHERE WHAT IT READS IS OF BULK AT MOST 1048576: true; the input reads as it did. -/
def fnExactSourceRunUptoRow : OpenClaim := { program := "ytbjkaapkmemojaa", sum := "7b61998a26544292c18ed96095e59bd57dfbca73c49c013c334663aa8ae74a9a", func := "loop.example/g00666/laws.FnExactSourceRun", spec := "fnExactSourceRun", unfollowed := true, recurses := true, apart := false, narrowed := true }
def FnExactSourceRunUptoSaid : Prop := fnExactSourceRunUptoRow.holds Try.pinned (OpenSpec.upto fnExactSourceRunSpec)

end Rows
end Go.Proofs.Ytbjkaapkmemojaa
