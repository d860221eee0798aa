/-
  No cell of these rows narrows 'for every input' (looked for: loops, veiled, ifaces, maps, wideKeys, modest, calm, conditions, laid).
  DERIVED. THE GIVEN ROWS OF THIS SEAT. 5 by the template 'for every input the law returns true; each argument reads behind the call as it read before'; 0 by the template 'total and deterministic' (their statements: YtacmlggiklkbiaaTotals.lean).
  GIVEN WITH THE SEED: the statements are not yours to turn. If you find one false, say at which input.
  Laid BY PROGRAM, IN A SANDBOX (cutbox-rows.mjs): the forced cells as the released guide's own fill.sh prints them over the translation 9a1651671e1cfca2… (all of the seat's roots in one cut). By AI agents, Wed Nov 11 2026. No macro, syntax, notation, axiom, sorry.
-/
import Derived.Test.YtacmlggiklkbiaaChecked
import GoSem.Claim
import GoSem.ClaimJoined
import GoSem.ClaimMapViews
import Derived.JoinedTies
import Derived.KernelRfl
namespace Go.Proofs.Ytacmlggiklkbiaa
/- THE CELL 'sum', in the pinned program and in every row, IS THE sha256 OF THE DUMP (.gsa) THAT YtacmlggiklkbiaaProg.lean LOADS. Nothing in Lean hashes anything: it is a label: what it is worth is what the hold of that sum in a sandbox is worth. -/
noncomputable def Try.pinned : Pinned := { name := "ytacmlggiklkbiaa", sum := "9a1651671e1cfca25deb26cdb6f7ccf51c4fa18a7438aa34de821be85e6b706d", checked := Try.checked }
namespace Rows
def none {H : Type} : Left H := { results := [], args := [] }

/-- 'laws.FnExactDoubleAt': WHATEVER THE INPUT: true; the input reads as it did. -/
def fnExactDoubleAtSpec : ChangeSpec := { name := "fnExactDoubleAt", fn := fun _ => fun
  | [d1, d2] => { results := [.lit (.bool true)], args := [d1, d2] }
  | _ => none }
def fnExactDoubleAtRow : OpenClaim := { program := "ytacmlggiklkbiaa", sum := "9a1651671e1cfca25deb26cdb6f7ccf51c4fa18a7438aa34de821be85e6b706d", func := "loop.example/g00666/laws.FnExactDoubleAt", spec := "fnExactDoubleAt", inPlace := ["internal/abi.NoEscape", "internal/bytealg.MakeNoZero"], apart := false }
def FnExactDoubleAtSaid : Prop := fnExactDoubleAtRow.holds Try.pinned (OpenSpec.ofChange fnExactDoubleAtSpec)

/-- ITS FALSE NEIGHBOUR: 'it returns false'. Refute it at one input. -/
def fnExactDoubleAtWrong : ChangeSpec := { name := "fnExactDoubleAt", fn := fun _ => fun
  | [d1, d2] => { results := [.lit (.bool false)], args := [d1, d2] }
  | _ => none }
def FnExactDoubleAtWrongFalsely : Prop := fnExactDoubleAtRow.holds Try.pinned (OpenSpec.ofChange fnExactDoubleAtWrong)

/-- 'laws.FnExactEventOk': WHATEVER THE INPUT: true; the input reads as it did. -/
def fnExactEventOkSpec : ChangeSpec := { name := "fnExactEventOk", fn := fun _ => fun
  | [d] => { results := [.lit (.bool true)], args := [d] }
  | _ => none }
def fnExactEventOkRow : OpenClaim := { program := "ytacmlggiklkbiaa", sum := "9a1651671e1cfca25deb26cdb6f7ccf51c4fa18a7438aa34de821be85e6b706d", func := "loop.example/g00666/laws.FnExactEventOk", spec := "fnExactEventOk", apart := false }
def FnExactEventOkSaid : Prop := fnExactEventOkRow.holds Try.pinned (OpenSpec.ofChange fnExactEventOkSpec)

/-- ITS FALSE NEIGHBOUR: 'it returns false'. Refute it at one input. -/
def fnExactEventOkWrong : ChangeSpec := { name := "fnExactEventOk", fn := fun _ => fun
  | [d] => { results := [.lit (.bool false)], args := [d] }
  | _ => none }
def FnExactEventOkWrongFalsely : Prop := fnExactEventOkRow.holds Try.pinned (OpenSpec.ofChange fnExactEventOkWrong)

/-- 'laws.FnExactEventText': WHATEVER THE INPUT: true; the input reads as it did. -/
def fnExactEventTextSpec : ChangeSpec := { name := "fnExactEventText", fn := fun _ => fun
  | [d] => { results := [.lit (.bool true)], args := [d] }
  | _ => none }
def fnExactEventTextRow : OpenClaim := { program := "ytacmlggiklkbiaa", sum := "9a1651671e1cfca25deb26cdb6f7ccf51c4fa18a7438aa34de821be85e6b706d", func := "loop.example/g00666/laws.FnExactEventText", spec := "fnExactEventText", recurses := true, apart := false }
def FnExactEventTextSaid : Prop := fnExactEventTextRow.holds Try.pinned (OpenSpec.ofChange fnExactEventTextSpec)

/-- ITS FALSE NEIGHBOUR: 'it returns false'. Refute it at one input. -/
def fnExactEventTextWrong : ChangeSpec := { name := "fnExactEventText", fn := fun _ => fun
  | [d] => { results := [.lit (.bool false)], args := [d] }
  | _ => none }
def FnExactEventTextWrongFalsely : Prop := fnExactEventTextRow.holds Try.pinned (OpenSpec.ofChange fnExactEventTextWrong)

/-- 'laws.FnExactEventsText': WHATEVER THE INPUT: true; the input reads as it did. -/
def fnExactEventsTextSpec : ChangeSpec := { name := "fnExactEventsText", fn := fun _ => fun
  | [d] => { results := [.lit (.bool true)], args := [d] }
  | _ => none }
def fnExactEventsTextRow : OpenClaim := { program := "ytacmlggiklkbiaa", sum := "9a1651671e1cfca25deb26cdb6f7ccf51c4fa18a7438aa34de821be85e6b706d", func := "loop.example/g00666/laws.FnExactEventsText", spec := "fnExactEventsText", recurses := true, apart := false }
def FnExactEventsTextSaid : Prop := fnExactEventsTextRow.holds Try.pinned (OpenSpec.ofChange fnExactEventsTextSpec)

/-- ITS FALSE NEIGHBOUR: 'it returns false'. Refute it at one input. -/
def fnExactEventsTextWrong : ChangeSpec := { name := "fnExactEventsText", fn := fun _ => fun
  | [d] => { results := [.lit (.bool false)], args := [d] }
  | _ => none }
def FnExactEventsTextWrongFalsely : Prop := fnExactEventsTextRow.holds Try.pinned (OpenSpec.ofChange fnExactEventsTextWrong)

/-- 'laws.FnExactSingleAt': WHATEVER THE INPUT: true; the input reads as it did. -/
def fnExactSingleAtSpec : ChangeSpec := { name := "fnExactSingleAt", fn := fun _ => fun
  | [d1, d2] => { results := [.lit (.bool true)], args := [d1, d2] }
  | _ => none }
def fnExactSingleAtRow : OpenClaim := { program := "ytacmlggiklkbiaa", sum := "9a1651671e1cfca25deb26cdb6f7ccf51c4fa18a7438aa34de821be85e6b706d", func := "loop.example/g00666/laws.FnExactSingleAt", spec := "fnExactSingleAt", inPlace := ["internal/abi.NoEscape", "internal/bytealg.MakeNoZero"], apart := false }
def FnExactSingleAtSaid : Prop := fnExactSingleAtRow.holds Try.pinned (OpenSpec.ofChange fnExactSingleAtSpec)

/-- ITS FALSE NEIGHBOUR: 'it returns false'. Refute it at one input. -/
def fnExactSingleAtWrong : ChangeSpec := { name := "fnExactSingleAt", fn := fun _ => fun
  | [d1, d2] => { results := [.lit (.bool false)], args := [d1, d2] }
  | _ => none }
def FnExactSingleAtWrongFalsely : Prop := fnExactSingleAtRow.holds Try.pinned (OpenSpec.ofChange fnExactSingleAtWrong)

/- THE SECOND FORM. 'bulk': how many values and letters a reading holds, each counted each time it is reached (what is shared counts as often as it is met; a slice's spare places count too). A statement '..UptoSaid' is the law's where the arguments, and the package variables that the reading takes, are together of bulk at most 1048576: NARROWER than '..Said'. Prove '..Said' where nothing that the law and all that it calls make is longer than what came in: it says more and counts as full. Else prove '..UptoSaid'. A law counts once. -/
mutual
def uptoBulk {H : Type} : DataW H → Nat
  | .lit (.string bytes) => bytes.length + 1
  | .lit _ => 1
  | .nil => 1
  | .ptr d => uptoBulk d + 1
  | .slice elems spare => uptoBulkAll elems + uptoBulkAll spare + 1
  | .agg parts => uptoBulkAll parts + 1
  | .iface _ d => uptoBulk d + 1
  | .map entries => uptoBulkEntries entries + 1
  | .held _ => 1
def uptoBulkAll {H : Type} : List (DataW H) → Nat
  | [] => 0
  | d :: r => uptoBulk d + uptoBulkAll r
def uptoBulkEntries {H : Type} : List (Lit × DataW H) → Nat
  | [] => 0
  | x :: r => uptoBulkEntry x + uptoBulkEntries r
def uptoBulkEntry {H : Type} : Lit × DataW H → Nat
  | (.string bytes, d) => bytes.length + uptoBulk d + 1
  | (_, d) => uptoBulk d + 1
 end
def uptoSmall : (H : Type) → List (DataW H) → Bool := fun _ ds => decide (uptoBulkAll ds ≤ 1048576)
def OpenSpec.upto (s : _root_.Go.ChangeSpec) : _root_.Go.OpenSpec := { _root_.Go.OpenSpec.ofChange s with cond := some uptoSmall }

/-- 'laws.FnExactDoubleAt', WHERE WHAT IT READS IS OF BULK AT MOST 1048576: true; the input reads as it did. -/
def fnExactDoubleAtUptoRow : OpenClaim := { program := "ytacmlggiklkbiaa", sum := "9a1651671e1cfca25deb26cdb6f7ccf51c4fa18a7438aa34de821be85e6b706d", func := "loop.example/g00666/laws.FnExactDoubleAt", spec := "fnExactDoubleAt", inPlace := ["internal/abi.NoEscape", "internal/bytealg.MakeNoZero"], apart := false, narrowed := true }
def FnExactDoubleAtUptoSaid : Prop := fnExactDoubleAtUptoRow.holds Try.pinned (OpenSpec.upto fnExactDoubleAtSpec)

/-- 'laws.FnExactEventOk', WHERE WHAT IT READS IS OF BULK AT MOST 1048576: true; the input reads as it did. -/
def fnExactEventOkUptoRow : OpenClaim := { program := "ytacmlggiklkbiaa", sum := "9a1651671e1cfca25deb26cdb6f7ccf51c4fa18a7438aa34de821be85e6b706d", func := "loop.example/g00666/laws.FnExactEventOk", spec := "fnExactEventOk", apart := false, narrowed := true }
def FnExactEventOkUptoSaid : Prop := fnExactEventOkUptoRow.holds Try.pinned (OpenSpec.upto fnExactEventOkSpec)

/-- 'laws.FnExactEventText', WHERE WHAT IT READS IS OF BULK AT MOST 1048576: true; the input reads as it did. -/
def fnExactEventTextUptoRow : OpenClaim := { program := "ytacmlggiklkbiaa", sum := "9a1651671e1cfca25deb26cdb6f7ccf51c4fa18a7438aa34de821be85e6b706d", func := "loop.example/g00666/laws.FnExactEventText", spec := "fnExactEventText", recurses := true, apart := false, narrowed := true }
def FnExactEventTextUptoSaid : Prop := fnExactEventTextUptoRow.holds Try.pinned (OpenSpec.upto fnExactEventTextSpec)

/-- 'laws.FnExactEventsText', WHERE WHAT IT READS IS OF BULK AT MOST 1048576: true; the input reads as it did. -/
def fnExactEventsTextUptoRow : OpenClaim := { program := "ytacmlggiklkbiaa", sum := "9a1651671e1cfca25deb26cdb6f7ccf51c4fa18a7438aa34de821be85e6b706d", func := "loop.example/g00666/laws.FnExactEventsText", spec := "fnExactEventsText", recurses := true, apart := false, narrowed := true }
def FnExactEventsTextUptoSaid : Prop := fnExactEventsTextUptoRow.holds Try.pinned (OpenSpec.upto fnExactEventsTextSpec)

/-- 'laws.FnExactSingleAt', WHERE WHAT IT READS IS OF BULK AT MOST 1048576: true; the input reads as it did. -/
def fnExactSingleAtUptoRow : OpenClaim := { program := "ytacmlggiklkbiaa", sum := "9a1651671e1cfca25deb26cdb6f7ccf51c4fa18a7438aa34de821be85e6b706d", func := "loop.example/g00666/laws.FnExactSingleAt", spec := "fnExactSingleAt", inPlace := ["internal/abi.NoEscape", "internal/bytealg.MakeNoZero"], apart := false, narrowed := true }
def FnExactSingleAtUptoSaid : Prop := fnExactSingleAtUptoRow.holds Try.pinned (OpenSpec.upto fnExactSingleAtSpec)

end Rows
end Go.Proofs.Ytacmlggiklkbiaa
