/-
  DERIVED. GIVEN WITH THE SEED: THE CARDS: each row of YtjbhflicehnocaaDoorRows.lean that lists a variable, with what it lists TIED to the program's text (the seventh form; the later family's looks); each row that meets fmt, with fmt's text TOLD by the authors' own Lean function (tested against real Go, not proved from fmt's source: count such statements apart). THE CARD IS WHAT COUNTS. Prove the row's statement (the work); the ties are given (YtjbhflicehnocaaDoorTie.lean); close each card by the builder's one call (the guide's Derived/Test/ToyasCard.lean, 'card_holds'). Laid BY PROGRAM, IN A SANDBOX (cutbox-door.mjs). By AI agents, Wed Nov 11 2026. No macro, syntax, notation, axiom, sorry.
-/
import Derived.Test.YtjbhflicehnocaaDoorRows
import GoSem.ClaimSeven
namespace Go.Proofs.YtjbhflicehnocaaDoor
namespace Rows

/-- THE TIED CARD OF 'laws.FnExactNormal'. -/
def fnExactNormalCard : Claim7 := { stood := { row := fnExactNormalRow, standIns := [], harness := (true, "f80c3188f61e741dbf48c4ce91d0fd67a60b112edebc166ef6debbdf765e32cf"), looks := false }, kinds := [], alts := [], laidByText := true, laidKinds := [.data, .pinned], laidTests := true, laidLooks := .later }
def FnExactNormalCardSaid : Prop := Claim7.holds Tryd.pinned (.plain (OpenSpec.ofChange fnExactNormalSpec)) fnExactNormalCard

/-- THE SECOND FORM's CARD OF 'laws.FnExactNormal'. -/
def fnExactNormalUptoCard : Claim7 := { stood := { row := fnExactNormalUptoRow, standIns := [], harness := (true, "f80c3188f61e741dbf48c4ce91d0fd67a60b112edebc166ef6debbdf765e32cf"), looks := false }, kinds := [], alts := [], laidByText := true, laidKinds := [.data, .pinned], laidTests := true, laidLooks := .later }
def FnExactNormalUptoCardSaid : Prop := Claim7.holds Tryd.pinned (.plain (OpenSpec.upto fnExactNormalSpec)) fnExactNormalUptoCard
end Rows
end Go.Proofs.YtjbhflicehnocaaDoor
