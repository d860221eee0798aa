/-
  DERIVED. GIVEN WITH THE SEED: THE CARDS: each row of YtnkbmfbmcpdcpaaDoorRows.lean that lists a variable, with what it lists TIED to the program's text (the seventh form; the later family's looks); each row that meets fmt, with fmt's text TOLD by the authors' own Lean function (tested against real Go, not proved from fmt's source: count such statements apart). THE CARD IS WHAT COUNTS. Prove the row's statement (the work); the ties are given (YtnkbmfbmcpdcpaaDoorTie.lean); close each card by the builder's one call (the guide's Derived/Test/ToyasCard.lean, 'card_holds'). Laid BY PROGRAM, IN A SANDBOX (cutbox-door.mjs). By AI agents, Wed Nov 11 2026. No macro, syntax, notation, axiom, sorry.
-/
import Derived.Test.YtnkbmfbmcpdcpaaDoorRows
import GoSem.ClaimSeven
namespace Go.Proofs.YtnkbmfbmcpdcpaaDoor
namespace Rows

/-- THE TIED CARD OF 'laws.FnExactRuneAt'. -/
def fnExactRuneAtCard : Claim7 := { stood := { row := fnExactRuneAtRow, standIns := [], harness := (true, "16e621f96007636dfb639dc3f24ce408c28cb10714d1c130a26a1182e29b9b50"), looks := false }, kinds := [], alts := [], laidByText := true, laidKinds := [.data, .pinned], laidTests := true, laidLooks := .later }
def FnExactRuneAtCardSaid : Prop := Claim7.holds Tryd.pinned (.plain (OpenSpec.ofChange fnExactRuneAtSpec)) fnExactRuneAtCard

/-- THE TIED CARD OF 'laws.FnExactClean'. -/
def fnExactCleanCard : Claim7 := { stood := { row := fnExactCleanRow, standIns := [], harness := (true, "16e621f96007636dfb639dc3f24ce408c28cb10714d1c130a26a1182e29b9b50"), looks := false }, kinds := [], alts := [], laidByText := true, laidKinds := [.data, .pinned], laidTests := true, laidLooks := .later }
def FnExactCleanCardSaid : Prop := Claim7.holds Tryd.pinned (.plain (OpenSpec.ofChange fnExactCleanSpec)) fnExactCleanCard

/-- THE SECOND FORM's CARD OF 'laws.FnExactRuneAt'. -/
def fnExactRuneAtUptoCard : Claim7 := { stood := { row := fnExactRuneAtUptoRow, standIns := [], harness := (true, "16e621f96007636dfb639dc3f24ce408c28cb10714d1c130a26a1182e29b9b50"), looks := false }, kinds := [], alts := [], laidByText := true, laidKinds := [.data, .pinned], laidTests := true, laidLooks := .later }
def FnExactRuneAtUptoCardSaid : Prop := Claim7.holds Tryd.pinned (.plain (OpenSpec.upto fnExactRuneAtSpec)) fnExactRuneAtUptoCard

/-- THE SECOND FORM's CARD OF 'laws.FnExactClean'. -/
def fnExactCleanUptoCard : Claim7 := { stood := { row := fnExactCleanUptoRow, standIns := [], harness := (true, "16e621f96007636dfb639dc3f24ce408c28cb10714d1c130a26a1182e29b9b50"), looks := false }, kinds := [], alts := [], laidByText := true, laidKinds := [.data, .pinned], laidTests := true, laidLooks := .later }
def FnExactCleanUptoCardSaid : Prop := Claim7.holds Tryd.pinned (.plain (OpenSpec.upto fnExactCleanSpec)) fnExactCleanUptoCard
end Rows
end Go.Proofs.YtnkbmfbmcpdcpaaDoor
