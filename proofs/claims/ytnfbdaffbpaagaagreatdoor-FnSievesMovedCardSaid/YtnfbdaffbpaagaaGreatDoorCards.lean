/-
  DERIVED. GIVEN WITH THE SEED: THE CARDS: each row of YtnfbdaffbpaagaaGreatDoorRows.lean that lists a variable, with what it lists TIED to the program's text (the seventh form; the later family's looks); each row that meets fmt, with fmt's text TOLD by the authors' own Lean function (tested against real Go, not proved from fmt's source: count such statements apart). THE CARD IS WHAT COUNTS. Prove the row's statement (the work); the ties are given (YtnfbdaffbpaagaaGreatDoorTie.lean); close each card by the builder's one call (the guide's Derived/Test/ToyasCard.lean, 'card_holds'). Laid BY PROGRAM, IN A SANDBOX (cutbox-door.mjs). By AI agents, Wed Nov 11 2026. No macro, syntax, notation, axiom, sorry.
-/
import Derived.Test.YtnfbdaffbpaagaaGreatDoorRows
import GoSem.ClaimSeven
namespace Go.Proofs.YtnfbdaffbpaagaaGreatDoor
namespace Rows

/-- THE TIED CARD OF 'laws.FnSievesMovedOfAll'. -/
def fnSievesMovedOfAllCard : Claim7 := { stood := { row := fnSievesMovedOfAllRow, standIns := [], harness := (true, "fd225d786824a4431876e5d0aee1c6933684bee48695c1922fb8dcc04115977c"), looks := true }, kinds := [], alts := [], laidByText := true, laidKinds := [.data, .data, .data, .data, .sentinel, .sentinel, .pinned], laidTests := true, laidLooks := .later }
def FnSievesMovedOfAllCardSaid : Prop := Claim7.holds Tryz.pinned (.plain (OpenSpec.ofChange fnSievesMovedOfAllSpec)) fnSievesMovedOfAllCard

/-- THE TIED CARD OF 'laws.FnSievesMoved'. -/
def fnSievesMovedCard : Claim7 := { stood := { row := fnSievesMovedRow, standIns := [], harness := (true, "fd225d786824a4431876e5d0aee1c6933684bee48695c1922fb8dcc04115977c"), looks := true }, kinds := [], alts := [], laidByText := true, laidKinds := [.data, .data, .data, .data, .sentinel, .sentinel, .pinned], laidTests := true, laidLooks := .later }
def FnSievesMovedCardSaid : Prop := Claim7.holds Tryz.pinned (.plain (OpenSpec.ofChange fnSievesMovedSpec)) fnSievesMovedCard

/-- THE SECOND FORM's CARD OF 'laws.FnSievesMovedOfAll'. -/
def fnSievesMovedOfAllUptoCard : Claim7 := { stood := { row := fnSievesMovedOfAllUptoRow, standIns := [], harness := (true, "fd225d786824a4431876e5d0aee1c6933684bee48695c1922fb8dcc04115977c"), looks := true }, kinds := [], alts := [], laidByText := true, laidKinds := [.data, .data, .data, .data, .sentinel, .sentinel, .pinned], laidTests := true, laidLooks := .later }
def FnSievesMovedOfAllUptoCardSaid : Prop := Claim7.holds Tryz.pinned (.plain (OpenSpec.upto fnSievesMovedOfAllSpec)) fnSievesMovedOfAllUptoCard

/-- THE SECOND FORM's CARD OF 'laws.FnSievesMoved'. -/
def fnSievesMovedUptoCard : Claim7 := { stood := { row := fnSievesMovedUptoRow, standIns := [], harness := (true, "fd225d786824a4431876e5d0aee1c6933684bee48695c1922fb8dcc04115977c"), looks := true }, kinds := [], alts := [], laidByText := true, laidKinds := [.data, .data, .data, .data, .sentinel, .sentinel, .pinned], laidTests := true, laidLooks := .later }
def FnSievesMovedUptoCardSaid : Prop := Claim7.holds Tryz.pinned (.plain (OpenSpec.upto fnSievesMovedSpec)) fnSievesMovedUptoCard
end Rows
end Go.Proofs.YtnfbdaffbpaagaaGreatDoor
