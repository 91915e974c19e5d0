/-
  DERIVED. GIVEN WITH THE SEED: THE CARDS: each row of YtdefojlkofnloaaGreatDoorRows.lean that lists a variable, with what it lists TIED to the program's text (the seventh form; the later family's looks); each row that meets fmt, with fmt's text TOLD by the authors' own Lean function (tested against real Go, not proved from fmt's source: count such statements apart). THE CARD IS WHAT COUNTS. Prove the row's statement (the work); the ties are given (YtdefojlkofnloaaGreatDoorTie.lean); close each card by the builder's one call (the guide's Derived/Test/ToyasCard.lean, 'card_holds'). Laid BY PROGRAM, IN A SANDBOX (cutbox-door.mjs). By AI agents, Wed Nov 11 2026. No macro, syntax, notation, axiom, sorry.
-/
import Derived.Test.YtdefojlkofnloaaGreatDoorRows
import GoSem.ClaimSeven
namespace Go.Proofs.YtdefojlkofnloaaGreatDoor
namespace Rows

/-- THE TIED CARD OF 'bulwarktop.CoreOnce'. -/
def coreOnceCard : Claim7 := { stood := { row := coreOnceRow, standIns := [], harness := (true, "7103272d84b8c94bc2b57ad087f7473812f34476d3b48bffca5ae018efb958e2"), looks := true }, kinds := [], alts := [], laidByText := true, laidKinds := [.data, .data, .data, .pinned], laidTests := true, laidLooks := .later }
def CoreOnceCardSaid : Prop := Claim7.holds Tryz.pinned (.plain (OpenSpec.ofChange coreOnceSpec)) coreOnceCard

/-- THE TIED CARD OF 'bulwarktop.CorePositions'. -/
def corePositionsCard : Claim7 := { stood := { row := corePositionsRow, standIns := [], harness := (true, "7103272d84b8c94bc2b57ad087f7473812f34476d3b48bffca5ae018efb958e2"), looks := true }, kinds := [], alts := [], laidByText := true, laidKinds := [.data, .data, .data, .pinned], laidTests := true, laidLooks := .later }
def CorePositionsCardSaid : Prop := Claim7.holds Tryz.pinned (.plain (OpenSpec.ofChange corePositionsSpec)) corePositionsCard

/-- THE SECOND FORM's CARD OF 'bulwarktop.CoreOnce'. -/
def coreOnceUptoCard : Claim7 := { stood := { row := coreOnceUptoRow, standIns := [], harness := (true, "7103272d84b8c94bc2b57ad087f7473812f34476d3b48bffca5ae018efb958e2"), looks := true }, kinds := [], alts := [], laidByText := true, laidKinds := [.data, .data, .data, .pinned], laidTests := true, laidLooks := .later }
def CoreOnceUptoCardSaid : Prop := Claim7.holds Tryz.pinned (.plain (OpenSpec.upto coreOnceSpec)) coreOnceUptoCard

/-- THE SECOND FORM's CARD OF 'bulwarktop.CorePositions'. -/
def corePositionsUptoCard : Claim7 := { stood := { row := corePositionsUptoRow, standIns := [], harness := (true, "7103272d84b8c94bc2b57ad087f7473812f34476d3b48bffca5ae018efb958e2"), looks := true }, kinds := [], alts := [], laidByText := true, laidKinds := [.data, .data, .data, .pinned], laidTests := true, laidLooks := .later }
def CorePositionsUptoCardSaid : Prop := Claim7.holds Tryz.pinned (.plain (OpenSpec.upto corePositionsSpec)) corePositionsUptoCard
end Rows
end Go.Proofs.YtdefojlkofnloaaGreatDoor
