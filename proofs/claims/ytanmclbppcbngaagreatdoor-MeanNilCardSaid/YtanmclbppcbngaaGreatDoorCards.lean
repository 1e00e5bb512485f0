/-
  DERIVED. GIVEN WITH THE SEED: THE CARDS: each row of YtanmclbppcbngaaGreatDoorRows.lean that lists a variable, with what it lists TIED to the program's text (the seventh form; the later family's looks); each row that meets fmt, with fmt's text TOLD by the authors' own Lean function (tested against real Go, not proved from fmt's source: count such statements apart). THE CARD IS WHAT COUNTS. Prove the row's statement (the work); the ties are given (YtanmclbppcbngaaGreatDoorTie.lean); close each card by the builder's one call (the guide's Derived/Test/ToyasCard.lean, 'card_holds'). Laid BY PROGRAM, IN A SANDBOX (cutbox-door.mjs). By AI agents, Wed Nov 11 2026. No macro, syntax, notation, axiom, sorry.
-/
import Derived.Test.YtanmclbppcbngaaGreatDoorRows
import GoSem.ClaimSeven
namespace Go.Proofs.YtanmclbppcbngaaGreatDoor
namespace Rows

/-- THE TIED CARD OF 'drawloomlaw05.MeanNil'. -/
def meanNilCard : Claim7 := { stood := { row := meanNilRow, standIns := [], harness := (true, "787f70b3e078eba03ec399751df5927eca741310621d6366c055c9beba4d91b9"), looks := true }, kinds := [], alts := [], laidByText := true, laidKinds := [.data, .data, .data, .listed, .data], laidTests := true, laidLooks := .later }
def MeanNilCardSaid : Prop := Claim7.holds Tryz.pinned (.plain (OpenSpec.ofChange meanNilSpec)) meanNilCard

/-- THE SECOND FORM's CARD OF 'drawloomlaw05.MeanNil'. -/
def meanNilUptoCard : Claim7 := { stood := { row := meanNilUptoRow, standIns := [], harness := (true, "787f70b3e078eba03ec399751df5927eca741310621d6366c055c9beba4d91b9"), looks := true }, kinds := [], alts := [], laidByText := true, laidKinds := [.data, .data, .data, .listed, .data], laidTests := true, laidLooks := .later }
def MeanNilUptoCardSaid : Prop := Claim7.holds Tryz.pinned (.plain (OpenSpec.upto meanNilSpec)) meanNilUptoCard
end Rows
end Go.Proofs.YtanmclbppcbngaaGreatDoor
