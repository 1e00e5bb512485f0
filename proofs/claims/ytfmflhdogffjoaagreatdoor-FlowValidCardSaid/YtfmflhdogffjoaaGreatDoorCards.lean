/-
  DERIVED. GIVEN WITH THE SEED: THE CARDS: each row of YtfmflhdogffjoaaGreatDoorRows.lean that lists a variable, with what it lists TIED to the program's text (the seventh form; the later family's looks); each row that meets fmt, with fmt's text TOLD by the authors' own Lean function (tested against real Go, not proved from fmt's source: count such statements apart). THE CARD IS WHAT COUNTS. Prove the row's statement (the work); the ties are given (YtfmflhdogffjoaaGreatDoorTie.lean); close each card by the builder's one call (the guide's Derived/Test/ToyasCard.lean, 'card_holds'). Laid BY PROGRAM, IN A SANDBOX (cutbox-door.mjs). By AI agents, Wed Nov 11 2026. No macro, syntax, notation, axiom, sorry.
-/
import Derived.Test.YtfmflhdogffjoaaGreatDoorRows
import GoSem.ClaimSeven
namespace Go.Proofs.YtfmflhdogffjoaaGreatDoor
namespace Rows

/-- THE TIED CARD OF 'drawloomlaw06.FlowValid'. -/
def flowValidCard : Claim7 := { stood := { row := flowValidRow, standIns := [], harness := (true, "3630a9871cc8e591e639ba45d28e43bc0a39f2582cc0efff23e5b9cbb7142f50"), looks := true }, kinds := [], alts := [], laidByText := true, laidKinds := [.data, .data, .data, .listed, .data], laidTests := true, laidLooks := .later }
def FlowValidCardSaid : Prop := Claim7.holds Tryz.pinned (.plain (OpenSpec.ofChange flowValidSpec)) flowValidCard

/-- THE SECOND FORM's CARD OF 'drawloomlaw06.FlowValid'. -/
def flowValidUptoCard : Claim7 := { stood := { row := flowValidUptoRow, standIns := [], harness := (true, "3630a9871cc8e591e639ba45d28e43bc0a39f2582cc0efff23e5b9cbb7142f50"), looks := true }, kinds := [], alts := [], laidByText := true, laidKinds := [.data, .data, .data, .listed, .data], laidTests := true, laidLooks := .later }
def FlowValidUptoCardSaid : Prop := Claim7.holds Tryz.pinned (.plain (OpenSpec.upto flowValidSpec)) flowValidUptoCard
end Rows
end Go.Proofs.YtfmflhdogffjoaaGreatDoor
