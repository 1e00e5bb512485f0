/-
  DERIVED. GIVEN WITH THE SEED: THE CARDS: each row of YtmogeiepmpidjaaGreatDoorRows.lean that lists a variable, with what it lists TIED to the program's text (the seventh form; the later family's looks); each row that meets fmt, with fmt's text TOLD by the authors' own Lean function (tested against real Go, not proved from fmt's source: count such statements apart). THE CARD IS WHAT COUNTS. Prove the row's statement (the work); the ties are given (YtmogeiepmpidjaaGreatDoorTie.lean); close each card by the builder's one call (the guide's Derived/Test/ToyasCard.lean, 'card_holds'). Laid BY PROGRAM, IN A SANDBOX (cutbox-door.mjs). By AI agents, Wed Nov 11 2026. No macro, syntax, notation, axiom, sorry.
-/
import Derived.Test.YtmogeiepmpidjaaGreatDoorRows
import GoSem.ClaimSeven
namespace Go.Proofs.YtmogeiepmpidjaaGreatDoor
namespace Rows

/-- THE TIED CARD OF 'drawloomlaw24.DeviceNone'. -/
def deviceNoneCard : Claim7 := { stood := { row := deviceNoneRow, standIns := [], harness := (true, "62ebb7a23b254ea15f3b28b4e8f1980a1b7cbe6e5989ca3cdc5e9ad4de584677"), looks := true }, kinds := [], alts := [], laidByText := true, laidKinds := [.data, .data, .data, .pinned, .data, .sentinel, .sentinel, .data, .listed], laidTests := true, laidLooks := .later }
def DeviceNoneCardSaid : Prop := Claim7.holds Tryz.pinned (.plain (OpenSpec.ofChange deviceNoneSpec)) deviceNoneCard

/-- THE SECOND FORM's CARD OF 'drawloomlaw24.DeviceNone'. -/
def deviceNoneUptoCard : Claim7 := { stood := { row := deviceNoneUptoRow, standIns := [], harness := (true, "62ebb7a23b254ea15f3b28b4e8f1980a1b7cbe6e5989ca3cdc5e9ad4de584677"), looks := true }, kinds := [], alts := [], laidByText := true, laidKinds := [.data, .data, .data, .pinned, .data, .sentinel, .sentinel, .data, .listed], laidTests := true, laidLooks := .later }
def DeviceNoneUptoCardSaid : Prop := Claim7.holds Tryz.pinned (.plain (OpenSpec.upto deviceNoneSpec)) deviceNoneUptoCard
end Rows
end Go.Proofs.YtmogeiepmpidjaaGreatDoor
