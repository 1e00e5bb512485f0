/-
  DERIVED. GIVEN WITH THE SEED: THE CARDS: each row of YtolkehkjhpnioaaGreatDoorRows.lean that lists a variable, with what it lists TIED to the program's text (the seventh form; the later family's looks); each row that meets fmt, with fmt's text TOLD by the authors' own Lean function (tested against real Go, not proved from fmt's source: count such statements apart). THE CARD IS WHAT COUNTS. Prove the row's statement (the work); the ties are given (YtolkehkjhpnioaaGreatDoorTie.lean); close each card by the builder's one call (the guide's Derived/Test/ToyasCard.lean, 'card_holds'). Laid BY PROGRAM, IN A SANDBOX (cutbox-door.mjs). By AI agents, Wed Nov 11 2026. No macro, syntax, notation, axiom, sorry.
-/
import Derived.Test.YtolkehkjhpnioaaGreatDoorRows
import GoSem.ClaimSeven
namespace Go.Proofs.YtolkehkjhpnioaaGreatDoor
namespace Rows

/-- THE TIED CARD OF 'drawloomlaw24.DeviceReads'. -/
def deviceReadsCard : Claim7 := { stood := { row := deviceReadsRow, standIns := [], harness := (true, "70ba4d0aa89c8b4a4c7495c812c261c10f9a1e3ea949241830ed12ed480a35a2"), looks := true }, kinds := [], alts := [], laidByText := true, laidKinds := [.data, .data, .data, .pinned, .data, .sentinel, .sentinel, .data, .listed], laidTests := true, laidLooks := .later }
def DeviceReadsCardSaid : Prop := Claim7.holds Tryz.pinned (.plain (OpenSpec.ofChange deviceReadsSpec)) deviceReadsCard

/-- THE SECOND FORM's CARD OF 'drawloomlaw24.DeviceReads'. -/
def deviceReadsUptoCard : Claim7 := { stood := { row := deviceReadsUptoRow, standIns := [], harness := (true, "70ba4d0aa89c8b4a4c7495c812c261c10f9a1e3ea949241830ed12ed480a35a2"), looks := true }, kinds := [], alts := [], laidByText := true, laidKinds := [.data, .data, .data, .pinned, .data, .sentinel, .sentinel, .data, .listed], laidTests := true, laidLooks := .later }
def DeviceReadsUptoCardSaid : Prop := Claim7.holds Tryz.pinned (.plain (OpenSpec.upto deviceReadsSpec)) deviceReadsUptoCard
end Rows
end Go.Proofs.YtolkehkjhpnioaaGreatDoor
