/-
  DERIVED. GIVEN WITH THE SEED: THE CARDS: each row of YtngeipnhbigdmaaGreatDoorRows.lean that lists a variable, with what it lists TIED to the program's text (the seventh form; the later family's looks); each row that meets fmt, with fmt's text TOLD by the authors' own Lean function (tested against real Go, not proved from fmt's source: count such statements apart). THE CARD IS WHAT COUNTS. Prove the row's statement (the work); the ties are given (YtngeipnhbigdmaaGreatDoorTie.lean); close each card by the builder's one call (the guide's Derived/Test/ToyasCard.lean, 'card_holds'). Laid BY PROGRAM, IN A SANDBOX (cutbox-door.mjs). By AI agents, Wed Nov 11 2026. No macro, syntax, notation, axiom, sorry.
-/
import Derived.Test.YtngeipnhbigdmaaGreatDoorRows
import GoSem.ClaimSeven
namespace Go.Proofs.YtngeipnhbigdmaaGreatDoor
namespace Rows

/-- THE TIED CARD OF 'drawloomlaw12.EmitValid'. -/
def emitValidCard : Claim7 := { stood := { row := emitValidRow, standIns := [], harness := (true, "6d1b779d12585a6fb9ecc4233f3c4b0bc0e30de49041bdbd54d476d82cec505d"), looks := true }, kinds := [], alts := [], laidByText := true, laidKinds := [.data, .listed, .data, .data, .data, .pinned, .data, .sentinel, .sentinel], laidTests := true, laidLooks := .later }
def EmitValidCardSaid : Prop := Claim7.holds Tryz.pinned (.plain (OpenSpec.ofChange emitValidSpec)) emitValidCard

/-- THE TIED CARD OF 'drawloomlaw12.EmitDecodes'. -/
def emitDecodesCard : Claim7 := { stood := { row := emitDecodesRow, standIns := [], harness := (true, "6d1b779d12585a6fb9ecc4233f3c4b0bc0e30de49041bdbd54d476d82cec505d"), looks := true }, kinds := [], alts := [], laidByText := true, laidKinds := [.data, .listed, .data, .data, .data, .pinned, .data, .sentinel, .sentinel], laidTests := true, laidLooks := .later }
def EmitDecodesCardSaid : Prop := Claim7.holds Tryz.pinned (.plain (OpenSpec.ofChange emitDecodesSpec)) emitDecodesCard

/-- THE TIED CARD OF 'drawloomlaw12.EmitAssembles'. -/
def emitAssemblesCard : Claim7 := { stood := { row := emitAssemblesRow, standIns := [], harness := (true, "6d1b779d12585a6fb9ecc4233f3c4b0bc0e30de49041bdbd54d476d82cec505d"), looks := true }, kinds := [], alts := [], laidByText := true, laidKinds := [.data, .listed, .data, .data, .data, .pinned, .data, .sentinel, .sentinel], laidTests := true, laidLooks := .later }
def EmitAssemblesCardSaid : Prop := Claim7.holds Tryz.pinned (.plain (OpenSpec.ofChange emitAssemblesSpec)) emitAssemblesCard

/-- THE TIED CARD OF 'drawloomlaw12.EmitBack'. -/
def emitBackCard : Claim7 := { stood := { row := emitBackRow, standIns := [], harness := (true, "6d1b779d12585a6fb9ecc4233f3c4b0bc0e30de49041bdbd54d476d82cec505d"), looks := true }, kinds := [], alts := [], laidByText := true, laidKinds := [.data, .listed, .data, .data, .data, .pinned, .data, .sentinel, .sentinel], laidTests := true, laidLooks := .later }
def EmitBackCardSaid : Prop := Claim7.holds Tryz.pinned (.plain (OpenSpec.ofChange emitBackSpec)) emitBackCard

/-- THE SECOND FORM's CARD OF 'drawloomlaw12.EmitValid'. -/
def emitValidUptoCard : Claim7 := { stood := { row := emitValidUptoRow, standIns := [], harness := (true, "6d1b779d12585a6fb9ecc4233f3c4b0bc0e30de49041bdbd54d476d82cec505d"), looks := true }, kinds := [], alts := [], laidByText := true, laidKinds := [.data, .listed, .data, .data, .data, .pinned, .data, .sentinel, .sentinel], laidTests := true, laidLooks := .later }
def EmitValidUptoCardSaid : Prop := Claim7.holds Tryz.pinned (.plain (OpenSpec.upto emitValidSpec)) emitValidUptoCard

/-- THE SECOND FORM's CARD OF 'drawloomlaw12.EmitDecodes'. -/
def emitDecodesUptoCard : Claim7 := { stood := { row := emitDecodesUptoRow, standIns := [], harness := (true, "6d1b779d12585a6fb9ecc4233f3c4b0bc0e30de49041bdbd54d476d82cec505d"), looks := true }, kinds := [], alts := [], laidByText := true, laidKinds := [.data, .listed, .data, .data, .data, .pinned, .data, .sentinel, .sentinel], laidTests := true, laidLooks := .later }
def EmitDecodesUptoCardSaid : Prop := Claim7.holds Tryz.pinned (.plain (OpenSpec.upto emitDecodesSpec)) emitDecodesUptoCard

/-- THE SECOND FORM's CARD OF 'drawloomlaw12.EmitAssembles'. -/
def emitAssemblesUptoCard : Claim7 := { stood := { row := emitAssemblesUptoRow, standIns := [], harness := (true, "6d1b779d12585a6fb9ecc4233f3c4b0bc0e30de49041bdbd54d476d82cec505d"), looks := true }, kinds := [], alts := [], laidByText := true, laidKinds := [.data, .listed, .data, .data, .data, .pinned, .data, .sentinel, .sentinel], laidTests := true, laidLooks := .later }
def EmitAssemblesUptoCardSaid : Prop := Claim7.holds Tryz.pinned (.plain (OpenSpec.upto emitAssemblesSpec)) emitAssemblesUptoCard

/-- THE SECOND FORM's CARD OF 'drawloomlaw12.EmitBack'. -/
def emitBackUptoCard : Claim7 := { stood := { row := emitBackUptoRow, standIns := [], harness := (true, "6d1b779d12585a6fb9ecc4233f3c4b0bc0e30de49041bdbd54d476d82cec505d"), looks := true }, kinds := [], alts := [], laidByText := true, laidKinds := [.data, .listed, .data, .data, .data, .pinned, .data, .sentinel, .sentinel], laidTests := true, laidLooks := .later }
def EmitBackUptoCardSaid : Prop := Claim7.holds Tryz.pinned (.plain (OpenSpec.upto emitBackSpec)) emitBackUptoCard
end Rows
end Go.Proofs.YtngeipnhbigdmaaGreatDoor
