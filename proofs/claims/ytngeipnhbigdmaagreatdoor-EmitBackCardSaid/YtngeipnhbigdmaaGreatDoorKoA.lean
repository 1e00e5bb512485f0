/- Closed facts of the row and of the card. No statement of the seat stands here. -/
import Derived.Test.YtngeipnhbigdmaaGreatDoorRows
import Derived.JoinedCond
import Derived.SevenTiedAt
import Derived.KernelRfl
namespace Go.Proofs.YtngeipnhbigdmaaGreatDoor.emitBack
open Go
theorem k24b : (Rows.emitBackRow.lifted == Tryz.pinned.checked.prog.liftsFinal) = true := by kernel_rfl
theorem k24c : (Tryz.pinned.checked.prog.make == some Rows.emitBackRow.make) = true := by kernel_rfl
theorem looksOn : true = Tryz.pinned.checked.prog.looks [] := by kernel_rfl
theorem wfText : Rows.emitBackRow.wfByText (OpenSpec.ofChange Rows.emitBackSpec) = true := by kernel_rfl
theorem mainIs : Tryz.pinned.checked.prog.mainIs = some (true, "6d1b779d12585a6fb9ecc4233f3c4b0bc0e30de49041bdbd54d476d82cec505d".toList) := by kernel_rfl
theorem wants26 : Tryz.prog.wantsStandIn 26 = false := by kernel_rfl
theorem wants3 : Tryz.prog.wantsStandIn 3 = false := by kernel_rfl
theorem wants42 : Tryz.prog.wantsStandIn 42 = false := by kernel_rfl
theorem fine0 : (List.range' 0 130).all (rowFine Tryz.pinned.checked.prog) = true := by kernel_rfl
theorem fine1 : (List.range' 130 130).all (rowFine Tryz.pinned.checked.prog) = true := by kernel_rfl
theorem fine2 : (List.range' 260 130).all (rowFine Tryz.pinned.checked.prog) = true := by kernel_rfl
theorem fine3 : (List.range' 390 139).all (rowFine Tryz.pinned.checked.prog) = true := by kernel_rfl
end Go.Proofs.YtngeipnhbigdmaaGreatDoor.emitBack
