/- Closed facts of the row and of the card. No statement of the seat stands here. -/
import Derived.Test.YtmogeiepmpidjaaGreatDoorRows
import Derived.JoinedCond
import Derived.SevenTiedAt
import Derived.KernelRfl
namespace Go.Proofs.YtmogeiepmpidjaaGreatDoor.deviceNone
open Go
theorem k24b : (Rows.deviceNoneRow.lifted == Tryz.pinned.checked.prog.liftsFinal) = true := by kernel_rfl
theorem k24c : (Tryz.pinned.checked.prog.make == some Rows.deviceNoneRow.make) = true := by kernel_rfl
theorem looksOn : true = Tryz.pinned.checked.prog.looks [] := by kernel_rfl
theorem wfText : Rows.deviceNoneRow.wfByText (OpenSpec.ofChange Rows.deviceNoneSpec) = true := by kernel_rfl
theorem mainIs : Tryz.pinned.checked.prog.mainIs = some (true, "62ebb7a23b254ea15f3b28b4e8f1980a1b7cbe6e5989ca3cdc5e9ad4de584677".toList) := by kernel_rfl
theorem wants9 : Tryz.prog.wantsStandIn 9 = false := by kernel_rfl
theorem wants3 : Tryz.prog.wantsStandIn 3 = false := by kernel_rfl
theorem fine0 : (List.range' 0 190).all (rowFine Tryz.pinned.checked.prog) = true := by kernel_rfl
theorem fine1 : (List.range' 190 190).all (rowFine Tryz.pinned.checked.prog) = true := by kernel_rfl
theorem fine2 : (List.range' 380 190).all (rowFine Tryz.pinned.checked.prog) = true := by kernel_rfl
theorem fine3 : (List.range' 570 191).all (rowFine Tryz.pinned.checked.prog) = true := by kernel_rfl
end Go.Proofs.YtmogeiepmpidjaaGreatDoor.deviceNone
