/- Closed facts of the row and of the card. No statement of the seat stands here. -/
import Derived.Test.YtolkehkjhpnioaaGreatDoorRows
import Derived.JoinedCond
import Derived.SevenTiedAt
import Derived.KernelRfl
namespace Go.Proofs.YtolkehkjhpnioaaGreatDoor.deviceReads
open Go
theorem k24b : (Rows.deviceReadsRow.lifted == Tryz.pinned.checked.prog.liftsFinal) = true := by kernel_rfl
theorem k24c : (Tryz.pinned.checked.prog.make == some Rows.deviceReadsRow.make) = true := by kernel_rfl
theorem looksOn : true = Tryz.pinned.checked.prog.looks [] := by kernel_rfl
theorem wfText : Rows.deviceReadsRow.wfByText (OpenSpec.ofChange Rows.deviceReadsSpec) = true := by kernel_rfl
theorem mainIs : Tryz.pinned.checked.prog.mainIs = some (true, "70ba4d0aa89c8b4a4c7495c812c261c10f9a1e3ea949241830ed12ed480a35a2".toList) := by kernel_rfl
theorem wants22 : Tryz.prog.wantsStandIn 22 = false := by kernel_rfl
theorem wants5 : Tryz.prog.wantsStandIn 5 = false := by kernel_rfl
theorem fine0 : (List.range' 0 190).all (rowFine Tryz.pinned.checked.prog) = true := by kernel_rfl
theorem fine1 : (List.range' 190 190).all (rowFine Tryz.pinned.checked.prog) = true := by kernel_rfl
theorem fine2 : (List.range' 380 190).all (rowFine Tryz.pinned.checked.prog) = true := by kernel_rfl
theorem fine3 : (List.range' 570 182).all (rowFine Tryz.pinned.checked.prog) = true := by kernel_rfl
end Go.Proofs.YtolkehkjhpnioaaGreatDoor.deviceReads
