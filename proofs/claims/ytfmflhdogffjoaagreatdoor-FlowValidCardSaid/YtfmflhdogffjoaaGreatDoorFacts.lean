/- The closed facts of the row. No statement of the seat stands here. -/
import Derived.Test.YtfmflhdogffjoaaGreatDoorRows
import Derived.JoinedCond
import Derived.SevenTiedAt
import Derived.KernelRfl
namespace Go.Proofs.YtfmflhdogffjoaaGreatDoor.flowValid
open Go
theorem k2 : laidOutB Tryz.pinned.checked.prog = true := by kernel_rfl
theorem k3 : mapsRowed Tryz.pinned.checked.prog = true := by kernel_rfl
theorem k10 : (Rows.flowValidRow.inPlace == Tryz.pinned.checked.prog.inPlace 3) = true := by kernel_rfl
theorem k11 : (Rows.flowValidRow.unfollowed == Tryz.pinned.checked.prog.unfollowed 3) = true := by kernel_rfl
theorem k12 : (Rows.flowValidRow.recurses == Tryz.pinned.checked.prog.recurses 3) = true := by kernel_rfl
theorem k13 : (Rows.flowValidRow.named == Tryz.pinned.checked.prog.varsNamed 3) = true := by kernel_rfl
theorem k22 : (Rows.flowValidRow.plainKeys == Tryz.pinned.checked.prog.plainKeys) = true := by kernel_rfl
theorem k23b : Tryz.pinned.checked.prog.stopsHeard = true := by kernel_rfl
theorem k24 : Tryz.pinned.checked.prog.mayEnter = true := by kernel_rfl
theorem k24b : (Rows.flowValidRow.lifted == Tryz.pinned.checked.prog.liftsFinal) = true := by kernel_rfl
theorem k24c : (Tryz.pinned.checked.prog.make == some Rows.flowValidRow.make) = true := by kernel_rfl
theorem looksOn : true = Tryz.pinned.checked.prog.looks [] := by kernel_rfl
theorem wfText : Rows.flowValidRow.wfByText (OpenSpec.ofChange Rows.flowValidSpec) = true := by kernel_rfl
set_option maxRecDepth 100000 in
theorem closed : joinedFacts Tryz.pinned.checked.prog 3 Tryz.f3 (OpenSpec.ofChange Rows.flowValidSpec).bare Rows.flowValidRow = true := by
  unfold joinedFacts
  rw [k2, k3, k10, k11, k12, k13, k22, k23b, k24, k24b, k24c]
  kernel_rfl
end Go.Proofs.YtfmflhdogffjoaaGreatDoor.flowValid
