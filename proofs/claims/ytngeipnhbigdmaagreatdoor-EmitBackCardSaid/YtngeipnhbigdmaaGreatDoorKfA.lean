/- A closed fact of the row. No statement of the seat stands here. -/
import Derived.Test.YtngeipnhbigdmaaGreatDoorRows
import Derived.JoinedCond
import Derived.KernelRfl
namespace Go.Proofs.YtngeipnhbigdmaaGreatDoor.emitBack
open Go
theorem k10 : (Rows.emitBackRow.inPlace == Tryz.pinned.checked.prog.inPlace 6) = true := by kernel_rfl
end Go.Proofs.YtngeipnhbigdmaaGreatDoor.emitBack
