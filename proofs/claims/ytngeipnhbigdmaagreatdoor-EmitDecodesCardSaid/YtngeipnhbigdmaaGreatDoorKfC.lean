/- A closed fact of the row. No statement of the seat stands here. -/
import Derived.Test.YtngeipnhbigdmaaGreatDoorRows
import Derived.JoinedCond
import Derived.KernelRfl
namespace Go.Proofs.YtngeipnhbigdmaaGreatDoor.emitDecodes
open Go
theorem k12 : (Rows.emitDecodesRow.recurses == Tryz.pinned.checked.prog.recurses 4) = true := by kernel_rfl
end Go.Proofs.YtngeipnhbigdmaaGreatDoor.emitDecodes
