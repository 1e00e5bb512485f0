/- A closed fact of the row. No statement of the seat stands here. -/
import Derived.Test.YtngeipnhbigdmaaGreatDoorRows
import Derived.JoinedCond
import Derived.KernelRfl
namespace Go.Proofs.YtngeipnhbigdmaaGreatDoor.emitAssembles
open Go
theorem k11 : (Rows.emitAssemblesRow.unfollowed == Tryz.pinned.checked.prog.unfollowed 5) = true := by kernel_rfl
end Go.Proofs.YtngeipnhbigdmaaGreatDoor.emitAssembles
