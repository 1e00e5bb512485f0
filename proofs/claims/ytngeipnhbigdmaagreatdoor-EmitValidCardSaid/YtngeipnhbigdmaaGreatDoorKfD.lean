/- A closed fact of the row. No statement of the seat stands here. -/
import Derived.Test.YtngeipnhbigdmaaGreatDoorRows
import Derived.JoinedCond
import Derived.KernelRfl
namespace Go.Proofs.YtngeipnhbigdmaaGreatDoor.emitValid
open Go
theorem k13 : (Rows.emitValidRow.named == Tryz.pinned.checked.prog.varsNamed 3) = true := by kernel_rfl
end Go.Proofs.YtngeipnhbigdmaaGreatDoor.emitValid
