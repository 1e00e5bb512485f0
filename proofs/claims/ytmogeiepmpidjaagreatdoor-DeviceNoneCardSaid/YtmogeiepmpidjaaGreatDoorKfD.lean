/- A closed fact of the row. No statement of the seat stands here. -/
import Derived.Test.YtmogeiepmpidjaaGreatDoorRows
import Derived.JoinedCond
import Derived.KernelRfl
namespace Go.Proofs.YtmogeiepmpidjaaGreatDoor.deviceNone
open Go
theorem k13 : (Rows.deviceNoneRow.named == Tryz.pinned.checked.prog.varsNamed 3) = true := by kernel_rfl
end Go.Proofs.YtmogeiepmpidjaaGreatDoor.deviceNone
