/- A closed fact of the row. No statement of the seat stands here. -/
import Derived.Test.YtmogeiepmpidjaaGreatDoorRows
import Derived.JoinedCond
import Derived.KernelRfl
namespace Go.Proofs.YtmogeiepmpidjaaGreatDoor.deviceNone
open Go
theorem k11 : (Rows.deviceNoneRow.unfollowed == Tryz.pinned.checked.prog.unfollowed 3) = true := by kernel_rfl
end Go.Proofs.YtmogeiepmpidjaaGreatDoor.deviceNone
