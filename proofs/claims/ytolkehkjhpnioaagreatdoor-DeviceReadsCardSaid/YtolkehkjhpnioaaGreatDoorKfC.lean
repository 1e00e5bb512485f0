/- A closed fact of the row. No statement of the seat stands here. -/
import Derived.Test.YtolkehkjhpnioaaGreatDoorRows
import Derived.JoinedCond
import Derived.KernelRfl
namespace Go.Proofs.YtolkehkjhpnioaaGreatDoor.deviceReads
open Go
theorem k12 : (Rows.deviceReadsRow.recurses == Tryz.pinned.checked.prog.recurses 3) = true := by kernel_rfl
end Go.Proofs.YtolkehkjhpnioaaGreatDoor.deviceReads
