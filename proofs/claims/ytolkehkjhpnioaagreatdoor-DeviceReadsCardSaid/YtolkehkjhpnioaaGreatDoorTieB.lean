/- One of the closed facts of the tie. No statement of the seat stands here. -/
import Derived.Test.YtolkehkjhpnioaaGreatDoorTieA
import Derived.KernelRfl
namespace Go.Proofs.YtolkehkjhpnioaaGreatDoor.deviceReads
open Go
theorem names : varsNamedLaterB Tryz.prog (varsId Tryz.prog) listed = true := by kernel_rfl
end Go.Proofs.YtolkehkjhpnioaaGreatDoor.deviceReads
