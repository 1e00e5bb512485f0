/- One of the closed facts of the tie. No statement of the seat stands here. -/
import Derived.Test.YtolkehkjhpnioaaGreatDoorTieA
import Derived.KernelRfl
namespace Go.Proofs.YtolkehkjhpnioaaGreatDoor.deviceReads
open Go
theorem run3 : ∀ os tape, laidRowsB Tryz.prog (varsWorld Tryz.prog 400 (varsId Tryz.prog) os tape).memory (rowsOf blocks) = true := fun _ _ => by kernel_rfl
end Go.Proofs.YtolkehkjhpnioaaGreatDoor.deviceReads
