/- One of the closed facts of the tie. No statement of the seat stands here. -/
import Derived.Test.YtolkehkjhpnioaaGreatDoorTieA
import Derived.KernelRfl
namespace Go.Proofs.YtolkehkjhpnioaaGreatDoor.deviceReads
open Go
theorem run1 : ∀ os tape, (DataW.laidRun Tryz.prog (varsWorld Tryz.prog 400 (varsId Tryz.prog) os tape).memory 8 (listed.map (·.1))).map (·.1) = some listed := fun _ _ => by kernel_rfl
end Go.Proofs.YtolkehkjhpnioaaGreatDoor.deviceReads
