/- One of the closed facts of the tie. No statement of the seat stands here. -/
import Derived.Test.YtolkehkjhpnioaaGreatDoorTieA
import Derived.KernelRfl
namespace Go.Proofs.YtolkehkjhpnioaaGreatDoor.deviceReads
open Go
theorem done : ∀ os tape, varsDone Tryz.prog 400 (varsId Tryz.prog) os tape = true := fun _ _ => by kernel_rfl
end Go.Proofs.YtolkehkjhpnioaaGreatDoor.deviceReads
