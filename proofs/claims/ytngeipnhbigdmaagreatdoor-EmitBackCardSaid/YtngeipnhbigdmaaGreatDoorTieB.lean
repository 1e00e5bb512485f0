/- One of the closed facts of the tie. No statement of the seat stands here. -/
import Derived.Test.YtngeipnhbigdmaaGreatDoorTieA
import Derived.KernelRfl
namespace Go.Proofs.YtngeipnhbigdmaaGreatDoor.emitBack
open Go
theorem names : varsNamedLaterB Tryz.prog (varsId Tryz.prog) listed = true := by kernel_rfl
end Go.Proofs.YtngeipnhbigdmaaGreatDoor.emitBack
