/- The closed facts of the row together. No statement of the seat stands here. -/
import Derived.Test.YtngeipnhbigdmaaGreatDoorKfA
import Derived.Test.YtngeipnhbigdmaaGreatDoorKfB
import Derived.Test.YtngeipnhbigdmaaGreatDoorKfC
import Derived.Test.YtngeipnhbigdmaaGreatDoorKfD
import Derived.Test.YtngeipnhbigdmaaGreatDoorKfE
import Derived.Test.YtngeipnhbigdmaaGreatDoorKfF
import Derived.Test.YtngeipnhbigdmaaGreatDoorKoA
namespace Go.Proofs.YtngeipnhbigdmaaGreatDoor.emitBack
open Go
theorem k2 : laidOutB Tryz.pinned.checked.prog = true := by
  have hr : List.range 529 = List.range' 0 130 ++ (List.range' 130 130 ++ (List.range' 260 130 ++ List.range' 390 139)) := by
    rw [List.range_eq_range', List.range'_append, List.range'_append, List.range'_append]
  unfold laidOutB
  rw [globalsIn, paramsIn, typesN, hr, List.all_append, List.all_append, List.all_append, fine0, fine1, fine2, fine3]
  rfl
set_option maxRecDepth 100000 in
theorem closed : joinedFacts Tryz.pinned.checked.prog 6 Tryz.f6 (OpenSpec.ofChange Rows.emitBackSpec).bare Rows.emitBackRow = true := by
  unfold joinedFacts
  rw [k2, k3, k10, k11, k12, k13, k22, k23b, k24, k24b, k24c]
  kernel_rfl
end Go.Proofs.YtngeipnhbigdmaaGreatDoor.emitBack
