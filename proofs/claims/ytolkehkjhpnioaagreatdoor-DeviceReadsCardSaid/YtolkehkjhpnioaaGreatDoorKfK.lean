/- The closed facts of the row together. No statement of the seat stands here. -/
import Derived.Test.YtolkehkjhpnioaaGreatDoorKfA
import Derived.Test.YtolkehkjhpnioaaGreatDoorKfB
import Derived.Test.YtolkehkjhpnioaaGreatDoorKfC
import Derived.Test.YtolkehkjhpnioaaGreatDoorKfD
import Derived.Test.YtolkehkjhpnioaaGreatDoorKfE
import Derived.Test.YtolkehkjhpnioaaGreatDoorKfF
import Derived.Test.YtolkehkjhpnioaaGreatDoorKoA
namespace Go.Proofs.YtolkehkjhpnioaaGreatDoor.deviceReads
open Go
theorem k2 : laidOutB Tryz.pinned.checked.prog = true := by
  have hr : List.range 752 = List.range' 0 190 ++ (List.range' 190 190 ++ (List.range' 380 190 ++ List.range' 570 182)) := by
    rw [List.range_eq_range', List.range'_append, List.range'_append, List.range'_append]
  unfold laidOutB
  rw [globalsIn, paramsIn, typesN, hr, List.all_append, List.all_append, List.all_append, fine0, fine1, fine2, fine3]
  rfl
set_option maxRecDepth 100000 in
theorem closed : joinedFacts Tryz.pinned.checked.prog 3 Tryz.f3 (OpenSpec.ofChange Rows.deviceReadsSpec).bare Rows.deviceReadsRow = true := by
  unfold joinedFacts
  rw [k2, k3, k10, k11, k12, k13, k22, k23b, k24, k24b, k24c]
  kernel_rfl
end Go.Proofs.YtolkehkjhpnioaaGreatDoor.deviceReads
