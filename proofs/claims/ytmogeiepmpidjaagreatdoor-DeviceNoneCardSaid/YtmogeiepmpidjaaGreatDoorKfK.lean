/- The closed facts of the row together. No statement of the seat stands here. -/
import Derived.Test.YtmogeiepmpidjaaGreatDoorKfA
import Derived.Test.YtmogeiepmpidjaaGreatDoorKfB
import Derived.Test.YtmogeiepmpidjaaGreatDoorKfC
import Derived.Test.YtmogeiepmpidjaaGreatDoorKfD
import Derived.Test.YtmogeiepmpidjaaGreatDoorKfE
import Derived.Test.YtmogeiepmpidjaaGreatDoorKfF
import Derived.Test.YtmogeiepmpidjaaGreatDoorKoA
namespace Go.Proofs.YtmogeiepmpidjaaGreatDoor.deviceNone
open Go
theorem k2 : laidOutB Tryz.pinned.checked.prog = true := by
  have hr : List.range 761 = List.range' 0 190 ++ (List.range' 190 190 ++ (List.range' 380 190 ++ List.range' 570 191)) := by
    rw [List.range_eq_range', List.range'_append, List.range'_append, List.range'_append]
  unfold laidOutB
  rw [globalsIn, paramsIn, typesN, hr, List.all_append, List.all_append, List.all_append, fine0, fine1, fine2, fine3]
  rfl
set_option maxRecDepth 100000 in
theorem closed : joinedFacts Tryz.pinned.checked.prog 3 Tryz.f3 (OpenSpec.ofChange Rows.deviceNoneSpec).bare Rows.deviceNoneRow = true := by
  unfold joinedFacts
  rw [k2, k3, k10, k11, k12, k13, k22, k23b, k24, k24b, k24c]
  kernel_rfl
end Go.Proofs.YtmogeiepmpidjaaGreatDoor.deviceNone
