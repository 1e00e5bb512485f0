/- The table of the compiled functions, and the table of blanks as it lies in memory. No statement of the seat stands here. -/
import Derived.Test.YtolkehkjhpnioaaGreatDoorPl1
import Derived.Test.YtolkehkjhpnioaaGreatDoorPl2
import Derived.Test.YtolkehkjhpnioaaGreatDoorPl3
import Derived.Test.YtolkehkjhpnioaaGreatDoorPl4
import Derived.Test.YtolkehkjhpnioaaGreatDoorPl5
import Derived.Test.YtolkehkjhpnioaaGreatDoorHlG
namespace Go.HL
open Go
noncomputable section
set_option maxRecDepth 1000000
def tb : T FFunc := tableOf Go.Proofs.Tryz.prog (plans1 ++ (plans2 ++ (plans3 ++ (plans4 ++ plans5))))
theorem tb_ok : TableOk Go.Proofs.Tryz.prog tb := tableOf_ok (okPlans_app plans1_ok (okPlans_app plans2_ok (okPlans_app plans3_ok (okPlans_app plans4_ok (plans5_ok)))))
def u8s : List Nat → List HVal
  | [] => []
  | n :: l => .int .u8 (.ofNat n) :: u8s l
def tab4L : List Nat := [0, 1, 28, 2, 29, 14, 24, 3, 30, 22, 20, 15, 25, 17, 4, 8, 31, 27, 13, 23, 21, 19, 16, 7, 26, 12, 18, 6, 11, 5, 10, 9]
def tab4O : HObj := .cells (u8s tab4L) 0 false false
def tab8L : List Nat := [0, 0, 0, 0, 0, 0, 0, 0, 0, 1, 1, 1, 1, 1, 0, 0, 0, 0, 0, 0, 0, 0, 0, 0, 0, 0, 0, 0, 0, 0, 0, 0, 1, 0, 0, 0, 0, 0, 0, 0, 0, 0, 0, 0, 0, 0, 0, 0, 0, 0, 0, 0, 0, 0, 0, 0, 0, 0, 0, 0, 0, 0, 0, 0, 0, 0, 0, 0, 0, 0, 0, 0, 0, 0, 0, 0, 0, 0, 0, 0, 0, 0, 0, 0, 0, 0, 0, 0, 0, 0, 0, 0, 0, 0, 0, 0, 0, 0, 0, 0, 0, 0, 0, 0, 0, 0, 0, 0, 0, 0, 0, 0, 0, 0, 0, 0, 0, 0, 0, 0, 0, 0, 0, 0, 0, 0, 0, 0, 0, 0, 0, 0, 0, 0, 0, 0, 0, 0, 0, 0, 0, 0, 0, 0, 0, 0, 0, 0, 0, 0, 0, 0, 0, 0, 0, 0, 0, 0, 0, 0, 0, 0, 0, 0, 0, 0, 0, 0, 0, 0, 0, 0, 0, 0, 0, 0, 0, 0, 0, 0, 0, 0, 0, 0, 0, 0, 0, 0, 0, 0, 0, 0, 0, 0, 0, 0, 0, 0, 0, 0, 0, 0, 0, 0, 0, 0, 0, 0, 0, 0, 0, 0, 0, 0, 0, 0, 0, 0, 0, 0, 0, 0, 0, 0, 0, 0, 0, 0, 0, 0, 0, 0, 0, 0, 0, 0, 0, 0, 0, 0, 0, 0, 0, 0, 0, 0, 0, 0, 0, 0, 0, 0, 0, 0, 0, 0]
def tab8O : HObj := .cells (u8s tab8L) 0 false false
theorem fine_of_run {K : CallFn} (hk : CallSound Go.Proofs.Tryz.prog K) {n : Nat} {e : Ent} (h : provedBy (runF Go.Proofs.Tryz.prog tb K n) e = true) : Fine Go.Proofs.Tryz.prog e :=
  ⟨runH Go.Proofs.Tryz.prog K n, run_sound hk n, by rw [← runF_eq tb_ok]; exact h⟩
end
end Go.HL
