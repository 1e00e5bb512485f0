/- The table of the compiled functions, and the table of blanks as it lies in memory. No statement of the seat stands here. -/
import Derived.Test.YtngeipnhbigdmaaGreatDoorPl1
import Derived.Test.YtngeipnhbigdmaaGreatDoorPl2
import Derived.Test.YtngeipnhbigdmaaGreatDoorHlG
namespace Go.HL
open Go
noncomputable section
set_option maxRecDepth 1000000
def tb : T FFunc := tableOf Go.Proofs.Tryz.prog (plans1 ++ plans2)
theorem tb_ok : TableOk Go.Proofs.Tryz.prog tb := tableOf_ok (okPlans_app plans1_ok (plans2_ok))
def u8s : List Nat → List HVal
  | [] => []
  | n :: l => .int .u8 (.ofNat n) :: u8s l
def tab0L : List Nat := [0, 0, 0, 0, 0, 0, 0, 0, 0, 1, 1, 1, 1, 1, 0, 0, 0, 0, 0, 0, 0, 0, 0, 0, 0, 0, 0, 0, 0, 0, 0, 0, 1, 0, 0, 0, 0, 0, 0, 0, 0, 0, 0, 0, 0, 0, 0, 0, 0, 0, 0, 0, 0, 0, 0, 0, 0, 0, 0, 0, 0, 0, 0, 0, 0, 0, 0, 0, 0, 0, 0, 0, 0, 0, 0, 0, 0, 0, 0, 0, 0, 0, 0, 0, 0, 0, 0, 0, 0, 0, 0, 0, 0, 0, 0, 0, 0, 0, 0, 0, 0, 0, 0, 0, 0, 0, 0, 0, 0, 0, 0, 0, 0, 0, 0, 0, 0, 0, 0, 0, 0, 0, 0, 0, 0, 0, 0, 0, 0, 0, 0, 0, 0, 0, 0, 0, 0, 0, 0, 0, 0, 0, 0, 0, 0, 0, 0, 0, 0, 0, 0, 0, 0, 0, 0, 0, 0, 0, 0, 0, 0, 0, 0, 0, 0, 0, 0, 0, 0, 0, 0, 0, 0, 0, 0, 0, 0, 0, 0, 0, 0, 0, 0, 0, 0, 0, 0, 0, 0, 0, 0, 0, 0, 0, 0, 0, 0, 0, 0, 0, 0, 0, 0, 0, 0, 0, 0, 0, 0, 0, 0, 0, 0, 0, 0, 0, 0, 0, 0, 0, 0, 0, 0, 0, 0, 0, 0, 0, 0, 0, 0, 0, 0, 0, 0, 0, 0, 0, 0, 0, 0, 0, 0, 0, 0, 0, 0, 0, 0, 0, 0, 0, 0, 0, 0, 0]
def tab0O : HObj := .cells (u8s tab0L) 0 false false
theorem fine_of_run {K : CallFn} (hk : CallSound Go.Proofs.Tryz.prog K) {n : Nat} {e : Ent} (h : provedBy (runF Go.Proofs.Tryz.prog tb K n) e = true) : Fine Go.Proofs.Tryz.prog e :=
  ⟨runH Go.Proofs.Tryz.prog K n, run_sound hk n, by rw [← runF_eq tb_ok]; exact h⟩
end
end Go.HL
