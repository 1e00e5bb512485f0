/- A call of the program's, known: number 2. The kernel runs it. No statement of the seat stands here. -/
import Derived.Test.YtngeipnhbigdmaaGreatDoorEnW
import Derived.KernelRfl
namespace Go.HL
open Go
set_option maxRecDepth 1000000
noncomputable section
def ent2 : Ent := {
  f := 19,
  args := [(.str 60 1212544763159142185116560449286873580192191798156540303233824818453461037037069452634143177359260766438798420984112847727654584712044336015569930)],
  next := 112,
  hin := [(0, tab0O)],
  res := (.tuple [(.agg [(.str 1 107), (.slice 119 0 1 none), .nils, (.int .i64 (.ofNat 0)), (.slice 139 0 3 none)]), (.int .i64 (.ofNat 0))]),
  next' := 238,
  hout := [(0, tab0O),
    (119, (.cells [(.str 1 97), (.bool true)] 70 true true)),
    (139, (.cells [(.int .i64 (.ofNat 4)), (.int .i64 (.ofNat 0)), (.int .i64 (.ofNat 0)), (.int .i64 (.ofNat 0)), (.int .i64 (.ofNat 0)), (.int .i32 (.ofNat 0)), (.int .i64 (.ofNat 0)), (.int .i64 (.ofNat 0)), (.int .i64 (.ofNat 7)), (.int .i64 (.ofNat 0)), (.int .i64 (.ofNat 0)), (.int .i64 (.ofNat 0)), (.int .i64 (.ofNat 0)), (.int .i32 (.ofNat 0)), (.int .i64 (.ofNat 0)), (.int .i64 (.ofNat 0)), (.int .i64 (.ofNat 15)), (.int .i64 (.ofNat 0)), (.int .i64 (.ofNat 0)), (.int .i64 (.ofNat 0)), (.int .i64 (.ofNat 0)), (.int .i32 (.ofNat 0)), (.int .i64 (.ofNat 0)), (.int .i64 (.ofNat 0))] 74 true true))] }
theorem ent2_ok : provedBy (runF Go.Proofs.Tryz.prog tb (kw) 100000) ent2 = true := by kernel_rfl
theorem ent2_fine : Fine Go.Proofs.Tryz.prog ent2 := fine_of_run (kw_sound) ent2_ok
end
end Go.HL
