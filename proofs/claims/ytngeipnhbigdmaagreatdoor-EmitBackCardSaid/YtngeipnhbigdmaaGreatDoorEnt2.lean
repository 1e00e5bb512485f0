/- A call of the program's, known: number 2. The kernel runs it. No statement of the seat stands here. -/
import Derived.Test.YtngeipnhbigdmaaGreatDoorEnW
import Derived.KernelRfl
namespace Go.HL
open Go
set_option maxRecDepth 1000000
noncomputable section
def NC : sh := {
  f := 19,
  args := [(.str 60 1212544763159142185116560449286873580192191798156540303233824818453461037037069452634143177359260766438798420984112847727654584712044336015569930)],
  next := 112,
  nk := [(0, fA)],
  res := (.tuple [(.agg [(.str 1 107), (.slice 119 0 1 none), .aC, (.int .i64 (.ofNat 0)), (.slice 139 0 3 none)]), (.int .i64 (.ofNat 0))]),
  next' := 238,
  bO := [(0, fA),
    (119, (.cells [(.str 1 97), (.bool true)] 70 true true)),
    (139, (.cells [(.int .i64 (.ofNat 4)), (.int .i64 (.ofNat 0)), (.int .i64 (.ofNat 0)), (.int .i64 (.ofNat 0)), (.int .i64 (.ofNat 0)), (.int .i32 (.ofNat 0)), (.int .i64 (.ofNat 0)), (.int .i64 (.ofNat 0)), (.int .i64 (.ofNat 7)), (.int .i64 (.ofNat 0)), (.int .i64 (.ofNat 0)), (.int .i64 (.ofNat 0)), (.int .i64 (.ofNat 0)), (.int .i32 (.ofNat 0)), (.int .i64 (.ofNat 0)), (.int .i64 (.ofNat 0)), (.int .i64 (.ofNat 15)), (.int .i64 (.ofNat 0)), (.int .i64 (.ofNat 0)), (.int .i64 (.ofNat 0)), (.int .i64 (.ofNat 0)), (.int .i32 (.ofNat 0)), (.int .i64 (.ofNat 0)), (.int .i64 (.ofNat 0))] 74 true true))] }
theorem Lt : gq (B4 Go.Proofs.Tryz.prog tb (kw) 100000) NC = true := by kernel_rfl
theorem Hs : pz Go.Proofs.Tryz.prog NC := fY (nX) Lt
end
end Go.HL
