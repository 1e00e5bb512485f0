/- A call of the program's, known: number 3. The kernel runs it. No statement of the seat stands here. -/
import Derived.Test.YtngeipnhbigdmaaGreatDoorEnW
import Derived.KernelRfl
namespace Go.HL
open Go
set_option maxRecDepth 1000000
noncomputable section
def NB : sh := {
  f := 63,
  args := [(.str 36 208635407113875701636278712673361187836628357301456904938955020905534475955243369308285)],
  next := 573,
  nk := [(0, fA)],
  res := (.tuple [(.agg [.aC, (.slice 881 0 1 none)]), (.int .i64 (.ofNat 0)), (.int .i64 (.ofNat 0))]),
  next' := 910,
  bO := [(0, fA),
    (670, (.cells [(.str 1 97), (.bool true)] 70 true true)),
    (873, (.cells [(.int .i64 (.ofNat 2)), (.int .i64 (.ofNat 0)), (.int .i32 (.ofNat 0)), (.str 0 0), .aC, (.int .i64 (.ofNat 2)), (.int .i64 (.ofNat 0)), (.int .i32 (.ofNat 0)), (.str 0 0), .aC] 422 false true)),
    (877, (.cells [(.int .i64 (.ofNat 2)), (.int .i64 (.ofNat 0)), (.str 1 97), (.slice 873 0 2 (some 2)), .aC, .aC] 367 true true)),
    (881, (.cells [(.str 1 107), (.slice 670 0 1 none), .aC, (.slice 877 0 1 none)] 174 true true))] }
theorem Ls : gq (B4 Go.Proofs.Tryz.prog tb (kw) 100000) NB = true := by kernel_rfl
theorem Hr : pz Go.Proofs.Tryz.prog NB := fY (nX) Ls
end
end Go.HL
