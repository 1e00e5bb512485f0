/- A call of the program's, known: number 5. The kernel runs it. No statement of the seat stands here. -/
import Derived.Test.YtngeipnhbigdmaaGreatDoorEnW
import Derived.Test.YtngeipnhbigdmaaGreatDoorEnt4
import Derived.KernelRfl
namespace Go.HL
open Go
set_option maxRecDepth 1000000
noncomputable section
def Nz : sh := {
  f := 25,
  args := [(.agg [.aC, (.slice 881 0 1 none)]), (.str 1 107)],
  next := 911,
  nk := [(0, fA),
    (670, (.cells [(.str 1 97), (.bool true)] 70 true true)),
    (873, (.cells [(.int .i64 (.ofNat 2)), (.int .i64 (.ofNat 0)), (.int .i32 (.ofNat 0)), (.str 0 0), .aC, (.int .i64 (.ofNat 2)), (.int .i64 (.ofNat 0)), (.int .i32 (.ofNat 0)), (.str 0 0), .aC] 422 false true)),
    (877, (.cells [(.int .i64 (.ofNat 2)), (.int .i64 (.ofNat 0)), (.str 1 97), (.slice 873 0 2 (some 2)), .aC, .aC] 367 true true)),
    (881, (.cells [(.str 1 107), (.slice 670 0 1 none), .aC, (.slice 877 0 1 none)] 174 true true))],
  res := (.tuple [(.agg [(.str 1 107), (.slice 2594 0 1 none), .aC, (.int .i64 (.ofNat 0)), (.slice 2592 0 3 none)]), (.int .i64 (.ofNat 0))]),
  next' := 2595,
  bO := [(0, fA),
    (670, (.cells [(.str 1 97), (.bool true)] 70 true true)),
    (873, (.cells [(.int .i64 (.ofNat 2)), (.int .i64 (.ofNat 0)), (.int .i32 (.ofNat 0)), (.str 0 0), .aC, (.int .i64 (.ofNat 2)), (.int .i64 (.ofNat 0)), (.int .i32 (.ofNat 0)), (.str 0 0), .aC] 422 false true)),
    (877, (.cells [(.int .i64 (.ofNat 2)), (.int .i64 (.ofNat 0)), (.str 1 97), (.slice 873 0 2 (some 2)), .aC, .aC] 367 true true)),
    (881, (.cells [(.str 1 107), (.slice 670 0 1 none), .aC, (.slice 877 0 1 none)] 174 true true)),
    (2592, (.cells [(.int .i64 (.ofNat 4)), (.int .i64 (.ofNat 0)), (.int .i64 (.ofNat 0)), (.int .i64 (.ofNat 0)), (.int .i64 (.ofNat 0)), (.int .i32 (.ofNat 0)), (.int .i64 (.ofNat 0)), (.int .i64 (.ofNat 0)), (.int .i64 (.ofNat 7)), (.int .i64 (.ofNat 0)), (.int .i64 (.ofNat 0)), (.int .i64 (.ofNat 0)), (.int .i64 (.ofNat 0)), (.int .i32 (.ofNat 0)), (.int .i64 (.ofNat 0)), (.int .i64 (.ofNat 0)), (.int .i64 (.ofNat 15)), (.int .i64 (.ofNat 0)), (.int .i64 (.ofNat 0)), (.int .i64 (.ofNat 0)), (.int .i64 (.ofNat 0)), (.int .i32 (.ofNat 0)), (.int .i64 (.ofNat 0)), (.int .i64 (.ofNat 0))] 74 true true)),
    (2594, (.cells [(.str 1 97), (.bool true)] 70 true true))] }
theorem Lq : gq (B4 Go.Proofs.Tryz.prog tb (PF (known [NA]) kw) 100000) Nz = true := by kernel_rfl
theorem Hp : pz Go.Proofs.Tryz.prog Nz := fY (yF (nY (p7 Hq (BY))) nX) Lq
end
end Go.HL
