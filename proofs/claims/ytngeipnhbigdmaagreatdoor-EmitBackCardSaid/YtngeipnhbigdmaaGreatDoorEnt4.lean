/- A call of the program's, known: number 4. The kernel runs it. No statement of the seat stands here. -/
import Derived.Test.YtngeipnhbigdmaaGreatDoorEnW
import Derived.KernelRfl
namespace Go.HL
open Go
set_option maxRecDepth 1000000
noncomputable section
def NA : sh := {
  f := 59,
  args := [(.agg [(.str 1 107), (.slice 1189 0 1 none), .aC, (.int .i64 (.ofNat 2)), (.slice 1191 0 1 none)])],
  next := 1335,
  nk := [(0, fA),
    (1189, (.cells [(.str 1 97), (.bool true)] 70 true true)),
    (1191, (.cells [(.slice 1319 0 3 none), (.int .i64 (.ofNat 2)), (.int .i64 (.ofNat 0)), (.int .i64 (.ofNat 0)), (.int .i64 (.ofNat 0))] 108 true true)),
    (1319, (.cells [(.int .i64 (.ofNat 4)), (.int .i64 (.ofNat 0)), (.int .i64 (.ofNat 0)), (.int .i64 (.ofNat 0)), (.int .i64 (.ofNat 0)), (.int .i32 (.ofNat 0)), .aC, (.int .i64 (.ofNat 4)), (.int .i64 (.ofNat 0)), (.int .i64 (.ofNat 1)), (.int .i64 (.ofNat 0)), (.int .i64 (.ofNat 0)), (.int .i32 (.ofNat 0)), .aC, (.int .i64 (.ofNat 7)), (.int .i64 (.ofNat 0)), (.int .i64 (.ofNat 0)), (.int .i64 (.ofNat 0)), (.int .i64 (.ofNat 1)), (.int .i32 (.ofNat 0)), .aC] 111 true true))],
  res := (.tuple [(.agg [(.str 1 107), (.slice 1482 0 1 none), .aC, (.int .i64 (.ofNat 2)), (.slice 1484 0 1 none)]), (.int .i64 (.ofNat 0))]),
  next' := 2011,
  bO := [(0, fA),
    (1189, (.cells [(.str 1 97), (.bool true)] 70 true true)),
    (1191, (.cells [(.slice 1319 0 3 none), (.int .i64 (.ofNat 2)), (.int .i64 (.ofNat 0)), (.int .i64 (.ofNat 0)), (.int .i64 (.ofNat 0))] 108 true true)),
    (1319, (.cells [(.int .i64 (.ofNat 4)), (.int .i64 (.ofNat 0)), (.int .i64 (.ofNat 0)), (.int .i64 (.ofNat 0)), (.int .i64 (.ofNat 0)), (.int .i32 (.ofNat 0)), .aC, (.int .i64 (.ofNat 4)), (.int .i64 (.ofNat 0)), (.int .i64 (.ofNat 1)), (.int .i64 (.ofNat 0)), (.int .i64 (.ofNat 0)), (.int .i32 (.ofNat 0)), .aC, (.int .i64 (.ofNat 7)), (.int .i64 (.ofNat 0)), (.int .i64 (.ofNat 0)), (.int .i64 (.ofNat 0)), (.int .i64 (.ofNat 1)), (.int .i32 (.ofNat 0)), .aC] 111 true true)),
    (1482, (.cells [(.str 1 97), (.bool true)] 70 true true)),
    (1484, (.cells [(.slice 1486 0 2 none), (.int .i64 (.ofNat 2)), (.int .i64 (.ofNat 0)), (.int .i64 (.ofNat 0)), (.int .i64 (.ofNat 0))] 108 true true)),
    (1486, (.cells [(.int .i64 (.ofNat 4)), (.int .i64 (.ofNat 0)), (.int .i64 (.ofNat 0)), (.int .i64 (.ofNat 0)), (.int .i64 (.ofNat 0)), (.int .i32 (.ofNat 0)), .aC, (.int .i64 (.ofNat 7)), (.int .i64 (.ofNat 0)), (.int .i64 (.ofNat 0)), (.int .i64 (.ofNat 0)), (.int .i64 (.ofNat 0)), (.int .i32 (.ofNat 0)), .aC, (.int .i64 (.ofNat 0)), (.int .i64 (.ofNat 0)), (.int .i64 (.ofNat 0)), (.int .i64 (.ofNat 0)), (.int .i64 (.ofNat 0)), (.int .i32 (.ofNat 0)), .aC] 111 true true))] }
theorem Lr : gq (B4 Go.Proofs.Tryz.prog tb (kw) 100000) NA = true := by kernel_rfl
theorem Hq : pz Go.Proofs.Tryz.prog NA := fY (nX) Lr
end
end Go.HL
