/- A call of the program's, known: number 4. The kernel runs it. No statement of the seat stands here. -/
import Derived.Test.YtngeipnhbigdmaaGreatDoorEnW
import Derived.KernelRfl
namespace Go.HL
open Go
set_option maxRecDepth 1000000
noncomputable section
def KC : qZ := {
  f := 59,
  args := [(.agg [(.str 1 107), (.slice 1189 0 1 none), .aD, (.int .i64 (.ofNat 2)), (.slice 1191 0 1 none)])],
  next := 1335,
  ln := [(0, fh),
    (1189, (.cells [(.str 1 97), (.bool true)] 70 true true)),
    (1191, (.cells [(.slice 1319 0 3 none), (.int .i64 (.ofNat 2)), (.int .i64 (.ofNat 0)), (.int .i64 (.ofNat 0)), (.int .i64 (.ofNat 0))] 108 true true)),
    (1319, (.cells [(.int .i64 (.ofNat 4)), (.int .i64 (.ofNat 0)), (.int .i64 (.ofNat 0)), (.int .i64 (.ofNat 0)), (.int .i64 (.ofNat 0)), (.int .i32 (.ofNat 0)), .aD, (.int .i64 (.ofNat 4)), (.int .i64 (.ofNat 0)), (.int .i64 (.ofNat 1)), (.int .i64 (.ofNat 0)), (.int .i64 (.ofNat 0)), (.int .i32 (.ofNat 0)), .aD, (.int .i64 (.ofNat 7)), (.int .i64 (.ofNat 0)), (.int .i64 (.ofNat 0)), (.int .i64 (.ofNat 0)), (.int .i64 (.ofNat 1)), (.int .i32 (.ofNat 0)), .aD] 111 true true))],
  res := (.tuple [(.agg [(.str 1 107), (.slice 1482 0 1 none), .aD, (.int .i64 (.ofNat 2)), (.slice 1484 0 1 none)]), (.int .i64 (.ofNat 0))]),
  next' := 2011,
  bJ := [(0, fh),
    (1189, (.cells [(.str 1 97), (.bool true)] 70 true true)),
    (1191, (.cells [(.slice 1319 0 3 none), (.int .i64 (.ofNat 2)), (.int .i64 (.ofNat 0)), (.int .i64 (.ofNat 0)), (.int .i64 (.ofNat 0))] 108 true true)),
    (1319, (.cells [(.int .i64 (.ofNat 4)), (.int .i64 (.ofNat 0)), (.int .i64 (.ofNat 0)), (.int .i64 (.ofNat 0)), (.int .i64 (.ofNat 0)), (.int .i32 (.ofNat 0)), .aD, (.int .i64 (.ofNat 4)), (.int .i64 (.ofNat 0)), (.int .i64 (.ofNat 1)), (.int .i64 (.ofNat 0)), (.int .i64 (.ofNat 0)), (.int .i32 (.ofNat 0)), .aD, (.int .i64 (.ofNat 7)), (.int .i64 (.ofNat 0)), (.int .i64 (.ofNat 0)), (.int .i64 (.ofNat 0)), (.int .i64 (.ofNat 1)), (.int .i32 (.ofNat 0)), .aD] 111 true true)),
    (1482, (.cells [(.str 1 97), (.bool true)] 70 true true)),
    (1484, (.cells [(.slice 1486 0 2 none), (.int .i64 (.ofNat 2)), (.int .i64 (.ofNat 0)), (.int .i64 (.ofNat 0)), (.int .i64 (.ofNat 0))] 108 true true)),
    (1486, (.cells [(.int .i64 (.ofNat 4)), (.int .i64 (.ofNat 0)), (.int .i64 (.ofNat 0)), (.int .i64 (.ofNat 0)), (.int .i64 (.ofNat 0)), (.int .i32 (.ofNat 0)), .aD, (.int .i64 (.ofNat 7)), (.int .i64 (.ofNat 0)), (.int .i64 (.ofNat 0)), (.int .i64 (.ofNat 0)), (.int .i64 (.ofNat 0)), (.int .i32 (.ofNat 0)), .aD, (.int .i64 (.ofNat 0)), (.int .i64 (.ofNat 0)), (.int .i64 (.ofNat 0)), (.int .i64 (.ofNat 0)), (.int .i64 (.ofNat 0)), (.int .i32 (.ofNat 0)), .aD] 111 true true))] }
theorem J1 : fR (zz Go.Proofs.Tryz.prog tb (kw) 100000) KC = true := by kernel_rfl
theorem Fu : oA Go.Proofs.Tryz.prog KC := fG (nc) J1
end
end Go.HL
