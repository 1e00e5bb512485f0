/- A call of the program's, known: number 4. The kernel runs it. No statement of the seat stands here. -/
import Derived.Test.YtngeipnhbigdmaaGreatDoorEnW
import Derived.KernelRfl
namespace Go.HL
open Go
set_option maxRecDepth 1000000
noncomputable section
def ent4 : Ent := {
  f := 59,
  args := [(.agg [(.str 1 107), (.slice 1189 0 1 none), .nils, (.int .i64 (.ofNat 2)), (.slice 1191 0 1 none)])],
  next := 1335,
  hin := [(0, tab0O),
    (1189, (.cells [(.str 1 97), (.bool true)] 70 true true)),
    (1191, (.cells [(.slice 1319 0 3 none), (.int .i64 (.ofNat 2)), (.int .i64 (.ofNat 0)), (.int .i64 (.ofNat 0)), (.int .i64 (.ofNat 0))] 108 true true)),
    (1319, (.cells [(.int .i64 (.ofNat 4)), (.int .i64 (.ofNat 0)), (.int .i64 (.ofNat 0)), (.int .i64 (.ofNat 0)), (.int .i64 (.ofNat 0)), (.int .i32 (.ofNat 0)), .nils, (.int .i64 (.ofNat 4)), (.int .i64 (.ofNat 0)), (.int .i64 (.ofNat 1)), (.int .i64 (.ofNat 0)), (.int .i64 (.ofNat 0)), (.int .i32 (.ofNat 0)), .nils, (.int .i64 (.ofNat 7)), (.int .i64 (.ofNat 0)), (.int .i64 (.ofNat 0)), (.int .i64 (.ofNat 0)), (.int .i64 (.ofNat 1)), (.int .i32 (.ofNat 0)), .nils] 111 true true))],
  res := (.tuple [(.agg [(.str 1 107), (.slice 1482 0 1 none), .nils, (.int .i64 (.ofNat 2)), (.slice 1484 0 1 none)]), (.int .i64 (.ofNat 0))]),
  next' := 2011,
  hout := [(0, tab0O),
    (1189, (.cells [(.str 1 97), (.bool true)] 70 true true)),
    (1191, (.cells [(.slice 1319 0 3 none), (.int .i64 (.ofNat 2)), (.int .i64 (.ofNat 0)), (.int .i64 (.ofNat 0)), (.int .i64 (.ofNat 0))] 108 true true)),
    (1319, (.cells [(.int .i64 (.ofNat 4)), (.int .i64 (.ofNat 0)), (.int .i64 (.ofNat 0)), (.int .i64 (.ofNat 0)), (.int .i64 (.ofNat 0)), (.int .i32 (.ofNat 0)), .nils, (.int .i64 (.ofNat 4)), (.int .i64 (.ofNat 0)), (.int .i64 (.ofNat 1)), (.int .i64 (.ofNat 0)), (.int .i64 (.ofNat 0)), (.int .i32 (.ofNat 0)), .nils, (.int .i64 (.ofNat 7)), (.int .i64 (.ofNat 0)), (.int .i64 (.ofNat 0)), (.int .i64 (.ofNat 0)), (.int .i64 (.ofNat 1)), (.int .i32 (.ofNat 0)), .nils] 111 true true)),
    (1482, (.cells [(.str 1 97), (.bool true)] 70 true true)),
    (1484, (.cells [(.slice 1486 0 2 none), (.int .i64 (.ofNat 2)), (.int .i64 (.ofNat 0)), (.int .i64 (.ofNat 0)), (.int .i64 (.ofNat 0))] 108 true true)),
    (1486, (.cells [(.int .i64 (.ofNat 4)), (.int .i64 (.ofNat 0)), (.int .i64 (.ofNat 0)), (.int .i64 (.ofNat 0)), (.int .i64 (.ofNat 0)), (.int .i32 (.ofNat 0)), .nils, (.int .i64 (.ofNat 7)), (.int .i64 (.ofNat 0)), (.int .i64 (.ofNat 0)), (.int .i64 (.ofNat 0)), (.int .i64 (.ofNat 0)), (.int .i32 (.ofNat 0)), .nils, (.int .i64 (.ofNat 0)), (.int .i64 (.ofNat 0)), (.int .i64 (.ofNat 0)), (.int .i64 (.ofNat 0)), (.int .i64 (.ofNat 0)), (.int .i32 (.ofNat 0)), .nils] 111 true true))] }
theorem ent4_ok : provedBy (runF Go.Proofs.Tryz.prog tb (kw) 100000) ent4 = true := by kernel_rfl
theorem ent4_fine : Fine Go.Proofs.Tryz.prog ent4 := fine_of_run (kw_sound) ent4_ok
end
end Go.HL
