/- A call of the program's, known: number 1. The kernel runs it. No statement of the seat stands here. -/
import Derived.Test.YtfmflhdogffjoaaGreatDoorTb
import Derived.KernelRfl
namespace Go.HL
open Go
set_option maxRecDepth 1000000
noncomputable section
def ent1 : Ent := {
  f := 13,
  args := [(.agg [(.str 1 107), (.slice 7 0 1 (some 1)), .nils, (.int .i64 (.ofNat 2)), (.slice 9 0 1 (some 1))]), (.agg [(.str 1 107), (.int .i64 (.ofNat 1)), (.int .i64 (.ofNat 1)), (.slice 11 0 1 (some 1))]), (.slice 13 0 1 (some 1)), .nils, (.int .i64 (.ofNat 9))],
  next := 14,
  hin := [(0, tab0O),
    (7, (.cells [(.str 1 97), (.bool true)] 35 false true)),
    (8, (.cells [(.int .i64 (.ofNat 0)), (.int .i64 (.ofNat 0)), (.int .i64 (.ofNat 0)), (.int .i64 (.ofNat 0)), (.int .i64 (.ofNat 0)), (.int .i32 (.ofNat 7)), .nils, (.int .i64 (.ofNat 7)), (.int .i64 (.ofNat 0)), (.int .i64 (.ofNat 0)), (.int .i64 (.ofNat 1)), (.int .i64 (.ofNat 0)), (.int .i32 (.ofNat 0)), .nils] 43 false true)),
    (9, (.cells [(.slice 8 0 2 (some 2)), (.int .i64 (.ofNat 2)), (.int .i64 (.ofNat 0)), (.int .i64 (.ofNat 0)), (.int .i64 (.ofNat 0))] 40 false true)),
    (11, (.cells [(.int .i32 (.ofNat 0))] 21 false true)),
    (12, (.cells [(.int .i32 (.ofNat 1)), (.int .i32 (.ofNat 2))] 21 false true)),
    (13, (.cells [(.slice 12 0 2 (some 2))] 52 false true))],
  res := (.tuple [(.agg [(.int .i64 (.ofNat 0)), (.slice 74 0 1 none), .nils, (.int .i64 (.ofNat 3))]), (.int .i64 (.ofNat 0))]),
  next' := 100,
  hout := [(0, tab0O),
    (7, (.cells [(.str 1 97), (.bool true)] 35 false true)),
    (8, (.cells [(.int .i64 (.ofNat 0)), (.int .i64 (.ofNat 0)), (.int .i64 (.ofNat 0)), (.int .i64 (.ofNat 0)), (.int .i64 (.ofNat 0)), (.int .i32 (.ofNat 7)), .nils, (.int .i64 (.ofNat 7)), (.int .i64 (.ofNat 0)), (.int .i64 (.ofNat 0)), (.int .i64 (.ofNat 1)), (.int .i64 (.ofNat 0)), (.int .i32 (.ofNat 0)), .nils] 43 false true)),
    (9, (.cells [(.slice 8 0 2 (some 2)), (.int .i64 (.ofNat 2)), (.int .i64 (.ofNat 0)), (.int .i64 (.ofNat 0)), (.int .i64 (.ofNat 0))] 40 false true)),
    (11, (.cells [(.int .i32 (.ofNat 0))] 21 false true)),
    (12, (.cells [(.int .i32 (.ofNat 1)), (.int .i32 (.ofNat 2))] 21 false true)),
    (13, (.cells [(.slice 12 0 2 (some 2))] 52 false true)),
    (72, (.cells [(.int .i32 (.ofNat 7)), (.int .i32 (.ofNat 2))] 21 true true)),
    (74, (.cells [(.slice 72 0 2 none)] 52 true true))] }
theorem ent1_ok : provedBy (runF Go.Proofs.Tryz.prog tb (noneK) 100000) ent1 = true := by kernel_rfl
theorem ent1_fine : Fine Go.Proofs.Tryz.prog ent1 := fine_of_run (noneK_sound) ent1_ok
end
end Go.HL
