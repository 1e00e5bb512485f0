/- A call of the program's, known: number 3. The kernel runs it. No statement of the seat stands here. -/
import Derived.Test.YtfmflhdogffjoaaGreatDoorTb
import Derived.KernelRfl
namespace Go.HL
open Go
set_option maxRecDepth 1000000
noncomputable section
def ent3 : Ent := {
  f := 16,
  args := [(.agg [.nils, (.slice 398 0 1 none)]), (.str 1 107)],
  next := 428,
  hin := [(0, tab0O),
    (197, (.cells [(.str 1 97), (.bool true)] 35 true true)),
    (390, (.cells [(.int .i64 (.ofNat 0)), (.int .i64 (.ofNat 0)), (.int .i32 (.ofNat 0)), (.str 0 0), .nils, (.int .i64 (.ofNat 0)), (.int .i64 (.ofNat 0)), (.int .i32 (.ofNat 7)), (.str 0 0), .nils] 215 false true)),
    (394, (.cells [(.int .i64 (.ofNat 2)), (.int .i64 (.ofNat 0)), (.str 1 97), (.slice 390 0 2 (some 2)), .nils, .nils] 175 true true)),
    (398, (.cells [(.str 1 107), (.slice 197 0 1 none), .nils, (.slice 394 0 1 none)] 90 true true))],
  res := (.tuple [(.agg [(.str 1 107), (.slice 583 0 1 none), .nils, (.int .i64 (.ofNat 2)), (.slice 637 0 1 none)]), (.int .i64 (.ofNat 0))]),
  next' := 640,
  hout := [(0, tab0O),
    (197, (.cells [(.str 1 97), (.bool true)] 35 true true)),
    (390, (.cells [(.int .i64 (.ofNat 0)), (.int .i64 (.ofNat 0)), (.int .i32 (.ofNat 0)), (.str 0 0), .nils, (.int .i64 (.ofNat 0)), (.int .i64 (.ofNat 0)), (.int .i32 (.ofNat 7)), (.str 0 0), .nils] 215 false true)),
    (394, (.cells [(.int .i64 (.ofNat 2)), (.int .i64 (.ofNat 0)), (.str 1 97), (.slice 390 0 2 (some 2)), .nils, .nils] 175 true true)),
    (398, (.cells [(.str 1 107), (.slice 197 0 1 none), .nils, (.slice 394 0 1 none)] 90 true true)),
    (583, (.cells [(.str 1 97), (.bool true)] 35 true true)),
    (629, (.cells [(.int .i64 (.ofNat 0)), (.int .i64 (.ofNat 0)), (.int .i64 (.ofNat 0)), (.int .i64 (.ofNat 0)), (.int .i64 (.ofNat 0)), (.int .i32 (.ofNat 0)), .nils, (.int .i64 (.ofNat 0)), (.int .i64 (.ofNat 0)), (.int .i64 (.ofNat 1)), (.int .i64 (.ofNat 0)), (.int .i64 (.ofNat 0)), (.int .i32 (.ofNat 7)), .nils, (.int .i64 (.ofNat 7)), (.int .i64 (.ofNat 0)), (.int .i64 (.ofNat 0)), (.int .i64 (.ofNat 0)), (.int .i64 (.ofNat 1)), (.int .i32 (.ofNat 0)), .nils] 43 true true)),
    (637, (.cells [(.slice 629 0 3 none), (.int .i64 (.ofNat 2)), (.int .i64 (.ofNat 0)), (.int .i64 (.ofNat 0)), (.int .i64 (.ofNat 0))] 40 true true))] }
theorem ent3_ok : provedBy (runF Go.Proofs.Tryz.prog tb (noneK) 100000) ent3 = true := by kernel_rfl
theorem ent3_fine : Fine Go.Proofs.Tryz.prog ent3 := fine_of_run (noneK_sound) ent3_ok
end
end Go.HL
