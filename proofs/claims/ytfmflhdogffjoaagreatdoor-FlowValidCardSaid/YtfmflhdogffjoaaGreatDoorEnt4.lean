/- A call of the program's, known: number 4. The kernel runs it. No statement of the seat stands here. -/
import Derived.Test.YtfmflhdogffjoaaGreatDoorTb
import Derived.KernelRfl
namespace Go.HL
open Go
set_option maxRecDepth 1000000
noncomputable section
def ent4 : Ent := {
  f := 13,
  args := [(.agg [(.str 1 107), (.slice 583 0 1 none), .nils, (.int .i64 (.ofNat 2)), (.slice 637 0 1 none)]), (.agg [(.str 1 107), (.int .i64 (.ofNat 1)), (.int .i64 (.ofNat 1)), (.slice 645 0 1 (some 1))]), (.slice 642 0 1 (some 1)), .nils, (.int .i64 (.ofNat 100000))],
  next := 646,
  hin := [(0, tab0O),
    (583, (.cells [(.str 1 97), (.bool true)] 35 true true)),
    (629, (.cells [(.int .i64 (.ofNat 0)), (.int .i64 (.ofNat 0)), (.int .i64 (.ofNat 0)), (.int .i64 (.ofNat 0)), (.int .i64 (.ofNat 0)), (.int .i32 (.ofNat 0)), .nils, (.int .i64 (.ofNat 0)), (.int .i64 (.ofNat 0)), (.int .i64 (.ofNat 1)), (.int .i64 (.ofNat 0)), (.int .i64 (.ofNat 0)), (.int .i32 (.ofNat 7)), .nils, (.int .i64 (.ofNat 7)), (.int .i64 (.ofNat 0)), (.int .i64 (.ofNat 0)), (.int .i64 (.ofNat 0)), (.int .i64 (.ofNat 1)), (.int .i32 (.ofNat 0)), .nils] 43 true true)),
    (637, (.cells [(.slice 629 0 3 none), (.int .i64 (.ofNat 2)), (.int .i64 (.ofNat 0)), (.int .i64 (.ofNat 0)), (.int .i64 (.ofNat 0))] 40 true true)),
    (641, (.cells [(.int .i32 (.ofNat 1)), (.int .i32 (.ofNat 2))] 21 false true)),
    (642, (.cells [(.slice 641 0 2 (some 2))] 52 false true)),
    (645, (.cells [(.int .i32 (.ofNat 0))] 21 false true))],
  res := (.tuple [(.agg [(.int .i64 (.ofNat 0)), (.slice 717 0 1 none), .nils, (.int .i64 (.ofNat 4))]), (.int .i64 (.ofNat 0))]),
  next' := 747,
  hout := [(0, tab0O),
    (583, (.cells [(.str 1 97), (.bool true)] 35 true true)),
    (629, (.cells [(.int .i64 (.ofNat 0)), (.int .i64 (.ofNat 0)), (.int .i64 (.ofNat 0)), (.int .i64 (.ofNat 0)), (.int .i64 (.ofNat 0)), (.int .i32 (.ofNat 0)), .nils, (.int .i64 (.ofNat 0)), (.int .i64 (.ofNat 0)), (.int .i64 (.ofNat 1)), (.int .i64 (.ofNat 0)), (.int .i64 (.ofNat 0)), (.int .i32 (.ofNat 7)), .nils, (.int .i64 (.ofNat 7)), (.int .i64 (.ofNat 0)), (.int .i64 (.ofNat 0)), (.int .i64 (.ofNat 0)), (.int .i64 (.ofNat 1)), (.int .i32 (.ofNat 0)), .nils] 43 true true)),
    (637, (.cells [(.slice 629 0 3 none), (.int .i64 (.ofNat 2)), (.int .i64 (.ofNat 0)), (.int .i64 (.ofNat 0)), (.int .i64 (.ofNat 0))] 40 true true)),
    (641, (.cells [(.int .i32 (.ofNat 1)), (.int .i32 (.ofNat 2))] 21 false true)),
    (642, (.cells [(.slice 641 0 2 (some 2))] 52 false true)),
    (645, (.cells [(.int .i32 (.ofNat 0))] 21 false true)),
    (715, (.cells [(.int .i32 (.ofNat 7)), (.int .i32 (.ofNat 2))] 21 true true)),
    (717, (.cells [(.slice 715 0 2 none)] 52 true true))] }
theorem ent4_ok : provedBy (runF Go.Proofs.Tryz.prog tb (noneK) 100000) ent4 = true := by kernel_rfl
theorem ent4_fine : Fine Go.Proofs.Tryz.prog ent4 := fine_of_run (noneK_sound) ent4_ok
end
end Go.HL
