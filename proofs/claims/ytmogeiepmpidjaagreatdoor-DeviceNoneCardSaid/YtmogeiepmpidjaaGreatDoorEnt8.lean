/- A call of the program's, known: number 8. The kernel runs it. No statement of the seat stands here. -/
import Derived.Test.YtmogeiepmpidjaaGreatDoorTb
import Derived.KernelRfl
namespace Go.HL
open Go
set_option maxRecDepth 1000000
noncomputable section
def ent8 : Ent := {
  f := 164,
  args := [(.ptr 1436 0)],
  next := 1597,
  hin := [(4, tab4O),
    (8, tab8O),
    (1431, (.cells [(.str 1 97), (.bool true)] 105 true true)),
    (1433, (.cells [(.slice 1435 0 5 none), (.int .i64 (.ofNat 2)), (.int .i64 (.ofNat 0)), (.int .i64 (.ofNat 0)), (.int .i64 (.ofNat 0))] 325 true true)),
    (1435, (.cells [(.int .i64 (.ofNat 4)), (.int .i64 (.ofNat 0)), (.int .i64 (.ofNat 0)), (.int .i64 (.ofNat 0)), (.int .i64 (.ofNat 0)), (.int .i32 (.ofNat 0)), .nils, (.int .i64 (.ofNat 4)), (.int .i64 (.ofNat 0)), (.int .i64 (.ofNat 1)), (.int .i64 (.ofNat 0)), (.int .i64 (.ofNat 0)), (.int .i32 (.ofNat 0)), .nils, (.int .i64 (.ofNat 0)), (.int .i64 (.ofNat 0)), (.int .i64 (.ofNat 2)), (.int .i64 (.ofNat 0)), (.int .i64 (.ofNat 0)), (.int .i32 (.ofNat 2)), .nils, (.int .i64 (.ofNat 3)), (.int .i64 (.ofNat 2)), (.int .i64 (.ofNat 3)), (.int .i64 (.ofNat 1)), (.int .i64 (.ofNat 2)), (.int .i32 (.ofNat 0)), .nils, (.int .i64 (.ofNat 7)), (.int .i64 (.ofNat 0)), (.int .i64 (.ofNat 0)), (.int .i64 (.ofNat 0)), (.int .i64 (.ofNat 3)), (.int .i32 (.ofNat 0)), .nils] 327 true true)),
    (1436, (.cells [(.str 1 107), (.slice 1431 0 1 none), .nils, (.int .i64 (.ofNat 4)), (.slice 1433 0 1 none), (.slice 1516 0 1 none), (.slice 1594 0 1 (some 1))] 477 false true)),
    (1516, (.cells [.nils] 74 true true)),
    (1594, (.cells [.nils] 74 false true))],
  res := (.bool false),
  next' := 1785,
  hout := [(4, tab4O),
    (8, tab8O),
    (1431, (.cells [(.str 1 97), (.bool true)] 105 true true)),
    (1433, (.cells [(.slice 1435 0 5 none), (.int .i64 (.ofNat 2)), (.int .i64 (.ofNat 0)), (.int .i64 (.ofNat 0)), (.int .i64 (.ofNat 0))] 325 true true)),
    (1435, (.cells [(.int .i64 (.ofNat 4)), (.int .i64 (.ofNat 0)), (.int .i64 (.ofNat 0)), (.int .i64 (.ofNat 0)), (.int .i64 (.ofNat 0)), (.int .i32 (.ofNat 0)), .nils, (.int .i64 (.ofNat 4)), (.int .i64 (.ofNat 0)), (.int .i64 (.ofNat 1)), (.int .i64 (.ofNat 0)), (.int .i64 (.ofNat 0)), (.int .i32 (.ofNat 0)), .nils, (.int .i64 (.ofNat 0)), (.int .i64 (.ofNat 0)), (.int .i64 (.ofNat 2)), (.int .i64 (.ofNat 0)), (.int .i64 (.ofNat 0)), (.int .i32 (.ofNat 2)), .nils, (.int .i64 (.ofNat 3)), (.int .i64 (.ofNat 2)), (.int .i64 (.ofNat 3)), (.int .i64 (.ofNat 1)), (.int .i64 (.ofNat 2)), (.int .i32 (.ofNat 0)), .nils, (.int .i64 (.ofNat 7)), (.int .i64 (.ofNat 0)), (.int .i64 (.ofNat 0)), (.int .i64 (.ofNat 0)), (.int .i64 (.ofNat 3)), (.int .i32 (.ofNat 0)), .nils] 327 true true)),
    (1436, (.cells [(.str 1 107), (.slice 1431 0 1 none), .nils, (.int .i64 (.ofNat 4)), (.slice 1433 0 1 none), (.slice 1704 0 1 none), (.slice 1782 0 1 (some 1))] 477 false true)),
    (1516, (.cells [.nils] 74 true true)),
    (1594, (.cells [.nils] 74 false true)),
    (1704, (.cells [.nils] 74 true true)),
    (1782, (.cells [.nils] 74 false true))] }
theorem ent8_ok : provedBy (runF Go.Proofs.Tryz.prog tb (noneK) 100000) ent8 = true := by kernel_rfl
theorem ent8_fine : Fine Go.Proofs.Tryz.prog ent8 := fine_of_run (noneK_sound) ent8_ok
end
end Go.HL
