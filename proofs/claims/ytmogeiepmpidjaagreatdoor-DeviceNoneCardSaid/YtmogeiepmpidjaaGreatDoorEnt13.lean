/- A call of the program's, known: number 13. The kernel runs it. No statement of the seat stands here. -/
import Derived.Test.YtmogeiepmpidjaaGreatDoorTb
import Derived.KernelRfl
namespace Go.HL
open Go
set_option maxRecDepth 1000000
noncomputable section
def ent13 : Ent := {
  f := 101,
  args := [(.agg [(.str 1 107), (.slice 2466 0 1 none), .nils, (.int .i64 (.ofNat 3)), (.slice 2468 0 1 none)]), (.int .i64 (.ofNat 13))],
  next := 2544,
  hin := [(4, tab4O),
    (8, tab8O),
    (2466, (.cells [(.str 1 97), (.bool true)] 105 true true)),
    (2468, (.cells [(.slice 2470 0 4 none), (.int .i64 (.ofNat 2)), (.int .i64 (.ofNat 0)), (.int .i64 (.ofNat 0)), (.int .i64 (.ofNat 0))] 325 true true)),
    (2470, (.cells [(.int .i64 (.ofNat 4)), (.int .i64 (.ofNat 0)), (.int .i64 (.ofNat 0)), (.int .i64 (.ofNat 0)), (.int .i64 (.ofNat 0)), (.int .i32 (.ofNat 0)), .nils, (.int .i64 (.ofNat 0)), (.int .i64 (.ofNat 0)), (.int .i64 (.ofNat 1)), (.int .i64 (.ofNat 0)), (.int .i64 (.ofNat 0)), (.int .i32 (.ofNat 2)), .nils, (.int .i64 (.ofNat 3)), (.int .i64 (.ofNat 2)), (.int .i64 (.ofNat 2)), (.int .i64 (.ofNat 0)), (.int .i64 (.ofNat 1)), (.int .i32 (.ofNat 0)), .nils, (.int .i64 (.ofNat 7)), (.int .i64 (.ofNat 0)), (.int .i64 (.ofNat 0)), (.int .i64 (.ofNat 0)), (.int .i64 (.ofNat 2)), (.int .i32 (.ofNat 0)), .nils] 327 true true))],
  res := (.tuple [(.slice 2611 0 3 (some 3)), (.int .i64 (.ofNat 0))]),
  next' := 2780,
  hout := [(4, tab4O),
    (8, tab8O),
    (2466, (.cells [(.str 1 97), (.bool true)] 105 true true)),
    (2468, (.cells [(.slice 2470 0 4 none), (.int .i64 (.ofNat 2)), (.int .i64 (.ofNat 0)), (.int .i64 (.ofNat 0)), (.int .i64 (.ofNat 0))] 325 true true)),
    (2470, (.cells [(.int .i64 (.ofNat 4)), (.int .i64 (.ofNat 0)), (.int .i64 (.ofNat 0)), (.int .i64 (.ofNat 0)), (.int .i64 (.ofNat 0)), (.int .i32 (.ofNat 0)), .nils, (.int .i64 (.ofNat 0)), (.int .i64 (.ofNat 0)), (.int .i64 (.ofNat 1)), (.int .i64 (.ofNat 0)), (.int .i64 (.ofNat 0)), (.int .i32 (.ofNat 2)), .nils, (.int .i64 (.ofNat 3)), (.int .i64 (.ofNat 2)), (.int .i64 (.ofNat 2)), (.int .i64 (.ofNat 0)), (.int .i64 (.ofNat 1)), (.int .i32 (.ofNat 0)), .nils, (.int .i64 (.ofNat 7)), (.int .i64 (.ofNat 0)), (.int .i64 (.ofNat 0)), (.int .i64 (.ofNat 0)), (.int .i64 (.ofNat 2)), (.int .i32 (.ofNat 0)), .nils] 327 true true)),
    (2611, (.cells [(.int .i64 (.ofNat 0)), (.int .i64 (.ofNat 1)), (.int .i64 (.ofNat 1))] 3 false true))] }
theorem ent13_ok : provedBy (runF Go.Proofs.Tryz.prog tb (noneK) 100000) ent13 = true := by kernel_rfl
theorem ent13_fine : Fine Go.Proofs.Tryz.prog ent13 := fine_of_run (noneK_sound) ent13_ok
end
end Go.HL
