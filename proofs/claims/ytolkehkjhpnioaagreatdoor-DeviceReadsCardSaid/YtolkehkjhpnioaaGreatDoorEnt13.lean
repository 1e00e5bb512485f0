/- A call of the program's, known: number 13. The kernel runs it. No statement of the seat stands here. -/
import Derived.Test.YtolkehkjhpnioaaGreatDoorTb
import Derived.KernelRfl
namespace Go.HL
open Go
set_option maxRecDepth 1000000
noncomputable section
def ent13 : Ent := {
  f := 80,
  args := [(.agg [(.str 1 107), (.slice 2465 0 1 none), .nils, (.int .i64 (.ofNat 3)), (.slice 2467 0 1 none)]), (.int .i64 (.ofNat 13))],
  next := 2543,
  hin := [(4, tab4O),
    (8, tab8O),
    (2465, (.cells [(.str 1 97), (.bool true)] 248 true true)),
    (2467, (.cells [(.slice 2469 0 4 none), (.int .i64 (.ofNat 2)), (.int .i64 (.ofNat 0)), (.int .i64 (.ofNat 0)), (.int .i64 (.ofNat 0))] 260 true true)),
    (2469, (.cells [(.int .i64 (.ofNat 4)), (.int .i64 (.ofNat 0)), (.int .i64 (.ofNat 0)), (.int .i64 (.ofNat 0)), (.int .i64 (.ofNat 0)), (.int .i32 (.ofNat 0)), .nils, (.int .i64 (.ofNat 0)), (.int .i64 (.ofNat 0)), (.int .i64 (.ofNat 1)), (.int .i64 (.ofNat 0)), (.int .i64 (.ofNat 0)), (.int .i32 (.ofNat 2)), .nils, (.int .i64 (.ofNat 3)), (.int .i64 (.ofNat 2)), (.int .i64 (.ofNat 2)), (.int .i64 (.ofNat 0)), (.int .i64 (.ofNat 1)), (.int .i32 (.ofNat 0)), .nils, (.int .i64 (.ofNat 7)), (.int .i64 (.ofNat 0)), (.int .i64 (.ofNat 0)), (.int .i64 (.ofNat 0)), (.int .i64 (.ofNat 2)), (.int .i32 (.ofNat 0)), .nils] 262 true true))],
  res := (.tuple [(.slice 2610 0 3 (some 3)), (.int .i64 (.ofNat 0))]),
  next' := 2779,
  hout := [(4, tab4O),
    (8, tab8O),
    (2465, (.cells [(.str 1 97), (.bool true)] 248 true true)),
    (2467, (.cells [(.slice 2469 0 4 none), (.int .i64 (.ofNat 2)), (.int .i64 (.ofNat 0)), (.int .i64 (.ofNat 0)), (.int .i64 (.ofNat 0))] 260 true true)),
    (2469, (.cells [(.int .i64 (.ofNat 4)), (.int .i64 (.ofNat 0)), (.int .i64 (.ofNat 0)), (.int .i64 (.ofNat 0)), (.int .i64 (.ofNat 0)), (.int .i32 (.ofNat 0)), .nils, (.int .i64 (.ofNat 0)), (.int .i64 (.ofNat 0)), (.int .i64 (.ofNat 1)), (.int .i64 (.ofNat 0)), (.int .i64 (.ofNat 0)), (.int .i32 (.ofNat 2)), .nils, (.int .i64 (.ofNat 3)), (.int .i64 (.ofNat 2)), (.int .i64 (.ofNat 2)), (.int .i64 (.ofNat 0)), (.int .i64 (.ofNat 1)), (.int .i32 (.ofNat 0)), .nils, (.int .i64 (.ofNat 7)), (.int .i64 (.ofNat 0)), (.int .i64 (.ofNat 0)), (.int .i64 (.ofNat 0)), (.int .i64 (.ofNat 2)), (.int .i32 (.ofNat 0)), .nils] 262 true true)),
    (2610, (.cells [(.int .i64 (.ofNat 0)), (.int .i64 (.ofNat 1)), (.int .i64 (.ofNat 1))] 3 false true))] }
theorem ent13_ok : provedBy (runF Go.Proofs.Tryz.prog tb (noneK) 100000) ent13 = true := by kernel_rfl
theorem ent13_fine : Fine Go.Proofs.Tryz.prog ent13 := fine_of_run (noneK_sound) ent13_ok
end
end Go.HL
