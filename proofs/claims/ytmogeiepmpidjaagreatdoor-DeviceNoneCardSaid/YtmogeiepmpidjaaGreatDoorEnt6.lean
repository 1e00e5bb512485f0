/- A call of the program's, known: number 6. The kernel runs it. No statement of the seat stands here. -/
import Derived.Test.YtmogeiepmpidjaaGreatDoorTb
import Derived.KernelRfl
namespace Go.HL
open Go
set_option maxRecDepth 1000000
noncomputable section
def ent6 : Ent := {
  f := 168,
  args := [(.agg [(.str 1 107), (.slice 1007 0 1 none), .nils, (.int .i64 (.ofNat 4)), (.slice 1009 0 1 none)])],
  next := 1232,
  hin := [(4, tab4O),
    (8, tab8O),
    (1007, (.cells [(.str 1 97), (.bool true)] 105 true true)),
    (1009, (.cells [(.slice 1200 0 5 none), (.int .i64 (.ofNat 2)), (.int .i64 (.ofNat 0)), (.int .i64 (.ofNat 0)), (.int .i64 (.ofNat 0))] 325 true true)),
    (1200, (.cells [(.int .i64 (.ofNat 4)), (.int .i64 (.ofNat 0)), (.int .i64 (.ofNat 0)), (.int .i64 (.ofNat 0)), (.int .i64 (.ofNat 0)), (.int .i32 (.ofNat 0)), .nils, (.int .i64 (.ofNat 4)), (.int .i64 (.ofNat 0)), (.int .i64 (.ofNat 1)), (.int .i64 (.ofNat 0)), (.int .i64 (.ofNat 0)), (.int .i32 (.ofNat 0)), .nils, (.int .i64 (.ofNat 0)), (.int .i64 (.ofNat 0)), (.int .i64 (.ofNat 2)), (.int .i64 (.ofNat 0)), (.int .i64 (.ofNat 0)), (.int .i32 (.ofNat 2)), .nils, (.int .i64 (.ofNat 3)), (.int .i64 (.ofNat 2)), (.int .i64 (.ofNat 3)), (.int .i64 (.ofNat 1)), (.int .i64 (.ofNat 2)), (.int .i32 (.ofNat 0)), .nils, (.int .i64 (.ofNat 7)), (.int .i64 (.ofNat 0)), (.int .i64 (.ofNat 0)), (.int .i64 (.ofNat 0)), (.int .i64 (.ofNat 3)), (.int .i32 (.ofNat 0)), .nils] 327 true true))],
  res := (.bool true),
  next' := 1429,
  hout := [(4, tab4O),
    (8, tab8O),
    (1007, (.cells [(.str 1 97), (.bool true)] 105 true true)),
    (1009, (.cells [(.slice 1200 0 5 none), (.int .i64 (.ofNat 2)), (.int .i64 (.ofNat 0)), (.int .i64 (.ofNat 0)), (.int .i64 (.ofNat 0))] 325 true true)),
    (1200, (.cells [(.int .i64 (.ofNat 4)), (.int .i64 (.ofNat 0)), (.int .i64 (.ofNat 0)), (.int .i64 (.ofNat 0)), (.int .i64 (.ofNat 0)), (.int .i32 (.ofNat 0)), .nils, (.int .i64 (.ofNat 4)), (.int .i64 (.ofNat 0)), (.int .i64 (.ofNat 1)), (.int .i64 (.ofNat 0)), (.int .i64 (.ofNat 0)), (.int .i32 (.ofNat 0)), .nils, (.int .i64 (.ofNat 0)), (.int .i64 (.ofNat 0)), (.int .i64 (.ofNat 2)), (.int .i64 (.ofNat 0)), (.int .i64 (.ofNat 0)), (.int .i32 (.ofNat 2)), .nils, (.int .i64 (.ofNat 3)), (.int .i64 (.ofNat 2)), (.int .i64 (.ofNat 3)), (.int .i64 (.ofNat 1)), (.int .i64 (.ofNat 2)), (.int .i32 (.ofNat 0)), .nils, (.int .i64 (.ofNat 7)), (.int .i64 (.ofNat 0)), (.int .i64 (.ofNat 0)), (.int .i64 (.ofNat 0)), (.int .i64 (.ofNat 3)), (.int .i32 (.ofNat 0)), .nils] 327 true true))] }
theorem ent6_ok : provedBy (runF Go.Proofs.Tryz.prog tb (noneK) 100000) ent6 = true := by kernel_rfl
theorem ent6_fine : Fine Go.Proofs.Tryz.prog ent6 := fine_of_run (noneK_sound) ent6_ok
end
end Go.HL
