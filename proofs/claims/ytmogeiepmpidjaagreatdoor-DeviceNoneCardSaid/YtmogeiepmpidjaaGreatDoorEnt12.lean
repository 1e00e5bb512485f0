/- A call of the program's, known: number 12. The kernel runs it. No statement of the seat stands here. -/
import Derived.Test.YtmogeiepmpidjaaGreatDoorTb
import Derived.Test.YtmogeiepmpidjaaGreatDoorEnt11
import Derived.KernelRfl
namespace Go.HL
open Go
set_option maxRecDepth 1000000
noncomputable section
def ent12 : Ent := {
  f := 100,
  args := [(.agg [(.str 1 107), (.slice 1431 0 1 none), .nils, (.int .i64 (.ofNat 4)), (.slice 1433 0 1 none)])],
  next := 2205,
  hin := [(4, tab4O),
    (8, tab8O),
    (1431, (.cells [(.str 1 97), (.bool true)] 105 true true)),
    (1433, (.cells [(.slice 1435 0 4 none), (.int .i64 (.ofNat 2)), (.int .i64 (.ofNat 0)), (.int .i64 (.ofNat 0)), (.int .i64 (.ofNat 0))] 325 true true)),
    (1435, (.cells [(.int .i64 (.ofNat 4)), (.int .i64 (.ofNat 0)), (.int .i64 (.ofNat 0)), (.int .i64 (.ofNat 0)), (.int .i64 (.ofNat 0)), (.int .i32 (.ofNat 0)), .nils, (.int .i64 (.ofNat 0)), (.int .i64 (.ofNat 0)), (.int .i64 (.ofNat 2)), (.int .i64 (.ofNat 0)), (.int .i64 (.ofNat 0)), (.int .i32 (.ofNat 2)), .nils, (.int .i64 (.ofNat 3)), (.int .i64 (.ofNat 2)), (.int .i64 (.ofNat 3)), (.int .i64 (.ofNat 0)), (.int .i64 (.ofNat 2)), (.int .i32 (.ofNat 0)), .nils, (.int .i64 (.ofNat 7)), (.int .i64 (.ofNat 0)), (.int .i64 (.ofNat 0)), (.int .i64 (.ofNat 0)), (.int .i64 (.ofNat 3)), (.int .i32 (.ofNat 0)), .nils, (.int .i64 (.ofNat 0)), (.int .i64 (.ofNat 0)), (.int .i64 (.ofNat 0)), (.int .i64 (.ofNat 0)), (.int .i64 (.ofNat 0)), (.int .i32 (.ofNat 0)), .nils] 327 true true))],
  res := (.tuple [(.agg [(.str 1 107), (.slice 2466 0 1 none), .nils, (.int .i64 (.ofNat 3)), (.slice 2468 0 1 none)]), (.int .i64 (.ofNat 0))]),
  next' := 2544,
  hout := [(4, tab4O),
    (8, tab8O),
    (1431, (.cells [(.str 1 97), (.bool true)] 105 true true)),
    (1433, (.cells [(.slice 1435 0 4 none), (.int .i64 (.ofNat 2)), (.int .i64 (.ofNat 0)), (.int .i64 (.ofNat 0)), (.int .i64 (.ofNat 0))] 325 true true)),
    (1435, (.cells [(.int .i64 (.ofNat 4)), (.int .i64 (.ofNat 0)), (.int .i64 (.ofNat 0)), (.int .i64 (.ofNat 0)), (.int .i64 (.ofNat 0)), (.int .i32 (.ofNat 0)), .nils, (.int .i64 (.ofNat 0)), (.int .i64 (.ofNat 0)), (.int .i64 (.ofNat 2)), (.int .i64 (.ofNat 0)), (.int .i64 (.ofNat 0)), (.int .i32 (.ofNat 2)), .nils, (.int .i64 (.ofNat 3)), (.int .i64 (.ofNat 2)), (.int .i64 (.ofNat 3)), (.int .i64 (.ofNat 0)), (.int .i64 (.ofNat 2)), (.int .i32 (.ofNat 0)), .nils, (.int .i64 (.ofNat 7)), (.int .i64 (.ofNat 0)), (.int .i64 (.ofNat 0)), (.int .i64 (.ofNat 0)), (.int .i64 (.ofNat 3)), (.int .i32 (.ofNat 0)), .nils, (.int .i64 (.ofNat 0)), (.int .i64 (.ofNat 0)), (.int .i64 (.ofNat 0)), (.int .i64 (.ofNat 0)), (.int .i64 (.ofNat 0)), (.int .i32 (.ofNat 0)), .nils] 327 true true)),
    (2466, (.cells [(.str 1 97), (.bool true)] 105 true true)),
    (2468, (.cells [(.slice 2470 0 4 none), (.int .i64 (.ofNat 2)), (.int .i64 (.ofNat 0)), (.int .i64 (.ofNat 0)), (.int .i64 (.ofNat 0))] 325 true true)),
    (2470, (.cells [(.int .i64 (.ofNat 4)), (.int .i64 (.ofNat 0)), (.int .i64 (.ofNat 0)), (.int .i64 (.ofNat 0)), (.int .i64 (.ofNat 0)), (.int .i32 (.ofNat 0)), .nils, (.int .i64 (.ofNat 0)), (.int .i64 (.ofNat 0)), (.int .i64 (.ofNat 1)), (.int .i64 (.ofNat 0)), (.int .i64 (.ofNat 0)), (.int .i32 (.ofNat 2)), .nils, (.int .i64 (.ofNat 3)), (.int .i64 (.ofNat 2)), (.int .i64 (.ofNat 2)), (.int .i64 (.ofNat 0)), (.int .i64 (.ofNat 1)), (.int .i32 (.ofNat 0)), .nils, (.int .i64 (.ofNat 7)), (.int .i64 (.ofNat 0)), (.int .i64 (.ofNat 0)), (.int .i64 (.ofNat 0)), (.int .i64 (.ofNat 2)), (.int .i32 (.ofNat 0)), .nils] 327 true true))] }
theorem ent12_ok : provedBy (runF Go.Proofs.Tryz.prog tb (known [ent11]) 100000) ent12 = true := by kernel_rfl
theorem ent12_fine : Fine Go.Proofs.Tryz.prog ent12 := fine_of_run (known_sound (fine_cons ent11_fine (fine_nil))) ent12_ok
end
end Go.HL
