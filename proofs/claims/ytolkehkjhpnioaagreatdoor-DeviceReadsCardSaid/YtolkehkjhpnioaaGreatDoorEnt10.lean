/- A call of the program's, known: number 10. The kernel runs it. No statement of the seat stands here. -/
import Derived.Test.YtolkehkjhpnioaaGreatDoorTb
import Derived.Test.YtolkehkjhpnioaaGreatDoorEB
import Derived.Test.YtolkehkjhpnioaaGreatDoorEC
import Derived.KernelRfl
namespace Go.HL
open Go
set_option maxRecDepth 1000000
noncomputable section
def ent10 : Ent := {
  f := 78,
  args := [(.agg [(.str 1 107), (.slice 1006 0 1 none), .nils, (.int .i64 (.ofNat 4)), (.slice 1008 0 1 none)])],
  next := 1226,
  hin := [(4, tab4O),
    (8, tab8O),
    (1006, (.cells [(.str 1 97), (.bool true)] 248 true true)),
    (1008, (.cells [(.slice 1199 0 5 none), (.int .i64 (.ofNat 2)), (.int .i64 (.ofNat 0)), (.int .i64 (.ofNat 0)), (.int .i64 (.ofNat 0))] 260 true true)),
    (1199, (.cells [(.int .i64 (.ofNat 4)), (.int .i64 (.ofNat 0)), (.int .i64 (.ofNat 0)), (.int .i64 (.ofNat 0)), (.int .i64 (.ofNat 0)), (.int .i32 (.ofNat 0)), .nils, (.int .i64 (.ofNat 4)), (.int .i64 (.ofNat 0)), (.int .i64 (.ofNat 1)), (.int .i64 (.ofNat 0)), (.int .i64 (.ofNat 0)), (.int .i32 (.ofNat 0)), .nils, (.int .i64 (.ofNat 0)), (.int .i64 (.ofNat 0)), (.int .i64 (.ofNat 2)), (.int .i64 (.ofNat 0)), (.int .i64 (.ofNat 0)), (.int .i32 (.ofNat 2)), .nils, (.int .i64 (.ofNat 3)), (.int .i64 (.ofNat 2)), (.int .i64 (.ofNat 3)), (.int .i64 (.ofNat 1)), (.int .i64 (.ofNat 2)), (.int .i32 (.ofNat 0)), .nils, (.int .i64 (.ofNat 7)), (.int .i64 (.ofNat 0)), (.int .i64 (.ofNat 0)), (.int .i64 (.ofNat 0)), (.int .i64 (.ofNat 3)), (.int .i32 (.ofNat 0)), .nils] 262 true true))],
  res := (.tuple [(.agg [(.str 1 107), (.slice 1430 0 1 none), .nils, (.int .i64 (.ofNat 4)), (.slice 1432 0 1 none)]), (.int .i64 (.ofNat 0))]),
  next' := 2204,
  hout := [(4, tab4O),
    (8, tab8O),
    (1006, (.cells [(.str 1 97), (.bool true)] 248 true true)),
    (1008, (.cells [(.slice 1199 0 5 none), (.int .i64 (.ofNat 2)), (.int .i64 (.ofNat 0)), (.int .i64 (.ofNat 0)), (.int .i64 (.ofNat 0))] 260 true true)),
    (1199, (.cells [(.int .i64 (.ofNat 4)), (.int .i64 (.ofNat 0)), (.int .i64 (.ofNat 0)), (.int .i64 (.ofNat 0)), (.int .i64 (.ofNat 0)), (.int .i32 (.ofNat 0)), .nils, (.int .i64 (.ofNat 4)), (.int .i64 (.ofNat 0)), (.int .i64 (.ofNat 1)), (.int .i64 (.ofNat 0)), (.int .i64 (.ofNat 0)), (.int .i32 (.ofNat 0)), .nils, (.int .i64 (.ofNat 0)), (.int .i64 (.ofNat 0)), (.int .i64 (.ofNat 2)), (.int .i64 (.ofNat 0)), (.int .i64 (.ofNat 0)), (.int .i32 (.ofNat 2)), .nils, (.int .i64 (.ofNat 3)), (.int .i64 (.ofNat 2)), (.int .i64 (.ofNat 3)), (.int .i64 (.ofNat 1)), (.int .i64 (.ofNat 2)), (.int .i32 (.ofNat 0)), .nils, (.int .i64 (.ofNat 7)), (.int .i64 (.ofNat 0)), (.int .i64 (.ofNat 0)), (.int .i64 (.ofNat 0)), (.int .i64 (.ofNat 3)), (.int .i32 (.ofNat 0)), .nils] 262 true true)),
    (1430, (.cells [(.str 1 97), (.bool true)] 248 true true)),
    (1432, (.cells [(.slice 1434 0 4 none), (.int .i64 (.ofNat 2)), (.int .i64 (.ofNat 0)), (.int .i64 (.ofNat 0)), (.int .i64 (.ofNat 0))] 260 true true)),
    (1434, (.cells [(.int .i64 (.ofNat 4)), (.int .i64 (.ofNat 0)), (.int .i64 (.ofNat 0)), (.int .i64 (.ofNat 0)), (.int .i64 (.ofNat 0)), (.int .i32 (.ofNat 0)), .nils, (.int .i64 (.ofNat 0)), (.int .i64 (.ofNat 0)), (.int .i64 (.ofNat 2)), (.int .i64 (.ofNat 0)), (.int .i64 (.ofNat 0)), (.int .i32 (.ofNat 2)), .nils, (.int .i64 (.ofNat 3)), (.int .i64 (.ofNat 2)), (.int .i64 (.ofNat 3)), (.int .i64 (.ofNat 0)), (.int .i64 (.ofNat 2)), (.int .i32 (.ofNat 0)), .nils, (.int .i64 (.ofNat 7)), (.int .i64 (.ofNat 0)), (.int .i64 (.ofNat 0)), (.int .i64 (.ofNat 0)), (.int .i64 (.ofNat 3)), (.int .i32 (.ofNat 0)), .nils, (.int .i64 (.ofNat 0)), (.int .i64 (.ofNat 0)), (.int .i64 (.ofNat 0)), (.int .i64 (.ofNat 0)), (.int .i64 (.ofNat 0)), (.int .i32 (.ofNat 0)), .nils] 262 true true))] }
theorem ent10_ok : provedBy (runF Go.Proofs.Tryz.prog tb (known [ent6, ent7, ent8, ent9]) 100000) ent10 = true := by kernel_rfl
theorem ent10_fine : Fine Go.Proofs.Tryz.prog ent10 := fine_of_run (known_sound (fine_cons ent6_fine (fine_cons ent7_fine (fine_cons ent8_fine (fine_cons ent9_fine (fine_nil)))))) ent10_ok
end
end Go.HL
