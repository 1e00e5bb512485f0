/- A call of the program's, known: number 15. The kernel runs it. No statement of the seat stands here. -/
import Derived.Test.YtolkehkjhpnioaaGreatDoorTb
import Derived.Test.YtolkehkjhpnioaaGreatDoorEB
import Derived.Test.YtolkehkjhpnioaaGreatDoorEnt10
import Derived.Test.YtolkehkjhpnioaaGreatDoorEnt12
import Derived.Test.YtolkehkjhpnioaaGreatDoorEnt13
import Derived.Test.YtolkehkjhpnioaaGreatDoorEnt14
import Derived.KernelRfl
namespace Go.HL
open Go
set_option maxRecDepth 1000000
noncomputable section
def ent15 : Ent := {
  f := 45,
  args := [(.agg [.nils, (.slice 291 0 1 none)]), (.str 1 107)],
  next := 643,
  hin := [(4, tab4O),
    (8, tab8O),
    (158, (.cells [(.str 1 97), (.bool true)] 248 true true)),
    (253, (.cells [(.int .i64 (.ofNat 2)), (.int .i64 (.ofNat 0)), (.int .i32 (.ofNat 0)), (.str 0 0), .nils, (.int .i64 (.ofNat 0)), (.int .i64 (.ofNat 0)), (.int .i32 (.ofNat 2)), (.str 0 0), .nils] 521 false true)),
    (286, (.cells [(.int .i64 (.ofNat 2)), (.int .i64 (.ofNat 0)), (.int .i32 (.ofNat 0)), (.str 0 0), .nils, (.int .i64 (.ofNat 4)), (.int .i64 (.ofNat 2)), (.int .i32 (.ofNat 0)), (.str 0 0), (.slice 253 0 2 (some 2))] 521 true true)),
    (289, (.cells [(.int .i64 (.ofNat 2)), (.int .i64 (.ofNat 0)), (.str 1 97), (.slice 286 0 2 none), .nils, .nils] 379 true true)),
    (291, (.cells [(.str 1 107), (.slice 158 0 1 none), .nils, (.slice 289 0 1 none)] 88 true true))],
  res := (.tuple [(.agg [(.str 1 107), (.slice 3112 0 1 none), .nils, (.int .i64 (.ofNat 0)), (.slice 3110 0 5 none)]), (.int .i64 (.ofNat 0))]),
  next' := 3113,
  hout := [(4, tab4O),
    (8, tab8O),
    (158, (.cells [(.str 1 97), (.bool true)] 248 true true)),
    (253, (.cells [(.int .i64 (.ofNat 2)), (.int .i64 (.ofNat 0)), (.int .i32 (.ofNat 0)), (.str 0 0), .nils, (.int .i64 (.ofNat 0)), (.int .i64 (.ofNat 0)), (.int .i32 (.ofNat 2)), (.str 0 0), .nils] 521 false true)),
    (286, (.cells [(.int .i64 (.ofNat 2)), (.int .i64 (.ofNat 0)), (.int .i32 (.ofNat 0)), (.str 0 0), .nils, (.int .i64 (.ofNat 4)), (.int .i64 (.ofNat 2)), (.int .i32 (.ofNat 0)), (.str 0 0), (.slice 253 0 2 (some 2))] 521 true true)),
    (289, (.cells [(.int .i64 (.ofNat 2)), (.int .i64 (.ofNat 0)), (.str 1 97), (.slice 286 0 2 none), .nils, .nils] 379 true true)),
    (291, (.cells [(.str 1 107), (.slice 158 0 1 none), .nils, (.slice 289 0 1 none)] 88 true true)),
    (3110, (.cells [(.int .i64 (.ofNat 4)), (.int .i64 (.ofNat 0)), (.int .i64 (.ofNat 0)), (.int .i64 (.ofNat 0)), (.int .i64 (.ofNat 0)), (.int .i32 (.ofNat 0)), (.int .i64 (.ofNat 0)), (.int .i64 (.ofNat 0)), (.int .i64 (.ofNat 0)), (.int .i64 (.ofNat 0)), (.int .i64 (.ofNat 1)), (.int .i64 (.ofNat 0)), (.int .i64 (.ofNat 0)), (.int .i32 (.ofNat 2)), (.int .i64 (.ofNat 0)), (.int .i64 (.ofNat 0)), (.int .i64 (.ofNat 3)), (.int .i64 (.ofNat 2)), (.int .i64 (.ofNat 1)), (.int .i64 (.ofNat 0)), (.int .i64 (.ofNat 1)), (.int .i32 (.ofNat 0)), (.int .i64 (.ofNat 0)), (.int .i64 (.ofNat 0)), (.int .i64 (.ofNat 7)), (.int .i64 (.ofNat 0)), (.int .i64 (.ofNat 0)), (.int .i64 (.ofNat 0)), (.int .i64 (.ofNat 1)), (.int .i32 (.ofNat 0)), (.int .i64 (.ofNat 0)), (.int .i64 (.ofNat 0)), (.int .i64 (.ofNat 15)), (.int .i64 (.ofNat 0)), (.int .i64 (.ofNat 0)), (.int .i64 (.ofNat 0)), (.int .i64 (.ofNat 0)), (.int .i32 (.ofNat 0)), (.int .i64 (.ofNat 0)), (.int .i64 (.ofNat 0))] 297 true true)),
    (3112, (.cells [(.str 1 97), (.bool true)] 248 true true))] }
theorem ent15_ok : provedBy (runF Go.Proofs.Tryz.prog tb (known [ent4, ent5, ent10, ent12, ent13, ent14]) 100000) ent15 = true := by kernel_rfl
theorem ent15_fine : Fine Go.Proofs.Tryz.prog ent15 := fine_of_run (known_sound (fine_cons ent4_fine (fine_cons ent5_fine (fine_cons ent10_fine (fine_cons ent12_fine (fine_cons ent13_fine (fine_cons ent14_fine (fine_nil)))))))) ent15_ok
end
end Go.HL
