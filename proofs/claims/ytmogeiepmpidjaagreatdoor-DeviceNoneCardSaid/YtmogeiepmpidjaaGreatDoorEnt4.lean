/- A call of the program's, known: number 4. The kernel runs it. No statement of the seat stands here. -/
import Derived.Test.YtmogeiepmpidjaaGreatDoorTb
import Derived.Test.YtmogeiepmpidjaaGreatDoorEnt3
import Derived.KernelRfl
namespace Go.HL
open Go
set_option maxRecDepth 1000000
noncomputable section
def ent4 : Ent := {
  f := 97,
  args := [(.agg [.nils, (.slice 292 0 1 none)]), (.str 1 107)],
  next := 646,
  hin := [(4, tab4O),
    (8, tab8O),
    (159, (.cells [(.str 1 97), (.bool true)] 105 true true)),
    (254, (.cells [(.int .i64 (.ofNat 2)), (.int .i64 (.ofNat 0)), (.int .i32 (.ofNat 0)), (.str 0 0), .nils, (.int .i64 (.ofNat 0)), (.int .i64 (.ofNat 0)), (.int .i32 (.ofNat 2)), (.str 0 0), .nils] 553 false true)),
    (287, (.cells [(.int .i64 (.ofNat 2)), (.int .i64 (.ofNat 0)), (.int .i32 (.ofNat 0)), (.str 0 0), .nils, (.int .i64 (.ofNat 4)), (.int .i64 (.ofNat 2)), (.int .i32 (.ofNat 0)), (.str 0 0), (.slice 254 0 2 (some 2))] 553 true true)),
    (290, (.cells [(.int .i64 (.ofNat 2)), (.int .i64 (.ofNat 0)), (.str 1 97), (.slice 287 0 2 none), .nils, .nils] 423 true true)),
    (292, (.cells [(.str 1 107), (.slice 159 0 1 none), .nils, (.slice 290 0 1 none)] 155 true true))],
  res := (.tuple [(.agg [(.str 1 107), (.slice 841 0 1 none), .nils, (.int .i64 (.ofNat 4)), (.slice 911 0 1 none)]), (.int .i64 (.ofNat 0))]),
  next' := 914,
  hout := [(4, tab4O),
    (8, tab8O),
    (159, (.cells [(.str 1 97), (.bool true)] 105 true true)),
    (254, (.cells [(.int .i64 (.ofNat 2)), (.int .i64 (.ofNat 0)), (.int .i32 (.ofNat 0)), (.str 0 0), .nils, (.int .i64 (.ofNat 0)), (.int .i64 (.ofNat 0)), (.int .i32 (.ofNat 2)), (.str 0 0), .nils] 553 false true)),
    (287, (.cells [(.int .i64 (.ofNat 2)), (.int .i64 (.ofNat 0)), (.int .i32 (.ofNat 0)), (.str 0 0), .nils, (.int .i64 (.ofNat 4)), (.int .i64 (.ofNat 2)), (.int .i32 (.ofNat 0)), (.str 0 0), (.slice 254 0 2 (some 2))] 553 true true)),
    (290, (.cells [(.int .i64 (.ofNat 2)), (.int .i64 (.ofNat 0)), (.str 1 97), (.slice 287 0 2 none), .nils, .nils] 423 true true)),
    (292, (.cells [(.str 1 107), (.slice 159 0 1 none), .nils, (.slice 290 0 1 none)] 155 true true)),
    (841, (.cells [(.str 1 97), (.bool true)] 105 true true)),
    (903, (.cells [(.int .i64 (.ofNat 4)), (.int .i64 (.ofNat 0)), (.int .i64 (.ofNat 0)), (.int .i64 (.ofNat 0)), (.int .i64 (.ofNat 0)), (.int .i32 (.ofNat 0)), .nils, (.int .i64 (.ofNat 4)), (.int .i64 (.ofNat 0)), (.int .i64 (.ofNat 1)), (.int .i64 (.ofNat 0)), (.int .i64 (.ofNat 0)), (.int .i32 (.ofNat 0)), .nils, (.int .i64 (.ofNat 0)), (.int .i64 (.ofNat 0)), (.int .i64 (.ofNat 2)), (.int .i64 (.ofNat 0)), (.int .i64 (.ofNat 0)), (.int .i32 (.ofNat 2)), .nils, (.int .i64 (.ofNat 3)), (.int .i64 (.ofNat 2)), (.int .i64 (.ofNat 3)), (.int .i64 (.ofNat 1)), (.int .i64 (.ofNat 2)), (.int .i32 (.ofNat 0)), .nils, (.int .i64 (.ofNat 7)), (.int .i64 (.ofNat 0)), (.int .i64 (.ofNat 0)), (.int .i64 (.ofNat 0)), (.int .i64 (.ofNat 3)), (.int .i32 (.ofNat 0)), .nils] 327 true true)),
    (911, (.cells [(.slice 903 0 5 none), (.int .i64 (.ofNat 2)), (.int .i64 (.ofNat 0)), (.int .i64 (.ofNat 0)), (.int .i64 (.ofNat 0))] 325 true true))] }
theorem ent4_ok : provedBy (runF Go.Proofs.Tryz.prog tb (known [ent3]) 100000) ent4 = true := by kernel_rfl
theorem ent4_fine : Fine Go.Proofs.Tryz.prog ent4 := fine_of_run (known_sound (fine_cons ent3_fine (fine_nil))) ent4_ok
end
end Go.HL
