/- A call of the program's, known: number 4. The kernel runs it. No statement of the seat stands here. -/
import Derived.Test.YtanmclbppcbngaaGreatDoorTb
import Derived.Test.YtanmclbppcbngaaGreatDoorEnt3
import Derived.KernelRfl
namespace Go.HL
open Go
set_option maxRecDepth 1000000
noncomputable section
def ent4 : Ent := {
  f := 26,
  args := [(.agg [.nils, (.slice 352 0 1 none)]), (.agg [(.str 1 107), (.int .i64 (.ofNat 1)), (.int .i64 (.ofNat 4)), (.slice 1289 0 1 (some 1))]), (.slice 1287 0 1 (some 1))],
  next := 1290,
  hin := [(0, asciiO),
    (115, (.cells [(.str 1 97), (.bool true)] 147 true true)),
    (294, (.cells [(.int .i64 (.ofNat 2)), (.int .i64 (.ofNat 0)), (.int .i32 (.ofNat 0)), (.str 0 0), .nils, (.int .i64 (.ofNat 0)), (.int .i64 (.ofNat 0)), (.int .i32 (.ofNat 2)), (.str 0 0), .nils] 118 false true)),
    (344, (.cells [(.int .i64 (.ofNat 2)), (.int .i64 (.ofNat 0)), (.int .i32 (.ofNat 0)), (.str 0 0), .nils, (.int .i64 (.ofNat 4)), (.int .i64 (.ofNat 2)), (.int .i32 (.ofNat 0)), (.str 0 0), (.slice 294 0 2 (some 2))] 118 false true)),
    (348, (.cells [(.int .i64 (.ofNat 2)), (.int .i64 (.ofNat 0)), (.str 1 97), (.slice 344 0 2 (some 2)), .nils, .nils] 105 true true)),
    (352, (.cells [(.str 1 107), (.slice 115 0 1 none), .nils, (.slice 348 0 1 none)] 138 true true)),
    (1286, (.cells [(.int .i32 (.ofNat 0)), (.int .i32 (.ofNat 0)), (.int .i32 (.ofNat 0)), (.int .i32 (.ofNat 0)), (.int .i32 (.ofNat 0)), (.int .i32 (.ofNat 0)), (.int .i32 (.ofNat 0)), (.int .i32 (.ofNat 0))] 21 false true)),
    (1287, (.cells [(.slice 1286 0 8 (some 8))] 58 false true)),
    (1289, (.cells [(.int .i32 (.ofNat 0))] 21 false true))],
  res := (.tuple [(.bool true), (.int .i64 (.ofNat 0))]),
  next' := 1913,
  hout := [(0, asciiO),
    (115, (.cells [(.str 1 97), (.bool true)] 147 true true)),
    (294, (.cells [(.int .i64 (.ofNat 2)), (.int .i64 (.ofNat 0)), (.int .i32 (.ofNat 0)), (.str 0 0), .nils, (.int .i64 (.ofNat 0)), (.int .i64 (.ofNat 0)), (.int .i32 (.ofNat 2)), (.str 0 0), .nils] 118 false true)),
    (344, (.cells [(.int .i64 (.ofNat 2)), (.int .i64 (.ofNat 0)), (.int .i32 (.ofNat 0)), (.str 0 0), .nils, (.int .i64 (.ofNat 4)), (.int .i64 (.ofNat 2)), (.int .i32 (.ofNat 0)), (.str 0 0), (.slice 294 0 2 (some 2))] 118 false true)),
    (348, (.cells [(.int .i64 (.ofNat 2)), (.int .i64 (.ofNat 0)), (.str 1 97), (.slice 344 0 2 (some 2)), .nils, .nils] 105 true true)),
    (352, (.cells [(.str 1 107), (.slice 115 0 1 none), .nils, (.slice 348 0 1 none)] 138 true true)),
    (1286, (.cells [(.int .i32 (.ofNat 0)), (.int .i32 (.ofNat 0)), (.int .i32 (.ofNat 0)), (.int .i32 (.ofNat 0)), (.int .i32 (.ofNat 0)), (.int .i32 (.ofNat 0)), (.int .i32 (.ofNat 0)), (.int .i32 (.ofNat 0))] 21 false true)),
    (1287, (.cells [(.slice 1286 0 8 (some 8))] 58 false true)),
    (1289, (.cells [(.int .i32 (.ofNat 0))] 21 false true))] }
theorem ent4_ok : provedBy (runF Go.Proofs.Tryz.prog tb (known [ent3]) 100000) ent4 = true := by kernel_rfl
theorem ent4_fine : Fine Go.Proofs.Tryz.prog ent4 := fine_of_run (known_sound (fine_cons ent3_fine (fine_nil))) ent4_ok
end
end Go.HL
