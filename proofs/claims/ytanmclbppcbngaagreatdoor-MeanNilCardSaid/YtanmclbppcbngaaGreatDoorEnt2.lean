/- A call of the program's, known: number 2. The kernel runs it. No statement of the seat stands here. -/
import Derived.Test.YtanmclbppcbngaaGreatDoorTb
import Derived.KernelRfl
namespace Go.HL
open Go
set_option maxRecDepth 1000000
noncomputable section
def ent2 : Ent := {
  f := 24,
  args := [(.agg [.nils, (.slice 352 0 1 none)]), (.agg [(.str 1 107), (.int .i64 (.ofNat 2)), (.int .i64 (.ofNat 4)), (.slice 399 0 1 (some 1))]), (.slice 396 0 1 (some 1)), .nils],
  next := 400,
  hin := [(0, asciiO),
    (115, (.cells [(.str 1 97), (.bool true)] 147 true true)),
    (294, (.cells [(.int .i64 (.ofNat 2)), (.int .i64 (.ofNat 0)), (.int .i32 (.ofNat 0)), (.str 0 0), .nils, (.int .i64 (.ofNat 0)), (.int .i64 (.ofNat 0)), (.int .i32 (.ofNat 2)), (.str 0 0), .nils] 118 false true)),
    (344, (.cells [(.int .i64 (.ofNat 2)), (.int .i64 (.ofNat 0)), (.int .i32 (.ofNat 0)), (.str 0 0), .nils, (.int .i64 (.ofNat 4)), (.int .i64 (.ofNat 2)), (.int .i32 (.ofNat 0)), (.str 0 0), (.slice 294 0 2 (some 2))] 118 false true)),
    (348, (.cells [(.int .i64 (.ofNat 2)), (.int .i64 (.ofNat 0)), (.str 1 97), (.slice 344 0 2 (some 2)), .nils, .nils] 105 true true)),
    (352, (.cells [(.str 1 107), (.slice 115 0 1 none), .nils, (.slice 348 0 1 none)] 138 true true)),
    (395, (.cells [(.int .i32 (.ofNat 0)), (.int .i32 (.ofNat 0)), (.int .i32 (.ofNat 0)), (.int .i32 (.ofNat 0)), (.int .i32 (.ofNat 0)), (.int .i32 (.ofNat 0)), (.int .i32 (.ofNat 0)), (.int .i32 (.ofNat 0))] 21 false true)),
    (396, (.cells [(.slice 395 0 8 (some 8))] 58 false true)),
    (399, (.cells [(.int .i32 (.ofNat 0))] 21 false true))],
  res := (.tuple [(.agg [(.int .i64 (.ofNat 0)), (.slice 1275 0 1 none), (.slice 1277 0 4 none), (.int .i64 (.ofNat 8))]), (.int .i64 (.ofNat 0))]),
  next' := 1286,
  hout := [(0, asciiO),
    (115, (.cells [(.str 1 97), (.bool true)] 147 true true)),
    (294, (.cells [(.int .i64 (.ofNat 2)), (.int .i64 (.ofNat 0)), (.int .i32 (.ofNat 0)), (.str 0 0), .nils, (.int .i64 (.ofNat 0)), (.int .i64 (.ofNat 0)), (.int .i32 (.ofNat 2)), (.str 0 0), .nils] 118 false true)),
    (344, (.cells [(.int .i64 (.ofNat 2)), (.int .i64 (.ofNat 0)), (.int .i32 (.ofNat 0)), (.str 0 0), .nils, (.int .i64 (.ofNat 4)), (.int .i64 (.ofNat 2)), (.int .i32 (.ofNat 0)), (.str 0 0), (.slice 294 0 2 (some 2))] 118 false true)),
    (348, (.cells [(.int .i64 (.ofNat 2)), (.int .i64 (.ofNat 0)), (.str 1 97), (.slice 344 0 2 (some 2)), .nils, .nils] 105 true true)),
    (352, (.cells [(.str 1 107), (.slice 115 0 1 none), .nils, (.slice 348 0 1 none)] 138 true true)),
    (395, (.cells [(.int .i32 (.ofNat 0)), (.int .i32 (.ofNat 0)), (.int .i32 (.ofNat 0)), (.int .i32 (.ofNat 0)), (.int .i32 (.ofNat 0)), (.int .i32 (.ofNat 0)), (.int .i32 (.ofNat 0)), (.int .i32 (.ofNat 0))] 21 false true)),
    (396, (.cells [(.slice 395 0 8 (some 8))] 58 false true)),
    (399, (.cells [(.int .i32 (.ofNat 0))] 21 false true)),
    (1273, (.cells [(.int .i32 (.ofNat 0)), (.int .i32 (.ofNat 2)), (.int .i32 (.ofNat 4)), (.int .i32 (.ofNat 6)), (.int .i32 (.ofNat 0)), (.int .i32 (.ofNat 0)), (.int .i32 (.ofNat 0)), (.int .i32 (.ofNat 0))] 21 true true)),
    (1275, (.cells [(.slice 1273 0 8 none)] 58 true true)),
    (1277, (.cells [(.int .i64 (.ofNat 0)), (.int .i64 (.ofNat 0)), (.int .i64 (.ofNat 0)), (.int .i64 (.ofNat 0)), (.int .i64 (.ofNat 1)), (.int .i64 (.ofNat 0)), (.int .i64 (.ofNat 1)), (.int .i64 (.ofNat 0)), (.int .i64 (.ofNat 0)), (.int .i64 (.ofNat 1)), (.int .i64 (.ofNat 0)), (.int .i64 (.ofNat 0)), (.int .i64 (.ofNat 1)), (.int .i64 (.ofNat 1)), (.int .i64 (.ofNat 1)), (.int .i64 (.ofNat 0)), (.int .i64 (.ofNat 1)), (.int .i64 (.ofNat 1)), (.int .i64 (.ofNat 1)), (.int .i64 (.ofNat 1)), (.int .i64 (.ofNat 0)), (.int .i64 (.ofNat 0)), (.int .i64 (.ofNat 2)), (.int .i64 (.ofNat 2)), (.int .i64 (.ofNat 1)), (.int .i64 (.ofNat 0)), (.int .i64 (.ofNat 1)), (.int .i64 (.ofNat 2)), (.int .i64 (.ofNat 2)), (.int .i64 (.ofNat 1)), (.int .i64 (.ofNat 0)), (.int .i64 (.ofNat 0)), (.int .i64 (.ofNat 3)), (.int .i64 (.ofNat 3)), (.int .i64 (.ofNat 1)), (.int .i64 (.ofNat 0)), (.int .i64 (.ofNat 1)), (.int .i64 (.ofNat 3)), (.int .i64 (.ofNat 3)), (.int .i64 (.ofNat 1))] 56 true true))] }
theorem ent2_ok : provedBy (runF Go.Proofs.Tryz.prog tb (noneK) 100000) ent2 = true := by kernel_rfl
theorem ent2_fine : Fine Go.Proofs.Tryz.prog ent2 := fine_of_run (noneK_sound) ent2_ok
end
end Go.HL
