/- A call of the program's, known: number 6. The kernel runs it. No statement of the seat stands here. -/
import Derived.Test.YtanmclbppcbngaaGreatDoorTb
import Derived.KernelRfl
namespace Go.HL
open Go
set_option maxRecDepth 1000000
noncomputable section
def ent6 : Ent := {
  f := 24,
  args := [(.agg [.nils, (.slice 2465 0 1 none)]), (.agg [(.str 1 107), (.int .i64 (.ofNat 2)), (.int .i64 (.ofNat 4)), (.slice 2530 0 1 (some 1))]), (.slice 1914 0 1 (some 1)), .nils],
  next := 2531,
  hin := [(0, asciiO),
    (1913, (.cells [(.int .i32 (.ofNat 0)), (.int .i32 (.ofNat 0)), (.int .i32 (.ofNat 0)), (.int .i32 (.ofNat 0)), (.int .i32 (.ofNat 0)), (.int .i32 (.ofNat 0)), (.int .i32 (.ofNat 0)), (.int .i32 (.ofNat 0))] 21 false true)),
    (1914, (.cells [(.slice 1913 0 8 (some 8))] 58 false true)),
    (2064, (.cells [(.str 1 97), (.bool true)] 147 true true)),
    (2184, (.cells [(.int .i64 (.ofNat 2)), (.int .i64 (.ofNat 0)), (.int .i32 (.ofNat 0)), (.str 0 0), .nils] 118 false true)),
    (2284, (.cells [(.int .i64 (.ofNat 2)), (.int .i64 (.ofNat 1)), (.int .i32 (.ofNat 0)), (.str 0 0), .nils, (.int .i64 (.ofNat 2)), (.int .i64 (.ofNat 2)), (.int .i32 (.ofNat 0)), (.str 0 0), .nils] 118 false true)),
    (2326, (.cells [(.int .i64 (.ofNat 4)), (.int .i64 (.ofNat 2)), (.int .i32 (.ofNat 0)), (.str 0 0), (.slice 2284 0 2 (some 2)), (.int .i64 (.ofNat 2)), (.int .i64 (.ofNat 0)), (.int .i32 (.ofNat 0)), (.str 0 0), .nils] 118 false true)),
    (2457, (.cells [(.int .i64 (.ofNat 4)), (.int .i64 (.ofNat 0)), (.int .i32 (.ofNat 0)), (.str 0 0), (.slice 2326 0 2 (some 2)), (.int .i64 (.ofNat 1)), (.int .i64 (.ofNat 0)), (.int .i32 (.ofNat 0)), (.str 1 115), .nils] 118 false true)),
    (2461, (.cells [(.int .i64 (.ofNat 10)), (.int .i64 (.ofNat 0)), (.str 1 115), (.slice 2184 0 1 (some 1)), .nils, .nils, (.int .i64 (.ofNat 2)), (.int .i64 (.ofNat 0)), (.str 1 97), (.slice 2457 0 2 (some 2)), .nils, .nils] 105 true true)),
    (2465, (.cells [(.str 1 107), (.slice 2064 0 1 none), .nils, (.slice 2461 0 2 none)] 138 true true)),
    (2530, (.cells [(.int .i32 (.ofNat 0))] 21 false true))],
  res := (.tuple [(.agg [(.int .i64 (.ofNat 0)), (.slice 3932 0 1 none), .nils, (.int .i64 (.ofNat 16))]), (.int .i64 (.ofNat 0))]),
  next' := 3941,
  hout := [(0, asciiO),
    (1913, (.cells [(.int .i32 (.ofNat 0)), (.int .i32 (.ofNat 0)), (.int .i32 (.ofNat 0)), (.int .i32 (.ofNat 0)), (.int .i32 (.ofNat 0)), (.int .i32 (.ofNat 0)), (.int .i32 (.ofNat 0)), (.int .i32 (.ofNat 0))] 21 false true)),
    (1914, (.cells [(.slice 1913 0 8 (some 8))] 58 false true)),
    (2064, (.cells [(.str 1 97), (.bool true)] 147 true true)),
    (2184, (.cells [(.int .i64 (.ofNat 2)), (.int .i64 (.ofNat 0)), (.int .i32 (.ofNat 0)), (.str 0 0), .nils] 118 false true)),
    (2284, (.cells [(.int .i64 (.ofNat 2)), (.int .i64 (.ofNat 1)), (.int .i32 (.ofNat 0)), (.str 0 0), .nils, (.int .i64 (.ofNat 2)), (.int .i64 (.ofNat 2)), (.int .i32 (.ofNat 0)), (.str 0 0), .nils] 118 false true)),
    (2326, (.cells [(.int .i64 (.ofNat 4)), (.int .i64 (.ofNat 2)), (.int .i32 (.ofNat 0)), (.str 0 0), (.slice 2284 0 2 (some 2)), (.int .i64 (.ofNat 2)), (.int .i64 (.ofNat 0)), (.int .i32 (.ofNat 0)), (.str 0 0), .nils] 118 false true)),
    (2457, (.cells [(.int .i64 (.ofNat 4)), (.int .i64 (.ofNat 0)), (.int .i32 (.ofNat 0)), (.str 0 0), (.slice 2326 0 2 (some 2)), (.int .i64 (.ofNat 1)), (.int .i64 (.ofNat 0)), (.int .i32 (.ofNat 0)), (.str 1 115), .nils] 118 false true)),
    (2461, (.cells [(.int .i64 (.ofNat 10)), (.int .i64 (.ofNat 0)), (.str 1 115), (.slice 2184 0 1 (some 1)), .nils, .nils, (.int .i64 (.ofNat 2)), (.int .i64 (.ofNat 0)), (.str 1 97), (.slice 2457 0 2 (some 2)), .nils, .nils] 105 true true)),
    (2465, (.cells [(.str 1 107), (.slice 2064 0 1 none), .nils, (.slice 2461 0 2 none)] 138 true true)),
    (2530, (.cells [(.int .i32 (.ofNat 0))] 21 false true)),
    (3930, (.cells [(.int .i32 (.ofNat 6)), (.int .i32 (.ofNat 6)), (.int .i32 (.ofNat 6)), (.int .i32 (.ofNat 6)), (.int .i32 (.ofNat 6)), (.int .i32 (.ofNat 6)), (.int .i32 (.ofNat 6)), (.int .i32 (.ofNat 6))] 21 true true)),
    (3932, (.cells [(.slice 3930 0 8 none)] 58 true true))] }
theorem ent6_ok : provedBy (runF Go.Proofs.Tryz.prog tb (noneK) 100000) ent6 = true := by kernel_rfl
theorem ent6_fine : Fine Go.Proofs.Tryz.prog ent6 := fine_of_run (noneK_sound) ent6_ok
end
end Go.HL
