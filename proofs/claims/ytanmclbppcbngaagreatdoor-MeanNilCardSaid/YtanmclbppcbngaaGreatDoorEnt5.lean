/- A call of the program's, known: number 5. The kernel runs it. No statement of the seat stands here. -/
import Derived.Test.YtanmclbppcbngaaGreatDoorTb
import Derived.KernelRfl
namespace Go.HL
open Go
set_option maxRecDepth 1000000
noncomputable section
def ent5 : Ent := {
  f := 23,
  args := [(.str 67 94368475307006599319211907972145109155642384228018505692049139931688432851985332087734747213790374440025067107519531638201232465357687857443645534165063886905469)],
  next := 1916,
  hin := [(0, asciiO)],
  res := (.agg [.nils, (.slice 2465 0 1 none)]),
  next' := 2529,
  hout := [(0, asciiO),
    (2064, (.cells [(.str 1 97), (.bool true)] 147 true true)),
    (2184, (.cells [(.int .i64 (.ofNat 2)), (.int .i64 (.ofNat 0)), (.int .i32 (.ofNat 0)), (.str 0 0), .nils] 118 false true)),
    (2284, (.cells [(.int .i64 (.ofNat 2)), (.int .i64 (.ofNat 1)), (.int .i32 (.ofNat 0)), (.str 0 0), .nils, (.int .i64 (.ofNat 2)), (.int .i64 (.ofNat 2)), (.int .i32 (.ofNat 0)), (.str 0 0), .nils] 118 false true)),
    (2326, (.cells [(.int .i64 (.ofNat 4)), (.int .i64 (.ofNat 2)), (.int .i32 (.ofNat 0)), (.str 0 0), (.slice 2284 0 2 (some 2)), (.int .i64 (.ofNat 2)), (.int .i64 (.ofNat 0)), (.int .i32 (.ofNat 0)), (.str 0 0), .nils] 118 false true)),
    (2457, (.cells [(.int .i64 (.ofNat 4)), (.int .i64 (.ofNat 0)), (.int .i32 (.ofNat 0)), (.str 0 0), (.slice 2326 0 2 (some 2)), (.int .i64 (.ofNat 1)), (.int .i64 (.ofNat 0)), (.int .i32 (.ofNat 0)), (.str 1 115), .nils] 118 false true)),
    (2461, (.cells [(.int .i64 (.ofNat 10)), (.int .i64 (.ofNat 0)), (.str 1 115), (.slice 2184 0 1 (some 1)), .nils, .nils, (.int .i64 (.ofNat 2)), (.int .i64 (.ofNat 0)), (.str 1 97), (.slice 2457 0 2 (some 2)), .nils, .nils] 105 true true)),
    (2465, (.cells [(.str 1 107), (.slice 2064 0 1 none), .nils, (.slice 2461 0 2 none)] 138 true true))] }
theorem ent5_ok : provedBy (runF Go.Proofs.Tryz.prog tb (noneK) 100000) ent5 = true := by kernel_rfl
theorem ent5_fine : Fine Go.Proofs.Tryz.prog ent5 := fine_of_run (noneK_sound) ent5_ok
end
end Go.HL
