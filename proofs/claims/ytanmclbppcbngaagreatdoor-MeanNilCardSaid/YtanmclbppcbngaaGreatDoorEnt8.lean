/- A call of the program's, known: number 8. The kernel runs it. No statement of the seat stands here. -/
import Derived.Test.YtanmclbppcbngaaGreatDoorTb
import Derived.KernelRfl
namespace Go.HL
open Go
set_option maxRecDepth 1000000
noncomputable section
def ent8 : Ent := {
  f := 24,
  args := [(.agg [.nils, (.slice 4164 0 1 none)]), (.agg [(.str 1 107), (.int .i64 (.ofNat 1)), (.int .i64 (.ofNat 2)), (.slice 4191 0 1 (some 1))]), (.slice 4192 0 1 (some 1)), .nils],
  next := 4193,
  hin := [(0, asciiO),
    (4034, (.cells [(.str 1 97), (.bool true)] 147 true true)),
    (4130, (.cells [(.int .i64 (.ofNat 2)), (.int .i64 (.ofNat 0)), (.int .i32 (.ofNat 0)), (.str 0 0), .nils] 118 false true)),
    (4154, (.cells [(.int .i64 (.ofNat 8)), (.int .i64 (.ofNat 0)), (.str 0 0), .nils, .nils, .nils] 105 true true)),
    (4160, (.cells [(.int .i64 (.ofNat 3)), (.int .i64 (.ofNat 0)), (.str 0 0), (.slice 4130 0 1 (some 1)), (.slice 4154 0 1 none), .nils] 105 true true)),
    (4164, (.cells [(.str 1 107), (.slice 4034 0 1 none), .nils, (.slice 4160 0 1 none)] 138 true true)),
    (4191, (.cells [(.int .i32 (.ofNat 0))] 21 false true)),
    (4192, (.cells [.nils] 58 false true))],
  res := (.tuple [(.agg [(.int .i64 (.ofNat 11)), (.slice 4638 0 1 none), .nils, (.int .i64 (.ofNat 3))]), (.int .i64 (.ofNat 0))]),
  next' := 4641,
  hout := [(0, asciiO),
    (4034, (.cells [(.str 1 97), (.bool true)] 147 true true)),
    (4130, (.cells [(.int .i64 (.ofNat 2)), (.int .i64 (.ofNat 0)), (.int .i32 (.ofNat 0)), (.str 0 0), .nils] 118 false true)),
    (4154, (.cells [(.int .i64 (.ofNat 8)), (.int .i64 (.ofNat 0)), (.str 0 0), .nils, .nils, .nils] 105 true true)),
    (4160, (.cells [(.int .i64 (.ofNat 3)), (.int .i64 (.ofNat 0)), (.str 0 0), (.slice 4130 0 1 (some 1)), (.slice 4154 0 1 none), .nils] 105 true true)),
    (4164, (.cells [(.str 1 107), (.slice 4034 0 1 none), .nils, (.slice 4160 0 1 none)] 138 true true)),
    (4191, (.cells [(.int .i32 (.ofNat 0))] 21 false true)),
    (4192, (.cells [.nils] 58 false true)),
    (4636, (.cells [] 21 false true)),
    (4638, (.cells [(.slice 4636 0 0 (some 0))] 58 true true))] }
theorem ent8_ok : provedBy (runF Go.Proofs.Tryz.prog tb (noneK) 100000) ent8 = true := by kernel_rfl
theorem ent8_fine : Fine Go.Proofs.Tryz.prog ent8 := fine_of_run (noneK_sound) ent8_ok
end
end Go.HL
