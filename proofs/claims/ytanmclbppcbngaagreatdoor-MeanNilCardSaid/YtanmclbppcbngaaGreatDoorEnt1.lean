/- A call of the program's, known: number 1. The kernel runs it. No statement of the seat stands here. -/
import Derived.Test.YtanmclbppcbngaaGreatDoorTb
import Derived.KernelRfl
namespace Go.HL
open Go
set_option maxRecDepth 1000000
noncomputable section
def ent1 : Ent := {
  f := 23,
  args := [(.str 40 896082250341741886336870758073067032154031785515960219866192691204266879628268623310706372714621)],
  next := 8,
  hin := [(0, asciiO)],
  res := (.agg [.nils, (.slice 352 0 1 none)]),
  next' := 394,
  hout := [(0, asciiO),
    (115, (.cells [(.str 1 97), (.bool true)] 147 true true)),
    (294, (.cells [(.int .i64 (.ofNat 2)), (.int .i64 (.ofNat 0)), (.int .i32 (.ofNat 0)), (.str 0 0), .nils, (.int .i64 (.ofNat 0)), (.int .i64 (.ofNat 0)), (.int .i32 (.ofNat 2)), (.str 0 0), .nils] 118 false true)),
    (344, (.cells [(.int .i64 (.ofNat 2)), (.int .i64 (.ofNat 0)), (.int .i32 (.ofNat 0)), (.str 0 0), .nils, (.int .i64 (.ofNat 4)), (.int .i64 (.ofNat 2)), (.int .i32 (.ofNat 0)), (.str 0 0), (.slice 294 0 2 (some 2))] 118 false true)),
    (348, (.cells [(.int .i64 (.ofNat 2)), (.int .i64 (.ofNat 0)), (.str 1 97), (.slice 344 0 2 (some 2)), .nils, .nils] 105 true true)),
    (352, (.cells [(.str 1 107), (.slice 115 0 1 none), .nils, (.slice 348 0 1 none)] 138 true true))] }
theorem ent1_ok : provedBy (runF Go.Proofs.Tryz.prog tb (noneK) 100000) ent1 = true := by kernel_rfl
theorem ent1_fine : Fine Go.Proofs.Tryz.prog ent1 := fine_of_run (noneK_sound) ent1_ok
end
end Go.HL
