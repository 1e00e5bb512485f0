/- A call of the program's, known: number 7. The kernel runs it. No statement of the seat stands here. -/
import Derived.Test.YtanmclbppcbngaaGreatDoorTb
import Derived.KernelRfl
namespace Go.HL
open Go
set_option maxRecDepth 1000000
noncomputable section
def ent7 : Ent := {
  f := 23,
  args := [(.str 42 58725646358396396262973162001076521019246627095573980722090498686234779717187390289072199408990101629)],
  next := 3941,
  hin := [(0, asciiO)],
  res := (.agg [.nils, (.slice 4164 0 1 none)]),
  next' := 4190,
  hout := [(0, asciiO),
    (4034, (.cells [(.str 1 97), (.bool true)] 147 true true)),
    (4130, (.cells [(.int .i64 (.ofNat 2)), (.int .i64 (.ofNat 0)), (.int .i32 (.ofNat 0)), (.str 0 0), .nils] 118 false true)),
    (4154, (.cells [(.int .i64 (.ofNat 8)), (.int .i64 (.ofNat 0)), (.str 0 0), .nils, .nils, .nils] 105 true true)),
    (4160, (.cells [(.int .i64 (.ofNat 3)), (.int .i64 (.ofNat 0)), (.str 0 0), (.slice 4130 0 1 (some 1)), (.slice 4154 0 1 none), .nils] 105 true true)),
    (4164, (.cells [(.str 1 107), (.slice 4034 0 1 none), .nils, (.slice 4160 0 1 none)] 138 true true))] }
theorem ent7_ok : provedBy (runF Go.Proofs.Tryz.prog tb (noneK) 100000) ent7 = true := by kernel_rfl
theorem ent7_fine : Fine Go.Proofs.Tryz.prog ent7 := fine_of_run (noneK_sound) ent7_ok
end
end Go.HL
