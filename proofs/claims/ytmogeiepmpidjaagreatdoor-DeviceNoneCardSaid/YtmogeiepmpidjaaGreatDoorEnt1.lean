/- A call of the program's, known: number 1. The kernel runs it. No statement of the seat stands here. -/
import Derived.Test.YtmogeiepmpidjaaGreatDoorTb
import Derived.KernelRfl
namespace Go.HL
open Go
set_option maxRecDepth 1000000
noncomputable section
def ent1 : Ent := {
  f := 60,
  args := [(.str 40 896082250341741886336870758073067032154031785515960219866192691204266879628268623310706372714621)],
  next := 40,
  hin := [(4, tab4O),
    (8, tab8O)],
  res := (.tuple [(.agg [.nils, (.slice 292 0 1 none)]), (.int .i64 (.ofNat 0)), (.int .i64 (.ofNat 0))]),
  next' := 454,
  hout := [(4, tab4O),
    (8, tab8O),
    (159, (.cells [(.str 1 97), (.bool true)] 105 true true)),
    (254, (.cells [(.int .i64 (.ofNat 2)), (.int .i64 (.ofNat 0)), (.int .i32 (.ofNat 0)), (.str 0 0), .nils, (.int .i64 (.ofNat 0)), (.int .i64 (.ofNat 0)), (.int .i32 (.ofNat 2)), (.str 0 0), .nils] 553 false true)),
    (287, (.cells [(.int .i64 (.ofNat 2)), (.int .i64 (.ofNat 0)), (.int .i32 (.ofNat 0)), (.str 0 0), .nils, (.int .i64 (.ofNat 4)), (.int .i64 (.ofNat 2)), (.int .i32 (.ofNat 0)), (.str 0 0), (.slice 254 0 2 (some 2))] 553 true true)),
    (290, (.cells [(.int .i64 (.ofNat 2)), (.int .i64 (.ofNat 0)), (.str 1 97), (.slice 287 0 2 none), .nils, .nils] 423 true true)),
    (292, (.cells [(.str 1 107), (.slice 159 0 1 none), .nils, (.slice 290 0 1 none)] 155 true true))] }
theorem ent1_ok : provedBy (runF Go.Proofs.Tryz.prog tb (noneK) 100000) ent1 = true := by kernel_rfl
theorem ent1_fine : Fine Go.Proofs.Tryz.prog ent1 := fine_of_run (noneK_sound) ent1_ok
end
end Go.HL
