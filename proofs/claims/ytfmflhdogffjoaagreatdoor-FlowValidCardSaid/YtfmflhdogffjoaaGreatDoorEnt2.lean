/- A call of the program's, known: number 2. The kernel runs it. No statement of the seat stands here. -/
import Derived.Test.YtfmflhdogffjoaaGreatDoorTb
import Derived.KernelRfl
namespace Go.HL
open Go
set_option maxRecDepth 1000000
noncomputable section
def ent2 : Ent := {
  f := 17,
  args := [(.str 32 48576716127310810060305221163053342103173108143139841252370669896801644650621)],
  next := 101,
  hin := [(0, tab0O)],
  res := (.agg [.nils, (.slice 398 0 1 none)]),
  next' := 428,
  hout := [(0, tab0O),
    (197, (.cells [(.str 1 97), (.bool true)] 35 true true)),
    (390, (.cells [(.int .i64 (.ofNat 0)), (.int .i64 (.ofNat 0)), (.int .i32 (.ofNat 0)), (.str 0 0), .nils, (.int .i64 (.ofNat 0)), (.int .i64 (.ofNat 0)), (.int .i32 (.ofNat 7)), (.str 0 0), .nils] 215 false true)),
    (394, (.cells [(.int .i64 (.ofNat 2)), (.int .i64 (.ofNat 0)), (.str 1 97), (.slice 390 0 2 (some 2)), .nils, .nils] 175 true true)),
    (398, (.cells [(.str 1 107), (.slice 197 0 1 none), .nils, (.slice 394 0 1 none)] 90 true true))] }
theorem ent2_ok : provedBy (runF Go.Proofs.Tryz.prog tb (noneK) 100000) ent2 = true := by kernel_rfl
theorem ent2_fine : Fine Go.Proofs.Tryz.prog ent2 := fine_of_run (noneK_sound) ent2_ok
end
end Go.HL
