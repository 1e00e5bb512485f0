/- A call of the program's, known: number 5. The kernel runs it. No statement of the seat stands here. -/
import Derived.Test.YtfmflhdogffjoaaGreatDoorTb
import Derived.Test.YtfmflhdogffjoaaGreatDoorEnt1
import Derived.Test.YtfmflhdogffjoaaGreatDoorEnt2
import Derived.Test.YtfmflhdogffjoaaGreatDoorEnt3
import Derived.Test.YtfmflhdogffjoaaGreatDoorEnt4
import Derived.KernelRfl
namespace Go.HL
open Go
set_option maxRecDepth 1000000
noncomputable section
def ent5 : Ent := {
  f := 5,
  args := [],
  next := 6,
  hin := [(0, tab0O)],
  res := (.bool true),
  next' := 751,
  hout := [(0, tab0O)] }
theorem ent5_ok : provedBy (runF Go.Proofs.Tryz.prog tb (known [ent1, ent2, ent3, ent4]) 100000) ent5 = true := by kernel_rfl
theorem ent5_fine : Fine Go.Proofs.Tryz.prog ent5 := fine_of_run (known_sound (fine_cons ent1_fine (fine_cons ent2_fine (fine_cons ent3_fine (fine_cons ent4_fine (fine_nil)))))) ent5_ok
end
end Go.HL
