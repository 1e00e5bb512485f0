/- A call of the program's, known: number 6. The kernel runs it. No statement of the seat stands here. -/
import Derived.Test.YtngeipnhbigdmaaGreatDoorEnW
import Derived.Test.YtngeipnhbigdmaaGreatDoorEnt2
import Derived.Test.YtngeipnhbigdmaaGreatDoorEnt3
import Derived.Test.YtngeipnhbigdmaaGreatDoorEnt5
import Derived.KernelRfl
namespace Go.HL
open Go
set_option maxRecDepth 1000000
noncomputable section
def ent6 : Ent := {
  f := 8,
  args := [],
  next := 11,
  hin := [(0, tab0O)],
  res := (.bool true),
  next' := 2696,
  hout := [(0, tab0O)] }
theorem ent6_ok : provedBy (runF Go.Proofs.Tryz.prog tb (orK (known [ent2, ent3, ent5]) kw) 100000) ent6 = true := by kernel_rfl
theorem ent6_fine : Fine Go.Proofs.Tryz.prog ent6 := fine_of_run (orK_sound (known_sound (fine_cons ent2_fine (fine_cons ent3_fine (fine_cons ent5_fine (fine_nil))))) kw_sound) ent6_ok
end
end Go.HL
