/- A call of the program's, known: number 19. The kernel runs it. No statement of the seat stands here. -/
import Derived.Test.YtolkehkjhpnioaaGreatDoorTb
import Derived.Test.YtolkehkjhpnioaaGreatDoorEnt16
import Derived.Test.YtolkehkjhpnioaaGreatDoorEnt17
import Derived.Test.YtolkehkjhpnioaaGreatDoorEnt18
import Derived.KernelRfl
namespace Go.HL
open Go
set_option maxRecDepth 1000000
noncomputable section
def ent19 : Ent := {
  f := 4,
  args := [],
  next := 11,
  hin := [(4, tab4O),
    (8, tab8O)],
  res := (.bool true),
  next' := 4495,
  hout := [(4, tab4O),
    (8, tab8O)] }
theorem ent19_ok : provedBy (runF Go.Proofs.Tryz.prog tb (known [ent16, ent17, ent18]) 100000) ent19 = true := by kernel_rfl
theorem ent19_fine : Fine Go.Proofs.Tryz.prog ent19 := fine_of_run (known_sound (fine_cons ent16_fine (fine_cons ent17_fine (fine_cons ent18_fine (fine_nil))))) ent19_ok
end
end Go.HL
