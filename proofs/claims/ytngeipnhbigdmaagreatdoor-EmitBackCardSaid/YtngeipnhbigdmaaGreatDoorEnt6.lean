/- A call of the program's, known: number 6. The kernel runs it. No statement of the seat stands here. -/
import Derived.Test.YtngeipnhbigdmaaGreatDoorEnW
import Derived.Test.YtngeipnhbigdmaaGreatDoorEnt2
import Derived.Test.YtngeipnhbigdmaaGreatDoorEnt3
import Derived.Test.YtngeipnhbigdmaaGreatDoorEnt5
import Derived.KernelRfl
namespace Go.HL
open Go
set_option maxRecDepth 1000000
noncomputable section
def Ny : sh := {
  f := 8,
  args := [],
  next := 11,
  nk := [(0, fA)],
  res := (.bool true),
  next' := 2696,
  bO := [(0, fA)] }
theorem Lp : gq (B4 Go.Proofs.Tryz.prog tb (PF (known [NC, NB, Nz]) kw) 100000) Ny = true := by kernel_rfl
theorem Ho : pz Go.Proofs.Tryz.prog Ny := fY (yF (nY (p7 Hs (p7 Hr (p7 Hp (BY))))) nX) Lp
end
end Go.HL
