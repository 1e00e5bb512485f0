/- A call of the program's, known: number 6. The kernel runs it. No statement of the seat stands here. -/
import Derived.Test.YtngeipnhbigdmaaGreatDoorEnW
import Derived.Test.YtngeipnhbigdmaaGreatDoorEnt2
import Derived.Test.YtngeipnhbigdmaaGreatDoorEnt3
import Derived.Test.YtngeipnhbigdmaaGreatDoorEnt5
import Derived.KernelRfl
namespace Go.HL
open Go
set_option maxRecDepth 1000000
noncomputable section
def KA : qZ := {
  f := 8,
  args := [],
  next := 11,
  ln := [(0, fh)],
  res := (.bool true),
  next' := 2696,
  bJ := [(0, fh)] }
theorem IZ : fR (zz Go.Proofs.Tryz.prog tb (MK (known [KE, KD, KB]) kw) 100000) KA = true := by kernel_rfl
theorem Fs : oA Go.Proofs.Tryz.prog KA := fG (xd (nd (o8 Fw (o8 Fv (o8 Ft (Au))))) nc) IZ
end
end Go.HL
