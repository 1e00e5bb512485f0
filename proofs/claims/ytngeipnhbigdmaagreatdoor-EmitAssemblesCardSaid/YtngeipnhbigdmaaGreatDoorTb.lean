/- The table of the compiled functions, and the table of blanks as it lies in memory. No statement of the seat stands here. -/
import Derived.Test.YtngeipnhbigdmaaGreatDoorPl1
import Derived.Test.YtngeipnhbigdmaaGreatDoorPl2
import Derived.Test.YtngeipnhbigdmaaGreatDoorHlG
namespace Go.HL
open Go
noncomputable section
set_option maxRecDepth 1000000
def tb : T cK := tu Go.Proofs.Tryz.prog (Gw ++ Gv)
theorem Lh : oo Go.Proofs.Tryz.prog tb := Bt (sw Ep (Eo))
def Ld : List Nat → List ad
  | [] => []
  | n :: l => .int .u8 (.ofNat n) :: Ld l
def Ju : List Nat := [0, 0, 0, 0, 0, 0, 0, 0, 0, 1, 1, 1, 1, 1, 0, 0, 0, 0, 0, 0, 0, 0, 0, 0, 0, 0, 0, 0, 0, 0, 0, 0, 1, 0, 0, 0, 0, 0, 0, 0, 0, 0, 0, 0, 0, 0, 0, 0, 0, 0, 0, 0, 0, 0, 0, 0, 0, 0, 0, 0, 0, 0, 0, 0, 0, 0, 0, 0, 0, 0, 0, 0, 0, 0, 0, 0, 0, 0, 0, 0, 0, 0, 0, 0, 0, 0, 0, 0, 0, 0, 0, 0, 0, 0, 0, 0, 0, 0, 0, 0, 0, 0, 0, 0, 0, 0, 0, 0, 0, 0, 0, 0, 0, 0, 0, 0, 0, 0, 0, 0, 0, 0, 0, 0, 0, 0, 0, 0, 0, 0, 0, 0, 0, 0, 0, 0, 0, 0, 0, 0, 0, 0, 0, 0, 0, 0, 0, 0, 0, 0, 0, 0, 0, 0, 0, 0, 0, 0, 0, 0, 0, 0, 0, 0, 0, 0, 0, 0, 0, 0, 0, 0, 0, 0, 0, 0, 0, 0, 0, 0, 0, 0, 0, 0, 0, 0, 0, 0, 0, 0, 0, 0, 0, 0, 0, 0, 0, 0, 0, 0, 0, 0, 0, 0, 0, 0, 0, 0, 0, 0, 0, 0, 0, 0, 0, 0, 0, 0, 0, 0, 0, 0, 0, 0, 0, 0, 0, 0, 0, 0, 0, 0, 0, 0, 0, 0, 0, 0, 0, 0, 0, 0, 0, 0, 0, 0, 0, 0, 0, 0, 0, 0, 0, 0, 0, 0]
def fh : aE := .cells (Ld Ju) 0 false false
theorem fG {K : ai} (hk : aW Go.Proofs.Tryz.prog K) {n : Nat} {e : qZ} (h : fR (zz Go.Proofs.Tryz.prog tb K n) e = true) : oA Go.Proofs.Tryz.prog e :=
  ⟨K5 Go.Proofs.Tryz.prog K n, x3 hk n, by rw [← Im Lh]; exact h⟩
end
end Go.HL
