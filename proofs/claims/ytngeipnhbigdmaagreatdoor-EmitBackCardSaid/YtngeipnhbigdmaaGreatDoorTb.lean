/- The table of the compiled functions, and the table of blanks as it lies in memory. No statement of the seat stands here. -/
import Derived.Test.YtngeipnhbigdmaaGreatDoorPl1
import Derived.Test.YtngeipnhbigdmaaGreatDoorPl2
import Derived.Test.YtngeipnhbigdmaaGreatDoorHlG
namespace Go.HL
open Go
noncomputable section
set_option maxRecDepth 1000000
def tb : T cW := uJ Go.Proofs.Tryz.prog (IG ++ IF)
theorem Oj : pn Go.Proofs.Tryz.prog tb := D1 (tW Gt (Gr))
def Of : List Nat → List aa
  | [] => []
  | n :: l => .int .u8 (.ofNat n) :: Of l
def Me : List Nat := [0, 0, 0, 0, 0, 0, 0, 0, 0, 1, 1, 1, 1, 1, 0, 0, 0, 0, 0, 0, 0, 0, 0, 0, 0, 0, 0, 0, 0, 0, 0, 0, 1, 0, 0, 0, 0, 0, 0, 0, 0, 0, 0, 0, 0, 0, 0, 0, 0, 0, 0, 0, 0, 0, 0, 0, 0, 0, 0, 0, 0, 0, 0, 0, 0, 0, 0, 0, 0, 0, 0, 0, 0, 0, 0, 0, 0, 0, 0, 0, 0, 0, 0, 0, 0, 0, 0, 0, 0, 0, 0, 0, 0, 0, 0, 0, 0, 0, 0, 0, 0, 0, 0, 0, 0, 0, 0, 0, 0, 0, 0, 0, 0, 0, 0, 0, 0, 0, 0, 0, 0, 0, 0, 0, 0, 0, 0, 0, 0, 0, 0, 0, 0, 0, 0, 0, 0, 0, 0, 0, 0, 0, 0, 0, 0, 0, 0, 0, 0, 0, 0, 0, 0, 0, 0, 0, 0, 0, 0, 0, 0, 0, 0, 0, 0, 0, 0, 0, 0, 0, 0, 0, 0, 0, 0, 0, 0, 0, 0, 0, 0, 0, 0, 0, 0, 0, 0, 0, 0, 0, 0, 0, 0, 0, 0, 0, 0, 0, 0, 0, 0, 0, 0, 0, 0, 0, 0, 0, 0, 0, 0, 0, 0, 0, 0, 0, 0, 0, 0, 0, 0, 0, 0, 0, 0, 0, 0, 0, 0, 0, 0, 0, 0, 0, 0, 0, 0, 0, 0, 0, 0, 0, 0, 0, 0, 0, 0, 0, 0, 0, 0, 0, 0, 0, 0, 0]
def fA : aG := .cells (Of Me) 0 false false
theorem fY {K : ah} (hk : aX Go.Proofs.Tryz.prog K) {n : Nat} {e : sh} (h : gq (B4 Go.Proofs.Tryz.prog tb K n) e = true) : pz Go.Proofs.Tryz.prog e :=
  ⟨MI Go.Proofs.Tryz.prog K n, yu hk n, by rw [← KD Oj]; exact h⟩
end
end Go.HL
