/- The outer runs: n below zero, each tenant, beyond. No statement of the seat stands here. -/
import Derived.Test.YtmogeiepmpidjaaGreatDoorEnt19
import Derived.KernelRfl
namespace Go.HL
open Go
set_option maxRecDepth 1000000
noncomputable section
def retT (r : Option (CRes × Heap)) : Bool := match r with
  | some r => match r.1 with
    | .ret v => match v with
      | .bool b => b
      | _ => false
    | _ => false
  | none => false
def heap0 : Heap := ⟨11, layOver .leaf [(4, tab4O), (8, tab8O)]⟩
def ents : List Ent := [ent19]
theorem ents_sound : CallSound Go.Proofs.Tryz.prog (known ents) := known_sound (fine_cons ent19_fine fine_nil)
def runs (n : HVal) : Bool := retT (runF Go.Proofs.Tryz.prog tb (known ents) 100000 3 [.bad, n] heap0)
theorem root_neg : runs (.rng .i64 (-9223372036854775808) (-1)) = true := by kernel_rfl
theorem root_0 : runs (.int .i64 (.ofNat 0)) = true := by kernel_rfl
theorem root_1 : runs (.int .i64 (.ofNat 1)) = true := by kernel_rfl
theorem root_2 : runs (.int .i64 (.ofNat 2)) = true := by kernel_rfl
theorem root_big : runs (.rng .i64 3 9223372036854775807) = true := by kernel_rfl
end
end Go.HL
