import Derived.Test.YtanmclbppcbngaaGreatDoorEnt1
import Derived.Test.YtanmclbppcbngaaGreatDoorEnt2
import Derived.Test.YtanmclbppcbngaaGreatDoorEnt4
import Derived.Test.YtanmclbppcbngaaGreatDoorEnt5
import Derived.Test.YtanmclbppcbngaaGreatDoorEnt6
import Derived.Test.YtanmclbppcbngaaGreatDoorEnt7
import Derived.Test.YtanmclbppcbngaaGreatDoorEnt8
import Derived.KernelRfl
namespace Go.HL
open Go
set_option maxRecDepth 1000000
noncomputable section
def retT (r : Option (CRes × Heap)) : Bool := match r with
  | some r => match r.1 with
    | .ret v => match v with
      | .bool b => b
      | _ => false
    | _ => false
  | none => false
def heap0 : Heap := ⟨6, layOver .leaf [(0, asciiO)]⟩
def ents : List Ent := [ent1, ent2, ent4, ent5, ent6, ent7, ent8]
theorem root_ok : retT (runF Go.Proofs.Tryz.prog tb (known ents) 100000 3 [.bad] heap0) = true := by kernel_rfl
end
end Go.HL
