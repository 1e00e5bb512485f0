/- A closed fact of the row. No statement of the seat stands here. -/
import Derived.Test.YtolkehkjhpnioaaGreatDoorRows
import Derived.JoinedCond
import Derived.KernelRfl
namespace Go.Proofs.YtolkehkjhpnioaaGreatDoor.deviceReads
open Go
theorem k3 : mapsRowed Tryz.pinned.checked.prog = true := by kernel_rfl
theorem typesN : Tryz.pinned.checked.prog.types.size = 752 := by kernel_rfl
theorem globalsIn : Tryz.pinned.checked.prog.globals.all (fun g => decide (g.type < Tryz.pinned.checked.prog.types.size)) = true := by kernel_rfl
theorem paramsIn : Tryz.pinned.checked.prog.funcs.all (fun f => f.params.all fun t => decide (t < Tryz.pinned.checked.prog.types.size)) = true := by kernel_rfl
end Go.Proofs.YtolkehkjhpnioaaGreatDoor.deviceReads
