/- A call of the program's, known: number 1. The kernel runs it. No statement of the seat stands here. -/
import Derived.Test.YtngeipnhbigdmaaGreatDoorTb
import Derived.KernelRfl
namespace Go.HL
open Go
set_option maxRecDepth 1000000
noncomputable section
def Lv : sh := {
  f := 149,
  args := [],
  next := 11,
  nk := [(0, fA)],
  res := (.map 11),
  next' := 13,
  bO := [(0, fA),
    (11, (.map [⟨(.str 4 1718972003), (.bool true), 0⟩, ⟨(.str 6 118083455706476), (.bool true), 1⟩, ⟨(.str 6 108256368682354), (.bool true), 2⟩, ⟨(.str 3 6909556), (.bool true), 3⟩, ⟨(.str 6 126892148680036), (.bool true), 4⟩, ⟨(.str 3 7103860), (.bool true), 5⟩, ⟨(.str 2 26982), (.bool true), 6⟩, ⟨(.str 4 1701606245), (.bool true), 7⟩, ⟨(.str 5 512852847717), (.bool true), 8⟩, ⟨(.str 5 422826041707), (.bool true), 9⟩, ⟨(.str 8 7165066978433856869), (.bool true), 10⟩, ⟨(.str 6 125780071117422), (.bool true), 11⟩, ⟨(.str 7 27691691891320178), (.bool true), 12⟩, ⟨(.str 6 107152713541987), (.bool true), 13⟩, ⟨(.str 7 27988534160089972), (.bool true), 14⟩, ⟨(.str 3 7629156), (.bool true), 15⟩, ⟨(.str 3 6449508), (.bool true), 16⟩, ⟨(.str 3 6580589), (.bool true), 17⟩, ⟨(.str 4 1735551332), (.bool true), 18⟩, ⟨(.str 3 7170414), (.bool true), 19⟩, ⟨(.str 3 7168376), (.bool true), 20⟩, ⟨(.str 3 6382692), (.bool true), 21⟩, ⟨(.str 3 6385252), (.bool true), 22⟩, ⟨(.str 2 28530), (.bool true), 23⟩, ⟨(.str 3 7892850), (.bool true), 24⟩] 25 true))] }
theorem Lu : gq (B4 Go.Proofs.Tryz.prog tb (Ml) 100000) Lv = true := by kernel_rfl
theorem Ht : pz Go.Proofs.Tryz.prog Lv := fY (Bk) Lu
end
end Go.HL
