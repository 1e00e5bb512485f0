/- PROVED: 'drawloom/drawloomlaw24.DeviceNone' returns true for every string and every number, and its arguments read behind the call as they read before ('Rows.DeviceNoneCardSaid', the tied card).
   Its conditions are those of the given row: the listed variables of Go's library start as the program's text lays them. The proof: the interpreter HL, sound for the model ('run_sound'), runs the function in the kernel, of the string nothing known, the number below zero, one of the tenants, or beyond them ('runs'). -/
import Derived.Test.YtmogeiepmpidjaaGreatDoorLift
import Derived.Test.YtmogeiepmpidjaaGreatDoorTieG
import Derived.Test.YtmogeiepmpidjaaGreatDoorKfH
import Derived.Test.YtmogeiepmpidjaaGreatDoorKoA
import Derived.Test.YtmogeiepmpidjaaGreatDoorKfK
import Derived.Test.YtmogeiepmpidjaaGreatDoorCards
namespace Go.Proofs.YtmogeiepmpidjaaGreatDoor.deviceNone
open Go.ChangeShapes Go.WideShapes Go.ChangeAt Go.RowKit Go.HL

theorem said : Rows.DeviceNoneSaid :=
  OpenClaim.holds_of_cond 3 Tryz.f3 rfl rfl rfl rfl rfl rfl rfl ⟨rfl, rfl, rfl, rfl, rfl⟩ rfl rfl rfl rfl rfl (by kernel_rfl) Tryz.func3 closed
    (of_decide_eq_true (by kernel_rfl)) (by unfold Func.isWrapper; first | (rw [if_pos (by decide +kernel)]; kernel_rfl) | (rw [if_neg (by decide +kernel)]; exact ⟨rfl, rfl⟩))
    (fun os started H enc _ F => by rw [OpenClaim.pre_eq_preRow]; exact lifted os started H enc F)

/-- No parameter wants a stand-in; the program's own looks are on: what the card asks. -/
theorem plain (f : FuncId) (fn : Func) (hf : Tryz.pinned.checked.prog.funcNamed "drawloom/drawloomlaw24.DeviceNone" = some f) (hfn : Tryz.pinned.checked.prog.funcs[f]? = some fn) :
    true = Tryz.pinned.checked.prog.looks [] ∧ ∀ (j : Nat) t, fn.params[j]? = some t → Tryz.pinned.checked.prog.wantsStandIn t = false := by
  obtain rfl : f = 3 := Option.some.inj ((show Tryz.prog.funcNamed "drawloom/drawloomlaw24.DeviceNone" = some 3 by kernel_rfl).symm.trans hf) |>.symm
  obtain rfl : fn = Tryz.f3 := (Option.some.inj (Tryz.func3.symm.trans hfn)).symm
  refine ⟨looksOn, fun j t ht => ?_⟩
  rw [Tryz.params3] at ht
  have hm := Array.mem_of_getElem? ht
  have : t = 9 ∨ t = 3 := by simpa using hm
  rcases this with rfl | rfl
  · exact wants9
  · exact wants3

/-- ████ THE CARD ████ -/
theorem card : Rows.DeviceNoneCardSaid :=
  Claim7.holds_tied_plain_at .later [] _ _ _ _ said (fun _ h => by cases h) wfText (fun _ h => by cases h) rowTie rfl ⟨rfl, rfl⟩ mainIs rfl plain goes
#print axioms card
end Go.Proofs.YtmogeiepmpidjaaGreatDoor.deviceNone
