/- PROVED: 'drawloom/drawloomlaw24.DeviceReads' returns true for all words, every cell, size and tenant, and its arguments read behind the call as they read before ('Rows.DeviceReadsCardSaid', the tied card).
   Its conditions are those of the given row: the listed variables of Go's library start as the program's text lays them. The proof: the walk is shown for every memory of the interpreter HL (the texts Dr..), and HL is sound for the model; the runs that take no argument ('awake', the device's commands) are done in the kernel; strconv.Itoa, FormatInt, ParseInt, strings.Join and strings.Split are met by the kit's contracts. -/
import Derived.Test.YtolkehkjhpnioaaGreatDoorLifted
import Derived.Test.YtolkehkjhpnioaaGreatDoorTieG
import Derived.Test.YtolkehkjhpnioaaGreatDoorKfH
import Derived.Test.YtolkehkjhpnioaaGreatDoorKoA
import Derived.Test.YtolkehkjhpnioaaGreatDoorKfK
import Derived.Test.YtolkehkjhpnioaaGreatDoorCards
namespace Go.Proofs.YtolkehkjhpnioaaGreatDoor.deviceReads
open Go.ChangeShapes Go.WideShapes Go.ChangeAt Go.RowKit Go.HL

theorem said : Rows.DeviceReadsSaid :=
  OpenClaim.holds_of_cond 3 Tryz.f3 rfl rfl rfl rfl rfl rfl rfl ⟨rfl, rfl, rfl, rfl, rfl⟩ rfl rfl rfl rfl rfl (by kernel_rfl) Tryz.func3 closed
    (of_decide_eq_true (by kernel_rfl)) (by unfold Func.isWrapper; first | (rw [if_pos (by decide +kernel)]; kernel_rfl) | (rw [if_neg (by decide +kernel)]; exact ⟨rfl, rfl⟩))
    (fun os started H enc _ F => by rw [OpenClaim.pre_eq_preRow]; exact lifted os started H enc F)

/-- No parameter wants a stand-in; the program's own looks are on: what the card asks. -/
theorem plain (f : FuncId) (fn : Func) (hf : Tryz.pinned.checked.prog.funcNamed "drawloom/drawloomlaw24.DeviceReads" = some f) (hfn : Tryz.pinned.checked.prog.funcs[f]? = some fn) :
    true = Tryz.pinned.checked.prog.looks [] ∧ ∀ (j : Nat) t, fn.params[j]? = some t → Tryz.pinned.checked.prog.wantsStandIn t = false := by
  obtain rfl : f = 3 := Option.some.inj ((show Tryz.prog.funcNamed "drawloom/drawloomlaw24.DeviceReads" = some 3 by kernel_rfl).symm.trans hf) |>.symm
  obtain rfl : fn = Tryz.f3 := (Option.some.inj (Tryz.func3.symm.trans hfn)).symm
  refine ⟨looksOn, fun j t ht => ?_⟩
  rw [Tryz.params3] at ht
  have h2 : t = 22 ∨ t = 5 := by simpa using Array.mem_of_getElem? ht
  rcases h2 with rfl | rfl
  · exact wants22
  · exact wants5

/-- ████ THE CARD ████ -/
theorem card : Rows.DeviceReadsCardSaid :=
  Claim7.holds_tied_plain_at .later [] _ _ _ _ said (fun _ h => by cases h) wfText (fun _ h => by cases h) rowTie rfl ⟨rfl, rfl⟩ mainIs rfl plain goes
#print axioms card
end Go.Proofs.YtolkehkjhpnioaaGreatDoor.deviceReads
