/- PROVED: 'drawloom/drawloomlaw12.EmitAssembles' returns true for every string, and its argument reads behind the call as it read before ('Rows.EmitAssemblesCardSaid', the tied card).
   Its conditions are those of the given row: the listed variables of Go's library start as the program's text lays them. The proof: the walk is shown for every memory of the interpreter HL (the texts Em.., Ev.., Ea..), and HL is sound for the model; the runs that take no argument ('awake', the words of the language) are done in the kernel; strconv.Itoa, strconv.ParseInt, strings.Join and strings.Split are met by the kit's contracts. -/
import Derived.Test.YtngeipnhbigdmaaGreatDoorLifted
import Derived.Test.YtngeipnhbigdmaaGreatDoorTieG
import Derived.Test.YtngeipnhbigdmaaGreatDoorKfH
import Derived.Test.YtngeipnhbigdmaaGreatDoorKoA
import Derived.Test.YtngeipnhbigdmaaGreatDoorKfK
import Derived.Test.YtngeipnhbigdmaaGreatDoorCards
namespace Go.Proofs.YtngeipnhbigdmaaGreatDoor.emitAssembles
open Go.ChangeShapes Go.WideShapes Go.ChangeAt Go.RowKit Go.HL

theorem said : Rows.EmitAssemblesSaid :=
  OpenClaim.holds_of_cond 5 Tryz.f5 rfl rfl rfl rfl rfl rfl rfl ⟨rfl, rfl, rfl, rfl, rfl⟩ rfl rfl rfl rfl rfl (by kernel_rfl) Tryz.func5 closed
    (of_decide_eq_true (by kernel_rfl)) (by unfold Func.isWrapper; first | (rw [if_pos (by decide +kernel)]; kernel_rfl) | (rw [if_neg (by decide +kernel)]; exact ⟨rfl, rfl⟩))
    (fun os started H enc _ F => by rw [OpenClaim.pre_eq_preRow]; exact lifted os started H enc F)

/-- No parameter wants a stand-in; the program's own looks are on: what the card asks. -/
theorem plain (f : FuncId) (fn : Func) (hf : Tryz.pinned.checked.prog.funcNamed "drawloom/drawloomlaw12.EmitAssembles" = some f) (hfn : Tryz.pinned.checked.prog.funcs[f]? = some fn) :
    true = Tryz.pinned.checked.prog.looks [] ∧ ∀ (j : Nat) t, fn.params[j]? = some t → Tryz.pinned.checked.prog.wantsStandIn t = false := by
  obtain rfl : f = 5 := Option.some.inj ((show Tryz.prog.funcNamed "drawloom/drawloomlaw12.EmitAssembles" = some 5 by kernel_rfl).symm.trans hf) |>.symm
  obtain rfl : fn = Tryz.f5 := (Option.some.inj (Tryz.func5.symm.trans hfn)).symm
  refine ⟨looksOn, fun j t ht => ?_⟩
  rw [Tryz.params5] at ht
  obtain rfl : t = 9 := by simpa using Array.mem_of_getElem? ht
  exact wants9

/-- ████ THE CARD ████ -/
theorem card : Rows.EmitAssemblesCardSaid :=
  Claim7.holds_tied_plain_at .later [] _ _ _ _ said (fun _ h => by cases h) wfText (fun _ h => by cases h) rowTie rfl ⟨rfl, rfl⟩ mainIs rfl plain goes
#print axioms card
end Go.Proofs.YtngeipnhbigdmaaGreatDoor.emitAssembles
