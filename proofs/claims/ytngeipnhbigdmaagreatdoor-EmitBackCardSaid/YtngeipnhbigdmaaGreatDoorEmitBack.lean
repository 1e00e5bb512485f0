/- PROVED: 'drawloom/drawloomlaw12.EmitBack' returns true for every code, number and word, and its arguments read behind the call as they read before ('Rows.EmitBackCardSaid', the tied card).
   Its conditions are those of the given row: the listed variables of Go's library start as the program's text lays them. The proof: the walk is shown for every memory of the interpreter HL (the texts Em.., Ev.., Ea..), and HL is sound for the model; the runs that take no argument ('awake', the words of the language) are done in the kernel; strconv.Itoa, strconv.ParseInt, strings.Join and strings.Split are met by the kit's contracts. -/
import Derived.Test.YtngeipnhbigdmaaGreatDoorLifted
import Derived.Test.YtngeipnhbigdmaaGreatDoorTieG
import Derived.Test.YtngeipnhbigdmaaGreatDoorKfH
import Derived.Test.YtngeipnhbigdmaaGreatDoorKoA
import Derived.Test.YtngeipnhbigdmaaGreatDoorKfK
import Derived.Test.YtngeipnhbigdmaaGreatDoorCards
namespace Go.Proofs.YtngeipnhbigdmaaGreatDoor.emitBack
open Go.ChangeShapes Go.WideShapes Go.ChangeAt Go.RowKit Go.HL

theorem said : Rows.EmitBackSaid :=
  OpenClaim.holds_of_cond 6 Tryz.f6 rfl rfl rfl rfl rfl rfl rfl ⟨rfl, rfl, rfl, rfl, rfl⟩ rfl rfl rfl rfl rfl (by kernel_rfl) Tryz.func6 closed
    (of_decide_eq_true (by kernel_rfl)) (by unfold Func.isWrapper; first | (rw [if_pos (by decide +kernel)]; kernel_rfl) | (rw [if_neg (by decide +kernel)]; exact ⟨rfl, rfl⟩))
    (fun os started H enc _ F => by rw [OpenClaim.pre_eq_preRow]; exact lifted os started H enc F)

/-- No parameter wants a stand-in; the program's own looks are on: what the card asks. -/
theorem plain (f : FuncId) (fn : Func) (hf : Tryz.pinned.checked.prog.funcNamed "drawloom/drawloomlaw12.EmitBack" = some f) (hfn : Tryz.pinned.checked.prog.funcs[f]? = some fn) :
    true = Tryz.pinned.checked.prog.looks [] ∧ ∀ (j : Nat) t, fn.params[j]? = some t → Tryz.pinned.checked.prog.wantsStandIn t = false := by
  obtain rfl : f = 6 := Option.some.inj ((show Tryz.prog.funcNamed "drawloom/drawloomlaw12.EmitBack" = some 6 by kernel_rfl).symm.trans hf) |>.symm
  obtain rfl : fn = Tryz.f6 := (Option.some.inj (Tryz.func6.symm.trans hfn)).symm
  refine ⟨looksOn, fun j t ht => ?_⟩
  rw [Tryz.params6] at ht
  have h3 : t = 26 ∨ t = 3 ∨ t = 42 := by simpa using Array.mem_of_getElem? ht
  rcases h3 with rfl | rfl | rfl
  · exact wants26
  · exact wants3
  · exact wants42

/-- ████ THE CARD ████ -/
theorem card : Rows.EmitBackCardSaid :=
  Claim7.holds_tied_plain_at .later [] _ _ _ _ said (fun _ h => by cases h) wfText (fun _ h => by cases h) rowTie rfl ⟨rfl, rfl⟩ mainIs rfl plain goes
#print axioms card
end Go.Proofs.YtngeipnhbigdmaaGreatDoor.emitBack
