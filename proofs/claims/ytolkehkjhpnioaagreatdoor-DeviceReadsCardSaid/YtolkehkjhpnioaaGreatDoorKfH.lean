/- A closed fact of the card. No statement of the seat stands here. -/
import Derived.Test.YtolkehkjhpnioaaGreatDoorRows
import Derived.SevenTiedAt
import Derived.KernelRfl
namespace Go.Proofs.YtolkehkjhpnioaaGreatDoor.deviceReads
open Go
theorem noGo : Tryz.pinned.checked.prog.funcs.any Func.goes = false := by kernel_rfl
theorem goes : false = Rows.deviceReadsRow.goesBy Tryz.pinned.checked.prog := by
  have h : ∀ f, Tryz.pinned.checked.prog.goes f = false := by
    intro f
    unfold Program.goes
    rw [noGo, Bool.and_false, Bool.or_false]
    have h1 := noGo
    generalize Tryz.pinned.checked.prog.funcs = fs at h1 ⊢
    generalize Tryz.pinned.checked.prog.closure f = l
    have key : ∀ g : Nat, (fs[g]?).any Func.goes = false := by
      intro g
      cases hg : fs[g]? with
      | none => rfl
      | some fn =>
        rw [Array.any_eq_false] at h1
        obtain ⟨hi, rfl⟩ := Array.getElem?_eq_some_iff.1 hg
        simpa using h1 g hi
    simp [key]
  have h2 : ∀ o : Option FuncId, o.any Tryz.pinned.checked.prog.goes = false := by
    intro o
    cases o with
    | none => exact Option.any_none
    | some f => rw [Option.any_some]; exact h f
  unfold OpenClaim.goesBy Program.goesAt Program.goesFrom
  have hs : Rows.deviceReadsRow.start = .entering := rfl
  rw [hs, h2]
  rfl
end Go.Proofs.YtolkehkjhpnioaaGreatDoor.deviceReads
