/- The row's tie: what is listed is what the program's text lays. No statement of the seat stands here. -/
import Derived.Test.YtolkehkjhpnioaaGreatDoorTieB
import Derived.Test.YtolkehkjhpnioaaGreatDoorTieC
import Derived.Test.YtolkehkjhpnioaaGreatDoorTieD
import Derived.Test.YtolkehkjhpnioaaGreatDoorTieE
import Derived.Test.YtolkehkjhpnioaaGreatDoorTieF
import Derived.SevenTiedAt
namespace Go.Proofs.YtolkehkjhpnioaaGreatDoor.deviceReads
open Go
theorem run23 : ∀ os tape, (DataW.laidRun Tryz.prog (varsWorld Tryz.prog 400 (varsId Tryz.prog) os tape).memory 8 (listed.map (·.1))).map (fun x => decide x.2.Nodup && laidRowsB Tryz.prog (varsWorld Tryz.prog 400 (varsId Tryz.prog) os tape).memory x.2) = some true := by
  intro os tape
  have e2 := run2 os tape
  have e3 := run3 os tape
  generalize (varsWorld Tryz.prog 400 (varsId Tryz.prog) os tape).memory = W at e2 e3 ⊢
  generalize DataW.laidRun Tryz.prog W 8 (listed.map (·.1)) = r at e2 ⊢
  cases r with
  | none => cases e2
  | some x =>
    obtain ⟨a, b⟩ := x
    have hb : b = rowsOf blocks := Option.some.inj e2
    subst hb
    show some (decide (rowsOf blocks).Nodup && laidRowsB Tryz.prog W (rowsOf blocks)) = some true
    rw [e3, decide_eq_true blocks_nodup]
    rfl
theorem tie : Tryz.prog.laidByTextLater listed [.data, .data, .data, .data, .sentinel, .sentinel, .data, .listed] true :=
  Program.laidByTextLater_by_run 400 8 w1 w2 w3 kinds named names done run1 run23 plainAll
theorem pinFits : Tryz.pinned.checked.prog.pinnedFits "unicode/utf8.first" = true := by kernel_rfl
theorem noOwnUnsafe : Tryz.pinned.checked.prog.headLifts.contains "ownunsafe" = false := by kernel_rfl
theorem fits : Tryz.pinned.checked.prog.listedFits Rows.deviceReadsRow.laid = true := by
  unfold Program.listedFits
  rw [noOwnUnsafe]
  kernel_rfl
theorem rowTie : Rows.deviceReadsRow.laidByTextAt .later Tryz.pinned [.data, .data, .data, .pinned, .data, .sentinel, .sentinel, .data, .listed] true :=
  OpenClaim.laidByTextAt_pinned rfl rfl tie rfl rfl rfl rfl (fun y hy _e => by
    simp only [Rows.deviceReadsRow, List.zip_cons_cons, List.zip_nil_right, List.mem_cons, List.mem_nil_iff, or_false] at hy
    rcases hy with rfl | rfl | rfl | rfl | rfl | rfl | rfl | rfl | rfl
    · cases _e
    · cases _e
    · cases _e
    · exact ⟨pinFits, by kernel_rfl⟩
    · cases _e
    · cases _e
    · cases _e
    · cases _e
    · cases _e) fits
end Go.Proofs.YtolkehkjhpnioaaGreatDoor.deviceReads
