/- What is known beforehand: the words of the language, the call of 'awake'. No statement of the seat stands here. -/
import Derived.Test.YtngeipnhbigdmaaGreatDoorMI
import Derived.Test.YtngeipnhbigdmaaGreatDoorEnt6
set_option linter.unusedVariables false
set_option linter.unusedSimpArgs false
namespace Go.HL
open Go Go.Proofs
namespace Em
noncomputable section
def base : List (Nat × HObj) := base0
theorem root6 : Rooted P ent6 := by
  refine ⟨ent6_fine, rfl, sizeG.symm, fun p hp => ?_⟩
  have hp : p ∈ [(0, tab0O)] := hp
  rw [List.mem_singleton.1 hp]
  exact ⟨rfl, .cells (u8s_closed _), by rw [show P.globals.size = 11 from sizeG]; decide⟩
theorem wordsLit_eq : wordsLit = wordsObj := rfl
open Classical in
def K0 : CallFn := fun f args h => if (lies base).holds h ∧ args = [] then (if f = 149 then some (.ret (.map h.next), h.new wordsObj) else if f = 8 then some (.ret (.bool true), h) else none) else none
theorem k0_known : KN base K0 := by
  refine ⟨fun f h5 h72 a h => ?_, fun h hb => ?_, fun h hb => ?_⟩
  · have n5 : f ≠ 8 := by rintro rfl; cases h5
    have n72 : f ≠ 149 := by rintro rfl; cases h72
    unfold K0
    rw [if_neg n72, if_neg n5]
    split <;> rfl
  · unfold K0
    rw [if_pos ⟨hb, rfl⟩, if_pos rfl]
  · unfold K0
    rw [if_pos ⟨hb, rfl⟩, if_neg (by decide), if_pos rfl]
theorem k0_sound : CallSound P K0 := by
  intro f args h r h' e
  unfold K0 at e
  split at e
  · rename_i hb
    obtain ⟨hb, rfl⟩ := hb
    intro σ w vs hr hv
    have hvs := hv.nil_inv
    subst hvs
    split at e
    · rename_i hf
      subst hf
      cases e
      refine ⟨fun _ => ?_, fun hge => absurd hge (by decide)⟩
      exact (rooted_map root1 (k0 := 11) rfl words_out words_closed rfl hb hr).mono fun x w' ⟨τ, st, hc⟩ => ⟨τ, by rw [← wordsLit_eq]; exact st, hc⟩
    · split at e
      · rename_i hf
        subst hf
        cases e
        refine ⟨fun _ => ?_, fun hge => absurd hge (by decide)⟩
        exact (rooted_closed root6 rfl hb hr).mono fun x w' ⟨st, hc⟩ => ⟨σ, st, hc⟩
      · cases e
  · cases e
end
end Em
end Go.HL
