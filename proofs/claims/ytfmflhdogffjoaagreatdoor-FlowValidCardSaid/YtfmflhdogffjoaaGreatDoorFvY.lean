/- What is known beforehand: the words of the language, the call of 'awake'. No statement of the seat stands here. -/
import Derived.Test.YtfmflhdogffjoaaGreatDoorSC
import Derived.Test.YtfmflhdogffjoaaGreatDoorFvX
import Derived.Test.YtfmflhdogffjoaaGreatDoorEnt5
import Derived.Test.YtfmflhdogffjoaaGreatDoorEnt6
namespace Go.HL
open Go Go.Proofs
namespace Fv
noncomputable section
def base : List (Nat × HObj) := [(0, tab0O)]
theorem u8s_closed : ∀ l : List Nat, ∀ x ∈ u8s l, closedV x = true
  | [], x, h => by cases h
  | _ :: l, x, h => by
    rcases List.mem_cons.1 h with rfl | h
    · rfl
    · exact u8s_closed l x h
theorem sizeG : Tryz.prog.globals.size = 6 := by kernel_rfl
theorem root5 : Rooted P ent5 := by
  refine ⟨ent5_fine, rfl, sizeG.symm, fun p hp => ?_⟩
  have hp : p ∈ [(0, tab0O)] := hp
  rw [List.mem_singleton.1 hp]
  exact ⟨rfl, .cells (u8s_closed _), by rw [show P.globals.size = 6 from sizeG]; decide⟩
theorem root6 : Rooted P ent6 := by
  refine ⟨ent6_fine, rfl, sizeG.symm, fun p hp => ?_⟩
  have hp : p ∈ [(0, tab0O)] := hp
  rw [List.mem_singleton.1 hp]
  exact ⟨rfl, .cells (u8s_closed _), by rw [show P.globals.size = 6 from sizeG]; decide⟩
theorem words_out : findK ent6.hout 6 = some wordsObj := rfl
theorem words_closed : ClosedO wordsObj := by
  refine .map fun x hx => ?_
  obtain ⟨q, _, rfl⟩ := List.mem_map.1 hx
  exact ⟨rfl, rfl⟩
open Classical in
def K0 : CallFn := fun f args h => if Based base h ∧ args = [] then (if f = 72 then some (.ret (.map h.next), h.new wordsObj) else if f = 5 then some (.ret (.bool true), h) else none) else none
theorem k0_known : KN base K0 := by
  refine ⟨fun f h5 h72 a h => ?_, fun h hb => ?_, fun h hb => ?_⟩
  · have n5 : f ≠ 5 := by rintro rfl; cases h5
    have n72 : f ≠ 72 := by rintro rfl; cases h72
    unfold K0
    rw [if_neg n72, if_neg n5]
    split <;> rfl
  · unfold K0
    rw [if_pos ⟨hb, rfl⟩, if_pos rfl]
  · unfold K0
    rw [if_pos ⟨hb, rfl⟩, if_neg (by decide), if_pos rfl]
theorem k0_sound : CallSound P K0 := by
  intro f args h r h' e
  unfold K0 at e
  split at e
  · rename_i hb
    obtain ⟨hb, rfl⟩ := hb
    intro σ w vs hr hv
    have hvs := hv.nil_inv
    subst hvs
    split at e
    · rename_i hf
      subst hf
      cases e
      refine ⟨fun _ => ?_, fun hge => absurd hge (by decide)⟩
      exact (rooted_map root6 (k0 := 6) rfl words_out words_closed rfl hb.get hr).mono fun x w' ⟨τ, st, hc⟩ => ⟨τ, st, hc⟩
    · split at e
      · rename_i hf
        subst hf
        cases e
        refine ⟨fun _ => ?_, fun hge => absurd hge (by decide)⟩
        exact (rooted_closed root5 rfl hb.get hr).mono fun x w' ⟨st, hc⟩ => ⟨σ, st, hc⟩
      · cases e
  · cases e
end
end Fv
end Go.HL
