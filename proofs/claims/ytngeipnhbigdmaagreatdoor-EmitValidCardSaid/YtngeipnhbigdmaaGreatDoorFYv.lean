/- What is known beforehand: the words of the language, the call of 'awake', strconv.Itoa, strings.Join. No statement of the seat stands here. -/
import Derived.Test.YtngeipnhbigdmaaGreatDoorVB
import Derived.Test.YtngeipnhbigdmaaGreatDoorEnt6
set_option linter.unusedVariables false
set_option linter.unusedSimpArgs false
namespace Go.HL
open Go Go.Proofs
namespace Ev
open Em
noncomputable section
def base : List (Nat × HObj) := [(0, tab0O), (4, powO)]
theorem lies_0 {h : Heap} (hb : (lies base).holds h) : (lies base0).holds h := fun p hp => hb p (by rw [List.mem_singleton.1 (show p ∈ [(0, tab0O)] from hp)]; exact List.mem_cons_self)
theorem lies_4 {h : Heap} (hb : (lies base).holds h) : h.get 4 = some powO := hb (4, powO) (List.mem_cons_of_mem _ List.mem_cons_self)
theorem root6 : Rooted P ent6 := by
 refine ⟨ent6_fine, rfl, sizeG.symm, fun p hp => ?_⟩
 have hp : p ∈ [(0, tab0O)] := hp
 rw [List.mem_singleton.1 hp]
 exact ⟨rfl, .cells (u8s_closed _), by rw [show P.globals.size = 11 from sizeG]; decide⟩
theorem wordsLit_eq : wordsLit = wordsObj := rfl
def ItoaIs (args : List HVal) (h : Heap) (v : HVal) : Prop := ∃ n : Int, args = [.int .i64 n] ∧ (-9223372036854775808 ≤ n ∧ n ≤ 9223372036854775807) ∧ (lies base).holds h ∧ v = strB (decI n)
open Classical in
def K0 : CallFn := fun f args h =>
 if f = 149 then (if (lies base).holds h ∧ args = [] then some (.ret (.map h.next), h.new wordsObj) else none)
 else if f = 8 then (if (lies base).holds h ∧ args = [] then some (.ret (.bool true), h) else none)
 else if f = 70 then (if p : ∃ v, ItoaIs args h v then some (.ret p.choose, h) else none)
 else if f = 137 then (if p : ∃ v, JoinIs args h v then some (.ret p.choose, h) else none)
 else none
theorem k0_known : KN base K0 := by
 refine ⟨fun f h8 hl a h => ?_, fun h hb => ?_, fun h hb => ?_⟩
 ·have n8 : f ≠ 8 := by rintro rfl; cases h8
  have n149 : f ≠ 149 := by rintro rfl; exact absurd hl (by decide)
  have n70 : f ≠ 70 := by rintro rfl; exact absurd hl (by decide)
  have n137 : f ≠ 137 := by rintro rfl; exact absurd hl (by decide)
  unfold K0
  rw [if_neg n149, if_neg n8, if_neg n70, if_neg n137]
 ·unfold K0
  rw [if_pos rfl, if_pos ⟨hb, rfl⟩]
 ·unfold K0
  rw [if_neg (by decide), if_pos rfl, if_pos ⟨hb, rfl⟩]
theorem k0_lib : KL base K0 := by
 refine ⟨fun h n hb h1 h2 => ?_, fun h s l hne hbb hl hll hr => ?_⟩
 ·have p : ∃ v, ItoaIs [.int .i64 n] h v := ⟨_, n, rfl, ⟨by omega, by omega⟩, hb, rfl⟩
  unfold K0
  rw [if_neg (by decide), if_neg (by decide), if_pos rfl, dif_pos p]
  obtain ⟨m, e, _, _, hv⟩ := p.choose_spec
  injection e with e
  injection e with _ e
  rw [hv, ← e]
 ·have hj : JoinIs [s, .str 1 32] h (strB (joinT l)) := ⟨s, l, rfl, hne, hbb, hl, hll, hr, rfl⟩
  have p : ∃ v, JoinIs [s, .str 1 32] h v := ⟨_, hj⟩
  unfold K0
  rw [if_neg (by decide), if_neg (by decide), if_neg (by decide), if_pos rfl, dif_pos p, JoinIs.eq p.choose_spec hj]
theorem gsize : 4 < P.globals.size := by rw [show P.globals.size = 11 from sizeG]; decide
theorem k0_sound : CallSound P K0 := by
 intro f args h r h' e
 unfold K0 at e
 intro σ w vs hr hv
 split at e
 ·rename_i hf
  subst hf
  split at e
  ·rename_i hb
   obtain ⟨hb, rfl⟩ := hb
   have hvs := hv.nil_inv
   subst hvs
   cases e
   refine ⟨fun _ => ?_, fun hge => absurd hge (by decide)⟩
   exact (rooted_map root1 (k0 := 11) rfl words_out words_closed rfl (lies_0 hb) hr).mono fun x w' ⟨τ, st, hc⟩ => ⟨τ, by rw [← wordsLit_eq]; exact st, hc⟩
  ·cases e
 ·split at e
  ·rename_i hf
   subst hf
   split at e
   ·rename_i hb
    obtain ⟨hb, rfl⟩ := hb
    have hvs := hv.nil_inv
    subst hvs
    cases e
    refine ⟨fun _ => ?_, fun hge => absurd hge (by decide)⟩
    exact (rooted_closed root6 rfl (lies_0 hb) hr).mono fun x w' ⟨st, hc⟩ => ⟨σ, st, hc⟩
   ·cases e
  ·split at e
   ·rename_i hf
    subst hf
    split at e
    ·rename_i p
     obtain ⟨n, e1, e2, e3, e4⟩ := p.choose_spec
     cases e
     refine ⟨fun _ => ?_, fun hge => absurd hge (by decide)⟩
     rw [e4]
     subst e1
     exact (itoa_sound e2.1 e2.2 hr (lies_4 e3) gsize hv).mono fun x w' ⟨st, hc⟩ => ⟨σ, st, hc⟩
    ·cases e
   ·split at e
    ·rename_i hf
     subst hf
     split at e
     ·rename_i p
      have hj := p.choose_spec
      cases e
      refine ⟨fun _ => ?_, fun hge => absurd hge (by decide)⟩
      exact (join_sound hj hr hv).mono fun x w' ⟨st, hc⟩ => ⟨σ, st, hc⟩
     ·cases e
    ·cases e
end
end Ev
end Go.HL
