/- The words of the language are known in every memory. No statement of the seat stands here. -/
import Derived.Test.YtngeipnhbigdmaaGreatDoorSC
import Derived.Test.YtngeipnhbigdmaaGreatDoorEnt1
set_option linter.unusedVariables false
set_option linter.unusedSimpArgs false
namespace Go.HL
open Go Go.Proofs
noncomputable section
def wordsLit : HObj := (.map [⟨(.str 4 1718972003), (.bool true), 0⟩, ⟨(.str 6 118083455706476), (.bool true), 1⟩, ⟨(.str 6 108256368682354), (.bool true), 2⟩, ⟨(.str 3 6909556), (.bool true), 3⟩, ⟨(.str 6 126892148680036), (.bool true), 4⟩, ⟨(.str 3 7103860), (.bool true), 5⟩, ⟨(.str 2 26982), (.bool true), 6⟩, ⟨(.str 4 1701606245), (.bool true), 7⟩, ⟨(.str 5 512852847717), (.bool true), 8⟩, ⟨(.str 5 422826041707), (.bool true), 9⟩, ⟨(.str 8 7165066978433856869), (.bool true), 10⟩, ⟨(.str 6 125780071117422), (.bool true), 11⟩, ⟨(.str 7 27691691891320178), (.bool true), 12⟩, ⟨(.str 6 107152713541987), (.bool true), 13⟩, ⟨(.str 7 27988534160089972), (.bool true), 14⟩, ⟨(.str 3 7629156), (.bool true), 15⟩, ⟨(.str 3 6449508), (.bool true), 16⟩, ⟨(.str 3 6580589), (.bool true), 17⟩, ⟨(.str 4 1735551332), (.bool true), 18⟩, ⟨(.str 3 7170414), (.bool true), 19⟩, ⟨(.str 3 7168376), (.bool true), 20⟩, ⟨(.str 3 6382692), (.bool true), 21⟩, ⟨(.str 3 6385252), (.bool true), 22⟩, ⟨(.str 2 28530), (.bool true), 23⟩, ⟨(.str 3 7892850), (.bool true), 24⟩] 25 true)
def base0 : List (Nat × HObj) := [(0, tab0O)]
theorem words_out : findK ent1.hout 11 = some wordsLit := rfl
theorem closed_ents {l : List HEnt} (h : (l.all fun x => closedV x.key && closedV x.val) = true) : ∀ x ∈ l, closedV x.key = true ∧ closedV x.val = true := fun x hx => by
 have := List.all_eq_true.1 h x hx
 rwa [Bool.and_eq_true] at this
theorem words_closed : ClosedO wordsLit := .map (closed_ents rfl)
theorem u8s_closed : ∀ l : List Nat, ∀ x ∈ u8s l, closedV x = true
 | [], x, h => by cases h
 | _ :: l, x, h => by
  rcases List.mem_cons.1 h with rfl | h
  ·rfl
  ·exact u8s_closed l x h
theorem sizeG : Tryz.prog.globals.size = 11 := by kernel_rfl
theorem root1 : Rooted Tryz.prog ent1 := by
 refine ⟨ent1_fine, rfl, sizeG.symm, fun p hp => ?_⟩
 have hp : p ∈ [(0, tab0O)] := hp
 rw [List.mem_singleton.1 hp]
 exact ⟨rfl, .cells (u8s_closed _), by rw [sizeG]; decide⟩
def kw : CallFn := fun f args h => bcase (Nat.beq f 149) (match args with
 | [] => bcase (subH h base0) (some (.ret (.map h.next), h.new wordsLit)) none
 | _ :: _ => none) none
theorem kw_sound : CallSound Tryz.prog kw := by
 intro f args h r h' e
 unfold kw at e
 cases hf : Nat.beq f 149 with
 | false => rw [hf, bcF] at e; cases e
 | true =>
  rw [hf, bcT] at e
  have hf := Nat.eq_of_beq_eq_true hf
  subst hf
  cases args with
  | cons => cases e
  | nil =>
   simp only at e
   cases hs : subH h base0 with
   | false => rw [hs, bcF] at e; cases e
   | true =>
    rw [hs, bcT] at e
    cases e
    intro σ w vs hr hv
    have hvs := hv.nil_inv
    subst hvs
    refine ⟨fun _ => ?_, fun hge => absurd hge (by decide)⟩
    exact (rooted_map root1 (k0 := 11) rfl words_out words_closed rfl (fun p hp => subH_mem hs (k := p.1) (o := p.2) hp) hr).mono fun x w' ⟨τ, st, hc⟩ => ⟨τ, st, hc⟩
def orK (K1 K2 : CallFn) : CallFn := fun f args h => match K1 f args h with
 | some r => some r
 | none => K2 f args h
theorem orK_sound {P : Program} {K1 K2 : CallFn} (h1 : CallSound P K1) (h2 : CallSound P K2) : CallSound P (orK K1 K2) := by
 intro f args h r h' e
 unfold orK at e
 cases hk : K1 f args h with
 | some q => rw [hk] at e; cases e; exact h1 f args h r h' hk
 | none => rw [hk] at e; exact h2 f args h r h' e
end
end Go.HL
