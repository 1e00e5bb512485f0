/- The words of the language are known in every memory. No statement of the seat stands here. -/
import Derived.Test.YtngeipnhbigdmaaGreatDoorSC
import Derived.Test.YtngeipnhbigdmaaGreatDoorEnt1
set_option linter.unusedVariables false
set_option linter.unusedSimpArgs false
namespace Go.HL
open Go Go.Proofs
noncomputable section
def qH : aG := (.map [⟨(.str 4 1718972003), (.bool true), 0⟩, ⟨(.str 6 118083455706476), (.bool true), 1⟩, ⟨(.str 6 108256368682354), (.bool true), 2⟩, ⟨(.str 3 6909556), (.bool true), 3⟩, ⟨(.str 6 126892148680036), (.bool true), 4⟩, ⟨(.str 3 7103860), (.bool true), 5⟩, ⟨(.str 2 26982), (.bool true), 6⟩, ⟨(.str 4 1701606245), (.bool true), 7⟩, ⟨(.str 5 512852847717), (.bool true), 8⟩, ⟨(.str 5 422826041707), (.bool true), 9⟩, ⟨(.str 8 7165066978433856869), (.bool true), 10⟩, ⟨(.str 6 125780071117422), (.bool true), 11⟩, ⟨(.str 7 27691691891320178), (.bool true), 12⟩, ⟨(.str 6 107152713541987), (.bool true), 13⟩, ⟨(.str 7 27988534160089972), (.bool true), 14⟩, ⟨(.str 3 7629156), (.bool true), 15⟩, ⟨(.str 3 6449508), (.bool true), 16⟩, ⟨(.str 3 6580589), (.bool true), 17⟩, ⟨(.str 4 1735551332), (.bool true), 18⟩, ⟨(.str 3 7170414), (.bool true), 19⟩, ⟨(.str 3 7168376), (.bool true), 20⟩, ⟨(.str 3 6382692), (.bool true), 21⟩, ⟨(.str 3 6385252), (.bool true), 22⟩, ⟨(.str 2 28530), (.bool true), 23⟩, ⟨(.str 3 7892850), (.bool true), 24⟩] 25 true)
def Kh : List (Nat × aG) := [(0, fA)]
theorem yc : dy Lv.bO 11 = some qH := rfl
theorem Cm {l : List cS} (h : (l.all fun x => fo x.key && fo x.val) = true) : ∀ x ∈ l, fo x.key = true ∧ fo x.val = true := fun x hx => by
 have := List.all_eq_true.1 h x hx
 rwa [Bool.and_eq_true] at this
theorem qG : kU qH := .map (Cm rfl)
theorem pR : ∀ l : List Nat, ∀ x ∈ Of l, fo x = true
 | [], x, h => by cases h
 | _ :: l, x, h => by
  rcases List.mem_cons.1 h with rfl | h
  ·rfl
  ·exact pR l x h
theorem tO : Tryz.prog.globals.size = 11 := by kernel_rfl
theorem Mh : tC Tryz.prog Lv := by
 refine ⟨Ht, rfl, tO.symm, fun p hp => ?_⟩
 have hp : p ∈ [(0, fA)] := hp
 rw [List.mem_singleton.1 hp]
 exact ⟨rfl, .cells (pR _), by rw [tO]; decide⟩
def kw : ah := fun f args h => ae (Nat.beq f 149) (match args with
 | [] => ae (zB h Kh) (some (.ret (.map h.next), h.new qH)) none
 | _ :: _ => none) none
theorem nX : aX Tryz.prog kw := by
 intro f args h r h' e
 unfold kw at e
 cases hf : Nat.beq f 149 with
 | false => rw [hf, bcF] at e; cases e
 | true =>
  rw [hf, bcT] at e
  have hf := Nat.eq_of_beq_eq_true hf
  subst hf
  cases args with
  | cons => cases e
  | nil =>
   simp only at e
   cases hs : zB h Kh with
   | false => rw [hs, bcF] at e; cases e
   | true =>
    rw [hs, bcT] at e
    cases e
    intro σ w vs hr hv
    have hvs := hv.cE
    subst hvs
    refine ⟨fun _ => ?_, fun hge => absurd hge (by decide)⟩
    exact (vR Mh (k0 := 11) rfl yc qG rfl (fun p hp => lF hs (k := p.1) (o := p.2) hp) hr).mono fun x w' ⟨τ, st, hc⟩ => ⟨τ, st, hc⟩
def PF (K1 K2 : ah) : ah := fun f args h => match K1 f args h with
 | some r => some r
 | none => K2 f args h
theorem yF {P : Program} {K1 K2 : ah} (h1 : aX P K1) (h2 : aX P K2) : aX P (PF K1 K2) := by
 intro f args h r h' e
 unfold PF at e
 cases hk : K1 f args h with
 | some q => rw [hk] at e; cases e; exact h1 f args h r h' hk
 | none => rw [hk] at e; exact h2 f args h r h' e
end
end Go.HL
