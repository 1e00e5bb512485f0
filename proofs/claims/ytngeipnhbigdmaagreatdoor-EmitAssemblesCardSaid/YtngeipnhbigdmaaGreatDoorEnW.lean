/- The words of the language are known in every memory. No statement of the seat stands here. -/
import Derived.Test.YtngeipnhbigdmaaGreatDoorSC
import Derived.Test.YtngeipnhbigdmaaGreatDoorEnt1
set_option linter.unusedVariables false
set_option linter.unusedSimpArgs false
namespace Go.HL
open Go Go.Proofs
noncomputable section
def pE : aE := (.map [⟨(.str 4 1718972003), (.bool true), 0⟩, ⟨(.str 6 118083455706476), (.bool true), 1⟩, ⟨(.str 6 108256368682354), (.bool true), 2⟩, ⟨(.str 3 6909556), (.bool true), 3⟩, ⟨(.str 6 126892148680036), (.bool true), 4⟩, ⟨(.str 3 7103860), (.bool true), 5⟩, ⟨(.str 2 26982), (.bool true), 6⟩, ⟨(.str 4 1701606245), (.bool true), 7⟩, ⟨(.str 5 512852847717), (.bool true), 8⟩, ⟨(.str 5 422826041707), (.bool true), 9⟩, ⟨(.str 8 7165066978433856869), (.bool true), 10⟩, ⟨(.str 6 125780071117422), (.bool true), 11⟩, ⟨(.str 7 27691691891320178), (.bool true), 12⟩, ⟨(.str 6 107152713541987), (.bool true), 13⟩, ⟨(.str 7 27988534160089972), (.bool true), 14⟩, ⟨(.str 3 7629156), (.bool true), 15⟩, ⟨(.str 3 6449508), (.bool true), 16⟩, ⟨(.str 3 6580589), (.bool true), 17⟩, ⟨(.str 4 1735551332), (.bool true), 18⟩, ⟨(.str 3 7170414), (.bool true), 19⟩, ⟨(.str 3 7168376), (.bool true), 20⟩, ⟨(.str 3 6382692), (.bool true), 21⟩, ⟨(.str 3 6385252), (.bool true), 22⟩, ⟨(.str 2 28530), (.bool true), 23⟩, ⟨(.str 3 7892850), (.bool true), 24⟩] 25 true)
def I2 : List (Nat × aE) := [(0, fh)]
theorem wP : dm J5.bJ 11 = some pE := rfl
theorem AS {l : List cH} (h : (l.all fun x => eR x.key && eR x.val) = true) : ∀ x ∈ l, eR x.key = true ∧ eR x.val = true := fun x hx => by
 have := List.all_eq_true.1 h x hx
 rwa [Bool.and_eq_true] at this
theorem pD : kl pE := .map (AS rfl)
theorem oU : ∀ l : List Nat, ∀ x ∈ Ld l, eR x = true
 | [], x, h => by cases h
 | _ :: l, x, h => by
  rcases List.mem_cons.1 h with rfl | h
  ·rfl
  ·exact oU l x h
theorem si : Tryz.prog.globals.size = 11 := by kernel_rfl
theorem Jx : rZ Tryz.prog J5 := by
 refine ⟨Fx, rfl, si.symm, fun p hp => ?_⟩
 have hp : p ∈ [(0, fh)] := hp
 rw [List.mem_singleton.1 hp]
 exact ⟨rfl, .cells (oU _), by rw [si]; decide⟩
def kw : ai := fun f args h => ae (Nat.beq f 149) (match args with
 | [] => ae (y4 h I2) (some (.ret (.map h.next), h.new pE)) none
 | _ :: _ => none) none
theorem nc : aW Tryz.prog kw := by
 intro f args h r h' e
 unfold kw at e
 cases hf : Nat.beq f 149 with
 | false => rw [hf, bcF] at e; cases e
 | true =>
  rw [hf, bcT] at e
  have hf := Nat.eq_of_beq_eq_true hf
  subst hf
  cases args with
  | cons => cases e
  | nil =>
   simp only at e
   cases hs : y4 h I2 with
   | false => rw [hs, bcF] at e; cases e
   | true =>
    rw [hs, bcT] at e
    cases e
    intro σ w vs hr hv
    have hvs := hv.cw
    subst hvs
    refine ⟨fun _ => ?_, fun hge => absurd hge (by decide)⟩
    exact (uw Jx (k0 := 11) rfl wP pD rfl (fun p hp => kQ hs (k := p.1) (o := p.2) hp) hr).mono fun x w' ⟨τ, st, hc⟩ => ⟨τ, st, hc⟩
def MK (K1 K2 : ai) : ai := fun f args h => match K1 f args h with
 | some r => some r
 | none => K2 f args h
theorem xd {P : Program} {K1 K2 : ai} (h1 : aW P K1) (h2 : aW P K2) : aW P (MK K1 K2) := by
 intro f args h r h' e
 unfold MK at e
 cases hk : K1 f args h with
 | some q => rw [hk] at e; cases e; exact h1 f args h r h' hk
 | none => rw [hk] at e; exact h2 f args h r h' e
end
end Go.HL
