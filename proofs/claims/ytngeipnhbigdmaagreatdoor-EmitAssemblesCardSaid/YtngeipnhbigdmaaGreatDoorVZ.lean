/- What is known beforehand; the argument as data, laid into HL's memory. No statement of the seat stands here. -/
import Derived.Test.YtngeipnhbigdmaaGreatDoorSC
import Derived.Test.YtngeipnhbigdmaaGreatDoorMA
import Derived.Test.YtngeipnhbigdmaaGreatDoorChecked
import Derived.Test.YtngeipnhbigdmaaGreatDoorVB
import Derived.Test.YtngeipnhbigdmaaGreatDoorAA
import Derived.Test.YtngeipnhbigdmaaGreatDoorEnt6
set_option linter.unusedVariables false
set_option linter.unusedSimpArgs false
namespace Go.HL
open Go Go.Deep Go.Proofs
noncomputable section
section
variable {P : Program} {W : World}
end
namespace Em
section
variable {H : Type} {enc : TypeId × Value → H} {W : World} {fuel : Nat} {cs : List Value} {x : DataW H × List MemPlace}
end
end Em
end
end Go.HL
namespace Go.HL
open Go Go.Deep Go.Proofs
namespace Ev
open Em
noncomputable section
section
variable {H : Type} {enc : TypeId × Value → H} {W : World} {fuel : Nat} {cs : List Value} {x : DataW H × List MemPlace}
theorem Ck (hd : DataW.trod enc Tryz.prog W 0 (fun _ => true) true fuel 9 cs = some x) (hsz : Sz Tryz.prog 9 x.1) : L6 Tryz.prog W (fun b : List Nat => [aR b]) (fun _ b => (∀ x ∈ b, x < 256) ∧ b.length ≤ 1152921504606846976) cs := by
 obtain ⟨s, rfl, hx, hs⟩ := DataW.trod_string Tryz.underlying9 hd
 have hlt : ∀ y ∈ s.data.toList.map UInt8.toNat, y < 256 := toNat_lt _
 have e : s.size = s.data.toList.length := by rw [Array.length_toList]; rfl
 have e2 : (s.data.toList.map UInt8.toNat).length = s.size := by rw [List.length_map, e]
 have e3 : aO (s.data.toList.map UInt8.toNat) 0 = codeOf s.data.toList := by
  rw [← tU hlt, wT]
 refine .here (s.data.toList.map UInt8.toNat) (fun σ => aq.cons ⟨s, rfl, e2.symm, e3.symm⟩ aq.nil) (fun x hx => by simp at hx; subst hx; rfl) fun _ => ⟨hlt, ?_⟩
 have : reachBytes ≤ 1152921504606846976 := by decide
 rw [hx] at hsz
 have := hsz s.data.toList.length (by show _ ∈ DataW.weights Tryz.prog 9 (.lit (.string s.data.toList)); rw [DataW.weights]; simp)
 rw [e2]
 omega
end
end
end Ev
end Go.HL
namespace Go.HL
open Go Go.Proofs
namespace Ev
open Em
noncomputable section
def base (t2 t3 : Nat) : List (Nat × aE) := [(0, fh), (1, Cl), (2, tj t2), (3, tj t3), (4, wo)]
variable {t2 t3 : Nat}
theorem H0 {h : Heap} (hb : (lies (base t2 t3)).holds h) : (lies I2).holds h := fun p hp => hb p (by rw [List.mem_singleton.1 (show p ∈ [(0, fh)] from hp)]; exact List.mem_cons_self)
theorem Kr {h : Heap} (hb : (lies (base t2 t3)).holds h) : h.get 1 = some Cl := hb (1, Cl) (by simp [base])
theorem Kq {h : Heap} (hb : (lies (base t2 t3)).holds h) : h.get 2 = some (tj t2) := hb (2, tj t2) (by simp [base])
theorem Kp {h : Heap} (hb : (lies (base t2 t3)).holds h) : h.get 3 = some (tj t3) := hb (3, tj t3) (by simp [base])
theorem Ko {h : Heap} (hb : (lies (base t2 t3)).holds h) : h.get 4 = some wo := hb (4, wo) (by simp [base])
theorem Ln : rZ P KA := by
 refine ⟨Fs, rfl, si.symm, fun p hp => ?_⟩
 have hp : p ∈ [(0, fh)] := hp
 rw [List.mem_singleton.1 hp]
 exact ⟨rfl, .cells (oU _), by rw [show P.globals.size = 11 from si]; decide⟩
theorem ze : pE = tO := rfl
def I7 (t2 t3 : Nat) (args : List ad) (h : Heap) (v : ad) : Prop := ∃ n : Int, args = [.int .i64 n] ∧ (-9223372036854775808 ≤ n ∧ n ≤ 9223372036854775807) ∧ (lies (base t2 t3)).holds h ∧ v = aR (aQ n)
def jE (t2 t3 : Nat) (args : List ad) (h : Heap) (v : ad) : Prop := ∃ b, args = [aR b, .int .i64 10, .int .i64 64] ∧ (∀ x ∈ b, x < 256) ∧ b.length ≤ 1000000 ∧ (lies (base t2 t3)).holds h ∧ v = .tuple [.int .i64 (eD b), .bad]
theorem jE.eq {args : List ad} {h : Heap} {v v' : ad} (a : jE t2 t3 args h v) (b : jE t2 t3 args h v') : v = v' := by
 obtain ⟨b, rfl, hb, _, _, rfl⟩ := a
 obtain ⟨b', e, hb', _, _, rfl⟩ := b
 injection e with e1
 rw [kR hb hb' e1]
open Classical in
def K0 (t2 t3 : Nat) : ai := fun f args h =>
 if f = 149 then (if (lies (base t2 t3)).holds h ∧ args = [] then some (.ret (.map h.next), h.new tO) else none)
 else if f = 8 then (if (lies (base t2 t3)).holds h ∧ args = [] then some (.ret (.bool true), h) else none)
 else if f = 70 then (if p : ∃ v, I7 t2 t3 args h v then some (.ret p.choose, h) else none)
 else if f = 137 then (if p : ∃ v, nF args h v then some (.ret p.choose, h) else none)
 else if f = 48 then (if p : ∃ r, ml args h r then some p.choose else none)
 else if f = 90 then (if p : ∃ v, jE t2 t3 args h v then some (.ret p.choose, h) else none)
 else none
theorem Dp {f : Nat} {a : List ad} {h : Heap} (n1 : f ≠ 149) (n2 : f ≠ 8) (n3 : f ≠ 70) (n4 : f ≠ 137) (n5 : f ≠ 48) (n6 : f ≠ 90) : K0 t2 t3 f a h = none := by
 unfold K0
 rw [if_neg n1, if_neg n2, if_neg n3, if_neg n4, if_neg n5, if_neg n6]
theorem H4 : KN (base t2 t3) (K0 t2 t3) := by
 refine ⟨fun f h8 hl a h => ?_, fun h hb => ?_, fun h hb => ?_⟩
 ·refine Dp ?_ ?_ ?_ ?_ ?_ ?_
  ·rintro rfl; exact absurd hl (by decide)
  ·rintro rfl; cases h8
  ·rintro rfl; exact absurd hl (by decide)
  ·rintro rfl; exact absurd hl (by decide)
  ·rintro rfl; exact absurd hl (by decide)
  ·rintro rfl; exact absurd hl (by decide)
 ·unfold K0
  rw [if_pos rfl, if_pos ⟨hb, rfl⟩]
 ·unfold K0
  rw [if_neg (by decide), if_pos rfl, if_pos ⟨hb, rfl⟩]
theorem Ks : KL (base t2 t3) (K0 t2 t3) := by
 refine ⟨fun h n hb h1 h2 => ?_, fun h s l hne hbb hl hll hr => ?_⟩
 ·have p : ∃ v, I7 t2 t3 [.int .i64 n] h v := ⟨_, n, rfl, ⟨by omega, by omega⟩, hb, rfl⟩
  unfold K0
  rw [if_neg (by decide), if_neg (by decide), if_pos rfl, dif_pos p]
  obtain ⟨m, e, _, _, hv⟩ := p.choose_spec
  injection e with e
  injection e with _ e
  rw [hv, ← e]
 ·have hj : nF [s, .str 1 32] h (aR (aK l)) := ⟨s, l, rfl, hne, hbb, hl, hll, hr, rfl⟩
  have p : ∃ v, nF [s, .str 1 32] h v := ⟨_, hj⟩
  unfold K0
  rw [if_neg (by decide), if_neg (by decide), if_neg (by decide), if_pos rfl, dif_pos p, nF.eq p.choose_spec hj]
theorem IK : KR (base t2 t3) (K0 t2 t3) := by
 refine ⟨fun f hf a h => ?_, fun h b c hb hby hc hl => ?_, fun h b hb hby hl => ?_⟩
 ·have e : f = 91 ∨ f = 162 := by simpa using hf
  rcases e with rfl | rfl <;> exact Dp (by decide) (by decide) (by decide) (by decide) (by decide) (by decide)
 ·have hj : ml [aR b, .str 1 c] h (.ret (.slice h.next 0 (cutAt c b).length (some (cutAt c b).length)), h.new (.cells ((cutAt c b).map aR) 9 false true)) := ⟨b, c, rfl, hby, hc, hl, Kr hb, rfl⟩
  have p : ∃ r, ml [aR b, .str 1 c] h r := ⟨_, hj⟩
  unfold K0
  rw [if_neg (by decide), if_neg (by decide), if_neg (by decide), if_neg (by decide), if_pos rfl, dif_pos p, ml.eq p.choose_spec hj]
 ·have hj : jE t2 t3 [aR b, .int .i64 10, .int .i64 64] h (.tuple [.int .i64 (eD b), .bad]) := ⟨b, rfl, hby, hl, hb, rfl⟩
  have p : ∃ v, jE t2 t3 [aR b, .int .i64 10, .int .i64 64] h v := ⟨_, hj⟩
  unfold K0
  rw [if_neg (by decide), if_neg (by decide), if_neg (by decide), if_neg (by decide), if_neg (by decide), if_pos rfl, dif_pos p, jE.eq p.choose_spec hj]
theorem Hf (n : Nat) (h : n < 11) : n < P.globals.size := by rw [show P.globals.size = 11 from si]; exact h
theorem H3 : aW P (K0 t2 t3) := by
 intro f args h r h' e
 unfold K0 at e
 intro σ w vs hr hv
 split at e
 ·rename_i hf
  subst hf
  split at e
  ·rename_i hb
   obtain ⟨hb, rfl⟩ := hb
   have hvs := hv.cw
   subst hvs
   cases e
   refine ⟨fun _ => ?_, fun hge => absurd hge (by decide)⟩
   exact (uw Jx (k0 := 11) rfl wP pD rfl (H0 hb) hr).mono fun x w' ⟨τ, st, hc⟩ => ⟨τ, by rw [← ze]; exact st, hc⟩
  ·cases e
 split at e
 ·rename_i hf
  subst hf
  split at e
  ·rename_i hb
   obtain ⟨hb, rfl⟩ := hb
   have hvs := hv.cw
   subst hvs
   cases e
   refine ⟨fun _ => ?_, fun hge => absurd hge (by decide)⟩
   exact (wm Ln rfl (H0 hb) hr).mono fun x w' ⟨st, hc⟩ => ⟨σ, st, hc⟩
  ·cases e
 split at e
 ·rename_i hf
  subst hf
  split at e
  ·rename_i p
   obtain ⟨n, e1, e2, e3, e4⟩ := p.choose_spec
   cases e
   refine ⟨fun _ => ?_, fun hge => absurd hge (by decide)⟩
   rw [e4]
   subst e1
   exact (Cp e2.1 e2.2 hr (Ko e3) (Hf 4 (by decide)) hv).mono fun x w' ⟨st, hc⟩ => ⟨σ, st, hc⟩
  ·cases e
 split at e
 ·rename_i hf
  subst hf
  split at e
  ·rename_i p
   have hj := p.choose_spec
   cases e
   refine ⟨fun _ => ?_, fun hge => absurd hge (by decide)⟩
   exact (Co hj hr hv).mono fun x w' ⟨st, hc⟩ => ⟨σ, st, hc⟩
  ·cases e
 split at e
 ·rename_i hf
  subst hf
  split at e
  ·rename_i p
   obtain ⟨b, c, e1, e2, e3, e4, e5, e6⟩ := p.choose_spec
   have e := Option.some.inj e
   rw [e6] at e
   cases e
   refine ⟨fun _ => ?_, fun hge => absurd hge (by decide)⟩
   subst e1
   exact zp e2 e3 e4 hr e5 (Hf 1 (by decide)) hv
  ·cases e
 split at e
 ·rename_i hf
  subst hf
  split at e
  ·rename_i p
   obtain ⟨b, e1, e2, e3, e4, e5⟩ := p.choose_spec
   cases e
   refine ⟨fun _ => ?_, fun hge => absurd hge (by decide)⟩
   rw [e5]
   subst e1
   exact (zO e2 e3 hr (Kq e4) (Kp e4) (Hf 3 (by decide)) hv).mono fun x w' ⟨st, hc⟩ => ⟨σ, st, hc⟩
  ·cases e
 ·cases e
end
end Ev
end Go.HL
