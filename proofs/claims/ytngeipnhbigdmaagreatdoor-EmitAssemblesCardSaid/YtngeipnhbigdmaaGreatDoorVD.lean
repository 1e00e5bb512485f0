/- The walk: the program's text, the law. No statement of the seat stands here. -/
import Derived.Test.YtngeipnhbigdmaaGreatDoorVC
set_option linter.unusedVariables false
set_option linter.unusedSimpArgs false
namespace Go.HL
open Go Go.Proofs
namespace Ev
open Em
set_option maxRecDepth 10000
set_option maxHeartbeats 4000000
variable {K : ai} {base : List (Nat × aE)}
def cV (l : List Nat) : Prop := ∀ x ∈ l, x < 256
theorem cV.app {a b : List Nat} (ha : cV a) (hb : cV b) : cV (a ++ b) := fun x hx => (List.mem_append.1 hx).elim (ha x) (hb x)
theorem cV.dec (n : Int) : cV (aQ n) := J8 n
theorem cV.cons {x : Nat} {l : List Nat} (hx : x < 256) (h : cV l) : cV (x :: l) := fun y hy => (List.mem_cons.1 hy).elim (fun e => e ▸ hx) (h y)
theorem cV.r (n : Int) : cV (rT n) := .cons (by decide) (.dec n)
theorem cV.nil : cV [] := fun x hx => by cases hx
theorem cV.getD {l : List (List Nat)} {k : Nat} (h : ∀ x ∈ l, ∀ b ∈ x, b < 256) : cV (l.getD k []) := by
 by_cases hk : k < l.length
 ·exact h _ (aY _ hk)
 ·rw [List.getD, List.getElem?_eq_none (by omega)]; exact .nil
theorem cV.f (n : Int) : cV (fT n) := by
 unfold fT
 repeat' split
 all_goals exact fun x hx => by simp at hx; omega
def nI (l : List (List Nat)) : Prop := ∀ p ∈ l, cV p
theorem nI.ite {p : Prop} [Decidable p] {a b : List (List Nat)} (ha : nI a) (hb : nI b) : nI (if p then a else b) := by split <;> assumption
theorem nI.nil : nI [] := fun p hp => by cases hp
theorem nI.cons {p : List Nat} {l : List (List Nat)} (hp : cV p) (hl : nI l) : nI (p :: l) := fun q hq => (List.mem_cons.1 hq).elim (fun e => e ▸ hp) (hl q)
def FY (l : List (List Nat)) : Prop := 0 < l.length ∧ l.length ≤ 6
theorem FY.ite {p : Prop} [Decidable p] {a b : List (List Nat)} (ha : FY a) (hb : FY b) : FY (if p then a else b) := by split <;> assumption
theorem bt {l : List Nat} (h : l.all (fun x => decide (x < 256)) = true) : cV l := fun x hx => of_decide_eq_true (List.all_eq_true.1 h x hx)
theorem x9 (x : bI) : nI (aM x) := by
 have h1 := cV.r x.d
 have h2 := cV.r x.a
 have h3 := cV.r x.b
 have h4 := cV.dec x.cL
 have h5 := cV.dec x.to
 have h6 := cV.dec x.join
 have h7 := cV.f x.op
 have h8 : cV (uT.getD x.op.toNat []) := .getD (by decide)
 have h9 : cV (bT.getD x.op.toNat []) := .getD (by decide)
 have h10 : cV (ov.getD x.op.toNat []) := .getD (by decide)
 unfold aM
 repeat' (first | refine nI.ite ?_ ?_ | exact .nil | refine .cons (by first | assumption | exact bt rfl) ?_)
theorem rz (x : bI) : FY (aM x) := by
 unfold aM
 repeat' (first | refine FY.ite ?_ ?_ | exact ⟨Nat.succ_pos _, by simp⟩)
theorem p6 (a : List Nat) {l : List (List Nat)} (h : 0 < l.length) : aK (a :: l) = a ++ [32] ++ aK l := by
 cases l with
 | nil => simp at h
 | cons x r => simp [aK]
structure yZ (c : bg) : Prop where
 ok : CW c
 lines : ∀ x ∈ c.ay, z6 x
theorem iI {h : Heap} {k e : Nat} {lc : List ad} {s : Bool} (l : List (List Nat)) (hl : (l.map sB).flatten = lc) (hp : (kB k lc e s).holds h) : (rd (.slice k 0 l.length (some l.length)) 1 (l.map sB)).holds h := aH.rd ((ew l hl).holds h hp)
abbrev Kx (c : bg) : List (List Nat) := [[99, 111, 100, 101], c.name, [108, 111, 99, 97, 108], aQ c.local]
abbrev JR (b : List Nat) : List (List Nat) := [[98, 117, 102, 102, 101, 114], b]
abbrev JG (b : List Nat) : List (List Nat) := [[105, 110, 116], b]
abbrev Jw (a : List Nat × Nat) : List (List Nat) := [[115, 104, 97, 114, 101, 100], a.1, aQ a.2]
theorem cV.flat {α : Type} {g : α → List Nat} : ∀ {l : List α}, (∀ a ∈ l, cV (g a)) → cV (l.flatMap g)
 | [], _ => .nil
 | a :: l, h => by
  rw [List.flatMap_cons]
  exact (h a (by simp)).app (cV.flat fun b hb => h b (by simp [hb]))
theorem rh {c : bg} (hc : yZ c) : cV (eU c) := by
 have f := hc.ok.dB
 refine ((cV.app ?_ (.flat fun p hp => ?_)).app (.flat fun a ha => ?_)).app (.flat fun j _ => ?_)
 ·exact (((cV.app (bt rfl) f.name.2).app (bt rfl)).app (.dec _)).app (bt rfl)
 ·unfold kC
  have := (f.eW p hp).2
  split
  ·exact ((bt rfl : cV _).app this).app (bt rfl)
  ·exact ((bt rfl : cV _).app this).app (bt rfl)
 ·have := (f.dX a ha).1.2
  exact ((((bt rfl : cV _).app this).app (bt rfl)).app (.dec _)).app (bt rfl)
 ·unfold vd
  rw [n9]
  exact (((cV.dec _).app (bt rfl)).app (v7 (x9 _))).app (bt rfl)
theorem mask31 : Nat.lor (jm Tryz.f31) (Nat.sub (Nat.pow 2 1) 1) = 540440201696641967 := by kernel_rfl
theorem E0 (hK : KN base K) (hL : KL base K) (c : bg) (hc : yZ c) (pv sv iv : ad) (h : Heap) (w : Wf h) (hB : (lies base).holds h) (hr : (pg c pv sv iv).holds h) :
  Sp P K 31 [xH c pv sv iv] h (dE (aR (eU c)) h) := by
 have hp := hr.1
 have hs := hr.2.1
 have hi := hr.2.2
 have lp := bG hp
 have ls := bG hs
 have li := bG hi
 have b1 := hc.ok.dB.params
 have b2 := hc.ok.dB.shared
 have b3 := hc.ok.dB.ay
 have b4 := hc.ok.dB.local
 have bn := hc.ok.dB.name.1
 have bb := hc.ok.dB.name.2
 have bl := da (n := (c.local : Int)) (by omega) (by omega)
 have hh : aK (Kx c) ++ [10] = gw c := by simp [aK, gw, Kx]
 have hhl : (gw c).length ≤ 100 := by simp only [gw, List.length_append, List.length_cons, List.length_nil]; omega
 have hhb : cV (gw c) := by
  unfold gw
  exact ((((cV.app (bt rfl) bb).app (bt rfl)).app (.dec _)).app (bt rfl))
 have hjl : (aK (Kx c)).length ≤ 1000 := by
  have := congrArg List.length hh
  simp only [List.length_append, List.length_singleton] at this
  omega
 refine Sp.start (m := 540440201696641967) (n := 72) w (hK.none 31 rfl rfl _ _) Tryz.func31 rfl rfl mask31 rfl rfl ?_
 repeat' (first | refine aw.a_ ?_ | refine ag.s_ ?_ | (refine X 0 ?_; (iterate 2 refine J Z ?_) <;> (refine Y Z ?_)) | (refine X 1 ?_; (refine J Z ?_) <;> (refine Y Z ?_)))
 refine ag.eF 1 (fun k => G0 k false .aD []) rfl (fun k => HZ k) (fun _ => rfl) rfl fun k => ?_
 repeat' (first | refine aw.a_ ?_ | refine ag.s_ ?_ | (refine ag.draw (id := 2) ax [0, 1, 2, 3, 4, 5, 6, 7] #[0, 1, 0, 4, 12, 31, 63, 127] (by kernel_rfl) (by kernel_rfl) (by kernel_rfl) ?_; (refine .cq hX rfl rfl rfl ?_) <;> ((refine .cons rfl (q hX rfl ?_)) <;> refine ⟨_, .fw hX.ax rfl rfl rfl rfl rfl rfl rfl rfl (suB rfl) rfl rfl rfl, ?_⟩) <;> (refine .cq hX rfl rfl rfl ?_) <;> ((refine .cons rfl (q hX rfl ?_)) <;> refine ⟨_, .fw hX.ax rfl rfl rfl rfl rfl rfl rfl rfl (suB rfl) rfl rfl rfl, ?_⟩) <;> ((refine .cons rfl (ao rfl rfl rfl rfl AW rfl rfl (fun h f => ic hL c.local (by omega) (by omega) h f.wf (f.ro (.of hB))) ?_)) <;> refine ⟨_, .comp rfl, ?_⟩) <;> (refine .cq hX rfl rfl rfl ?_) <;> ((refine .cons rfl (tz rfl rfl rfl rfl rfl rfl HQ rfl rfl (fun ks h f hp => la hK hL (.slice ks 0 4 (some 4)) (Kx c) hh (by simp [Kx]) (.cons (bt rfl) (.cons bb (.cons (bt rfl) (.cons (.dec _) .nil))) : nI _) hjl (by simp [Kx]) h f.wf (iI (Kx c) rfl hp)) ?_)) <;> refine ⟨_, .comp rfl, ?_⟩) <;> ((refine .cons rfl (oY rfl rfl rfl rfl HR rfl rfl (by repeat (first | exact .h | apply aI.t)) rfl (fun h f hg ro rg => mH hK k false .aD [] (gw c) (by simp [gw]) hhb (by simp only [List.length_nil]; omega) h f.wf hg) ?_)) <;> (rintro v C' ⟨k2, rfl⟩) <;> refine ⟨_, .comp rfl, ?_⟩) <;> (refine .nil ⟨?_, .intro rfl ?_⟩ <;> (repeat' (first | exact trivial | exact .inl rfl | exact .inr (.inl ⟨_, _, _, _, rfl, rfl, rfl⟩) | refine ⟨?_, ?_⟩)))) | (refine X 3 ?_; (iterate 2 refine J Z ?_) <;> (refine .cons (ql hX Z Z Z Z Z Z (by assumption) Z Z ?_)) <;> (refine J Z ?_) <;> (refine Y Z ?_)) | refine ag.b_ ?_)
 refine ag.loop (ι := Nat × ad × List Nat) (fun a => [(21, .ext (i64 a.1)), (20, .ext (i64 c.params.length)), (19, .ext pv), (3, .ext (.ptr k 0)), (1, .ptr 0 0)]) (fun _ => [.own [aR c.name, pv, sv, i64 c.local, iv] 26 false]) (fun a => [G0 k true a.2.1 a.2.2]) (fun a => a.1 ≤ c.params.length ∧ (∃ q, a.2.1 = .slice q 0 a.2.2.length none) ∧ a.2.2 = gw c ++ (c.params.take a.1).flatMap kC ∧ a.2.2.length ≤ 100 + 100 * a.1) (fun a => c.params.length - a.1) (0, .slice k2 0 (([] : List Nat).length + (gw c).length) none, [] ++ gw c) ⟨⟨rfl, rfl, rfl, rfl, rfl, trivial⟩, ⟨_, rfl⟩, ⟨_, .cons .h .nil⟩⟩ ⟨Nat.zero_le _, ⟨k2, by simp⟩, by simp, by simpa using hhl⟩ (fun _ => rfl) (fun _ => rfl) (fun _ => rfl) ?_
 rintro ⟨i, v1, acc⟩ ⟨hi2, ⟨q1, hv1⟩, hacc, hal⟩ next
 simp only at hi2 hv1 hacc hal next ⊢
 have hnm : i < c.params.length → (c.params.getD i lT).1.length ≤ 16 ∧ cV (c.params.getD i lT).1 := fun hlt => hc.ok.dB.eW _ (aY _ hlt)
 have hbu : ∀ b : List Nat, aK (JR b) ++ [10] = [98, 117, 102, 102, 101, 114, 32] ++ b ++ [10] := fun b => by simp [aK, JR]
 have ln : ∀ b : List Nat, aK (JG b) ++ [10] = [105, 110, 116, 32] ++ b ++ [10] := fun b => by simp [aK, JG]
 have hjb : ∀ b : List Nat, b.length ≤ 16 → (aK (JR b)).length ≤ 1000 ∧ (aK (JG b)).length ≤ 1000 := fun b hb => ⟨by simp [aK, JR]; omega, by simp [aK, JG]; omega⟩
 repeat' (first | refine aw.a_ ?_ | refine ag.s_ ?_ | (refine X 4 ?_; ((refine .cons (qc Z ?_ ?_)) <;> intro _) <;> (refine Y Z ?_)) | (refine X 5 ?_; (refine .cons (bh hX Z Z Z Z Z (.of hp) (aN lT (by omega)) Z Z Z ?_)) <;> (iterate 3 refine J Z ?_) <;> (refine Y Z ?_)) | (refine X 6 ?_; (refine J Z ?_) <;> ((refine .cons (qb hX Z ?_ ?_)) <;> (intro hbl; (first | (cases hbl; done) | skip))) <;> (refine Y Z ?_)) | (refine X 7 ?_; (iterate 3 refine J Z ?_) <;> (refine .cons (tz Z Z Z Z Z Z HQ Z Z (fun ks h f hp => la hK hL (.slice ks 0 2 (some 2)) (JR (c.params.getD i lT).1) (hbu _) (by simp [JR]) (.cons (bt Z) (.cons (hnm (by omega)).2 .nil) : nI _) (hjb _ (hnm (by omega)).1).1 (by simp [JR]) h f.wf (iI (JR (c.params.getD i lT).1) Z hp)) ?_)) <;> ((refine .cons (oY Z Z Z Z HR Z Z (by repeat (first | exact .h | apply aI.t)) Z (fun h f hg ro rg => mH hK k true v1 acc ([98, 117, 102, 102, 101, 114, 32] ++ (c.params.getD i lT).1 ++ [10]) (by simp) (((bt Z : cV _).app (hnm (by omega)).2).app (bt Z)) (by have := (hnm (by omega)).1; simp only [List.length_append, List.length_cons, List.length_nil]; omega) h f.wf hg) ?_)) <;> (rintro v C' ⟨k3, rfl⟩)) <;> (refine Y Z ?_)) | (refine X 8 ?_; (iterate 3 refine J Z ?_) <;> (refine .cons (tz Z Z Z Z Z Z HQ Z Z (fun ks h f hp => la hK hL (.slice ks 0 2 (some 2)) (JG (c.params.getD i lT).1) (ln _) (by simp [JG]) (.cons (bt Z) (.cons (hnm (by omega)).2 .nil) : nI _) (hjb _ (hnm (by omega)).1).2 (by simp [JG]) h f.wf (iI (JG (c.params.getD i lT).1) Z hp)) ?_)) <;> ((refine .cons (oY Z Z Z Z HR Z Z (by repeat (first | exact .h | apply aI.t)) Z (fun h f hg ro rg => mH hK k true v1 acc ([105, 110, 116, 32] ++ (c.params.getD i lT).1 ++ [10]) (by simp) (((bt Z : cV _).app (hnm (by omega)).2).app (bt Z)) (by have := (hnm (by omega)).1; simp only [List.length_append, List.length_cons, List.length_nil]; omega) h f.wf hg) ?_)) <;> (rintro v C' ⟨k3, rfl⟩)) <;> (refine Y Z ?_)) | (refine X 9 ?_; (refine .cons (qa Z Z Z Z Z (wI (by first | omega | (simp only [Int.ofNat_eq_natCast]; omega)) (by first | omega | (simp only [Int.ofNat_eq_natCast]; omega))) Z Z ?_)) <;> (refine J Z ?_) <;> (refine Y Z ?_)) | (refine X 10 ?_; (iterate 2 refine J Z ?_) <;> (refine .cons (ql hX Z Z Z Z Z Z (by assumption) Z Z ?_)) <;> (refine J Z ?_) <;> (refine Y Z ?_)) | refine ag.t_ rfl ?_ | refine ag.f_ rfl ?_ | refine ag.k_ ?_ | refine ag.b_ ?_ | refine ag.e_ ?_ | refine aw.e_ ?_ | refine aw.c_ ?_ | refine aw.b_ ?_)
 ·refine next (i + 1, _, _) _ _ _ (by simp only; omega) ⟨⟨rfl, rfl, rfl, rfl, rfl, trivial⟩, ⟨_, rfl⟩, ⟨_, .cons .h .nil⟩⟩ ⟨by simp only; omega, ⟨k3, by simp only [List.length_append]⟩, ?_, ?_⟩
  ·simp only
   rw [hacc, eQ (by omega) lT]
   simp only [kC, hbl, if_true, List.append_assoc]
  ·have := (hnm (by omega)).1
   simp only [List.length_append, List.length_cons, List.length_nil]; omega
 ·refine next (i + 1, _, _) _ _ _ (by simp only; omega) ⟨⟨rfl, rfl, rfl, rfl, rfl, trivial⟩, ⟨_, rfl⟩, ⟨_, .cons .h .nil⟩⟩ ⟨by simp only; omega, ⟨k3, by simp only [List.length_append]⟩, ?_, ?_⟩
  ·simp only
   rw [hacc, eQ (by omega) lT]
   simp only [kC, hbl, List.append_assoc]; rfl
  ·have := (hnm (by omega)).1
   simp only [List.length_append, List.length_cons, List.length_nil]; omega
 clear next
 have hi3 : i = c.params.length := by omega
 subst hi3
 rw [List.take_length] at hacc
 have h17 : acc.length ≤ 700 := by omega
 refine ag.loop (ι := Nat × ad × List Nat) (fun a => [(41, .ext (i64 a.1)), (40, .ext (i64 c.shared.length)), (39, .ext sv), (3, .ext (.ptr k 0)), (1, .ptr 0 0)]) (fun _ => [.own [aR c.name, pv, sv, i64 c.local, iv] 26 false]) (fun a => [G0 k true a.2.1 a.2.2]) (fun a => a.1 ≤ c.shared.length ∧ (∃ q, a.2.1 = .slice q 0 a.2.2.length none) ∧ a.2.2 = acc ++ (c.shared.take a.1).flatMap tl ∧ a.2.2.length ≤ 700 + 100 * a.1) (fun a => c.shared.length - a.1) (0, v1, acc) ⟨⟨rfl, rfl, rfl, rfl, rfl, trivial⟩, ⟨_, rfl⟩, ⟨_, .cons .h .nil⟩⟩ ⟨Nat.zero_le _, ⟨q1, hv1⟩, by simp, by simp only; omega⟩ (fun _ => rfl) (fun _ => rfl) (fun _ => rfl) ?_
 rintro ⟨i, v2, acc2⟩ ⟨hi2, ⟨q2, hv2⟩, hacc2, hal2⟩ next
 simp only at hi2 hv2 hacc2 hal2 next ⊢
 have hnm : i < c.shared.length → ((c.shared.getD i lU).1.length ≤ 16 ∧ cV (c.shared.getD i lU).1) ∧ (c.shared.getD i lU).2 ≤ 64 := fun hlt => ⟨(hc.ok.dB.dX _ (aY _ hlt)).1, (hc.ok.dB.dX _ (aY _ hlt)).2⟩
 have hnl : i < c.shared.length → (aQ ((c.shared.getD i lU).2 : Int)).length ≤ 11 := fun hlt => da (by have := (hnm hlt).2; omega) (by have := (hnm hlt).2; omega)
 have hsh : ∀ a : List Nat × Nat, aK (Jw a) ++ [10] = tl a := fun a => by simp [aK, Jw, tl]
 have hjs : ∀ a : List Nat × Nat, a.1.length ≤ 16 → (aQ (a.2 : Int)).length ≤ 11 → (aK (Jw a)).length ≤ 1000 := fun a h1 h2 => by simp [aK, Jw]; omega
 have har : ∀ a : List Nat × Nat, (tl a).length = 9 + a.1.length + (aQ (a.2 : Int)).length := fun a => by simp only [tl, List.length_append, List.length_cons, List.length_nil]; omega
 have harb : ∀ a : List Nat × Nat, cV a.1 → cV (tl a) := fun a h1 => ((((bt rfl : cV _).app h1).app (bt rfl)).app (.dec _)).app (bt rfl)
 repeat' (first | refine aw.a_ ?_ | refine ag.s_ ?_ | (refine X 11 ?_; ((refine .cons (qc Z ?_ ?_)) <;> intro _) <;> (refine Y Z ?_)) | (refine X 12 ?_; (refine .cons (bh hX Z Z Z Z Z (.of hs) (aN lU (by omega)) Z Z Z ?_)) <;> (iterate 3 refine J Z ?_) <;> (refine Y Z ?_)) | (refine ag.draw (id := 13) ax [0, 1, 2, 3, 4, 5, 6, 7] #[0, 1, 0, 4, 12, 31, 63, 127] (by kernel_rfl) (by kernel_rfl) (by kernel_rfl) ?_; (refine .cq hX rfl rfl rfl ?_) <;> ((refine .cons rfl (q hX rfl ?_)) <;> refine ⟨_, .fw hX.ax rfl rfl rfl rfl rfl rfl rfl rfl (suB rfl) rfl rfl rfl, ?_⟩) <;> (refine .cq hX rfl rfl rfl ?_) <;> ((refine .cons rfl (q hX rfl ?_)) <;> refine ⟨_, .fw hX.ax rfl rfl rfl rfl rfl rfl rfl rfl (suB rfl) rfl rfl rfl, ?_⟩) <;> ((refine .cons rfl (ao rfl rfl rfl rfl AW rfl rfl (fun h f => ic hL (c.shared.getD i lU).2 (by omega) (by omega) h f.wf (f.ro (.of hB))) ?_)) <;> refine ⟨_, .comp rfl, ?_⟩) <;> (refine .cq hX rfl rfl rfl ?_) <;> ((refine .cons rfl (tz rfl rfl rfl rfl rfl rfl HQ rfl rfl (fun ks h f hp => la hK hL (.slice ks 0 3 (some 3)) (Jw (c.shared.getD i lU)) (hsh _) (by simp [Jw]) (.cons (bt rfl) (.cons (hnm (by omega)).1.2 (.cons (.dec _) .nil)) : nI _) (hjs _ (hnm (by omega)).1.1 (hnl (by omega))) (by simp [Jw]) h f.wf (iI (Jw (c.shared.getD i lU)) rfl hp)) ?_)) <;> refine ⟨_, .comp rfl, ?_⟩) <;> ((refine .cons rfl (oY rfl rfl rfl rfl HR rfl rfl (by repeat (first | exact .h | apply aI.t)) rfl (fun h f hg ro rg => mH hK k true v2 acc2 (tl (c.shared.getD i lU)) (by rw [har]; omega) (harb _ (hnm (by omega)).1.2) (by have := (hnm (by omega)).1.1; have := hnl (by omega); rw [har]; omega) h f.wf hg) ?_)) <;> (rintro v C' ⟨k3, rfl⟩) <;> refine ⟨_, .comp rfl, ?_⟩) <;> (refine .nil ⟨?_, .intro rfl ?_⟩ <;> (repeat' (first | exact trivial | exact .inl rfl | exact .inr (.inl ⟨_, _, _, _, rfl, rfl, rfl⟩) | refine ⟨?_, ?_⟩)))) | (refine X 14 ?_; (refine .cons (qa Z Z Z Z Z (wI (by first | omega | (simp only [Int.ofNat_eq_natCast]; omega)) (by first | omega | (simp only [Int.ofNat_eq_natCast]; omega))) Z Z ?_)) <;> (refine J Z ?_) <;> (refine Y Z ?_)) | (refine X 15 ?_; (iterate 2 refine J Z ?_) <;> (refine .cons (ql hX Z Z Z Z Z Z (by assumption) Z Z ?_)) <;> (refine J Z ?_) <;> (refine Y Z ?_)) | refine ag.t_ rfl ?_ | refine ag.f_ rfl ?_ | refine ag.k_ ?_ | refine ag.b_ ?_ | refine ag.e_ ?_ | refine aw.e_ ?_ | refine aw.c_ ?_ | refine aw.b_ ?_)
 ·refine next (i + 1, _, _) _ _ _ (by simp only; omega) ⟨⟨rfl, rfl, rfl, rfl, rfl, trivial⟩, ⟨_, rfl⟩, ⟨_, .cons .h .nil⟩⟩ ⟨by simp only; omega, ⟨k3, by simp only [List.length_append]⟩, ?_, ?_⟩
  ·simp only
   rw [hacc2, eQ (by omega) lU, List.append_assoc]
  ·have := (hnm (by omega)).1.1
   have := hnl (by omega)
   simp only [List.length_append, har]; omega
 clear next
 have hi3 : i = c.shared.length := by omega
 subst hi3
 rw [List.take_length] at hacc2
 have h18 : acc2.length ≤ 1100 := by omega
 refine ag.loop (ι := Nat × ad × List Nat) (fun a => [(57, .ext (i64 a.1)), (56, .ext (i64 c.ay.length)), (55, .ext iv), (3, .ext (.ptr k 0)), (1, .ptr 0 0)]) (fun _ => [.own [aR c.name, pv, sv, i64 c.local, iv] 26 false]) (fun a => [G0 k true a.2.1 a.2.2]) (fun a => a.1 ≤ c.ay.length ∧ (∃ q, a.2.1 = .slice q 0 a.2.2.length none) ∧ a.2.2 = acc2 ++ kE c.ay a.1 ∧ a.2.2.length ≤ 1100 + 200 * a.1) (fun a => c.ay.length - a.1) (0, v2, acc2) ⟨⟨rfl, rfl, rfl, rfl, rfl, trivial⟩, ⟨_, rfl⟩, ⟨_, .cons .h .nil⟩⟩ ⟨Nat.zero_le _, ⟨q2, hv2⟩, by simp [kE], by simp only; omega⟩ (fun _ => rfl) (fun _ => rfl) (fun _ => rfl) ?_
 rintro ⟨i, v3, acc3⟩ ⟨hi2, ⟨q3, hv3⟩, hacc3, hal3⟩ next
 simp only at hi2 hv3 hacc3 hal3 next ⊢
 have hx : i < c.ay.length → z6 (c.ay.getD i b8) := fun hlt => hc.lines _ (aY _ hlt)
 have hxl : i < c.ay.length → (qo (c.ay.getD i b8)).length ≤ 100 := fun hlt => xl (hx hlt).ok
 have hil : (aQ (i : Int)).length ≤ 11 := da (by omega) (by omega)
 have hpp := rz (c.ay.getD i b8)
 have hpb := x9 (c.ay.getD i b8)
 have hins : aK (aQ i :: aM (c.ay.getD i b8)) ++ [10] = vd i (c.ay.getD i b8) := by rw [p6 _ hpp.1, ← n9]; rfl
 have hinl : i < c.ay.length → (vd i (c.ay.getD i b8)).length ≤ 113 := fun hlt => by have := hxl hlt; simp only [vd, List.length_append, List.length_cons, List.length_nil]; omega
 have hinb : cV (vd i (c.ay.getD i b8)) := by rw [← hins]; exact cV.app (v7 (nI.cons (.dec _) hpb)) (bt rfl)
 have hjl3 : i < c.ay.length → (aK (aQ i :: aM (c.ay.getD i b8))).length ≤ 1000 := fun hlt => by have := hinl hlt; rw [← hins, List.length_append] at this; omega
 repeat' (first | refine aw.a_ ?_ | refine ag.s_ ?_ | (refine X 16 ?_; ((refine .cons (qc Z ?_ ?_)) <;> intro _) <;> (refine Y Z ?_)) | (refine X 17 ?_; (refine J Z ?_) <;> (refine .cons (bh hX Z Z Z Z Z (.of hi) (aN b8 (by omega)) Z Z Z ?_)) <;> (iterate 4 refine J Z ?_) <;> (refine Y Z ?_)) | (refine ag.draw (id := 18) ax [0, 3, 1, 2, 4, 5, 6, 7] #[0, 1, 3, 0, 11, 31, 63, 127] (by kernel_rfl) (by kernel_rfl) (by kernel_rfl) ?_; (refine .cq hX rfl rfl rfl ?_) <;> ((refine .cons rfl (q hX rfl ?_)) <;> refine ⟨_, .Lo hX.ax rfl rfl rfl rfl rfl rfl rfl rfl (beA rfl) rfl rfl rfl, ?_⟩) <;> ((refine .cons rfl (ao rfl rfl rfl rfl AW rfl rfl (fun h f => ic hL i (by omega) (by omega) h f.wf (f.ro (.of hB))) ?_)) <;> refine ⟨_, .comp rfl, ?_⟩) <;> (refine .cq hX rfl rfl rfl ?_) <;> ((refine .cons rfl (gq rfl rfl rfl rfl NG rfl rfl (fun h f => Es hK hL (c.ay.getD i b8) (hx (by omega)) h f.wf (f.ro (.of hB))) ?_)) <;> (rintro v C' ⟨kp, rfl, rfl⟩) <;> refine ⟨_, .comp rfl, ?_⟩) <;> ((refine .cons rfl (K9 (rows := [sB (aQ i)]) hX rfl rfl rfl rfl rfl rfl rfl rfl rfl rfl rfl rfl b9 rfl rfl rfl rfl (by simp) rfl rfl .h (by rw [List.length_map]; exact hpp.1) (fun _ e => by cases e) rfl (by rw [List.length_map]; have := hpp.2; omega) rfl rfl ?_)) <;> (intro kq) <;> refine ⟨_, .comp rfl, ?_⟩) <;> ((refine .cons rfl (ao rfl rfl rfl rfl HQ rfl rfl (fun h f => la hK hL (.slice kq 0 _ none) (aQ i :: aM (c.ay.getD i b8)) hins (by simp) (nI.cons (.dec _) hpb) (hjl3 (by omega)) (by have := hpp.2; rw [List.length_cons]; omega) h f.wf (aH.rd (f.pick .h))) ?_)) <;> refine ⟨_, .comp rfl, ?_⟩) <;> ((refine .cons rfl (oY rfl rfl rfl rfl HR rfl rfl (by repeat (first | exact .h | apply aI.t)) rfl (fun h f hg ro rg => mH hK k true v3 acc3 (vd i (c.ay.getD i b8)) (by simp only [vd, List.length_append, List.length_singleton]; omega) hinb (by have := hinl (by omega); omega) h f.wf hg) ?_)) <;> (rintro v C' ⟨k3, rfl⟩) <;> refine ⟨_, .comp rfl, ?_⟩) <;> (refine .nil ⟨?_, .intro rfl ?_⟩ <;> (repeat' (first | exact trivial | exact .inl rfl | exact .inr (.inl ⟨_, _, _, _, rfl, rfl, rfl⟩) | refine ⟨?_, ?_⟩)))) | (refine X 19 ?_; (refine .cons (qa Z Z Z Z Z (wI (by first | omega | (simp only [Int.ofNat_eq_natCast]; omega)) (by first | omega | (simp only [Int.ofNat_eq_natCast]; omega))) Z Z ?_)) <;> (refine J Z ?_) <;> (refine Y Z ?_)) | refine ag.t_ rfl ?_ | refine ag.f_ rfl ?_ | refine ag.k_ ?_ | refine ag.b_ ?_ | refine ag.e_ ?_ | refine aw.e_ ?_ | refine aw.c_ ?_ | refine aw.b_ ?_)
 ·refine next (i + 1, _, _) _ _ _ (by simp only; omega) ⟨⟨rfl, rfl, rfl, rfl, rfl, trivial⟩, ⟨_, rfl⟩, ⟨_, .cons .h .nil⟩⟩ ⟨by simp only; omega, ⟨k3, by simp only [List.length_append]⟩, ?_, ?_⟩
  ·simp only
   rw [hacc3, sC, List.append_assoc]
  ·have := hinl (by omega)
   simp only [List.length_append]; omega
 ·have hi3 : i = c.ay.length := by omega
  subst hi3
  have htx : acc3 = eU c := by rw [hacc3, hacc2, hacc]; rfl
  subst hv3
  repeat' (first | refine aw.a_ ?_ | (refine X 20 ?_; ((refine .cons (oY Z Z Z Z NF Z Z (by repeat (first | exact .h | apply aI.t)) Z (fun h f hg ro rg => HY hK k q3 _ true acc3 Z (by rw [htx]; simp [eU, gw]) (by rw [htx]; exact rh hc) (by omega) h f.wf hg) ?_)) <;> (rintro v C' ⟨rfl, rfl⟩)) <;> (refine J Z ?_) <;> (refine Y Z ?_)) | refine ag.r_ ?_ | refine aw.r_ hX rfl ?_)
  exact fun h f => ⟨by rw [htx]; rfl, f.aS.bx .nil⟩
end Ev
end Go.HL
namespace Go.HL
open Go Go.Proofs
namespace Ev
open Em
set_option maxRecDepth 10000
set_option maxHeartbeats 4000000
variable {K : ai} {base : List (Nat × aE)}
structure ba where
 name : List Nat
 params : List (List Nat × Bool)
 shared : List (List Nat × Int)
 «local» : Int
 ay : List bI
def ba.iw (c : ba) : az := ⟨c.name.length, aO c.name 0, c.params.map fun p => (p.1.length, aO p.1 0, p.2), c.shared.map fun a => (a.1.length, aO a.1 0, a.2), c.local, c.ay⟩
def ba.zb (c : ba) : bg := ⟨c.name, c.params, c.shared.map fun a => (a.1, a.2.toNat), c.local.toNat, c.ay⟩
def tn (b : List Nat) : Prop := cV b ∧ b.length ≤ 1152921504606846976
structure ba.Ok (c : ba) : Prop where
 name : tn c.name
 zN : c.params.length ≤ 1152921504606846976
 eW : ∀ p ∈ c.params, tn p.1
 Bx : c.shared.length ≤ 1152921504606846976
 dX : ∀ p ∈ c.shared, tn p.1
 Ha : c.ay.length ≤ 1152921504606846976
 each : ∀ x ∈ c.ay, -2147483648 ≤ x.cL ∧ x.cL ≤ 2147483647
theorem tn.ok {b : List Nat} (h : tn b) : nE (b.length, aO b 0) := by
 refine ⟨h.2, ?_⟩
 cases b with
 | nil => exact .inr rfl
 | cons x b => exact .inl (Nat.succ_pos _)
theorem ba.Ok.ok {c : ba} (f : c.Ok) : gk c.iw := by
 refine ⟨f.name.ok, ?_, ?_, ?_, ?_, f.Ha, f.each⟩
 ·simp only [ba.iw, List.length_map]; exact f.zN
 ·intro p hp
  obtain ⟨q, hq, rfl⟩ := List.mem_map.1 hp
  exact (f.eW q hq).ok
 ·simp only [ba.iw, List.length_map]; exact f.Bx
 ·intro p hp
  obtain ⟨q, hq, rfl⟩ := List.mem_map.1 hp
  exact (f.dX q hq).ok
theorem tp {c : ba} (h : c.iw.cF = true) : c.zb.iw = c.iw := by
 unfold az.cF az.nk az.gg az.cB at h
 simp only [Bool.and_eq_true, decide_eq_true_eq, List.all_eq_true] at h
 obtain ⟨⟨⟨⟨⟨⟨⟨⟨⟨_, _⟩, _⟩, _⟩, h5⟩, _⟩, h6⟩, _⟩, _⟩, _⟩ := h
 have e1 : ((c.local.toNat : Nat) : Int) = c.local := Int.toNat_of_nonneg h6.1
 unfold bg.iw ba.zb ba.iw
 simp only [e1, List.map_map]
 congr 1
 refine List.map_congr_left fun a ha => ?_
 have := h5 _ (List.mem_map.2 ⟨a, ha, rfl⟩)
 unfold eS at this
 simp only [Bool.and_eq_true, decide_eq_true_eq] at this
 show (_, _, ((a.2.toNat : Nat) : Int)) = (_, _, a.2)
 rw [Int.toNat_of_nonneg (by omega)]
theorem CZ {c : ba} (f : c.Ok) (h : c.iw.cF = true) : V c.zb = true := by
 have e1 : mh c.name = true := jC.2 f.name.1
 have e2 : c.params.all (fun p => mh p.1) = true := List.all_eq_true.2 fun p hp => jC.2 (f.eW p hp).1
 have e3 : (c.shared.map fun a => (a.1, a.2.toNat)).all (fun p => mh p.1) = true := List.all_eq_true.2 fun p hp => by
  obtain ⟨q, hq, rfl⟩ := List.mem_map.1 hp
  exact jC.2 (f.dX q hq).1
 have e4 : c.ay.all (fun x => decide (-2147483648 ≤ x.cL ∧ x.cL ≤ 2147483647)) = true := List.all_eq_true.2 fun x hx => decide_eq_true (f.each x hx)
 unfold V
 rw [tp h, h]
 show (mh c.name && c.params.all _ && _ && c.ay.all _ && true) = true
 rw [e1, e2, e4]
 simp only [Bool.true_and, Bool.and_true]
 exact e3
theorem DD {f : az} {x : bI} (h : f.ju x = true) : x.kind = 8 ∨ x.kind = 10 → x.op = 0 ∨ x.op = 18 ∨ x.op = 19 ∨ x.op = 5 ∨ x.op = 6 ∨ x.op = 7 := by
 unfold az.ju at h
 simp only [Bool.and_eq_true, decide_eq_true_eq] at h
 obtain ⟨⟨⟨⟨⟨⟨⟨_, ho⟩, _⟩, _⟩, _⟩, _⟩, _⟩, _⟩ := h
 intro e
 have : (U x.kind.toNat).Aq = true := by rcases e with e | e <;> rw [e] <;> decide
 rw [if_pos this] at ho
 unfold cY jk at ho
 split at ho
 ·omega
 ·split at ho
  ·omega
  ·split at ho
   ·omega
   ·split at ho
    ·omega
    ·cases ho
theorem lB {c : bg} (h : V c = true) : yZ c := by
 have ht := E4 h
 refine ⟨ht, fun x hx => ⟨ht.lines x hx, ?_⟩⟩
 unfold V at h
 simp only [Bool.and_eq_true] at h
 have hv := h.2
 unfold az.cF at hv
 simp only [Bool.and_eq_true, List.all_eq_true] at hv
 exact DD (hv.2 x hx)
theorem Fl {c : bg} (h : w9 c) : r4 c := ⟨h.name, h.params, h.eW, h.shared, h.dX, h.local, h.ay, fun x hx => (h.each x hx).cL⟩
/-! ## Not valid -/
theorem yg (hK : KN base K) (c : az) (hv : c.cF = false) (pv sv iv : ad) (h : Heap) (w : Wf h) (hc : gk c) (hr : (ke c pv sv iv).holds h) : Sp P K 12 [cv c pv sv iv] h (dE (.tuple [aR [], i64 1]) h) := by
 have hv2 : c.fE = false := by rw [← sc]; exact hv
 refine Sp.start (m := 9671406701032225785251071) (n := 100) w (hK.none 12 rfl rfl _ _) Tryz.func12 rfl rfl mask12 rfl rfl ?_
 repeat' (first | refine aw.a_ ?_ | refine ag.s_ ?_ | (refine X 0 ?_; (iterate 3 refine J Z ?_) <;> (refine Y Z ?_)) | (refine X 1 ?_; (refine J Z ?_) <;> (refine .cons (ao Z Z Z Z Mu Z Z (fun h f => (hv2 ▸ pS hK c pv sv iv h f.wf hc (f.ro (.of hr)))) ?_)) <;> (refine J Z ?_) <;> (refine Y Z ?_)) | (refine X 2 ?_; (iterate 2 refine J Z ?_) <;> (refine Y Z ?_)) | refine ag.r_ ?_ | refine aw.d_ ?_ | refine ag.t_ rfl ?_ | refine aw.r_ hX rfl ?_)
 all_goals exact fun h f => ⟨rfl, f.aS⟩
/-! ## Valid -/
end Ev
end Go.HL
namespace Go.HL
open Go Go.Proofs
namespace Ev
open Em
set_option maxRecDepth 10000
set_option maxHeartbeats 4000000
variable {K : ai} {base : List (Nat × aE)}
theorem y0 {c : ba} (h : c.iw.cF = true) (pv sv iv : ad) : xH c.zb pv sv iv = cv c.iw pv sv iv := by
 have e := congrArg az.local (tp h)
 show ad.agg [_, pv, sv, .int .i64 c.zb.iw.local, iv] = .agg [_, pv, sv, .int .i64 c.iw.local, iv]
 rw [e]; rfl
theorem Js {c : ba} (hv : c.iw.cF = true) {pv sv iv : ad} {h : Heap} (r : (ke c.iw pv sv iv).holds h) : (pg c.zb pv sv iv).holds h := by
 rw [← tp hv] at r
 refine ⟨?_, ?_, r.2.2⟩
 ·have := r.1
  unfold bg.iw at this
  simp only [List.map_map] at this
  exact this
 ·have := r.2.1
  unfold bg.iw at this
  simp only [List.map_map] at this
  exact this
end Ev
end Go.HL
