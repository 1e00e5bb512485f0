/- The walk: the program's text, the law. No statement of the seat stands here. -/
import Derived.Test.YtngeipnhbigdmaaGreatDoorVC
set_option linter.unusedVariables false
set_option linter.unusedSimpArgs false
namespace Go.HL
open Go Go.Proofs
namespace Ev
open Em
set_option maxRecDepth 10000
set_option maxHeartbeats 4000000
variable {K : ah} {base : List (Nat × aG)}
def dM (l : List Nat) : Prop := ∀ x ∈ l, x < 256
theorem dM.app {a b : List Nat} (ha : dM a) (hb : dM b) : dM (a ++ b) := fun x hx => (List.mem_append.1 hx).elim (ha x) (hb x)
theorem dM.dec (n : Int) : dM (aQ n) := Lz n
theorem dM.cons {x : Nat} {l : List Nat} (hx : x < 256) (h : dM l) : dM (x :: l) := fun y hy => (List.mem_cons.1 hy).elim (fun e => e ▸ hx) (h y)
theorem dM.r (n : Int) : dM (rT n) := .cons (by decide) (.dec n)
theorem dM.nil : dM [] := fun x hx => by cases hx
theorem dM.getD {l : List (List Nat)} {k : Nat} (h : ∀ x ∈ l, ∀ b ∈ x, b < 256) : dM (l.getD k []) := by
 by_cases hk : k < l.length
 ·exact h _ (bh _ hk)
 ·rw [List.getD, List.getElem?_eq_none (by omega)]; exact .nil
theorem dM.f (n : Int) : dM (fT n) := by
 unfold fT
 repeat' split
 all_goals exact fun x hx => by simp at hx; omega
def oG (l : List (List Nat)) : Prop := ∀ p ∈ l, dM p
theorem oG.ite {p : Prop} [Decidable p] {a b : List (List Nat)} (ha : oG a) (hb : oG b) : oG (if p then a else b) := by split <;> assumption
theorem oG.nil : oG [] := fun p hp => by cases hp
theorem oG.cons {p : List Nat} {l : List (List Nat)} (hp : dM p) (hl : oG l) : oG (p :: l) := fun q hq => (List.mem_cons.1 hq).elim (fun e => e ▸ hp) (hl q)
def HW (l : List (List Nat)) : Prop := 0 < l.length ∧ l.length ≤ 6
theorem HW.ite {p : Prop} [Decidable p] {a b : List (List Nat)} (ha : HW a) (hb : HW b) : HW (if p then a else b) := by split <;> assumption
theorem bA {l : List Nat} (h : l.all (fun x => decide (x < 256)) = true) : dM l := fun x hx => of_decide_eq_true (List.all_eq_true.1 h x hx)
theorem yz (x : bI) : oG (aN x) := by
 have h1 := dM.r x.d
 have h2 := dM.r x.a
 have h3 := dM.r x.b
 have h4 := dM.dec x.cV
 have h5 := dM.dec x.to
 have h6 := dM.dec x.join
 have h7 := dM.f x.op
 have h8 : dM (uT.getD x.op.toNat []) := .getD (by decide)
 have h9 : dM (bT.getD x.op.toNat []) := .getD (by decide)
 have h10 : dM (qF.getD x.op.toNat []) := .getD (by decide)
 unfold aN
 repeat' (first | refine oG.ite ?_ ?_ | exact .nil | refine .cons (by first | assumption | exact bA rfl) ?_)
theorem sN (x : bI) : HW (aN x) := by
 unfold aN
 repeat' (first | refine HW.ite ?_ ?_ | exact ⟨Nat.succ_pos _, by simp⟩)
theorem qk (a : List Nat) {l : List (List Nat)} (h : 0 < l.length) : aJ (a :: l) = a ++ [32] ++ aJ l := by
 cases l with
 | nil => simp at h
 | cons x r => simp [aJ]
structure As (c : aR) : Prop where
 ok : Kn c
 lines : ∀ x ∈ c.aq, Au x
theorem je {h : Heap} {k e : Nat} {lc : List aa} {s : Bool} (l : List (List Nat)) (hl : (l.map sB).flatten = lc) (hp : (eR k lc e s).holds h) : (rd (.slice k 0 l.length (some l.length)) 1 (l.map sB)).holds h := aL.rd ((ft l hl).holds h hp)
abbrev Nu (c : aR) : List (List Nat) := [[99, 111, 100, 101], c.name, [108, 111, 99, 97, 108], aQ c.local]
abbrev Mw (b : List Nat) : List (List Nat) := [[98, 117, 102, 102, 101, 114], b]
abbrev Mn (b : List Nat) : List (List Nat) := [[105, 110, 116], b]
abbrev Mg (a : List Nat × Nat) : List (List Nat) := [[115, 104, 97, 114, 101, 100], a.1, aQ a.2]
theorem dM.flat {α : Type} {g : α → List Nat} : ∀ {l : List α}, (∀ a ∈ l, dM (g a)) → dM (l.flatMap g)
 | [], _ => .nil
 | a :: l, h => by
  rw [List.flatMap_cons]
  exact (h a (by simp)).app (dM.flat fun b hb => h b (by simp [hb]))
theorem su {c : aR} (hc : As c) : dM (bM c) := by
 have f := hc.ok.gJ
 refine ((dM.app ?_ (.flat fun p hp => ?_)).app (.flat fun a ha => ?_)).app (.flat fun j _ => ?_)
 ·exact (((dM.app (bA rfl) f.name.2).app (bA rfl)).app (.dec _)).app (bA rfl)
 ·unfold mz
  have := (f.eg p hp).2
  split
  ·exact ((bA rfl : dM _).app this).app (bA rfl)
  ·exact ((bA rfl : dM _).app this).app (bA rfl)
 ·have := (f.dF a ha).1.2
  exact ((((bA rfl : dM _).app this).app (bA rfl)).app (.dec _)).app (bA rfl)
 ·unfold wG
  rw [nU]
  exact (((dM.dec _).app (bA rfl)).app (wC (yz _))).app (bA rfl)
theorem yb (hK : KN base K) (hL : KL base K) (c : aR) (hc : As c) (pv sv iv : aa) (h : Heap) (w : Wf h) (hB : (lies base).holds h) (hr : (gG c pv sv iv).holds h) :
  Sp P K 31 [iL c pv sv iv] h (iw (aY (bM c)) h) := by
 have hp := hr.1
 have hs := hr.2.1
 have hi := hr.2.2
 have lp := aV hp
 have ls := aV hs
 have li := aV hi
 have b1 := hc.ok.gJ.params
 have b2 := hc.ok.gJ.shared
 have b3 := hc.ok.gJ.aq
 have b4 := hc.ok.gJ.local
 have bn := hc.ok.gJ.name.1
 have bb := hc.ok.gJ.name.2
 have bl := eY (n := (c.local : Int)) (by omega) (by omega)
 have hh : aJ (Nu c) ++ [10] = jc c := by simp [aJ, jc, Nu]
 have hhl : (jc c).length ≤ 100 := by simp only [jc, List.length_append, List.length_cons, List.length_nil]; omega
 have hhb : dM (jc c) := by
  unfold jc
  exact ((((dM.app (bA rfl) bb).app (bA rfl)).app (.dec _)).app (bA rfl))
 have hjl : (aJ (Nu c)).length ≤ 1000 := by
  have := congrArg List.length hh
  simp only [List.length_append, List.length_singleton] at this
  omega
 refine Sp.start (m := 540440201696641967) (n := 72) w (hK.none 31 rfl rfl _ _) Tryz.func31 rfl rfl Na rfl rfl ?_
 repeat' (first | refine ax.a_ ?_ | refine ai.s_ ?_ | (refine X 0 ?_; (iterate 2 refine J Z ?_) <;> (refine Y Z ?_)) | (refine X 1 ?_; (refine J Z ?_) <;> (refine Y Z ?_)))
 refine ai.gD 1 (fun k => HY k false .aC []) rfl (fun k => Kd k) (fun _ => rfl) rfl fun k => ?_
 repeat' (first | refine ax.a_ ?_ | refine ai.s_ ?_ | (refine ai.draw (id := 2) aw [0, 1, 2, 3, 4, 5, 6, 7] #[0, 1, 0, 4, 12, 31, 63, 127] (by kernel_rfl) (by kernel_rfl) (by kernel_rfl) ?_; (refine O Z Z Z ?_) <;> ((refine .cons Z (q hX Z ?_)) <;> refine ⟨_, .ng hX.aw Z Z Z Z Z Z Z Z (suB Z) Z Z Z, ?_⟩) <;> (refine O Z Z Z ?_) <;> ((refine .cons Z (q hX Z ?_)) <;> refine ⟨_, .ng hX.aw Z Z Z Z Z Z Z Z (suB Z) Z Z Z, ?_⟩) <;> ((refine .cons Z (aE Z Z Z Z Cr Z Z (fun h f => iG hL c.local (by omega) (by omega) h f.wf (f.ro (.of hB))) ?_)) <;> refine W_ Z ?_) <;> (refine O Z Z Z ?_) <;> ((refine .cons Z (uO Z Z Z Z Z Z K7 Z Z (fun ks h f hp => lO hK hL (.slice ks 0 4 (some 4)) (Nu c) hh (by simp [Nu]) (.cons (bA Z) (.cons bb (.cons (bA Z) (.cons (.dec _) .nil))) : oG _) hjl (by simp [Nu]) h f.wf (je (Nu c) Z hp)) ?_)) <;> refine W_ Z ?_) <;> ((refine .cons Z (la Z Z Z Z K8 Z Z (by repeat (first | exact .h | apply aS.t)) Z (fun h f hg ro rg => nw hK k false .aC [] (jc c) (by simp [jc]) hhb (by simp only [List.length_nil]; omega) h f.wf hg) ?_)) <;> (rintro v C' ⟨k2, rfl⟩) <;> refine W_ Z ?_) <;> (refine .nil ⟨?_, .intro Z ?_⟩ <;> (repeat' (first | exact trivial | exact .inl Z | exact .inr (.inl ⟨_, _, _, _, Z, Z, Z⟩) | refine ⟨?_, ?_⟩)))) | (refine X 3 ?_; (iterate 2 refine J Z ?_) <;> (refine .cons (ql hX Z Z Z Z Z Z (by assumption) Z Z ?_)) <;> (refine J Z ?_) <;> (refine Y Z ?_)) | refine ai.b_ ?_)
 refine ai.loop (ι := Nat × aa × List Nat) (fun a => [(21, .ext (i64 a.1)), (20, .ext (i64 c.params.length)), (19, .ext pv), (3, .ext (.ptr k 0)), (1, .ptr 0 0)]) (fun _ => [.own [aY c.name, pv, sv, i64 c.local, iv] 26 false]) (fun a => [HY k true a.2.1 a.2.2]) (fun a => a.1 ≤ c.params.length ∧ (∃ q, a.2.1 = .slice q 0 a.2.2.length none) ∧ a.2.2 = jc c ++ (c.params.take a.1).flatMap mz ∧ a.2.2.length ≤ 100 + 100 * a.1) (fun a => c.params.length - a.1) (0, .slice k2 0 (([] : List Nat).length + (jc c).length) none, [] ++ jc c) ⟨⟨rfl, rfl, rfl, rfl, rfl, trivial⟩, ⟨_, rfl⟩, ⟨_, .cons .h .nil⟩⟩ ⟨Nat.zero_le _, ⟨k2, by simp⟩, by simp, by simpa using hhl⟩ (fun _ => rfl) (fun _ => rfl) (fun _ => rfl) ?_
 rintro ⟨i, v1, acc⟩ ⟨hi2, ⟨q1, hv1⟩, hacc, hal⟩ next
 simp only at hi2 hv1 hacc hal next ⊢
 have hnm : i < c.params.length → (c.params.getD i gh).1.length ≤ 16 ∧ dM (c.params.getD i gh).1 := fun hlt => hc.ok.gJ.eg _ (bh _ hlt)
 have hbu : ∀ b : List Nat, aJ (Mw b) ++ [10] = [98, 117, 102, 102, 101, 114, 32] ++ b ++ [10] := fun b => by simp [aJ, Mw]
 have nk : ∀ b : List Nat, aJ (Mn b) ++ [10] = [105, 110, 116, 32] ++ b ++ [10] := fun b => by simp [aJ, Mn]
 have hjb : ∀ b : List Nat, b.length ≤ 16 → (aJ (Mw b)).length ≤ 1000 ∧ (aJ (Mn b)).length ≤ 1000 := fun b hb => ⟨by simp [aJ, Mw]; omega, by simp [aJ, Mn]; omega⟩
 repeat' (first | refine ax.a_ ?_ | refine ai.s_ ?_ | (refine X 4 ?_; ((refine .cons (qc Z ?_ ?_)) <;> intro _) <;> (refine Y Z ?_)) | (refine X 5 ?_; (refine .cons (bq hX Z Z Z Z Z (.of hp) (aM gh (by omega)) Z Z Z ?_)) <;> (iterate 3 refine J Z ?_) <;> (refine Y Z ?_)) | (refine X 6 ?_; (refine J Z ?_) <;> ((refine .cons (qb hX Z ?_ ?_)) <;> (intro hbl; (first | (cases hbl; done) | skip))) <;> (refine Y Z ?_)) | (refine X 7 ?_; (iterate 3 refine J Z ?_) <;> (refine .cons (uO Z Z Z Z Z Z K7 Z Z (fun ks h f hp => lO hK hL (.slice ks 0 2 (some 2)) (Mw (c.params.getD i gh).1) (hbu _) (by simp [Mw]) (.cons (bA Z) (.cons (hnm (by omega)).2 .nil) : oG _) (hjb _ (hnm (by omega)).1).1 (by simp [Mw]) h f.wf (je (Mw (c.params.getD i gh).1) Z hp)) ?_)) <;> ((refine .cons (la Z Z Z Z K8 Z Z (by repeat (first | exact .h | apply aS.t)) Z (fun h f hg ro rg => nw hK k true v1 acc ([98, 117, 102, 102, 101, 114, 32] ++ (c.params.getD i gh).1 ++ [10]) (by simp) (((bA Z : dM _).app (hnm (by omega)).2).app (bA Z)) (by have := (hnm (by omega)).1; simp only [List.length_append, List.length_cons, List.length_nil]; omega) h f.wf hg) ?_)) <;> (rintro v C' ⟨k3, rfl⟩)) <;> (refine Y Z ?_)) | (refine X 8 ?_; (iterate 3 refine J Z ?_) <;> (refine .cons (uO Z Z Z Z Z Z K7 Z Z (fun ks h f hp => lO hK hL (.slice ks 0 2 (some 2)) (Mn (c.params.getD i gh).1) (nk _) (by simp [Mn]) (.cons (bA Z) (.cons (hnm (by omega)).2 .nil) : oG _) (hjb _ (hnm (by omega)).1).2 (by simp [Mn]) h f.wf (je (Mn (c.params.getD i gh).1) Z hp)) ?_)) <;> ((refine .cons (la Z Z Z Z K8 Z Z (by repeat (first | exact .h | apply aS.t)) Z (fun h f hg ro rg => nw hK k true v1 acc ([105, 110, 116, 32] ++ (c.params.getD i gh).1 ++ [10]) (by simp) (((bA Z : dM _).app (hnm (by omega)).2).app (bA Z)) (by have := (hnm (by omega)).1; simp only [List.length_append, List.length_cons, List.length_nil]; omega) h f.wf hg) ?_)) <;> (rintro v C' ⟨k3, rfl⟩)) <;> (refine Y Z ?_)) | (refine X 9 ?_; (refine .cons (qa Z Z Z Z Z (wI (by first | omega | (simp only [Int.ofNat_eq_natCast]; omega)) (by first | omega | (simp only [Int.ofNat_eq_natCast]; omega))) Z Z ?_)) <;> (refine J Z ?_) <;> (refine Y Z ?_)) | (refine X 10 ?_; (iterate 2 refine J Z ?_) <;> (refine .cons (ql hX Z Z Z Z Z Z (by assumption) Z Z ?_)) <;> (refine J Z ?_) <;> (refine Y Z ?_)) | refine ai.t_ rfl ?_ | refine ai.f_ rfl ?_ | refine ai.k_ ?_ | refine ai.b_ ?_ | refine ai.e_ ?_ | refine ax.e_ ?_ | refine ax.c_ ?_ | refine ax.b_ ?_)
 ·refine next (i + 1, _, _) _ _ _ (by simp only; omega) ⟨⟨rfl, rfl, rfl, rfl, rfl, trivial⟩, ⟨_, rfl⟩, ⟨_, .cons .h .nil⟩⟩ ⟨by simp only; omega, ⟨k3, by simp only [List.length_append]⟩, ?_, ?_⟩
  ·simp only
   rw [hacc, eB (by omega) gh]
   simp only [mz, hbl, if_true, List.append_assoc]
  ·have := (hnm (by omega)).1
   simp only [List.length_append, List.length_cons, List.length_nil]; omega
 ·refine next (i + 1, _, _) _ _ _ (by simp only; omega) ⟨⟨rfl, rfl, rfl, rfl, rfl, trivial⟩, ⟨_, rfl⟩, ⟨_, .cons .h .nil⟩⟩ ⟨by simp only; omega, ⟨k3, by simp only [List.length_append]⟩, ?_, ?_⟩
  ·simp only
   rw [hacc, eB (by omega) gh]
   simp only [mz, hbl, List.append_assoc]; rfl
  ·have := (hnm (by omega)).1
   simp only [List.length_append, List.length_cons, List.length_nil]; omega
 clear next
 have hi3 : i = c.params.length := by omega
 subst hi3
 rw [List.take_length] at hacc
 have h17 : acc.length ≤ 700 := by omega
 refine ai.loop (ι := Nat × aa × List Nat) (fun a => [(41, .ext (i64 a.1)), (40, .ext (i64 c.shared.length)), (39, .ext sv), (3, .ext (.ptr k 0)), (1, .ptr 0 0)]) (fun _ => [.own [aY c.name, pv, sv, i64 c.local, iv] 26 false]) (fun a => [HY k true a.2.1 a.2.2]) (fun a => a.1 ≤ c.shared.length ∧ (∃ q, a.2.1 = .slice q 0 a.2.2.length none) ∧ a.2.2 = acc ++ (c.shared.take a.1).flatMap uH ∧ a.2.2.length ≤ 700 + 100 * a.1) (fun a => c.shared.length - a.1) (0, v1, acc) ⟨⟨rfl, rfl, rfl, rfl, rfl, trivial⟩, ⟨_, rfl⟩, ⟨_, .cons .h .nil⟩⟩ ⟨Nat.zero_le _, ⟨q1, hv1⟩, by simp, by simp only; omega⟩ (fun _ => rfl) (fun _ => rfl) (fun _ => rfl) ?_
 rintro ⟨i, v2, acc2⟩ ⟨hi2, ⟨q2, hv2⟩, hacc2, hal2⟩ next
 simp only at hi2 hv2 hacc2 hal2 next ⊢
 have hnm : i < c.shared.length → ((c.shared.getD i fQ).1.length ≤ 16 ∧ dM (c.shared.getD i fQ).1) ∧ (c.shared.getD i fQ).2 ≤ 64 := fun hlt => ⟨(hc.ok.gJ.dF _ (bh _ hlt)).1, (hc.ok.gJ.dF _ (bh _ hlt)).2⟩
 have hnl : i < c.shared.length → (aQ ((c.shared.getD i fQ).2 : Int)).length ≤ 11 := fun hlt => eY (by have := (hnm hlt).2; omega) (by have := (hnm hlt).2; omega)
 have hsh : ∀ a : List Nat × Nat, aJ (Mg a) ++ [10] = uH a := fun a => by simp [aJ, Mg, uH]
 have hjs : ∀ a : List Nat × Nat, a.1.length ≤ 16 → (aQ (a.2 : Int)).length ≤ 11 → (aJ (Mg a)).length ≤ 1000 := fun a h1 h2 => by simp [aJ, Mg]; omega
 have har : ∀ a : List Nat × Nat, (uH a).length = 9 + a.1.length + (aQ (a.2 : Int)).length := fun a => by simp only [uH, List.length_append, List.length_cons, List.length_nil]; omega
 have harb : ∀ a : List Nat × Nat, dM a.1 → dM (uH a) := fun a h1 => ((((bA rfl : dM _).app h1).app (bA rfl)).app (.dec _)).app (bA rfl)
 repeat' (first | refine ax.a_ ?_ | refine ai.s_ ?_ | (refine X 11 ?_; ((refine .cons (qc Z ?_ ?_)) <;> intro _) <;> (refine Y Z ?_)) | (refine X 12 ?_; (refine .cons (bq hX Z Z Z Z Z (.of hs) (aM fQ (by omega)) Z Z Z ?_)) <;> (iterate 3 refine J Z ?_) <;> (refine Y Z ?_)) | (refine ai.draw (id := 13) aw [0, 1, 2, 3, 4, 5, 6, 7] #[0, 1, 0, 4, 12, 31, 63, 127] (by kernel_rfl) (by kernel_rfl) (by kernel_rfl) ?_; (refine O Z Z Z ?_) <;> ((refine .cons Z (q hX Z ?_)) <;> refine ⟨_, .ng hX.aw Z Z Z Z Z Z Z Z (suB Z) Z Z Z, ?_⟩) <;> (refine O Z Z Z ?_) <;> ((refine .cons Z (q hX Z ?_)) <;> refine ⟨_, .ng hX.aw Z Z Z Z Z Z Z Z (suB Z) Z Z Z, ?_⟩) <;> ((refine .cons Z (aE Z Z Z Z Cr Z Z (fun h f => iG hL (c.shared.getD i fQ).2 (by omega) (by omega) h f.wf (f.ro (.of hB))) ?_)) <;> refine W_ Z ?_) <;> (refine O Z Z Z ?_) <;> ((refine .cons Z (uO Z Z Z Z Z Z K7 Z Z (fun ks h f hp => lO hK hL (.slice ks 0 3 (some 3)) (Mg (c.shared.getD i fQ)) (hsh _) (by simp [Mg]) (.cons (bA Z) (.cons (hnm (by omega)).1.2 (.cons (.dec _) .nil)) : oG _) (hjs _ (hnm (by omega)).1.1 (hnl (by omega))) (by simp [Mg]) h f.wf (je (Mg (c.shared.getD i fQ)) Z hp)) ?_)) <;> refine W_ Z ?_) <;> ((refine .cons Z (la Z Z Z Z K8 Z Z (by repeat (first | exact .h | apply aS.t)) Z (fun h f hg ro rg => nw hK k true v2 acc2 (uH (c.shared.getD i fQ)) (by rw [har]; omega) (harb _ (hnm (by omega)).1.2) (by have := (hnm (by omega)).1.1; have := hnl (by omega); rw [har]; omega) h f.wf hg) ?_)) <;> (rintro v C' ⟨k3, rfl⟩) <;> refine W_ Z ?_) <;> (refine .nil ⟨?_, .intro Z ?_⟩ <;> (repeat' (first | exact trivial | exact .inl Z | exact .inr (.inl ⟨_, _, _, _, Z, Z, Z⟩) | refine ⟨?_, ?_⟩)))) | (refine X 14 ?_; (refine .cons (qa Z Z Z Z Z (wI (by first | omega | (simp only [Int.ofNat_eq_natCast]; omega)) (by first | omega | (simp only [Int.ofNat_eq_natCast]; omega))) Z Z ?_)) <;> (refine J Z ?_) <;> (refine Y Z ?_)) | (refine X 15 ?_; (iterate 2 refine J Z ?_) <;> (refine .cons (ql hX Z Z Z Z Z Z (by assumption) Z Z ?_)) <;> (refine J Z ?_) <;> (refine Y Z ?_)) | refine ai.t_ rfl ?_ | refine ai.f_ rfl ?_ | refine ai.k_ ?_ | refine ai.b_ ?_ | refine ai.e_ ?_ | refine ax.e_ ?_ | refine ax.c_ ?_ | refine ax.b_ ?_)
 ·refine next (i + 1, _, _) _ _ _ (by simp only; omega) ⟨⟨rfl, rfl, rfl, rfl, rfl, trivial⟩, ⟨_, rfl⟩, ⟨_, .cons .h .nil⟩⟩ ⟨by simp only; omega, ⟨k3, by simp only [List.length_append]⟩, ?_, ?_⟩
  ·simp only
   rw [hacc2, eB (by omega) fQ, List.append_assoc]
  ·have := (hnm (by omega)).1.1
   have := hnl (by omega)
   simp only [List.length_append, har]; omega
 clear next
 have hi3 : i = c.shared.length := by omega
 subst hi3
 rw [List.take_length] at hacc2
 have h18 : acc2.length ≤ 1100 := by omega
 refine ai.loop (ι := Nat × aa × List Nat) (fun a => [(57, .ext (i64 a.1)), (56, .ext (i64 c.aq.length)), (55, .ext iv), (3, .ext (.ptr k 0)), (1, .ptr 0 0)]) (fun _ => [.own [aY c.name, pv, sv, i64 c.local, iv] 26 false]) (fun a => [HY k true a.2.1 a.2.2]) (fun a => a.1 ≤ c.aq.length ∧ (∃ q, a.2.1 = .slice q 0 a.2.2.length none) ∧ a.2.2 = acc2 ++ mH c.aq a.1 ∧ a.2.2.length ≤ 1100 + 200 * a.1) (fun a => c.aq.length - a.1) (0, v2, acc2) ⟨⟨rfl, rfl, rfl, rfl, rfl, trivial⟩, ⟨_, rfl⟩, ⟨_, .cons .h .nil⟩⟩ ⟨Nat.zero_le _, ⟨q2, hv2⟩, by simp [mH], by simp only; omega⟩ (fun _ => rfl) (fun _ => rfl) (fun _ => rfl) ?_
 rintro ⟨i, v3, acc3⟩ ⟨hi2, ⟨q3, hv3⟩, hacc3, hal3⟩ next
 simp only at hi2 hv3 hacc3 hal3 next ⊢
 have hx : i < c.aq.length → Au (c.aq.getD i aP) := fun hlt => hc.lines _ (bh _ hlt)
 have hxl : i < c.aq.length → (yP (c.aq.getD i aP)).length ≤ 100 := fun hlt => yO (hx hlt).ok
 have hil : (aQ (i : Int)).length ≤ 11 := eY (by omega) (by omega)
 have hpp := sN (c.aq.getD i aP)
 have hpb := yz (c.aq.getD i aP)
 have hins : aJ (aQ i :: aN (c.aq.getD i aP)) ++ [10] = wG i (c.aq.getD i aP) := by rw [qk _ hpp.1, ← nU]; rfl
 have hinl : i < c.aq.length → (wG i (c.aq.getD i aP)).length ≤ 113 := fun hlt => by have := hxl hlt; simp only [wG, List.length_append, List.length_cons, List.length_nil]; omega
 have hinb : dM (wG i (c.aq.getD i aP)) := by rw [← hins]; exact dM.app (wC (oG.cons (.dec _) hpb)) (bA rfl)
 have hjl3 : i < c.aq.length → (aJ (aQ i :: aN (c.aq.getD i aP))).length ≤ 1000 := fun hlt => by have := hinl hlt; rw [← hins, List.length_append] at this; omega
 repeat' (first | refine ax.a_ ?_ | refine ai.s_ ?_ | (refine X 16 ?_; ((refine .cons (qc Z ?_ ?_)) <;> intro _) <;> (refine Y Z ?_)) | (refine X 17 ?_; (refine J Z ?_) <;> (refine .cons (bq hX Z Z Z Z Z (.of hi) (aM aP (by omega)) Z Z Z ?_)) <;> (iterate 4 refine J Z ?_) <;> (refine Y Z ?_)) | (refine ai.draw (id := 18) aw [0, 3, 1, 2, 4, 5, 6, 7] #[0, 1, 3, 0, 11, 31, 63, 127] (by kernel_rfl) (by kernel_rfl) (by kernel_rfl) ?_; (refine O Z Z Z ?_) <;> ((refine .cons Z (q hX Z ?_)) <;> refine ⟨_, .Ou hX.aw Z Z Z Z Z Z Z Z (beA Z) Z Z Z, ?_⟩) <;> ((refine .cons Z (aE Z Z Z Z Cr Z Z (fun h f => iG hL i (by omega) (by omega) h f.wf (f.ro (.of hB))) ?_)) <;> refine W_ Z ?_) <;> (refine O Z Z Z ?_) <;> ((refine .cons Z (fD Z Z Z Z QB Z Z (fun h f => Gv hK hL (c.aq.getD i aP) (hx (by omega)) h f.wf (f.ro (.of hB))) ?_)) <;> (rintro v C' ⟨kp, rfl, rfl⟩) <;> refine W_ Z ?_) <;> ((refine .cons Z (IB (rows := [sB (aQ i)]) hX Z Z Z Z Z Z Z Z Z Z Z Z b9 Z Z Z Z (by simp) Z Z .h (by rw [List.length_map]; exact hpp.1) (fun _ e => by cases e) Z (by rw [List.length_map]; have := hpp.2; omega) Z Z ?_)) <;> (intro kq) <;> refine W_ Z ?_) <;> ((refine .cons Z (aE Z Z Z Z K7 Z Z (fun h f => lO hK hL (.slice kq 0 _ none) (aQ i :: aN (c.aq.getD i aP)) hins (by simp) (oG.cons (.dec _) hpb) (hjl3 (by omega)) (by have := hpp.2; rw [List.length_cons]; omega) h f.wf (aL.rd (f.pick .h))) ?_)) <;> refine W_ Z ?_) <;> ((refine .cons Z (la Z Z Z Z K8 Z Z (by repeat (first | exact .h | apply aS.t)) Z (fun h f hg ro rg => nw hK k true v3 acc3 (wG i (c.aq.getD i aP)) (by simp only [wG, List.length_append, List.length_singleton]; omega) hinb (by have := hinl (by omega); omega) h f.wf hg) ?_)) <;> (rintro v C' ⟨k3, rfl⟩) <;> refine W_ Z ?_) <;> (refine .nil ⟨?_, .intro Z ?_⟩ <;> (repeat' (first | exact trivial | exact .inl Z | exact .inr (.inl ⟨_, _, _, _, Z, Z, Z⟩) | refine ⟨?_, ?_⟩)))) | (refine X 19 ?_; (refine .cons (qa Z Z Z Z Z (wI (by first | omega | (simp only [Int.ofNat_eq_natCast]; omega)) (by first | omega | (simp only [Int.ofNat_eq_natCast]; omega))) Z Z ?_)) <;> (refine J Z ?_) <;> (refine Y Z ?_)) | refine ai.t_ rfl ?_ | refine ai.f_ rfl ?_ | refine ai.k_ ?_ | refine ai.b_ ?_ | refine ai.e_ ?_ | refine ax.e_ ?_ | refine ax.c_ ?_ | refine ax.b_ ?_)
 ·refine next (i + 1, _, _) _ _ _ (by simp only; omega) ⟨⟨rfl, rfl, rfl, rfl, rfl, trivial⟩, ⟨_, rfl⟩, ⟨_, .cons .h .nil⟩⟩ ⟨by simp only; omega, ⟨k3, by simp only [List.length_append]⟩, ?_, ?_⟩
  ·simp only
   rw [hacc3, BA, List.append_assoc]
  ·have := hinl (by omega)
   simp only [List.length_append]; omega
 ·have hi3 : i = c.aq.length := by omega
  subst hi3
  have htx : acc3 = bM c := by rw [hacc3, hacc2, hacc]; rfl
  subst hv3
  repeat' (first | refine ax.a_ ?_ | (refine X 20 ?_; ((refine .cons (la Z Z Z Z QA Z Z (by repeat (first | exact .h | apply aS.t)) Z (fun h f hg ro rg => Kc hK k q3 _ true acc3 Z (by rw [htx]; simp [bM, jc]) (by rw [htx]; exact su hc) (by omega) h f.wf hg) ?_)) <;> (rintro v C' ⟨rfl, rfl⟩)) <;> (refine J Z ?_) <;> (refine Y Z ?_)) | refine ai.r_ ?_ | refine ax.r_ hX rfl ?_)
  exact fun h f => ⟨by rw [htx]; rfl, f.aZ.bu .nil⟩
end Ev
end Go.HL
namespace Go.HL
open Go Go.Proofs
namespace Ev
open Em
set_option maxRecDepth 10000
set_option maxHeartbeats 4000000
variable {K : ah} {base : List (Nat × aG)}
structure br where
 name : List Nat
 params : List (List Nat × Bool)
 shared : List (List Nat × Int)
 «local» : Int
 aq : List bI
def br.gM (c : br) : aD := ⟨c.name.length, aO c.name 0, c.params.map fun p => (p.1.length, aO p.1 0, p.2), c.shared.map fun a => (a.1.length, aO a.1 0, a.2), c.local, c.aq⟩
def br.CY (c : br) : aR := ⟨c.name, c.params, c.shared.map fun a => (a.1, a.2.toNat), c.local.toNat, c.aq⟩
def py (b : List Nat) : Prop := dM b ∧ b.length ≤ 1152921504606846976
structure br.Ok (c : br) : Prop where
 name : py c.name
 Gq : c.params.length ≤ 1152921504606846976
 eg : ∀ p ∈ c.params, py p.1
 Im : c.shared.length ≤ 1152921504606846976
 dF : ∀ p ∈ c.shared, py p.1
 Jo : c.aq.length ≤ 1152921504606846976
 each : ∀ x ∈ c.aq, -2147483648 ≤ x.cV ∧ x.cV ≤ 2147483647
theorem py.ok {b : List Nat} (h : py b) : tE (b.length, aO b 0) := by
 refine ⟨h.2, ?_⟩
 cases b with
 | nil => exact .inr rfl
 | cons x b => exact .inl (Nat.succ_pos _)
theorem br.Ok.ok {c : br} (f : c.Ok) : mU c.gM := by
 refine ⟨f.name.ok, ?_, ?_, ?_, ?_, f.Jo, f.each⟩
 ·simp only [br.gM, List.length_map]; exact f.Gq
 ·intro p hp
  obtain ⟨q, hq, rfl⟩ := List.mem_map.1 hp
  exact (f.eg q hq).ok
 ·simp only [br.gM, List.length_map]; exact f.Im
 ·intro p hp
  obtain ⟨q, hq, rfl⟩ := List.mem_map.1 hp
  exact (f.dF q hq).ok
theorem uI {c : br} (h : c.gM.dm = true) : c.CY.gM = c.gM := by
 unfold aD.dm aD.oc aD.lj aD.iB at h
 simp only [Bool.and_eq_true, decide_eq_true_eq, List.all_eq_true] at h
 obtain ⟨⟨⟨⟨⟨⟨⟨⟨⟨_, _⟩, _⟩, _⟩, h5⟩, _⟩, h6⟩, _⟩, _⟩, _⟩ := h
 have e1 : ((c.local.toNat : Nat) : Int) = c.local := Int.toNat_of_nonneg h6.1
 unfold aR.gM br.CY br.gM
 simp only [e1, List.map_map]
 congr 1
 refine List.map_congr_left fun a ha => ?_
 have := h5 _ (List.mem_map.2 ⟨a, ha, rfl⟩)
 unfold kQ at this
 simp only [Bool.and_eq_true, decide_eq_true_eq] at this
 show (_, _, ((a.2.toNat : Nat) : Int)) = (_, _, a.2)
 rw [Int.toNat_of_nonneg (by omega)]
theorem I5 {c : br} (f : c.Ok) (h : c.gM.dm = true) : V c.CY = true := by
 have e1 : iX c.name = true := fc.2 f.name.1
 have e2 : c.params.all (fun p => iX p.1) = true := List.all_eq_true.2 fun p hp => fc.2 (f.eg p hp).1
 have e3 : (c.shared.map fun a => (a.1, a.2.toNat)).all (fun p => iX p.1) = true := List.all_eq_true.2 fun p hp => by
  obtain ⟨q, hq, rfl⟩ := List.mem_map.1 hp
  exact fc.2 (f.dF q hq).1
 have e4 : c.aq.all (fun x => decide (-2147483648 ≤ x.cV ∧ x.cV ≤ 2147483647)) = true := List.all_eq_true.2 fun x hx => decide_eq_true (f.each x hx)
 unfold V
 rw [uI h, h]
 show (iX c.name && c.params.all _ && _ && c.aq.all _ && true) = true
 rw [e1, e2, e4]
 simp only [Bool.true_and, Bool.and_true]
 exact e3
theorem Fv {f : aD} {x : bI} (h : f.jO x = true) : x.kind = 8 ∨ x.kind = 10 → x.op = 0 ∨ x.op = 18 ∨ x.op = 19 ∨ x.op = 5 ∨ x.op = 6 ∨ x.op = 7 := by
 unfold aD.jO at h
 simp only [Bool.and_eq_true, decide_eq_true_eq] at h
 obtain ⟨⟨⟨⟨⟨⟨⟨_, ho⟩, _⟩, _⟩, _⟩, _⟩, _⟩, _⟩ := h
 intro e
 have : (U x.kind.toNat).BU = true := by rcases e with e | e <;> rw [e] <;> decide
 rw [if_pos this] at ho
 unfold lk rf at ho
 split at ho
 ·omega
 ·split at ho
  ·omega
  ·split at ho
   ·omega
   ·split at ho
    ·omega
    ·cases ho
theorem mj {c : aR} (h : V c = true) : As c := by
 have ht := yi h
 refine ⟨ht, fun x hx => ⟨ht.lines x hx, ?_⟩⟩
 unfold V at h
 simp only [Bool.and_eq_true] at h
 have hv := h.2
 unfold aD.dm at hv
 simp only [Bool.and_eq_true, List.all_eq_true] at hv
 exact Fv (hv.2 x hx)
theorem tf {c : aR} (h : dZ c) : oE c := ⟨h.name, h.params, h.eg, h.shared, h.dF, h.local, h.aq, fun x hx => (h.each x hx).cV⟩
theorem HH {v : aa} {n : Nat} (h : dO v = some n) : v.cells = some [v] := mM h
/-! ## Not valid -/
/-! ## Valid -/
theorem pQ (hK : KN base K) (c : aR) (hv : V c = true) (pv sv iv : aa) (h : Heap) (w : Wf h) (hB : (lies base).holds h) (hr : (gG c pv sv iv).holds h) : Sp P K 13 [iL c pv sv iv] h (iw (.bool true) h) := by
 have h1 := lA hK c.gM pv sv iv h w hB (tf (fy hv)).ok (xi hr)
 rwa [← Kl (tf (fy hv)), hv] at h1
theorem C6 (hK : KN base K) (c : aR) (hv : V c = true) (pv sv iv : aa) (h : Heap) (w : Wf h) (hB : (lies base).holds h) (hr : (gG c pv sv iv).holds h) : Sp P K 9 [iL c pv sv iv] h (Tr (fun v C' => ∃ x, v = .tuple [x, i64 0] ∧ C' = [cO x (aW c)] ∧ nd x) h) := by
 have lp := HH (aV hr.1)
 refine Sp.start (m := 79) (n := 9) w (hK.none 9 rfl rfl _ _) Tryz.func9 rfl rfl (by kernel_rfl) rfl rfl ?_
 repeat' (first | refine ax.a_ ?_ | refine ai.s_ ?_ | (refine X 0 ?_; (iterate 3 refine J Z ?_) <;> (refine Y Z ?_)) | (refine X 1 ?_; (refine J Z ?_) <;> (refine .cons (aE Z Z Z Z Er Z Z (fun h f => pQ hK c hv pv sv iv h f.wf (f.ro (.of hB)) (f.ro (.of hr))) ?_)) <;> (refine J Z ?_) <;> (refine Y Z ?_)) | (refine X 3 ?_; (refine J Z ?_) <;> ((refine .cons (fD Z Z Z Z Pf Z Z (fun h f => x8 hK c pv sv iv h f.wf (fy hv) (f.ro (.of hr))) ?_)) <;> (rintro v C' ⟨rfl, hfr⟩)) <;> (iterate 2 refine J Z ?_) <;> (refine Y Z ?_)) | refine ai.r_ ?_ | refine ai.f_ rfl ?_ | refine ai.k_ ?_ | refine ax.r_ hX rfl ?_)
 all_goals exact fun h f => ⟨_, f.aZ, _, rfl, rfl, hfr⟩
theorem G6 (hK : KN base K) (hL : KL base K) (c : aR) (hv : V c = true) (pv sv iv : aa) (h : Heap) (w : Wf h) (hB : (lies base).holds h) (hr : (gG c pv sv iv).holds h) : Sp P K 11 [iL c pv sv iv] h (iw (.tuple [aY (bM c), i64 0]) h) := by
 refine Sp.start (m := 79) (n := 9) w (hK.none 11 rfl rfl _ _) Tryz.func11 rfl rfl (by kernel_rfl) rfl rfl ?_
 repeat' (first | refine ax.a_ ?_ | refine ai.s_ ?_ | (refine X 0 ?_; (iterate 3 refine J Z ?_) <;> (refine Y Z ?_)) | (refine X 1 ?_; (refine J Z ?_) <;> (refine .cons (aE Z Z Z Z Er Z Z (fun h f => pQ hK c hv pv sv iv h f.wf (f.ro (.of hB)) (f.ro (.of hr))) ?_)) <;> (refine J Z ?_) <;> (refine Y Z ?_)) | (refine X 3 ?_; (refine J Z ?_) <;> (refine .cons (aE Z Z Z Z Pe Z Z (fun h f => yb hK hL c (mj hv) pv sv iv h f.wf (f.ro (.of hB)) (f.ro (.of hr))) ?_)) <;> (iterate 2 refine J Z ?_) <;> (refine Y Z ?_)) | refine ai.r_ ?_ | refine ai.f_ rfl ?_ | refine ai.k_ ?_ | refine ax.r_ hX rfl ?_)
 all_goals exact fun h f => ⟨rfl, f.aZ⟩
end Ev
end Go.HL
namespace Go.HL
open Go Go.Proofs
namespace Ev
open Em
set_option maxRecDepth 10000
set_option maxHeartbeats 4000000
variable {K : ah} {base : List (Nat × aG)}
theorem CX {c : br} (h : c.gM.dm = true) (pv sv iv : aa) : iL c.CY pv sv iv = cv c.gM pv sv iv := by
 have e := congrArg aD.local (uI h)
 show aa.agg [_, pv, sv, .int .i64 c.CY.gM.local, iv] = .agg [_, pv, sv, .int .i64 c.gM.local, iv]
 rw [e]; rfl
theorem Mc {c : br} (hv : c.gM.dm = true) {pv sv iv : aa} {h : Heap} (r : (n8 c.gM pv sv iv).holds h) : (gG c.CY pv sv iv).holds h := by
 rw [← uI hv] at r
 refine ⟨?_, ?_, r.2.2⟩
 ·have := r.1
  unfold aR.gM at this
  simp only [List.map_map] at this
  exact this
 ·have := r.2.1
  unfold aR.gM at this
  simp only [List.map_map] at this
  exact this
end Ev
end Go.HL
