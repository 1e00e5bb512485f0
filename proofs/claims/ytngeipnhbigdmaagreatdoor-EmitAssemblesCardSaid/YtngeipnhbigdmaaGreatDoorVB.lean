/- The walk: the reference's text; strconv.Itoa and strings.Join by the kit's contracts. No statement of the seat stands here. -/
import Derived.Test.YtngeipnhbigdmaaGreatDoorVA
import Derived.Shelf.Strings.OnBuilder
import Derived.Shelf.LaysM
import Derived.Shelf.Strconv.Itoa3
import Derived.Test.YtngeipnhbigdmaaGreatDoorProg
set_option linter.unusedVariables false
set_option linter.unusedSimpArgs false
namespace Go.HL
open Go Go.Proofs
namespace Ev
open Em
set_option maxRecDepth 10000
set_option maxHeartbeats 4000000
variable {K : ai} {base : List (Nat × aE)}
def gw (c : bg) : List Nat := [99, 111, 100, 101, 32] ++ c.name ++ [32, 108, 111, 99, 97, 108, 32] ++ aQ c.local ++ [10]
def kC (p : List Nat × Bool) : List Nat := if p.2 then [98, 117, 102, 102, 101, 114, 32] ++ p.1 ++ [10] else [105, 110, 116, 32] ++ p.1 ++ [10]
def tl (a : List Nat × Nat) : List Nat := [115, 104, 97, 114, 101, 100, 32] ++ a.1 ++ [32] ++ aQ a.2 ++ [10]
def vd (i : Nat) (x : bI) : List Nat := aQ i ++ [32] ++ qo x ++ [10]
def kE (l : List bI) (n : Nat) : List Nat := (List.range n).flatMap fun j => vd j (l.getD j b8)
def eU (c : bg) : List Nat := gw c ++ c.params.flatMap kC ++ c.shared.flatMap tl ++ kE c.ay c.ay.length
theorem sC (l : List bI) (n : Nat) : kE l (n + 1) = kE l n ++ vd n (l.getD n b8) := by
 simp [kE, List.range_succ]
theorem Ku {p : Prop} [Decidable p] {a b n : Nat} (ha : p → a ≤ n) (hb : ¬ p → b ≤ n) : (if p then a else b) ≤ n := by
 by_cases h : p
 ·rw [if_pos h]; exact ha h
 ·rw [if_neg h]; exact hb h
theorem xl {x : bI} (hx : s6 x) : (qo x).length ≤ 100 := by
 obtain ⟨dB, hu, hb, hs⟩ := hx
 have f1 := dB.d
 have f2 := dB.a
 have f3 := dB.b
 have f4 := dB.cL
 have f5 := dB.to
 have f6 := dB.join
 have l1 := ry (n := x.d) (by omega) (by omega)
 have l2 := ry (n := x.a) (by omega) (by omega)
 have l3 := ry (n := x.b) (by omega) (by omega)
 have l4 := da (n := x.cL) (by omega) (by omega)
 have l5 := da (n := x.to) (by omega) (by omega)
 have l6 := da (n := x.join) (by omega) (by omega)
 have l7 := Hq x.op
 have l8 := np (l := uT) (k := x.op.toNat) (by decide)
 have l9 := np (l := bT) (k := x.op.toNat) (by decide)
 have l10 := np (l := ov) (k := x.op.toNat) (by decide)
 simp only [qo, apply_ite List.length]
 repeat' (refine Ku (fun _ => ?_) (fun _ => ?_))
 all_goals first | (simp only [List.length_append, List.length_cons, List.length_nil]; omega) | simp
structure CW (c : bg) : Prop where
 dB : w9 c
 lines : ∀ x ∈ c.ay, s6 x
 valid : c.iw.fE = true
theorem mask12 : Nat.lor (jm Tryz.f12) (Nat.sub (Nat.pow 2 1) 1) = 9671406701032225785251071 := by kernel_rfl
theorem zE (hK : KN base K) (c : bg) (hc : CW c) (pv sv iv : ad) (h : Heap) (w : Wf h) (hc0 : r4 c) (hr : (pg c pv sv iv).holds h) :
  Sp P K 12 [xH c pv sv iv] h (dE (.tuple [aR (eU c), i64 0]) h) := by
 have hp := hr.1
 have hs := hr.2.1
 have hi := hr.2.2
 have lp := bG hp
 have ls := bG hs
 have li := bG hi
 have b1 := hc.dB.params
 have b2 := hc.dB.shared
 have b3 := hc.dB.ay
 have b4 := hc.dB.local
 have bn := hc.dB.name.1
 have bl := da (n := (c.local : Int)) (by omega) (by omega)
 refine Sp.start (m := 9671406701032225785251071) (n := 100) w (hK.none 12 rfl rfl _ _) Tryz.func12 rfl rfl mask12 rfl rfl ?_
 repeat' (first | refine aw.a_ ?_ | refine ag.s_ ?_ | (refine X 0 ?_; (iterate 3 refine J Z ?_) <;> (refine Y Z ?_)) | (refine X 1 ?_; (refine J Z ?_) <;> ((refine .cons (aV Z Z Z Z Mu Z Z (fun h f => pS hK c.iw pv sv iv h f.wf hc0.ok (f.ro (.of (HI hr)))) ?_ ?_)) <;> intro _) <;> (refine J Z ?_) <;> (refine Y Z ?_)) | (refine X 2 ?_; (iterate 2 refine J Z ?_) <;> (refine Y Z ?_)) | (refine ag.draw (id := 3) ax [0, 1, 2, 3, 4, 5, 6, 7, 8, 9] #[0, 1, 3, 7, 0, 16, 48, 127, 255, 511] (by kernel_rfl) (by kernel_rfl) (by kernel_rfl) ?_; (refine .cq hX rfl rfl rfl ?_) <;> ((refine .cons rfl (q hX rfl ?_)) <;> refine ⟨_, .fw hX.ax rfl rfl rfl rfl rfl rfl rfl rfl (suB rfl) rfl rfl rfl, ?_⟩) <;> ((refine .cons rfl (bd (a := [99, 111, 100, 101, 32]) rfl rfl rfl (by first | omega | (simp only [List.length_append, List.length_cons, List.length_nil]; omega)) rfl rfl ?_)) <;> refine ⟨_, .comp rfl, ?_⟩) <;> ((refine .cons rfl (bd (b := [32, 108, 111, 99, 97, 108, 32]) rfl rfl rfl (by first | omega | (simp only [List.length_append, List.length_cons, List.length_nil]; omega)) rfl rfl ?_)) <;> refine ⟨_, .comp rfl, ?_⟩) <;> (refine .cq hX rfl rfl rfl ?_) <;> ((refine .cons rfl (q hX rfl ?_)) <;> refine ⟨_, .fw hX.ax rfl rfl rfl rfl rfl rfl rfl rfl (suB rfl) rfl rfl rfl, ?_⟩) <;> ((refine .cons rfl (ao rfl rfl rfl rfl CO rfl rfl (fun h f => lS hK c.local (by omega) (by omega) h f.wf) ?_)) <;> refine ⟨_, .comp rfl, ?_⟩) <;> ((refine .cons rfl (bd rfl rfl rfl (by first | omega | (simp only [List.length_append, List.length_cons, List.length_nil]; omega)) rfl rfl ?_)) <;> refine ⟨_, .comp rfl, ?_⟩) <;> ((refine .cons rfl (bd (b := [10]) rfl rfl rfl (by first | omega | (simp only [List.length_append, List.length_cons, List.length_nil]; omega)) rfl rfl ?_)) <;> refine ⟨_, .comp rfl, ?_⟩) <;> (refine .cq hX rfl rfl rfl ?_) <;> (refine .nil ⟨?_, .intro rfl ?_⟩ <;> (repeat' (first | exact trivial | exact .inl rfl | exact .inr (.inl ⟨_, _, _, _, rfl, rfl, rfl⟩) | refine ⟨?_, ?_⟩)))) | (refine X 4 ?_; (refine J Z ?_) <;> (refine Y Z ?_)) | refine ag.r_ ?_ | refine aw.d_ ?_ | refine ag.t_ rfl ?_ | refine ag.f_ rfl ?_ | refine ag.k_ ?_ | refine ag.b_ ?_ | refine aw.r_ hX rfl ?_)
 rotate_left
 ·rename_i e
  exact absurd (hc.valid.symm.trans e) (by simp)
 refine ag.loop (ι := Nat × List Nat) (fun a => [(5, .ext (i64 a.1)), (4, .ext (aR a.2)), (3, .ext (i64 0)), (1, .ptr 0 0)]) (fun _ => [.own [aR c.name, pv, sv, i64 c.local, iv] 26 false]) (fun _ => []) (fun a => a.1 ≤ c.params.length ∧ a.2 = gw c ++ (c.params.take a.1).flatMap kC ∧ a.2.length ≤ 100 + 100 * a.1) (fun a => c.params.length - a.1) (0, gw c) ⟨⟨rfl, rfl, rfl, rfl, trivial⟩, ⟨_, rfl⟩, ⟨_, .nil⟩⟩ ⟨Nat.zero_le _, by simp, by simp only [gw, List.length_append, List.length_cons, List.length_nil]; omega⟩ (fun _ => rfl) (fun _ => rfl) (fun _ => rfl) ?_
 rintro ⟨i, acc⟩ ⟨hi2, hacc, hal⟩ next
 simp only at hi2 hacc hal next ⊢
 have hnm : i < c.params.length → (c.params.getD i lT).1.length ≤ 16 := fun hlt => (hc.dB.eW _ (aY _ hlt)).1
 repeat' (first | refine aw.a_ ?_ | refine ag.s_ ?_ | (refine X 5 ?_; (iterate 3 refine J Z ?_) <;> (refine .cons (ql hX Z Z Z Z Z Z (by assumption) Z Z ?_)) <;> ((refine .cons (qc Z ?_ ?_)) <;> intro _) <;> (refine Y Z ?_)) | (refine X 7 ?_; (iterate 3 refine J Z ?_) <;> (refine .cons (bh hX Z Z Z Z Z (.of hp) (aN lT (by omega)) Z Z Z ?_)) <;> (refine J Z ?_) <;> ((refine .cons (qb hX Z ?_ ?_)) <;> (intro hbl; (first | (cases hbl; done) | skip))) <;> (refine Y Z ?_)) | (refine X 8 ?_; (refine J Z ?_) <;> (refine .cons (bd (b := [98, 117, 102, 102, 101, 114, 32]) Z Z Z (by first | omega | (simp only [List.length_append, List.length_cons, List.length_nil]; omega)) Z Z ?_)) <;> (iterate 3 refine J Z ?_) <;> (refine .cons (bh hX Z Z Z Z Z (.of hp) (aN lT (by omega)) Z Z Z ?_)) <;> (iterate 2 refine J Z ?_) <;> (refine .cons (bd Z Z Z (by first | omega | (simp only [List.length_append, List.length_cons, List.length_nil]; omega)) Z Z ?_)) <;> (refine .cons (bd (b := [10]) Z Z Z (by first | omega | (simp only [List.length_append, List.length_cons, List.length_nil]; omega)) Z Z ?_)) <;> (refine J Z ?_) <;> (refine Y Z ?_)) | (refine X 9 ?_; (refine J Z ?_) <;> (refine .cons (bd (b := [105, 110, 116, 32]) Z Z Z (by first | omega | (simp only [List.length_append, List.length_cons, List.length_nil]; omega)) Z Z ?_)) <;> (iterate 3 refine J Z ?_) <;> (refine .cons (bh hX Z Z Z Z Z (.of hp) (aN lT (by omega)) Z Z Z ?_)) <;> (iterate 2 refine J Z ?_) <;> (refine .cons (bd Z Z Z (by first | omega | (simp only [List.length_append, List.length_cons, List.length_nil]; omega)) Z Z ?_)) <;> (refine .cons (bd (b := [10]) Z Z Z (by first | omega | (simp only [List.length_append, List.length_cons, List.length_nil]; omega)) Z Z ?_)) <;> (refine J Z ?_) <;> (refine Y Z ?_)) | (refine X 6 ?_; (refine J Z ?_) <;> (refine .cons (qa Z Z Z Z Z (wI (by first | omega | (simp only [Int.ofNat_eq_natCast]; omega)) (by first | omega | (simp only [Int.ofNat_eq_natCast]; omega))) Z Z ?_)) <;> (refine J Z ?_) <;> (refine Y Z ?_)) | (refine X 10 ?_; (refine J Z ?_) <;> (refine Y Z ?_)) | refine ag.t_ rfl ?_ | refine ag.f_ rfl ?_ | refine ag.k_ ?_ | refine ag.b_ ?_ | refine ag.e_ ?_ | refine aw.e_ ?_ | refine aw.c_ ?_ | refine aw.b_ ?_)
 ·refine next (i + 1, _) _ _ _ (by simp only; omega) ⟨⟨rfl, rfl, rfl, rfl, trivial⟩, ⟨_, rfl⟩, ⟨_, .nil⟩⟩ ⟨by simp only; omega, ?_, ?_⟩
  ·simp only
   rw [hacc, eQ (by omega) lT]
   simp only [kC, hbl, if_true, List.append_assoc]
  ·have := hnm (by omega)
   simp only [List.length_append, List.length_cons, List.length_nil]; omega
 ·refine next (i + 1, _) _ _ _ (by simp only; omega) ⟨⟨rfl, rfl, rfl, rfl, trivial⟩, ⟨_, rfl⟩, ⟨_, .nil⟩⟩ ⟨by simp only; omega, ?_, ?_⟩
  ·simp only
   rw [hacc, eQ (by omega) lT]
   simp only [kC, hbl, List.append_assoc]; rfl
  ·have := hnm (by omega)
   simp only [List.length_append, List.length_cons, List.length_nil]; omega
 clear next
 have hi3 : i = c.params.length := by omega
 subst hi3
 rw [List.take_length] at hacc
 have h17 : acc.length ≤ 700 := by omega
 refine ag.loop (ι := Nat × List Nat) (fun a => [(6, .ext (i64 a.1)), (4, .ext (aR a.2)), (3, .ext (i64 0)), (1, .ptr 0 0)]) (fun _ => [.own [aR c.name, pv, sv, i64 c.local, iv] 26 false]) (fun _ => []) (fun a => a.1 ≤ c.shared.length ∧ a.2 = acc ++ (c.shared.take a.1).flatMap tl ∧ a.2.length ≤ 700 + 100 * a.1) (fun a => c.shared.length - a.1) (0, acc) ⟨⟨rfl, rfl, rfl, rfl, trivial⟩, ⟨_, rfl⟩, ⟨_, .nil⟩⟩ ⟨Nat.zero_le _, by simp, by simp only; omega⟩ (fun _ => rfl) (fun _ => rfl) (fun _ => rfl) ?_
 rintro ⟨i, acc2⟩ ⟨hi2, hacc2, hal2⟩ next
 simp only at hi2 hacc2 hal2 next ⊢
 have hnm : i < c.shared.length → (c.shared.getD i lU).1.length ≤ 16 ∧ (c.shared.getD i lU).2 ≤ 64 := fun hlt => ⟨(hc.dB.dX _ (aY _ hlt)).1.1, (hc.dB.dX _ (aY _ hlt)).2⟩
 have hnl : i < c.shared.length → (aQ ((c.shared.getD i lU).2 : Int)).length ≤ 11 := fun hlt => da (by have := (hnm hlt).2; omega) (by have := (hnm hlt).2; omega)
 repeat' (first | refine aw.a_ ?_ | refine ag.s_ ?_ | (refine X 11 ?_; (iterate 3 refine J Z ?_) <;> (refine .cons (ql hX Z Z Z Z Z Z (by assumption) Z Z ?_)) <;> ((refine .cons (qc Z ?_ ?_)) <;> intro _) <;> (refine Y Z ?_)) | (refine ag.draw (id := 13) ax [0, 1, 2, 3, 4, 5, 6, 7, 8, 9, 10, 11, 12, 13, 14, 15, 16, 17, 18, 19] #[0, 1, 0, 4, 0, 28, 60, 124, 255, 511, 0, 1024, 0, 7168, 15360, 31744, 64512, 131071, 262143, 524287] (by kernel_rfl) (by kernel_rfl) (by kernel_rfl) ?_; (refine .cq hX rfl rfl rfl ?_) <;> ((refine .cons rfl (bd (b := [115, 104, 97, 114, 101, 100, 32]) rfl rfl rfl (by first | omega | (simp only [List.length_append, List.length_cons, List.length_nil]; omega)) rfl rfl ?_)) <;> refine ⟨_, .comp rfl, ?_⟩) <;> (refine .cq hX rfl rfl rfl ?_) <;> ((refine .cons rfl (q hX rfl ?_)) <;> refine ⟨_, .fw hX.ax rfl rfl rfl rfl rfl rfl rfl rfl (beL (by assumption)) rfl rfl rfl, ?_⟩) <;> (refine .cq hX rfl rfl rfl ?_) <;> ((refine .cons rfl (bh hX rfl rfl rfl rfl rfl (.of hs) (aN lU (by omega)) rfl rfl rfl ?_)) <;> refine ⟨_, .comp rfl, ?_⟩) <;> (refine .cq hX rfl rfl rfl ?_) <;> ((refine .cons rfl (q hX rfl ?_)) <;> refine ⟨_, .iI hX.ax rfl rfl rfl rfl rfl rfl rfl rfl (suB rfl) rfl rfl rfl, ?_⟩) <;> ((refine .cons rfl (bd rfl rfl rfl (by first | omega | (simp only [List.length_append, List.length_cons, List.length_nil]; omega)) rfl rfl ?_)) <;> refine ⟨_, .comp rfl, ?_⟩) <;> ((refine .cons rfl (bd (b := [32]) rfl rfl rfl (by first | omega | (simp only [List.length_append, List.length_cons, List.length_nil]; omega)) rfl rfl ?_)) <;> refine ⟨_, .comp rfl, ?_⟩) <;> (refine .cq hX rfl rfl rfl ?_) <;> ((refine .cons rfl (q hX rfl ?_)) <;> refine ⟨_, .fw hX.ax rfl rfl rfl rfl rfl rfl rfl rfl (beL (by assumption)) rfl rfl rfl, ?_⟩) <;> (refine .cq hX rfl rfl rfl ?_) <;> ((refine .cons rfl (bh hX rfl rfl rfl rfl rfl (.of hs) (aN lU (by omega)) rfl rfl rfl ?_)) <;> refine ⟨_, .comp rfl, ?_⟩) <;> (refine .cq hX rfl rfl rfl ?_) <;> ((refine .cons rfl (q hX rfl ?_)) <;> refine ⟨_, .iI hX.ax rfl rfl rfl rfl rfl rfl rfl rfl (suB rfl) rfl rfl rfl, ?_⟩) <;> ((refine .cons rfl (ao rfl rfl rfl rfl CO rfl rfl (fun h f => lS hK (c.shared.getD i lU).2 (by omega) (by omega) h f.wf) ?_)) <;> refine ⟨_, .comp rfl, ?_⟩) <;> ((refine .cons rfl (bd rfl rfl rfl (by first | omega | (simp only [List.length_append, List.length_cons, List.length_nil]; omega)) rfl rfl ?_)) <;> refine ⟨_, .comp rfl, ?_⟩) <;> ((refine .cons rfl (bd (b := [10]) rfl rfl rfl (by first | omega | (simp only [List.length_append, List.length_cons, List.length_nil]; omega)) rfl rfl ?_)) <;> refine ⟨_, .comp rfl, ?_⟩) <;> (refine .cq hX rfl rfl rfl ?_) <;> (refine .nil ⟨?_, .intro rfl ?_⟩ <;> (repeat' (first | exact trivial | exact .inl rfl | exact .inr (.inl ⟨_, _, _, _, rfl, rfl, rfl⟩) | refine ⟨?_, ?_⟩)))) | (refine X 12 ?_; (refine J Z ?_) <;> (refine .cons (qa Z Z Z Z Z (wI (by first | omega | (simp only [Int.ofNat_eq_natCast]; omega)) (by first | omega | (simp only [Int.ofNat_eq_natCast]; omega))) Z Z ?_)) <;> (refine J Z ?_) <;> (refine Y Z ?_)) | (refine X 14 ?_; (refine J Z ?_) <;> (refine Y Z ?_)) | refine ag.t_ rfl ?_ | refine ag.f_ rfl ?_ | refine ag.k_ ?_ | refine ag.b_ ?_ | refine ag.e_ ?_ | refine aw.e_ ?_ | refine aw.c_ ?_ | refine aw.b_ ?_)
 ·refine next (i + 1, _) _ _ _ (by simp only; omega) ⟨⟨rfl, rfl, rfl, rfl, trivial⟩, ⟨_, rfl⟩, ⟨_, .nil⟩⟩ ⟨by simp only; omega, ?_, ?_⟩
  ·simp only
   rw [hacc2, eQ (by omega) lU]
   simp only [tl, List.append_assoc]
  ·have := hnm (by omega)
   have := hnl (by omega)
   simp only [List.length_append, List.length_cons, List.length_nil]; omega
 clear next
 have hi3 : i = c.shared.length := by omega
 subst hi3
 rw [List.take_length] at hacc2
 have h18 : acc2.length ≤ 1100 := by omega
 refine ag.loop (ι := Nat × List Nat) (fun a => [(7, .ext (i64 a.1)), (4, .ext (aR a.2)), (3, .ext (i64 0)), (1, .ptr 0 0)]) (fun _ => [.own [aR c.name, pv, sv, i64 c.local, iv] 26 false]) (fun _ => []) (fun a => a.1 ≤ c.ay.length ∧ a.2 = acc2 ++ kE c.ay a.1 ∧ a.2.length ≤ 1100 + 200 * a.1) (fun a => c.ay.length - a.1) (0, acc2) ⟨⟨rfl, rfl, rfl, rfl, trivial⟩, ⟨_, rfl⟩, ⟨_, .nil⟩⟩ ⟨Nat.zero_le _, by simp [kE], by simp only; omega⟩ (fun _ => rfl) (fun _ => rfl) (fun _ => rfl) ?_
 rintro ⟨i, acc3⟩ ⟨hi2, hacc3, hal3⟩ next
 simp only at hi2 hacc3 hal3 next ⊢
 have hx : i < c.ay.length → s6 (c.ay.getD i b8) := fun hlt => hc.lines _ (aY _ hlt)
 have hxl : i < c.ay.length → (qo (c.ay.getD i b8)).length ≤ 100 := fun hlt => xl (hx hlt)
 have hil : (aQ (i : Int)).length ≤ 11 := da (by omega) (by omega)
 repeat' (first | refine aw.a_ ?_ | refine ag.s_ ?_ | (refine X 15 ?_; (iterate 3 refine J Z ?_) <;> (refine .cons (ql hX Z Z Z Z Z Z (by assumption) Z Z ?_)) <;> ((refine .cons (qc Z ?_ ?_)) <;> intro _) <;> (refine Y Z ?_)) | (refine ag.draw (id := 17) ax [0, 1, 5, 6, 7, 8, 9, 2, 3, 10, 4, 11, 12, 13] #[0, 0, 2, 7, 15, 0, 32, 0, 224, 480, 998, 2047, 4095, 8191] (by kernel_rfl) (by kernel_rfl) (by kernel_rfl) ?_; (iterate 3 refine .cq hX rfl rfl rfl ?_) <;> ((refine .cons rfl (q hX rfl ?_)) <;> refine ⟨_, .fw hX.ax rfl rfl rfl rfl rfl rfl rfl rfl (beL (by assumption)) rfl rfl rfl, ?_⟩) <;> (refine .cq hX rfl rfl rfl ?_) <;> ((refine .cons rfl (bh hX rfl rfl rfl rfl rfl (.of hi) (aN b8 (by omega)) rfl rfl rfl ?_)) <;> refine ⟨_, .comp rfl, ?_⟩) <;> ((refine .cons rfl (q hX rfl ?_)) <;> refine ⟨_, .Jy hX.ax rfl rfl rfl rfl rfl rfl rfl rfl (beA rfl) rfl rfl rfl, ?_⟩) <;> ((refine .cons rfl (ao rfl rfl rfl rfl CO rfl rfl (fun h f => lS hK i (by omega) (by omega) h f.wf) ?_)) <;> refine ⟨_, .comp rfl, ?_⟩) <;> ((refine .cons rfl (bd rfl rfl rfl (by first | omega | (simp only [List.length_append, List.length_cons, List.length_nil]; omega)) rfl rfl ?_)) <;> refine ⟨_, .comp rfl, ?_⟩) <;> ((refine .cons rfl (ao rfl rfl rfl rfl NT rfl rfl (fun h f => GX hK (c.ay.getD i b8) (hx (by omega)) h f.wf) ?_)) <;> refine ⟨_, .comp rfl, ?_⟩) <;> ((refine .cons rfl (bd (b := [32]) rfl rfl rfl (by first | omega | (simp only [List.length_append, List.length_cons, List.length_nil]; omega)) rfl rfl ?_)) <;> refine ⟨_, .comp rfl, ?_⟩) <;> ((refine .cons rfl (bd rfl rfl rfl (by first | omega | (simp only [List.length_append, List.length_cons, List.length_nil]; omega)) rfl rfl ?_)) <;> refine ⟨_, .comp rfl, ?_⟩) <;> ((refine .cons rfl (bd (b := [10]) rfl rfl rfl (by first | omega | (simp only [List.length_append, List.length_cons, List.length_nil]; omega)) rfl rfl ?_)) <;> refine ⟨_, .comp rfl, ?_⟩) <;> (refine .cq hX rfl rfl rfl ?_) <;> (refine .nil ⟨?_, .intro rfl ?_⟩ <;> (repeat' (first | exact trivial | exact .inl rfl | exact .inr (.inl ⟨_, _, _, _, rfl, rfl, rfl⟩) | refine ⟨?_, ?_⟩)))) | (refine X 16 ?_; (refine J Z ?_) <;> (refine .cons (qa Z Z Z Z Z (wI (by first | omega | (simp only [Int.ofNat_eq_natCast]; omega)) (by first | omega | (simp only [Int.ofNat_eq_natCast]; omega))) Z Z ?_)) <;> (refine J Z ?_) <;> (refine Y Z ?_)) | (refine X 18 ?_; (iterate 3 refine J Z ?_) <;> (refine Y Z ?_)) | refine ag.r_ ?_ | refine ag.t_ rfl ?_ | refine ag.f_ rfl ?_ | refine ag.k_ ?_ | refine ag.b_ ?_ | refine ag.e_ ?_ | refine aw.e_ ?_ | refine aw.c_ ?_ | refine aw.b_ ?_ | refine aw.r_ hX rfl ?_)
 ·refine next (i + 1, _) _ _ _ (by simp only; omega) ⟨⟨rfl, rfl, rfl, rfl, trivial⟩, ⟨_, rfl⟩, ⟨_, .nil⟩⟩ ⟨by simp only; omega, ?_, ?_⟩
  ·simp only
   rw [hacc3, sC]
   simp only [vd, List.append_assoc]
  ·have := hxl (by omega)
   simp only [List.length_append, List.length_cons, List.length_nil]; omega
 ·have hi3 : i = c.ay.length := by omega
  subst hi3
  exact fun h f => ⟨by rw [hacc3, hacc2, hacc]; rfl, f.aS⟩
end Ev
end Go.HL
namespace Go.HL
open Go
namespace Ev
open Em
theorem EZ {f : az} {x : bI} (h : f.ju x = true) (hf : nG x) : s6 x := by
 unfold az.ju at h
 simp only [Bool.and_eq_true, decide_eq_true_eq] at h
 obtain ⟨⟨⟨⟨⟨⟨⟨_, ho⟩, _⟩, _⟩, _⟩, _⟩, _⟩, _⟩ := h
 refine ⟨hf, fun e => ?_, fun e => ?_, fun e => ?_⟩
 ·rw [e, if_neg (by decide)] at ho
  exact eA ho (by decide)
 ·rw [e, if_neg (by decide)] at ho
  exact eA ho (by decide)
 ·rw [e, if_neg (by decide)] at ho
  exact eA ho (by decide)
theorem E4 {c : bg} (h : V c = true) : CW c := by
 have hf := w5 h
 refine ⟨hf, fun x hx => ?_, ?_⟩
 ·have h2 := h
  unfold V at h2
  simp only [Bool.and_eq_true] at h2
  have hv := h2.2
  unfold az.cF at hv
  simp only [Bool.and_eq_true, List.all_eq_true] at hv
  exact EZ (hv.2 x hx) (hf.each x hx)
 ·rw [← sc]
  unfold V at h
  simp only [Bool.and_eq_true] at h
  exact h.2
end Ev
end Go.HL
namespace Go.Proofs
open Go.Shelf
def Tryz.lays156_ren : Go.Shelf.Ren := ⟨fun | 156 => 137 | 165 => 238 | 166 => 68 | 169 => 72 | 240 => 136 | 241 => 326 | 276 => 237 | 277 => 367 | n => n, fun | 31 => 100 | 9 => 9 | 3 => 3 | 4 => 4 | 0 => 0 | 20 => 20 | 72 => 142 | 76 => 145 | 70 => 139 | 37 => 140 | 75 => 144 | 127 => 228 | 164 => 339 | 5 => 5 | 80 => 96 | n => n, fun | n => n⟩
theorem Tryz.lays156 : Go.Proofs.Lays.n156 Tryz.prog Tryz.lays156_ren := {
 mixed := by kernel_rfl
 f156 := Tryz.func137.trans (congrArg some (by kernel_rfl))
 f165 := Tryz.func238.trans (congrArg some (by kernel_rfl))
 f166 := Tryz.func68.trans (congrArg some (by kernel_rfl))
 f169 := Tryz.func72.trans (congrArg some (by kernel_rfl))
 f240 := Tryz.func136.trans (congrArg some (by kernel_rfl))
 f241 := Tryz.func326.trans (congrArg some (by kernel_rfl))
 f276 := Tryz.func237.trans (congrArg some (by kernel_rfl))
 f277 := Tryz.func367.trans (congrArg some (by kernel_rfl))
 t0 := Tryz.underlying0
 a0 := Tryz.isAgg0
 z0 := Tryz.sizeOf0
 v0 := Tryz.zeroValue0
 t3 := Tryz.underlying3
 a3 := Tryz.isAgg3
 z3 := Tryz.sizeOf3
 v3 := Tryz.zeroValue3
 t4 := Tryz.underlying4
 a4 := Tryz.isAgg4
 z4 := Tryz.sizeOf4
 v4 := Tryz.zeroValue4
 t9 := Tryz.underlying9
 a9 := Tryz.isAgg9
 z9 := Tryz.sizeOf9
 v9 := Tryz.zeroValue9
 t20 := Tryz.underlying20
 a20 := Tryz.isAgg20
 z20 := Tryz.sizeOf20
 v20 := Tryz.zeroValue20
 t31 := Tryz.underlying100
 a31 := Tryz.isAgg100
 z31 := Tryz.sizeOf100
 v31 := Tryz.zeroValue100
 t37 := Tryz.underlying140
 a37 := Tryz.isAgg140
 z37 := Tryz.sizeOf140
 v37 := Tryz.zeroValue140
 t70 := Tryz.underlying139
 a70 := Tryz.isAgg139
 z70 := Tryz.sizeOf139
 v70 := Tryz.zeroValue139
 t72 := Tryz.underlying142
 a72 := Tryz.isAgg142
 z72 := Tryz.sizeOf142
 v72 := Tryz.zeroValue142
 t75 := Tryz.underlying144
 a75 := Tryz.isAgg144
 z75 := Tryz.sizeOf144
 v75 := Tryz.zeroValue144
 t76 := Tryz.underlying145
 a76 := Tryz.isAgg145
 z76 := Tryz.sizeOf145
 v76 := Tryz.zeroValue145
 t127 := Tryz.underlying228
 a127 := Tryz.isAgg228
 z127 := Tryz.sizeOf228
 v127 := Tryz.zeroValue228
 t164 := Tryz.underlying339
 a164 := Tryz.isAgg339
 z164 := Tryz.sizeOf339
 v164 := Tryz.zeroValue339 }
theorem Tryz.Builder_Extra_156 : Builder.Extra Tryz.prog Tryz.lays156_ren := {
 sizeBuilder := by kernel_rfl
 liesBuilder := by kernel_rfl
 t5 := Tryz.underlying5
 a5 := Tryz.isAgg5
 z5 := Tryz.sizeOf5
 v5 := Tryz.zeroValue5
 infoByte := by kernel_rfl
 cellsByte := by kernel_rfl
 sizeByte := by kernel_rfl
 neB5 := by decide }
open Go.RowKit in
open Go.RowKit in
theorem Tryz.strings_Join (bk o c : Nat) (xs : List ByteArray) (sep : ByteArray) (w : World) (hcells : ∀ (j : Nat) x, xs[j]? = some x → w.cell? ⟨bk, o + j, none⟩ = some (.string x)) (hbk : bk < w.heap.size) (hN : xs.length ≤ 140737488355328) (hcap : xs.length ≤ c) (hlen : (Lib.join (xs.map (·.data.toList)) sep.data.toList).length ≤ 140737488355328) :
  Calls Tryz.prog 137 #[.slice (some ⟨bk, o, none⟩) xs.length c, .string sep] w fun e w' => e = .returned (.string ⟨(Lib.join (xs.map (·.data.toList)) sep.data.toList).toArray⟩) ∧ Below w.heap.size w w' := Any.strings_Join Tryz.lays156 Tryz.Builder_Extra_156 bk o c xs sep w hcells hbk hN hcap hlen
def Tryz.laysM171_ren : Go.Shelf.Ren := ⟨fun | 171 => 70 | 243 => 138 | 246 => 239 | 283 => 327 | 284 => 328 | 285 => 329 | 286 => 330 | 129 => 369 | 317 => 368 | 318 => 370 | 319 => 371 | 320 => 372 | 337 => 402 | 338 => 403 | n => n, fun | 3 => 3 | 9 => 9 | 2 => 2 | 4 => 4 | 171 => 396 | 0 => 0 | 53 => 196 | 37 => 140 | 5 => 5 | 173 => 399 | 212 => 449 | 51 => 42 | 20 => 20 | 213 => 450 | 46 => 225 | 232 => 508 | 233 => 509 | n => n, fun | 17 => 4 | 18 => 8 | 19 => 9 | n => n⟩
theorem Tryz.laysM171 : Go.Proofs.LaysM.n171 Tryz.prog Tryz.laysM171_ren := {
 mixed := by kernel_rfl
 f129 := Tryz.func369.trans (congrArg some (by kernel_rfl))
 f171 := Tryz.func70.trans (congrArg some (by kernel_rfl))
 f243 := Tryz.func138.trans (congrArg some (by kernel_rfl))
 f246 := Tryz.func239.trans (congrArg some (by kernel_rfl))
 f283 := Tryz.func327.trans (congrArg some (by kernel_rfl))
 f284 := Tryz.func328.trans (congrArg some (by kernel_rfl))
 f285 := Tryz.func329.trans (congrArg some (by kernel_rfl))
 f286 := Tryz.func330.trans (congrArg some (by kernel_rfl))
 f317 := Tryz.func368.trans (congrArg some (by kernel_rfl))
 f318 := Tryz.func370.trans (congrArg some (by kernel_rfl))
 f319 := Tryz.func371.trans (congrArg some (by kernel_rfl))
 f320 := Tryz.func372.trans (congrArg some (by kernel_rfl))
 f337 := Tryz.func402.trans (congrArg some (by kernel_rfl))
 f338 := Tryz.func403.trans (congrArg some (by kernel_rfl))
 t0 := Tryz.underlying0
 a0 := Tryz.isAgg0
 z0 := Tryz.sizeOf0
 v0 := Tryz.zeroValue0
 t2 := Tryz.underlying2
 a2 := Tryz.isAgg2
 z2 := Tryz.sizeOf2
 v2 := Tryz.zeroValue2
 t3 := Tryz.underlying3
 a3 := Tryz.isAgg3
 z3 := Tryz.sizeOf3
 v3 := Tryz.zeroValue3
 t4 := Tryz.underlying4
 a4 := Tryz.isAgg4
 z4 := Tryz.sizeOf4
 v4 := Tryz.zeroValue4
 t5 := Tryz.underlying5
 a5 := Tryz.isAgg5
 z5 := Tryz.sizeOf5
 v5 := Tryz.zeroValue5
 t9 := Tryz.underlying9
 a9 := Tryz.isAgg9
 z9 := Tryz.sizeOf9
 v9 := Tryz.zeroValue9
 t20 := Tryz.underlying20
 a20 := Tryz.isAgg20
 z20 := Tryz.sizeOf20
 v20 := Tryz.zeroValue20
 t37 := Tryz.underlying140
 a37 := Tryz.isAgg140
 z37 := Tryz.sizeOf140
 v37 := Tryz.zeroValue140
 t46 := Tryz.underlying225
 a46 := Tryz.isAgg225
 z46 := Tryz.sizeOf225
 v46 := Tryz.zeroValue225
 t51 := Tryz.underlying42
 a51 := Tryz.isAgg42
 z51 := Tryz.sizeOf42
 v51 := Tryz.zeroValue42
 t53 := Tryz.underlying196
 a53 := Tryz.isAgg196
 z53 := Tryz.sizeOf196
 v53 := Tryz.zeroValue196
 t171 := Tryz.underlying396
 a171 := Tryz.isAgg396
 z171 := Tryz.sizeOf396
 v171 := Tryz.zeroValue396
 t173 := Tryz.underlying399
 a173 := Tryz.isAgg399
 z173 := Tryz.sizeOf399
 v173 := Tryz.zeroValue399
 t212 := Tryz.underlying449
 a212 := Tryz.isAgg449
 z212 := Tryz.sizeOf449
 v212 := Tryz.zeroValue449
 t213 := Tryz.underlying450
 a213 := Tryz.isAgg450
 z213 := Tryz.sizeOf450
 t232 := Tryz.underlying508
 a232 := Tryz.isAgg508
 z232 := Tryz.sizeOf508
 v232 := Tryz.zeroValue508
 t233 := Tryz.underlying509
 a233 := Tryz.isAgg509
 z233 := Tryz.sizeOf509
 v233 := Tryz.zeroValue509
 g17 := by kernel_rfl
 g18 := by kernel_rfl
 g19 := by kernel_rfl
 i0 := by kernel_rfl
 i2 := by kernel_rfl
 i3 := by kernel_rfl
 i4 := by kernel_rfl
 i5 := by kernel_rfl
 i9 := by kernel_rfl
 i20 := by kernel_rfl
 i37 := by kernel_rfl
 i46 := by kernel_rfl
 i51 := by kernel_rfl
 i53 := by kernel_rfl
 i171 := by kernel_rfl
 i173 := by kernel_rfl
 i212 := by kernel_rfl
 i232 := by kernel_rfl
 i233 := by kernel_rfl
 m17 := by kernel_rfl
 m18 := by kernel_rfl
 m19 := by kernel_rfl }
open Go.RowKit Go.Sort Go.Lib in
theorem Tryz.strconv_Itoa (n : Int) (h0 : -9223372036854775808 ≤ n) (h1 : n ≤ 9223372036854775807) (w : World) (htab : Lib.TabIs Tryz.prog w "internal/strconv.uint64pow10" .u64 Lib.pow10Tab) :
  Calls Tryz.prog 70 #[.int .i64 n] w fun e w' => e = .returned (.string ⟨(Lib.itoa n).toArray⟩) ∧ ∃ k os, w' = grow (w.drewN k) os := Any.strconv_Itoa Tryz.laysM171 n h0 h1 w htab
end Go.Proofs
namespace Go.HL
open Go Go.Proofs
noncomputable section
namespace Ev
open Em
/-! ## Strings -/
theorem vJ : ∀ (l : List Nat) (a : Nat), (∀ x ∈ l, x < 256) → (l.map UInt8.ofNat).foldl (fun a b => Nat.add (Nat.mul a 256) b.toNat) a = aO l a
 | [], a, _ => rfl
 | x :: l, a, h => by
  have hx : (UInt8.ofNat x).toNat = x := by
   rw [UInt8.toNat_ofNat']; exact Nat.mod_eq_of_lt (h x (by simp))
  show (l.map UInt8.ofNat).foldl _ (Nat.add (Nat.mul a 256) (UInt8.ofNat x).toNat) = aO l (a * 256 + x)
  rw [hx, vJ l _ fun y hy => h y (by simp [hy])]; rfl
def gB (l : List Nat) : ByteArray := ⟨(l.map UInt8.ofNat).toArray⟩
theorem jb (l : List Nat) : (gB l).size = l.length := by simp [gB, ByteArray.size]
theorem tT (l : List Nat) : (gB l).data.toList = l.map UInt8.ofNat := rfl
theorem tU {l : List Nat} (h : ∀ x ∈ l, x < 256) : codeOf (gB l).data.toList = aO l 0 := vJ l 0 h
theorem ofNat_toNat {l : List Nat} (h : ∀ x ∈ l, x < 256) : (l.map UInt8.ofNat).map UInt8.toNat = l := by
 rw [List.map_map]
 conv => rhs; rw [← List.map_id l]
 refine List.map_congr_left fun x hx => ?_
 show (UInt8.ofNat x).toNat = x
 rw [UInt8.toNat_ofNat']; exact Nat.mod_eq_of_lt (h x hx)
theorem od {l : List Nat} (h : ∀ x ∈ l, x < 256) : yN l.length (aO l 0) 0 l.length = l := by
 have := qE (gB l)
 rw [jb, tU h, tT, ofNat_toNat h] at this
 exact this
theorem kR {l m : List Nat} (hl : ∀ x ∈ l, x < 256) (hm : ∀ x ∈ m, x < 256) (h : aR l = aR m) : l = m := by
 injection h with h1 h2
 rw [← od hl, h1, h2, od hm]
theorem pL {σ : aj} {l : List Nat} (hl : ∀ x ∈ l, x < 256) {v : Value} (h : aC σ (aR l) v) : v = .string (gB l) := by
 obtain ⟨s, rfl, h1, h2⟩ := h
 have e1 := qE s
 rw [h1, h2, od hl] at e1
 have e2 : s.data.toList = (gB l).data.toList := by
  rw [tT, e1, List.map_map]
  conv => lhs; rw [← List.map_id s.data.toList]
  refine List.map_congr_left fun x _ => ?_
  show x = UInt8.ofNat x.toNat
  exact UInt8.ofNat_toNat.symm
 have e3 : s.data = (gB l).data := Array.toList_inj.1 e2
 congr 1
 cases s
 cases h4 : gB l
 rw [h4] at e3
 simp only at e3
 rw [e3]
theorem xW {σ : aj} {l : List Nat} (hl : ∀ x ∈ l, x < 256) : aC σ (aR l) (.string (gB l)) := ⟨_, rfl, jb l, tU hl⟩
/-! ## The memory below stays -/
theorem hO {P : Program} {σ : aj} {h : Heap} {w w' : World} (hr : Rel P σ h w) (b : RowKit.Below w.heap.size w w') : Step P σ h w σ h w' :=
 ⟨σ.le_refl, ⟨fun k o p hk' hl hp => by rw [b.block p.bM (hr.o5 k p hp)]; exact hr.obj k o p hk' hl hp, hr.fresh, hr.vy, fun k p hp => Nat.lt_of_lt_of_le (hr.o5 k p hp) b.size, hr.inj, hr.oz⟩,
  ⟨b.os, b.tape, b.output, b.size, fun i hi _ => b.block i hi⟩, fun _ _ e => e, Nat.le_refl _, fun _ _ => rfl, fun _ _ _ => rfl⟩
theorem CS (w : World) (q : Nat) (os : Array Obj) : RowKit.Below w.heap.size w (Sort.grow (w.drewN q) os) :=
 ⟨rfl, rfl, rfl, by simp [Sort.grow], fun i hi => by
  show ((w.drewN q).heap ++ os)[i]? = _
  rw [Array.getElem?_append_left (by show i < w.heap.size; omega)]
  rfl⟩
/-! ## Itoa -/
theorem decDigits_eq (n : Nat) : (Lib.decDigits n).map UInt8.toNat = dH n := by
 induction n using Nat.strongRecOn with
 | _ n ih =>
  rw [Lib.decDigits]
  by_cases h : n < 10
  ·rw [dif_pos h, bK h]
   simp only [List.map_cons, List.map_nil, UInt8.toNat_ofNat']
   congr 1
   omega
  ·rw [dif_neg h, List.map_append, ih (n / 10) (by omega), gi h, bK (n := n % 10) (by omega)]
   simp only [List.map_cons, List.map_nil, UInt8.toNat_ofNat']
   congr 2
   omega
theorem Dq (n : Int) : (Lib.itoa n).map UInt8.toNat = aQ n := by
 unfold Lib.itoa aQ
 split
 ·rw [List.map_cons, decDigits_eq]
  congr 2
  omega
 ·exact decDigits_eq _
theorem toNat_lt (l : List UInt8) : ∀ x ∈ l.map UInt8.toNat, x < 256 := by
 intro x hx
 obtain ⟨y, _, rfl⟩ := List.mem_map.1 hx
 exact y.toNat_lt
theorem wT (l : List UInt8) : gB (l.map UInt8.toNat) = ⟨l.toArray⟩ := by
 unfold gB
 rw [List.map_map]
 congr 2
 conv => rhs; rw [← List.map_id l]
 refine List.map_congr_left fun x _ => ?_
 exact UInt8.ofNat_toNat
theorem J8 (n : Int) : ∀ x ∈ aQ n, x < 256 := by rw [← Dq]; exact toNat_lt _
def Iy : List ad := (List.range 20).map fun i => .int .u64 ((10 ^ i : Nat) : Int)
def wo : aE := .cells Iy 0 false false
theorem zm {σ : aj} {k : IntKind} : ∀ {l : List Int} {m : List Value}, aq σ (l.map fun z => .int k z) m → m = l.map fun z => .int k z
 | [], m, h => h.cw
 | z :: l, m, h => by
  obtain ⟨v, m', rfl, h1, h2⟩ := h.cons_inv
  rw [zm h2, show v = .int k z from h1]; rfl
theorem Nk : Tryz.prog.globalNamed "internal/strconv.uint64pow10" = some 4 := by kernel_rfl
theorem Ix {σ : aj} {h : Heap} {w : World} (hr : Rel P σ h w) (hg : h.get 4 = some wo) (hgs : 4 < P.globals.size) : Lib.TabIs P w "internal/strconv.uint64pow10" .u64 Lib.pow10Tab := by
 obtain ⟨p, hp, hb, h0⟩ := hr.oz 4 hgs
 obtain ⟨C, elem, fr, e1, e2, _, _, _, e3, _⟩ := hr.obj 4 wo p hg rfl hp
 obtain ⟨_, e3⟩ := e3 rfl
 rw [h0, List.drop_zero, List.take_of_length_le (by rw [Array.length_toList, e3]; exact Nat.le_refl _)] at e2
 unfold Lib.TabIs World.var?
 rw [show P.globalNamed "internal/strconv.uint64pow10" = some 4 from Nk]
 show (match w.heap[4]? with | some (.cells cs _ _) => some cs | _ => none) = _
 rw [← hb, e1]
 have e4 : C.toList = Lib.pow10Tab.map fun z => .int .u64 z := by
  refine zm (σ := σ) (k := .u64) ?_
  have : Iy = Lib.pow10Tab.map fun z => ad.int .u64 z := by
   unfold Iy Lib.pow10Tab
   rw [List.map_map]; rfl
  rw [← this]; exact e2
 show some C = some _
 rw [← e4]
/-! ## Join -/
def aK : List (List Nat) → List Nat
 | [] => []
 | x :: r => x ++ (r.map (32 :: ·)).flatten
abbrev sB (x : List Nat) : List ad := [aR x]
theorem v7 {l : List (List Nat)} (h : ∀ x ∈ l, ∀ b ∈ x, b < 256) : ∀ b ∈ aK l, b < 256 := by
 cases l with
 | nil => intro b hb; cases hb
 | cons x r =>
  intro b hb
  rcases List.mem_append.1 hb with hb | hb
  ·exact h x (by simp) b hb
  ·obtain ⟨y, hy, hby⟩ := List.mem_flatten.1 hb
   obtain ⟨z, hz, rfl⟩ := List.mem_map.1 hy
   rcases List.mem_cons.1 hby with rfl | hby
   ·decide
   ·exact h z (by simp [hz]) b hby
theorem join_eq (l : List (List Nat)) : Lib.join ((l.map gB).map (·.data.toList)) [32] = (aK l).map UInt8.ofNat := by
 cases l with
 | nil => rfl
 | cons x r =>
  rw [List.map_cons, List.map_cons, Lib.join_cons]
  unfold Lib.joinTail aK
  rw [List.map_append, List.map_flatten, List.map_map, List.map_map, List.map_map]
  rfl
def nF (args : List ad) (h : Heap) (v : ad) : Prop := ∃ s l, args = [s, .str 1 32] ∧ l ≠ [] ∧ (∀ x ∈ l, ∀ b ∈ x, b < 256) ∧ (aK l).length ≤ 1000000 ∧ l.length ≤ 1000000 ∧ (rd s 1 (l.map sB)).holds h ∧ v = aR (aK l)
theorem It {h : Heap} {s : ad} {l m : List (List Nat)} (hl : ∀ x ∈ l, ∀ b ∈ x, b < 256) (hm : ∀ x ∈ m, ∀ b ∈ x, b < 256) (a : (rd s 1 (l.map sB)).holds h) (b : (rd s 1 (m.map sB)).holds h) : l = m := by
 have a := a.slice
 have b := b.slice
 have e : l.length = m.length := by
  have h1 := a.len
  have h2 := b.len
  rw [h1] at h2
  simpa using h2
 refine List.ext_getElem e fun i h1 h2 => ?_
 obtain ⟨k, off, cap, e1, r1⟩ := a.row i (sB l[i]) (by rw [List.getElem?_map, List.getElem?_eq_getElem h1]; rfl)
 obtain ⟨k2, off2, cap2, e2, r2⟩ := b.row i (sB m[i]) (by rw [List.getElem?_map, List.getElem?_eq_getElem h2]; rfl)
 rw [e1] at e2
 injection e2 with g1 g2 g3 g4
 subst g1 g2
 have q1 := r1.load
 have q2 := r2.load
 rw [show (sB m[i]).length = (sB l[i]).length from rfl, q1] at q2
 have q2 := Option.some.inj q2
 injection q2 with q2
 exact kR (hl _ (List.getElem_mem h1)) (hm _ (List.getElem_mem h2)) q2
theorem nF.eq {args : List ad} {h : Heap} {v v' : ad} (a : nF args h v) (b : nF args h v') : v = v' := by
 obtain ⟨s, l, e, _, h1, _, _, h2, rfl⟩ := a
 obtain ⟨s', l', e', _, h1', _, _, h2', rfl⟩ := b
 subst e
 injection e' with e'
 subst e'
 rw [It h1 h1' h2 h2']
theorem Co {args : List ad} {h : Heap} {v : ad} (a : nF args h v) {σ : aj} {w : World} {vs : List Value} (hr : Rel P σ h w) (hv : aq σ args vs) : Calls P 137 ⟨vs⟩ w fun e w' => Step P σ h w σ h w' ∧ r5 σ (.ret v) e := by
 obtain ⟨s, l, rfl, hne, hb, hlen, hll, hrd, rfl⟩ := a
 obtain ⟨v1, m, rfl, g1, hv⟩ := hv.cons_inv
 obtain ⟨v2, m, rfl, g2, hv⟩ := hv.cons_inv
 have := hv.cw
 subst this
 have g2 : v2 = .string (gB [32]) := pL (l := [32]) (by simp) g2
 subst g2
 have h0 : 0 < l.length := List.length_pos_iff.2 hne
 have row := hrd.slice.row
 rw [List.length_map] at row
 obtain ⟨k, off, cap, rfl, _⟩ := row 0 (sB l[0]) (by rw [List.getElem?_map, List.getElem?_eq_getElem h0]; rfl)
 obtain ⟨p, c, hp, rfl, hc, _⟩ := g1
 have hcell : ∀ (j : Nat) (x : ByteArray), (l.map gB)[j]? = some x → w.cell? ⟨p.bM, p.base + off + j, none⟩ = some (.string x) := by
  intro j x hx
  rw [List.getElem?_map] at hx
  cases hj : l[j]? with
  | none => rw [hj] at hx; cases hx
  | some y =>
   rw [hj] at hx
   cases hx
   obtain ⟨k', off', cap', e, hrow⟩ := row j (sB y) (by rw [List.getElem?_map, hj]; rfl)
   injection e with e1 e2
   subst e1 e2
   obtain ⟨u, hu, hvu, _⟩ := o3 hr hp (hrow.nth (j := 0) rfl)
   have hy : y ∈ l := List.mem_of_getElem? hj
   rw [pL (hb y hy) hvu] at hu
   rw [← hu]
   congr 2
   show p.base + off + j = p.base + (off + j * 1 + 0)
   omega
 have hjl : (Lib.join ((l.map gB).map (·.data.toList)) (gB [32]).data.toList) = (aK l).map UInt8.ofNat := join_eq l
 have hc' := Tryz.strings_Join p.bM (p.base + off) c (l.map gB) (gB [32]) w hcell (hr.o5 k p hp) (by rw [List.length_map]; omega) (by rw [List.length_map]; exact hc) (by rw [hjl, List.length_map]; omega)
 rw [List.length_map] at hc'
 refine hc'.mono fun e w' ⟨he, hw⟩ => ⟨hO hr hw, ?_⟩
 refine ⟨_, he, ?_⟩
 have := xW (σ := σ) (v7 hb)
 rw [hjl]
 exact this
theorem Cp {n : Int} (h1 : -9223372036854775808 ≤ n) (h2 : n ≤ 9223372036854775807) {h : Heap} {σ : aj} {w : World} {vs : List Value} (hr : Rel P σ h w) (hg : h.get 4 = some wo) (hgs : 4 < P.globals.size) (hv : aq σ [.int .i64 n] vs) : Calls P 70 ⟨vs⟩ w fun e w' => Step P σ h w σ h w' ∧ r5 σ (.ret (aR (aQ n))) e := by
 obtain ⟨v1, m, rfl, g1, hv⟩ := hv.cons_inv
 have := hv.cw
 subst this
 have g1 : v1 = .int .i64 n := g1
 subst g1
 refine (Tryz.strconv_Itoa n h1 h2 w (Ix hr hg hgs)).mono fun e w' ⟨he, k, os, hw⟩ => ⟨hO hr (by rw [hw]; exact CS w k os), ?_⟩
 refine ⟨_, he, ?_⟩
 rw [← Dq, ← wT]
 exact xW (toNat_lt _)
structure KL (base : List (Nat × aE)) (K : ai) : Prop where
 itoa : ∀ h n, (lies base).holds h → -4294967296 < n → n < 4294967296 → K 70 [.int .i64 n] h = some (.ret (aR (aQ n)), h)
 join : ∀ h s l, l ≠ [] → (∀ x ∈ l, ∀ b ∈ x, b < 256) → (aK l).length ≤ 1000000 → l.length ≤ 1000000 → (rd s 1 (l.map sB)).holds h → K 137 [s, .str 1 32] h = some (.ret (aR (aK l)), h)
end Ev
end
end Go.HL
