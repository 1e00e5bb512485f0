/- The walk: the program's text, the law. No statement of the seat stands here. -/
import Derived.Test.YtngeipnhbigdmaaGreatDoorVC
set_option linter.unusedVariables false
set_option linter.unusedSimpArgs false
namespace Go.HL
open Go Go.Proofs
namespace Ev
open Em
set_option maxRecDepth 10000
set_option maxHeartbeats 4000000
variable {K : CallFn} {base : List (Nat × HObj)}
def Byt (l : List Nat) : Prop := ∀ x ∈ l, x < 256
theorem Byt.app {a b : List Nat} (ha : Byt a) (hb : Byt b) : Byt (a ++ b) := fun x hx => (List.mem_append.1 hx).elim (ha x) (hb x)
theorem Byt.dec (n : Int) : Byt (decI n) := decI_lt n
theorem Byt.cons {x : Nat} {l : List Nat} (hx : x < 256) (h : Byt l) : Byt (x :: l) := fun y hy => (List.mem_cons.1 hy).elim (fun e => e ▸ hx) (h y)
theorem Byt.r (n : Int) : Byt (rT n) := .cons (by decide) (.dec n)
theorem Byt.nil : Byt [] := fun x hx => by cases hx
theorem Byt.getD {l : List (List Nat)} {k : Nat} (h : ∀ x ∈ l, ∀ b ∈ x, b < 256) : Byt (l.getD k []) := by
 by_cases hk : k < l.length
 ·exact h _ (getD_mem _ hk)
 ·rw [List.getD, List.getElem?_eq_none (by omega)]; exact .nil
theorem Byt.f (n : Int) : Byt (fT n) := by
 unfold fT
 repeat' split
 all_goals exact fun x hx => by simp at hx; omega
def AllB (l : List (List Nat)) : Prop := ∀ p ∈ l, Byt p
theorem AllB.ite {p : Prop} [Decidable p] {a b : List (List Nat)} (ha : AllB a) (hb : AllB b) : AllB (if p then a else b) := by split <;> assumption
theorem AllB.nil : AllB [] := fun p hp => by cases hp
theorem AllB.cons {p : List Nat} {l : List (List Nat)} (hp : Byt p) (hl : AllB l) : AllB (p :: l) := fun q hq => (List.mem_cons.1 hq).elim (fun e => e ▸ hp) (hl q)
def Len6 (l : List (List Nat)) : Prop := 0 < l.length ∧ l.length ≤ 6
theorem Len6.ite {p : Prop} [Decidable p] {a b : List (List Nat)} (ha : Len6 a) (hb : Len6 b) : Len6 (if p then a else b) := by split <;> assumption
theorem byt_dec {l : List Nat} (h : l.all (fun x => decide (x < 256)) = true) : Byt l := fun x hx => of_decide_eq_true (List.all_eq_true.1 h x hx)
theorem parts_byt (x : InsnD) : AllB (partsT x) := by
 have h1 := Byt.r x.d
 have h2 := Byt.r x.a
 have h3 := Byt.r x.b
 have h4 := Byt.dec x.imm
 have h5 := Byt.dec x.to
 have h6 := Byt.dec x.join
 have h7 := Byt.f x.op
 have h8 : Byt (uT.getD x.op.toNat []) := .getD (by decide)
 have h9 : Byt (bT.getD x.op.toNat []) := .getD (by decide)
 have h10 : Byt (spT.getD x.op.toNat []) := .getD (by decide)
 unfold partsT
 repeat' (first | refine AllB.ite ?_ ?_ | exact .nil | refine .cons (by first | assumption | exact byt_dec rfl) ?_)
theorem parts_pos (x : InsnD) : Len6 (partsT x) := by
 unfold partsT
 repeat' (first | refine Len6.ite ?_ ?_ | exact ⟨Nat.succ_pos _, by simp⟩)
theorem joinT_cons (a : List Nat) {l : List (List Nat)} (h : 0 < l.length) : joinT (a :: l) = a ++ [32] ++ joinT l := by
 cases l with
 | nil => simp at h
 | cons x r => simp [joinT]
structure TextOk2 (c : CodeB) : Prop where
 ok : TextOk c
 lines : ∀ x ∈ c.insns, LineOk2 x
theorem rdS {h : Heap} {k e : Nat} {lc : List HVal} {s : Bool} (l : List (List Nat)) (hl : (l.map sB).flatten = lc) (hp : (pts k lc e s).holds h) : (rd (.slice k 0 l.length (some l.length)) 1 (l.map sB)).holds h := ownS.rd ((leakS l hl).holds h hp)
abbrev hdL (c : CodeB) : List (List Nat) := [[99, 111, 100, 101], c.name, [108, 111, 99, 97, 108], decI c.local]
abbrev buL (b : List Nat) : List (List Nat) := [[98, 117, 102, 102, 101, 114], b]
abbrev inL (b : List Nat) : List (List Nat) := [[105, 110, 116], b]
abbrev shL (a : List Nat × Nat) : List (List Nat) := [[115, 104, 97, 114, 101, 100], a.1, decI a.2]
theorem Byt.flat {α : Type} {g : α → List Nat} : ∀ {l : List α}, (∀ a ∈ l, Byt (g a)) → Byt (l.flatMap g)
 | [], _ => .nil
 | a :: l, h => by
  rw [List.flatMap_cons]
  exact (h a (by simp)).app (Byt.flat fun b hb => h b (by simp [hb]))
theorem textT_byt {c : CodeB} (hc : TextOk2 c) : Byt (textT c) := by
 have f := hc.ok.fine
 refine ((Byt.app ?_ (.flat fun p hp => ?_)).app (.flat fun a ha => ?_)).app (.flat fun j _ => ?_)
 ·exact (((Byt.app (byt_dec rfl) f.name.2).app (byt_dec rfl)).app (.dec _)).app (byt_dec rfl)
 ·unfold paramT
  have := (f.pname p hp).2
  split
  ·exact ((byt_dec rfl : Byt _).app this).app (byt_dec rfl)
  ·exact ((byt_dec rfl : Byt _).app this).app (byt_dec rfl)
 ·have := (f.sname a ha).1.2
  exact ((((byt_dec rfl : Byt _).app this).app (byt_dec rfl)).app (.dec _)).app (byt_dec rfl)
 ·unfold insT
  rw [lineT_parts]
  exact (((Byt.dec _).app (byt_dec rfl)).app (joinT_lt (parts_byt _))).app (byt_dec rfl)
theorem write_run (hK : KN base K) (hL : KL base K) (c : CodeB) (hc : TextOk2 c) (pv sv iv : HVal) (h : Heap) (w : Wf h) (hB : (lies base).holds h) (hr : (codeRB c pv sv iv).holds h) :
  Sp P K 31 [codeV c pv sv iv] h (Val (strB (textT c)) h) := by
 have hp := hr.1
 have hs := hr.2.1
 have hi := hr.2.2
 have lp := rd_len hp
 have ls := rd_len hs
 have li := rd_len hi
 have b1 := hc.ok.fine.params
 have b2 := hc.ok.fine.shared
 have b3 := hc.ok.fine.insns
 have b4 := hc.ok.fine.local
 have bn := hc.ok.fine.name.1
 have bb := hc.ok.fine.name.2
 have bl := decI_len (n := (c.local : Int)) (by omega) (by omega)
 have hh : joinT (hdL c) ++ [10] = headT c := by simp [joinT, headT, hdL]
 have hhl : (headT c).length ≤ 100 := by simp only [headT, List.length_append, List.length_cons, List.length_nil]; omega
 have hhb : Byt (headT c) := by
  unfold headT
  exact ((((Byt.app (byt_dec rfl) bb).app (byt_dec rfl)).app (.dec _)).app (byt_dec rfl))
 have hjl : (joinT (hdL c)).length ≤ 1000 := by
  have := congrArg List.length hh
  simp only [List.length_append, List.length_singleton] at this
  omega
 refine Sp.start (m := 540440201696641967) (n := 72) w (hK.none 31 rfl rfl _ _) Tryz.func31 rfl rfl mask31 rfl rfl ?_
 repeat' (first
  | refine ToX.a_ ?_
  | refine WCX.s_ ?_
  | (refine WCX.g_ (id := 0) ?_; (iterate 2 refine .cons (q hX rfl ?_)) <;> (refine .nil (.intro rfl ?_)))
  | (refine WCX.g_ (id := 1) ?_; (refine .cons (q hX rfl ?_)) <;> (refine .nil (.intro rfl ?_))))
 refine WCX.leak 1 (fun k => bld k false .nils []) rfl (fun k => bld_leak k) (fun _ => rfl) rfl fun k => ?_
 repeat' (first
  | refine ToX.a_ ?_
  | refine WCX.s_ ?_
  | (refine WCX.draw (id := 2) tab [0, 1, 2, 3, 4, 5, 6, 7] #[0, 1, 0, 4, 12, 31, 63, 127] (by kernel_rfl) (by kernel_rfl) (by kernel_rfl) ?_; (refine .cq hX rfl rfl rfl ?_) <;> ((refine .cons rfl (q hX rfl ?_)) <;> refine ⟨_, .rdB hX.tab rfl rfl rfl rfl rfl rfl rfl rfl (suB rfl) rfl rfl rfl, ?_⟩) <;> (refine .cq hX rfl rfl rfl ?_) <;> ((refine .cons rfl (q hX rfl ?_)) <;> refine ⟨_, .rdB hX.tab rfl rfl rfl rfl rfl rfl rfl rfl (suB rfl) rfl rfl rfl, ?_⟩) <;> ((refine .cons rfl (qcallV rfl rfl rfl rfl ca70 rfl rfl (fun h f => itoa_run hL c.local (by omega) (by omega) h f.wf (f.ro (.of hB))) ?_)) <;> refine ⟨_, .comp rfl, ?_⟩) <;> (refine .cq hX rfl rfl rfl ?_) <;> ((refine .cons rfl (qcallVS rfl rfl rfl rfl rfl rfl ca69 rfl rfl (fun ks h f hp => lineP_run hK hL (.slice ks 0 4 (some 4)) (hdL c) hh (by simp [hdL]) (.cons (byt_dec rfl) (.cons bb (.cons (byt_dec rfl) (.cons (.dec _) .nil))) : AllB _) hjl (by simp [hdL]) h f.wf (rdS (hdL c) rfl hp)) ?_)) <;> refine ⟨_, .comp rfl, ?_⟩) <;> ((refine .cons rfl (qcallG rfl rfl rfl rfl ca68 rfl rfl (by repeat (first | exact .h | apply Pick.t)) rfl (fun h f hg ro rg => wstr_run hK k false .nils [] (headT c) (by simp [headT]) hhb (by simp only [List.length_nil]; omega) h f.wf hg) ?_)) <;> (rintro v C' ⟨k2, rfl⟩) <;> refine ⟨_, .comp rfl, ?_⟩) <;> (refine .nil ⟨?_, .intro rfl ?_⟩ <;> (repeat' (first | exact trivial | exact .inl rfl | exact .inr (.inl ⟨_, _, _, _, rfl, rfl, rfl⟩) | refine ⟨?_, ?_⟩))))
  | (refine WCX.g_ (id := 3) ?_; (iterate 2 refine .cons (q hX rfl ?_)) <;> ((refine .cons (ql hX rfl rfl rfl rfl rfl rfl (by assumption) rfl rfl ?_))) <;> (refine .cons (q hX rfl ?_)) <;> (refine .nil (.intro rfl ?_)))
  | refine WCX.b_ ?_)
 refine WCX.loop (ι := Nat × HVal × List Nat) (fun a => [(21, .ext (i64 a.1)), (20, .ext (i64 c.params.length)), (19, .ext pv), (3, .ext (.ptr k 0)), (1, .ptr 0 0)]) (fun _ => [.own [strB c.name, pv, sv, i64 c.local, iv] 26 false]) (fun a => [bld k true a.2.1 a.2.2]) (fun a => a.1 ≤ c.params.length ∧ (∃ q, a.2.1 = .slice q 0 a.2.2.length none) ∧ a.2.2 = headT c ++ (c.params.take a.1).flatMap paramT ∧ a.2.2.length ≤ 100 + 100 * a.1) (fun a => c.params.length - a.1) (0, .slice k2 0 (([] : List Nat).length + (headT c).length) none, [] ++ headT c) ⟨⟨rfl, rfl, rfl, rfl, rfl, trivial⟩, ⟨_, rfl⟩, ⟨_, .cons .h .nil⟩⟩ ⟨Nat.zero_le _, ⟨k2, by simp⟩, by simp, by simpa using hhl⟩ (fun _ => rfl) (fun _ => rfl) (fun _ => rfl) ?_
 rintro ⟨i, v1, acc⟩ ⟨hi2, ⟨q1, hv1⟩, hacc, hal⟩ next
 simp only at hi2 hv1 hacc hal next ⊢
 have hnm : i < c.params.length → (c.params.getD i noPB).1.length ≤ 16 ∧ Byt (c.params.getD i noPB).1 := fun hlt => hc.ok.fine.pname _ (getD_mem _ hlt)
 have hbu : ∀ b : List Nat, joinT (buL b) ++ [10] = [98, 117, 102, 102, 101, 114, 32] ++ b ++ [10] := fun b => by simp [joinT, buL]
 have hin : ∀ b : List Nat, joinT (inL b) ++ [10] = [105, 110, 116, 32] ++ b ++ [10] := fun b => by simp [joinT, inL]
 have hjb : ∀ b : List Nat, b.length ≤ 16 → (joinT (buL b)).length ≤ 1000 ∧ (joinT (inL b)).length ≤ 1000 := fun b hb => ⟨by simp [joinT, buL]; omega, by simp [joinT, inL]; omega⟩
 repeat' (first
  | refine ToX.a_ ?_
  | refine WCX.s_ ?_
  | (refine WCX.g_ (id := 4) ?_; ((refine .cons (qc rfl ?_ ?_)) <;> intro _) <;> (refine .nil (.intro rfl ?_)))
  | (refine WCX.g_ (id := 5) ?_; ((refine .cons (qidx hX rfl rfl rfl rfl rfl (.of hp) (row_i noPB (by omega)) rfl rfl rfl ?_))) <;> (iterate 3 refine .cons (q hX rfl ?_)) <;> (refine .nil (.intro rfl ?_)))
  | (refine WCX.g_ (id := 6) ?_; (refine .cons (q hX rfl ?_)) <;> ((refine .cons (qb hX rfl ?_ ?_)) <;> (intro hbl; (first | (cases hbl; done) | skip))) <;> (refine .nil (.intro rfl ?_)))
  | (refine WCX.g_ (id := 7) ?_; (iterate 3 refine .cons (q hX rfl ?_)) <;> ((refine .cons (qcallVS rfl rfl rfl rfl rfl rfl ca69 rfl rfl (fun ks h f hp => lineP_run hK hL (.slice ks 0 2 (some 2)) (buL (c.params.getD i noPB).1) (hbu _) (by simp [buL]) (.cons (byt_dec rfl) (.cons (hnm (by omega)).2 .nil) : AllB _) (hjb _ (hnm (by omega)).1).1 (by simp [buL]) h f.wf (rdS (buL (c.params.getD i noPB).1) rfl hp)) ?_))) <;> ((refine .cons (qcallG rfl rfl rfl rfl ca68 rfl rfl (by repeat (first | exact .h | apply Pick.t)) rfl (fun h f hg ro rg => wstr_run hK k true v1 acc ([98, 117, 102, 102, 101, 114, 32] ++ (c.params.getD i noPB).1 ++ [10]) (by simp) (((byt_dec rfl : Byt _).app (hnm (by omega)).2).app (byt_dec rfl)) (by have := (hnm (by omega)).1; simp only [List.length_append, List.length_cons, List.length_nil]; omega) h f.wf hg) ?_)) <;> (rintro v C' ⟨k3, rfl⟩)) <;> (refine .nil (.intro rfl ?_)))
  | (refine WCX.g_ (id := 8) ?_; (iterate 3 refine .cons (q hX rfl ?_)) <;> ((refine .cons (qcallVS rfl rfl rfl rfl rfl rfl ca69 rfl rfl (fun ks h f hp => lineP_run hK hL (.slice ks 0 2 (some 2)) (inL (c.params.getD i noPB).1) (hin _) (by simp [inL]) (.cons (byt_dec rfl) (.cons (hnm (by omega)).2 .nil) : AllB _) (hjb _ (hnm (by omega)).1).2 (by simp [inL]) h f.wf (rdS (inL (c.params.getD i noPB).1) rfl hp)) ?_))) <;> ((refine .cons (qcallG rfl rfl rfl rfl ca68 rfl rfl (by repeat (first | exact .h | apply Pick.t)) rfl (fun h f hg ro rg => wstr_run hK k true v1 acc ([105, 110, 116, 32] ++ (c.params.getD i noPB).1 ++ [10]) (by simp) (((byt_dec rfl : Byt _).app (hnm (by omega)).2).app (byt_dec rfl)) (by have := (hnm (by omega)).1; simp only [List.length_append, List.length_cons, List.length_nil]; omega) h f.wf hg) ?_)) <;> (rintro v C' ⟨k3, rfl⟩)) <;> (refine .nil (.intro rfl ?_)))
  | (refine WCX.g_ (id := 9) ?_; ((refine .cons (qa rfl rfl rfl rfl rfl (wI (by first | omega | (simp only [Int.ofNat_eq_natCast]; omega)) (by first | omega | (simp only [Int.ofNat_eq_natCast]; omega))) rfl rfl ?_))) <;> (refine .cons (q hX rfl ?_)) <;> (refine .nil (.intro rfl ?_)))
  | (refine WCX.g_ (id := 10) ?_; (iterate 2 refine .cons (q hX rfl ?_)) <;> ((refine .cons (ql hX rfl rfl rfl rfl rfl rfl (by assumption) rfl rfl ?_))) <;> (refine .cons (q hX rfl ?_)) <;> (refine .nil (.intro rfl ?_)))
  | refine WCX.t_ rfl ?_
  | refine WCX.f_ rfl ?_
  | refine WCX.k_ ?_
  | refine WCX.b_ ?_
  | refine WCX.e_ ?_
  | refine ToX.e_ ?_
  | refine ToX.c_ ?_
  | refine ToX.b_ ?_)
 ·refine next (i + 1, _, _) _ _ _ (by simp only; omega) ⟨⟨rfl, rfl, rfl, rfl, rfl, trivial⟩, ⟨_, rfl⟩, ⟨_, .cons .h .nil⟩⟩ ⟨by simp only; omega, ⟨k3, by simp only [List.length_append]⟩, ?_, ?_⟩
  ·simp only
   rw [hacc, flatMap_step (by omega) noPB]
   simp only [paramT, hbl, if_true, List.append_assoc]
  ·have := (hnm (by omega)).1
   simp only [List.length_append, List.length_cons, List.length_nil]; omega
 ·refine next (i + 1, _, _) _ _ _ (by simp only; omega) ⟨⟨rfl, rfl, rfl, rfl, rfl, trivial⟩, ⟨_, rfl⟩, ⟨_, .cons .h .nil⟩⟩ ⟨by simp only; omega, ⟨k3, by simp only [List.length_append]⟩, ?_, ?_⟩
  ·simp only
   rw [hacc, flatMap_step (by omega) noPB]
   simp only [paramT, hbl, List.append_assoc]; rfl
  ·have := (hnm (by omega)).1
   simp only [List.length_append, List.length_cons, List.length_nil]; omega
 clear next
 have hi3 : i = c.params.length := by omega
 subst hi3
 rw [List.take_length] at hacc
 have h17 : acc.length ≤ 700 := by omega
 refine WCX.loop (ι := Nat × HVal × List Nat) (fun a => [(41, .ext (i64 a.1)), (40, .ext (i64 c.shared.length)), (39, .ext sv), (3, .ext (.ptr k 0)), (1, .ptr 0 0)]) (fun _ => [.own [strB c.name, pv, sv, i64 c.local, iv] 26 false]) (fun a => [bld k true a.2.1 a.2.2]) (fun a => a.1 ≤ c.shared.length ∧ (∃ q, a.2.1 = .slice q 0 a.2.2.length none) ∧ a.2.2 = acc ++ (c.shared.take a.1).flatMap arrT ∧ a.2.2.length ≤ 700 + 100 * a.1) (fun a => c.shared.length - a.1) (0, v1, acc) ⟨⟨rfl, rfl, rfl, rfl, rfl, trivial⟩, ⟨_, rfl⟩, ⟨_, .cons .h .nil⟩⟩ ⟨Nat.zero_le _, ⟨q1, hv1⟩, by simp, by simp only; omega⟩ (fun _ => rfl) (fun _ => rfl) (fun _ => rfl) ?_
 rintro ⟨i, v2, acc2⟩ ⟨hi2, ⟨q2, hv2⟩, hacc2, hal2⟩ next
 simp only at hi2 hv2 hacc2 hal2 next ⊢
 have hnm : i < c.shared.length → ((c.shared.getD i noAB).1.length ≤ 16 ∧ Byt (c.shared.getD i noAB).1) ∧ (c.shared.getD i noAB).2 ≤ 64 := fun hlt => ⟨(hc.ok.fine.sname _ (getD_mem _ hlt)).1, (hc.ok.fine.sname _ (getD_mem _ hlt)).2⟩
 have hnl : i < c.shared.length → (decI ((c.shared.getD i noAB).2 : Int)).length ≤ 11 := fun hlt => decI_len (by have := (hnm hlt).2; omega) (by have := (hnm hlt).2; omega)
 have hsh : ∀ a : List Nat × Nat, joinT (shL a) ++ [10] = arrT a := fun a => by simp [joinT, shL, arrT]
 have hjs : ∀ a : List Nat × Nat, a.1.length ≤ 16 → (decI (a.2 : Int)).length ≤ 11 → (joinT (shL a)).length ≤ 1000 := fun a h1 h2 => by simp [joinT, shL]; omega
 have har : ∀ a : List Nat × Nat, (arrT a).length = 9 + a.1.length + (decI (a.2 : Int)).length := fun a => by simp only [arrT, List.length_append, List.length_cons, List.length_nil]; omega
 have harb : ∀ a : List Nat × Nat, Byt a.1 → Byt (arrT a) := fun a h1 => ((((byt_dec rfl : Byt _).app h1).app (byt_dec rfl)).app (.dec _)).app (byt_dec rfl)
 repeat' (first
  | refine ToX.a_ ?_
  | refine WCX.s_ ?_
  | (refine WCX.g_ (id := 11) ?_; ((refine .cons (qc rfl ?_ ?_)) <;> intro _) <;> (refine .nil (.intro rfl ?_)))
  | (refine WCX.g_ (id := 12) ?_; ((refine .cons (qidx hX rfl rfl rfl rfl rfl (.of hs) (row_i noAB (by omega)) rfl rfl rfl ?_))) <;> (iterate 3 refine .cons (q hX rfl ?_)) <;> (refine .nil (.intro rfl ?_)))
  | (refine WCX.draw (id := 13) tab [0, 1, 2, 3, 4, 5, 6, 7] #[0, 1, 0, 4, 12, 31, 63, 127] (by kernel_rfl) (by kernel_rfl) (by kernel_rfl) ?_; (refine .cq hX rfl rfl rfl ?_) <;> ((refine .cons rfl (q hX rfl ?_)) <;> refine ⟨_, .rdB hX.tab rfl rfl rfl rfl rfl rfl rfl rfl (suB rfl) rfl rfl rfl, ?_⟩) <;> (refine .cq hX rfl rfl rfl ?_) <;> ((refine .cons rfl (q hX rfl ?_)) <;> refine ⟨_, .rdB hX.tab rfl rfl rfl rfl rfl rfl rfl rfl (suB rfl) rfl rfl rfl, ?_⟩) <;> ((refine .cons rfl (qcallV rfl rfl rfl rfl ca70 rfl rfl (fun h f => itoa_run hL (c.shared.getD i noAB).2 (by omega) (by omega) h f.wf (f.ro (.of hB))) ?_)) <;> refine ⟨_, .comp rfl, ?_⟩) <;> (refine .cq hX rfl rfl rfl ?_) <;> ((refine .cons rfl (qcallVS rfl rfl rfl rfl rfl rfl ca69 rfl rfl (fun ks h f hp => lineP_run hK hL (.slice ks 0 3 (some 3)) (shL (c.shared.getD i noAB)) (hsh _) (by simp [shL]) (.cons (byt_dec rfl) (.cons (hnm (by omega)).1.2 (.cons (.dec _) .nil)) : AllB _) (hjs _ (hnm (by omega)).1.1 (hnl (by omega))) (by simp [shL]) h f.wf (rdS (shL (c.shared.getD i noAB)) rfl hp)) ?_)) <;> refine ⟨_, .comp rfl, ?_⟩) <;> ((refine .cons rfl (qcallG rfl rfl rfl rfl ca68 rfl rfl (by repeat (first | exact .h | apply Pick.t)) rfl (fun h f hg ro rg => wstr_run hK k true v2 acc2 (arrT (c.shared.getD i noAB)) (by rw [har]; omega) (harb _ (hnm (by omega)).1.2) (by have := (hnm (by omega)).1.1; have := hnl (by omega); rw [har]; omega) h f.wf hg) ?_)) <;> (rintro v C' ⟨k3, rfl⟩) <;> refine ⟨_, .comp rfl, ?_⟩) <;> (refine .nil ⟨?_, .intro rfl ?_⟩ <;> (repeat' (first | exact trivial | exact .inl rfl | exact .inr (.inl ⟨_, _, _, _, rfl, rfl, rfl⟩) | refine ⟨?_, ?_⟩))))
  | (refine WCX.g_ (id := 14) ?_; ((refine .cons (qa rfl rfl rfl rfl rfl (wI (by first | omega | (simp only [Int.ofNat_eq_natCast]; omega)) (by first | omega | (simp only [Int.ofNat_eq_natCast]; omega))) rfl rfl ?_))) <;> (refine .cons (q hX rfl ?_)) <;> (refine .nil (.intro rfl ?_)))
  | (refine WCX.g_ (id := 15) ?_; (iterate 2 refine .cons (q hX rfl ?_)) <;> ((refine .cons (ql hX rfl rfl rfl rfl rfl rfl (by assumption) rfl rfl ?_))) <;> (refine .cons (q hX rfl ?_)) <;> (refine .nil (.intro rfl ?_)))
  | refine WCX.t_ rfl ?_
  | refine WCX.f_ rfl ?_
  | refine WCX.k_ ?_
  | refine WCX.b_ ?_
  | refine WCX.e_ ?_
  | refine ToX.e_ ?_
  | refine ToX.c_ ?_
  | refine ToX.b_ ?_)
 ·refine next (i + 1, _, _) _ _ _ (by simp only; omega) ⟨⟨rfl, rfl, rfl, rfl, rfl, trivial⟩, ⟨_, rfl⟩, ⟨_, .cons .h .nil⟩⟩ ⟨by simp only; omega, ⟨k3, by simp only [List.length_append]⟩, ?_, ?_⟩
  ·simp only
   rw [hacc2, flatMap_step (by omega) noAB, List.append_assoc]
  ·have := (hnm (by omega)).1.1
   have := hnl (by omega)
   simp only [List.length_append, har]; omega
 clear next
 have hi3 : i = c.shared.length := by omega
 subst hi3
 rw [List.take_length] at hacc2
 have h18 : acc2.length ≤ 1100 := by omega
 refine WCX.loop (ι := Nat × HVal × List Nat) (fun a => [(57, .ext (i64 a.1)), (56, .ext (i64 c.insns.length)), (55, .ext iv), (3, .ext (.ptr k 0)), (1, .ptr 0 0)]) (fun _ => [.own [strB c.name, pv, sv, i64 c.local, iv] 26 false]) (fun a => [bld k true a.2.1 a.2.2]) (fun a => a.1 ≤ c.insns.length ∧ (∃ q, a.2.1 = .slice q 0 a.2.2.length none) ∧ a.2.2 = acc2 ++ linesT c.insns a.1 ∧ a.2.2.length ≤ 1100 + 200 * a.1) (fun a => c.insns.length - a.1) (0, v2, acc2) ⟨⟨rfl, rfl, rfl, rfl, rfl, trivial⟩, ⟨_, rfl⟩, ⟨_, .cons .h .nil⟩⟩ ⟨Nat.zero_le _, ⟨q2, hv2⟩, by simp [linesT], by simp only; omega⟩ (fun _ => rfl) (fun _ => rfl) (fun _ => rfl) ?_
 rintro ⟨i, v3, acc3⟩ ⟨hi2, ⟨q3, hv3⟩, hacc3, hal3⟩ next
 simp only at hi2 hv3 hacc3 hal3 next ⊢
 have hx : i < c.insns.length → LineOk2 (c.insns.getD i noInsn) := fun hlt => hc.lines _ (getD_mem _ hlt)
 have hxl : i < c.insns.length → (lineT (c.insns.getD i noInsn)).length ≤ 100 := fun hlt => lineT_len (hx hlt).ok
 have hil : (decI (i : Int)).length ≤ 11 := decI_len (by omega) (by omega)
 have hpp := parts_pos (c.insns.getD i noInsn)
 have hpb := parts_byt (c.insns.getD i noInsn)
 have hins : joinT (decI i :: partsT (c.insns.getD i noInsn)) ++ [10] = insT i (c.insns.getD i noInsn) := by rw [joinT_cons _ hpp.1, ← lineT_parts]; rfl
 have hinl : i < c.insns.length → (insT i (c.insns.getD i noInsn)).length ≤ 113 := fun hlt => by have := hxl hlt; simp only [insT, List.length_append, List.length_cons, List.length_nil]; omega
 have hinb : Byt (insT i (c.insns.getD i noInsn)) := by rw [← hins]; exact Byt.app (joinT_lt (AllB.cons (.dec _) hpb)) (byt_dec rfl)
 have hjl3 : i < c.insns.length → (joinT (decI i :: partsT (c.insns.getD i noInsn))).length ≤ 1000 := fun hlt => by have := hinl hlt; rw [← hins, List.length_append] at this; omega
 repeat' (first
  | refine ToX.a_ ?_
  | refine WCX.s_ ?_
  | (refine WCX.g_ (id := 16) ?_; ((refine .cons (qc rfl ?_ ?_)) <;> intro _) <;> (refine .nil (.intro rfl ?_)))
  | (refine WCX.g_ (id := 17) ?_; (refine .cons (q hX rfl ?_)) <;> ((refine .cons (qidx hX rfl rfl rfl rfl rfl (.of hi) (row_i noInsn (by omega)) rfl rfl rfl ?_))) <;> (iterate 4 refine .cons (q hX rfl ?_)) <;> (refine .nil (.intro rfl ?_)))
  | (refine WCX.draw (id := 18) tab [0, 3, 1, 2, 4, 5, 6, 7] #[0, 1, 3, 0, 11, 31, 63, 127] (by kernel_rfl) (by kernel_rfl) (by kernel_rfl) ?_; (refine .cq hX rfl rfl rfl ?_) <;> ((refine .cons rfl (q hX rfl ?_)) <;> refine ⟨_, .rdBA hX.tab rfl rfl rfl rfl rfl rfl rfl rfl (beA rfl) rfl rfl rfl, ?_⟩) <;> ((refine .cons rfl (qcallV rfl rfl rfl rfl ca70 rfl rfl (fun h f => itoa_run hL i (by omega) (by omega) h f.wf (f.ro (.of hB))) ?_)) <;> refine ⟨_, .comp rfl, ?_⟩) <;> (refine .cq hX rfl rfl rfl ?_) <;> ((refine .cons rfl (qcall rfl rfl rfl rfl ca71 rfl rfl (fun h f => parts_run hK hL (c.insns.getD i noInsn) (hx (by omega)) h f.wf (f.ro (.of hB))) ?_)) <;> (rintro v C' ⟨kp, rfl, rfl⟩) <;> refine ⟨_, .comp rfl, ?_⟩) <;> ((refine .cons rfl (qappSL (rows := [sB (decI i)]) hX rfl rfl rfl rfl rfl rfl rfl rfl rfl rfl rfl rfl b9 rfl rfl rfl rfl (by simp) rfl rfl .h (by rw [List.length_map]; exact hpp.1) (fun _ e => by cases e) rfl (by rw [List.length_map]; have := hpp.2; omega) rfl rfl ?_)) <;> (intro kq) <;> refine ⟨_, .comp rfl, ?_⟩) <;> ((refine .cons rfl (qcallV rfl rfl rfl rfl ca69 rfl rfl (fun h f => lineP_run hK hL (.slice kq 0 _ none) (decI i :: partsT (c.insns.getD i noInsn)) hins (by simp) (AllB.cons (.dec _) hpb) (hjl3 (by omega)) (by have := hpp.2; rw [List.length_cons]; omega) h f.wf (ownS.rd (f.pick .h))) ?_)) <;> refine ⟨_, .comp rfl, ?_⟩) <;> ((refine .cons rfl (qcallG rfl rfl rfl rfl ca68 rfl rfl (by repeat (first | exact .h | apply Pick.t)) rfl (fun h f hg ro rg => wstr_run hK k true v3 acc3 (insT i (c.insns.getD i noInsn)) (by simp only [insT, List.length_append, List.length_singleton]; omega) hinb (by have := hinl (by omega); omega) h f.wf hg) ?_)) <;> (rintro v C' ⟨k3, rfl⟩) <;> refine ⟨_, .comp rfl, ?_⟩) <;> (refine .nil ⟨?_, .intro rfl ?_⟩ <;> (repeat' (first | exact trivial | exact .inl rfl | exact .inr (.inl ⟨_, _, _, _, rfl, rfl, rfl⟩) | refine ⟨?_, ?_⟩))))
  | (refine WCX.g_ (id := 19) ?_; ((refine .cons (qa rfl rfl rfl rfl rfl (wI (by first | omega | (simp only [Int.ofNat_eq_natCast]; omega)) (by first | omega | (simp only [Int.ofNat_eq_natCast]; omega))) rfl rfl ?_))) <;> (refine .cons (q hX rfl ?_)) <;> (refine .nil (.intro rfl ?_)))
  | refine WCX.t_ rfl ?_
  | refine WCX.f_ rfl ?_
  | refine WCX.k_ ?_
  | refine WCX.b_ ?_
  | refine WCX.e_ ?_
  | refine ToX.e_ ?_
  | refine ToX.c_ ?_
  | refine ToX.b_ ?_)
 ·refine next (i + 1, _, _) _ _ _ (by simp only; omega) ⟨⟨rfl, rfl, rfl, rfl, rfl, trivial⟩, ⟨_, rfl⟩, ⟨_, .cons .h .nil⟩⟩ ⟨by simp only; omega, ⟨k3, by simp only [List.length_append]⟩, ?_, ?_⟩
  ·simp only
   rw [hacc3, linesT_succ, List.append_assoc]
  ·have := hinl (by omega)
   simp only [List.length_append]; omega
 ·have hi3 : i = c.insns.length := by omega
  subst hi3
  have htx : acc3 = textT c := by rw [hacc3, hacc2, hacc]; rfl
  subst hv3
  repeat' (first
   | refine ToX.a_ ?_
   | (refine WCX.g_ (id := 20) ?_; ((refine .cons (qcallG rfl rfl rfl rfl ca72 rfl rfl (by repeat (first | exact .h | apply Pick.t)) rfl (fun h f hg ro rg => bstr_run hK k q3 _ true acc3 rfl (by rw [htx]; simp [textT, headT]) (by rw [htx]; exact textT_byt hc) (by omega) h f.wf hg) ?_)) <;> (rintro v C' ⟨rfl, rfl⟩)) <;> (refine .cons (q hX rfl ?_)) <;> (refine .nil (.intro rfl ?_)))
   | refine WCX.r_ ?_
   | refine ToX.r_ hX rfl ?_)
  exact fun h f => ⟨by rw [htx]; rfl, f.chg.picks .nil⟩
end Ev
end Go.HL
namespace Go.HL
open Go Go.Proofs
namespace Ev
open Em
set_option maxRecDepth 10000
set_option maxHeartbeats 4000000
variable {K : CallFn} {base : List (Nat × HObj)}
structure CodeI where
 name : List Nat
 params : List (List Nat × Bool)
 shared : List (List Nat × Int)
 «local» : Int
 insns : List InsnD
def CodeI.toP (c : CodeI) : CodeP := ⟨c.name.length, codeN c.name 0, c.params.map fun p => (p.1.length, codeN p.1 0, p.2), c.shared.map fun a => (a.1.length, codeN a.1 0, a.2), c.local, c.insns⟩
def CodeI.toB (c : CodeI) : CodeB := ⟨c.name, c.params, c.shared.map fun a => (a.1, a.2.toNat), c.local.toNat, c.insns⟩
def NmOk (b : List Nat) : Prop := Byt b ∧ b.length ≤ 1152921504606846976
structure CodeI.Ok (c : CodeI) : Prop where
 name : NmOk c.name
 plen : c.params.length ≤ 1152921504606846976
 pname : ∀ p ∈ c.params, NmOk p.1
 slen : c.shared.length ≤ 1152921504606846976
 sname : ∀ p ∈ c.shared, NmOk p.1
 ilen : c.insns.length ≤ 1152921504606846976
 each : ∀ x ∈ c.insns, -2147483648 ≤ x.imm ∧ x.imm ≤ 2147483647
theorem NmOk.ok {b : List Nat} (h : NmOk b) : NameOk (b.length, codeN b 0) := by
 refine ⟨h.2, ?_⟩
 cases b with
 | nil => exact .inr rfl
 | cons x b => exact .inl (Nat.succ_pos _)
theorem CodeI.Ok.ok {c : CodeI} (f : c.Ok) : CodeOk c.toP := by
 refine ⟨f.name.ok, ?_, ?_, ?_, ?_, f.ilen, f.each⟩
 ·simp only [CodeI.toP, List.length_map]; exact f.plen
 ·intro p hp
  obtain ⟨q, hq, rfl⟩ := List.mem_map.1 hp
  exact (f.pname q hq).ok
 ·simp only [CodeI.toP, List.length_map]; exact f.slen
 ·intro p hp
  obtain ⟨q, hq, rfl⟩ := List.mem_map.1 hp
  exact (f.sname q hq).ok
theorem toB_toP {c : CodeI} (h : c.toP.validM = true) : c.toB.toP = c.toP := by
 unfold CodeP.validM CodeP.headM CodeP.headsM CodeP.refHeadM at h
 simp only [Bool.and_eq_true, decide_eq_true_eq, List.all_eq_true] at h
 obtain ⟨⟨⟨⟨⟨⟨⟨⟨⟨_, _⟩, _⟩, _⟩, h5⟩, _⟩, h6⟩, _⟩, _⟩, _⟩ := h
 have e1 : ((c.local.toNat : Nat) : Int) = c.local := Int.toNat_of_nonneg h6.1
 unfold CodeB.toP CodeI.toB CodeI.toP
 simp only [e1, List.map_map]
 congr 1
 refine List.map_congr_left fun a ha => ?_
 have := h5 _ (List.mem_map.2 ⟨a, ha, rfl⟩)
 unfold arrayOk at this
 simp only [Bool.and_eq_true, decide_eq_true_eq] at this
 show (_, _, ((a.2.toNat : Nat) : Int)) = (_, _, a.2)
 rw [Int.toNat_of_nonneg (by omega)]
theorem toB_V {c : CodeI} (f : c.Ok) (h : c.toP.validM = true) : V c.toB = true := by
 have e1 : bytesB c.name = true := bytesB_iff.2 f.name.1
 have e2 : c.params.all (fun p => bytesB p.1) = true := List.all_eq_true.2 fun p hp => bytesB_iff.2 (f.pname p hp).1
 have e3 : (c.shared.map fun a => (a.1, a.2.toNat)).all (fun p => bytesB p.1) = true := List.all_eq_true.2 fun p hp => by
  obtain ⟨q, hq, rfl⟩ := List.mem_map.1 hp
  exact bytesB_iff.2 (f.sname q hq).1
 have e4 : c.insns.all (fun x => decide (-2147483648 ≤ x.imm ∧ x.imm ≤ 2147483647)) = true := List.all_eq_true.2 fun x hx => decide_eq_true (f.each x hx)
 unfold V
 rw [toB_toP h, h]
 show (bytesB c.name && c.params.all _ && _ && c.insns.all _ && true) = true
 rw [e1, e2, e4]
 simp only [Bool.true_and, Bool.and_true]
 exact e3
theorem fold_of {f : CodeP} {x : InsnD} (h : f.insnM x = true) : x.kind = 8 ∨ x.kind = 10 → x.op = 0 ∨ x.op = 18 ∨ x.op = 19 ∨ x.op = 5 ∨ x.op = 6 ∨ x.op = 7 := by
 unfold CodeP.insnM at h
 simp only [Bool.and_eq_true, decide_eq_true_eq] at h
 obtain ⟨⟨⟨⟨⟨⟨⟨_, ho⟩, _⟩, _⟩, _⟩, _⟩, _⟩, _⟩ := h
 intro e
 have : (U x.kind.toNat).folds = true := by rcases e with e | e <;> rw [e] <;> decide
 rw [if_pos this] at ho
 unfold foldsM neutM at ho
 split at ho
 ·omega
 ·split at ho
  ·omega
  ·split at ho
   ·omega
   ·split at ho
    ·omega
    ·cases ho
theorem textOk2_of {c : CodeB} (h : V c = true) : TextOk2 c := by
 have ht := textOk_of h
 refine ⟨ht, fun x hx => ⟨ht.lines x hx, ?_⟩⟩
 unfold V at h
 simp only [Bool.and_eq_true] at h
 have hv := h.2
 unfold CodeP.validM at hv
 simp only [Bool.and_eq_true, List.all_eq_true] at hv
 exact fold_of (hv.2 x hx)
theorem fine_fair {c : CodeB} (h : CodeFine c) : CodeFair c := ⟨h.name, h.params, h.pname, h.shared, h.sname, h.local, h.insns, fun x hx => (h.each x hx).imm⟩
theorem cells1_of {v : HVal} {n : Nat} (h : lenV v = some n) : v.cells = some [v] := cells_of_len h
/-! ## Not valid -/
theorem encodeN_run (hK : KN base K) (c : CodeP) (hv : c.validM = false) (pv sv iv : HVal) (h : Heap) (w : Wf h) (hB : (lies base).holds h) (hc : CodeOk c) (hr : (codeR c pv sv iv).holds h) : Sp P K 9 [cv c pv sv iv] h (Val (.tuple [.nils, i64 1]) h) := by
 refine Sp.start (m := 79) (n := 9) w (hK.none 9 rfl rfl _ _) Tryz.func9 rfl rfl mask9 rfl rfl ?_
 repeat' (first
  | refine ToX.a_ ?_
  | refine WCX.s_ ?_
  | (refine WCX.g_ (id := 0) ?_; (iterate 3 refine .cons (q hX rfl ?_)) <;> (refine .nil (.intro rfl ?_)))
  | (refine WCX.g_ (id := 1) ?_; (refine .cons (q hX rfl ?_)) <;> ((refine .cons (qcallV rfl rfl rfl rfl ca13 rfl rfl (fun h f => (hv ▸ valid_run hK c pv sv iv h f.wf (f.ro (.of hB)) hc (f.ro (.of hr)))) ?_))) <;> (refine .cons (q hX rfl ?_)) <;> (refine .nil (.intro rfl ?_)))
  | (refine WCX.g_ (id := 2) ?_; (iterate 2 refine .cons (q hX rfl ?_)) <;> (refine .nil (.intro rfl ?_)))
  | refine WCX.r_ ?_
  | refine ToX.d_ ?_
  | refine WCX.t_ rfl ?_
  | refine ToX.r_ hX rfl ?_)
 all_goals exact fun h f => ⟨rfl, f.chg⟩
theorem textN_run (hK : KN base K) (c : CodeP) (hv : c.validM = false) (pv sv iv : HVal) (h : Heap) (w : Wf h) (hB : (lies base).holds h) (hc : CodeOk c) (hr : (codeR c pv sv iv).holds h) : Sp P K 11 [cv c pv sv iv] h (Val (.tuple [strB [], i64 1]) h) := by
 refine Sp.start (m := 79) (n := 9) w (hK.none 11 rfl rfl _ _) Tryz.func11 rfl rfl mask11 rfl rfl ?_
 repeat' (first
  | refine ToX.a_ ?_
  | refine WCX.s_ ?_
  | (refine WCX.g_ (id := 0) ?_; (iterate 3 refine .cons (q hX rfl ?_)) <;> (refine .nil (.intro rfl ?_)))
  | (refine WCX.g_ (id := 1) ?_; (refine .cons (q hX rfl ?_)) <;> ((refine .cons (qcallV rfl rfl rfl rfl ca13 rfl rfl (fun h f => (hv ▸ valid_run hK c pv sv iv h f.wf (f.ro (.of hB)) hc (f.ro (.of hr)))) ?_))) <;> (refine .cons (q hX rfl ?_)) <;> (refine .nil (.intro rfl ?_)))
  | (refine WCX.g_ (id := 2) ?_; (iterate 2 refine .cons (q hX rfl ?_)) <;> (refine .nil (.intro rfl ?_)))
  | refine WCX.r_ ?_
  | refine ToX.d_ ?_
  | refine WCX.t_ rfl ?_
  | refine ToX.r_ hX rfl ?_)
 all_goals exact fun h f => ⟨rfl, f.chg⟩
theorem refEncodeN_run (hK : KN base K) (c : CodeP) (hv : c.validM = false) (pv sv iv : HVal) (h : Heap) (w : Wf h) (hc : CodeOk c) (hr : (codeR c pv sv iv).holds h) : Sp P K 10 [cv c pv sv iv] h (Val (.tuple [.nils, i64 1]) h) := by
 have hv2 : c.refValidM = false := by rw [← validM_same]; exact hv
 refine Sp.start (m := 158456325033140378797835555839) (n := 146) w (hK.none 10 rfl rfl _ _) Tryz.func10 rfl rfl mask10 rfl rfl ?_
 repeat' (first
  | refine ToX.a_ ?_
  | refine WCX.s_ ?_
  | (refine WCX.g_ (id := 0) ?_; (iterate 3 refine .cons (q hX rfl ?_)) <;> (refine .nil (.intro rfl ?_)))
  | (refine WCX.g_ (id := 1) ?_; (refine .cons (q hX rfl ?_)) <;> ((refine .cons (qcallV rfl rfl rfl rfl ca14 rfl rfl (fun h f => (hv2 ▸ refValid_run hK c pv sv iv h f.wf hc (f.ro (.of hr)))) ?_))) <;> (refine .cons (q hX rfl ?_)) <;> (refine .nil (.intro rfl ?_)))
  | (refine WCX.g_ (id := 2) ?_; (iterate 2 refine .cons (q hX rfl ?_)) <;> (refine .nil (.intro rfl ?_)))
  | refine WCX.r_ ?_
  | refine ToX.d_ ?_
  | refine WCX.t_ rfl ?_
  | refine ToX.r_ hX rfl ?_)
 all_goals exact fun h f => ⟨rfl, f.chg⟩
theorem refTextN_run (hK : KN base K) (c : CodeP) (hv : c.validM = false) (pv sv iv : HVal) (h : Heap) (w : Wf h) (hc : CodeOk c) (hr : (codeR c pv sv iv).holds h) : Sp P K 12 [cv c pv sv iv] h (Val (.tuple [strB [], i64 1]) h) := by
 have hv2 : c.refValidM = false := by rw [← validM_same]; exact hv
 refine Sp.start (m := 9671406701032225785251071) (n := 100) w (hK.none 12 rfl rfl _ _) Tryz.func12 rfl rfl mask12 rfl rfl ?_
 repeat' (first
  | refine ToX.a_ ?_
  | refine WCX.s_ ?_
  | (refine WCX.g_ (id := 0) ?_; (iterate 3 refine .cons (q hX rfl ?_)) <;> (refine .nil (.intro rfl ?_)))
  | (refine WCX.g_ (id := 1) ?_; (refine .cons (q hX rfl ?_)) <;> ((refine .cons (qcallV rfl rfl rfl rfl ca14 rfl rfl (fun h f => (hv2 ▸ refValid_run hK c pv sv iv h f.wf hc (f.ro (.of hr)))) ?_))) <;> (refine .cons (q hX rfl ?_)) <;> (refine .nil (.intro rfl ?_)))
  | (refine WCX.g_ (id := 2) ?_; (iterate 2 refine .cons (q hX rfl ?_)) <;> (refine .nil (.intro rfl ?_)))
  | refine WCX.r_ ?_
  | refine ToX.d_ ?_
  | refine WCX.t_ rfl ?_
  | refine ToX.r_ hX rfl ?_)
 all_goals exact fun h f => ⟨rfl, f.chg⟩
/-! ## Valid -/
theorem validV_run (hK : KN base K) (c : CodeB) (hv : V c = true) (pv sv iv : HVal) (h : Heap) (w : Wf h) (hB : (lies base).holds h) (hr : (codeRB c pv sv iv).holds h) : Sp P K 13 [codeV c pv sv iv] h (Val (.bool true) h) := by
 have h1 := valid_run hK c.toP pv sv iv h w hB (fine_fair (V_fine hv)).ok (codeRB_P hr)
 rwa [← V_fair (fine_fair (V_fine hv)), hv] at h1
theorem encodeV_run (hK : KN base K) (c : CodeB) (hv : V c = true) (pv sv iv : HVal) (h : Heap) (w : Wf h) (hB : (lies base).holds h) (hr : (codeRB c pv sv iv).holds h) : Sp P K 9 [codeV c pv sv iv] h (Tr (fun v C' => ∃ x, v = .tuple [x, i64 0] ∧ C' = [wordsO x (wholeE c)]) h) := by
 have lp := cells1_of (rd_len hr.1)
 refine Sp.start (m := 79) (n := 9) w (hK.none 9 rfl rfl _ _) Tryz.func9 rfl rfl mask9 rfl rfl ?_
 repeat' (first
  | refine ToX.a_ ?_
  | refine WCX.s_ ?_
  | (refine WCX.g_ (id := 0) ?_; (iterate 3 refine .cons (q hX rfl ?_)) <;> (refine .nil (.intro rfl ?_)))
  | (refine WCX.g_ (id := 1) ?_; (refine .cons (q hX rfl ?_)) <;> ((refine .cons (qcallV rfl rfl rfl rfl ca13 rfl rfl (fun h f => validV_run hK c hv pv sv iv h f.wf (f.ro (.of hB)) (f.ro (.of hr))) ?_))) <;> (refine .cons (q hX rfl ?_)) <;> (refine .nil (.intro rfl ?_)))
  | (refine WCX.g_ (id := 3) ?_; (refine .cons (q hX rfl ?_)) <;> ((refine .cons (qcall rfl rfl rfl rfl ca28 rfl rfl (fun h f => encode_run hK c pv sv iv h f.wf (V_fine hv) (f.ro (.of hr))) ?_)) <;> (rintro v C' rfl)) <;> (iterate 2 refine .cons (q hX rfl ?_)) <;> (refine .nil (.intro rfl ?_)))
  | refine WCX.r_ ?_
  | refine WCX.f_ rfl ?_
  | refine WCX.k_ ?_
  | refine ToX.r_ hX rfl ?_)
 all_goals exact fun h f => ⟨_, f.chg, _, rfl, rfl⟩
theorem refEncodeV_run (hK : KN base K) (c : CodeB) (hv : V c = true) (pv sv iv : HVal) (h : Heap) (w : Wf h) (hr : (codeRB c pv sv iv).holds h) : Sp P K 10 [codeV c pv sv iv] h (Tr (fun v C' => ∃ x, v = .tuple [x, i64 0] ∧ C' = [wordsO x (wholeE c)]) h) :=
 (refEncode_run hK c pv sv iv h w (fine_fair (V_fine hv)) hr).mono fun _ _ t => t.mono fun _ _ p => p.elim (fun p => p.2) fun p => by rw [hv] at p; cases p.1
theorem beq_code {n c : Nat} {l : Int} {pv sv iv : HVal} {a b d : Nat} (hp : lenV pv = some a) (hs : lenV sv = some b) (hi : lenV iv = some d) : HVal.beq (.agg [.str n c, pv, sv, .int .i64 l, iv]) (.agg [.str n c, pv, sv, .int .i64 l, iv]) = true := by
 show (HVal.beq _ _ && (HVal.beq pv pv && (HVal.beq sv sv && (HVal.beq _ _ && (HVal.beq iv iv && true))))) = true
 rw [beL hp, beL hs, beL hi, suB rfl, suB rfl]; rfl
theorem textV_run (hK : KN base K) (hL : KL base K) (c : CodeB) (hv : V c = true) (pv sv iv : HVal) (h : Heap) (w : Wf h) (hB : (lies base).holds h) (hr : (codeRB c pv sv iv).holds h) : Sp P K 11 [codeV c pv sv iv] h (Val (.tuple [strB (textT c), i64 0]) h) := by
 refine Sp.start (m := 79) (n := 9) w (hK.none 11 rfl rfl _ _) Tryz.func11 rfl rfl mask11 rfl rfl ?_
 repeat' (first
  | refine ToX.a_ ?_
  | refine WCX.s_ ?_
  | (refine WCX.g_ (id := 0) ?_; (iterate 3 refine .cons (q hX rfl ?_)) <;> (refine .nil (.intro rfl ?_)))
  | (refine WCX.g_ (id := 1) ?_; (refine .cons (q hX rfl ?_)) <;> ((refine .cons (qcallV rfl rfl rfl rfl ca13 rfl rfl (fun h f => validV_run hK c hv pv sv iv h f.wf (f.ro (.of hB)) (f.ro (.of hr))) ?_))) <;> (refine .cons (q hX rfl ?_)) <;> (refine .nil (.intro rfl ?_)))
  | (refine WCX.g_ (id := 3) ?_; (refine .cons (q hX rfl ?_)) <;> ((refine .cons (qcallV rfl rfl rfl rfl ca31 rfl rfl (fun h f => write_run hK hL c (textOk2_of hv) pv sv iv h f.wf (f.ro (.of hB)) (f.ro (.of hr))) ?_))) <;> (iterate 2 refine .cons (q hX rfl ?_)) <;> (refine .nil (.intro rfl ?_)))
  | refine WCX.r_ ?_
  | refine WCX.f_ rfl ?_
  | refine WCX.k_ ?_
  | refine ToX.r_ hX rfl ?_)
 all_goals exact fun h f => ⟨rfl, f.chg⟩
end Ev
end Go.HL
namespace Go.HL
open Go Go.Proofs
namespace Ev
open Em
set_option maxRecDepth 10000
set_option maxHeartbeats 4000000
variable {K : CallFn} {base : List (Nat × HObj)}
theorem toB_cv {c : CodeI} (h : c.toP.validM = true) (pv sv iv : HVal) : codeV c.toB pv sv iv = cv c.toP pv sv iv := by
 have e := congrArg CodeP.local (toB_toP h)
 show HVal.agg [_, pv, sv, .int .i64 c.toB.toP.local, iv] = .agg [_, pv, sv, .int .i64 c.toP.local, iv]
 rw [e]; rfl
theorem toB_R {c : CodeI} (hv : c.toP.validM = true) {pv sv iv : HVal} {h : Heap} (r : (codeR c.toP pv sv iv).holds h) : (codeRB c.toB pv sv iv).holds h := by
 rw [← toB_toP hv] at r
 refine ⟨?_, ?_, r.2.2⟩
 ·have := r.1
  unfold CodeB.toP at this
  simp only [List.map_map] at this
  exact this
 ·have := r.2.1
  unfold CodeB.toP at this
  simp only [List.map_map] at this
  exact this
theorem eq_bool (a : Bool) (lit : Bool) : binC P .eql 4 lit (.bool a) (.bool a) = some (.bool true) := by
 cases a <;> simp [binC, binH, eqlH, heq]
theorem valid_law (hK : KN base K) (hL : KL base K) (c : CodeI) (hc : c.Ok) (pv sv iv : HVal) (h : Heap) (w : Wf h) (hB : (lies base).holds h) (hr : (codeR c.toP pv sv iv).holds h) :
  Sp P K 3 [cv c.toP pv sv iv] h (Val (.bool true) h) := by
 have hok := hc.ok
 have hlp := rd_len hr.1
 have hls := rd_len hr.2.1
 have hli := rd_len hr.2.2
 have hbq : HVal.beq (.agg [.str c.toP.n c.toP.c, pv, sv, .int .i64 c.toP.local, iv]) (.agg [.str c.toP.n c.toP.c, pv, sv, .int .i64 c.toP.local, iv]) = true := beq_code hlp hls hli
 cases hv : c.toP.validM with
 | false =>
  have hv2 : c.toP.refValidM = false := by rw [← validM_same]; exact hv
  refine Sp.start (m := 6143) (n := 62) w (hK.none 3 rfl rfl _ _) Tryz.func3 rfl rfl mask3 rfl rfl ?_
  repeat' (first
   | refine ToX.a_ ?_
   | refine WCX.s_ ?_
   | (refine WCX.g_ (id := 0) ?_; (iterate 2 refine .cons (q hX rfl ?_)) <;> (refine .nil (.intro rfl ?_)))
   | (refine WCX.g_ (id := 1) ?_; (refine .cons (q hX rfl ?_)) <;> ((refine .cons (qcall rfl rfl rfl rfl ca7 rfl rfl (fun h f => wide_run hK c.toP pv sv iv h f.wf hok (f.ro (.of hr))) ?_)) <;> (rintro v C' ⟨b, rfl, hb, rfl⟩)) <;> (refine .nil (.intro rfl ?_))))
  cases b with
  | true =>
   repeat' (first
    | refine ToX.a_ ?_
    | refine WCX.s_ ?_
    | (refine WCX.g_ (id := 2) ?_; ((refine .cons (qcallV rfl rfl rfl rfl ca8 rfl rfl (fun h f => awake_run hK h f.wf (f.ro (.of hB))) ?_))) <;> (refine .cons (q hX rfl ?_)) <;> (refine .nil (.intro rfl ?_)))
    | refine WCX.r_ ?_
    | refine ToX.d_ ?_
    | refine WCX.t_ rfl ?_
    | refine ToX.r_ hX rfl ?_)
   exact fun h f => ⟨rfl, f.chg⟩
  | false =>
   repeat' (first
    | refine ToX.a_ ?_
    | refine WCX.s_ ?_
    | (refine WCX.g_ (id := 3) ?_; (refine .cons (q hX rfl ?_)) <;> ((refine .cons (qcallV rfl rfl rfl rfl ca9 rfl rfl (fun h f => encodeN_run hK c.toP hv pv sv iv h f.wf (f.ro (.of hB)) hok (f.ro (.of hr))) ?_))) <;> (iterate 5 refine .cons (q hX rfl ?_)) <;> (refine .nil (.intro rfl ?_)))
    | (refine WCX.g_ (id := 4) ?_; (refine .cons (q hX rfl ?_)) <;> ((refine .cons (qcallV rfl rfl rfl rfl ca10 rfl rfl (fun h f => refEncodeN_run hK c.toP hv pv sv iv h f.wf hok (f.ro (.of hr))) ?_))) <;> (iterate 5 refine .cons (q hX rfl ?_)) <;> (refine .nil (.intro rfl ?_)))
    | (refine WCX.g_ (id := 5) ?_; (refine .cons (q hX rfl ?_)) <;> ((refine .cons (qcallV rfl rfl rfl rfl ca11 rfl rfl (fun h f => textN_run hK c.toP hv pv sv iv h f.wf (f.ro (.of hB)) hok (f.ro (.of hr))) ?_))) <;> (iterate 5 refine .cons (q hX rfl ?_)) <;> (refine .nil (.intro rfl ?_)))
    | (refine WCX.g_ (id := 6) ?_; (refine .cons (q hX rfl ?_)) <;> ((refine .cons (qcallV rfl rfl rfl rfl ca12 rfl rfl (fun h f => refTextN_run hK c.toP hv pv sv iv h f.wf hok (f.ro (.of hr))) ?_))) <;> (iterate 5 refine .cons (q hX rfl ?_)) <;> (refine .nil (.intro rfl ?_)))
    | (refine WCX.draw (id := 7) tab [0, 2, 1, 3, 4, 5, 6, 7, 8, 9, 10, 11, 12, 13, 14, 15, 16, 17, 18, 19, 20, 21, 22, 23, 24, 25, 26, 27, 28] #[0, 1, 0, 7, 15, 31, 63, 63, 255, 511, 1023, 2047, 2047, 8191, 16383, 32767, 65535, 65535, 262143, 524287, 1048575, 2097151, 2097151, 8388607, 16777215, 33554431, 67108863, 134217727, 268435455] (by kernel_rfl) (by kernel_rfl) (by kernel_rfl) ?_; ((refine .cons rfl (q hX rfl ?_)) <;> refine ⟨_, .rdBA hX.tab rfl rfl rfl rfl rfl rfl rfl rfl (by assumption) rfl rfl rfl, ?_⟩) <;> ((refine .cons rfl (q hX rfl ?_)) <;> refine ⟨_, .rdBA hX.tab rfl rfl rfl rfl rfl rfl rfl rfl (by assumption) rfl rfl rfl, ?_⟩) <;> ((refine .cons rfl (qcallV rfl rfl rfl rfl ca13 rfl rfl (fun h f => (hv ▸ valid_run hK c.toP pv sv iv h f.wf (f.ro (.of hB)) hok (f.ro (.of hr)))) ?_)) <;> refine ⟨_, .comp rfl, ?_⟩) <;> ((refine .cons rfl (qcallV rfl rfl rfl rfl ca14 rfl rfl (fun h f => (hv2 ▸ refValid_run hK c.toP pv sv iv h f.wf hok (f.ro (.of hr)))) ?_)) <;> refine ⟨_, .comp rfl, ?_⟩) <;> ((refine .cons rfl (qbin rfl rfl rfl (eq_bool _) rfl rfl ?_)) <;> refine ⟨_, .comp rfl, ?_⟩) <;> (iterate 3 refine .cq hX rfl rfl rfl ?_) <;> ((refine .cons rfl (qcallV rfl rfl rfl rfl ca15 rfl rfl (fun h f => sameWords_run hK .nils .nils [] [] h f.wf (ownS.rd (own_nil 42 1 h)) (ownS.rd (own_nil 42 1 h)) (by simp)) ?_)) <;> refine ⟨_, .comp rfl, ?_⟩) <;> (iterate 9 refine .cq hX rfl rfl rfl ?_) <;> ((refine .cons rfl (qce (u' := 0) (c' := 0) rfl rfl rfl rfl rfl ?_ ?_)) <;> intro _ <;> refine ⟨_, .comp rfl, ?_⟩) <;> (iterate 7 refine .cq hX rfl rfl rfl ?_) <;> (first | (refine .cons rfl (q hX rfl ?_)) <;> refine ⟨_, .comp rfl, ?_⟩ | (refine .cons rfl (qcallV rfl rfl rfl rfl ca8 rfl rfl (fun h f => awake_run hK h f.wf (f.ro (.of hB))) ?_)) <;> refine ⟨_, .comp rfl, ?_⟩) <;> (iterate 2 refine .cq hX rfl rfl rfl ?_) <;> (refine .nil ⟨?_, .intro rfl ?_⟩ <;> (repeat' (first | exact trivial | exact .inl rfl | exact .inr (.inl ⟨_, _, _, _, rfl, rfl, rfl⟩) | refine ⟨?_, ?_⟩))))
    | refine WCX.r_ ?_
    | refine WCX.f_ rfl ?_
    | refine WCX.k_ ?_
    | refine ToX.r_ hX rfl ?_)
   ·exact fun h f => ⟨rfl, f.chg.picks .nil⟩
   ·rename_i e
    exact absurd ⟨rfl, rfl⟩ e
 | true =>
  have hV := toB_V hc hv
  have hB2 := toB_R hv hr
  have hfine := V_fine hV
  have hfair := fine_fair hfine
  have hV1 : c.toB.toP.validM = true := by rw [toB_toP hv]; exact hv
  have hV2 : c.toB.toP.refValidM = true := by rw [← validM_same]; exact hV1
  have hE := wholeE_len hfine
  rw [← toB_cv hv]
  rw [← toB_toP hv] at hok
  have hr' := codeRB_P hB2
  have hbq : HVal.beq (.agg [strB c.toB.name, pv, sv, i64 c.toB.local, iv]) (.agg [strB c.toB.name, pv, sv, i64 c.toB.local, iv]) = true := beq_code hlp hls hli
  refine Sp.start (m := 6143) (n := 62) w (hK.none 3 rfl rfl _ _) Tryz.func3 rfl rfl mask3 rfl rfl ?_
  repeat' (first
   | refine ToX.a_ ?_
   | refine WCX.s_ ?_
   | (refine WCX.g_ (id := 0) ?_; (iterate 2 refine .cons (q hX rfl ?_)) <;> (refine .nil (.intro rfl ?_)))
   | (refine WCX.g_ (id := 1) ?_; (refine .cons (q hX rfl ?_)) <;> ((refine .cons (qcall rfl rfl rfl rfl ca7 rfl rfl (fun h f => wide_run hK c.toB.toP pv sv iv h f.wf hok (f.ro (.of hr'))) ?_)) <;> (rintro v C' ⟨b, rfl, hb, rfl⟩)) <;> (refine .nil (.intro rfl ?_))))
  cases b with
  | true =>
   repeat' (first
    | refine ToX.a_ ?_
    | refine WCX.s_ ?_
    | (refine WCX.g_ (id := 2) ?_; ((refine .cons (qcallV rfl rfl rfl rfl ca8 rfl rfl (fun h f => awake_run hK h f.wf (f.ro (.of hB))) ?_))) <;> (refine .cons (q hX rfl ?_)) <;> (refine .nil (.intro rfl ?_)))
    | refine WCX.r_ ?_
    | refine ToX.d_ ?_
    | refine WCX.t_ rfl ?_
    | refine ToX.r_ hX rfl ?_)
   exact fun h f => ⟨rfl, f.chg⟩
  | false =>
   have hn := (hb rfl).2
   repeat' (first
    | refine ToX.a_ ?_
    | refine WCX.s_ ?_
    | (refine WCX.g_ (id := 3) ?_; (refine .cons (q hX rfl ?_)) <;> ((refine .cons (qcall rfl rfl rfl rfl ca9 rfl rfl (fun h f => encodeV_run hK c.toB hV pv sv iv h f.wf (f.ro (.of hB)) (f.ro (.of hB2))) ?_)) <;> (rintro v C' ⟨x1, rfl, rfl⟩)) <;> (iterate 5 refine .cons (q hX rfl ?_)) <;> (refine .nil (.intro rfl ?_)))
    | (refine WCX.g_ (id := 4) ?_; (refine .cons (q hX rfl ?_)) <;> ((refine .cons (qcall rfl rfl rfl rfl ca10 rfl rfl (fun h f => refEncodeV_run hK c.toB hV pv sv iv h f.wf (f.ro (.of hB2))) ?_)) <;> (rintro v C' ⟨x2, rfl, rfl⟩)) <;> (iterate 5 refine .cons (q hX rfl ?_)) <;> (refine .nil (.intro rfl ?_)))
    | (refine WCX.g_ (id := 5) ?_; (refine .cons (q hX rfl ?_)) <;> ((refine .cons (qcallV rfl rfl rfl rfl ca11 rfl rfl (fun h f => textV_run hK hL c.toB hV pv sv iv h f.wf (f.ro (.of hB)) (f.ro (.of hB2))) ?_))) <;> (iterate 5 refine .cons (q hX rfl ?_)) <;> (refine .nil (.intro rfl ?_)))
    | (refine WCX.g_ (id := 6) ?_; (refine .cons (q hX rfl ?_)) <;> ((refine .cons (qcallV rfl rfl rfl rfl ca12 rfl rfl (fun h f => refText_run hK c.toB (textOk_of hV) pv sv iv h f.wf hfair (f.ro (.of hB2))) ?_))) <;> (iterate 5 refine .cons (q hX rfl ?_)) <;> (refine .nil (.intro rfl ?_)))
    | (refine WCX.draw (id := 7) tab [0, 2, 1, 3, 4, 5, 6, 7, 8, 9, 10, 11, 12, 13, 14, 15, 16, 17, 18, 19, 20, 21, 22, 23, 24, 25, 26, 27, 28] #[0, 1, 0, 7, 15, 31, 63, 63, 255, 511, 1023, 2047, 2047, 8191, 16383, 32767, 65535, 65535, 262143, 524287, 1048575, 2097151, 2097151, 8388607, 16777215, 33554431, 67108863, 134217727, 268435455] (by kernel_rfl) (by kernel_rfl) (by kernel_rfl) ?_; ((refine .cons rfl (q hX rfl ?_)) <;> refine ⟨_, .rdBA hX.tab rfl rfl rfl rfl rfl rfl rfl rfl (by assumption) rfl rfl rfl, ?_⟩) <;> ((refine .cons rfl (q hX rfl ?_)) <;> refine ⟨_, .rdBA hX.tab rfl rfl rfl rfl rfl rfl rfl rfl (by assumption) rfl rfl rfl, ?_⟩) <;> ((refine .cons rfl (qcallV rfl rfl rfl rfl ca13 rfl rfl (fun h f => validV_run hK c.toB hV pv sv iv h f.wf (f.ro (.of hB)) (f.ro (.of hB2))) ?_)) <;> refine ⟨_, .comp rfl, ?_⟩) <;> ((refine .cons rfl (qcallV rfl rfl rfl rfl ca14 rfl rfl (fun h f => (hV2 ▸ refValid_run hK c.toB.toP pv sv iv h f.wf hok (f.ro (.of hr')))) ?_)) <;> refine ⟨_, .comp rfl, ?_⟩) <;> ((refine .cons rfl (qbin rfl rfl rfl (eq_bool _) rfl rfl ?_)) <;> refine ⟨_, .comp rfl, ?_⟩) <;> (iterate 3 refine .cq hX rfl rfl rfl ?_) <;> ((refine .cons rfl (qcallV rfl rfl rfl rfl ca15 rfl rfl (fun h f => ((decide_eq_true (rfl : wholeE c.toB = wholeE c.toB)) ▸ sameWords_run hK x1 x2 (wholeE c.toB) (wholeE c.toB) h f.wf (ownS.rd (f.pick (.t .h))) (ownS.rd (f.pick .h)) hE)) ?_)) <;> refine ⟨_, .comp rfl, ?_⟩) <;> (iterate 9 refine .cq hX rfl rfl rfl ?_) <;> ((refine .cons rfl (qc rfl ?_ ?_)) <;> intro _ <;> refine ⟨_, .comp rfl, ?_⟩) <;> (iterate 7 refine .cq hX rfl rfl rfl ?_) <;> (first | (refine .cons rfl (q hX rfl ?_)) <;> refine ⟨_, .comp rfl, ?_⟩ | (refine .cons rfl (qcallV rfl rfl rfl rfl ca8 rfl rfl (fun h f => awake_run hK h f.wf (f.ro (.of hB))) ?_)) <;> refine ⟨_, .comp rfl, ?_⟩) <;> (iterate 2 refine .cq hX rfl rfl rfl ?_) <;> (refine .nil ⟨?_, .intro rfl ?_⟩ <;> (repeat' (first | exact trivial | exact .inl rfl | exact .inr (.inl ⟨_, _, _, _, rfl, rfl, rfl⟩) | refine ⟨?_, ?_⟩))))
    | refine WCX.r_ ?_
    | refine WCX.f_ rfl ?_
    | refine WCX.k_ ?_
    | refine ToX.r_ hX rfl ?_)
   ·exact fun h f => ⟨rfl, f.chg.picks .nil⟩
   ·rename_i e
    exact absurd ⟨rfl, rfl⟩ e
end Ev
end Go.HL
