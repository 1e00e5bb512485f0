/- The walk: different codes; the law. No statement of the seat stands here. -/
import Derived.Test.YtngeipnhbigdmaaGreatDoorMD
import Derived.Test.YtngeipnhbigdmaaGreatDoorAB
import Derived.Test.YtngeipnhbigdmaaGreatDoorMA
set_option linter.unusedVariables false
set_option linter.unusedSimpArgs false
namespace Go.HL
open Go Go.Proofs
namespace Ev
open Em
set_option maxRecDepth 10000
set_option maxHeartbeats 4000000
variable {K : ah} {base : List (Nat × aG)}
theorem B1 {a b : List Nat} (ha : dM a) (hb : dM b) (h : a ≠ b) : vM a.length (aO a 0) b.length (aO b 0) = false := by
 cases e : vM a.length (aO a 0) b.length (aO b 0) with
 | false => rfl
 | true =>
  unfold vM at e
  cases h1 : Nat.beq a.length b.length with
  | false => rw [h1] at e; cases e
  | true =>
   rw [h1] at e
   have h2 : Nat.beq (aO a 0) (aO b 0) = true := e
   exact absurd (jD ha hb (by simp only [aY, Nat.eq_of_beq_eq_true h1, Nat.eq_of_beq_eq_true h2])) h
theorem ET {a b : List Nat} (h : a = b) : vM a.length (aO a 0) b.length (aO b 0) = true := by rw [h]; exact vL _ _
theorem Fm (i j : Int) : n7 i j = decide (i = j) := by
 by_cases h : i = j
 ·rw [h, wK]; simp
 ·rw [decide_eq_false h]
  cases i with
  | ofNat a => cases j with
   | ofNat b =>
    have : a ≠ b := fun e => h (by rw [e])
    show Nat.beq a b = false
    cases e : Nat.beq a b with
    | false => rfl
    | true => exact absurd (Nat.eq_of_beq_eq_true e) this
   | negSucc b => rfl
  | negSucc a => cases j with
   | ofNat b => rfl
   | negSucc b =>
    have : a ≠ b := fun e => h (by rw [e])
    show Nat.beq a b = false
    cases e : Nat.beq a b with
    | false => rfl
    | true => exact absurd (Nat.eq_of_beq_eq_true e) this
theorem OH (a b : List Nat × Bool) (ha : dM a.1) (hb : dM b.1) (r : Bool) (h : decide (a = b) = r) : df P .neq 70 (.agg (gu a)) (.agg (gu b)) = some (.bool (!r)) := by
 obtain ⟨a, x⟩ := a
 obtain ⟨b, y⟩ := b
 have e : df P .neq 70 (.agg (gu (a, x))) (.agg (gu (b, y))) = ob (ae (vM a.length (aO a 0) b.length (aO b 0)) (ae (x == y) (some true) (some false)) (some false)) fun b => some (.bool (ae b false true)) := by kernel_rfl
 rw [e, ← h]
 by_cases h1 : a = b
 ·rw [ET h1]
  cases x <;> cases y <;> simp [h1]
 ·rw [B1 ha hb h1]
  simp [h1]
theorem OK (a b : List Nat × Nat) (ha : dM a.1) (hb : dM b.1) (r : Bool) (h : decide (a = b) = r) : df P .neq 72 (.agg (kT a)) (.agg (kT b)) = some (.bool (!r)) := by
 obtain ⟨a, x⟩ := a
 obtain ⟨b, y⟩ := b
 have e : df P .neq 72 (.agg (kT (a, x))) (.agg (kT (b, y))) = ob (ae (vM a.length (aO a 0) b.length (aO b 0)) (ae (n7 (x : Int) (y : Int)) (some true) (some false)) (some false)) fun b => some (.bool (ae b false true)) := by kernel_rfl
 rw [e, ← h, Fm]
 by_cases h1 : a = b
 ·rw [ET h1]
  by_cases h2 : x = y
  ·simp [h1, h2]
  ·have : ¬ (x : Int) = (y : Int) := by omega
   simp [h1, h2, this]
 ·rw [B1 ha hb h1]
  simp [h1]
theorem QR (p : Prop) [Decidable p] (q : Bool) : ae (decide p) (some q) (some false) = some (decide p && q) := by cases decide p <;> rfl
theorem Ql (b : Bool) : ae b false true = !b := by cases b <;> rfl
theorem OI (x y : bI) (r : Bool) (h : decide (x = y) = r) : df P .neq 74 (.agg (eo x)) (.agg (eo y)) = some (.bool (!r)) := by
 obtain ⟨a1, a2, a3, a4, a5, a6, a7, a8⟩ := x
 obtain ⟨b1, b2, b3, b4, b5, b6, b7, b8⟩ := y
 have e : df P .neq 74 (.agg (eo ⟨a1, a2, a3, a4, a5, a6, a7, a8⟩)) (.agg (eo ⟨b1, b2, b3, b4, b5, b6, b7, b8⟩)) = ob (ae (n7 a1 b1) (ae (n7 a2 b2) (ae (n7 a3 b3) (ae (n7 a4 b4) (ae (n7 a5 b5) (ae (n7 a6 b6) (ae (n7 a7 b7) (ae (n7 a8 b8) (some true) (some false)) (some false)) (some false)) (some false)) (some false)) (some false)) (some false)) (some false)) fun b => some (.bool (ae b false true)) := by kernel_rfl
 rw [e, ← h]
 simp only [Fm, QR, obS, Ql, bI.mk.injEq, Bool.decide_and, Bool.and_true]
theorem wW {α : Type} {l m : List α} (d : α) (hl : l.length = m.length) (h : ∀ j < l.length, l.getD j d = m.getD j d) : l = m := by
 refine List.ext_getElem hl fun i h1 h2 => ?_
 have := h i h1
 simpa [List.getD, List.getElem?_eq_getElem h1, List.getElem?_eq_getElem h2] using this
theorem x9 (hK : KN base K) (v1 v2 : aa) (l m : List (List Nat × Bool)) (h : Heap) (w : Wf h) (r1 : (rd v1 2 (l.map gu)).holds h) (r2 : (rd v2 2 (m.map gu)).holds h) (hb : l.length ≤ 4611686018427387904) (hb2 : m.length ≤ 4611686018427387904) (hx : ∀ p ∈ l, dM p.1) (hy : ∀ p ∈ m, dM p.1) (hne : l ≠ m) :
  Sp P K 46 [v1, v2] h (iw (.bool false) h) := by
 have hlen1 := aV r1
 have hlen2 := aV r2
 refine Sp.start (m := 33571891) (n := 26) w (hK.none 46 rfl rfl _ _) Tryz.func46 rfl rfl Jb rfl rfl ?_
 repeat' (first | refine ax.a_ ?_ | refine ai.s_ ?_ | (refine X 0 ?_; (refine J Z ?_) <;> (refine Y Z ?_)) | (refine X 1 ?_; (refine J Z ?_) <;> (refine .cons (ql hX Z Z Z Z Z Z (by assumption) Z Z ?_)) <;> (refine J Z ?_) <;> (refine .cons (ql hX Z Z Z Z Z Z (by assumption) Z Z ?_)) <;> ((refine .cons (qc Z ?_ ?_)) <;> intro _) <;> (refine Y Z ?_)) | (refine X 2 ?_; (refine J Z ?_) <;> (refine Y Z ?_)) | (refine X 3 ?_; (refine J Z ?_) <;> (refine Y Z ?_)) | refine ai.r_ ?_ | refine ax.d_ ?_ | refine ai.t_ rfl ?_ | refine ai.f_ rfl ?_ | refine ai.k_ ?_ | refine ai.b_ ?_ | refine ax.r_ hX rfl ?_)
 ·exact fun h f => ⟨rfl, f.aZ⟩
 rename_i e
 have e : l.length = m.length := by have := Decidable.not_not.1 e; omega
 refine ai.loop (ι := Nat) (fun a => [(5, .ext (i64 a)), (0, .ext v1), (1, .ext v2)]) (fun _ => []) (fun _ => []) (fun a => a ≤ l.length ∧ ∀ j < a, l.getD j gh = m.getD j gh) (fun a => l.length - a) 0 ⟨⟨rfl, rfl, rfl, trivial⟩, ⟨_, rfl⟩, ⟨_, .nil⟩⟩ ⟨Nat.zero_le _, fun j hj => by omega⟩ (fun _ => rfl) (fun _ => rfl) (fun _ => rfl) ?_
 rintro i ⟨hi, hj⟩ next
 repeat' (first | refine ax.a_ ?_ | refine ai.s_ ?_ | (refine X 4 ?_; (iterate 2 refine J Z ?_) <;> (refine .cons (ql hX Z Z Z Z Z Z (by assumption) Z Z ?_)) <;> ((refine .cons (qc Z ?_ ?_)) <;> intro _) <;> (refine Y Z ?_)) | (refine X 8 ?_; (refine J Z ?_) <;> (refine Y Z ?_)) | refine ai.r_ ?_ | refine ai.t_ rfl ?_ | refine ai.f_ rfl ?_ | refine ai.k_ ?_ | refine ai.b_ ?_ | refine ai.e_ ?_ | refine ax.e_ ?_ | refine ax.c_ ?_ | refine ax.r_ hX rfl ?_)
 ·have hil : i < l.length := by omega
  have hil2 : i < m.length := by omega
  have q1 := hx _ (bh gh hil)
  have q2 := hy _ (bh gh hil2)
  cases hd : decide (l.getD i gh = m.getD i gh) with
  | true =>
   repeat' (first | refine ax.a_ ?_ | (refine ai.draw (id := 6) aw [0, 1, 2, 3, 4, 5, 6, 7, 8] #[0, 0, 3, 7, 0, 0, 48, 112, 255] (by kernel_rfl) (by kernel_rfl) (by kernel_rfl) ?_; (iterate 2 refine O Z Z Z ?_) <;> ((refine .cons Z (bq hX Z Z Z Z Z (.of r1) (aM gh hil) Z Z Z ?_)) <;> refine W_ Z ?_) <;> ((refine .cons Z (q hX Z ?_)) <;> refine ⟨_, .zM hX.aw Z Z Z Z Z Z Z Z (beA Z) Z Z Z, ?_⟩) <;> (iterate 2 refine O Z Z Z ?_) <;> ((refine .cons Z (bq hX Z Z Z Z Z (.of r2) (aM gh hil2) Z Z Z ?_)) <;> refine W_ Z ?_) <;> ((refine .cons Z (q hX Z ?_)) <;> refine ⟨_, .zM hX.aw Z Z Z Z Z Z Z Z (beA Z) Z Z Z, ?_⟩) <;> ((refine .cons Z (KK Z Z Z (OH _ _ q1 q2 true hd) Z Z ?_)) <;> refine W_ Z ?_) <;> (refine .nil ⟨?_, .intro Z ?_⟩ <;> (repeat' (first | exact trivial | exact .inl Z | refine ⟨?_, ?_⟩)))) | (refine X 5 ?_; (refine J Z ?_) <;> (refine .cons (qa Z Z Z Z Z (wI (by first | omega | (simp only [Int.ofNat_eq_natCast]; omega)) (by first | omega | (simp only [Int.ofNat_eq_natCast]; omega))) Z Z ?_)) <;> (refine J Z ?_) <;> (refine Y Z ?_)) | refine ai.f_ rfl ?_ | refine ai.k_ ?_ | refine ax.b_ ?_)
   exact next (i + 1) _ _ _ (by omega) ⟨⟨rfl, rfl, rfl, trivial⟩, ⟨_, rfl⟩, ⟨_, .nil⟩⟩ ⟨by omega, fun j hj' => by
    rcases Nat.lt_or_ge j i with h | h
    ·exact hj j h
    ·rw [show j = i by omega]; exact of_decide_eq_true hd⟩
  | false =>
   repeat' (first | refine ax.a_ ?_ | refine ai.s_ ?_ | (refine ai.draw (id := 6) aw [0, 1, 2, 3, 4, 5, 6, 7, 8] #[0, 0, 3, 7, 0, 0, 48, 112, 255] (by kernel_rfl) (by kernel_rfl) (by kernel_rfl) ?_; (iterate 2 refine O Z Z Z ?_) <;> ((refine .cons Z (bq hX Z Z Z Z Z (.of r1) (aM gh hil) Z Z Z ?_)) <;> refine W_ Z ?_) <;> ((refine .cons Z (q hX Z ?_)) <;> refine ⟨_, .zM hX.aw Z Z Z Z Z Z Z Z (beA Z) Z Z Z, ?_⟩) <;> (iterate 2 refine O Z Z Z ?_) <;> ((refine .cons Z (bq hX Z Z Z Z Z (.of r2) (aM gh hil2) Z Z Z ?_)) <;> refine W_ Z ?_) <;> ((refine .cons Z (q hX Z ?_)) <;> refine ⟨_, .zM hX.aw Z Z Z Z Z Z Z Z (beA Z) Z Z Z, ?_⟩) <;> ((refine .cons Z (KK Z Z Z (OH _ _ q1 q2 false hd) Z Z ?_)) <;> refine W_ Z ?_) <;> (refine .nil ⟨?_, .intro Z ?_⟩ <;> (repeat' (first | exact trivial | exact .inl Z | refine ⟨?_, ?_⟩)))) | (refine X 7 ?_; (refine J Z ?_) <;> (refine Y Z ?_)) | refine ai.r_ ?_ | refine ax.d_ ?_ | refine ax.f_ ?_ | refine ai.t_ rfl ?_ | refine ax.r_ hX rfl ?_)
   exact fun h f => ⟨rfl, f.aZ⟩
 ·exact absurd (wW gh e fun j h => hj j (by omega)) hne
theorem xa (hK : KN base K) (v1 v2 : aa) (l m : List (List Nat × Nat)) (h : Heap) (w : Wf h) (r1 : (rd v1 2 (l.map kT)).holds h) (r2 : (rd v2 2 (m.map kT)).holds h) (hb : l.length ≤ 4611686018427387904) (hb2 : m.length ≤ 4611686018427387904) (hx : ∀ p ∈ l, dM p.1) (hy : ∀ p ∈ m, dM p.1) (hne : l ≠ m) :
  Sp P K 47 [v1, v2] h (iw (.bool false) h) := by
 have hlen1 := aV r1
 have hlen2 := aV r2
 refine Sp.start (m := 33571891) (n := 26) w (hK.none 47 rfl rfl _ _) Tryz.func47 rfl rfl Ja rfl rfl ?_
 repeat' (first | refine ax.a_ ?_ | refine ai.s_ ?_ | (refine X 0 ?_; (refine J Z ?_) <;> (refine Y Z ?_)) | (refine X 1 ?_; (refine J Z ?_) <;> (refine .cons (ql hX Z Z Z Z Z Z (by assumption) Z Z ?_)) <;> (refine J Z ?_) <;> (refine .cons (ql hX Z Z Z Z Z Z (by assumption) Z Z ?_)) <;> ((refine .cons (qc Z ?_ ?_)) <;> intro _) <;> (refine Y Z ?_)) | (refine X 2 ?_; (refine J Z ?_) <;> (refine Y Z ?_)) | (refine X 3 ?_; (refine J Z ?_) <;> (refine Y Z ?_)) | refine ai.r_ ?_ | refine ax.d_ ?_ | refine ai.t_ rfl ?_ | refine ai.f_ rfl ?_ | refine ai.k_ ?_ | refine ai.b_ ?_ | refine ax.r_ hX rfl ?_)
 ·exact fun h f => ⟨rfl, f.aZ⟩
 rename_i e
 have e : l.length = m.length := by have := Decidable.not_not.1 e; omega
 refine ai.loop (ι := Nat) (fun a => [(5, .ext (i64 a)), (0, .ext v1), (1, .ext v2)]) (fun _ => []) (fun _ => []) (fun a => a ≤ l.length ∧ ∀ j < a, l.getD j fQ = m.getD j fQ) (fun a => l.length - a) 0 ⟨⟨rfl, rfl, rfl, trivial⟩, ⟨_, rfl⟩, ⟨_, .nil⟩⟩ ⟨Nat.zero_le _, fun j hj => by omega⟩ (fun _ => rfl) (fun _ => rfl) (fun _ => rfl) ?_
 rintro i ⟨hi, hj⟩ next
 repeat' (first | refine ax.a_ ?_ | refine ai.s_ ?_ | (refine X 4 ?_; (iterate 2 refine J Z ?_) <;> (refine .cons (ql hX Z Z Z Z Z Z (by assumption) Z Z ?_)) <;> ((refine .cons (qc Z ?_ ?_)) <;> intro _) <;> (refine Y Z ?_)) | (refine X 8 ?_; (refine J Z ?_) <;> (refine Y Z ?_)) | refine ai.r_ ?_ | refine ai.t_ rfl ?_ | refine ai.f_ rfl ?_ | refine ai.k_ ?_ | refine ai.b_ ?_ | refine ai.e_ ?_ | refine ax.e_ ?_ | refine ax.c_ ?_ | refine ax.r_ hX rfl ?_)
 ·have hil : i < l.length := by omega
  have hil2 : i < m.length := by omega
  have q1 := hx _ (bh fQ hil)
  have q2 := hy _ (bh fQ hil2)
  cases hd : decide (l.getD i fQ = m.getD i fQ) with
  | true =>
   repeat' (first | refine ax.a_ ?_ | (refine ai.draw (id := 6) aw [0, 1, 2, 3, 4, 5, 6, 7, 8] #[0, 0, 3, 7, 0, 0, 48, 112, 255] (by kernel_rfl) (by kernel_rfl) (by kernel_rfl) ?_; (iterate 2 refine O Z Z Z ?_) <;> ((refine .cons Z (bq hX Z Z Z Z Z (.of r1) (aM fQ hil) Z Z Z ?_)) <;> refine W_ Z ?_) <;> ((refine .cons Z (q hX Z ?_)) <;> refine ⟨_, .zM hX.aw Z Z Z Z Z Z Z Z (beA Z) Z Z Z, ?_⟩) <;> (iterate 2 refine O Z Z Z ?_) <;> ((refine .cons Z (bq hX Z Z Z Z Z (.of r2) (aM fQ hil2) Z Z Z ?_)) <;> refine W_ Z ?_) <;> ((refine .cons Z (q hX Z ?_)) <;> refine ⟨_, .zM hX.aw Z Z Z Z Z Z Z Z (beA Z) Z Z Z, ?_⟩) <;> ((refine .cons Z (KK Z Z Z (OK _ _ q1 q2 true hd) Z Z ?_)) <;> refine W_ Z ?_) <;> (refine .nil ⟨?_, .intro Z ?_⟩ <;> (repeat' (first | exact trivial | exact .inl Z | refine ⟨?_, ?_⟩)))) | (refine X 5 ?_; (refine J Z ?_) <;> (refine .cons (qa Z Z Z Z Z (wI (by first | omega | (simp only [Int.ofNat_eq_natCast]; omega)) (by first | omega | (simp only [Int.ofNat_eq_natCast]; omega))) Z Z ?_)) <;> (refine J Z ?_) <;> (refine Y Z ?_)) | refine ai.f_ rfl ?_ | refine ai.k_ ?_ | refine ax.b_ ?_)
   exact next (i + 1) _ _ _ (by omega) ⟨⟨rfl, rfl, rfl, trivial⟩, ⟨_, rfl⟩, ⟨_, .nil⟩⟩ ⟨by omega, fun j hj' => by
    rcases Nat.lt_or_ge j i with h | h
    ·exact hj j h
    ·rw [show j = i by omega]; exact of_decide_eq_true hd⟩
  | false =>
   repeat' (first | refine ax.a_ ?_ | refine ai.s_ ?_ | (refine ai.draw (id := 6) aw [0, 1, 2, 3, 4, 5, 6, 7, 8] #[0, 0, 3, 7, 0, 0, 48, 112, 255] (by kernel_rfl) (by kernel_rfl) (by kernel_rfl) ?_; (iterate 2 refine O Z Z Z ?_) <;> ((refine .cons Z (bq hX Z Z Z Z Z (.of r1) (aM fQ hil) Z Z Z ?_)) <;> refine W_ Z ?_) <;> ((refine .cons Z (q hX Z ?_)) <;> refine ⟨_, .zM hX.aw Z Z Z Z Z Z Z Z (beA Z) Z Z Z, ?_⟩) <;> (iterate 2 refine O Z Z Z ?_) <;> ((refine .cons Z (bq hX Z Z Z Z Z (.of r2) (aM fQ hil2) Z Z Z ?_)) <;> refine W_ Z ?_) <;> ((refine .cons Z (q hX Z ?_)) <;> refine ⟨_, .zM hX.aw Z Z Z Z Z Z Z Z (beA Z) Z Z Z, ?_⟩) <;> ((refine .cons Z (KK Z Z Z (OK _ _ q1 q2 false hd) Z Z ?_)) <;> refine W_ Z ?_) <;> (refine .nil ⟨?_, .intro Z ?_⟩ <;> (repeat' (first | exact trivial | exact .inl Z | refine ⟨?_, ?_⟩)))) | (refine X 7 ?_; (refine J Z ?_) <;> (refine Y Z ?_)) | refine ai.r_ ?_ | refine ax.d_ ?_ | refine ax.f_ ?_ | refine ai.t_ rfl ?_ | refine ax.r_ hX rfl ?_)
   exact fun h f => ⟨rfl, f.aZ⟩
 ·exact absurd (wW fQ e fun j h => hj j (by omega)) hne
theorem JN (hK : KN base K) (c d : aR) (hc : dZ c) (hd : dZ d) (hne : c ≠ d) (pv sv iv pv2 sv2 iv2 : aa) (h : Heap) (w : Wf h) (r1 : (gG c pv sv iv).holds h) (r2 : (gG d pv2 sv2 iv2).holds h) :
  Sp P K 18 [iL c pv sv iv, iL d pv2 sv2 iv2] h (iw (.bool false) h) := by
 have lp := aV r1.1
 have lp2 := aV r2.1
 have ls := aV r1.2.1
 have ls2 := aV r2.2.1
 have li := aV r1.2.2
 have li2 := aV r2.2.2
 have b1 := hc.params
 have b2 := hc.shared
 have b3 := hc.aq
 have d1 := hd.params
 have d2 := hd.shared
 have d3 := hd.aq
 by_cases hn : c.name = d.name
 rotate_left
 ·skip
  refine Sp.start (m := 1153066640141713471) (n := 61) w (hK.none 18 rfl rfl _ _) Tryz.func18 rfl rfl wm rfl rfl ?_
  repeat' (first | refine ax.a_ ?_ | refine ai.s_ ?_ | (refine X 0 ?_; (iterate 3 refine J Z ?_) <;> (refine Y Z ?_)) | (refine X 1 ?_; (iterate 4 refine J Z ?_) <;> ((refine .cons (Iz hc.name.2 hd.name.2 Z Z Z Z Z ?_ ?_)) <;> (intro e; first | exact absurd e hn | skip)) <;> (iterate 32 refine J Z ?_) <;> (refine Y Z ?_)) | (refine X 2 ?_; (refine J Z ?_) <;> (refine Y Z ?_)) | refine ai.r_ ?_ | refine ax.d_ ?_ | refine ai.t_ rfl ?_ | refine ax.r_ hX rfl ?_)
  exact fun h f => ⟨rfl, f.aZ⟩
 by_cases hp : c.params = d.params
 rotate_left
 ·skip
  refine Sp.start (m := 1153066640141713471) (n := 61) w (hK.none 18 rfl rfl _ _) Tryz.func18 rfl rfl wm rfl rfl ?_
  repeat' (first | refine ax.a_ ?_ | refine ai.s_ ?_ | (refine X 0 ?_; (iterate 3 refine J Z ?_) <;> (refine Y Z ?_)) | (refine X 1 ?_; (iterate 4 refine J Z ?_) <;> ((refine .cons (Iz hc.name.2 hd.name.2 Z Z Z Z Z ?_ ?_)) <;> (intro e; first | exact absurd hn e | skip)) <;> (iterate 5 refine J Z ?_) <;> (refine .cons (aE Z Z Z Z LN Z Z (fun h f => x9 hK pv pv2 c.params d.params h f.wf (f.ro (.of r1)).1 (f.ro (.of r2)).1 (by omega) (by omega) (fun p q => (hc.eg p q).2) (fun p q => (hd.eg p q).2) hp) ?_)) <;> (iterate 26 refine J Z ?_) <;> (refine Y Z ?_)) | (refine X 2 ?_; (refine J Z ?_) <;> (refine Y Z ?_)) | refine ai.r_ ?_ | refine ax.d_ ?_ | refine ai.t_ rfl ?_ | refine ax.r_ hX rfl ?_)
  exact fun h f => ⟨rfl, f.aZ⟩
 by_cases hs : c.shared = d.shared
 rotate_left
 ·skip
  refine Sp.start (m := 1153066640141713471) (n := 61) w (hK.none 18 rfl rfl _ _) Tryz.func18 rfl rfl wm rfl rfl ?_
  repeat' (first | refine ax.a_ ?_ | refine ai.s_ ?_ | (refine X 0 ?_; (iterate 3 refine J Z ?_) <;> (refine Y Z ?_)) | (refine X 1 ?_; (iterate 4 refine J Z ?_) <;> ((refine .cons (Iz hc.name.2 hd.name.2 Z Z Z Z Z ?_ ?_)) <;> (intro e; first | exact absurd hn e | skip)) <;> (iterate 5 refine J Z ?_) <;> (refine .cons (aE Z Z Z Z LN Z Z (fun h f => jG hK pv pv2 c.params h f.wf (f.ro (.of r1)).1 (hp ▸ (f.ro (.of r2)).1) (by omega)) ?_)) <;> (iterate 7 refine J Z ?_) <;> (refine .cons (aE Z Z Z Z NO Z Z (fun h f => xa hK sv sv2 c.shared d.shared h f.wf (f.ro (.of r1)).2.1 (f.ro (.of r2)).2.1 (by omega) (by omega) (fun p q => (hc.dF p q).1.2) (fun p q => (hd.dF p q).1.2) hs) ?_)) <;> (iterate 18 refine J Z ?_) <;> (refine Y Z ?_)) | (refine X 2 ?_; (refine J Z ?_) <;> (refine Y Z ?_)) | refine ai.r_ ?_ | refine ax.d_ ?_ | refine ai.t_ rfl ?_ | refine ax.r_ hX rfl ?_)
  exact fun h f => ⟨rfl, f.aZ⟩
 refine Sp.start (m := 1153066640141713471) (n := 61) w (hK.none 18 rfl rfl _ _) Tryz.func18 rfl rfl wm rfl rfl ?_
 repeat' (first | refine ax.a_ ?_ | refine ai.s_ ?_ | (refine X 0 ?_; (iterate 3 refine J Z ?_) <;> (refine Y Z ?_)) | (refine X 1 ?_; (iterate 4 refine J Z ?_) <;> ((refine .cons (Iz hc.name.2 hd.name.2 Z Z Z Z Z ?_ ?_)) <;> (intro e; first | exact absurd hn e | skip)) <;> (iterate 5 refine J Z ?_) <;> (refine .cons (aE Z Z Z Z LN Z Z (fun h f => jG hK pv pv2 c.params h f.wf (f.ro (.of r1)).1 (hp ▸ (f.ro (.of r2)).1) (by omega)) ?_)) <;> (iterate 7 refine J Z ?_) <;> (refine .cons (aE Z Z Z Z NO Z Z (fun h f => nI hK sv sv2 c.shared h f.wf (f.ro (.of r1)).2.1 (hs ▸ (f.ro (.of r2)).2.1) (by omega)) ?_)) <;> (iterate 7 refine J Z ?_) <;> ((refine .cons (qc Z ?_ ?_)) <;> intro _) <;> (iterate 4 refine J Z ?_) <;> (first | (refine J Z ?_) | (refine .cons (ql hX Z Z Z Z Z Z (by assumption) Z Z ?_))) <;> (iterate 2 refine J Z ?_) <;> (first | (refine J Z ?_) | (refine .cons (ql hX Z Z Z Z Z Z (by assumption) Z Z ?_))) <;> (first | (refine J Z ?_) | (refine .cons (qc Z ?_ ?_)) <;> intro _) <;> (refine J Z ?_) <;> (refine Y Z ?_)) | (refine X 2 ?_; (refine J Z ?_) <;> (refine Y Z ?_)) | (refine X 3 ?_; (refine J Z ?_) <;> (refine Y Z ?_)) | refine ai.r_ ?_ | refine ax.d_ ?_ | refine ai.t_ rfl ?_ | refine ai.f_ rfl ?_ | refine ai.k_ ?_ | refine ai.b_ ?_ | refine ax.r_ hX rfl ?_)
 ·exact fun h f => ⟨rfl, f.aZ⟩
 ·exact fun h f => ⟨rfl, f.aZ⟩
 rename_i e1 e2
 have hl : c.local = d.local := by have := Decidable.not_not.1 e1; omega
 have e : c.aq.length = d.aq.length := by have := Decidable.not_not.1 e2; omega
 refine ai.loop (ι := Nat) (fun a => [(5, .ext (i64 a)), (3, .ptr 1 0), (2, .ptr 0 0)]) (fun _ => [.own [aY c.name, pv, sv, i64 c.local, iv] 26 false, .own [aY d.name, pv2, sv2, i64 d.local, iv2] 26 false]) (fun _ => []) (fun a => a ≤ c.aq.length ∧ ∀ j < a, c.aq.getD j aP = d.aq.getD j aP) (fun a => c.aq.length - a) 0 ⟨⟨rfl, rfl, rfl, trivial⟩, ⟨_, rfl⟩, ⟨_, .nil⟩⟩ ⟨Nat.zero_le _, fun j hj => by omega⟩ (fun _ => rfl) (fun _ => rfl) (fun _ => rfl) ?_
 rintro i ⟨hi, hj⟩ next
 repeat' (first | refine ax.a_ ?_ | refine ai.s_ ?_ | (refine X 4 ?_; (iterate 3 refine J Z ?_) <;> (refine .cons (ql hX Z Z Z Z Z Z (by assumption) Z Z ?_)) <;> ((refine .cons (qc Z ?_ ?_)) <;> intro _) <;> (refine Y Z ?_)) | (refine X 8 ?_; (refine J Z ?_) <;> (refine Y Z ?_)) | refine ai.r_ ?_ | refine ai.t_ rfl ?_ | refine ai.f_ rfl ?_ | refine ai.k_ ?_ | refine ai.b_ ?_ | refine ai.e_ ?_ | refine ax.e_ ?_ | refine ax.c_ ?_ | refine ax.r_ hX rfl ?_)
 ·have hil : i < c.aq.length := by omega
  have hil2 : i < d.aq.length := by omega
  cases hd : decide (c.aq.getD i aP = d.aq.getD i aP) with
  | true =>
   repeat' (first | refine ax.a_ ?_ | (refine ai.draw (id := 6) aw [0, 1, 2, 3, 4, 5, 6, 7, 8, 9, 10] #[0, 1, 0, 7, 15, 0, 32, 0, 224, 480, 1023] (by kernel_rfl) (by kernel_rfl) (by kernel_rfl) ?_; (refine O Z Z Z ?_) <;> ((refine .cons Z (q hX Z ?_)) <;> refine ⟨_, .ng hX.aw Z Z Z Z Z Z Z Z (beL (by assumption)) Z Z Z, ?_⟩) <;> (refine O Z Z Z ?_) <;> ((refine .cons Z (bq hX Z Z Z Z Z (.of r1.2.2) (aM aP hil) Z Z Z ?_)) <;> refine W_ Z ?_) <;> ((refine .cons Z (q hX Z ?_)) <;> refine ⟨_, .zM hX.aw Z Z Z Z Z Z Z Z (beA Z) Z Z Z, ?_⟩) <;> (refine O Z Z Z ?_) <;> ((refine .cons Z (q hX Z ?_)) <;> refine ⟨_, .ng hX.aw Z Z Z Z Z Z Z Z (beL (by assumption)) Z Z Z, ?_⟩) <;> (refine O Z Z Z ?_) <;> ((refine .cons Z (bq hX Z Z Z Z Z (.of r2.2.2) (aM aP hil2) Z Z Z ?_)) <;> refine W_ Z ?_) <;> ((refine .cons Z (q hX Z ?_)) <;> refine ⟨_, .zM hX.aw Z Z Z Z Z Z Z Z (beA Z) Z Z Z, ?_⟩) <;> ((refine .cons Z (KK Z Z Z (OI _ _ true hd) Z Z ?_)) <;> refine W_ Z ?_) <;> (refine .nil ⟨?_, .intro Z ?_⟩ <;> (repeat' (first | exact trivial | exact .inl Z | refine ⟨?_, ?_⟩)))) | (refine X 5 ?_; (refine J Z ?_) <;> (refine .cons (qa Z Z Z Z Z (wI (by first | omega | (simp only [Int.ofNat_eq_natCast]; omega)) (by first | omega | (simp only [Int.ofNat_eq_natCast]; omega))) Z Z ?_)) <;> (refine J Z ?_) <;> (refine Y Z ?_)) | refine ai.f_ rfl ?_ | refine ai.k_ ?_ | refine ax.b_ ?_)
   exact next (i + 1) _ _ _ (by omega) ⟨⟨rfl, rfl, rfl, trivial⟩, ⟨_, rfl⟩, ⟨_, .nil⟩⟩ ⟨by omega, fun j hj' => by
    rcases Nat.lt_or_ge j i with h | h
    ·exact hj j h
    ·rw [show j = i by omega]; exact of_decide_eq_true hd⟩
  | false =>
   repeat' (first | refine ax.a_ ?_ | refine ai.s_ ?_ | (refine ai.draw (id := 6) aw [0, 1, 2, 3, 4, 5, 6, 7, 8, 9, 10] #[0, 1, 0, 7, 15, 0, 32, 0, 224, 480, 1023] (by kernel_rfl) (by kernel_rfl) (by kernel_rfl) ?_; (refine O Z Z Z ?_) <;> ((refine .cons Z (q hX Z ?_)) <;> refine ⟨_, .ng hX.aw Z Z Z Z Z Z Z Z (beL (by assumption)) Z Z Z, ?_⟩) <;> (refine O Z Z Z ?_) <;> ((refine .cons Z (bq hX Z Z Z Z Z (.of r1.2.2) (aM aP hil) Z Z Z ?_)) <;> refine W_ Z ?_) <;> ((refine .cons Z (q hX Z ?_)) <;> refine ⟨_, .zM hX.aw Z Z Z Z Z Z Z Z (beA Z) Z Z Z, ?_⟩) <;> (refine O Z Z Z ?_) <;> ((refine .cons Z (q hX Z ?_)) <;> refine ⟨_, .ng hX.aw Z Z Z Z Z Z Z Z (beL (by assumption)) Z Z Z, ?_⟩) <;> (refine O Z Z Z ?_) <;> ((refine .cons Z (bq hX Z Z Z Z Z (.of r2.2.2) (aM aP hil2) Z Z Z ?_)) <;> refine W_ Z ?_) <;> ((refine .cons Z (q hX Z ?_)) <;> refine ⟨_, .zM hX.aw Z Z Z Z Z Z Z Z (beA Z) Z Z Z, ?_⟩) <;> ((refine .cons Z (KK Z Z Z (OI _ _ false hd) Z Z ?_)) <;> refine W_ Z ?_) <;> (refine .nil ⟨?_, .intro Z ?_⟩ <;> (repeat' (first | exact trivial | exact .inl Z | refine ⟨?_, ?_⟩)))) | (refine X 7 ?_; (refine J Z ?_) <;> (refine Y Z ?_)) | refine ai.r_ ?_ | refine ax.d_ ?_ | refine ax.f_ ?_ | refine ai.t_ rfl ?_ | refine ax.r_ hX rfl ?_)
   exact fun h f => ⟨rfl, f.aZ⟩
 ·have e5 := wW aP e fun j h => hj j (by omega)
  refine absurd ?_ hne
  cases c; cases d
  simp only at hn hp hs hl e5
  rw [hn, hp, hs, hl, e5]
end Ev
end Go.HL
namespace Go.HL
open Go Go.Proofs
namespace Ev
open Em
set_option maxRecDepth 10000
set_option maxHeartbeats 8000000
variable {K : ah} {base : List (Nat × aG)}
theorem I8 {c d : aR} (hc : V c = true) (hd : V d = true) (h : bM c = bM d) : c = d := by
 have e1 := (xC (xh hc)).2
 have e2 := (xC (xh hd)).2
 rw [h, e2] at e1
 rw [← zX c, ← zX d, e1]
theorem I7 {c : aR} (hv : V c = true) : 1 ≤ (bM c).length ∧ (bM c).length ≤ 300000 := by
 have hc := yi hv
 have f := hc.gJ
 have b1 := f.params
 have b2 := f.shared
 have b3 := f.aq
 have b4 := f.local
 have bn := f.name.1
 have bl := eY (n := (c.local : Int)) (by omega) (by omega)
 have h1 : (c.params.flatMap mz).length ≤ 100 * c.params.length := dh fun p hp => by
  have := (f.eg p hp).1
  unfold mz
  split <;> (simp only [List.length_append, List.length_cons, List.length_nil]; omega)
 have h2 : (c.shared.flatMap uH).length ≤ 100 * c.shared.length := dh fun a ha => by
  have h3 := (f.dF a ha).1.1
  have h4 := (f.dF a ha).2
  have := eY (n := (a.2 : Int)) (by omega) (by omega)
  unfold uH
  simp only [List.length_append, List.length_cons, List.length_nil]; omega
 have h3 : (mH c.aq c.aq.length).length ≤ 140 * (List.range c.aq.length).length := dh fun j hj => by
  have hj := List.mem_range.1 hj
  have h4 := yO (hc.lines _ (bh aP hj))
  have := eY (n := (j : Int)) (by omega) (by omega)
  unfold wG
  simp only [List.length_append, List.length_cons, List.length_nil]; omega
 rw [List.length_range] at h3
 unfold bM
 simp only [List.length_append, jc, List.length_cons, List.length_nil]
 omega
theorem yC {v : aa} {l : List Nat} {h : Heap} (hf : nd v) (r : (cO v l).holds h) : (words v l).holds h := by
 have hr := aL.rd r
 obtain ⟨k, n, rfl⟩ := hf
 obtain ⟨⟨d, ha⟩, _⟩ := r
 refine ⟨?_, hr⟩
 generalize (l.map gj).length = c at ha
 generalize (l.map gj).flatten = m at ha
 cases ha with
 | own hg _ _ => exact .slice _ _ _ _ _ _ _ hg (.inr rfl)
theorem EB {c : aR} (h : V c = true) : mQ V (aW c) = some c := (zj fun _ hc => fy hc).2 ⟨h, rfl⟩
theorem qJ {c : aR} (hc : dZ c) : (aW c).length ≤ 100000 := by
 have b1 := hc.params
 have b2 := hc.shared
 have b3 := hc.aq
 have bn := fh hc.name
 have f1 := dh (g := ld) (k := 18) (l := c.params) fun p hp => by
  have := fh (hc.eg p hp)
  simp only [ld, List.length_append, List.length_singleton]; omega
 have f2 := dh (g := oz) (k := 18) (l := c.shared) fun p hp => by
  have := fh (hc.dF p hp).1
  simp only [oz, List.length_append, List.length_singleton]; omega
 have f3 := dh (g := wF) (k := 6) (l := c.aq) fun p hp => Nat.le_of_eq rfl
 simp only [aW, fF, jW, List.length_append, List.length_cons, List.length_nil]
 omega
theorem AF {c : aR} (hc : dZ c) : ∀ x ∈ aW c, x < 4294967296 := by
 have h1 := Cg hc
 have h2 := qJ hc
 intro x hx
 rcases List.mem_append.1 hx with hx | hx
 ·rcases List.mem_cons.1 hx with rfl | hx
  ·decide
  ·rcases List.mem_cons.1 hx with rfl | hx
   ·simp only [aW, fF, List.length_append, List.length_cons] at h2; omega
   ·exact h1 x hx
 ·rw [List.mem_singleton.1 hx]
  exact Ig _ _ (by decide)
theorem Ca (hK : KN base K) (c : aR) (hv : V c = true) (u : aa) (hf : nd u) (h : Heap) (w : Wf h) (hB : (lies base).holds h) (hr : (cO u (aW c)).holds h) :
  Sp P K 16 [u] h (Tr (fun x C' => ∃ pv sv iv, x = .tuple [iL c pv sv iv, i64 0] ∧ C' = fm c pv sv iv) h) := by
 have := xb hK u (aW c) h w (.of hB) (yC hf hr) (AF (fy hv)) (vk (fy hv))
 rw [EB hv] at this
 exact this
theorem yr (hK : KN base K) (c : aR) (hV : V c = true) (pv sv iv pv2 sv2 iv2 : aa) (h : Heap) (w : Wf h) (r1 : (gG c pv sv iv).holds h) (r2 : (gG c pv2 sv2 iv2).holds h) : Sp P K 18 [iL c pv sv iv, iL c pv2 sv2 iv2] h (iw (.bool true) h) :=
 Ir hK c pv sv iv pv2 sv2 iv2 h w (fy hV).params (fy hV).shared (fy hV).aq r1 r2
theorem JO (hK : KN base K) (l : List Nat) (hn : mQ V l = none) (hw : ∀ x ∈ l, x < 4294967296) (hl : l.length ≤ 4611686018427387904) (u : aa) (hf : nd u) (h : Heap) (w : Wf h) (hB : (lies base).holds h) (hr : (cO u l).holds h) :
  Sp P K 16 [u] h (iw (.tuple [.agg AA, i64 8]) h) := by
 have := xb hK u l h w (.of hB) (yC hf hr) hw hl
 rw [hn] at this
 exact this.mono fun v h' t => by
  obtain ⟨C', d, rfl, rfl⟩ := t
  exact ⟨rfl, d⟩
theorem Cy {t : Nat} {k : IntKind} {a : Int} {b : Nat} (hb : b ≠ 0) : df P .rem t (.int k a) (.int k (b : Int)) = some (.int k (Int.tmod a b)) := by
 have h : n7 (b : Int) (.ofNat 0) = false := by
  cases b with
  | zero => exact absurd rfl hb
  | succ b => rfl
 have e : df P .rem t (.int k a) (.int k (b : Int)) = ae (n7 (b : Int) (.ofNat 0)) none (some (.int k (Int.tmod a b))) := by cases k <;> rfl
 rw [e, h, bcF]
theorem Bc (a : Int) {n : Nat} (h : n ≠ 0) : ∃ q : Nat, Int.tmod a n + n = q ∧ q < 2 * n := by
 have h1 := Int.tmod_lt_of_pos a (b := (n : Int)) (by omega)
 have h2 : -(n : Int) < Int.tmod a n := by
  have := Int.tmod_lt_of_pos (-a) (b := (n : Int)) (by omega)
  rw [Int.neg_tmod] at this
  omega
 exact ⟨(Int.tmod a n + n).toNat, by omega, by omega⟩
section
variable {aw : iO} {zl : List (Nat × List aa)} {E : eK} {ops : Array Oper} {o : Oper} {L : SL} {B : List bX} {G G2 : List Part} {m n : Nat} {R : SL → List bX → List Part → Prop} {P : Program}
theorem Qd {t e k off c j q : Nat} {ti : TI} {x : Operand} {v : aa} {rows : List (List aa)} {cap : Option Nat} (hX : TK P aw zl) (ho : o.op = .load t x) (ht : bY aw t = some (ti, q)) (hag : ti.agg = false) (hx : cU P L x = some (.ptr k (Nat.add off (Nat.mul j 1)))) (hG : aS G (aL e 1 (.slice k off c cap) rows) G2) (hr : rows[j]? = some [v]) (hw : aT ops o L = some true) (hf : fits o.dst n = true) (hk : R (bm o.dst (.ext v) L) B G) : bW P K E ops o L B G m n R :=
 qv hw hf (fun κ h L0 r M => V.Je hX ho ht hag hx hr r (M.aZ.all _ (List.mem_append_right _ hG.mem))) hk
end
theorem FY {l : List Nat} {k v : Nat} : (([] : List (List aa)) ++ l.map gj).set k [.int .u32 (v : Int)] = (l.set k v).map gj := by
 rw [List.nil_append, List.map_set]; rfl
theorem Ey (hK : KN base K) (hL : KL base K) (hR : KR base K) (c : aR) (hV : V c = true) (pv sv iv : aa) (a : Int) (ha : -9223372036854775808 ≤ a ∧ a ≤ 9223372036854775807) (more : Nat) (hm : more < 4294967296) (h : Heap) (w : Wf h) (hB : (lies base).holds h) (hr : (gG c pv sv iv).holds h) :
  Sp P K 6 [iL c pv sv iv, .int .i64 a, .int .u32 (more : Int)] h (iw (.bool true) h) := by
 have hlp := aV hr.1
 have hls := aV hr.2.1
 have hli := aV hr.2.2
 have hfine := fy hV
 have hfair := tf hfine
 have hok := hfair.ok
 have hr' := xi hr
 have htl := I7 hV
 have htb := su (mj hV)
 have hwl := qJ hfine
 have hw1 : 1 ≤ (aW c).length := by simp [aW]
 have hlt := AF hfine
 refine Sp.start (m := 166153499492457297226809949466525647) (n := 155) w (hK.none 6 rfl rfl _ _) Tryz.func6 rfl rfl Mm rfl rfl ?_
 repeat' (first | refine ax.a_ ?_ | refine ai.s_ ?_ | (refine X 0 ?_; (iterate 2 refine J Z ?_) <;> (refine Y Z ?_)) | (refine X 1 ?_; (refine J Z ?_) <;> ((refine .cons (fD Z Z Z Z R4 Z Z (fun h f => AE hK c.gM pv sv iv h f.wf hok (f.ro (.of hr'))) ?_)) <;> (rintro v C' ⟨(_ | _), rfl, hb, rfl⟩)) <;> (iterate 2 refine J Z ?_) <;> (first | (refine J Z ?_) | (refine .cons (aE Z Z Z Z Er Z Z (fun h f => pQ hK c hV pv sv iv h f.wf (f.ro (.of hB)) (f.ro (.of hr))) ?_))) <;> (iterate 2 refine J Z ?_) <;> (refine Y Z ?_)) | (refine X 2 ?_; (refine .cons (aE Z Z Z Z Qy Z Z (fun h f => tB hK h f.wf (f.ro (.of hB))) ?_)) <;> (refine J Z ?_) <;> (refine Y Z ?_)) | (refine X 3 ?_; (refine J Z ?_) <;> ((refine .cons (fD Z Z Z Z ca9 Z Z (fun h f => C6 hK c hV pv sv iv h f.wf (f.ro (.of hB)) (f.ro (.of hr))) ?_)) <;> (rintro v C' ⟨x1, rfl, rfl, ⟨k1, n1, rfl⟩⟩)) <;> (iterate 5 refine J Z ?_) <;> (refine Y Z ?_)) | (refine X 4 ?_; (refine J Z ?_) <;> (refine .cons (aE Z Z Z Z QK Z Z (fun h f => G6 hK hL c hV pv sv iv h f.wf (f.ro (.of hB)) (f.ro (.of hr))) ?_)) <;> (iterate 5 refine J Z ?_) <;> (refine Y Z ?_)) | (refine X 5 ?_; (refine J Z ?_) <;> ((refine .cons (fD Z Z Z Z NQ Z Z (fun h f => Ca hK c hV (.slice k1 0 n1 none) ⟨_, _, Z⟩ h f.wf (f.ro (.of hB)) (f.pick .h)) ?_)) <;> (rintro v C' ⟨pa, sa, ia, rfl, rfl⟩)) <;> (iterate 6 refine J Z ?_) <;> (refine Y Z ?_)) | (refine X 6 ?_; (refine J Z ?_) <;> ((refine .cons (fD Z Z Z Z Pj Z Z (fun h f => FI hK hL hR (bM c) htb (by omega) h f.wf (f.ro (.of hB))) ?_)) <;> (rintro v C' (⟨d, pb, sb, ib, hvd, htd, rfl, rfl⟩ | ⟨hn, rfl, rfl⟩))) <;> (iterate 6 refine J Z ?_) <;> (refine Y Z ?_)) | refine ai.r_ ?_ | refine ax.d_ ?_ | refine ai.t_ rfl ?_ | refine ai.f_ rfl ?_ | refine ai.k_ ?_ | refine ax.r_ hX rfl ?_)
 ·have e : c = d := (I8 hvd hV htd).symm
  subst e
  simp only [fm, List.append_nil, List.cons_append, List.nil_append]
  refine ai.fact (p := dO pb = some c.params.length) (fun h f => by have := aV (aL.rd (f.pick .h)); simpa using this) fun g1 => ?_
  refine ai.fact (p := dO sb = some c.shared.length) (fun h f => by have := aV (aL.rd (f.pick (.t .h))); simpa using this) fun g2 => ?_
  refine ai.fact (p := dO ib = some c.aq.length) (fun h f => by have := aV (aL.rd (f.pick (.t (.t .h)))); simpa using this) fun g3 => ?_
  refine ai.fact (p := dO pa = some c.params.length) (fun h f => by have := aV (aL.rd (f.pick (.t (.t (.t .h))))); simpa using this) fun g4 => ?_
  refine ai.fact (p := dO sa = some c.shared.length) (fun h f => by have := aV (aL.rd (f.pick (.t (.t (.t (.t .h)))))); simpa using this) fun g5 => ?_
  refine ai.fact (p := dO ia = some c.aq.length) (fun h f => by have := aV (aL.rd (f.pick (.t (.t (.t (.t (.t .h))))))); simpa using this) fun g6 => ?_
  refine ai.fact (p := n1 = (aW c).length) (fun h f => by have := aV (aL.rd (f.pick (.t (.t (.t (.t (.t (.t .h)))))))); simpa [dO] using this) fun g7 => ?_
  subst g7
  obtain ⟨q1, hq1, hq2⟩ := Bc a (n := (aW c).length) (by omega)
  obtain ⟨q3, hq3, hq4⟩ := Bc a (n := (bM c).length) (by omega)
  repeat' (first | refine ax.a_ ?_ | refine ai.s_ ?_ | (refine X 7 ?_; (refine J Z ?_) <;> ((refine .cons (qc Z ?_ ?_)) <;> intro _) <;> (iterate 15 refine J Z ?_) <;> (first | (refine J Z ?_) | (refine .cons (aE Z Z Z Z NP Z Z (fun h f => yr hK c hV pa sa ia pv sv iv h f.wf ⟨aL.rd (f.pick (.t (.t (.t .h)))), aL.rd (f.pick (.t (.t (.t (.t .h))))), aL.rd (f.pick (.t (.t (.t (.t (.t .h))))))⟩ (f.ro (.of hr))) ?_))) <;> (iterate 5 refine J Z ?_) <;> (first | (refine J Z ?_) | (refine .cons (aE Z Z Z Z NP Z Z (fun h f => yr hK c hV pb sb ib pv sv iv h f.wf ⟨aL.rd (f.pick .h), aL.rd (f.pick (.t .h)), aL.rd (f.pick (.t (.t .h)))⟩ (f.ro (.of hr))) ?_))) <;> (iterate 12 refine J Z ?_) <;> (refine Y Z ?_)) | (refine X 8 ?_; (refine J Z ?_) <;> (refine Y Z ?_)) | (refine X 9 ?_; (iterate 3 refine J Z ?_) <;> (refine .cons (qn Z Z Z (Cy (b := (aW c).length) (by omega)) Z Z ?_)) <;> (iterate 2 refine J Z ?_) <;> (refine .cons (qa (d := (q1 : Int)) Z Z Z Z Z (by rw [hq1]; exact cC (by omega)) Z Z ?_)) <;> (iterate 2 refine J Z ?_) <;> (refine .cons (qn Z Z Z (rS (a := q1) (b := (aW c).length) (by omega)) Z Z ?_)) <;> (refine J Z ?_) <;> (refine Y Z ?_)) | refine ai.r_ ?_ | refine ax.d_ ?_ | refine ai.t_ rfl ?_ | refine ai.f_ rfl ?_ | refine ai.k_ ?_ | refine ax.r_ hX rfl ?_)
  ·rename_i e
   exact absurd rfl e
  have hkl : q1 % (aW c).length < (aW c).length := Nat.mod_lt _ (by omega)
  generalize q1 % (aW c).length = k at hkl ⊢
  clear hq1 hq2
  obtain ⟨wk, hwk⟩ : ∃ wk, (aW c).getD k 0 = wk := ⟨_, rfl⟩
  have hwkl : wk < 4294967296 := by rw [← hwk]; exact hlt _ (bh 0 hkl)
  obtain ⟨wn, hwn⟩ : ∃ wn, (wk + more) % 4294967296 = wn := ⟨_, rfl⟩
  repeat' (first | refine ax.a_ ?_ | refine ai.s_ ?_ | (refine X 10 ?_; (iterate 2 refine J Z ?_) <;> ((refine .cons (IB (rows := []) hX Z Z Z Z Z Z Z Z Z Z Z Z NV Z Z Z Z (by simp) Z Z (.t (.t (.t (.t (.t (.t .h)))))) (by rw [List.length_map]; omega) (fun _ e => by cases e) Z (by rw [List.length_map]; omega) Z Z ?_)) <;> (intro k2)) <;> (refine J Z ?_) <;> (refine Y Z ?_)) | (refine X 11 ?_; (iterate 4 refine J Z ?_) <;> (refine .cons (qV (j := k) hX Z Z Z Z Z (by simp only [List.length_map]; omega) Z Z ?_)) <;> (refine .cons (Qd (v := .int .u32 (wk : Int)) hX Z Z Z Z .h (Is 0 hkl hwk) Z Z ?_)) <;> (refine J Z ?_) <;> (refine .cons (qa (d := (wn : Int)) Z Z Z Z Z (by rw [ju]; omega) Z Z ?_)) <;> (refine .cons (qV (j := k) hX Z Z Z Z Z (by simp only [List.length_map]; omega) Z Z ?_)) <;> (refine .cons (Ow hX Z Z Z Z Z .h (by simp only [List.nil_append, List.length_map]; omega) Z Z Z ?_)) <;> (refine Y Z ?_)))
  rw [FY]
  have htd : ∀ d, V d = true → ∀ j, j < (bM c).length → bM d = (bM c).take j ++ (bM c).drop (j + 1) → d ≠ c := fun d hd j hj e h => by
   rw [h] at e
   have := congrArg List.length e
   rw [List.length_append, List.length_take, List.length_drop] at this
   omega
  by_cases hm0 : more = 0
  case' pos =>
   have e1 : wn = wk := by rw [← hwn, hm0, Nat.add_zero, Nat.mod_eq_of_lt hwkl]
   have e2 : (aW c).set k wn = aW c := by
    rw [e1, ← hwk]
    refine List.ext_getElem (by simp) fun i h1 h2 => ?_
    rw [List.getElem_set]
    split
    ·rename_i e; subst e; simp [List.getD, List.getElem?_eq_getElem h2]
    ·rfl
   rw [e2]
   repeat' (first | refine ax.a_ ?_ | refine ai.s_ ?_ | (refine X 12 ?_; (refine J Z ?_) <;> ((refine .cons (fD Z Z Z Z NQ Z Z (fun h f => Ca hK c hV (.slice k2 0 (0 + (List.map gj (aW c)).length) none) ⟨_, _, Z⟩ h f.wf (f.ro (.of hB)) (f.pick .h)) ?_)) <;> (rintro v C' ⟨pe, se, ie, rfl, rfl⟩)) <;> (iterate 6 refine J Z ?_) <;> (refine Y Z ?_)) | (refine X 13 ?_; (refine J Z ?_) <;> ((refine .cons (qc Z ?_ ?_)) <;> (intro _; first | (exfalso; omega) | skip)) <;> (iterate 4 refine J Z ?_) <;> (refine Y Z ?_)) | refine ai.f_ rfl ?_ | refine ai.k_ ?_)
  case' neg =>
   have e1 : (aW c)[k]? = some wk := by rw [← hwk]; simp [List.getD, List.getElem?_eq_getElem hkl]
   have e2 := Ar (V := V) (fun _ h => fy h) (w := wn) e1 hwkl (by omega) (by omega)
   have e3 : ∀ x ∈ (aW c).set k wn, x < 4294967296 := fun x hx => by
    rcases List.mem_or_eq_of_mem_set hx with hx | rfl
    ·exact hlt x hx
    ·omega
   repeat' (first | refine ax.a_ ?_ | refine ai.s_ ?_ | (refine X 12 ?_; (refine J Z ?_) <;> (refine .cons (aE Z Z Z Z NQ Z Z (fun h f => JO hK _ e2 e3 (by rw [List.length_set]; omega) (.slice k2 0 (0 + (List.map gj (aW c)).length) none) ⟨_, _, Z⟩ h f.wf (f.ro (.of hB)) (f.pick .h)) ?_)) <;> (iterate 6 refine J Z ?_) <;> (refine Y Z ?_)) | (refine X 13 ?_; (refine J Z ?_) <;> ((refine .cons (qc Z ?_ ?_)) <;> (intro _; first | (exfalso; omega) | skip)) <;> (iterate 4 refine J Z ?_) <;> (refine Y Z ?_)) | refine ai.f_ rfl ?_ | refine ai.k_ ?_)
  all_goals
   repeat' (first | refine ax.a_ ?_ | refine ai.s_ ?_ | (refine X 15 ?_; (iterate 3 refine J Z ?_) <;> (refine .cons (qn Z Z Z (Cy (b := (bM c).length) (by omega)) Z Z ?_)) <;> (iterate 2 refine J Z ?_) <;> (refine .cons (qa (d := (q3 : Int)) Z Z Z Z Z (by rw [hq3]; exact cC (by omega)) Z Z ?_)) <;> (iterate 2 refine J Z ?_) <;> (refine .cons (qn Z Z Z (rS (a := q3) (b := (bM c).length) (by omega)) Z Z ?_)) <;> (refine J Z ?_) <;> (refine Y Z ?_)))
   have hjl : q3 % (bM c).length < (bM c).length := Nat.mod_lt _ (by omega)
   generalize q3 % (bM c).length = j at hjl ⊢
   have hcut : ((bM c).take j ++ (bM c).drop (j + 1)).length ≤ 500000 := by
    rw [List.length_append, List.length_take, List.length_drop]; omega
   have hcb : dM ((bM c).take j ++ (bM c).drop (j + 1)) := .app (fun x hx => htb x (List.mem_of_mem_take hx)) (fun x hx => htb x (List.mem_of_mem_drop hx))
   repeat' (first | refine ax.a_ ?_ | refine ai.s_ ?_ | (refine ai.draw (id := 16) aw [0, 1, 2, 3, 4, 5, 6, 7, 12, 8, 9, 11, 10, 13, 14] #[0, 0, 3, 0, 0, 16, 56, 127, 255, 511, 1023, 1023, 0, 6143, 16383] (by kernel_rfl) (by kernel_rfl) (by kernel_rfl) ?_; (iterate 2 refine O Z Z Z ?_) <;> (refine iZ.sub (bs := bM c) (lo := 0) (hi := j) (r := (bM c).take j) hX Z Z Z Z Z Z Z Z Z (Nat.zero_le _) (by omega) htb (by rw [List.drop_zero]) Z Z ?_) <;> (iterate 2 refine O Z Z Z ?_) <;> ((refine .cons Z (qa (d := ((j + 1 : Nat) : Int)) Z Z Z Z Z (by rw [show ((j : Int) + 1) = ((j + 1 : Nat) : Int) from Z]; exact cC (by omega)) Z Z ?_)) <;> refine W_ Z ?_) <;> (refine iZ.sub (bs := bM c) (lo := j + 1) (hi := (bM c).length) (r := (bM c).drop (j + 1)) hX Z Z Z Z Z Z Z Z Z (by omega) (Nat.le_refl _) htb (by rw [List.take_length]) Z Z ?_) <;> ((refine .cons Z (MK (a := (bM c).take j) (b := (bM c).drop (j + 1)) Z Z Z (by rw [List.length_take, List.length_drop]; omega) Z Z ?_)) <;> refine W_ Z ?_) <;> (refine O Z Z Z ?_) <;> ((refine .cons Z (fD Z Z Z Z Pj Z Z (fun h f => FI hK hL hR ((bM c).take j ++ (bM c).drop (j + 1)) hcb hcut h f.wf (f.ro (.of hB))) ?_)) <;> (rintro v C' (⟨d, pd, sd, id, hvd2, htd2, rfl, rfl⟩ | ⟨hn, rfl, rfl⟩)) <;> refine W_ Z ?_) <;> (iterate 5 refine O Z Z Z ?_) <;> (refine .nil ⟨?_, .intro Z ?_⟩ <;> (repeat' (first | exact trivial | exact .inl Z | refine ⟨?_, ?_⟩)))) | refine ai.r_ ?_)
  all_goals try
   simp only [fm, List.append_nil, List.cons_append, List.nil_append]
   refine ai.fact (p := dO pd = some d.params.length) (fun h f => by have := aV (aL.rd (f.pick .h)); simpa using this) fun u1 => ?_
   refine ai.fact (p := dO sd = some d.shared.length) (fun h f => by have := aV (aL.rd (f.pick (.t .h))); simpa using this) fun u2 => ?_
   refine ai.fact (p := dO id = some d.aq.length) (fun h f => by have := aV (aL.rd (f.pick (.t (.t .h)))); simpa using this) fun u3 => ?_
  all_goals
   repeat' (first | refine ax.a_ ?_ | (refine X 17 ?_; (refine J Z ?_) <;> ((refine .cons (qc Z ?_ ?_)) <;> intro _) <;> (iterate 6 refine J Z ?_) <;> (first | (refine J Z ?_) | (refine .cons (aE Z Z Z Z NP Z Z (fun h f => JN hK d c (fy hvd2) hfine (htd d hvd2 j hjl htd2) pd sd id pv sv iv h f.wf ⟨aL.rd (f.pick .h), aL.rd (f.pick (.t .h)), aL.rd (f.pick (.t (.t .h)))⟩ (f.ro (.of hr))) ?_))) <;> (iterate 4 refine J Z ?_) <;> (first | (refine J Z ?_) | (refine .cons (aE Z Z Z Z Qy Z Z (fun h f => tB hK h f.wf (f.ro (.of hB))) ?_))) <;> (iterate 2 refine J Z ?_) <;> (refine Y Z ?_)) | refine ai.r_ ?_ | refine ax.r_ hX rfl ?_)
  all_goals first | exact fun h f => ⟨rfl, f.aZ.bu .nil⟩ | (rename_i e; exact absurd rfl e)
 ·exact absurd rfl (hn c hV)
 ·exact fun h f => ⟨rfl, f.aZ.bu .nil⟩
end Ev
end Go.HL
namespace Go.HL
open Go Go.Proofs
namespace Ev
open Em
set_option maxRecDepth 10000
set_option maxHeartbeats 8000000
variable {K : ah} {base : List (Nat × aG)}
theorem Ki (hK : KN base K) (hL : KL base K) (hR : KR base K) (c : br) (hc : c.Ok) (pv sv iv : aa) (a : Int) (ha : -9223372036854775808 ≤ a ∧ a ≤ 9223372036854775807) (more : Nat) (hm : more < 4294967296) (h : Heap) (w : Wf h) (hB : (lies base).holds h) (hr : (n8 c.gM pv sv iv).holds h) :
  Sp P K 6 [cv c.gM pv sv iv, .int .i64 a, .int .u32 (more : Int)] h (iw (.bool true) h) := by
 have hok := hc.ok
 have hlp := aV hr.1
 have hls := aV hr.2.1
 have hli := aV hr.2.2
 cases hv : c.gM.dm with
 | false =>
  refine Sp.start (m := 166153499492457297226809949466525647) (n := 155) w (hK.none 6 rfl rfl _ _) Tryz.func6 rfl rfl Mm rfl rfl ?_
  repeat' (first | refine ax.a_ ?_ | refine ai.s_ ?_ | (refine X 0 ?_; (iterate 2 refine J Z ?_) <;> (refine Y Z ?_)) | (refine X 1 ?_; (refine J Z ?_) <;> ((refine .cons (fD Z Z Z Z R4 Z Z (fun h f => AE hK c.gM pv sv iv h f.wf hok (f.ro (.of hr))) ?_)) <;> (rintro v C' ⟨(_ | _), rfl, hb, rfl⟩)) <;> (iterate 2 refine J Z ?_) <;> (first | (refine J Z ?_) | (refine .cons (aE Z Z Z Z Er Z Z (fun h f => (hv ▸ lA hK c.gM pv sv iv h f.wf (f.ro (.of hB)) hok (f.ro (.of hr)))) ?_))) <;> (iterate 2 refine J Z ?_) <;> (refine Y Z ?_)) | (refine X 2 ?_; (refine .cons (aE Z Z Z Z Qy Z Z (fun h f => tB hK h f.wf (f.ro (.of hB))) ?_)) <;> (refine J Z ?_) <;> (refine Y Z ?_)) | refine ai.r_ ?_ | refine ax.d_ ?_ | refine ai.t_ rfl ?_ | refine ax.r_ hX rfl ?_)
  all_goals exact fun h f => ⟨rfl, f.aZ.bu .nil⟩
 | true =>
  rw [← CX hv]
  exact Ey hK hL hR c.CY (I5 hc hv) pv sv iv a ha more hm h w hB (Mc hv hr)
end Ev
end Go.HL
