/- The walk: code as words, by both sides. No statement of the seat stands here. -/
import Derived.Test.YtngeipnhbigdmaaGreatDoorMC
import Derived.Test.YtngeipnhbigdmaaGreatDoorXC
set_option linter.unusedVariables false
set_option linter.unusedSimpArgs false
namespace Go.HL
open Go Go.Proofs
namespace Em
set_option maxRecDepth 10000
variable {K : ai} {base : List (Nat × aE)}
/-! ## Bytes of a string -/
theorem qH (l m : List Nat) (a : Nat) : aO (l ++ m) a = aO m (aO l a) := List.foldl_append
theorem xI : ∀ {l : List Nat}, (∀ x ∈ l, x < 256) → ∀ (a : Nat), aO l a / 256 ^ l.length = a
 | [], _, a => by simp [aO]
 | x :: l, h, a => by
  have hx := h x (by simp)
  have ih := xI (l := l) (fun y hy => h y (by simp [hy])) (a * 256 + x)
  show aO l (a * 256 + x) / 256 ^ (l.length + 1) = a
  rw [Nat.pow_succ, ← Nat.div_div_eq_div_mul, ih]
  omega
theorem dN {b : List Nat} (h : ∀ x ∈ b, x < 256) {j : Nat} (hj : j < b.length) : dP b.length (aO b 0) j = b.getD j 0 := by
 have e1 : b = b.take (j + 1) ++ b.drop (j + 1) := (List.take_append_drop _ _).symm
 have e2 := xI (l := b.drop (j + 1)) (fun y hy => h y (List.mem_of_mem_drop hy)) (aO (b.take (j + 1)) 0)
 rw [← qH, ← e1, List.length_drop] at e2
 unfold dP
 show aO b 0 / 2 ^ (8 * (b.length - (j + 1))) % 256 = _
 rw [Nat.pow_mul, show (2 : Nat) ^ 8 = 256 by decide, e2, take_succ hj 0, qH]
 have := h _ (aY 0 hj)
 show (aO (b.take j) 0 * 256 + b.getD j 0) % 256 = _
 omega
end Em
end Go.HL
namespace Go.HL
open Go Go.Proofs
namespace Em
set_option maxRecDepth 10000
set_option maxHeartbeats 4000000
variable {K : ai} {base : List (Nat × aE)}
def pg (c : bg) (pv sv iv : ad) : Part := (rd pv 2 (c.params.map sq)).both ((rd sv 2 (c.shared.map Bf)).both (rd iv 8 (c.ay.map ez)))
def lT : List Nat × Bool := ([], false)
def lU : List Nat × Nat := ([], 0)
theorem eQ {α : Type} {l : List α} {g : α → List Nat} {i : Nat} (hi : i < l.length) (d : α) : (l.take (i + 1)).flatMap g = (l.take i).flatMap g ++ g (l.getD i d) := by
 rw [take_succ hi d, List.flatMap_append]; simp
end Em
end Go.HL
namespace Go.HL
open Go Go.Proofs
namespace Em
set_option maxRecDepth 10000
variable {K : ai} {base : List (Nat × aE)}
end Em
end Go.HL
namespace Go.HL
open Go
namespace Em
def bg.iw (c : bg) : az := ⟨c.name.length, aO c.name 0, c.params.map fun p => (p.1.length, aO p.1 0, p.2), c.shared.map fun a => (a.1.length, aO a.1 0, (a.2 : Int)), (c.local : Int), c.ay⟩
structure r4 (c : bg) : Prop where
 name : jG c.name
 params : c.params.length ≤ 6
 eW : ∀ p ∈ c.params, jG p.1
 shared : c.shared.length ≤ 4
 dX : ∀ p ∈ c.shared, jG p.1 ∧ p.2 ≤ 64
 «local» : c.local ≤ 64
 ay : c.ay.length ≤ 2000
 each : ∀ x ∈ c.ay, -2147483648 ≤ x.cL ∧ x.cL ≤ 2147483647
theorem rD {b : List Nat} (h : jG b) : nE (b.length, aO b 0) := by
 refine ⟨Nat.le_trans h.1 (by decide), ?_⟩
 cases b with
 | nil => exact .inr rfl
 | cons x b => exact .inl (Nat.succ_pos _)
theorem r4.ok {c : bg} (f : r4 c) : gk c.iw := by
 refine ⟨rD f.name, ?_, ?_, ?_, ?_, ?_, f.each⟩
 ·have := f.params; simp only [bg.iw, List.length_map]; omega
 ·intro p hp
  obtain ⟨q, hq, rfl⟩ := List.mem_map.1 hp
  exact rD (f.eW q hq)
 ·have := f.shared; simp only [bg.iw, List.length_map]; omega
 ·intro p hp
  obtain ⟨q, hq, rfl⟩ := List.mem_map.1 hp
  exact rD (f.dX q hq).1
 ·have := f.ay; simp only [bg.iw]; omega
theorem HI {c : bg} {pv sv iv : ad} {h : Heap} (r : (pg c pv sv iv).holds h) : (ke c.iw pv sv iv).holds h := by
 refine ⟨?_, ?_, r.2.2⟩
 ·have := r.1
  unfold bg.iw
  simp only [List.map_map]
  exact this
 ·have := r.2.1
  unfold bg.iw
  simp only [List.map_map]
  exact this
theorem eA {b : Bool} {n bX : Int} (h : bS b n bX = true) (hl : 0 < bX) : 0 ≤ n ∧ n < bX := by
 unfold bS at h
 cases b
 ·simp at h; omega
 ·simpa using h
theorem Fj {op : Int} (h : cY op = true) : 0 ≤ op ∧ op < 20 := by
 unfold cY jk at h
 split at h
 ·omega
 ·split at h
  ·omega
  ·split at h
   ·omega
   ·split at h
    ·omega
    ·cases h
theorem MF {k : Nat} (h : k < 16) : 0 ≤ (U k).ops ∧ (U k).ops ≤ 20 := by
 have : k = 0 ∨ k = 1 ∨ k = 2 ∨ k = 3 ∨ k = 4 ∨ k = 5 ∨ k = 6 ∨ k = 7 ∨ k = 8 ∨ k = 9 ∨ k = 10 ∨ k = 11 ∨ k = 12 ∨ k = 13 ∨ k = 14 ∨ k = 15 := by omega
 rcases this with rfl | rfl | rfl | rfl | rfl | rfl | rfl | rfl | rfl | rfl | rfl | rfl | rfl | rfl | rfl | rfl <;> decide
theorem Cr {f : az} {x : bI} (h : f.ju x = true) (hn : 1 ≤ f.ay.length ∧ f.ay.length ≤ 2000) (hi : -2147483648 ≤ x.cL ∧ x.cL ≤ 2147483647) : nG x := by
 unfold az.ju at h
 simp only [Bool.and_eq_true, decide_eq_true_eq] at h
 obtain ⟨⟨⟨⟨⟨⟨⟨hk, ho⟩, hd⟩, ha⟩, hb⟩, _⟩, ht⟩, hj⟩ := h
 have h1 := eA hd (by decide)
 have h2 := eA ha (by decide)
 have h3 := eA hb (by decide)
 have h4 := eA ht (by omega)
 have h5 := eA hj (by omega)
 have h6 : 0 ≤ x.op ∧ x.op < 256 := by
  split at ho
  ·have := Fj ho; omega
  ·have hu := MF (k := x.kind.toNat) (by omega)
   unfold bS at ho
   split at ho
   ·simp at ho; omega
   ·simp at ho; omega
 exact ⟨by omega, h6, by omega, by omega, by omega, hi, by omega, by omega⟩
theorem rE {b : List Nat} (h : jV (b.length, aO b 0) = true) : b.length ≤ 16 := by
 unfold jV at h
 simp at h
 exact h.1.2
def mh (b : List Nat) : Bool := b.all fun x => decide (x < 256)
def V (c : bg) : Bool := mh c.name && c.params.all (fun p => mh p.1) && c.shared.all (fun p => mh p.1) && c.ay.all (fun x => decide (-2147483648 ≤ x.cL ∧ x.cL ≤ 2147483647)) && c.iw.cF
theorem jC {b : List Nat} : mh b = true ↔ ∀ x ∈ b, x < 256 := by simp [mh]
theorem w5 {c : bg} (h : V c = true) : w9 c := by
 unfold V at h
 simp only [Bool.and_eq_true, List.all_eq_true, decide_eq_true_eq, jC] at h
 obtain ⟨⟨⟨⟨hb, hp⟩, hs⟩, hi⟩, hv⟩ := h
 unfold az.cF az.nk az.gg az.cB at hv
 simp only [Bool.and_eq_true, decide_eq_true_eq, List.all_eq_true] at hv
 obtain ⟨⟨⟨⟨⟨⟨⟨⟨⟨h1, h2⟩, h3⟩, h4⟩, h5⟩, _⟩, h6⟩, h7⟩, _⟩, h8⟩ := hv
 simp only [bg.iw, List.length_map] at h2 h3 h6 h7
 refine ⟨⟨rE h1, hb⟩, h2, fun p hpm => ⟨?_, hp p hpm⟩, h3, fun p hpm => ?_, by omega, h7.2, fun x hx => Cr (h8 x hx) h7 (hi x hx)⟩
 ·have := h4 _ (List.mem_map.2 ⟨p, hpm, rfl⟩)
  exact rE this
 ·have := h5 _ (List.mem_map.2 ⟨p, hpm, rfl⟩)
  unfold eS at this
  simp only [Bool.and_eq_true, decide_eq_true_eq] at this
  exact ⟨⟨rE this.1.1, hs p hpm⟩, by omega⟩
/-! ## What was read is fair -/
end Em
end Go.HL
namespace Go.HL
open Go Go.Proofs
namespace Em
set_option maxRecDepth 10000
set_option maxHeartbeats 4000000
variable {K : ai} {base : List (Nat × aE)}
end Em
end Go.HL
namespace Go.HL
open Go Go.Proofs
namespace Em
set_option maxRecDepth 10000
variable {K : ai} {base : List (Nat × aE)}
theorem FP {t a b : Nat} (ha : a < 4294967296) (hb : b ≠ 0) : eH P .quo t (.int .i64 (a : Int)) (.int .i64 (b : Int)) = some (.int .i64 ((a / b : Nat) : Int)) := by
 have := Nat.div_le_self a b
 rw [Jg hb, wb (by omega)]
theorem NC : ar P 8 := ⟨_, _, Tryz.func8, rfl, by kernel_rfl, rfl⟩
theorem rY (hK : KN base K) (h : Heap) (w : Wf h) (hB : (lies base).holds h) : Sp P K 8 [] h (dE (.bool true) h) := .known (hK.Mz h hB) ⟨rfl, fL.refl w⟩
end Em
end Go.HL
namespace Go.HL
open Go Go.Proofs
namespace Em
set_option maxRecDepth 10000
variable {K : ai} {base : List (Nat × aE)}
end Em
end Go.HL
namespace Go.HL
open Go Go.Proofs
namespace Em
set_option maxRecDepth 10000
variable {K : ai} {base : List (Nat × aE)}
end Em
end Go.HL
namespace Go.HL
open Go Go.Proofs
namespace Em
set_option maxRecDepth 10000
variable {K : ai} {base : List (Nat × aE)}
end Em
end Go.HL
namespace Go.HL
open Go Go.Proofs
namespace Em
set_option maxRecDepth 10000
variable {K : ai} {base : List (Nat × aE)}
end Em
end Go.HL
namespace Go.HL
open Go Go.Proofs
namespace Em
set_option maxRecDepth 10000
variable {K : ai} {base : List (Nat × aE)}
theorem zw (n c : Nat) : zx n c n c = true := by simp [zx]
theorem LG (n c : Nat) (b : Bool) : eH P .neq 70 (.agg [.str n c, .bool b]) (.agg [.str n c, .bool b]) = some (.bool false) := by
 have e : eH P .neq 70 (.agg [.str n c, .bool b]) (.agg [.str n c, .bool b]) = ob (ae (zx n c n c) (ae (b == b) (some true) (some false)) (some false)) fun b => some (.bool (ae b false true)) := by kernel_rfl
 rw [e, zw, beq_self_eq_true]; rfl
theorem Ah (i : Int) : sH i i = true := by cases i <;> simp [sH]
theorem LF (n c : Nat) (i : Int) : eH P .neq 72 (.agg [.str n c, .int .i64 i]) (.agg [.str n c, .int .i64 i]) = some (.bool false) := by
 have e : eH P .neq 72 (.agg [.str n c, .int .i64 i]) (.agg [.str n c, .int .i64 i]) = ob (ae (zx n c n c) (ae (sH i i) (some true) (some false)) (some false)) fun b => some (.bool (ae b false true)) := by kernel_rfl
 rw [e, zw, Ah]; rfl
theorem LD (x : bI) : eH P .neq 74 (.agg (ez x)) (.agg (ez x)) = some (.bool false) := by
 obtain ⟨a1, a2, a3, a4, a5, a6, a7, a8⟩ := x
 have e : eH P .neq 74 (.agg (ez ⟨a1, a2, a3, a4, a5, a6, a7, a8⟩)) (.agg (ez ⟨a1, a2, a3, a4, a5, a6, a7, a8⟩)) = ob (ae (sH a1 a1) (ae (sH a2 a2) (ae (sH a3 a3) (ae (sH a4 a4) (ae (sH a5 a5) (ae (sH a6 a6) (ae (sH a7 a7) (ae (sH a8 a8) (some true) (some false)) (some false)) (some false)) (some false)) (some false)) (some false)) (some false)) (some false)) fun b => some (.bool (ae b false true)) := by kernel_rfl
 have h : ∀ i : Int, sH i i = true := Ah
 rw [e]
 simp only [h, bcT, obS]
theorem mask46 : Nat.lor (jm Tryz.f46) (Nat.sub (Nat.pow 2 2) 1) = 33571891 := by kernel_rfl
theorem um (hK : KN base K) (v1 v2 : ad) (l : List (List Nat × Bool)) (h : Heap) (w : Wf h) (r1 : (rd v1 2 (l.map sq)).holds h) (r2 : (rd v2 2 (l.map sq)).holds h) (hb : l.length ≤ 4611686018427387904) :
  Sp P K 46 [v1, v2] h (dE (.bool true) h) := by
 have hlen1 := bG r1
 have hlen2 := bG r2
 refine Sp.start (m := 33571891) (n := 26) w (hK.none 46 rfl rfl _ _) Tryz.func46 rfl rfl mask46 rfl rfl ?_
 repeat' (first | refine aw.a_ ?_ | refine ag.s_ ?_ | (refine X 0 ?_; (refine J Z ?_) <;> (refine Y Z ?_)) | (refine X 1 ?_; (refine J Z ?_) <;> (refine .cons (ql hX Z Z Z Z Z Z (by assumption) Z Z ?_)) <;> (refine J Z ?_) <;> (refine .cons (ql hX Z Z Z Z Z Z (by assumption) Z Z ?_)) <;> ((refine .cons (qc Z ?_ ?_)) <;> intro _) <;> (refine Y Z ?_)) | (refine X 2 ?_; (refine J Z ?_) <;> (refine Y Z ?_)) | (refine X 3 ?_; (refine J Z ?_) <;> (refine Y Z ?_)) | refine ag.r_ ?_ | refine aw.d_ ?_ | refine ag.t_ rfl ?_ | refine ag.f_ rfl ?_ | refine ag.k_ ?_ | refine ag.b_ ?_ | refine aw.r_ hX rfl ?_)
 ·rename_i e
  exact absurd rfl e
 refine ag.loop (ι := Nat) (fun a => [(5, .ext (i64 a)), (0, .ext v1), (1, .ext v2)]) (fun _ => []) (fun _ => []) (fun a => a ≤ l.length) (fun a => l.length - a) 0 ⟨⟨rfl, rfl, rfl, trivial⟩, ⟨_, rfl⟩, ⟨_, .nil⟩⟩ (Nat.zero_le _) (fun _ => rfl) (fun _ => rfl) (fun _ => rfl) ?_
 rintro i hi next
 repeat' (first | refine aw.a_ ?_ | refine ag.s_ ?_ | (refine X 4 ?_; (iterate 2 refine J Z ?_) <;> (refine .cons (ql hX Z Z Z Z Z Z (by assumption) Z Z ?_)) <;> ((refine .cons (qc Z ?_ ?_)) <;> intro _) <;> (refine Y Z ?_)) | (refine ag.draw (id := 6) ax [0, 1, 2, 3, 4, 5, 6, 7, 8] #[0, 0, 3, 7, 0, 0, 48, 112, 255] (by kernel_rfl) (by kernel_rfl) (by kernel_rfl) ?_; (iterate 2 refine .cq hX rfl rfl rfl ?_) <;> ((refine .cons rfl (bh hX rfl rfl rfl rfl rfl (.of r1) (aN lT (by omega)) rfl rfl rfl ?_)) <;> refine ⟨_, .comp rfl, ?_⟩) <;> ((refine .cons rfl (q hX rfl ?_)) <;> refine ⟨_, .Jy hX.ax rfl rfl rfl rfl rfl rfl rfl rfl (beA rfl) rfl rfl rfl, ?_⟩) <;> (iterate 2 refine .cq hX rfl rfl rfl ?_) <;> ((refine .cons rfl (bh hX rfl rfl rfl rfl rfl (.of r2) (aN lT (by omega)) rfl rfl rfl ?_)) <;> refine ⟨_, .comp rfl, ?_⟩) <;> ((refine .cons rfl (q hX rfl ?_)) <;> refine ⟨_, .Jy hX.ax rfl rfl rfl rfl rfl rfl rfl rfl (beA rfl) rfl rfl rfl, ?_⟩) <;> ((refine .cons rfl (Nf rfl rfl rfl (LG _ _ _) rfl rfl ?_)) <;> refine ⟨_, .comp rfl, ?_⟩) <;> (refine .nil ⟨?_, .intro rfl ?_⟩ <;> (repeat' (first | exact trivial | exact .inl rfl | refine ⟨?_, ?_⟩)))) | (refine X 5 ?_; (refine J Z ?_) <;> (refine .cons (qa Z Z Z Z Z (wI (by first | omega | (simp only [Int.ofNat_eq_natCast]; omega)) (by first | omega | (simp only [Int.ofNat_eq_natCast]; omega))) Z Z ?_)) <;> (refine J Z ?_) <;> (refine Y Z ?_)) | (refine X 8 ?_; (refine J Z ?_) <;> (refine Y Z ?_)) | refine ag.r_ ?_ | refine ag.t_ rfl ?_ | refine ag.f_ rfl ?_ | refine ag.k_ ?_ | refine ag.b_ ?_ | refine ag.e_ ?_ | refine aw.e_ ?_ | refine aw.c_ ?_ | refine aw.b_ ?_ | refine aw.r_ hX rfl ?_)
 ·exact next (i + 1) _ _ _ (by omega) ⟨⟨rfl, rfl, rfl, trivial⟩, ⟨_, rfl⟩, ⟨_, .nil⟩⟩ (by omega)
 ·exact fun h f => ⟨rfl, f.aS⟩
theorem mask47 : Nat.lor (jm Tryz.f47) (Nat.sub (Nat.pow 2 2) 1) = 33571891 := by kernel_rfl
theorem uo (hK : KN base K) (v1 v2 : ad) (l : List (List Nat × Nat)) (h : Heap) (w : Wf h) (r1 : (rd v1 2 (l.map Bf)).holds h) (r2 : (rd v2 2 (l.map Bf)).holds h) (hb : l.length ≤ 4611686018427387904) :
  Sp P K 47 [v1, v2] h (dE (.bool true) h) := by
 have hlen1 := bG r1
 have hlen2 := bG r2
 refine Sp.start (m := 33571891) (n := 26) w (hK.none 47 rfl rfl _ _) Tryz.func47 rfl rfl mask47 rfl rfl ?_
 repeat' (first | refine aw.a_ ?_ | refine ag.s_ ?_ | (refine X 0 ?_; (refine J Z ?_) <;> (refine Y Z ?_)) | (refine X 1 ?_; (refine J Z ?_) <;> (refine .cons (ql hX Z Z Z Z Z Z (by assumption) Z Z ?_)) <;> (refine J Z ?_) <;> (refine .cons (ql hX Z Z Z Z Z Z (by assumption) Z Z ?_)) <;> ((refine .cons (qc Z ?_ ?_)) <;> intro _) <;> (refine Y Z ?_)) | (refine X 2 ?_; (refine J Z ?_) <;> (refine Y Z ?_)) | (refine X 3 ?_; (refine J Z ?_) <;> (refine Y Z ?_)) | refine ag.r_ ?_ | refine aw.d_ ?_ | refine ag.t_ rfl ?_ | refine ag.f_ rfl ?_ | refine ag.k_ ?_ | refine ag.b_ ?_ | refine aw.r_ hX rfl ?_)
 ·rename_i e
  exact absurd rfl e
 refine ag.loop (ι := Nat) (fun a => [(5, .ext (i64 a)), (0, .ext v1), (1, .ext v2)]) (fun _ => []) (fun _ => []) (fun a => a ≤ l.length) (fun a => l.length - a) 0 ⟨⟨rfl, rfl, rfl, trivial⟩, ⟨_, rfl⟩, ⟨_, .nil⟩⟩ (Nat.zero_le _) (fun _ => rfl) (fun _ => rfl) (fun _ => rfl) ?_
 rintro i hi next
 repeat' (first | refine aw.a_ ?_ | refine ag.s_ ?_ | (refine X 4 ?_; (iterate 2 refine J Z ?_) <;> (refine .cons (ql hX Z Z Z Z Z Z (by assumption) Z Z ?_)) <;> ((refine .cons (qc Z ?_ ?_)) <;> intro _) <;> (refine Y Z ?_)) | (refine ag.draw (id := 6) ax [0, 1, 2, 3, 4, 5, 6, 7, 8] #[0, 0, 3, 7, 0, 0, 48, 112, 255] (by kernel_rfl) (by kernel_rfl) (by kernel_rfl) ?_; (iterate 2 refine .cq hX rfl rfl rfl ?_) <;> ((refine .cons rfl (bh hX rfl rfl rfl rfl rfl (.of r1) (aN lU (by omega)) rfl rfl rfl ?_)) <;> refine ⟨_, .comp rfl, ?_⟩) <;> ((refine .cons rfl (q hX rfl ?_)) <;> refine ⟨_, .Jy hX.ax rfl rfl rfl rfl rfl rfl rfl rfl (beA rfl) rfl rfl rfl, ?_⟩) <;> (iterate 2 refine .cq hX rfl rfl rfl ?_) <;> ((refine .cons rfl (bh hX rfl rfl rfl rfl rfl (.of r2) (aN lU (by omega)) rfl rfl rfl ?_)) <;> refine ⟨_, .comp rfl, ?_⟩) <;> ((refine .cons rfl (q hX rfl ?_)) <;> refine ⟨_, .Jy hX.ax rfl rfl rfl rfl rfl rfl rfl rfl (beA rfl) rfl rfl rfl, ?_⟩) <;> ((refine .cons rfl (Nf rfl rfl rfl (LF _ _ _) rfl rfl ?_)) <;> refine ⟨_, .comp rfl, ?_⟩) <;> (refine .nil ⟨?_, .intro rfl ?_⟩ <;> (repeat' (first | exact trivial | exact .inl rfl | refine ⟨?_, ?_⟩)))) | (refine X 5 ?_; (refine J Z ?_) <;> (refine .cons (qa Z Z Z Z Z (wI (by first | omega | (simp only [Int.ofNat_eq_natCast]; omega)) (by first | omega | (simp only [Int.ofNat_eq_natCast]; omega))) Z Z ?_)) <;> (refine J Z ?_) <;> (refine Y Z ?_)) | (refine X 8 ?_; (refine J Z ?_) <;> (refine Y Z ?_)) | refine ag.r_ ?_ | refine ag.t_ rfl ?_ | refine ag.f_ rfl ?_ | refine ag.k_ ?_ | refine ag.b_ ?_ | refine ag.e_ ?_ | refine aw.e_ ?_ | refine aw.c_ ?_ | refine aw.b_ ?_ | refine aw.r_ hX rfl ?_)
 ·exact next (i + 1) _ _ _ (by omega) ⟨⟨rfl, rfl, rfl, trivial⟩, ⟨_, rfl⟩, ⟨_, .nil⟩⟩ (by omega)
 ·exact fun h f => ⟨rfl, f.aS⟩
theorem mask18 : Nat.lor (jm Tryz.f18) (Nat.sub (Nat.pow 2 2) 1) = 1153066640141713471 := by kernel_rfl
theorem zr (hK : KN base K) (c : bg) (pv sv iv pv2 sv2 iv2 : ad) (h : Heap) (w : Wf h) (b1 : c.params.length ≤ 6) (b2 : c.shared.length ≤ 4) (b3 : c.ay.length ≤ 2000) (r1 : (pg c pv sv iv).holds h) (r2 : (pg c pv2 sv2 iv2).holds h) :
  Sp P K 18 [xH c pv sv iv, xH c pv2 sv2 iv2] h (dE (.bool true) h) := by
 have li := bG r1.2.2
 have li2 := bG r2.2.2
 refine Sp.start (m := 1153066640141713471) (n := 61) w (hK.none 18 rfl rfl _ _) Tryz.func18 rfl rfl mask18 rfl rfl ?_
 repeat' (first | refine aw.a_ ?_ | refine ag.s_ ?_ | (refine X 0 ?_; (iterate 3 refine J Z ?_) <;> (refine Y Z ?_)) | (refine X 1 ?_; (iterate 4 refine J Z ?_) <;> ((refine .cons (qc Z ?_ ?_)) <;> intro _) <;> (iterate 5 refine J Z ?_) <;> (first | (refine J Z ?_) | (refine .cons (ao Z Z Z Z NK Z Z (fun h f => um hK pv pv2 c.params h f.wf (f.ro (.of r1)).1 (f.ro (.of r2)).1 (by omega)) ?_))) <;> (iterate 7 refine J Z ?_) <;> (first | (refine J Z ?_) | (refine .cons (ao Z Z Z Z NJ Z Z (fun h f => uo hK sv sv2 c.shared h f.wf (f.ro (.of r1)).2.1 (f.ro (.of r2)).2.1 (by omega)) ?_))) <;> (iterate 7 refine J Z ?_) <;> (first | (refine J Z ?_) | (refine .cons (qc Z ?_ ?_)) <;> intro _) <;> (iterate 4 refine J Z ?_) <;> (first | (refine J Z ?_) | (refine .cons (ql hX Z Z Z Z Z Z (by assumption) Z Z ?_))) <;> (iterate 2 refine J Z ?_) <;> (first | (refine J Z ?_) | (refine .cons (ql hX Z Z Z Z Z Z (by assumption) Z Z ?_))) <;> (first | (refine J Z ?_) | (refine .cons (qc Z ?_ ?_)) <;> intro _) <;> (refine J Z ?_) <;> (refine Y Z ?_)) | (refine X 2 ?_; (refine J Z ?_) <;> (refine Y Z ?_)) | (refine X 3 ?_; (refine J Z ?_) <;> (refine Y Z ?_)) | refine ag.r_ ?_ | refine aw.d_ ?_ | refine ag.t_ rfl ?_ | refine ag.f_ rfl ?_ | refine ag.k_ ?_ | refine ag.b_ ?_ | refine aw.r_ hX rfl ?_)
 ·exfalso; simp_all
 ·exfalso; simp_all
 ·exfalso; simp_all
 refine ag.loop (ι := Nat) (fun a => [(5, .ext (i64 a)), (3, .ptr 1 0), (2, .ptr 0 0)]) (fun _ => [.own [aR c.name, pv, sv, i64 c.local, iv] 26 false, .own [aR c.name, pv2, sv2, i64 c.local, iv2] 26 false]) (fun _ => []) (fun a => a ≤ c.ay.length) (fun a => c.ay.length - a) 0 ⟨⟨rfl, rfl, rfl, trivial⟩, ⟨_, rfl⟩, ⟨_, .nil⟩⟩ (Nat.zero_le _) (fun _ => rfl) (fun _ => rfl) (fun _ => rfl) ?_
 rintro i hi next
 repeat' (first | refine aw.a_ ?_ | refine ag.s_ ?_ | (refine X 4 ?_; (iterate 3 refine J Z ?_) <;> (refine .cons (ql hX Z Z Z Z Z Z (by assumption) Z Z ?_)) <;> ((refine .cons (qc Z ?_ ?_)) <;> intro _) <;> (refine Y Z ?_)) | (refine ag.draw (id := 6) ax [0, 1, 2, 3, 4, 5, 6, 7, 8, 9, 10] #[0, 1, 0, 7, 15, 0, 32, 0, 224, 480, 1023] (by kernel_rfl) (by kernel_rfl) (by kernel_rfl) ?_; (refine .cq hX rfl rfl rfl ?_) <;> ((refine .cons rfl (q hX rfl ?_)) <;> refine ⟨_, .fw hX.ax rfl rfl rfl rfl rfl rfl rfl rfl (beL (by assumption)) rfl rfl rfl, ?_⟩) <;> (refine .cq hX rfl rfl rfl ?_) <;> ((refine .cons rfl (bh hX rfl rfl rfl rfl rfl (.of r1.2.2) (aN b8 (by omega)) rfl rfl rfl ?_)) <;> refine ⟨_, .comp rfl, ?_⟩) <;> ((refine .cons rfl (q hX rfl ?_)) <;> refine ⟨_, .Jy hX.ax rfl rfl rfl rfl rfl rfl rfl rfl (beA rfl) rfl rfl rfl, ?_⟩) <;> (refine .cq hX rfl rfl rfl ?_) <;> ((refine .cons rfl (q hX rfl ?_)) <;> refine ⟨_, .fw hX.ax rfl rfl rfl rfl rfl rfl rfl rfl (beL (by assumption)) rfl rfl rfl, ?_⟩) <;> (refine .cq hX rfl rfl rfl ?_) <;> ((refine .cons rfl (bh hX rfl rfl rfl rfl rfl (.of r2.2.2) (aN b8 (by omega)) rfl rfl rfl ?_)) <;> refine ⟨_, .comp rfl, ?_⟩) <;> ((refine .cons rfl (q hX rfl ?_)) <;> refine ⟨_, .Jy hX.ax rfl rfl rfl rfl rfl rfl rfl rfl (beA rfl) rfl rfl rfl, ?_⟩) <;> ((refine .cons rfl (Nf rfl rfl rfl (LD _) rfl rfl ?_)) <;> refine ⟨_, .comp rfl, ?_⟩) <;> (refine .nil ⟨?_, .intro rfl ?_⟩ <;> (repeat' (first | exact trivial | exact .inl rfl | refine ⟨?_, ?_⟩)))) | (refine X 5 ?_; (refine J Z ?_) <;> (refine .cons (qa Z Z Z Z Z (wI (by first | omega | (simp only [Int.ofNat_eq_natCast]; omega)) (by first | omega | (simp only [Int.ofNat_eq_natCast]; omega))) Z Z ?_)) <;> (refine J Z ?_) <;> (refine Y Z ?_)) | (refine X 8 ?_; (refine J Z ?_) <;> (refine Y Z ?_)) | refine ag.r_ ?_ | refine ag.t_ rfl ?_ | refine ag.f_ rfl ?_ | refine ag.k_ ?_ | refine ag.b_ ?_ | refine ag.e_ ?_ | refine aw.e_ ?_ | refine aw.c_ ?_ | refine aw.b_ ?_ | refine aw.r_ hX rfl ?_)
 ·exact next (i + 1) _ _ _ (by omega) ⟨⟨rfl, rfl, rfl, trivial⟩, ⟨_, rfl⟩, ⟨_, .nil⟩⟩ (by omega)
 ·exact fun h f => ⟨rfl, f.aS⟩
end Em
end Go.HL
