/- The walk: names, the heads of code. No statement of the seat stands here. -/
import Derived.Test.YtngeipnhbigdmaaGreatDoorMA
set_option linter.unusedVariables false
set_option linter.unusedSimpArgs false
namespace Go.HL
open Go Go.Proofs
namespace Em
set_option maxRecDepth 10000
variable {K : ah} {base : List (Nat × aG)}
theorem OY : mT P 9 kV := JB (ml hT (t := 9) rfl)
theorem PN : ix P 4 = some (.bool false) := by kernel_rfl
structure tE (p : Nat × Nat) : Prop where
 len : p.1 ≤ 1152921504606846976
 zero : 0 < p.1 ∨ p.2 = 0
def yJ : Nat × Nat := (0, 0)
def O6 (p : Nat × Nat) (l : List (Nat × Nat)) : Bool := l.any fun q => decide (q = p)
theorem FZ (hK : KN base K) (h : Heap) (w : Wf h) (hB : (lies base).holds h) : Sp P K 149 [] h (Tr (fun v C' => ∃ k, v = .map k ∧ C' = [wo kV k ((ly.map fun q => (q, true)).map kO)]) h) :=
 ⟨_, _, .known (hK.words h hB), [wo kV h.next ((ly.map fun q => (q, true)).map kO)], Ai _ (jL w _) ⟨_, _, (jL w _).get, C5 _ _⟩ (fun j e => e), _, rfl, rfl⟩
def uq (p : Nat × Nat) (i : Nat) : Int := Int.ofNat (gm p.1 p.2 i)
def tR (p : Nat × Nat) (i : Nat) : Bool := ((List.range p.1).drop i).all fun i => o6 (uq p i)
theorem vS {p : Nat × Nat} {i : Nat} (hi : i < p.1) : tR p i = (o6 (uq p i) && tR p (i + 1)) := by
 unfold tR
 rw [eJ _ (by simpa using hi) 0]
 simp [List.getD, hi]
theorem Gj {p : Nat × Nat} {i : Nat} (hi : p.1 ≤ i) : tR p i = true := by
 unfold tR
 rw [List.drop_of_length_le (by simpa using hi)]; rfl
def uN (p : Nat × Nat) : Bool := !decide (p.1 = 0) && kE (uq p 0) && tR p 0
def mX (p : Nat × Nat) : Bool := uN p && decide (p.1 ≤ 16) && !O6 p ly
theorem nW (hK : KN base K) (p : Nat × Nat) (hp : tE p) (h : Heap) (w : Wf h) (hB : (lies base).holds h) : Sp P K 78 [.str p.1 p.2] h (iw (.bool (mX p)) h) := by
 have hp1 := hp.len
 have hp2 := hp.zero
 have hwl : O6 p ly = _ := (DM ly p).symm
 refine Sp.start (m := 2208301069) (n := 33) w (hK.none 78 rfl rfl _ _) Tryz.func78 rfl rfl N3 rfl rfl ?_
 repeat' (first | refine ax.a_ ?_ | refine ai.s_ ?_ | (refine X 0 ?_; (refine J Z ?_) <;> (refine Y Z ?_)) | (refine X 1 ?_; (refine J Z ?_) <;> ((refine .cons (PE (u' := 0) (c' := 0) Z Z Z Z Z ?_ ?_)) <;> intro _) <;> (iterate 3 refine J Z ?_) <;> (first | (refine J Z ?_) | (refine .cons (qc Z ?_ ?_)) <;> intro _) <;> (iterate 3 refine J Z ?_) <;> (first | (refine J Z ?_) | (refine .cons (qs hX Z Z Z Z (by first | omega | (simp only [Int.ofNat_eq_natCast]; omega)) Z Z ?_))) <;> (first | (refine J Z ?_) | (refine .cons (dN Z Z Z Z Mt Z Z (fun h f => wz hK _ h f.wf) ?_ ?_)) <;> intro _) <;> (iterate 3 refine J Z ?_) <;> (first | (refine J Z ?_) | (refine .cons (fD Z Z Z Z Pq Z Z (fun h f => FZ hK h f.wf (f.ro (.of hB))) ?_)) <;> (rintro v C' ⟨kw, rfl, rfl⟩)) <;> (refine J Z ?_) <;> (first | (refine J Z ?_) | (refine .cons (Dk (a := p) hX Z Z OY PN Z Z .h Z Z ?_ ?_)) <;> (intro _)) <;> (refine J Z ?_) <;> (refine Y Z ?_)) | (refine X 2 ?_; (refine J Z ?_) <;> (refine Y Z ?_)) | (refine X 3 ?_; (iterate 3 refine J Z ?_) <;> (refine Y Z ?_)) | refine ai.r_ ?_ | refine ax.d_ ?_ | refine ai.t_ rfl ?_ | refine ai.f_ rfl ?_ | refine ai.k_ ?_ | refine ai.b_ ?_ | refine ax.r_ hX rfl ?_)
 all_goals try (refine fun h f => ⟨?_, f.aZ.bu .nil⟩; clear f; simp only [cD]; unfold mX; rw [hwl]; unfold uN uq; simp_all; done)
 all_goals try (refine fun h f => ⟨?_, f.aZ.bu .nil⟩; clear f; simp only [cD]; unfold mX; rw [decide_eq_false (by omega)]; simp; done)
 refine ai.loop (fun i => [(24, .ext (i64 i)), (0, .ext (.str p.1 p.2)), (23, .ext (i64 p.1))]) (fun _ => []) (fun _ => []) (fun i => i ≤ p.1 ∧ mX p = tR p i) (fun i => p.1 - i) 0 ⟨⟨rfl, rfl, rfl, trivial⟩, ⟨_, rfl⟩, ⟨_, .nil⟩⟩ ⟨Nat.zero_le _, by (have : ¬ p.1 = 0 := by omega); (have h16 : p.1 ≤ 16 := by omega); unfold mX; rw [hwl]; unfold uN uq; clear hwl; simp_all⟩ (fun _ => rfl) (fun _ => rfl) (fun _ => rfl) ?_
 rintro i ⟨hi, he⟩ next
 repeat' (first | refine ax.a_ ?_ | refine ai.s_ ?_ | (refine X 4 ?_; ((refine .cons (qc Z ?_ ?_)) <;> intro _) <;> (refine Y Z ?_)) | (refine X 5 ?_; (iterate 2 refine J Z ?_) <;> (refine Y Z ?_)) | (refine X 6 ?_; (iterate 2 refine J Z ?_) <;> (refine .cons (qs hX Z Z Z Z (by first | omega | (simp only [Int.ofNat_eq_natCast]; omega)) Z Z ?_)) <;> ((refine .cons (dN Z Z Z Z Pp Z Z (fun h f => He hK _ h f.wf) ?_ ?_)) <;> intro _) <;> (refine J Z ?_) <;> (refine Y Z ?_)) | (refine X 7 ?_; (refine J Z ?_) <;> (refine Y Z ?_)) | (refine X 8 ?_; (refine .cons (qa Z Z Z Z Z (wI (by first | omega | (simp only [Int.ofNat_eq_natCast]; omega)) (by first | omega | (simp only [Int.ofNat_eq_natCast]; omega))) Z Z ?_)) <;> (refine J Z ?_) <;> (refine Y Z ?_)) | (refine X 9 ?_; (refine J Z ?_) <;> (refine Y Z ?_)) | refine ai.r_ ?_ | refine ax.d_ ?_ | refine ax.f_ ?_ | refine ai.t_ rfl ?_ | refine ai.f_ rfl ?_ | refine ai.k_ ?_ | refine ai.b_ ?_ | refine ai.e_ ?_ | refine ax.e_ ?_ | refine ax.c_ ?_ | refine ax.b_ ?_ | refine ax.r_ hX rfl ?_)
 ·refine next (i + 1) _ _ _ (by omega) ⟨⟨rfl, rfl, rfl, trivial⟩, ⟨_, rfl⟩, ⟨_, .nil⟩⟩ ⟨by omega, ?_⟩
  clear next
  rw [he, vS (by omega)]; unfold uq; simp_all
 ·clear next
  refine fun h f => ⟨?_, f.aZ⟩
  clear f
  rw [he, vS (by omega)]; unfold uq; simp_all [cD]
 ·exact fun h f => ⟨by rw [he, Gj (by omega)]; rfl, f.aZ⟩
end Em
end Go.HL
namespace Go.HL
open Go Go.Proofs
namespace Em
set_option maxRecDepth 10000
variable {K : ah} {base : List (Nat × aG)}
structure aD where
 n : Nat
 c : Nat
 params : List (Nat × Nat × Bool)
 shared : List (Nat × Nat × Int)
 «local» : Int
 aq : List bI
abbrev pc (p : Nat × Nat × Bool) : List aa := [.str p.1 p.2.1, .bool p.2.2]
abbrev ac (p : Nat × Nat × Int) : List aa := [.str p.1 p.2.1, .int .i64 p.2.2]
abbrev cv (c : aD) (pv sv iv : aa) : aa := .agg [.str c.n c.c, pv, sv, .int .i64 c.local, iv]
def n8 (c : aD) (pv sv iv : aa) : Part := (rd pv 2 (c.params.map pc)).both ((rd sv 2 (c.shared.map ac)).both (rd iv 8 (c.aq.map eo)))
structure mU (c : aD) : Prop where
 name : tE (c.n, c.c)
 Gq : c.params.length ≤ 1152921504606846976
 MO : ∀ p ∈ c.params, tE (p.1, p.2.1)
 Im : c.shared.length ≤ 1152921504606846976
 MF : ∀ p ∈ c.shared, tE (p.1, p.2.1)
 Jo : c.aq.length ≤ 1152921504606846976
 each : ∀ x ∈ c.aq, -2147483648 ≤ x.cV ∧ x.cV ≤ 2147483647
def jh : Nat × Nat × Bool := (0, 0, false)
def mF : Nat × Nat × Int := (0, 0, 0)
def aP : bI := ⟨0, 0, 0, 0, 0, 0, 0, 0⟩
def O3 (p : Nat × Nat × Bool) : Nat × Nat := (p.1, p.2.1)
def O4 (p : Nat × Nat × Int) : Nat × Nat := (p.1, p.2.1)
def uP (p : Nat × Nat × Bool) : Bool := mX (O3 p)
def kQ (a : Nat × Nat × Int) : Bool := mX (O4 a) && decide (1 ≤ a.2.2) && decide (a.2.2 ≤ 64)
def aD.iB (f : aD) : Bool := mX (f.n, f.c) && decide (f.params.length ≤ 6) && decide (f.shared.length ≤ 4) && f.params.all uP && f.shared.all kQ
def aD.names (f : aD) : List (Nat × Nat) := f.params.map O3 ++ f.shared.map O4
def um (l : List (Nat × Nat)) (i : Nat) : Bool := ((List.range l.length).drop i).all fun k => !O6 (l.getD k yJ) (l.take k)
theorem mK {l : List (Nat × Nat)} {i : Nat} (hi : i < l.length) : um l i = (!O6 (l.getD i yJ) (l.take i) && um l (i + 1)) := by
 unfold um
 rw [eJ _ (by simpa using hi) 0]
 simp [List.getD, hi]
theorem Hv {l : List (Nat × Nat)} {i : Nat} (hi : l.length ≤ i) : um l i = true := by
 unfold um
 rw [List.drop_of_length_le (by simpa using hi)]; rfl
def aD.lj (f : aD) : Bool := f.iB && um f.names 0
theorem take_succ {α : Type} {l : List α} {i : Nat} (hi : i < l.length) (d : α) : l.take (i + 1) = l.take i ++ [l.getD i d] := by
 rw [List.take_add_one]
 simp [List.getD, List.getElem?_eq_getElem hi]
theorem qd {f : aD} {i : Nat} (hi : i < f.params.length) : f.names.getD i yJ = O3 (f.params.getD i jh) := by
 unfold aD.names
 simp [List.getD, List.getElem?_append_left, hi]
theorem nQ {f : aD} {i : Nat} (hi : i < f.shared.length) : f.names.getD (f.params.length + i) yJ = O4 (f.shared.getD i mF) := by
 unfold aD.names
 simp [List.getD, List.getElem?_append_right, hi]
theorem A1 (f : aD) : f.names.length = f.params.length + f.shared.length := by simp [aD.names]
def aD.oc (f : aD) : Bool := f.lj && decide (0 ≤ f.local ∧ f.local ≤ 64)
structure Seen (f : aD) (i : Nat) (m : List ((Nat × Nat) × Bool)) : Prop where
 look : ∀ q, mY m q = O6 q (f.names.take i)
theorem Seen.step {f : aD} {i : Nat} {m : List ((Nat × Nat) × Bool)} {a : Nat × Nat} (hi : i < f.names.length) (ha : a = f.names.getD i yJ) (s : Seen f i m) : Seen f (i + 1) (Da m a true) := by
 refine ⟨fun q => ?_⟩
 rw [DN, s.look, take_succ hi yJ, ← ha]
 unfold O6
 rw [List.any_append]
 by_cases h : a = q <;> simp [h]
theorem Jp (hK : KN base K) (c : aD) (pv sv iv : aa) (h : Heap) (w : Wf h) (hB : (lies base).holds h) (r : mU c) (hr : (n8 c pv sv iv).holds h) : Sp P K 34 [cv c pv sv iv] h (iw (.bool c.oc) h) := by
 have hp := hr.1
 have hs := hr.2.1
 have lp := aV hp
 have ls := aV hs
 have bp := r.Gq
 have bs := r.Im
 have hn := A1 c
 refine Sp.start (m := 4835705442439177032433839) (n := 87) w (hK.none 34 rfl rfl _ _) Tryz.func34 rfl rfl N9 rfl rfl ?_
 repeat' (first | refine ax.a_ ?_ | refine ai.s_ ?_ | (refine X 0 ?_; (iterate 2 refine J Z ?_) <;> (refine Y Z ?_)) | (refine X 1 ?_; (iterate 2 refine J Z ?_) <;> ((refine .cons (dN Z Z Z Z NM Z Z (fun h f => nW hK (c.n, c.c) r.name h f.wf (f.ro (.of hB))) ?_ ?_)) <;> intro _) <;> (iterate 4 refine J Z ?_) <;> (first | (refine J Z ?_) | (refine .cons (ql hX Z Z Z Z Z Z (by assumption) Z Z ?_))) <;> (first | (refine J Z ?_) | (refine .cons (qc Z ?_ ?_)) <;> intro _) <;> (iterate 4 refine J Z ?_) <;> (first | (refine J Z ?_) | (refine .cons (ql hX Z Z Z Z Z Z (by assumption) Z Z ?_))) <;> (first | (refine J Z ?_) | (refine .cons (qc Z ?_ ?_)) <;> intro _) <;> (iterate 4 refine J Z ?_) <;> (first | (refine J Z ?_) | (refine .cons (qc Z ?_ ?_)) <;> intro _) <;> (iterate 4 refine J Z ?_) <;> (first | (refine J Z ?_) | (refine .cons (qc Z ?_ ?_)) <;> intro _) <;> (refine J Z ?_) <;> (refine Y Z ?_)) | (refine X 2 ?_; (refine J Z ?_) <;> (refine Y Z ?_)) | (refine X 3 ?_; ((refine .cons (Qc kV hX Z Z Z Z ?_)) <;> (intro km)) <;> (refine J Z ?_) <;> (refine Y Z ?_)) | (refine X 4 ?_; (iterate 2 refine J Z ?_) <;> (refine .cons (ql hX Z Z Z Z Z Z (by assumption) Z Z ?_)) <;> (refine J Z ?_) <;> (refine Y Z ?_)) | refine ai.r_ ?_ | refine ax.d_ ?_ | refine ai.t_ rfl ?_ | refine ai.f_ rfl ?_ | refine ai.k_ ?_ | refine ai.b_ ?_ | refine ax.r_ hX rfl ?_)
 all_goals try (refine fun h f => ⟨?_, f.aZ⟩; clear f; simp only [cD]; unfold aD.oc aD.lj aD.iB; simp_all; done)
 all_goals try (refine fun h f => ⟨?_, f.aZ⟩; clear f; simp only [cD]; unfold aD.oc aD.lj aD.iB; first | (rw [decide_eq_false (p := c.params.length ≤ 6) (by omega)]; simp; done) | (rw [decide_eq_false (p := c.shared.length ≤ 4) (by omega)]; simp; done) | (rw [decide_eq_false (p := 0 ≤ c.local ∧ c.local ≤ 64) (by omega)]; simp; done))
 have h6 : c.params.length ≤ 6 := by omega
 have h4 : c.shared.length ≤ 4 := by omega
 have hl : 0 ≤ c.local ∧ c.local ≤ 64 := by omega
 refine ai.loop (ι := Nat × List ((Nat × Nat) × Bool)) (fun x => [(38, .ext (i64 x.1)), (3, .ext (.map km)), (36, .ext pv), (37, .ext (i64 c.params.length)), (1, .ptr 0 0)]) (fun _ => [.own [.str c.n c.c, pv, sv, .int .i64 c.local, iv] 26 false]) (fun x => [wo kV km (x.2.map kO)]) (fun x => x.1 ≤ c.params.length ∧ c.oc = ((c.params.drop x.1).all uP && c.shared.all kQ && um c.names x.1) ∧ Seen c x.1 x.2) (fun x => c.params.length - x.1) (0, []) ⟨⟨rfl, rfl, rfl, rfl, rfl, trivial⟩, ⟨_, rfl⟩, ⟨_, .cons .h .nil⟩⟩ ⟨Nat.zero_le _, by unfold aD.oc aD.lj aD.iB; simp_all, ⟨fun _ => rfl⟩⟩ (fun _ => rfl) (fun _ => rfl) (fun _ => rfl) ?_
 rintro ⟨i, m⟩ ⟨hi, he, hS⟩ next
 simp only at next hi he hS ⊢
 have hlk := hS.look
 repeat' (first | refine ax.a_ ?_ | refine ai.s_ ?_ | (refine X 5 ?_; ((refine .cons (qc Z ?_ ?_)) <;> intro _) <;> (refine Y Z ?_)) | (refine X 6 ?_; (refine .cons (bq hX Z Z Z Z Z (.of hp) (aM jh (by omega)) Z Z Z ?_)) <;> (iterate 3 refine J Z ?_) <;> (refine Y Z ?_)) | (refine X 7 ?_; (iterate 2 refine J Z ?_) <;> ((refine .cons (dN Z Z Z Z NM Z Z (fun h f => nW hK (O3 (c.params.getD i jh)) (r.MO _ (bh _ (by omega))) h f.wf (f.ro (.of hB))) ?_ ?_)) <;> intro _) <;> (iterate 5 refine J Z ?_) <;> (first | (refine J Z ?_) | (refine .cons (Dk (a := O3 (c.params.getD i jh)) hX Z Z OY PN Z Z .h Z Z ?_ ?_)) <;> (intro _)) <;> (refine J Z ?_) <;> (refine Y Z ?_)) | (refine X 8 ?_; (refine J Z ?_) <;> (refine Y Z ?_)) | (refine X 9 ?_; (iterate 3 refine J Z ?_) <;> (refine .cons (Oy (a := O3 (c.params.getD i jh)) hX Z Z OY Z Z Z .h Z Z Z ?_)) <;> (refine Y Z ?_)) | (refine X 10 ?_; (refine .cons (qa Z Z Z Z Z (wI (by first | omega | (simp only [Int.ofNat_eq_natCast]; omega)) (by first | omega | (simp only [Int.ofNat_eq_natCast]; omega))) Z Z ?_)) <;> (refine J Z ?_) <;> (refine Y Z ?_)) | (refine X 11 ?_; (iterate 2 refine J Z ?_) <;> (refine .cons (ql hX Z Z Z Z Z Z (by assumption) Z Z ?_)) <;> (refine J Z ?_) <;> (refine Y Z ?_)) | refine ai.r_ ?_ | refine ax.d_ ?_ | refine ax.f_ ?_ | refine ai.t_ rfl ?_ | refine ai.f_ rfl ?_ | refine ai.k_ ?_ | refine ai.b_ ?_ | refine ai.e_ ?_ | refine ax.e_ ?_ | refine ax.c_ ?_ | refine ax.b_ ?_ | refine ax.r_ hX rfl ?_)
 ·clear next
  refine fun h f => ⟨?_, f.aZ.bu .nil⟩
  clear f
  rw [he, eJ _ (by omega) jh, mK (by omega), qd (by omega), ← hlk]; simp_all [cD]
 ·refine next (i + 1, Da m _ true) _ _ _ (by simp only; omega) ⟨⟨rfl, rfl, rfl, rfl, rfl, trivial⟩, ⟨_, rfl⟩, ⟨_, by rw [D7]; exact .cons .h .nil⟩⟩ ⟨by simp only; omega, ?_, hS.step (by omega) (qd (by omega)).symm⟩
  clear next
  rw [he, eJ _ (by omega) jh, mK (by omega), qd (by omega), ← hlk]; simp_all [uP]
 ·clear next
  refine fun h f => ⟨?_, f.aZ.bu .nil⟩
  clear f
  rw [he, eJ _ (by omega) jh]; simp_all [cD, uP]
 clear next
 have hip : i = c.params.length := by omega
 subst hip
 rw [List.drop_of_length_le (Nat.le_refl _)] at he
 refine ai.loop (ι := Nat × List ((Nat × Nat) × Bool)) (fun x => [(59, .ext (i64 x.1)), (3, .ext (.map km)), (57, .ext sv), (58, .ext (i64 c.shared.length)), (1, .ptr 0 0)]) (fun _ => [.own [.str c.n c.c, pv, sv, .int .i64 c.local, iv] 26 false]) (fun x => [wo kV km (x.2.map kO)]) (fun x => x.1 ≤ c.shared.length ∧ c.oc = ((c.shared.drop x.1).all kQ && um c.names (c.params.length + x.1)) ∧ Seen c (c.params.length + x.1) x.2) (fun x => c.shared.length - x.1) (0, m) ⟨⟨rfl, rfl, rfl, rfl, rfl, trivial⟩, ⟨_, rfl⟩, ⟨_, .cons .h .nil⟩⟩ ⟨Nat.zero_le _, by rw [he]; simp, hS⟩ (fun _ => rfl) (fun _ => rfl) (fun _ => rfl) ?_
 clear he hlk hS m
 rintro ⟨i, m⟩ ⟨hi, he, hS⟩ next
 simp only at next hi he hS ⊢
 have hlk := hS.look
 repeat' (first | refine ax.a_ ?_ | refine ai.s_ ?_ | (refine X 12 ?_; ((refine .cons (qc Z ?_ ?_)) <;> intro _) <;> (refine Y Z ?_)) | (refine X 13 ?_; (refine .cons (bq hX Z Z Z Z Z (.of hs) (aM mF (by omega)) Z Z Z ?_)) <;> (iterate 3 refine J Z ?_) <;> (refine Y Z ?_)) | (refine X 14 ?_; (iterate 2 refine J Z ?_) <;> ((refine .cons (dN Z Z Z Z NM Z Z (fun h f => nW hK (O4 (c.shared.getD i mF)) (r.MF _ (bh _ (by omega))) h f.wf (f.ro (.of hB))) ?_ ?_)) <;> intro _) <;> (iterate 5 refine J Z ?_) <;> (first | (refine J Z ?_) | (refine .cons (Dk (a := O4 (c.shared.getD i mF)) hX Z Z OY PN Z Z .h Z Z ?_ ?_)) <;> (intro _)) <;> (iterate 4 refine J Z ?_) <;> (first | (refine J Z ?_) | (refine .cons (qc Z ?_ ?_)) <;> intro _) <;> (iterate 4 refine J Z ?_) <;> (first | (refine J Z ?_) | (refine .cons (qc Z ?_ ?_)) <;> intro _) <;> (refine J Z ?_) <;> (refine Y Z ?_)) | (refine X 15 ?_; (refine J Z ?_) <;> (refine Y Z ?_)) | (refine X 16 ?_; (iterate 3 refine J Z ?_) <;> (refine .cons (Oy (a := O4 (c.shared.getD i mF)) hX Z Z OY Z Z Z .h Z Z Z ?_)) <;> (refine Y Z ?_)) | (refine X 17 ?_; (refine .cons (qa Z Z Z Z Z (wI (by first | omega | (simp only [Int.ofNat_eq_natCast]; omega)) (by first | omega | (simp only [Int.ofNat_eq_natCast]; omega))) Z Z ?_)) <;> (refine J Z ?_) <;> (refine Y Z ?_)) | (refine X 18 ?_; (refine J Z ?_) <;> (refine Y Z ?_)) | refine ai.r_ ?_ | refine ax.d_ ?_ | refine ax.f_ ?_ | refine ai.t_ rfl ?_ | refine ai.f_ rfl ?_ | refine ai.k_ ?_ | refine ai.b_ ?_ | refine ai.e_ ?_ | refine ax.e_ ?_ | refine ax.c_ ?_ | refine ax.b_ ?_ | refine ax.r_ hX rfl ?_)
 rotate_left 3
 ·refine next (i + 1, Da m _ true) _ _ _ (by simp only; omega) ⟨⟨rfl, rfl, rfl, rfl, rfl, trivial⟩, ⟨_, rfl⟩, ⟨_, by rw [D7]; exact .cons .h .nil⟩⟩ ⟨by simp only; omega, ?_, hS.step (i := c.params.length + i) (by omega) (nQ (by omega)).symm⟩
  clear next
  rw [he, eJ _ (by omega) mF, mK (by omega), nQ (by omega), ← hlk]
  unfold kQ
  rw [decide_eq_true (p := 1 ≤ _) (by omega), decide_eq_true (p := _ ≤ (64 : Int)) (by omega)]
  simp_all [Nat.add_assoc]
 rotate_left
 ·exact fun h f => ⟨by rw [he, List.drop_of_length_le (by omega), Hv (by omega)]; rfl, f.aZ.bu .nil⟩
 all_goals
  clear next
  refine fun h f => ⟨?_, f.aZ.bu .nil⟩
  clear f
  rw [he, eJ _ (by omega) mF, mK (by omega), nQ (by omega), ← hlk]
  unfold kQ
  first
   | (simp_all [cD]; done)
   | (rw [decide_eq_false (p := 1 ≤ _) (by omega)]; simp [cD]; done)
   | (rw [decide_eq_false (p := _ ≤ (64 : Int)) (by omega)]; simp [cD]; done)
end Em
end Go.HL
