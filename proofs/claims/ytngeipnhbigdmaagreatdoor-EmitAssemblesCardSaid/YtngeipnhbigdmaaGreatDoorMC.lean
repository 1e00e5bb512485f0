/- The walk: instructions, both Valid. No statement of the seat stands here. -/
import Derived.Test.YtngeipnhbigdmaaGreatDoorMB
set_option linter.unusedVariables false
set_option linter.unusedSimpArgs false
namespace Go.HL
open Go Go.Proofs
namespace Em
set_option maxRecDepth 10000
variable {K : ai} {base : List (Nat × aE)}
structure xQ where
 d : Bool
 a : Bool
 b : Bool
 array : Bool
 Aq : Bool
 tK : Bool
 «local» : Bool
 param : Bool
 word : Bool
 to : Bool
 join : Bool
 ops : Int
abbrev xQ.cells (u : xQ) : List ad := [.bool u.d, .bool u.a, .bool u.b, .bool u.array, .bool u.Aq, .bool u.tK, .bool u.local, .bool u.param, .bool u.word, .bool u.to, .bool u.join, .int .i64 u.ops]
def eo : xQ := ⟨false, false, false, false, false, false, false, false, false, false, false, 0⟩
def U : Nat → xQ
 | 0 => { eo with d := true, word := true }
 | 1 => { eo with d := true, a := true }
 | 2 => { eo with d := true, a := true, ops := 3 }
 | 3 => { eo with d := true, a := true, b := true, ops := 20 }
 | 4 => { eo with d := true, ops := 4 }
 | 5 => { eo with d := true, param := true }
 | 6 => { eo with d := true, a := true, array := true }
 | 7 => { eo with a := true, b := true, array := true }
 | 8 => { eo with a := true, b := true, array := true, Aq := true }
 | 9 => { eo with tK := true }
 | 10 => { eo with d := true, a := true, tK := true, Aq := true }
 | 11 => { eo with d := true, «local» := true }
 | 12 => { eo with a := true, «local» := true }
 | 13 => { eo with to := true }
 | 14 => { eo with a := true, to := true, join := true }
 | _ => eo
def yF : List ad := ((List.range 16).map fun k => (U k).cells).flatten
theorem F6 : ∀ j, j < 16 → eV (jz yF (Nat.add 0 (Nat.mul j 12))) 12 some = some (U j).cells
 | 0, _ | 1, _ | 2, _ | 3, _ | 4, _ | 5, _ | 6, _ | 7, _ | 8, _ | 9, _ | 10, _ | 11, _ | 12, _ | 13, _ | 14, _ | 15, _ => rfl
 | n + 16, h => absurd h (by omega)
theorem F5 (hK : KN base K) (h : Heap) (w : Wf h) : Sp P K 35 [] h (dE (.agg yF) h) := by
 refine Sp.start (m := 1) (n := 18) w (hK.none 35 rfl rfl _ _) Tryz.func35 rfl rfl (by kernel_rfl) rfl rfl ?_
 repeat' (first | refine aw.a_ ?_ | refine ag.s_ ?_ | (refine X 0 ?_; (refine J Z ?_) <;> (refine Y Z ?_)) | (refine X 1 ?_; (iterate 18 refine J Z ?_) <;> (refine Y Z ?_)) | refine ag.r_ ?_ | refine aw.r_ hX rfl ?_)
 exact fun h f => ⟨rfl, f.aS⟩
def az.param (f : az) (a : Int) : Nat × Nat × Bool := f.params.getD a.toNat eu
theorem az.nS {f : az} {a : Int} (h0 : 0 ≤ a) (h1 : a < (f.params.length : Int)) : (f.params.map pc)[a.toNat]? = some (pc (f.param a)) := by
 have hj : a.toNat < f.params.length := by omega
 simp [az.param, List.getD, List.getElem?_eq_getElem hj]
def az.nC (f : az) (n : Int) : Bool := if 6 ≤ n then decide (n < 6 + (f.shared.length : Int)) else decide (0 ≤ n ∧ n < (f.params.length : Int)) && (f.param n).2.2
theorem FT (hK : KN base K) (c : az) (pv sv iv : ad) (n : Int) (n1 : -2147483648 ≤ n) (n2 : n ≤ 2147483647) (h : Heap) (w : Wf h) (r : gk c) (hr : (ke c pv sv iv).holds h) : Sp P K 152 [cv c pv sv iv, .int .i32 n] h (dE (.bool (c.nC n)) h) := by
 have hp := hr.1
 have lp := bG hp
 have ls := bG hr.2.1
 have bp := r.zN
 have bs := r.Bx
 refine Sp.start (m := 87) (n := 32) w (hK.none 152 rfl rfl _ _) Tryz.func152 rfl rfl (by kernel_rfl) rfl rfl ?_
 repeat' (first | refine aw.a_ ?_ | refine ag.s_ ?_ | (refine X 0 ?_; (iterate 2 refine J Z ?_) <;> (refine Y Z ?_)) | (refine X 1 ?_; (refine J Z ?_) <;> ((refine .cons (qc Z ?_ ?_)) <;> intro _) <;> (refine Y Z ?_)) | (refine X 2 ?_; (refine J Z ?_) <;> (refine .cons (qw hX Z Z Z Z (wI (by first | omega | (simp only [Int.ofNat_eq_natCast]; omega)) (by first | omega | (simp only [Int.ofNat_eq_natCast]; omega))) Z Z ?_)) <;> (iterate 2 refine J Z ?_) <;> (refine .cons (ql hX Z Z Z Z Z Z (by assumption) Z Z ?_)) <;> (refine .cons (qa Z Z Z Z Z (wI (by first | omega | (simp only [Int.ofNat_eq_natCast]; omega)) (by first | omega | (simp only [Int.ofNat_eq_natCast]; omega))) Z Z ?_)) <;> ((refine .cons (qc Z ?_ ?_)) <;> intro _) <;> (refine J Z ?_) <;> (refine Y Z ?_)) | (refine X 3 ?_; (refine J Z ?_) <;> ((refine .cons (qc Z ?_ ?_)) <;> intro _) <;> (iterate 2 refine J Z ?_) <;> (first | (refine J Z ?_) | (refine .cons (qw hX Z Z Z Z (wI (by first | omega | (simp only [Int.ofNat_eq_natCast]; omega)) (by first | omega | (simp only [Int.ofNat_eq_natCast]; omega))) Z Z ?_))) <;> (iterate 2 refine J Z ?_) <;> (first | (refine J Z ?_) | (refine .cons (ql hX Z Z Z Z Z Z (by assumption) Z Z ?_))) <;> (first | (refine J Z ?_) | (refine .cons (qc Z ?_ ?_)) <;> intro _) <;> (iterate 5 refine J Z ?_) <;> (first | (refine J Z ?_) | (refine .cons (D9 hX Z Z Z Z Z (by assumption) (.of hp) (az.nS (by assumption) (by assumption)) Z Z Z ?_))) <;> (refine J Z ?_) <;> (first | (refine .cons (qb hX Z ?_ ?_)) <;> (intro hbl; (first | (cases hbl; done) | skip)) | (refine J Z ?_)) <;> (iterate 2 refine J Z ?_) <;> (refine Y Z ?_)) | refine ag.r_ ?_ | refine aw.d_ ?_ | refine ag.t_ rfl ?_ | refine ag.f_ rfl ?_ | refine ag.k_ ?_ | refine aw.r_ hX rfl ?_)
 all_goals (intro h f; refine ⟨?_, f.aS⟩; clear f; first | (simp_all [aP, az.nC]; done) | (simp_all [aP, az.nC]; omega) | (simp_all [aP, az.nC]; intros; exfalso; omega) | (simp_all [aP, az.nC]; split <;> intros <;> first | omega | (exfalso; omega) | simp_all))
def az.Ag (f : az) (u : xQ) (n : Int) : Bool :=
 if u.word then true
 else if u.array then f.nC n
 else if u.param then decide (0 ≤ n ∧ n < (f.params.length : Int)) && !(f.param n).2.2
 else if u.tK then decide (0 ≤ n ∧ n ≤ 400)
 else if u.local then decide (0 ≤ n ∧ n < f.local)
 else decide (n = 0)
theorem mask81 : Nat.lor (jm Tryz.f81) (Nat.sub (Nat.pow 2 3) 1) = 141012366329055 := by kernel_rfl
theorem IM (hK : KN base K) (c : az) (pv sv iv : ad) (u : xQ) (n : Int) (n1 : -2147483648 ≤ n) (n2 : n ≤ 2147483647) (h : Heap) (w : Wf h) (r : gk c) (hr : (ke c pv sv iv).holds h) : Sp P K 81 [cv c pv sv iv, .agg u.cells, .int .i32 n] h (dE (.bool (c.Ag u n)) h) := by
 have hp := hr.1
 have lp := bG hp
 have bp := r.zN
 refine Sp.start (m := 141012366329055) (n := 61) w (hK.none 81 rfl rfl _ _) Tryz.func81 rfl rfl mask81 rfl rfl ?_
 repeat' (first | refine aw.a_ ?_ | refine ag.s_ ?_ | (refine X 0 ?_; (iterate 3 refine J Z ?_) <;> (refine Y Z ?_)) | (refine X 1 ?_; (refine J Z ?_) <;> ((refine .cons (qb hX Z ?_ ?_)) <;> (intro hbl; (first | (cases hbl; done) | skip))) <;> (refine J Z ?_) <;> (refine Y Z ?_)) | (refine X 2 ?_; (refine J Z ?_) <;> (refine Y Z ?_)) | (refine X 3 ?_; (refine J Z ?_) <;> ((refine .cons (qb hX Z ?_ ?_)) <;> (intro hbl; (first | (cases hbl; done) | skip))) <;> (refine J Z ?_) <;> (refine Y Z ?_)) | (refine X 4 ?_; (iterate 2 refine J Z ?_) <;> (refine .cons (ao Z Z Z Z Mo Z Z (fun h f => FT hK c pv sv iv n n1 n2 h f.wf r (f.ro (.of hr))) ?_)) <;> (refine J Z ?_) <;> (refine Y Z ?_)) | (refine X 5 ?_; (refine J Z ?_) <;> ((refine .cons (qb hX Z ?_ ?_)) <;> (intro hbl; (first | (cases hbl; done) | skip))) <;> (refine J Z ?_) <;> (refine Y Z ?_)) | (refine X 6 ?_; (refine J Z ?_) <;> ((refine .cons (qc Z ?_ ?_)) <;> intro _) <;> (iterate 2 refine J Z ?_) <;> (first | (refine J Z ?_) | (refine .cons (qw hX Z Z Z Z (wI (by first | omega | (simp only [Int.ofNat_eq_natCast]; omega)) (by first | omega | (simp only [Int.ofNat_eq_natCast]; omega))) Z Z ?_))) <;> (iterate 2 refine J Z ?_) <;> (first | (refine J Z ?_) | (refine .cons (ql hX Z Z Z Z Z Z (by assumption) Z Z ?_))) <;> (first | (refine J Z ?_) | (refine .cons (qc Z ?_ ?_)) <;> intro _) <;> (iterate 5 refine J Z ?_) <;> (first | (refine J Z ?_) | (refine .cons (D9 hX Z Z Z Z Z (by assumption) (.of hp) (az.nS (by assumption) (by assumption)) Z Z Z ?_))) <;> (refine J Z ?_) <;> (first | (refine .cons (qb hX Z ?_ ?_)) <;> (intro hbl; (first | (cases hbl; done) | skip)) | (refine J Z ?_)) <;> (iterate 3 refine J Z ?_) <;> (refine Y Z ?_)) | (refine X 7 ?_; (refine J Z ?_) <;> ((refine .cons (qb hX Z ?_ ?_)) <;> (intro hbl; (first | (cases hbl; done) | skip))) <;> (refine J Z ?_) <;> (refine Y Z ?_)) | (refine X 8 ?_; (refine J Z ?_) <;> ((refine .cons (qc Z ?_ ?_)) <;> intro _) <;> (iterate 2 refine J Z ?_) <;> (first | (refine J Z ?_) | (refine .cons (qc Z ?_ ?_)) <;> intro _) <;> (iterate 2 refine J Z ?_) <;> (refine Y Z ?_)) | (refine X 9 ?_; (refine J Z ?_) <;> ((refine .cons (qb hX Z ?_ ?_)) <;> (intro hbl; (first | (cases hbl; done) | skip))) <;> (refine J Z ?_) <;> (refine Y Z ?_)) | (refine X 10 ?_; (refine J Z ?_) <;> ((refine .cons (qc Z ?_ ?_)) <;> intro _) <;> (iterate 2 refine J Z ?_) <;> (first | (refine J Z ?_) | (refine .cons (qw hX Z Z Z Z (wI (by first | omega | (simp only [Int.ofNat_eq_natCast]; omega)) (by first | omega | (simp only [Int.ofNat_eq_natCast]; omega))) Z Z ?_))) <;> (iterate 2 refine J Z ?_) <;> (first | (refine J Z ?_) | (refine .cons (qc Z ?_ ?_)) <;> intro _) <;> (iterate 2 refine J Z ?_) <;> (refine Y Z ?_)) | (refine X 11 ?_; (refine J Z ?_) <;> ((refine .cons (qc Z ?_ ?_)) <;> intro _) <;> (refine J Z ?_) <;> (refine Y Z ?_)) | refine ag.r_ ?_ | refine aw.d_ ?_ | refine aw.f_ ?_ | refine ag.t_ rfl ?_ | refine ag.f_ rfl ?_ | refine ag.k_ ?_ | refine ag.b_ ?_ | refine aw.b_ ?_ | refine aw.r_ hX rfl ?_)
 all_goals (intro h f; refine ⟨?_, f.aS⟩; clear f; first | (simp_all [aP, az.Ag]; done) | (simp_all [aP, az.Ag]; omega) | (simp_all [aP, az.Ag]; intros; exfalso; omega) | (simp_all [aP, az.Ag]; split <;> intros <;> first | omega | (exfalso; omega) | simp_all))
def az.mI (f : az) (what n : Int) : Bool :=
 if what = 0 then decide (0 ≤ n ∧ n < (f.params.length : Int)) && !(f.param n).2.2
 else if what = 1 then decide (0 ≤ n ∧ n < (f.params.length : Int)) && (f.param n).2.2 || decide (6 ≤ n ∧ n < 6 + (f.shared.length : Int))
 else if what = 2 then decide (0 ≤ n ∧ n ≤ 400)
 else if what = 3 then true
 else decide (n = 0)
theorem mask85 : Nat.lor (jm Tryz.f85) (Nat.sub (Nat.pow 2 4) 1) = 148150413342516709135 := by kernel_rfl
theorem r7 (hK : KN base K) (c : az) (pv sv : ad) (what n : Int) (n1 : -2147483648 ≤ n) (n2 : n ≤ 2147483647) (h : Heap) (w : Wf h) (r : gk c) (hp : (rd pv 2 (c.params.map pc)).holds h) (hs : (rd sv 2 (c.shared.map ac)).holds h) : Sp P K 85 [.int .i64 what, .int .i32 n, pv, sv] h (dE (.bool (c.mI what n)) h) := by
 have lp := bG hp
 have ls := bG hs
 have bp := r.zN
 have bs := r.Bx
 refine Sp.start (m := 148150413342516709135) (n := 71) w (hK.none 85 rfl rfl _ _) Tryz.func85 rfl rfl mask85 rfl rfl ?_
 repeat' (first | refine aw.a_ ?_ | refine ag.s_ ?_ | (refine X 0 ?_; (refine J Z ?_) <;> (refine Y Z ?_)) | (refine X 1 ?_; (refine J Z ?_) <;> (refine Y Z ?_)) | (refine X 2 ?_; ((refine .cons (qc Z ?_ ?_)) <;> intro _) <;> (refine J Z ?_) <;> (refine Y Z ?_)) | (refine X 3 ?_; (refine J Z ?_) <;> ((refine .cons (qc Z ?_ ?_)) <;> intro _) <;> (iterate 2 refine J Z ?_) <;> (first | (refine J Z ?_) | (refine .cons (qw hX Z Z Z Z (wI (by first | omega | (simp only [Int.ofNat_eq_natCast]; omega)) (by first | omega | (simp only [Int.ofNat_eq_natCast]; omega))) Z Z ?_))) <;> (refine J Z ?_) <;> (first | (refine J Z ?_) | (refine .cons (ql hX Z Z Z Z Z Z (by assumption) Z Z ?_))) <;> (first | (refine J Z ?_) | (refine .cons (qc Z ?_ ?_)) <;> intro _) <;> (iterate 4 refine J Z ?_) <;> (first | (refine J Z ?_) | (refine .cons (D9 hX Z Z Z Z Z (by assumption) (.of hp) (az.nS (by assumption) (by assumption)) Z Z Z ?_))) <;> (refine J Z ?_) <;> (first | (refine .cons (qb hX Z ?_ ?_)) <;> (intro hbl; (first | (cases hbl; done) | skip)) | (refine J Z ?_)) <;> (iterate 3 refine J Z ?_) <;> (refine Y Z ?_)) | (refine X 4 ?_; ((refine .cons (qc Z ?_ ?_)) <;> intro _) <;> (refine J Z ?_) <;> (refine Y Z ?_)) | (refine X 5 ?_; (refine J Z ?_) <;> ((refine .cons (qc Z ?_ ?_)) <;> intro _) <;> (iterate 2 refine J Z ?_) <;> (first | (refine J Z ?_) | (refine .cons (qw hX Z Z Z Z (wI (by first | omega | (simp only [Int.ofNat_eq_natCast]; omega)) (by first | omega | (simp only [Int.ofNat_eq_natCast]; omega))) Z Z ?_))) <;> (refine J Z ?_) <;> (first | (refine J Z ?_) | (refine .cons (ql hX Z Z Z Z Z Z (by assumption) Z Z ?_))) <;> (first | (refine J Z ?_) | (refine .cons (qc Z ?_ ?_)) <;> intro _) <;> (iterate 4 refine J Z ?_) <;> (first | (refine J Z ?_) | (refine .cons (D9 hX Z Z Z Z Z (by assumption) (.of hp) (az.nS (by assumption) (by assumption)) Z Z Z ?_))) <;> (refine J Z ?_) <;> (first | (refine .cons (qb hX Z ?_ ?_)) <;> (intro hbl; (first | (cases hbl; done) | skip)) | (refine J Z ?_)) <;> (iterate 3 refine J Z ?_) <;> (first | (refine J Z ?_) | (refine .cons (qc Z ?_ ?_)) <;> intro _) <;> (iterate 2 refine J Z ?_) <;> (first | (refine J Z ?_) | (refine .cons (qw hX Z Z Z Z (wI (by first | omega | (simp only [Int.ofNat_eq_natCast]; omega)) (by first | omega | (simp only [Int.ofNat_eq_natCast]; omega))) Z Z ?_))) <;> (refine J Z ?_) <;> (first | (refine J Z ?_) | (refine .cons (ql hX Z Z Z Z Z Z (by assumption) Z Z ?_))) <;> (first | (refine J Z ?_) | (refine .cons (qa Z Z Z Z Z (wI (by first | omega | (simp only [Int.ofNat_eq_natCast]; omega)) (by first | omega | (simp only [Int.ofNat_eq_natCast]; omega))) Z Z ?_))) <;> (first | (refine J Z ?_) | (refine .cons (qc Z ?_ ?_)) <;> intro _) <;> (iterate 3 refine J Z ?_) <;> (refine Y Z ?_)) | (refine X 6 ?_; ((refine .cons (qc Z ?_ ?_)) <;> intro _) <;> (refine J Z ?_) <;> (refine Y Z ?_)) | (refine X 7 ?_; (refine J Z ?_) <;> ((refine .cons (qc Z ?_ ?_)) <;> intro _) <;> (iterate 2 refine J Z ?_) <;> (first | (refine J Z ?_) | (refine .cons (qc Z ?_ ?_)) <;> intro _) <;> (iterate 2 refine J Z ?_) <;> (refine Y Z ?_)) | (refine X 8 ?_; ((refine .cons (qc Z ?_ ?_)) <;> intro _) <;> (refine J Z ?_) <;> (refine Y Z ?_)) | (refine X 9 ?_; (refine J Z ?_) <;> (refine Y Z ?_)) | (refine X 10 ?_; (refine J Z ?_) <;> ((refine .cons (qc Z ?_ ?_)) <;> intro _) <;> (refine J Z ?_) <;> (refine Y Z ?_)) | refine ag.r_ ?_ | refine aw.d_ ?_ | refine aw.f_ ?_ | refine ag.t_ rfl ?_ | refine ag.f_ rfl ?_ | refine ag.k_ ?_ | refine ag.b_ ?_ | refine aw.b_ ?_ | refine aw.r_ hX rfl ?_)
 all_goals (intro h f; refine ⟨?_, f.aS⟩; clear f; first | (simp_all [aP, az.mI]; done) | (simp_all [aP, az.mI]; omega) | (simp_all [aP, az.mI]; intros; exfalso; omega) | (simp_all [aP, az.mI]; split <;> intros <;> first | omega | (exfalso; omega) | simp_all))
def az.jf (f : az) (x : bI) : Bool :=
 if x.kind = 0 then true else if x.kind = 5 then f.mI 0 x.cL else if x.kind = 6 ∨ x.kind = 7 ∨ x.kind = 8 then f.mI 1 x.cL else if x.kind = 9 ∨ x.kind = 10 then f.mI 2 x.cL
 else if x.kind = 11 ∨ x.kind = 12 then decide (0 ≤ x.cL ∧ x.cL < f.local) else decide (x.cL = 0)
theorem mask41 : Nat.lor (jm Tryz.f41) (Nat.sub (Nat.pow 2 2) 1) = 550292947679 := by kernel_rfl
theorem zD (hK : KN base K) (c : az) (pv sv iv : ad) (x : bI) (nn : -2147483648 ≤ x.cL ∧ x.cL ≤ 2147483647) (h : Heap) (w : Wf h) (r : gk c) (hr : (ke c pv sv iv).holds h) : Sp P K 41 [cv c pv sv iv, .agg (ez x)] h (dE (.bool (c.jf x)) h) := by
 refine Sp.start (m := 550292947679) (n := 56) w (hK.none 41 rfl rfl _ _) Tryz.func41 rfl rfl mask41 rfl rfl ?_
 repeat' (first | refine aw.a_ ?_ | refine ag.s_ ?_ | (refine X 0 ?_; (iterate 3 refine J Z ?_) <;> (refine Y Z ?_)) | (refine X 1 ?_; (iterate 2 refine J Z ?_) <;> (refine Y Z ?_)) | (refine X 2 ?_; ((refine .cons (qc Z ?_ ?_)) <;> intro _) <;> (refine J Z ?_) <;> (refine Y Z ?_)) | (refine X 3 ?_; (refine J Z ?_) <;> (refine Y Z ?_)) | (refine X 4 ?_; ((refine .cons (qc Z ?_ ?_)) <;> intro _) <;> (refine J Z ?_) <;> (refine Y Z ?_)) | (refine X 5 ?_; (iterate 6 refine J Z ?_) <;> ((refine .cons (aV Z Z Z Z KM Z Z (fun h f => r7 hK c pv sv _ _ nn.1 nn.2 h f.wf r (f.ro (.of hr.1)) (f.ro (.of hr.2.1))) ?_ ?_)) <;> intro _) <;> (refine J Z ?_) <;> (refine Y Z ?_)) | (refine X 6 ?_; ((refine .cons (qc Z ?_ ?_)) <;> intro _) <;> (refine J Z ?_) <;> (refine Y Z ?_)) | (refine X 7 ?_; ((refine .cons (qc Z ?_ ?_)) <;> intro _) <;> (refine J Z ?_) <;> (refine Y Z ?_)) | (refine X 8 ?_; ((refine .cons (qc Z ?_ ?_)) <;> intro _) <;> (refine J Z ?_) <;> (refine Y Z ?_)) | (refine X 9 ?_; (iterate 6 refine J Z ?_) <;> ((refine .cons (aV Z Z Z Z KM Z Z (fun h f => r7 hK c pv sv _ _ nn.1 nn.2 h f.wf r (f.ro (.of hr.1)) (f.ro (.of hr.2.1))) ?_ ?_)) <;> intro _) <;> (refine J Z ?_) <;> (refine Y Z ?_)) | (refine X 10 ?_; ((refine .cons (qc Z ?_ ?_)) <;> intro _) <;> (refine J Z ?_) <;> (refine Y Z ?_)) | (refine X 11 ?_; ((refine .cons (qc Z ?_ ?_)) <;> intro _) <;> (refine J Z ?_) <;> (refine Y Z ?_)) | (refine X 12 ?_; (iterate 6 refine J Z ?_) <;> ((refine .cons (aV Z Z Z Z KM Z Z (fun h f => r7 hK c pv sv _ _ nn.1 nn.2 h f.wf r (f.ro (.of hr.1)) (f.ro (.of hr.2.1))) ?_ ?_)) <;> intro _) <;> (refine J Z ?_) <;> (refine Y Z ?_)) | (refine X 13 ?_; ((refine .cons (qc Z ?_ ?_)) <;> intro _) <;> (refine J Z ?_) <;> (refine Y Z ?_)) | (refine X 14 ?_; ((refine .cons (qc Z ?_ ?_)) <;> intro _) <;> (refine J Z ?_) <;> (refine Y Z ?_)) | (refine X 15 ?_; (iterate 2 refine J Z ?_) <;> ((refine .cons (qc Z ?_ ?_)) <;> intro _) <;> (iterate 3 refine J Z ?_) <;> (first | (refine J Z ?_) | (refine .cons (qw hX Z Z Z Z (wI (by first | omega | (simp only [Int.ofNat_eq_natCast]; omega)) (by first | omega | (simp only [Int.ofNat_eq_natCast]; omega))) Z Z ?_))) <;> (iterate 2 refine J Z ?_) <;> (first | (refine J Z ?_) | (refine .cons (qc Z ?_ ?_)) <;> intro _) <;> (iterate 2 refine J Z ?_) <;> (refine Y Z ?_)) | (refine X 16 ?_; (iterate 2 refine J Z ?_) <;> ((refine .cons (qc Z ?_ ?_)) <;> intro _) <;> (refine J Z ?_) <;> (refine Y Z ?_)) | refine ag.r_ ?_ | refine aw.d_ ?_ | refine aw.f_ ?_ | refine ag.t_ rfl ?_ | refine ag.f_ rfl ?_ | refine ag.k_ ?_ | refine ag.b_ ?_ | refine aw.b_ ?_ | refine aw.r_ hX rfl ?_)
 all_goals (intro h f; refine ⟨?_, f.aS⟩; clear f; first | (simp_all [aP, az.jf]; done) | (simp_all [aP, az.jf]; omega) | (simp_all [aP, az.jf]; intros; exfalso; omega) | (simp_all [aP, az.jf]; split <;> intros <;> first | omega | (exfalso; omega) | simp_all))
def jg (x : bI) : Bool := if x.kind = 2 then oE 1 x.op else if x.kind = 3 then oE 2 x.op else if x.kind = 4 then oE 3 x.op else if x.kind = 8 ∨ x.kind = 10 then oE 4 x.op else decide (x.op = 0)
theorem mask40 : Nat.lor (jm Tryz.f40) (Nat.sub (Nat.pow 2 1) 1) = 1082423 := by kernel_rfl
theorem zF (hK : KN base K) (x : bI) (h : Heap) (w : Wf h) : Sp P K 40 [.agg (ez x)] h (dE (.bool (jg x)) h) := by
 refine Sp.start (m := 1082423) (n := 29) w (hK.none 40 rfl rfl _ _) Tryz.func40 rfl rfl mask40 rfl rfl ?_
 repeat' (first | refine aw.a_ ?_ | refine ag.s_ ?_ | (refine X 0 ?_; (iterate 2 refine J Z ?_) <;> (refine Y Z ?_)) | (refine X 1 ?_; (iterate 2 refine J Z ?_) <;> (refine Y Z ?_)) | (refine X 2 ?_; ((refine .cons (qc Z ?_ ?_)) <;> intro _) <;> (refine J Z ?_) <;> (refine Y Z ?_)) | (refine X 3 ?_; (iterate 2 refine J Z ?_) <;> ((refine .cons (aV Z Z Z Z Jb Z Z (fun h f => pN hK _ _ h f.wf) ?_ ?_)) <;> intro _) <;> (refine J Z ?_) <;> (refine Y Z ?_)) | (refine X 4 ?_; ((refine .cons (qc Z ?_ ?_)) <;> intro _) <;> (refine J Z ?_) <;> (refine Y Z ?_)) | (refine X 5 ?_; (iterate 2 refine J Z ?_) <;> ((refine .cons (aV Z Z Z Z Jb Z Z (fun h f => pN hK _ _ h f.wf) ?_ ?_)) <;> intro _) <;> (refine J Z ?_) <;> (refine Y Z ?_)) | (refine X 6 ?_; ((refine .cons (qc Z ?_ ?_)) <;> intro _) <;> (refine J Z ?_) <;> (refine Y Z ?_)) | (refine X 7 ?_; (iterate 2 refine J Z ?_) <;> ((refine .cons (aV Z Z Z Z Jb Z Z (fun h f => pN hK _ _ h f.wf) ?_ ?_)) <;> intro _) <;> (refine J Z ?_) <;> (refine Y Z ?_)) | (refine X 8 ?_; ((refine .cons (qc Z ?_ ?_)) <;> intro _) <;> (refine J Z ?_) <;> (refine Y Z ?_)) | (refine X 9 ?_; ((refine .cons (qc Z ?_ ?_)) <;> intro _) <;> (refine J Z ?_) <;> (refine Y Z ?_)) | (refine X 10 ?_; (iterate 2 refine J Z ?_) <;> ((refine .cons (aV Z Z Z Z Jb Z Z (fun h f => pN hK _ _ h f.wf) ?_ ?_)) <;> intro _) <;> (refine J Z ?_) <;> (refine Y Z ?_)) | (refine X 11 ?_; (iterate 2 refine J Z ?_) <;> ((refine .cons (qc Z ?_ ?_)) <;> intro _) <;> (refine J Z ?_) <;> (refine Y Z ?_)) | refine ag.r_ ?_ | refine aw.d_ ?_ | refine aw.f_ ?_ | refine ag.t_ rfl ?_ | refine ag.f_ rfl ?_ | refine ag.k_ ?_ | refine ag.b_ ?_ | refine aw.b_ ?_ | refine aw.r_ hX rfl ?_)
 all_goals (intro h f; refine ⟨?_, f.aS⟩; clear f; first | (simp_all [aP, jg]; done) | (simp_all [aP, jg]; omega) | (simp_all [aP, jg]; intros; exfalso; omega) | (simp_all [aP, jg]; split <;> intros <;> first | omega | (exfalso; omega) | simp_all))
def az.lC (f : az) (x : bI) : Bool :=
 if x.kind = 13 then decide (0 ≤ x.to ∧ x.to < (f.ay.length : Int) ∧ x.join = 0)
 else if x.kind = 14 then decide (0 ≤ x.to ∧ x.to < (f.ay.length : Int) ∧ 0 ≤ x.join ∧ x.join ≤ (f.ay.length : Int))
 else decide (x.to = 0 ∧ x.join = 0)
theorem mask42 : Nat.lor (jm Tryz.f42) (Nat.sub (Nat.pow 2 2) 1) = 134220863 := by kernel_rfl
theorem Bq (hK : KN base K) (c : az) (pv sv iv : ad) (x : bI) (h : Heap) (w : Wf h) (r : gk c) (hr : (ke c pv sv iv).holds h) : Sp P K 42 [cv c pv sv iv, .agg (ez x)] h (dE (.bool (c.lC x)) h) := by
 have li := bG hr.2.2
 refine Sp.start (m := 134220863) (n := 57) w (hK.none 42 rfl rfl _ _) Tryz.func42 rfl rfl mask42 rfl rfl ?_
 repeat' (first | refine aw.a_ ?_ | refine ag.s_ ?_ | (refine X 0 ?_; (iterate 3 refine J Z ?_) <;> (refine Y Z ?_)) | (refine X 1 ?_; (iterate 2 refine J Z ?_) <;> (refine .cons (ql hX Z Z Z Z Z Z (by assumption) Z Z ?_)) <;> (refine J Z ?_) <;> (refine Y Z ?_)) | (refine X 2 ?_; (iterate 2 refine J Z ?_) <;> (refine Y Z ?_)) | (refine X 3 ?_; ((refine .cons (qc Z ?_ ?_)) <;> intro _) <;> (refine J Z ?_) <;> (refine Y Z ?_)) | (refine X 4 ?_; (iterate 2 refine J Z ?_) <;> ((refine .cons (qc Z ?_ ?_)) <;> intro _) <;> (iterate 4 refine J Z ?_) <;> (first | (refine J Z ?_) | (refine .cons (qc Z ?_ ?_)) <;> intro _) <;> (iterate 4 refine J Z ?_) <;> (first | (refine J Z ?_) | (refine .cons (qc Z ?_ ?_)) <;> intro _) <;> (iterate 2 refine J Z ?_) <;> (refine Y Z ?_)) | (refine X 5 ?_; ((refine .cons (qc Z ?_ ?_)) <;> intro _) <;> (refine J Z ?_) <;> (refine Y Z ?_)) | (refine X 6 ?_; (iterate 2 refine J Z ?_) <;> ((refine .cons (qc Z ?_ ?_)) <;> intro _) <;> (iterate 4 refine J Z ?_) <;> (first | (refine J Z ?_) | (refine .cons (qc Z ?_ ?_)) <;> intro _) <;> (iterate 4 refine J Z ?_) <;> (first | (refine J Z ?_) | (refine .cons (qc Z ?_ ?_)) <;> intro _) <;> (iterate 5 refine J Z ?_) <;> (first | (refine J Z ?_) | (refine .cons (qc Z ?_ ?_)) <;> intro _) <;> (iterate 2 refine J Z ?_) <;> (refine Y Z ?_)) | (refine X 7 ?_; (iterate 2 refine J Z ?_) <;> ((refine .cons (qc Z ?_ ?_)) <;> intro _) <;> (iterate 3 refine J Z ?_) <;> (first | (refine J Z ?_) | (refine .cons (qc Z ?_ ?_)) <;> intro _) <;> (iterate 2 refine J Z ?_) <;> (refine Y Z ?_)) | refine ag.r_ ?_ | refine aw.d_ ?_ | refine aw.f_ ?_ | refine ag.t_ rfl ?_ | refine ag.f_ rfl ?_ | refine ag.k_ ?_ | refine ag.b_ ?_ | refine aw.b_ ?_ | refine aw.r_ hX rfl ?_)
 all_goals (intro h f; refine ⟨?_, f.aS⟩; clear f; first | (simp_all [aP, az.lC]; done) | (simp_all [aP, az.lC]; omega) | (simp_all [aP, az.lC]; intros; exfalso; omega) | (simp_all [aP, az.lC]; split <;> intros <;> first | omega | (exfalso; omega) | simp_all))
end Em
end Go.HL
namespace Go.HL
open Go Go.Proofs
namespace Em
set_option maxRecDepth 10000
set_option maxHeartbeats 4000000
variable {K : ai} {base : List (Nat × aE)}
def az.ju (f : az) (x : bI) : Bool :=
 decide (0 ≤ x.kind ∧ x.kind < 16) && (if (U x.kind.toNat).Aq then cY x.op else bS (decide (0 < (U x.kind.toNat).ops)) x.op (U x.kind.toNat).ops) && bS (U x.kind.toNat).d x.d 16 && bS (U x.kind.toNat).a x.a 16 && bS (U x.kind.toNat).b x.b 16 &&
  f.Ag (U x.kind.toNat) x.cL && bS (U x.kind.toNat).to x.to (f.ay.length : Int) && bS (U x.kind.toNat).join x.join ((f.ay.length : Int) + 1)
theorem mask36 : Nat.lor (jm Tryz.f36) (Nat.sub (Nat.pow 2 3) 1) = 17592186110463 := by kernel_rfl
theorem vc (hK : KN base K) (c : az) (pv sv iv : ad) (x : bI) (nn : -2147483648 ≤ x.cL ∧ x.cL ≤ 2147483647) (h : Heap) (w : Wf h) (r : gk c) (hr : (ke c pv sv iv).holds h) : Sp P K 36 [cv c pv sv iv, .agg (ez x), .agg yF] h (dE (.bool (c.ju x)) h) := by
 have li := bG hr.2.2
 have bi := r.Ha
 refine Sp.start (m := 17592186110463) (n := 93) w (hK.none 36 rfl rfl _ _) Tryz.func36 rfl rfl mask36 rfl rfl ?_
 repeat' (first | refine aw.a_ ?_ | refine ag.s_ ?_ | (refine X 0 ?_; (iterate 4 refine J Z ?_) <;> (refine Y Z ?_)) | (refine X 1 ?_; (iterate 2 refine J Z ?_) <;> ((refine .cons (qc Z ?_ ?_)) <;> intro _) <;> (iterate 3 refine J Z ?_) <;> (first | (refine J Z ?_) | (refine .cons (qc Z ?_ ?_)) <;> intro _) <;> (refine J Z ?_) <;> (refine Y Z ?_)) | (refine X 2 ?_; (refine J Z ?_) <;> (refine Y Z ?_)) | (refine X 3 ?_; (iterate 2 refine J Z ?_) <;> (refine .cons (Lt hX Z Z Z Z Z (by omega) (by omega) Z Z ?_)) <;> (refine .cons (qld hX Z Z Z Z Z Z (F6 _ (by omega)) Z Z ?_)) <;> (iterate 2 refine J Z ?_) <;> (refine Y Z ?_)) | (refine X 4 ?_; (refine J Z ?_) <;> ((refine .cons (qb hX Z ?_ ?_)) <;> (intro hbl; (first | (cases hbl; done) | skip))) <;> (iterate 3 refine J Z ?_) <;> (first | (refine J Z ?_) | (refine .cons (aV Z Z Z Z ND Z Z (fun h f => o6 hK _ h f.wf) ?_ ?_)) <;> intro _) <;> (iterate 4 refine J Z ?_) <;> (first | (refine .cons (qb hX Z ?_ ?_)) <;> (intro hbl; (first | (cases hbl; done) | skip)) | (refine J Z ?_)) <;> (iterate 4 refine J Z ?_) <;> (first | (refine J Z ?_) | (refine .cons (qc Z ?_ ?_)) <;> intro _) <;> (iterate 4 refine J Z ?_) <;> (first | (refine J Z ?_) | (refine .cons (aV Z Z Z Z FL Z Z (fun h f => gz hK _ _ _ h f.wf) ?_ ?_)) <;> intro _) <;> (iterate 3 refine J Z ?_) <;> (refine Y Z ?_)) | (refine X 5 ?_; (refine J Z ?_) <;> (refine Y Z ?_)) | (refine X 6 ?_; (iterate 4 refine J Z ?_) <;> ((refine .cons (aV Z Z Z Z FL Z Z (fun h f => gz hK _ _ _ h f.wf) ?_ ?_)) <;> intro _) <;> (iterate 5 refine J Z ?_) <;> (first | (refine J Z ?_) | (refine .cons (aV Z Z Z Z FL Z Z (fun h f => gz hK _ _ _ h f.wf) ?_ ?_)) <;> intro _) <;> (iterate 6 refine J Z ?_) <;> (first | (refine J Z ?_) | (refine .cons (aV Z Z Z Z FL Z Z (fun h f => gz hK _ _ _ h f.wf) ?_ ?_)) <;> intro _) <;> (iterate 2 refine J Z ?_) <;> (refine Y Z ?_)) | (refine X 7 ?_; (iterate 6 refine J Z ?_) <;> (first | (refine J Z ?_) | (refine .cons (aV Z Z Z Z NB Z Z (fun h f => IM hK c pv sv iv (U x.kind.toNat) x.cL nn.1 nn.2 h f.wf r (f.ro (.of hr))) ?_ ?_)) <;> intro _) <;> (iterate 8 refine J Z ?_) <;> (first | (refine J Z ?_) | (refine .cons (ql hX Z Z Z Z Z Z (by assumption) Z Z ?_))) <;> (first | (refine J Z ?_) | (refine .cons (aV Z Z Z Z FL Z Z (fun h f => gz hK _ _ _ h f.wf) ?_ ?_)) <;> intro _) <;> (iterate 8 refine J Z ?_) <;> (first | (refine J Z ?_) | (refine .cons (ql hX Z Z Z Z Z Z (by assumption) Z Z ?_))) <;> (first | (refine J Z ?_) | (refine .cons (qa Z Z Z Z Z (wI (by first | omega | (simp only [Int.ofNat_eq_natCast]; omega)) (by first | omega | (simp only [Int.ofNat_eq_natCast]; omega))) Z Z ?_))) <;> (first | (refine J Z ?_) | (refine .cons (aV Z Z Z Z FL Z Z (fun h f => gz hK _ _ _ h f.wf) ?_ ?_)) <;> intro _) <;> (iterate 2 refine J Z ?_) <;> (refine Y Z ?_)) | refine ag.r_ ?_ | refine aw.d_ ?_ | refine ag.t_ rfl ?_ | refine ag.f_ rfl ?_ | refine ag.k_ ?_ | refine aw.r_ hX rfl ?_)
 all_goals (intro h f; refine ⟨?_, f.aS⟩; clear f; unfold az.ju; first | (rw [decide_eq_false (p := _ ∧ _) (by omega)]; rfl) | (rw [decide_eq_true (p := _ ∧ _) (by omega)]; simp_all [aP]; done) | (rw [decide_eq_true (p := _ ∧ _) (by omega), decide_eq_false (p := 0 < _) (by omega)]; simp_all [aP]; done))
def az.uY (f : az) : Bool := decide ((f.ay.getD (f.ay.length - 1) b8).kind = 15 ∨ (f.ay.getD (f.ay.length - 1) b8).kind = 13)
def az.cF (f : az) : Bool := f.nk && decide (1 ≤ f.ay.length ∧ f.ay.length ≤ 2000) && f.uY && f.ay.all f.ju
theorem mask13 : Nat.lor (jm Tryz.f13) (Nat.sub (Nat.pow 2 1) 1) = 142816254623935 := by kernel_rfl
theorem wR (hK : KN base K) (c : az) (pv sv iv : ad) (h : Heap) (w : Wf h) (hB : (lies base).holds h) (r : gk c) (hr : (ke c pv sv iv).holds h) : Sp P K 13 [cv c pv sv iv] h (dE (.bool c.cF) h) := by
 have hi := hr.2.2
 have li := bG hi
 have bi := r.Ha
 refine Sp.start (m := 142816254623935) (n := 49) w (hK.none 13 rfl rfl _ _) Tryz.func13 rfl rfl mask13 rfl rfl ?_
 repeat' (first | refine aw.a_ ?_ | refine ag.s_ ?_ | (refine X 0 ?_; (iterate 2 refine J Z ?_) <;> (refine Y Z ?_)) | (refine X 1 ?_; (iterate 2 refine J Z ?_) <;> (refine .cons (ql hX Z Z Z Z Z Z (by assumption) Z Z ?_)) <;> (refine J Z ?_) <;> (refine Y Z ?_)) | (refine X 2 ?_; (refine J Z ?_) <;> ((refine .cons (aV Z Z Z Z NS Z Z (fun h f => Hb hK c pv sv iv h f.wf (f.ro (.of hB)) r (f.ro (.of hr))) ?_ ?_)) <;> intro _) <;> (iterate 3 refine J Z ?_) <;> (first | (refine J Z ?_) | (refine .cons (qc Z ?_ ?_)) <;> intro _) <;> (iterate 3 refine J Z ?_) <;> (first | (refine J Z ?_) | (refine .cons (qc Z ?_ ?_)) <;> intro _) <;> (refine J Z ?_) <;> (refine Y Z ?_)) | (refine X 3 ?_; (refine J Z ?_) <;> (refine Y Z ?_)) | (refine X 4 ?_; (iterate 3 refine J Z ?_) <;> (refine .cons (qa (d := ((c.ay.length - 1 : Nat) : Int)) Z Z Z Z Z (tM (i := 1) (by omega) (by omega)) Z Z ?_)) <;> (refine .cons (bh hX Z Z Z Z Z (.of hi) (aN b8 (by omega)) Z Z Z ?_)) <;> (iterate 3 refine J Z ?_) <;> (refine Y Z ?_)) | (refine X 5 ?_; (refine J Z ?_) <;> ((refine .cons (qc Z ?_ ?_)) <;> intro _) <;> (iterate 2 refine J Z ?_) <;> (first | (refine J Z ?_) | (refine .cons (qc Z ?_ ?_)) <;> intro _) <;> (refine J Z ?_) <;> (refine Y Z ?_)) | (refine X 6 ?_; (refine J Z ?_) <;> (refine Y Z ?_)) | (refine X 7 ?_; (refine .cons (ao Z Z Z Z NR Z Z (fun h f => F5 hK h f.wf) ?_)) <;> (iterate 2 refine J Z ?_) <;> (refine Y Z ?_)) | (refine X 8 ?_; (iterate 2 refine J Z ?_) <;> (refine .cons (ql hX Z Z Z Z Z Z (by assumption) Z Z ?_)) <;> (refine J Z ?_) <;> (refine Y Z ?_)) | refine ag.r_ ?_ | refine aw.d_ ?_ | refine ag.t_ rfl ?_ | refine ag.f_ rfl ?_ | refine ag.k_ ?_ | refine ag.b_ ?_ | refine aw.r_ hX rfl ?_)
 all_goals try (intro h f; refine ⟨?_, f.aS⟩; clear f; unfold az.cF az.uY; simp only [aP]; first | (simp_all; done) | (rw [decide_eq_false (p := 1 ≤ _ ∧ _) (by omega)]; simp; done) | (rw [decide_eq_false (p := _ ∨ _) (by omega)]; simp; done))
 all_goals
  have hl : c.uY = true := by unfold az.uY; exact decide_eq_true (by omega)
  refine ag.loop (fun i => [(39, .ext (i64 i)), (38, .ext (i64 c.ay.length)), (37, .ext iv), (5, .ptr 2 0), (1, .ptr 0 0)]) (fun _ => [.own [.str c.n c.c, pv, sv, .int .i64 c.local, iv] 26 false, .ro (ez (c.ay.getD (c.ay.length - 1) b8)), .own yF 81 false]) (fun _ => []) (fun i => i ≤ c.ay.length ∧ c.cF = (c.ay.drop i).all c.ju) (fun i => c.ay.length - i) 0 ⟨⟨rfl, rfl, rfl, rfl, rfl, trivial⟩, ⟨_, rfl⟩, ⟨_, .nil⟩⟩ ⟨Nat.zero_le _, by unfold az.cF; rw [decide_eq_true (p := 1 ≤ _ ∧ _) (by omega)]; simp_all⟩ (fun _ => rfl) (fun _ => rfl) (fun _ => rfl) ?_
  rintro i ⟨hi2, he⟩ next
  repeat' (first | refine aw.a_ ?_ | refine ag.s_ ?_ | (refine X 9 ?_; ((refine .cons (qc Z ?_ ?_)) <;> intro _) <;> (refine Y Z ?_)) | (refine X 10 ?_; (refine .cons (bh hX Z Z Z Z Z (.of hi) (aN b8 (by omega)) Z Z Z ?_)) <;> (iterate 3 refine J Z ?_) <;> (refine Y Z ?_)) | (refine X 11 ?_; (iterate 3 refine J Z ?_) <;> ((refine .cons (aV Z Z Z Z NQ Z Z (fun h f => vc hK c pv sv iv (c.ay.getD i b8) (r.each _ (aY _ (by omega))) h f.wf r (f.ro (.of hr))) ?_ ?_)) <;> intro _) <;> (refine J Z ?_) <;> (refine Y Z ?_)) | (refine X 12 ?_; (refine J Z ?_) <;> (refine Y Z ?_)) | (refine X 13 ?_; (refine .cons (qa Z Z Z Z Z (wI (by first | omega | (simp only [Int.ofNat_eq_natCast]; omega)) (by first | omega | (simp only [Int.ofNat_eq_natCast]; omega))) Z Z ?_)) <;> (refine J Z ?_) <;> (refine Y Z ?_)) | (refine X 14 ?_; (refine J Z ?_) <;> (refine Y Z ?_)) | refine ag.r_ ?_ | refine aw.d_ ?_ | refine aw.f_ ?_ | refine ag.t_ rfl ?_ | refine ag.f_ rfl ?_ | refine ag.k_ ?_ | refine ag.b_ ?_ | refine ag.e_ ?_ | refine aw.e_ ?_ | refine aw.c_ ?_ | refine aw.b_ ?_ | refine aw.r_ hX rfl ?_)
  ·refine next (i + 1) _ _ _ (by omega) ⟨⟨rfl, rfl, rfl, rfl, rfl, trivial⟩, ⟨_, rfl⟩, ⟨_, .nil⟩⟩ ⟨by omega, ?_⟩
   clear next
   rw [he, cJ _ (by omega) b8]; simp_all
  ·clear next
   refine fun h f => ⟨?_, f.aS⟩
   clear f
   rw [he, cJ _ (by omega) b8]; simp_all [aP]
  ·exact fun h f => ⟨by rw [he, List.drop_of_length_le (by omega)]; rfl, f.aS⟩
end Em
end Go.HL
namespace Go.HL
open Go Go.Proofs
namespace Em
set_option maxRecDepth 10000
set_option maxHeartbeats 4000000
variable {K : ai} {base : List (Nat × aE)}
def az.fP (f : az) (x : bI) : Bool :=
 decide (0 ≤ x.kind ∧ x.kind < 16) && bS (vg x.kind).1 x.d 16 && bS (vg x.kind).2.1 x.a 16 && bS (vg x.kind).2.2 x.b 16 && jg x && f.jf x && f.lC x
def az.fE (f : az) : Bool := f.gg && decide (0 ≤ f.local ∧ f.local ≤ 64) && decide (1 ≤ f.ay.length ∧ f.ay.length ≤ 2000) && f.ay.all f.fP && f.uY
theorem mask14 : Nat.lor (jm Tryz.f14) (Nat.sub (Nat.pow 2 1) 1) = 1267650600228229402733653787135 := by kernel_rfl
theorem pS (hK : KN base K) (c : az) (pv sv iv : ad) (h : Heap) (w : Wf h) (r : gk c) (hr : (ke c pv sv iv).holds h) : Sp P K 14 [cv c pv sv iv] h (dE (.bool c.fE) h) := by
 have hi := hr.2.2
 have li := bG hi
 have bi := r.Ha
 refine Sp.start (m := 1267650600228229402733653787135) (n := 119) w (hK.none 14 rfl rfl _ _) Tryz.func14 rfl rfl mask14 rfl rfl ?_
 repeat' (first | refine aw.a_ ?_ | refine ag.s_ ?_ | (refine X 0 ?_; (iterate 2 refine J Z ?_) <;> (refine Y Z ?_)) | (refine X 1 ?_; (iterate 2 refine J Z ?_) <;> (refine .cons (ql hX Z Z Z Z Z Z (by assumption) Z Z ?_)) <;> (refine J Z ?_) <;> (refine Y Z ?_)) | (refine X 2 ?_; (iterate 6 refine J Z ?_) <;> ((refine .cons (aV Z Z Z Z NP Z Z (fun h f => yj hK c pv sv h f.wf r (f.ro (.of hr.1)) (f.ro (.of hr.2.1))) ?_ ?_)) <;> intro _) <;> (iterate 4 refine J Z ?_) <;> (first | (refine J Z ?_) | (refine .cons (qc Z ?_ ?_)) <;> intro _) <;> (iterate 4 refine J Z ?_) <;> (first | (refine J Z ?_) | (refine .cons (qc Z ?_ ?_)) <;> intro _) <;> (iterate 3 refine J Z ?_) <;> (first | (refine J Z ?_) | (refine .cons (qc Z ?_ ?_)) <;> intro _) <;> (iterate 3 refine J Z ?_) <;> (first | (refine J Z ?_) | (refine .cons (qc Z ?_ ?_)) <;> intro _) <;> (refine J Z ?_) <;> (refine Y Z ?_)) | (refine X 3 ?_; (refine J Z ?_) <;> (refine Y Z ?_)) | (refine X 4 ?_; (refine J Z ?_) <;> (refine Y Z ?_)) | refine ag.r_ ?_ | refine aw.d_ ?_ | refine ag.t_ rfl ?_ | refine ag.f_ rfl ?_ | refine ag.k_ ?_ | refine ag.b_ ?_ | refine aw.r_ hX rfl ?_)
 all_goals try (intro h f; refine ⟨?_, f.aS⟩; clear f; unfold az.fE; simp only [aP]; first | (simp_all; done) | (rw [decide_eq_false (p := 1 ≤ _ ∧ _) (by omega)]; simp; done) | (rw [decide_eq_false (p := 0 ≤ c.local ∧ _) (by omega)]; simp; done))
 refine ag.loop (fun i => [(4, .ext (i64 i)), (3, .ext (i64 c.ay.length)), (1, .ptr 0 0)]) (fun _ => [.own [.str c.n c.c, pv, sv, .int .i64 c.local, iv] 26 false]) (fun _ => []) (fun i => i ≤ c.ay.length ∧ c.fE = ((c.ay.drop i).all c.fP && c.uY)) (fun i => c.ay.length - i) 0 ⟨⟨rfl, rfl, rfl, trivial⟩, ⟨_, rfl⟩, ⟨_, .nil⟩⟩ ⟨Nat.zero_le _, by unfold az.fE; rw [decide_eq_true (p := 1 ≤ _ ∧ _) (by omega), decide_eq_true (p := 0 ≤ c.local ∧ _) (by omega)]; simp_all⟩ (fun _ => rfl) (fun _ => rfl) (fun _ => rfl) ?_
 rintro i ⟨hi2, he⟩ next
 repeat' (first | refine aw.a_ ?_ | refine ag.s_ ?_ | (refine X 5 ?_; (iterate 2 refine J Z ?_) <;> ((refine .cons (qc Z ?_ ?_)) <;> intro _) <;> (refine Y Z ?_)) | (refine X 7 ?_; (iterate 3 refine J Z ?_) <;> (refine .cons (bh hX Z Z Z Z Z (.of hi) (aN b8 (by omega)) Z Z Z ?_)) <;> (iterate 3 refine J Z ?_) <;> (refine Y Z ?_)) | (refine X 8 ?_; (iterate 2 refine J Z ?_) <;> (refine .cons (ao Z Z Z Z NO Z Z (fun h f => IS hK _ h f.wf) ?_)) <;> (iterate 7 refine J Z ?_) <;> (refine Y Z ?_)) | (refine X 9 ?_; (iterate 2 refine J Z ?_) <;> ((refine .cons (qc Z ?_ ?_)) <;> intro _) <;> (iterate 3 refine J Z ?_) <;> (first | (refine J Z ?_) | (refine .cons (qc Z ?_ ?_)) <;> intro _) <;> (iterate 5 refine J Z ?_) <;> (first | (refine J Z ?_) | (refine .cons (aV Z Z Z Z KS Z Z (fun h f => yd hK _ _ h f.wf) ?_ ?_)) <;> intro _) <;> (iterate 6 refine J Z ?_) <;> (first | (refine J Z ?_) | (refine .cons (aV Z Z Z Z KS Z Z (fun h f => yd hK _ _ h f.wf) ?_ ?_)) <;> intro _) <;> (iterate 6 refine J Z ?_) <;> (first | (refine J Z ?_) | (refine .cons (aV Z Z Z Z KS Z Z (fun h f => yd hK _ _ h f.wf) ?_ ?_)) <;> intro _) <;> (iterate 4 refine J Z ?_) <;> (first | (refine J Z ?_) | (refine .cons (aV Z Z Z Z NN Z Z (fun h f => zF hK (c.ay.getD i b8) h f.wf) ?_ ?_)) <;> intro _) <;> (iterate 5 refine J Z ?_) <;> (first | (refine J Z ?_) | (refine .cons (aV Z Z Z Z NM Z Z (fun h f => zD hK c pv sv iv (c.ay.getD i b8) (r.each _ (aY _ (by omega))) h f.wf r (f.ro (.of hr))) ?_ ?_)) <;> intro _) <;> (iterate 5 refine J Z ?_) <;> (first | (refine J Z ?_) | (refine .cons (aV Z Z Z Z NL Z Z (fun h f => Bq hK c pv sv iv (c.ay.getD i b8) h f.wf r (f.ro (.of hr))) ?_ ?_)) <;> intro _) <;> (iterate 2 refine J Z ?_) <;> (refine Y Z ?_)) | (refine X 10 ?_; (refine J Z ?_) <;> (refine Y Z ?_)) | (refine X 6 ?_; (refine J Z ?_) <;> (refine .cons (qa Z Z Z Z Z (wI (by first | omega | (simp only [Int.ofNat_eq_natCast]; omega)) (by first | omega | (simp only [Int.ofNat_eq_natCast]; omega))) Z Z ?_)) <;> (refine J Z ?_) <;> (refine Y Z ?_)) | (refine X 11 ?_; (iterate 3 refine J Z ?_) <;> (refine .cons (qa (d := ((c.ay.length - 1 : Nat) : Int)) Z Z Z Z Z (tM (i := 1) (by omega) (by omega)) Z Z ?_)) <;> (refine .cons (bh hX Z Z Z Z Z (.of hi) (aN b8 (by omega)) Z Z Z ?_)) <;> (iterate 2 refine J Z ?_) <;> ((refine .cons (qc Z ?_ ?_)) <;> intro _) <;> (iterate 4 refine J Z ?_) <;> (first | (refine J Z ?_) | (refine .cons (qa (d := ((c.ay.length - 1 : Nat) : Int)) Z Z Z Z Z (tM (i := 1) (by omega) (by omega)) Z Z ?_))) <;> (first | (refine J Z ?_) | (refine .cons (bh hX Z Z Z Z Z (.of hi) (aN b8 (by omega)) Z Z Z ?_))) <;> (iterate 2 refine J Z ?_) <;> (first | (refine J Z ?_) | (refine .cons (qc Z ?_ ?_)) <;> intro _) <;> (iterate 2 refine J Z ?_) <;> (refine Y Z ?_)) | refine ag.r_ ?_ | refine aw.d_ ?_ | refine aw.f_ ?_ | refine ag.t_ rfl ?_ | refine ag.f_ rfl ?_ | refine ag.k_ ?_ | refine ag.b_ ?_ | refine ag.e_ ?_ | refine aw.e_ ?_ | refine aw.c_ ?_ | refine aw.b_ ?_ | refine aw.r_ hX rfl ?_)
 all_goals first
  | (refine next (i + 1) _ _ _ (by omega) ⟨⟨rfl, rfl, rfl, trivial⟩, ⟨_, rfl⟩, ⟨_, .nil⟩⟩ ⟨by omega, ?_⟩; clear next; rw [he, cJ _ (by omega) b8]; have ln : c.fP (c.ay.getD i b8) = true := (by unfold az.fP; rw [decide_eq_true (p := _ ∧ _) (by omega)]; simp_all); rw [ln]; rfl)
  | (clear next; refine fun h f => ⟨?_, f.aS⟩; clear f; have ln : c.fP (c.ay.getD i b8) = false := (by unfold az.fP; first | (rw [decide_eq_false (by omega)]; rfl) | (rw [decide_eq_true (p := _ ∧ _) (by omega)]; simp_all; done)); rw [he, cJ _ (by omega) b8, ln]; rfl)
  | skip
 all_goals
  clear next
  refine fun h f => ⟨?_, f.aS⟩
  clear f
  rw [he, List.drop_of_length_le (by omega)]
  unfold az.uY
  first | (rw [decide_eq_true (by omega)]; rfl) | (rw [decide_eq_false (by omega)]; rfl)
/-! ## Both are the same -/
theorem Ae {k : Int} (h0 : 0 ≤ k) (h1 : k < 16) : k = 0 ∨ k = 1 ∨ k = 2 ∨ k = 3 ∨ k = 4 ∨ k = 5 ∨ k = 6 ∨ k = 7 ∨ k = 8 ∨ k = 9 ∨ k = 10 ∨ k = 11 ∨ k = 12 ∨ k = 13 ∨ k = 14 ∨ k = 15 := by omega
theorem yX (f : az) (n : Int) (h6 : f.params.length ≤ 6) : f.nC n = f.mI 1 n := by
 unfold az.nC az.mI
 simp only [show ¬ (1 : Int) = 0 by decide, if_false, if_true]
 by_cases h : 6 ≤ n
 ·rw [if_pos h, decide_eq_false (p := 0 ≤ n ∧ n < (f.params.length : Int)) (by omega)]
  simp only [Bool.false_and, Bool.false_or]
  congr 1
  exact propext ⟨fun g => ⟨h, g⟩, fun g => g.2⟩
 ·rw [if_neg h, decide_eq_false (p := 6 ≤ n ∧ _) (by omega), Bool.or_false]
theorem Cq (f : az) (x : bI) (h6 : f.params.length ≤ 6) : f.ju x = f.fP x := by
 unfold az.ju az.fP
 by_cases h : 0 ≤ x.kind ∧ x.kind < 16
 ·rw [decide_eq_true h, Bool.true_and, Bool.true_and]
  have e := Ae h.1 h.2
  have ha := yX f x.cL h6
  rcases e with e | e | e | e | e | e | e | e | e | e | e | e | e | e | e | e <;> rw [e]
  all_goals simp only [Int.toNat, U, eo, vg, jg, az.jf, az.lC, az.Ag, bS, ha, e, oE, oT, mi, az.mI]
  all_goals simp [Int.lt_add_one_iff]
  all_goals ac_rfl
 ·rw [decide_eq_false h]; simp
theorem sc (f : az) : f.cF = f.fE := by
 unfold az.cF az.fE az.nk
 by_cases h6 : f.params.length ≤ 6
 ·have e : f.ju = f.fP := funext fun x => Cq f x h6
  rw [e]
  ac_rfl
 ·have e : f.gg = false := by unfold az.gg az.cB; rw [decide_eq_false h6]; simp
  rw [e]; simp
end Em
end Go.HL
namespace Go.HL
open Go Go.Proofs
namespace Em
set_option maxRecDepth 10000
variable {K : ai} {base : List (Nat × aE)}
end Em
end Go.HL
