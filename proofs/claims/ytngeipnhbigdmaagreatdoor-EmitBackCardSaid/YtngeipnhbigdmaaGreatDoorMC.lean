/- The walk: instructions, both Valid. No statement of the seat stands here. -/
import Derived.Test.YtngeipnhbigdmaaGreatDoorMB
set_option linter.unusedVariables false
set_option linter.unusedSimpArgs false
namespace Go.HL
open Go Go.Proofs
namespace Em
set_option maxRecDepth 10000
variable {K : ah} {base : List (Nat × aG)}
structure zn where
 d : Bool
 a : Bool
 b : Bool
 array : Bool
 BU : Bool
 v8 : Bool
 «local» : Bool
 param : Bool
 word : Bool
 to : Bool
 join : Bool
 ops : Int
abbrev zn.cells (u : zn) : List aa := [.bool u.d, .bool u.a, .bool u.b, .bool u.array, .bool u.BU, .bool u.v8, .bool u.local, .bool u.param, .bool u.word, .bool u.to, .bool u.join, .int .i64 u.ops]
def eN : zn := ⟨false, false, false, false, false, false, false, false, false, false, false, 0⟩
def U : Nat → zn
 | 0 => { eN with d := true, word := true }
 | 1 => { eN with d := true, a := true }
 | 2 => { eN with d := true, a := true, ops := 3 }
 | 3 => { eN with d := true, a := true, b := true, ops := 20 }
 | 4 => { eN with d := true, ops := 4 }
 | 5 => { eN with d := true, param := true }
 | 6 => { eN with d := true, a := true, array := true }
 | 7 => { eN with a := true, b := true, array := true }
 | 8 => { eN with a := true, b := true, array := true, BU := true }
 | 9 => { eN with v8 := true }
 | 10 => { eN with d := true, a := true, v8 := true, BU := true }
 | 11 => { eN with d := true, «local» := true }
 | 12 => { eN with a := true, «local» := true }
 | 13 => { eN with to := true }
 | 14 => { eN with a := true, to := true, join := true }
 | _ => eN
def A6 : List aa := ((List.range 16).map fun k => (U k).cells).flatten
theorem H8 : ∀ j, j < 16 → fp (jS A6 (Nat.add 0 (Nat.mul j 12))) 12 some = some (U j).cells
 | 0, _ | 1, _ | 2, _ | 3, _ | 4, _ | 5, _ | 6, _ | 7, _ | 8, _ | 9, _ | 10, _ | 11, _ | 12, _ | 13, _ | 14, _ | 15, _ => rfl
 | n + 16, h => absurd h (by omega)
theorem H7 (hK : KN base K) (h : Heap) (w : Wf h) : Sp P K 35 [] h (iw (.agg A6) h) := by
 refine Sp.start (m := 1) (n := 18) w (hK.none 35 rfl rfl _ _) Tryz.func35 rfl rfl (by kernel_rfl) rfl rfl ?_
 repeat' (first | refine ax.a_ ?_ | refine ai.s_ ?_ | (refine X 0 ?_; (refine J Z ?_) <;> (refine Y Z ?_)) | (refine X 1 ?_; (iterate 18 refine J Z ?_) <;> (refine Y Z ?_)) | refine ai.r_ ?_ | refine ax.r_ hX rfl ?_)
 exact fun h f => ⟨rfl, f.aZ⟩
def aD.param (f : aD) (a : Int) : Nat × Nat × Bool := f.params.getD a.toNat jh
theorem aD.yB {f : aD} {a : Int} (h0 : 0 ≤ a) (h1 : a < (f.params.length : Int)) : (f.params.map pc)[a.toNat]? = some (pc (f.param a)) := by
 have hj : a.toNat < f.params.length := by omega
 simp [aD.param, List.getD, List.getElem?_eq_getElem hj]
def aD.ow (f : aD) (n : Int) : Bool := if 6 ≤ n then decide (n < 6 + (f.shared.length : Int)) else decide (0 ≤ n ∧ n < (f.params.length : Int)) && (f.param n).2.2
theorem HQ (hK : KN base K) (c : aD) (pv sv iv : aa) (n : Int) (n1 : -2147483648 ≤ n) (n2 : n ≤ 2147483647) (h : Heap) (w : Wf h) (r : mU c) (hr : (n8 c pv sv iv).holds h) : Sp P K 152 [cv c pv sv iv, .int .i32 n] h (iw (.bool (c.ow n)) h) := by
 have hp := hr.1
 have lp := aV hp
 have ls := aV hr.2.1
 have bp := r.Gq
 have bs := r.Im
 refine Sp.start (m := 87) (n := 32) w (hK.none 152 rfl rfl _ _) Tryz.func152 rfl rfl (by kernel_rfl) rfl rfl ?_
 repeat' (first | refine ax.a_ ?_ | refine ai.s_ ?_ | (refine X 0 ?_; (iterate 2 refine J Z ?_) <;> (refine Y Z ?_)) | (refine X 1 ?_; (refine J Z ?_) <;> ((refine .cons (qc Z ?_ ?_)) <;> intro _) <;> (refine Y Z ?_)) | (refine X 2 ?_; (refine J Z ?_) <;> (refine .cons (qw hX Z Z Z Z (wI (by first | omega | (simp only [Int.ofNat_eq_natCast]; omega)) (by first | omega | (simp only [Int.ofNat_eq_natCast]; omega))) Z Z ?_)) <;> (iterate 2 refine J Z ?_) <;> (refine .cons (ql hX Z Z Z Z Z Z (by assumption) Z Z ?_)) <;> (refine .cons (qa Z Z Z Z Z (wI (by first | omega | (simp only [Int.ofNat_eq_natCast]; omega)) (by first | omega | (simp only [Int.ofNat_eq_natCast]; omega))) Z Z ?_)) <;> ((refine .cons (qc Z ?_ ?_)) <;> intro _) <;> (refine J Z ?_) <;> (refine Y Z ?_)) | (refine X 3 ?_; (refine J Z ?_) <;> ((refine .cons (qc Z ?_ ?_)) <;> intro _) <;> (iterate 2 refine J Z ?_) <;> (first | (refine J Z ?_) | (refine .cons (qw hX Z Z Z Z (wI (by first | omega | (simp only [Int.ofNat_eq_natCast]; omega)) (by first | omega | (simp only [Int.ofNat_eq_natCast]; omega))) Z Z ?_))) <;> (iterate 2 refine J Z ?_) <;> (first | (refine J Z ?_) | (refine .cons (ql hX Z Z Z Z Z Z (by assumption) Z Z ?_))) <;> (first | (refine J Z ?_) | (refine .cons (qc Z ?_ ?_)) <;> intro _) <;> (iterate 5 refine J Z ?_) <;> (first | (refine J Z ?_) | (refine .cons (Mi hX Z Z Z Z Z (by assumption) (.of hp) (aD.yB (by assumption) (by assumption)) Z Z Z ?_))) <;> (refine J Z ?_) <;> (first | (refine .cons (qb hX Z ?_ ?_)) <;> (intro hbl; (first | (cases hbl; done) | skip)) | (refine J Z ?_)) <;> (iterate 2 refine J Z ?_) <;> (refine Y Z ?_)) | refine ai.r_ ?_ | refine ax.d_ ?_ | refine ai.t_ rfl ?_ | refine ai.f_ rfl ?_ | refine ai.k_ ?_ | refine ax.r_ hX rfl ?_)
 all_goals (intro h f; refine ⟨?_, f.aZ⟩; clear f; first | (simp_all [cD, aD.ow]; done) | (simp_all [cD, aD.ow]; omega) | (simp_all [cD, aD.ow]; intros; exfalso; omega) | (simp_all [cD, aD.ow]; split <;> intros <;> first | omega | (exfalso; omega) | simp_all))
def aD.BL (f : aD) (u : zn) (n : Int) : Bool :=
 if u.word then true
 else if u.array then f.ow n
 else if u.param then decide (0 ≤ n ∧ n < (f.params.length : Int)) && !(f.param n).2.2
 else if u.v8 then decide (0 ≤ n ∧ n ≤ 400)
 else if u.local then decide (0 ≤ n ∧ n < f.local)
 else decide (n = 0)
theorem Lg (hK : KN base K) (c : aD) (pv sv iv : aa) (u : zn) (n : Int) (n1 : -2147483648 ≤ n) (n2 : n ≤ 2147483647) (h : Heap) (w : Wf h) (r : mU c) (hr : (n8 c pv sv iv).holds h) : Sp P K 81 [cv c pv sv iv, .agg u.cells, .int .i32 n] h (iw (.bool (c.BL u n)) h) := by
 have hp := hr.1
 have lp := aV hp
 have bp := r.Gq
 refine Sp.start (m := 141012366329055) (n := 61) w (hK.none 81 rfl rfl _ _) Tryz.func81 rfl rfl N0 rfl rfl ?_
 repeat' (first | refine ax.a_ ?_ | refine ai.s_ ?_ | (refine X 0 ?_; (iterate 3 refine J Z ?_) <;> (refine Y Z ?_)) | (refine X 1 ?_; (refine J Z ?_) <;> ((refine .cons (qb hX Z ?_ ?_)) <;> (intro hbl; (first | (cases hbl; done) | skip))) <;> (refine J Z ?_) <;> (refine Y Z ?_)) | (refine X 2 ?_; (refine J Z ?_) <;> (refine Y Z ?_)) | (refine X 3 ?_; (refine J Z ?_) <;> ((refine .cons (qb hX Z ?_ ?_)) <;> (intro hbl; (first | (cases hbl; done) | skip))) <;> (refine J Z ?_) <;> (refine Y Z ?_)) | (refine X 4 ?_; (iterate 2 refine J Z ?_) <;> (refine .cons (aE Z Z Z Z Pn Z Z (fun h f => HQ hK c pv sv iv n n1 n2 h f.wf r (f.ro (.of hr))) ?_)) <;> (refine J Z ?_) <;> (refine Y Z ?_)) | (refine X 5 ?_; (refine J Z ?_) <;> ((refine .cons (qb hX Z ?_ ?_)) <;> (intro hbl; (first | (cases hbl; done) | skip))) <;> (refine J Z ?_) <;> (refine Y Z ?_)) | (refine X 6 ?_; (refine J Z ?_) <;> ((refine .cons (qc Z ?_ ?_)) <;> intro _) <;> (iterate 2 refine J Z ?_) <;> (first | (refine J Z ?_) | (refine .cons (qw hX Z Z Z Z (wI (by first | omega | (simp only [Int.ofNat_eq_natCast]; omega)) (by first | omega | (simp only [Int.ofNat_eq_natCast]; omega))) Z Z ?_))) <;> (iterate 2 refine J Z ?_) <;> (first | (refine J Z ?_) | (refine .cons (ql hX Z Z Z Z Z Z (by assumption) Z Z ?_))) <;> (first | (refine J Z ?_) | (refine .cons (qc Z ?_ ?_)) <;> intro _) <;> (iterate 5 refine J Z ?_) <;> (first | (refine J Z ?_) | (refine .cons (Mi hX Z Z Z Z Z (by assumption) (.of hp) (aD.yB (by assumption) (by assumption)) Z Z Z ?_))) <;> (refine J Z ?_) <;> (first | (refine .cons (qb hX Z ?_ ?_)) <;> (intro hbl; (first | (cases hbl; done) | skip)) | (refine J Z ?_)) <;> (iterate 3 refine J Z ?_) <;> (refine Y Z ?_)) | (refine X 7 ?_; (refine J Z ?_) <;> ((refine .cons (qb hX Z ?_ ?_)) <;> (intro hbl; (first | (cases hbl; done) | skip))) <;> (refine J Z ?_) <;> (refine Y Z ?_)) | (refine X 8 ?_; (refine J Z ?_) <;> ((refine .cons (qc Z ?_ ?_)) <;> intro _) <;> (iterate 2 refine J Z ?_) <;> (first | (refine J Z ?_) | (refine .cons (qc Z ?_ ?_)) <;> intro _) <;> (iterate 2 refine J Z ?_) <;> (refine Y Z ?_)) | (refine X 9 ?_; (refine J Z ?_) <;> ((refine .cons (qb hX Z ?_ ?_)) <;> (intro hbl; (first | (cases hbl; done) | skip))) <;> (refine J Z ?_) <;> (refine Y Z ?_)) | (refine X 10 ?_; (refine J Z ?_) <;> ((refine .cons (qc Z ?_ ?_)) <;> intro _) <;> (iterate 2 refine J Z ?_) <;> (first | (refine J Z ?_) | (refine .cons (qw hX Z Z Z Z (wI (by first | omega | (simp only [Int.ofNat_eq_natCast]; omega)) (by first | omega | (simp only [Int.ofNat_eq_natCast]; omega))) Z Z ?_))) <;> (iterate 2 refine J Z ?_) <;> (first | (refine J Z ?_) | (refine .cons (qc Z ?_ ?_)) <;> intro _) <;> (iterate 2 refine J Z ?_) <;> (refine Y Z ?_)) | (refine X 11 ?_; (refine J Z ?_) <;> ((refine .cons (qc Z ?_ ?_)) <;> intro _) <;> (refine J Z ?_) <;> (refine Y Z ?_)) | refine ai.r_ ?_ | refine ax.d_ ?_ | refine ax.f_ ?_ | refine ai.t_ rfl ?_ | refine ai.f_ rfl ?_ | refine ai.k_ ?_ | refine ai.b_ ?_ | refine ax.b_ ?_ | refine ax.r_ hX rfl ?_)
 all_goals (intro h f; refine ⟨?_, f.aZ⟩; clear f; first | (simp_all [cD, aD.BL]; done) | (simp_all [cD, aD.BL]; omega) | (simp_all [cD, aD.BL]; intros; exfalso; omega) | (simp_all [cD, aD.BL]; split <;> intros <;> first | omega | (exfalso; omega) | simp_all))
def aD.ye (f : aD) (what n : Int) : Bool :=
 if what = 0 then decide (0 ≤ n ∧ n < (f.params.length : Int)) && !(f.param n).2.2
 else if what = 1 then decide (0 ≤ n ∧ n < (f.params.length : Int)) && (f.param n).2.2 || decide (6 ≤ n ∧ n < 6 + (f.shared.length : Int))
 else if what = 2 then decide (0 ≤ n ∧ n ≤ 400)
 else if what = 3 then true
 else decide (n = 0)
def aD.B7 (f : aD) (x : bI) : Bool :=
 if x.kind = 0 then true else if x.kind = 5 then f.ye 0 x.cV else if x.kind = 6 ∨ x.kind = 7 ∨ x.kind = 8 then f.ye 1 x.cV else if x.kind = 9 ∨ x.kind = 10 then f.ye 2 x.cV
 else if x.kind = 11 ∨ x.kind = 12 then decide (0 ≤ x.cV ∧ x.cV < f.local) else decide (x.cV = 0)
def B8 (x : bI) : Bool := if x.kind = 2 then AW 1 x.op else if x.kind = 3 then AW 2 x.op else if x.kind = 4 then AW 3 x.op else if x.kind = 8 ∨ x.kind = 10 then AW 4 x.op else decide (x.op = 0)
def aD.EH (f : aD) (x : bI) : Bool :=
 if x.kind = 13 then decide (0 ≤ x.to ∧ x.to < (f.aq.length : Int) ∧ x.join = 0)
 else if x.kind = 14 then decide (0 ≤ x.to ∧ x.to < (f.aq.length : Int) ∧ 0 ≤ x.join ∧ x.join ≤ (f.aq.length : Int))
 else decide (x.to = 0 ∧ x.join = 0)
end Em
end Go.HL
namespace Go.HL
open Go Go.Proofs
namespace Em
set_option maxRecDepth 10000
set_option maxHeartbeats 4000000
variable {K : ah} {base : List (Nat × aG)}
def aD.jO (f : aD) (x : bI) : Bool :=
 decide (0 ≤ x.kind ∧ x.kind < 16) && (if (U x.kind.toNat).BU then lk x.op else cX (decide (0 < (U x.kind.toNat).ops)) x.op (U x.kind.toNat).ops) && cX (U x.kind.toNat).d x.d 16 && cX (U x.kind.toNat).a x.a 16 && cX (U x.kind.toNat).b x.b 16 &&
  f.BL (U x.kind.toNat) x.cV && cX (U x.kind.toNat).to x.to (f.aq.length : Int) && cX (U x.kind.toNat).join x.join ((f.aq.length : Int) + 1)
theorem wE (hK : KN base K) (c : aD) (pv sv iv : aa) (x : bI) (nn : -2147483648 ≤ x.cV ∧ x.cV ≤ 2147483647) (h : Heap) (w : Wf h) (r : mU c) (hr : (n8 c pv sv iv).holds h) : Sp P K 36 [cv c pv sv iv, .agg (eo x), .agg A6] h (iw (.bool (c.jO x)) h) := by
 have li := aV hr.2.2
 have bi := r.Jo
 refine Sp.start (m := 17592186110463) (n := 93) w (hK.none 36 rfl rfl _ _) Tryz.func36 rfl rfl N8 rfl rfl ?_
 repeat' (first | refine ax.a_ ?_ | refine ai.s_ ?_ | (refine X 0 ?_; (iterate 4 refine J Z ?_) <;> (refine Y Z ?_)) | (refine X 1 ?_; (iterate 2 refine J Z ?_) <;> ((refine .cons (qc Z ?_ ?_)) <;> intro _) <;> (iterate 3 refine J Z ?_) <;> (first | (refine J Z ?_) | (refine .cons (qc Z ?_ ?_)) <;> intro _) <;> (refine J Z ?_) <;> (refine Y Z ?_)) | (refine X 2 ?_; (refine J Z ?_) <;> (refine Y Z ?_)) | (refine X 3 ?_; (iterate 2 refine J Z ?_) <;> (refine .cons (Oz hX Z Z Z Z Z (by omega) (by omega) Z Z ?_)) <;> (refine .cons (qld hX Z Z Z Z Z Z (H8 _ (by omega)) Z Z ?_)) <;> (iterate 2 refine J Z ?_) <;> (refine Y Z ?_)) | (refine X 4 ?_; (refine J Z ?_) <;> ((refine .cons (qb hX Z ?_ ?_)) <;> (intro hbl; (first | (cases hbl; done) | skip))) <;> (iterate 3 refine J Z ?_) <;> (first | (refine J Z ?_) | (refine .cons (dN Z Z Z Z Qz Z Z (fun h f => p5 hK _ h f.wf) ?_ ?_)) <;> intro _) <;> (iterate 4 refine J Z ?_) <;> (first | (refine .cons (qb hX Z ?_ ?_)) <;> (intro hbl; (first | (cases hbl; done) | skip)) | (refine J Z ?_)) <;> (iterate 4 refine J Z ?_) <;> (first | (refine J Z ?_) | (refine .cons (qc Z ?_ ?_)) <;> intro _) <;> (iterate 4 refine J Z ?_) <;> (first | (refine J Z ?_) | (refine .cons (dN Z Z Z Z HI Z Z (fun h f => gT hK _ _ _ h f.wf) ?_ ?_)) <;> intro _) <;> (iterate 3 refine J Z ?_) <;> (refine Y Z ?_)) | (refine X 5 ?_; (refine J Z ?_) <;> (refine Y Z ?_)) | (refine X 6 ?_; (iterate 4 refine J Z ?_) <;> ((refine .cons (dN Z Z Z Z HI Z Z (fun h f => gT hK _ _ _ h f.wf) ?_ ?_)) <;> intro _) <;> (iterate 5 refine J Z ?_) <;> (first | (refine J Z ?_) | (refine .cons (dN Z Z Z Z HI Z Z (fun h f => gT hK _ _ _ h f.wf) ?_ ?_)) <;> intro _) <;> (iterate 6 refine J Z ?_) <;> (first | (refine J Z ?_) | (refine .cons (dN Z Z Z Z HI Z Z (fun h f => gT hK _ _ _ h f.wf) ?_ ?_)) <;> intro _) <;> (iterate 2 refine J Z ?_) <;> (refine Y Z ?_)) | (refine X 7 ?_; (iterate 6 refine J Z ?_) <;> (first | (refine J Z ?_) | (refine .cons (dN Z Z Z Z Qx Z Z (fun h f => Lg hK c pv sv iv (U x.kind.toNat) x.cV nn.1 nn.2 h f.wf r (f.ro (.of hr))) ?_ ?_)) <;> intro _) <;> (iterate 8 refine J Z ?_) <;> (first | (refine J Z ?_) | (refine .cons (ql hX Z Z Z Z Z Z (by assumption) Z Z ?_))) <;> (first | (refine J Z ?_) | (refine .cons (dN Z Z Z Z HI Z Z (fun h f => gT hK _ _ _ h f.wf) ?_ ?_)) <;> intro _) <;> (iterate 8 refine J Z ?_) <;> (first | (refine J Z ?_) | (refine .cons (ql hX Z Z Z Z Z Z (by assumption) Z Z ?_))) <;> (first | (refine J Z ?_) | (refine .cons (qa Z Z Z Z Z (wI (by first | omega | (simp only [Int.ofNat_eq_natCast]; omega)) (by first | omega | (simp only [Int.ofNat_eq_natCast]; omega))) Z Z ?_))) <;> (first | (refine J Z ?_) | (refine .cons (dN Z Z Z Z HI Z Z (fun h f => gT hK _ _ _ h f.wf) ?_ ?_)) <;> intro _) <;> (iterate 2 refine J Z ?_) <;> (refine Y Z ?_)) | refine ai.r_ ?_ | refine ax.d_ ?_ | refine ai.t_ rfl ?_ | refine ai.f_ rfl ?_ | refine ai.k_ ?_ | refine ax.r_ hX rfl ?_)
 all_goals (intro h f; refine ⟨?_, f.aZ⟩; clear f; unfold aD.jO; first | (rw [decide_eq_false (p := _ ∧ _) (by omega)]; rfl) | (rw [decide_eq_true (p := _ ∧ _) (by omega)]; simp_all [cD]; done) | (rw [decide_eq_true (p := _ ∧ _) (by omega), decide_eq_false (p := 0 < _) (by omega)]; simp_all [cD]; done))
def aD.BF (f : aD) : Bool := decide ((f.aq.getD (f.aq.length - 1) aP).kind = 15 ∨ (f.aq.getD (f.aq.length - 1) aP).kind = 13)
def aD.dm (f : aD) : Bool := f.oc && decide (1 ≤ f.aq.length ∧ f.aq.length ≤ 2000) && f.BF && f.aq.all f.jO
theorem lA (hK : KN base K) (c : aD) (pv sv iv : aa) (h : Heap) (w : Wf h) (hB : (lies base).holds h) (r : mU c) (hr : (n8 c pv sv iv).holds h) : Sp P K 13 [cv c pv sv iv] h (iw (.bool c.dm) h) := by
 have hi := hr.2.2
 have li := aV hi
 have bi := r.Jo
 refine Sp.start (m := 142816254623935) (n := 49) w (hK.none 13 rfl rfl _ _) Tryz.func13 rfl rfl Ng rfl rfl ?_
 repeat' (first | refine ax.a_ ?_ | refine ai.s_ ?_ | (refine X 0 ?_; (iterate 2 refine J Z ?_) <;> (refine Y Z ?_)) | (refine X 1 ?_; (iterate 2 refine J Z ?_) <;> (refine .cons (ql hX Z Z Z Z Z Z (by assumption) Z Z ?_)) <;> (refine J Z ?_) <;> (refine Y Z ?_)) | (refine X 2 ?_; (refine J Z ?_) <;> ((refine .cons (dN Z Z Z Z QI Z Z (fun h f => Jp hK c pv sv iv h f.wf (f.ro (.of hB)) r (f.ro (.of hr))) ?_ ?_)) <;> intro _) <;> (iterate 3 refine J Z ?_) <;> (first | (refine J Z ?_) | (refine .cons (qc Z ?_ ?_)) <;> intro _) <;> (iterate 3 refine J Z ?_) <;> (first | (refine J Z ?_) | (refine .cons (qc Z ?_ ?_)) <;> intro _) <;> (refine J Z ?_) <;> (refine Y Z ?_)) | (refine X 3 ?_; (refine J Z ?_) <;> (refine Y Z ?_)) | (refine X 4 ?_; (iterate 3 refine J Z ?_) <;> (refine .cons (qa (d := ((c.aq.length - 1 : Nat) : Int)) Z Z Z Z Z (lx (i := 1) (by omega) (by omega)) Z Z ?_)) <;> (refine .cons (bq hX Z Z Z Z Z (.of hi) (aM aP (by omega)) Z Z Z ?_)) <;> (iterate 3 refine J Z ?_) <;> (refine Y Z ?_)) | (refine X 5 ?_; (refine J Z ?_) <;> ((refine .cons (qc Z ?_ ?_)) <;> intro _) <;> (iterate 2 refine J Z ?_) <;> (first | (refine J Z ?_) | (refine .cons (qc Z ?_ ?_)) <;> intro _) <;> (refine J Z ?_) <;> (refine Y Z ?_)) | (refine X 6 ?_; (refine J Z ?_) <;> (refine Y Z ?_)) | (refine X 7 ?_; (refine .cons (aE Z Z Z Z QH Z Z (fun h f => H7 hK h f.wf) ?_)) <;> (iterate 2 refine J Z ?_) <;> (refine Y Z ?_)) | (refine X 8 ?_; (iterate 2 refine J Z ?_) <;> (refine .cons (ql hX Z Z Z Z Z Z (by assumption) Z Z ?_)) <;> (refine J Z ?_) <;> (refine Y Z ?_)) | refine ai.r_ ?_ | refine ax.d_ ?_ | refine ai.t_ rfl ?_ | refine ai.f_ rfl ?_ | refine ai.k_ ?_ | refine ai.b_ ?_ | refine ax.r_ hX rfl ?_)
 all_goals try (intro h f; refine ⟨?_, f.aZ⟩; clear f; unfold aD.dm aD.BF; simp only [cD]; first | (simp_all; done) | (rw [decide_eq_false (p := 1 ≤ _ ∧ _) (by omega)]; simp; done) | (rw [decide_eq_false (p := _ ∨ _) (by omega)]; simp; done))
 all_goals
  have hl : c.BF = true := by unfold aD.BF; exact decide_eq_true (by omega)
  refine ai.loop (fun i => [(39, .ext (i64 i)), (38, .ext (i64 c.aq.length)), (37, .ext iv), (5, .ptr 2 0), (1, .ptr 0 0)]) (fun _ => [.own [.str c.n c.c, pv, sv, .int .i64 c.local, iv] 26 false, .ro (eo (c.aq.getD (c.aq.length - 1) aP)), .own A6 81 false]) (fun _ => []) (fun i => i ≤ c.aq.length ∧ c.dm = (c.aq.drop i).all c.jO) (fun i => c.aq.length - i) 0 ⟨⟨rfl, rfl, rfl, rfl, rfl, trivial⟩, ⟨_, rfl⟩, ⟨_, .nil⟩⟩ ⟨Nat.zero_le _, by unfold aD.dm; rw [decide_eq_true (p := 1 ≤ _ ∧ _) (by omega)]; simp_all⟩ (fun _ => rfl) (fun _ => rfl) (fun _ => rfl) ?_
  rintro i ⟨hi2, he⟩ next
  repeat' (first | refine ax.a_ ?_ | refine ai.s_ ?_ | (refine X 9 ?_; ((refine .cons (qc Z ?_ ?_)) <;> intro _) <;> (refine Y Z ?_)) | (refine X 10 ?_; (refine .cons (bq hX Z Z Z Z Z (.of hi) (aM aP (by omega)) Z Z Z ?_)) <;> (iterate 3 refine J Z ?_) <;> (refine Y Z ?_)) | (refine X 11 ?_; (iterate 3 refine J Z ?_) <;> ((refine .cons (dN Z Z Z Z QG Z Z (fun h f => wE hK c pv sv iv (c.aq.getD i aP) (r.each _ (bh _ (by omega))) h f.wf r (f.ro (.of hr))) ?_ ?_)) <;> intro _) <;> (refine J Z ?_) <;> (refine Y Z ?_)) | (refine X 12 ?_; (refine J Z ?_) <;> (refine Y Z ?_)) | (refine X 13 ?_; (refine .cons (qa Z Z Z Z Z (wI (by first | omega | (simp only [Int.ofNat_eq_natCast]; omega)) (by first | omega | (simp only [Int.ofNat_eq_natCast]; omega))) Z Z ?_)) <;> (refine J Z ?_) <;> (refine Y Z ?_)) | (refine X 14 ?_; (refine J Z ?_) <;> (refine Y Z ?_)) | refine ai.r_ ?_ | refine ax.d_ ?_ | refine ax.f_ ?_ | refine ai.t_ rfl ?_ | refine ai.f_ rfl ?_ | refine ai.k_ ?_ | refine ai.b_ ?_ | refine ai.e_ ?_ | refine ax.e_ ?_ | refine ax.c_ ?_ | refine ax.b_ ?_ | refine ax.r_ hX rfl ?_)
  ·refine next (i + 1) _ _ _ (by omega) ⟨⟨rfl, rfl, rfl, rfl, rfl, trivial⟩, ⟨_, rfl⟩, ⟨_, .nil⟩⟩ ⟨by omega, ?_⟩
   clear next
   rw [he, eJ _ (by omega) aP]; simp_all
  ·clear next
   refine fun h f => ⟨?_, f.aZ⟩
   clear f
   rw [he, eJ _ (by omega) aP]; simp_all [cD]
  ·exact fun h f => ⟨by rw [he, List.drop_of_length_le (by omega)]; rfl, f.aZ⟩
end Em
end Go.HL
namespace Go.HL
open Go Go.Proofs
namespace Em
set_option maxRecDepth 10000
set_option maxHeartbeats 4000000
variable {K : ah} {base : List (Nat × aG)}
def aD.qU (f : aD) (x : bI) : Bool :=
 decide (0 ≤ x.kind ∧ x.kind < 16) && cX (Lj x.kind).1 x.d 16 && cX (Lj x.kind).2.1 x.a 16 && cX (Lj x.kind).2.2 x.b 16 && B8 x && f.B7 x && f.EH x
def aD.sK (f : aD) : Bool := f.lj && decide (0 ≤ f.local ∧ f.local ≤ 64) && decide (1 ≤ f.aq.length ∧ f.aq.length ≤ 2000) && f.aq.all f.qU && f.BF
/-! ## Both are the same -/
theorem BI {k : Int} (h0 : 0 ≤ k) (h1 : k < 16) : k = 0 ∨ k = 1 ∨ k = 2 ∨ k = 3 ∨ k = 4 ∨ k = 5 ∨ k = 6 ∨ k = 7 ∨ k = 8 ∨ k = 9 ∨ k = 10 ∨ k = 11 ∨ k = 12 ∨ k = 13 ∨ k = 14 ∨ k = 15 := by omega
theorem An (f : aD) (n : Int) (h6 : f.params.length ≤ 6) : f.ow n = f.ye 1 n := by
 unfold aD.ow aD.ye
 simp only [show ¬ (1 : Int) = 0 by decide, if_false, if_true]
 by_cases h : 6 ≤ n
 ·rw [if_pos h, decide_eq_false (p := 0 ≤ n ∧ n < (f.params.length : Int)) (by omega)]
  simp only [Bool.false_and, Bool.false_or]
  congr 1
  exact propext ⟨fun g => ⟨h, g⟩, fun g => g.2⟩
 ·rw [if_neg h, decide_eq_false (p := 6 ≤ n ∧ _) (by omega), Bool.or_false]
theorem DY (f : aD) (x : bI) (h6 : f.params.length ≤ 6) : f.jO x = f.qU x := by
 unfold aD.jO aD.qU
 by_cases h : 0 ≤ x.kind ∧ x.kind < 16
 ·rw [decide_eq_true h, Bool.true_and, Bool.true_and]
  have e := BI h.1 h.2
  have ha := An f x.cV h6
  rcases e with e | e | e | e | e | e | e | e | e | e | e | e | e | e | e | e <;> rw [e]
  all_goals simp only [Int.toNat, U, eN, Lj, B8, aD.B7, aD.EH, aD.BL, cX, ha, e, AW, I3, FG, aD.ye]
  all_goals simp [Int.lt_add_one_iff]
  all_goals ac_rfl
 ·rw [decide_eq_false h]; simp
theorem AM (f : aD) : f.dm = f.sK := by
 unfold aD.dm aD.sK aD.oc
 by_cases h6 : f.params.length ≤ 6
 ·have e : f.jO = f.qU := funext fun x => DY f x h6
  rw [e]
  ac_rfl
 ·have e : f.lj = false := by unfold aD.lj aD.iB; rw [decide_eq_false h6]; simp
  rw [e]; simp
end Em
end Go.HL
namespace Go.HL
open Go Go.Proofs
namespace Em
set_option maxRecDepth 10000
variable {K : ah} {base : List (Nat × aG)}
abbrev cO (v : aa) (l : List Nat) : Part := aL 42 1 v (l.map gj)
def nd (v : aa) : Prop := ∃ k n, v = .slice k 0 n none
def ny (n : Int) : Nat := (n % 4294967296).toNat
theorem vh (n : Int) : cx .u32 n = (ny n : Int) := by rw [ju, ny]; omega
abbrev hU (n : Int) : List aa := [.int .i64 n]
abbrev Jl (n : Int) : List aa := [.int .i32 n]
theorem kS (hK : KN base K) (v nv : aa) (l : List Nat) (ns : List Int) (h : Heap) (w : Wf h) (hg : (cO v l).holds h) (ro : Ro [cO v l] h (rd nv 1 (ns.map hU))) (hb : l.length + ns.length ≤ 17592186044416) :
  Sp P K 65 [v, nv] h (Mx (cO v l) (fun x C' => C' = [cO x (l ++ ns.map ny)] ∧ (0 < ns.length → nd x)) h) := by
 have ll := aV ro.holds
 refine Sp.mn (m := 2003) (n := 20) w hg (hK.none 65 rfl rfl _ _) Tryz.func65 rfl rfl (by kernel_rfl) rfl rfl ?_
 repeat' (first | refine ax.a_ ?_ | refine ai.s_ ?_ | (refine X 0 ?_; (refine J Z ?_) <;> (refine Y Z ?_)) | (refine X 1 ?_; (refine J Z ?_) <;> (refine .cons (ql hX Z Z Z Z Z Z (by assumption) Z Z ?_)) <;> (refine J Z ?_) <;> (refine Y Z ?_)) | refine ai.b_ ?_)
 refine ai.loop (ι := Nat × aa) (fun a => [(9, .ext (i64 a.1)), (8, .ext (i64 ns.length)), (7, .ext nv), (0, .ext a.2)]) (fun _ => []) (fun a => [cO a.2 (l ++ (ns.take a.1).map ny)]) (fun a => a.1 ≤ ns.length ∧ (0 < a.1 → nd a.2)) (fun a => ns.length - a.1) (0, v) ⟨⟨rfl, rfl, rfl, rfl, trivial⟩, ⟨_, rfl⟩, ⟨_, by simp only [List.take_zero, List.map_nil, List.append_nil]; exact .cons .h .nil⟩⟩ ⟨Nat.zero_le _, fun h => absurd h (by simp)⟩ (fun _ => rfl) (fun _ => rfl) (fun _ => rfl) ?_
 rintro ⟨i, v2⟩ ⟨hi, hfr⟩ next
 simp only at hi hfr next ⊢
 repeat' (first | refine ax.a_ ?_ | refine ai.s_ ?_ | (refine X 2 ?_; ((refine .cons (qc Z ?_ ?_)) <;> intro _) <;> (refine Y Z ?_)) | (refine X 3 ?_; (refine .cons (bq hX Z Z Z Z Z ro (aM (0 : Int) (by omega)) Z Z Z ?_)) <;> (iterate 2 refine J Z ?_) <;> (refine Y Z ?_)) | (refine X 4 ?_; (iterate 2 refine J Z ?_) <;> (refine .cons (qw hX Z Z Z Z (vh _) Z Z ?_)) <;> (refine J Z ?_) <;> ((refine .cons (sM hX Z Z Z Z Z Z Z Z Z Z Z Z NV Z Z Z Z Z (by repeat (first | exact .h | apply aS.t)) Z (by simp only [List.length_map, List.length_append, List.length_take]; omega) Z Z ?_)) <;> intro kp) <;> (refine J Z ?_) <;> (refine Y Z ?_)) | (refine X 5 ?_; (refine .cons (qa Z Z Z Z Z (wI (by first | omega | (simp only [Int.ofNat_eq_natCast]; omega)) (by first | omega | (simp only [Int.ofNat_eq_natCast]; omega))) Z Z ?_)) <;> (refine J Z ?_) <;> (refine Y Z ?_)) | (refine X 6 ?_; (iterate 2 refine J Z ?_) <;> (refine Y Z ?_)) | refine ai.r_ ?_ | refine ai.t_ rfl ?_ | refine ai.f_ rfl ?_ | refine ai.k_ ?_ | refine ai.b_ ?_ | refine ai.e_ ?_ | refine ax.e_ ?_ | refine ax.c_ ?_ | refine ax.b_ ?_ | refine ax.r_ hX rfl ?_)
 ·refine next (i + 1, _) _ _ _ (by simp only; omega) ⟨⟨rfl, rfl, rfl, rfl, trivial⟩, ⟨_, rfl⟩, ⟨_, .cons (.he (lH (x := ny (ns.getD i 0)) (by simp only; rw [take_succ (by omega) (0 : Int), List.map_append, ← List.append_assoc]; rfl))) .nil⟩⟩ ⟨by simp only; omega, fun _ => ⟨_, _, rfl⟩⟩
 ·have hi2 : i = ns.length := by omega
  subst hi2
  exact fun h f => ⟨_, f.aZ, by simp only [List.take_length]; rfl, hfr⟩
theorem HU (hK : KN base K) (v nv : aa) (l : List Nat) (ns : List Int) (h : Heap) (w : Wf h) (hg : (cO v l).holds h) (ro : Ro [cO v l] h (rd nv 1 (ns.map Jl))) (hb : l.length + ns.length ≤ 17592186044416) :
  Sp P K 66 [v, nv] h (Mx (cO v l) (fun x C' => C' = [cO x (l ++ ns.map ny)] ∧ (0 < ns.length → nd x)) h) := by
 have ll := aV ro.holds
 refine Sp.mn (m := 2003) (n := 20) w hg (hK.none 66 rfl rfl _ _) Tryz.func66 rfl rfl (by kernel_rfl) rfl rfl ?_
 repeat' (first | refine ax.a_ ?_ | refine ai.s_ ?_ | (refine X 0 ?_; (refine J Z ?_) <;> (refine Y Z ?_)) | (refine X 1 ?_; (refine J Z ?_) <;> (refine .cons (ql hX Z Z Z Z Z Z (by assumption) Z Z ?_)) <;> (refine J Z ?_) <;> (refine Y Z ?_)) | refine ai.b_ ?_)
 refine ai.loop (ι := Nat × aa) (fun a => [(9, .ext (i64 a.1)), (8, .ext (i64 ns.length)), (7, .ext nv), (0, .ext a.2)]) (fun _ => []) (fun a => [cO a.2 (l ++ (ns.take a.1).map ny)]) (fun a => a.1 ≤ ns.length ∧ (0 < a.1 → nd a.2)) (fun a => ns.length - a.1) (0, v) ⟨⟨rfl, rfl, rfl, rfl, trivial⟩, ⟨_, rfl⟩, ⟨_, by simp only [List.take_zero, List.map_nil, List.append_nil]; exact .cons .h .nil⟩⟩ ⟨Nat.zero_le _, fun h => absurd h (by simp)⟩ (fun _ => rfl) (fun _ => rfl) (fun _ => rfl) ?_
 rintro ⟨i, v2⟩ ⟨hi, hfr⟩ next
 simp only at hi hfr next ⊢
 repeat' (first | refine ax.a_ ?_ | refine ai.s_ ?_ | (refine X 2 ?_; ((refine .cons (qc Z ?_ ?_)) <;> intro _) <;> (refine Y Z ?_)) | (refine X 3 ?_; (refine .cons (bq hX Z Z Z Z Z ro (aM (0 : Int) (by omega)) Z Z Z ?_)) <;> (iterate 2 refine J Z ?_) <;> (refine Y Z ?_)) | (refine X 4 ?_; (iterate 2 refine J Z ?_) <;> (refine .cons (qw hX Z Z Z Z (vh _) Z Z ?_)) <;> (refine J Z ?_) <;> ((refine .cons (sM hX Z Z Z Z Z Z Z Z Z Z Z Z NV Z Z Z Z Z (by repeat (first | exact .h | apply aS.t)) Z (by simp only [List.length_map, List.length_append, List.length_take]; omega) Z Z ?_)) <;> intro kp) <;> (refine J Z ?_) <;> (refine Y Z ?_)) | (refine X 5 ?_; (refine .cons (qa Z Z Z Z Z (wI (by first | omega | (simp only [Int.ofNat_eq_natCast]; omega)) (by first | omega | (simp only [Int.ofNat_eq_natCast]; omega))) Z Z ?_)) <;> (refine J Z ?_) <;> (refine Y Z ?_)) | (refine X 6 ?_; (iterate 2 refine J Z ?_) <;> (refine Y Z ?_)) | refine ai.r_ ?_ | refine ai.t_ rfl ?_ | refine ai.f_ rfl ?_ | refine ai.k_ ?_ | refine ai.b_ ?_ | refine ai.e_ ?_ | refine ax.e_ ?_ | refine ax.c_ ?_ | refine ax.b_ ?_ | refine ax.r_ hX rfl ?_)
 ·refine next (i + 1, _) _ _ _ (by simp only; omega) ⟨⟨rfl, rfl, rfl, rfl, trivial⟩, ⟨_, rfl⟩, ⟨_, .cons (.he (lH (x := ny (ns.getD i 0)) (by simp only; rw [take_succ (by omega) (0 : Int), List.map_append, ← List.append_assoc]; rfl))) .nil⟩⟩ ⟨by simp only; omega, fun _ => ⟨_, _, rfl⟩⟩
 ·have hi2 : i = ns.length := by omega
  subst hi2
  exact fun h f => ⟨_, f.aZ, by simp only [List.take_length]; rfl, hfr⟩
theorem HG (hK : KN base K) (v : aa) (l : List Nat) (h : Heap) (w : Wf h) (ro : (rd v 1 (l.map gj)).holds h) (hb : l.length ≤ 17592186044416) (hw : ∀ x ∈ l, x < 4294967296) :
  Sp P K 67 [v] h (iw (u32 (sumOf l)) h) := by
 have ll := aV ro
 refine Sp.start (m := 1005) (n := 18) w (hK.none 67 rfl rfl _ _) Tryz.func67 rfl rfl (by kernel_rfl) rfl rfl ?_
 repeat' (first | refine ax.a_ ?_ | refine ai.s_ ?_ | (refine X 0 ?_; (refine J Z ?_) <;> (refine Y Z ?_)) | (refine X 1 ?_; (refine J Z ?_) <;> (refine Y Z ?_)) | (refine X 2 ?_; (refine J Z ?_) <;> (refine .cons (ql hX Z Z Z Z Z Z (by assumption) Z Z ?_)) <;> (refine J Z ?_) <;> (refine Y Z ?_)) | refine ai.b_ ?_)
 refine ai.loop (ι := Nat × Nat) (fun a => [(8, .ext (i64 a.1)), (7, .ext (i64 l.length)), (6, .ext v), (3, .ext (u32 a.2))]) (fun _ => []) (fun _ => []) (fun a => a.1 ≤ l.length ∧ a.2 < 4294967296 ∧ sumOf l = (l.drop a.1).foldl (fun n w => (31 * n + w) % 4294967296) a.2) (fun a => l.length - a.1) (0, 7) ⟨⟨rfl, rfl, rfl, rfl, trivial⟩, ⟨_, rfl⟩, ⟨_, .nil⟩⟩ ⟨Nat.zero_le _, by decide, rfl⟩ (fun _ => rfl) (fun _ => rfl) (fun _ => rfl) ?_
 rintro ⟨i, s⟩ ⟨hi, hs, he⟩ next
 simp only at hi hs he next ⊢
 have hx : i < l.length → l.getD i 0 < 4294967296 := fun hlt => hw _ (bh _ hlt)
 repeat' (first | refine ax.a_ ?_ | refine ai.s_ ?_ | (refine X 3 ?_; ((refine .cons (qc Z ?_ ?_)) <;> intro _) <;> (refine Y Z ?_)) | (refine X 4 ?_; (refine .cons (bq hX Z Z Z Z Z (.of ro) (aM (0 : Nat) (by omega)) Z Z Z ?_)) <;> (iterate 2 refine J Z ?_) <;> (refine Y Z ?_)) | (refine X 5 ?_; (refine J Z ?_) <;> (refine .cons (qa (d := ((s * 31 % 4294967296 : Nat) : Int)) Z Z Z Z Z (by rw [ju]; omega) Z Z ?_)) <;> (refine J Z ?_) <;> (refine .cons (qa (d := (((31 * s + l.getD i 0) % 4294967296 : Nat) : Int)) Z Z Z Z Z (by rw [ju]; omega) Z Z ?_)) <;> (refine J Z ?_) <;> (refine Y Z ?_)) | (refine X 6 ?_; (refine .cons (qa Z Z Z Z Z (wI (by first | omega | (simp only [Int.ofNat_eq_natCast]; omega)) (by first | omega | (simp only [Int.ofNat_eq_natCast]; omega))) Z Z ?_)) <;> (refine J Z ?_) <;> (refine Y Z ?_)) | (refine X 7 ?_; (iterate 2 refine J Z ?_) <;> (refine Y Z ?_)) | refine ai.r_ ?_ | refine ai.t_ rfl ?_ | refine ai.f_ rfl ?_ | refine ai.k_ ?_ | refine ai.b_ ?_ | refine ai.e_ ?_ | refine ax.e_ ?_ | refine ax.c_ ?_ | refine ax.b_ ?_ | refine ax.r_ hX rfl ?_)
 ·refine next (i + 1, _) _ _ _ (by simp only; omega) ⟨⟨rfl, rfl, rfl, rfl, trivial⟩, ⟨_, rfl⟩, ⟨_, .nil⟩⟩ ⟨by simp only; omega, Nat.mod_lt _ (by decide), ?_⟩
  rw [he, drop_cons (by omega) 0]; rfl
 ·have hi2 : i = l.length := by omega
  subst hi2
  exact fun h f => ⟨by rw [he, List.drop_length]; rfl, f.aZ⟩
end Em
end Go.HL
