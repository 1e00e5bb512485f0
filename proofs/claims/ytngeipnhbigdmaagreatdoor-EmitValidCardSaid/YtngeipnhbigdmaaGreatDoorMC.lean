/- The walk: instructions, both Valid. No statement of the seat stands here. -/
import Derived.Test.YtngeipnhbigdmaaGreatDoorMB
set_option linter.unusedVariables false
set_option linter.unusedSimpArgs false
namespace Go.HL
open Go Go.Proofs
namespace Em
set_option maxRecDepth 10000
variable {K : CallFn} {base : List (Nat × HObj)}
structure UsesD where
 d : Bool
 a : Bool
 b : Bool
 array : Bool
 folds : Bool
 barrier : Bool
 «local» : Bool
 param : Bool
 word : Bool
 to : Bool
 join : Bool
 ops : Int
abbrev UsesD.cells (u : UsesD) : List HVal := [.bool u.d, .bool u.a, .bool u.b, .bool u.array, .bool u.folds, .bool u.barrier, .bool u.local, .bool u.param, .bool u.word, .bool u.to, .bool u.join, .int .i64 u.ops]
def noUses : UsesD := ⟨false, false, false, false, false, false, false, false, false, false, false, 0⟩
def U : Nat → UsesD
 | 0 => { noUses with d := true, word := true }
 | 1 => { noUses with d := true, a := true }
 | 2 => { noUses with d := true, a := true, ops := 3 }
 | 3 => { noUses with d := true, a := true, b := true, ops := 20 }
 | 4 => { noUses with d := true, ops := 4 }
 | 5 => { noUses with d := true, param := true }
 | 6 => { noUses with d := true, a := true, array := true }
 | 7 => { noUses with a := true, b := true, array := true }
 | 8 => { noUses with a := true, b := true, array := true, folds := true }
 | 9 => { noUses with barrier := true }
 | 10 => { noUses with d := true, a := true, barrier := true, folds := true }
 | 11 => { noUses with d := true, «local» := true }
 | 12 => { noUses with a := true, «local» := true }
 | 13 => { noUses with to := true }
 | 14 => { noUses with a := true, to := true, join := true }
 | _ => noUses
def kindsC : List HVal := ((List.range 16).map fun k => (U k).cells).flatten
theorem kindsC_at : ∀ j, j < 16 → takeK (dropN kindsC (Nat.add 0 (Nat.mul j 12))) 12 some = some (U j).cells
 | 0, _ | 1, _ | 2, _ | 3, _ | 4, _ | 5, _ | 6, _ | 7, _ | 8, _ | 9, _ | 10, _ | 11, _ | 12, _ | 13, _ | 14, _ | 15, _ => rfl
 | n + 16, h => absurd h (by omega)
theorem kinds_run (hK : KN base K) (h : Heap) (w : Wf h) : Sp P K 35 [] h (Val (.agg kindsC) h) := by
 refine Sp.start (m := 1) (n := 18) w (hK.none 35 rfl rfl _ _) Tryz.func35 rfl rfl mask35 rfl rfl ?_
 repeat' (first
  | refine ToX.a_ ?_
  | refine WCX.s_ ?_
  | (refine WCX.g_ (id := 0) ?_; (refine .cons (q hX rfl ?_)) <;> (refine .nil (.intro rfl ?_)))
  | (refine WCX.g_ (id := 1) ?_; (iterate 18 refine .cons (q hX rfl ?_)) <;> (refine .nil (.intro rfl ?_)))
  | refine WCX.r_ ?_
  | refine ToX.r_ hX rfl ?_)
 exact fun h f => ⟨rfl, f.chg⟩
def CodeP.param (f : CodeP) (a : Int) : Nat × Nat × Bool := f.params.getD a.toNat noParam
theorem CodeP.param_row {f : CodeP} {a : Int} (h0 : 0 ≤ a) (h1 : a < (f.params.length : Int)) : (f.params.map pc)[a.toNat]? = some (pc (f.param a)) := by
 have hj : a.toNat < f.params.length := by omega
 simp [CodeP.param, List.getD, List.getElem?_eq_getElem hj]
def CodeP.arrayM (f : CodeP) (n : Int) : Bool := if 6 ≤ n then decide (n < 6 + (f.shared.length : Int)) else decide (0 ≤ n ∧ n < (f.params.length : Int)) && (f.param n).2.2
theorem array_run (hK : KN base K) (c : CodeP) (pv sv iv : HVal) (n : Int) (n1 : -2147483648 ≤ n) (n2 : n ≤ 2147483647) (h : Heap) (w : Wf h) (r : CodeOk c) (hr : (codeR c pv sv iv).holds h) : Sp P K 152 [cv c pv sv iv, .int .i32 n] h (Val (.bool (c.arrayM n)) h) := by
 have hp := hr.1
 have lp := rd_len hp
 have ls := rd_len hr.2.1
 have bp := r.plen
 have bs := r.slen
 refine Sp.start (m := 87) (n := 32) w (hK.none 152 rfl rfl _ _) Tryz.func152 rfl rfl mask152 rfl rfl ?_
 repeat' (first
  | refine ToX.a_ ?_
  | refine WCX.s_ ?_
  | (refine WCX.g_ (id := 0) ?_; (iterate 2 refine .cons (q hX rfl ?_)) <;> (refine .nil (.intro rfl ?_)))
  | (refine WCX.g_ (id := 1) ?_; (refine .cons (q hX rfl ?_)) <;> ((refine .cons (qc rfl ?_ ?_)) <;> intro _) <;> (refine .nil (.intro rfl ?_)))
  | (refine WCX.g_ (id := 2) ?_; (refine .cons (q hX rfl ?_)) <;> ((refine .cons (qw hX rfl rfl rfl rfl (wI (by first | omega | (simp only [Int.ofNat_eq_natCast]; omega)) (by first | omega | (simp only [Int.ofNat_eq_natCast]; omega))) rfl rfl ?_))) <;> (iterate 2 refine .cons (q hX rfl ?_)) <;> ((refine .cons (ql hX rfl rfl rfl rfl rfl rfl (by assumption) rfl rfl ?_))) <;> ((refine .cons (qa rfl rfl rfl rfl rfl (wI (by first | omega | (simp only [Int.ofNat_eq_natCast]; omega)) (by first | omega | (simp only [Int.ofNat_eq_natCast]; omega))) rfl rfl ?_))) <;> ((refine .cons (qc rfl ?_ ?_)) <;> intro _) <;> (refine .cons (q hX rfl ?_)) <;> (refine .nil (.intro rfl ?_)))
  | (refine WCX.g_ (id := 3) ?_; (refine .cons (q hX rfl ?_)) <;> ((refine .cons (qc rfl ?_ ?_)) <;> intro _) <;> (iterate 2 refine .cons (q hX rfl ?_)) <;> (first | (refine .cons (q hX rfl ?_)) | (refine .cons (qw hX rfl rfl rfl rfl (wI (by first | omega | (simp only [Int.ofNat_eq_natCast]; omega)) (by first | omega | (simp only [Int.ofNat_eq_natCast]; omega))) rfl rfl ?_))) <;> (iterate 2 refine .cons (q hX rfl ?_)) <;> (first | (refine .cons (q hX rfl ?_)) | (refine .cons (ql hX rfl rfl rfl rfl rfl rfl (by assumption) rfl rfl ?_))) <;> (first | (refine .cons (q hX rfl ?_)) | (refine .cons (qc rfl ?_ ?_)) <;> intro _) <;> (iterate 5 refine .cons (q hX rfl ?_)) <;> (first | (refine .cons (q hX rfl ?_)) | (refine .cons (qidxI hX rfl rfl rfl rfl rfl (by assumption) (.of hp) (CodeP.param_row (by assumption) (by assumption)) rfl rfl rfl ?_))) <;> (refine .cons (q hX rfl ?_)) <;> (first | (refine .cons (qb hX rfl ?_ ?_)) <;> (intro hbl; (first | (cases hbl; done) | skip)) | (refine .cons (q hX rfl ?_))) <;> (iterate 2 refine .cons (q hX rfl ?_)) <;> (refine .nil (.intro rfl ?_)))
  | refine WCX.r_ ?_
  | refine ToX.d_ ?_
  | refine WCX.t_ rfl ?_
  | refine WCX.f_ rfl ?_
  | refine WCX.k_ ?_
  | refine ToX.r_ hX rfl ?_)
 all_goals (intro h f; refine ⟨?_, f.chg⟩; clear f; first | (simp_all [resV, CodeP.arrayM]; done) | (simp_all [resV, CodeP.arrayM]; omega) | (simp_all [resV, CodeP.arrayM]; intros; exfalso; omega) | (simp_all [resV, CodeP.arrayM]; split <;> intros <;> first | omega | (exfalso; omega) | simp_all))
def CodeP.immM (f : CodeP) (u : UsesD) (n : Int) : Bool :=
 if u.word then true
 else if u.array then f.arrayM n
 else if u.param then decide (0 ≤ n ∧ n < (f.params.length : Int)) && !(f.param n).2.2
 else if u.barrier then decide (0 ≤ n ∧ n ≤ 400)
 else if u.local then decide (0 ≤ n ∧ n < f.local)
 else decide (n = 0)
theorem imm_run (hK : KN base K) (c : CodeP) (pv sv iv : HVal) (u : UsesD) (n : Int) (n1 : -2147483648 ≤ n) (n2 : n ≤ 2147483647) (h : Heap) (w : Wf h) (r : CodeOk c) (hr : (codeR c pv sv iv).holds h) : Sp P K 81 [cv c pv sv iv, .agg u.cells, .int .i32 n] h (Val (.bool (c.immM u n)) h) := by
 have hp := hr.1
 have lp := rd_len hp
 have bp := r.plen
 refine Sp.start (m := 141012366329055) (n := 61) w (hK.none 81 rfl rfl _ _) Tryz.func81 rfl rfl mask81 rfl rfl ?_
 repeat' (first
  | refine ToX.a_ ?_
  | refine WCX.s_ ?_
  | (refine WCX.g_ (id := 0) ?_; (iterate 3 refine .cons (q hX rfl ?_)) <;> (refine .nil (.intro rfl ?_)))
  | (refine WCX.g_ (id := 1) ?_; (refine .cons (q hX rfl ?_)) <;> ((refine .cons (qb hX rfl ?_ ?_)) <;> (intro hbl; (first | (cases hbl; done) | skip))) <;> (refine .cons (q hX rfl ?_)) <;> (refine .nil (.intro rfl ?_)))
  | (refine WCX.g_ (id := 2) ?_; (refine .cons (q hX rfl ?_)) <;> (refine .nil (.intro rfl ?_)))
  | (refine WCX.g_ (id := 3) ?_; (refine .cons (q hX rfl ?_)) <;> ((refine .cons (qb hX rfl ?_ ?_)) <;> (intro hbl; (first | (cases hbl; done) | skip))) <;> (refine .cons (q hX rfl ?_)) <;> (refine .nil (.intro rfl ?_)))
  | (refine WCX.g_ (id := 4) ?_; (iterate 2 refine .cons (q hX rfl ?_)) <;> ((refine .cons (qcallV rfl rfl rfl rfl ca152 rfl rfl (fun h f => array_run hK c pv sv iv n n1 n2 h f.wf r (f.ro (.of hr))) ?_))) <;> (refine .cons (q hX rfl ?_)) <;> (refine .nil (.intro rfl ?_)))
  | (refine WCX.g_ (id := 5) ?_; (refine .cons (q hX rfl ?_)) <;> ((refine .cons (qb hX rfl ?_ ?_)) <;> (intro hbl; (first | (cases hbl; done) | skip))) <;> (refine .cons (q hX rfl ?_)) <;> (refine .nil (.intro rfl ?_)))
  | (refine WCX.g_ (id := 6) ?_; (refine .cons (q hX rfl ?_)) <;> ((refine .cons (qc rfl ?_ ?_)) <;> intro _) <;> (iterate 2 refine .cons (q hX rfl ?_)) <;> (first | (refine .cons (q hX rfl ?_)) | (refine .cons (qw hX rfl rfl rfl rfl (wI (by first | omega | (simp only [Int.ofNat_eq_natCast]; omega)) (by first | omega | (simp only [Int.ofNat_eq_natCast]; omega))) rfl rfl ?_))) <;> (iterate 2 refine .cons (q hX rfl ?_)) <;> (first | (refine .cons (q hX rfl ?_)) | (refine .cons (ql hX rfl rfl rfl rfl rfl rfl (by assumption) rfl rfl ?_))) <;> (first | (refine .cons (q hX rfl ?_)) | (refine .cons (qc rfl ?_ ?_)) <;> intro _) <;> (iterate 5 refine .cons (q hX rfl ?_)) <;> (first | (refine .cons (q hX rfl ?_)) | (refine .cons (qidxI hX rfl rfl rfl rfl rfl (by assumption) (.of hp) (CodeP.param_row (by assumption) (by assumption)) rfl rfl rfl ?_))) <;> (refine .cons (q hX rfl ?_)) <;> (first | (refine .cons (qb hX rfl ?_ ?_)) <;> (intro hbl; (first | (cases hbl; done) | skip)) | (refine .cons (q hX rfl ?_))) <;> (iterate 3 refine .cons (q hX rfl ?_)) <;> (refine .nil (.intro rfl ?_)))
  | (refine WCX.g_ (id := 7) ?_; (refine .cons (q hX rfl ?_)) <;> ((refine .cons (qb hX rfl ?_ ?_)) <;> (intro hbl; (first | (cases hbl; done) | skip))) <;> (refine .cons (q hX rfl ?_)) <;> (refine .nil (.intro rfl ?_)))
  | (refine WCX.g_ (id := 8) ?_; (refine .cons (q hX rfl ?_)) <;> ((refine .cons (qc rfl ?_ ?_)) <;> intro _) <;> (iterate 2 refine .cons (q hX rfl ?_)) <;> (first | (refine .cons (q hX rfl ?_)) | (refine .cons (qc rfl ?_ ?_)) <;> intro _) <;> (iterate 2 refine .cons (q hX rfl ?_)) <;> (refine .nil (.intro rfl ?_)))
  | (refine WCX.g_ (id := 9) ?_; (refine .cons (q hX rfl ?_)) <;> ((refine .cons (qb hX rfl ?_ ?_)) <;> (intro hbl; (first | (cases hbl; done) | skip))) <;> (refine .cons (q hX rfl ?_)) <;> (refine .nil (.intro rfl ?_)))
  | (refine WCX.g_ (id := 10) ?_; (refine .cons (q hX rfl ?_)) <;> ((refine .cons (qc rfl ?_ ?_)) <;> intro _) <;> (iterate 2 refine .cons (q hX rfl ?_)) <;> (first | (refine .cons (q hX rfl ?_)) | (refine .cons (qw hX rfl rfl rfl rfl (wI (by first | omega | (simp only [Int.ofNat_eq_natCast]; omega)) (by first | omega | (simp only [Int.ofNat_eq_natCast]; omega))) rfl rfl ?_))) <;> (iterate 2 refine .cons (q hX rfl ?_)) <;> (first | (refine .cons (q hX rfl ?_)) | (refine .cons (qc rfl ?_ ?_)) <;> intro _) <;> (iterate 2 refine .cons (q hX rfl ?_)) <;> (refine .nil (.intro rfl ?_)))
  | (refine WCX.g_ (id := 11) ?_; (refine .cons (q hX rfl ?_)) <;> ((refine .cons (qc rfl ?_ ?_)) <;> intro _) <;> (refine .cons (q hX rfl ?_)) <;> (refine .nil (.intro rfl ?_)))
  | refine WCX.r_ ?_
  | refine ToX.d_ ?_
  | refine ToX.f_ ?_
  | refine WCX.t_ rfl ?_
  | refine WCX.f_ rfl ?_
  | refine WCX.k_ ?_
  | refine WCX.b_ ?_
  | refine ToX.b_ ?_
  | refine ToX.r_ hX rfl ?_)
 all_goals (intro h f; refine ⟨?_, f.chg⟩; clear f; first | (simp_all [resV, CodeP.immM]; done) | (simp_all [resV, CodeP.immM]; omega) | (simp_all [resV, CodeP.immM]; intros; exfalso; omega) | (simp_all [resV, CodeP.immM]; split <;> intros <;> first | omega | (exfalso; omega) | simp_all))
def CodeP.wordM (f : CodeP) (what n : Int) : Bool :=
 if what = 0 then decide (0 ≤ n ∧ n < (f.params.length : Int)) && !(f.param n).2.2
 else if what = 1 then decide (0 ≤ n ∧ n < (f.params.length : Int)) && (f.param n).2.2 || decide (6 ≤ n ∧ n < 6 + (f.shared.length : Int))
 else if what = 2 then decide (0 ≤ n ∧ n ≤ 400)
 else if what = 3 then true
 else decide (n = 0)
theorem word_runR (hK : KN base K) (c : CodeP) (pv sv : HVal) (what n : Int) (n1 : -2147483648 ≤ n) (n2 : n ≤ 2147483647) (h : Heap) (w : Wf h) (r : CodeOk c) (hp : (rd pv 2 (c.params.map pc)).holds h) (hs : (rd sv 2 (c.shared.map ac)).holds h) : Sp P K 85 [.int .i64 what, .int .i32 n, pv, sv] h (Val (.bool (c.wordM what n)) h) := by
 have lp := rd_len hp
 have ls := rd_len hs
 have bp := r.plen
 have bs := r.slen
 refine Sp.start (m := 148150413342516709135) (n := 71) w (hK.none 85 rfl rfl _ _) Tryz.func85 rfl rfl mask85 rfl rfl ?_
 repeat' (first
  | refine ToX.a_ ?_
  | refine WCX.s_ ?_
  | (refine WCX.g_ (id := 0) ?_; (refine .cons (q hX rfl ?_)) <;> (refine .nil (.intro rfl ?_)))
  | (refine WCX.g_ (id := 1) ?_; (refine .cons (q hX rfl ?_)) <;> (refine .nil (.intro rfl ?_)))
  | (refine WCX.g_ (id := 2) ?_; ((refine .cons (qc rfl ?_ ?_)) <;> intro _) <;> (refine .cons (q hX rfl ?_)) <;> (refine .nil (.intro rfl ?_)))
  | (refine WCX.g_ (id := 3) ?_; (refine .cons (q hX rfl ?_)) <;> ((refine .cons (qc rfl ?_ ?_)) <;> intro _) <;> (iterate 2 refine .cons (q hX rfl ?_)) <;> (first | (refine .cons (q hX rfl ?_)) | (refine .cons (qw hX rfl rfl rfl rfl (wI (by first | omega | (simp only [Int.ofNat_eq_natCast]; omega)) (by first | omega | (simp only [Int.ofNat_eq_natCast]; omega))) rfl rfl ?_))) <;> (refine .cons (q hX rfl ?_)) <;> (first | (refine .cons (q hX rfl ?_)) | (refine .cons (ql hX rfl rfl rfl rfl rfl rfl (by assumption) rfl rfl ?_))) <;> (first | (refine .cons (q hX rfl ?_)) | (refine .cons (qc rfl ?_ ?_)) <;> intro _) <;> (iterate 4 refine .cons (q hX rfl ?_)) <;> (first | (refine .cons (q hX rfl ?_)) | (refine .cons (qidxI hX rfl rfl rfl rfl rfl (by assumption) (.of hp) (CodeP.param_row (by assumption) (by assumption)) rfl rfl rfl ?_))) <;> (refine .cons (q hX rfl ?_)) <;> (first | (refine .cons (qb hX rfl ?_ ?_)) <;> (intro hbl; (first | (cases hbl; done) | skip)) | (refine .cons (q hX rfl ?_))) <;> (iterate 3 refine .cons (q hX rfl ?_)) <;> (refine .nil (.intro rfl ?_)))
  | (refine WCX.g_ (id := 4) ?_; ((refine .cons (qc rfl ?_ ?_)) <;> intro _) <;> (refine .cons (q hX rfl ?_)) <;> (refine .nil (.intro rfl ?_)))
  | (refine WCX.g_ (id := 5) ?_; (refine .cons (q hX rfl ?_)) <;> ((refine .cons (qc rfl ?_ ?_)) <;> intro _) <;> (iterate 2 refine .cons (q hX rfl ?_)) <;> (first | (refine .cons (q hX rfl ?_)) | (refine .cons (qw hX rfl rfl rfl rfl (wI (by first | omega | (simp only [Int.ofNat_eq_natCast]; omega)) (by first | omega | (simp only [Int.ofNat_eq_natCast]; omega))) rfl rfl ?_))) <;> (refine .cons (q hX rfl ?_)) <;> (first | (refine .cons (q hX rfl ?_)) | (refine .cons (ql hX rfl rfl rfl rfl rfl rfl (by assumption) rfl rfl ?_))) <;> (first | (refine .cons (q hX rfl ?_)) | (refine .cons (qc rfl ?_ ?_)) <;> intro _) <;> (iterate 4 refine .cons (q hX rfl ?_)) <;> (first | (refine .cons (q hX rfl ?_)) | (refine .cons (qidxI hX rfl rfl rfl rfl rfl (by assumption) (.of hp) (CodeP.param_row (by assumption) (by assumption)) rfl rfl rfl ?_))) <;> (refine .cons (q hX rfl ?_)) <;> (first | (refine .cons (qb hX rfl ?_ ?_)) <;> (intro hbl; (first | (cases hbl; done) | skip)) | (refine .cons (q hX rfl ?_))) <;> (iterate 3 refine .cons (q hX rfl ?_)) <;> (first | (refine .cons (q hX rfl ?_)) | (refine .cons (qc rfl ?_ ?_)) <;> intro _) <;> (iterate 2 refine .cons (q hX rfl ?_)) <;> (first | (refine .cons (q hX rfl ?_)) | (refine .cons (qw hX rfl rfl rfl rfl (wI (by first | omega | (simp only [Int.ofNat_eq_natCast]; omega)) (by first | omega | (simp only [Int.ofNat_eq_natCast]; omega))) rfl rfl ?_))) <;> (refine .cons (q hX rfl ?_)) <;> (first | (refine .cons (q hX rfl ?_)) | (refine .cons (ql hX rfl rfl rfl rfl rfl rfl (by assumption) rfl rfl ?_))) <;> (first | (refine .cons (q hX rfl ?_)) | (refine .cons (qa rfl rfl rfl rfl rfl (wI (by first | omega | (simp only [Int.ofNat_eq_natCast]; omega)) (by first | omega | (simp only [Int.ofNat_eq_natCast]; omega))) rfl rfl ?_))) <;> (first | (refine .cons (q hX rfl ?_)) | (refine .cons (qc rfl ?_ ?_)) <;> intro _) <;> (iterate 3 refine .cons (q hX rfl ?_)) <;> (refine .nil (.intro rfl ?_)))
  | (refine WCX.g_ (id := 6) ?_; ((refine .cons (qc rfl ?_ ?_)) <;> intro _) <;> (refine .cons (q hX rfl ?_)) <;> (refine .nil (.intro rfl ?_)))
  | (refine WCX.g_ (id := 7) ?_; (refine .cons (q hX rfl ?_)) <;> ((refine .cons (qc rfl ?_ ?_)) <;> intro _) <;> (iterate 2 refine .cons (q hX rfl ?_)) <;> (first | (refine .cons (q hX rfl ?_)) | (refine .cons (qc rfl ?_ ?_)) <;> intro _) <;> (iterate 2 refine .cons (q hX rfl ?_)) <;> (refine .nil (.intro rfl ?_)))
  | (refine WCX.g_ (id := 8) ?_; ((refine .cons (qc rfl ?_ ?_)) <;> intro _) <;> (refine .cons (q hX rfl ?_)) <;> (refine .nil (.intro rfl ?_)))
  | (refine WCX.g_ (id := 9) ?_; (refine .cons (q hX rfl ?_)) <;> (refine .nil (.intro rfl ?_)))
  | (refine WCX.g_ (id := 10) ?_; (refine .cons (q hX rfl ?_)) <;> ((refine .cons (qc rfl ?_ ?_)) <;> intro _) <;> (refine .cons (q hX rfl ?_)) <;> (refine .nil (.intro rfl ?_)))
  | refine WCX.r_ ?_
  | refine ToX.d_ ?_
  | refine ToX.f_ ?_
  | refine WCX.t_ rfl ?_
  | refine WCX.f_ rfl ?_
  | refine WCX.k_ ?_
  | refine WCX.b_ ?_
  | refine ToX.b_ ?_
  | refine ToX.r_ hX rfl ?_)
 all_goals (intro h f; refine ⟨?_, f.chg⟩; clear f; first | (simp_all [resV, CodeP.wordM]; done) | (simp_all [resV, CodeP.wordM]; omega) | (simp_all [resV, CodeP.wordM]; intros; exfalso; omega) | (simp_all [resV, CodeP.wordM]; split <;> intros <;> first | omega | (exfalso; omega) | simp_all))
def CodeP.refWordM (f : CodeP) (x : InsnD) : Bool :=
 if x.kind = 0 then true else if x.kind = 5 then f.wordM 0 x.imm else if x.kind = 6 ∨ x.kind = 7 ∨ x.kind = 8 then f.wordM 1 x.imm else if x.kind = 9 ∨ x.kind = 10 then f.wordM 2 x.imm
 else if x.kind = 11 ∨ x.kind = 12 then decide (0 ≤ x.imm ∧ x.imm < f.local) else decide (x.imm = 0)
theorem refWord_run (hK : KN base K) (c : CodeP) (pv sv iv : HVal) (x : InsnD) (nn : -2147483648 ≤ x.imm ∧ x.imm ≤ 2147483647) (h : Heap) (w : Wf h) (r : CodeOk c) (hr : (codeR c pv sv iv).holds h) : Sp P K 41 [cv c pv sv iv, .agg (icell x)] h (Val (.bool (c.refWordM x)) h) := by
 refine Sp.start (m := 550292947679) (n := 56) w (hK.none 41 rfl rfl _ _) Tryz.func41 rfl rfl mask41 rfl rfl ?_
 repeat' (first
  | refine ToX.a_ ?_
  | refine WCX.s_ ?_
  | (refine WCX.g_ (id := 0) ?_; (iterate 3 refine .cons (q hX rfl ?_)) <;> (refine .nil (.intro rfl ?_)))
  | (refine WCX.g_ (id := 1) ?_; (iterate 2 refine .cons (q hX rfl ?_)) <;> (refine .nil (.intro rfl ?_)))
  | (refine WCX.g_ (id := 2) ?_; ((refine .cons (qc rfl ?_ ?_)) <;> intro _) <;> (refine .cons (q hX rfl ?_)) <;> (refine .nil (.intro rfl ?_)))
  | (refine WCX.g_ (id := 3) ?_; (refine .cons (q hX rfl ?_)) <;> (refine .nil (.intro rfl ?_)))
  | (refine WCX.g_ (id := 4) ?_; ((refine .cons (qc rfl ?_ ?_)) <;> intro _) <;> (refine .cons (q hX rfl ?_)) <;> (refine .nil (.intro rfl ?_)))
  | (refine WCX.g_ (id := 5) ?_; (iterate 6 refine .cons (q hX rfl ?_)) <;> ((refine .cons (qcallB rfl rfl rfl rfl ca85 rfl rfl (fun h f => word_runR hK c pv sv _ _ nn.1 nn.2 h f.wf r (f.ro (.of hr.1)) (f.ro (.of hr.2.1))) ?_ ?_)) <;> intro _) <;> (refine .cons (q hX rfl ?_)) <;> (refine .nil (.intro rfl ?_)))
  | (refine WCX.g_ (id := 6) ?_; ((refine .cons (qc rfl ?_ ?_)) <;> intro _) <;> (refine .cons (q hX rfl ?_)) <;> (refine .nil (.intro rfl ?_)))
  | (refine WCX.g_ (id := 7) ?_; ((refine .cons (qc rfl ?_ ?_)) <;> intro _) <;> (refine .cons (q hX rfl ?_)) <;> (refine .nil (.intro rfl ?_)))
  | (refine WCX.g_ (id := 8) ?_; ((refine .cons (qc rfl ?_ ?_)) <;> intro _) <;> (refine .cons (q hX rfl ?_)) <;> (refine .nil (.intro rfl ?_)))
  | (refine WCX.g_ (id := 9) ?_; (iterate 6 refine .cons (q hX rfl ?_)) <;> ((refine .cons (qcallB rfl rfl rfl rfl ca85 rfl rfl (fun h f => word_runR hK c pv sv _ _ nn.1 nn.2 h f.wf r (f.ro (.of hr.1)) (f.ro (.of hr.2.1))) ?_ ?_)) <;> intro _) <;> (refine .cons (q hX rfl ?_)) <;> (refine .nil (.intro rfl ?_)))
  | (refine WCX.g_ (id := 10) ?_; ((refine .cons (qc rfl ?_ ?_)) <;> intro _) <;> (refine .cons (q hX rfl ?_)) <;> (refine .nil (.intro rfl ?_)))
  | (refine WCX.g_ (id := 11) ?_; ((refine .cons (qc rfl ?_ ?_)) <;> intro _) <;> (refine .cons (q hX rfl ?_)) <;> (refine .nil (.intro rfl ?_)))
  | (refine WCX.g_ (id := 12) ?_; (iterate 6 refine .cons (q hX rfl ?_)) <;> ((refine .cons (qcallB rfl rfl rfl rfl ca85 rfl rfl (fun h f => word_runR hK c pv sv _ _ nn.1 nn.2 h f.wf r (f.ro (.of hr.1)) (f.ro (.of hr.2.1))) ?_ ?_)) <;> intro _) <;> (refine .cons (q hX rfl ?_)) <;> (refine .nil (.intro rfl ?_)))
  | (refine WCX.g_ (id := 13) ?_; ((refine .cons (qc rfl ?_ ?_)) <;> intro _) <;> (refine .cons (q hX rfl ?_)) <;> (refine .nil (.intro rfl ?_)))
  | (refine WCX.g_ (id := 14) ?_; ((refine .cons (qc rfl ?_ ?_)) <;> intro _) <;> (refine .cons (q hX rfl ?_)) <;> (refine .nil (.intro rfl ?_)))
  | (refine WCX.g_ (id := 15) ?_; (iterate 2 refine .cons (q hX rfl ?_)) <;> ((refine .cons (qc rfl ?_ ?_)) <;> intro _) <;> (iterate 3 refine .cons (q hX rfl ?_)) <;> (first | (refine .cons (q hX rfl ?_)) | (refine .cons (qw hX rfl rfl rfl rfl (wI (by first | omega | (simp only [Int.ofNat_eq_natCast]; omega)) (by first | omega | (simp only [Int.ofNat_eq_natCast]; omega))) rfl rfl ?_))) <;> (iterate 2 refine .cons (q hX rfl ?_)) <;> (first | (refine .cons (q hX rfl ?_)) | (refine .cons (qc rfl ?_ ?_)) <;> intro _) <;> (iterate 2 refine .cons (q hX rfl ?_)) <;> (refine .nil (.intro rfl ?_)))
  | (refine WCX.g_ (id := 16) ?_; (iterate 2 refine .cons (q hX rfl ?_)) <;> ((refine .cons (qc rfl ?_ ?_)) <;> intro _) <;> (refine .cons (q hX rfl ?_)) <;> (refine .nil (.intro rfl ?_)))
  | refine WCX.r_ ?_
  | refine ToX.d_ ?_
  | refine ToX.f_ ?_
  | refine WCX.t_ rfl ?_
  | refine WCX.f_ rfl ?_
  | refine WCX.k_ ?_
  | refine WCX.b_ ?_
  | refine ToX.b_ ?_
  | refine ToX.r_ hX rfl ?_)
 all_goals (intro h f; refine ⟨?_, f.chg⟩; clear f; first | (simp_all [resV, CodeP.refWordM]; done) | (simp_all [resV, CodeP.refWordM]; omega) | (simp_all [resV, CodeP.refWordM]; intros; exfalso; omega) | (simp_all [resV, CodeP.refWordM]; split <;> intros <;> first | omega | (exfalso; omega) | simp_all))
def refSignM (x : InsnD) : Bool := if x.kind = 2 then signM 1 x.op else if x.kind = 3 then signM 2 x.op else if x.kind = 4 then signM 3 x.op else if x.kind = 8 ∨ x.kind = 10 then signM 4 x.op else decide (x.op = 0)
theorem refSign_run (hK : KN base K) (x : InsnD) (h : Heap) (w : Wf h) : Sp P K 40 [.agg (icell x)] h (Val (.bool (refSignM x)) h) := by
 refine Sp.start (m := 1082423) (n := 29) w (hK.none 40 rfl rfl _ _) Tryz.func40 rfl rfl mask40 rfl rfl ?_
 repeat' (first
  | refine ToX.a_ ?_
  | refine WCX.s_ ?_
  | (refine WCX.g_ (id := 0) ?_; (iterate 2 refine .cons (q hX rfl ?_)) <;> (refine .nil (.intro rfl ?_)))
  | (refine WCX.g_ (id := 1) ?_; (iterate 2 refine .cons (q hX rfl ?_)) <;> (refine .nil (.intro rfl ?_)))
  | (refine WCX.g_ (id := 2) ?_; ((refine .cons (qc rfl ?_ ?_)) <;> intro _) <;> (refine .cons (q hX rfl ?_)) <;> (refine .nil (.intro rfl ?_)))
  | (refine WCX.g_ (id := 3) ?_; (iterate 2 refine .cons (q hX rfl ?_)) <;> ((refine .cons (qcallB rfl rfl rfl rfl ca84 rfl rfl (fun h f => sign_run hK _ _ h f.wf) ?_ ?_)) <;> intro _) <;> (refine .cons (q hX rfl ?_)) <;> (refine .nil (.intro rfl ?_)))
  | (refine WCX.g_ (id := 4) ?_; ((refine .cons (qc rfl ?_ ?_)) <;> intro _) <;> (refine .cons (q hX rfl ?_)) <;> (refine .nil (.intro rfl ?_)))
  | (refine WCX.g_ (id := 5) ?_; (iterate 2 refine .cons (q hX rfl ?_)) <;> ((refine .cons (qcallB rfl rfl rfl rfl ca84 rfl rfl (fun h f => sign_run hK _ _ h f.wf) ?_ ?_)) <;> intro _) <;> (refine .cons (q hX rfl ?_)) <;> (refine .nil (.intro rfl ?_)))
  | (refine WCX.g_ (id := 6) ?_; ((refine .cons (qc rfl ?_ ?_)) <;> intro _) <;> (refine .cons (q hX rfl ?_)) <;> (refine .nil (.intro rfl ?_)))
  | (refine WCX.g_ (id := 7) ?_; (iterate 2 refine .cons (q hX rfl ?_)) <;> ((refine .cons (qcallB rfl rfl rfl rfl ca84 rfl rfl (fun h f => sign_run hK _ _ h f.wf) ?_ ?_)) <;> intro _) <;> (refine .cons (q hX rfl ?_)) <;> (refine .nil (.intro rfl ?_)))
  | (refine WCX.g_ (id := 8) ?_; ((refine .cons (qc rfl ?_ ?_)) <;> intro _) <;> (refine .cons (q hX rfl ?_)) <;> (refine .nil (.intro rfl ?_)))
  | (refine WCX.g_ (id := 9) ?_; ((refine .cons (qc rfl ?_ ?_)) <;> intro _) <;> (refine .cons (q hX rfl ?_)) <;> (refine .nil (.intro rfl ?_)))
  | (refine WCX.g_ (id := 10) ?_; (iterate 2 refine .cons (q hX rfl ?_)) <;> ((refine .cons (qcallB rfl rfl rfl rfl ca84 rfl rfl (fun h f => sign_run hK _ _ h f.wf) ?_ ?_)) <;> intro _) <;> (refine .cons (q hX rfl ?_)) <;> (refine .nil (.intro rfl ?_)))
  | (refine WCX.g_ (id := 11) ?_; (iterate 2 refine .cons (q hX rfl ?_)) <;> ((refine .cons (qc rfl ?_ ?_)) <;> intro _) <;> (refine .cons (q hX rfl ?_)) <;> (refine .nil (.intro rfl ?_)))
  | refine WCX.r_ ?_
  | refine ToX.d_ ?_
  | refine ToX.f_ ?_
  | refine WCX.t_ rfl ?_
  | refine WCX.f_ rfl ?_
  | refine WCX.k_ ?_
  | refine WCX.b_ ?_
  | refine ToX.b_ ?_
  | refine ToX.r_ hX rfl ?_)
 all_goals (intro h f; refine ⟨?_, f.chg⟩; clear f; first | (simp_all [resV, refSignM]; done) | (simp_all [resV, refSignM]; omega) | (simp_all [resV, refSignM]; intros; exfalso; omega) | (simp_all [resV, refSignM]; split <;> intros <;> first | omega | (exfalso; omega) | simp_all))
def CodeP.targetM (f : CodeP) (x : InsnD) : Bool :=
 if x.kind = 13 then decide (0 ≤ x.to ∧ x.to < (f.insns.length : Int) ∧ x.join = 0)
 else if x.kind = 14 then decide (0 ≤ x.to ∧ x.to < (f.insns.length : Int) ∧ 0 ≤ x.join ∧ x.join ≤ (f.insns.length : Int))
 else decide (x.to = 0 ∧ x.join = 0)
theorem target_run (hK : KN base K) (c : CodeP) (pv sv iv : HVal) (x : InsnD) (h : Heap) (w : Wf h) (r : CodeOk c) (hr : (codeR c pv sv iv).holds h) : Sp P K 42 [cv c pv sv iv, .agg (icell x)] h (Val (.bool (c.targetM x)) h) := by
 have li := rd_len hr.2.2
 refine Sp.start (m := 134220863) (n := 57) w (hK.none 42 rfl rfl _ _) Tryz.func42 rfl rfl mask42 rfl rfl ?_
 repeat' (first
  | refine ToX.a_ ?_
  | refine WCX.s_ ?_
  | (refine WCX.g_ (id := 0) ?_; (iterate 3 refine .cons (q hX rfl ?_)) <;> (refine .nil (.intro rfl ?_)))
  | (refine WCX.g_ (id := 1) ?_; (iterate 2 refine .cons (q hX rfl ?_)) <;> ((refine .cons (ql hX rfl rfl rfl rfl rfl rfl (by assumption) rfl rfl ?_))) <;> (refine .cons (q hX rfl ?_)) <;> (refine .nil (.intro rfl ?_)))
  | (refine WCX.g_ (id := 2) ?_; (iterate 2 refine .cons (q hX rfl ?_)) <;> (refine .nil (.intro rfl ?_)))
  | (refine WCX.g_ (id := 3) ?_; ((refine .cons (qc rfl ?_ ?_)) <;> intro _) <;> (refine .cons (q hX rfl ?_)) <;> (refine .nil (.intro rfl ?_)))
  | (refine WCX.g_ (id := 4) ?_; (iterate 2 refine .cons (q hX rfl ?_)) <;> ((refine .cons (qc rfl ?_ ?_)) <;> intro _) <;> (iterate 4 refine .cons (q hX rfl ?_)) <;> (first | (refine .cons (q hX rfl ?_)) | (refine .cons (qc rfl ?_ ?_)) <;> intro _) <;> (iterate 4 refine .cons (q hX rfl ?_)) <;> (first | (refine .cons (q hX rfl ?_)) | (refine .cons (qc rfl ?_ ?_)) <;> intro _) <;> (iterate 2 refine .cons (q hX rfl ?_)) <;> (refine .nil (.intro rfl ?_)))
  | (refine WCX.g_ (id := 5) ?_; ((refine .cons (qc rfl ?_ ?_)) <;> intro _) <;> (refine .cons (q hX rfl ?_)) <;> (refine .nil (.intro rfl ?_)))
  | (refine WCX.g_ (id := 6) ?_; (iterate 2 refine .cons (q hX rfl ?_)) <;> ((refine .cons (qc rfl ?_ ?_)) <;> intro _) <;> (iterate 4 refine .cons (q hX rfl ?_)) <;> (first | (refine .cons (q hX rfl ?_)) | (refine .cons (qc rfl ?_ ?_)) <;> intro _) <;> (iterate 4 refine .cons (q hX rfl ?_)) <;> (first | (refine .cons (q hX rfl ?_)) | (refine .cons (qc rfl ?_ ?_)) <;> intro _) <;> (iterate 5 refine .cons (q hX rfl ?_)) <;> (first | (refine .cons (q hX rfl ?_)) | (refine .cons (qc rfl ?_ ?_)) <;> intro _) <;> (iterate 2 refine .cons (q hX rfl ?_)) <;> (refine .nil (.intro rfl ?_)))
  | (refine WCX.g_ (id := 7) ?_; (iterate 2 refine .cons (q hX rfl ?_)) <;> ((refine .cons (qc rfl ?_ ?_)) <;> intro _) <;> (iterate 3 refine .cons (q hX rfl ?_)) <;> (first | (refine .cons (q hX rfl ?_)) | (refine .cons (qc rfl ?_ ?_)) <;> intro _) <;> (iterate 2 refine .cons (q hX rfl ?_)) <;> (refine .nil (.intro rfl ?_)))
  | refine WCX.r_ ?_
  | refine ToX.d_ ?_
  | refine ToX.f_ ?_
  | refine WCX.t_ rfl ?_
  | refine WCX.f_ rfl ?_
  | refine WCX.k_ ?_
  | refine WCX.b_ ?_
  | refine ToX.b_ ?_
  | refine ToX.r_ hX rfl ?_)
 all_goals (intro h f; refine ⟨?_, f.chg⟩; clear f; first | (simp_all [resV, CodeP.targetM]; done) | (simp_all [resV, CodeP.targetM]; omega) | (simp_all [resV, CodeP.targetM]; intros; exfalso; omega) | (simp_all [resV, CodeP.targetM]; split <;> intros <;> first | omega | (exfalso; omega) | simp_all))
end Em
end Go.HL
namespace Go.HL
open Go Go.Proofs
namespace Em
set_option maxRecDepth 10000
set_option maxHeartbeats 4000000
variable {K : CallFn} {base : List (Nat × HObj)}
def CodeP.insnM (f : CodeP) (x : InsnD) : Bool :=
 decide (0 ≤ x.kind ∧ x.kind < 16) && (if (U x.kind.toNat).folds then foldsM x.op else withinM (decide (0 < (U x.kind.toNat).ops)) x.op (U x.kind.toNat).ops) && withinM (U x.kind.toNat).d x.d 16 && withinM (U x.kind.toNat).a x.a 16 && withinM (U x.kind.toNat).b x.b 16 &&
  f.immM (U x.kind.toNat) x.imm && withinM (U x.kind.toNat).to x.to (f.insns.length : Int) && withinM (U x.kind.toNat).join x.join ((f.insns.length : Int) + 1)
theorem insn_run (hK : KN base K) (c : CodeP) (pv sv iv : HVal) (x : InsnD) (nn : -2147483648 ≤ x.imm ∧ x.imm ≤ 2147483647) (h : Heap) (w : Wf h) (r : CodeOk c) (hr : (codeR c pv sv iv).holds h) : Sp P K 36 [cv c pv sv iv, .agg (icell x), .agg kindsC] h (Val (.bool (c.insnM x)) h) := by
 have li := rd_len hr.2.2
 have bi := r.ilen
 refine Sp.start (m := 17592186110463) (n := 93) w (hK.none 36 rfl rfl _ _) Tryz.func36 rfl rfl mask36 rfl rfl ?_
 repeat' (first
  | refine ToX.a_ ?_
  | refine WCX.s_ ?_
  | (refine WCX.g_ (id := 0) ?_; (iterate 4 refine .cons (q hX rfl ?_)) <;> (refine .nil (.intro rfl ?_)))
  | (refine WCX.g_ (id := 1) ?_; (iterate 2 refine .cons (q hX rfl ?_)) <;> ((refine .cons (qc rfl ?_ ?_)) <;> intro _) <;> (iterate 3 refine .cons (q hX rfl ?_)) <;> (first | (refine .cons (q hX rfl ?_)) | (refine .cons (qc rfl ?_ ?_)) <;> intro _) <;> (refine .cons (q hX rfl ?_)) <;> (refine .nil (.intro rfl ?_)))
  | (refine WCX.g_ (id := 2) ?_; (refine .cons (q hX rfl ?_)) <;> (refine .nil (.intro rfl ?_)))
  | (refine WCX.g_ (id := 3) ?_; (iterate 2 refine .cons (q hX rfl ?_)) <;> ((refine .cons (qidxA hX rfl rfl rfl rfl rfl (by omega) (by omega) rfl rfl ?_))) <;> ((refine .cons (qld hX rfl rfl rfl rfl rfl rfl (kindsC_at _ (by omega)) rfl rfl ?_))) <;> (iterate 2 refine .cons (q hX rfl ?_)) <;> (refine .nil (.intro rfl ?_)))
  | (refine WCX.g_ (id := 4) ?_; (refine .cons (q hX rfl ?_)) <;> ((refine .cons (qb hX rfl ?_ ?_)) <;> (intro hbl; (first | (cases hbl; done) | skip))) <;> (iterate 3 refine .cons (q hX rfl ?_)) <;> (first | (refine .cons (q hX rfl ?_)) | (refine .cons (qcallB rfl rfl rfl rfl ca79 rfl rfl (fun h f => folds_run hK _ h f.wf) ?_ ?_)) <;> intro _) <;> (iterate 4 refine .cons (q hX rfl ?_)) <;> (first | (refine .cons (qb hX rfl ?_ ?_)) <;> (intro hbl; (first | (cases hbl; done) | skip)) | (refine .cons (q hX rfl ?_))) <;> (iterate 4 refine .cons (q hX rfl ?_)) <;> (first | (refine .cons (q hX rfl ?_)) | (refine .cons (qc rfl ?_ ?_)) <;> intro _) <;> (iterate 4 refine .cons (q hX rfl ?_)) <;> (first | (refine .cons (q hX rfl ?_)) | (refine .cons (qcallB rfl rfl rfl rfl ca80 rfl rfl (fun h f => within_run hK _ _ _ h f.wf) ?_ ?_)) <;> intro _) <;> (iterate 3 refine .cons (q hX rfl ?_)) <;> (refine .nil (.intro rfl ?_)))
  | (refine WCX.g_ (id := 5) ?_; (refine .cons (q hX rfl ?_)) <;> (refine .nil (.intro rfl ?_)))
  | (refine WCX.g_ (id := 6) ?_; (iterate 4 refine .cons (q hX rfl ?_)) <;> ((refine .cons (qcallB rfl rfl rfl rfl ca80 rfl rfl (fun h f => within_run hK _ _ _ h f.wf) ?_ ?_)) <;> intro _) <;> (iterate 5 refine .cons (q hX rfl ?_)) <;> (first | (refine .cons (q hX rfl ?_)) | (refine .cons (qcallB rfl rfl rfl rfl ca80 rfl rfl (fun h f => within_run hK _ _ _ h f.wf) ?_ ?_)) <;> intro _) <;> (iterate 6 refine .cons (q hX rfl ?_)) <;> (first | (refine .cons (q hX rfl ?_)) | (refine .cons (qcallB rfl rfl rfl rfl ca80 rfl rfl (fun h f => within_run hK _ _ _ h f.wf) ?_ ?_)) <;> intro _) <;> (iterate 2 refine .cons (q hX rfl ?_)) <;> (refine .nil (.intro rfl ?_)))
  | (refine WCX.g_ (id := 7) ?_; (iterate 6 refine .cons (q hX rfl ?_)) <;> (first | (refine .cons (q hX rfl ?_)) | (refine .cons (qcallB rfl rfl rfl rfl ca81 rfl rfl (fun h f => imm_run hK c pv sv iv (U x.kind.toNat) x.imm nn.1 nn.2 h f.wf r (f.ro (.of hr))) ?_ ?_)) <;> intro _) <;> (iterate 8 refine .cons (q hX rfl ?_)) <;> (first | (refine .cons (q hX rfl ?_)) | (refine .cons (ql hX rfl rfl rfl rfl rfl rfl (by assumption) rfl rfl ?_))) <;> (first | (refine .cons (q hX rfl ?_)) | (refine .cons (qcallB rfl rfl rfl rfl ca80 rfl rfl (fun h f => within_run hK _ _ _ h f.wf) ?_ ?_)) <;> intro _) <;> (iterate 8 refine .cons (q hX rfl ?_)) <;> (first | (refine .cons (q hX rfl ?_)) | (refine .cons (ql hX rfl rfl rfl rfl rfl rfl (by assumption) rfl rfl ?_))) <;> (first | (refine .cons (q hX rfl ?_)) | (refine .cons (qa rfl rfl rfl rfl rfl (wI (by first | omega | (simp only [Int.ofNat_eq_natCast]; omega)) (by first | omega | (simp only [Int.ofNat_eq_natCast]; omega))) rfl rfl ?_))) <;> (first | (refine .cons (q hX rfl ?_)) | (refine .cons (qcallB rfl rfl rfl rfl ca80 rfl rfl (fun h f => within_run hK _ _ _ h f.wf) ?_ ?_)) <;> intro _) <;> (iterate 2 refine .cons (q hX rfl ?_)) <;> (refine .nil (.intro rfl ?_)))
  | refine WCX.r_ ?_
  | refine ToX.d_ ?_
  | refine WCX.t_ rfl ?_
  | refine WCX.f_ rfl ?_
  | refine WCX.k_ ?_
  | refine ToX.r_ hX rfl ?_)
 all_goals (intro h f; refine ⟨?_, f.chg⟩; clear f; unfold CodeP.insnM; first | (rw [decide_eq_false (p := _ ∧ _) (by omega)]; rfl) | (rw [decide_eq_true (p := _ ∧ _) (by omega)]; simp_all [resV]; done) | (rw [decide_eq_true (p := _ ∧ _) (by omega), decide_eq_false (p := 0 < _) (by omega)]; simp_all [resV]; done))
def CodeP.lastM (f : CodeP) : Bool := decide ((f.insns.getD (f.insns.length - 1) noInsn).kind = 15 ∨ (f.insns.getD (f.insns.length - 1) noInsn).kind = 13)
def CodeP.validM (f : CodeP) : Bool := f.headM && decide (1 ≤ f.insns.length ∧ f.insns.length ≤ 2000) && f.lastM && f.insns.all f.insnM
theorem valid_run (hK : KN base K) (c : CodeP) (pv sv iv : HVal) (h : Heap) (w : Wf h) (hB : (lies base).holds h) (r : CodeOk c) (hr : (codeR c pv sv iv).holds h) : Sp P K 13 [cv c pv sv iv] h (Val (.bool c.validM) h) := by
 have hi := hr.2.2
 have li := rd_len hi
 have bi := r.ilen
 refine Sp.start (m := 142816254623935) (n := 49) w (hK.none 13 rfl rfl _ _) Tryz.func13 rfl rfl mask13 rfl rfl ?_
 repeat' (first
  | refine ToX.a_ ?_
  | refine WCX.s_ ?_
  | (refine WCX.g_ (id := 0) ?_; (iterate 2 refine .cons (q hX rfl ?_)) <;> (refine .nil (.intro rfl ?_)))
  | (refine WCX.g_ (id := 1) ?_; (iterate 2 refine .cons (q hX rfl ?_)) <;> ((refine .cons (ql hX rfl rfl rfl rfl rfl rfl (by assumption) rfl rfl ?_))) <;> (refine .cons (q hX rfl ?_)) <;> (refine .nil (.intro rfl ?_)))
  | (refine WCX.g_ (id := 2) ?_; (refine .cons (q hX rfl ?_)) <;> ((refine .cons (qcallB rfl rfl rfl rfl ca34 rfl rfl (fun h f => head_run hK c pv sv iv h f.wf (f.ro (.of hB)) r (f.ro (.of hr))) ?_ ?_)) <;> intro _) <;> (iterate 3 refine .cons (q hX rfl ?_)) <;> (first | (refine .cons (q hX rfl ?_)) | (refine .cons (qc rfl ?_ ?_)) <;> intro _) <;> (iterate 3 refine .cons (q hX rfl ?_)) <;> (first | (refine .cons (q hX rfl ?_)) | (refine .cons (qc rfl ?_ ?_)) <;> intro _) <;> (refine .cons (q hX rfl ?_)) <;> (refine .nil (.intro rfl ?_)))
  | (refine WCX.g_ (id := 3) ?_; (refine .cons (q hX rfl ?_)) <;> (refine .nil (.intro rfl ?_)))
  | (refine WCX.g_ (id := 4) ?_; (iterate 3 refine .cons (q hX rfl ?_)) <;> ((refine .cons (qa (d := ((c.insns.length - 1 : Nat) : Int)) rfl rfl rfl rfl rfl (wrap_sub (i := 1) (by omega) (by omega)) rfl rfl ?_))) <;> ((refine .cons (qidx hX rfl rfl rfl rfl rfl (.of hi) (row_i noInsn (by omega)) rfl rfl rfl ?_))) <;> (iterate 3 refine .cons (q hX rfl ?_)) <;> (refine .nil (.intro rfl ?_)))
  | (refine WCX.g_ (id := 5) ?_; (refine .cons (q hX rfl ?_)) <;> ((refine .cons (qc rfl ?_ ?_)) <;> intro _) <;> (iterate 2 refine .cons (q hX rfl ?_)) <;> (first | (refine .cons (q hX rfl ?_)) | (refine .cons (qc rfl ?_ ?_)) <;> intro _) <;> (refine .cons (q hX rfl ?_)) <;> (refine .nil (.intro rfl ?_)))
  | (refine WCX.g_ (id := 6) ?_; (refine .cons (q hX rfl ?_)) <;> (refine .nil (.intro rfl ?_)))
  | (refine WCX.g_ (id := 7) ?_; ((refine .cons (qcallV rfl rfl rfl rfl ca35 rfl rfl (fun h f => kinds_run hK h f.wf) ?_))) <;> (iterate 2 refine .cons (q hX rfl ?_)) <;> (refine .nil (.intro rfl ?_)))
  | (refine WCX.g_ (id := 8) ?_; (iterate 2 refine .cons (q hX rfl ?_)) <;> ((refine .cons (ql hX rfl rfl rfl rfl rfl rfl (by assumption) rfl rfl ?_))) <;> (refine .cons (q hX rfl ?_)) <;> (refine .nil (.intro rfl ?_)))
  | refine WCX.r_ ?_
  | refine ToX.d_ ?_
  | refine WCX.t_ rfl ?_
  | refine WCX.f_ rfl ?_
  | refine WCX.k_ ?_
  | refine WCX.b_ ?_
  | refine ToX.r_ hX rfl ?_)
 all_goals try (intro h f; refine ⟨?_, f.chg⟩; clear f; unfold CodeP.validM CodeP.lastM; simp only [resV]; first | (simp_all; done) | (rw [decide_eq_false (p := 1 ≤ _ ∧ _) (by omega)]; simp; done) | (rw [decide_eq_false (p := _ ∨ _) (by omega)]; simp; done))
 all_goals
  have hl : c.lastM = true := by unfold CodeP.lastM; exact decide_eq_true (by omega)
  refine WCX.loop (fun i => [(39, .ext (i64 i)), (38, .ext (i64 c.insns.length)), (37, .ext iv), (5, .ptr 2 0), (1, .ptr 0 0)]) (fun _ => [.own [.str c.n c.c, pv, sv, .int .i64 c.local, iv] 26 false, .ro (icell (c.insns.getD (c.insns.length - 1) noInsn)), .own kindsC 81 false]) (fun _ => []) (fun i => i ≤ c.insns.length ∧ c.validM = (c.insns.drop i).all c.insnM) (fun i => c.insns.length - i) 0 ⟨⟨rfl, rfl, rfl, rfl, rfl, trivial⟩, ⟨_, rfl⟩, ⟨_, .nil⟩⟩ ⟨Nat.zero_le _, by unfold CodeP.validM; rw [decide_eq_true (p := 1 ≤ _ ∧ _) (by omega)]; simp_all⟩ (fun _ => rfl) (fun _ => rfl) (fun _ => rfl) ?_
  rintro i ⟨hi2, he⟩ next
  repeat' (first
   | refine ToX.a_ ?_
   | refine WCX.s_ ?_
   | (refine WCX.g_ (id := 9) ?_; ((refine .cons (qc rfl ?_ ?_)) <;> intro _) <;> (refine .nil (.intro rfl ?_)))
   | (refine WCX.g_ (id := 10) ?_; ((refine .cons (qidx hX rfl rfl rfl rfl rfl (.of hi) (row_i noInsn (by omega)) rfl rfl rfl ?_))) <;> (iterate 3 refine .cons (q hX rfl ?_)) <;> (refine .nil (.intro rfl ?_)))
   | (refine WCX.g_ (id := 11) ?_; (iterate 3 refine .cons (q hX rfl ?_)) <;> ((refine .cons (qcallB rfl rfl rfl rfl ca36 rfl rfl (fun h f => insn_run hK c pv sv iv (c.insns.getD i noInsn) (r.each _ (getD_mem _ (by omega))) h f.wf r (f.ro (.of hr))) ?_ ?_)) <;> intro _) <;> (refine .cons (q hX rfl ?_)) <;> (refine .nil (.intro rfl ?_)))
   | (refine WCX.g_ (id := 12) ?_; (refine .cons (q hX rfl ?_)) <;> (refine .nil (.intro rfl ?_)))
   | (refine WCX.g_ (id := 13) ?_; ((refine .cons (qa rfl rfl rfl rfl rfl (wI (by first | omega | (simp only [Int.ofNat_eq_natCast]; omega)) (by first | omega | (simp only [Int.ofNat_eq_natCast]; omega))) rfl rfl ?_))) <;> (refine .cons (q hX rfl ?_)) <;> (refine .nil (.intro rfl ?_)))
   | (refine WCX.g_ (id := 14) ?_; (refine .cons (q hX rfl ?_)) <;> (refine .nil (.intro rfl ?_)))
   | refine WCX.r_ ?_
   | refine ToX.d_ ?_
   | refine ToX.f_ ?_
   | refine WCX.t_ rfl ?_
   | refine WCX.f_ rfl ?_
   | refine WCX.k_ ?_
   | refine WCX.b_ ?_
   | refine WCX.e_ ?_
   | refine ToX.e_ ?_
   | refine ToX.c_ ?_
   | refine ToX.b_ ?_
   | refine ToX.r_ hX rfl ?_)
  ·refine next (i + 1) _ _ _ (by omega) ⟨⟨rfl, rfl, rfl, rfl, rfl, trivial⟩, ⟨_, rfl⟩, ⟨_, .nil⟩⟩ ⟨by omega, ?_⟩
   clear next
   rw [he, all_step _ (by omega) noInsn]; simp_all
  ·clear next
   refine fun h f => ⟨?_, f.chg⟩
   clear f
   rw [he, all_step _ (by omega) noInsn]; simp_all [resV]
  ·exact fun h f => ⟨by rw [he, List.drop_of_length_le (by omega)]; rfl, f.chg⟩
end Em
end Go.HL
namespace Go.HL
open Go Go.Proofs
namespace Em
set_option maxRecDepth 10000
set_option maxHeartbeats 4000000
variable {K : CallFn} {base : List (Nat × HObj)}
def CodeP.refInsnM (f : CodeP) (x : InsnD) : Bool :=
 decide (0 ≤ x.kind ∧ x.kind < 16) && withinM (hasM x.kind).1 x.d 16 && withinM (hasM x.kind).2.1 x.a 16 && withinM (hasM x.kind).2.2 x.b 16 && refSignM x && f.refWordM x && f.targetM x
def CodeP.refValidM (f : CodeP) : Bool := f.headsM && decide (0 ≤ f.local ∧ f.local ≤ 64) && decide (1 ≤ f.insns.length ∧ f.insns.length ≤ 2000) && f.insns.all f.refInsnM && f.lastM
theorem refValid_run (hK : KN base K) (c : CodeP) (pv sv iv : HVal) (h : Heap) (w : Wf h) (r : CodeOk c) (hr : (codeR c pv sv iv).holds h) : Sp P K 14 [cv c pv sv iv] h (Val (.bool c.refValidM) h) := by
 have hi := hr.2.2
 have li := rd_len hi
 have bi := r.ilen
 refine Sp.start (m := 1267650600228229402733653787135) (n := 119) w (hK.none 14 rfl rfl _ _) Tryz.func14 rfl rfl mask14 rfl rfl ?_
 repeat' (first
  | refine ToX.a_ ?_
  | refine WCX.s_ ?_
  | (refine WCX.g_ (id := 0) ?_; (iterate 2 refine .cons (q hX rfl ?_)) <;> (refine .nil (.intro rfl ?_)))
  | (refine WCX.g_ (id := 1) ?_; (iterate 2 refine .cons (q hX rfl ?_)) <;> ((refine .cons (ql hX rfl rfl rfl rfl rfl rfl (by assumption) rfl rfl ?_))) <;> (refine .cons (q hX rfl ?_)) <;> (refine .nil (.intro rfl ?_)))
  | (refine WCX.g_ (id := 2) ?_; (iterate 6 refine .cons (q hX rfl ?_)) <;> ((refine .cons (qcallB rfl rfl rfl rfl ca37 rfl rfl (fun h f => refHeads_run hK c pv sv h f.wf r (f.ro (.of hr.1)) (f.ro (.of hr.2.1))) ?_ ?_)) <;> intro _) <;> (iterate 4 refine .cons (q hX rfl ?_)) <;> (first | (refine .cons (q hX rfl ?_)) | (refine .cons (qc rfl ?_ ?_)) <;> intro _) <;> (iterate 4 refine .cons (q hX rfl ?_)) <;> (first | (refine .cons (q hX rfl ?_)) | (refine .cons (qc rfl ?_ ?_)) <;> intro _) <;> (iterate 3 refine .cons (q hX rfl ?_)) <;> (first | (refine .cons (q hX rfl ?_)) | (refine .cons (qc rfl ?_ ?_)) <;> intro _) <;> (iterate 3 refine .cons (q hX rfl ?_)) <;> (first | (refine .cons (q hX rfl ?_)) | (refine .cons (qc rfl ?_ ?_)) <;> intro _) <;> (refine .cons (q hX rfl ?_)) <;> (refine .nil (.intro rfl ?_)))
  | (refine WCX.g_ (id := 3) ?_; (refine .cons (q hX rfl ?_)) <;> (refine .nil (.intro rfl ?_)))
  | (refine WCX.g_ (id := 4) ?_; (refine .cons (q hX rfl ?_)) <;> (refine .nil (.intro rfl ?_)))
  | refine WCX.r_ ?_
  | refine ToX.d_ ?_
  | refine WCX.t_ rfl ?_
  | refine WCX.f_ rfl ?_
  | refine WCX.k_ ?_
  | refine WCX.b_ ?_
  | refine ToX.r_ hX rfl ?_)
 all_goals try (intro h f; refine ⟨?_, f.chg⟩; clear f; unfold CodeP.refValidM; simp only [resV]; first | (simp_all; done) | (rw [decide_eq_false (p := 1 ≤ _ ∧ _) (by omega)]; simp; done) | (rw [decide_eq_false (p := 0 ≤ c.local ∧ _) (by omega)]; simp; done))
 refine WCX.loop (fun i => [(4, .ext (i64 i)), (3, .ext (i64 c.insns.length)), (1, .ptr 0 0)]) (fun _ => [.own [.str c.n c.c, pv, sv, .int .i64 c.local, iv] 26 false]) (fun _ => []) (fun i => i ≤ c.insns.length ∧ c.refValidM = ((c.insns.drop i).all c.refInsnM && c.lastM)) (fun i => c.insns.length - i) 0 ⟨⟨rfl, rfl, rfl, trivial⟩, ⟨_, rfl⟩, ⟨_, .nil⟩⟩ ⟨Nat.zero_le _, by unfold CodeP.refValidM; rw [decide_eq_true (p := 1 ≤ _ ∧ _) (by omega), decide_eq_true (p := 0 ≤ c.local ∧ _) (by omega)]; simp_all⟩ (fun _ => rfl) (fun _ => rfl) (fun _ => rfl) ?_
 rintro i ⟨hi2, he⟩ next
 repeat' (first
  | refine ToX.a_ ?_
  | refine WCX.s_ ?_
  | (refine WCX.g_ (id := 5) ?_; (iterate 2 refine .cons (q hX rfl ?_)) <;> ((refine .cons (qc rfl ?_ ?_)) <;> intro _) <;> (refine .nil (.intro rfl ?_)))
  | (refine WCX.g_ (id := 7) ?_; (iterate 3 refine .cons (q hX rfl ?_)) <;> ((refine .cons (qidx hX rfl rfl rfl rfl rfl (.of hi) (row_i noInsn (by omega)) rfl rfl rfl ?_))) <;> (iterate 3 refine .cons (q hX rfl ?_)) <;> (refine .nil (.intro rfl ?_)))
  | (refine WCX.g_ (id := 8) ?_; (iterate 2 refine .cons (q hX rfl ?_)) <;> ((refine .cons (qcallV rfl rfl rfl rfl ca38 rfl rfl (fun h f => has_run hK _ h f.wf) ?_))) <;> (iterate 7 refine .cons (q hX rfl ?_)) <;> (refine .nil (.intro rfl ?_)))
  | (refine WCX.g_ (id := 9) ?_; (iterate 2 refine .cons (q hX rfl ?_)) <;> ((refine .cons (qc rfl ?_ ?_)) <;> intro _) <;> (iterate 3 refine .cons (q hX rfl ?_)) <;> (first | (refine .cons (q hX rfl ?_)) | (refine .cons (qc rfl ?_ ?_)) <;> intro _) <;> (iterate 5 refine .cons (q hX rfl ?_)) <;> (first | (refine .cons (q hX rfl ?_)) | (refine .cons (qcallB rfl rfl rfl rfl ca39 rfl rfl (fun h f => reg_run hK _ _ h f.wf) ?_ ?_)) <;> intro _) <;> (iterate 6 refine .cons (q hX rfl ?_)) <;> (first | (refine .cons (q hX rfl ?_)) | (refine .cons (qcallB rfl rfl rfl rfl ca39 rfl rfl (fun h f => reg_run hK _ _ h f.wf) ?_ ?_)) <;> intro _) <;> (iterate 6 refine .cons (q hX rfl ?_)) <;> (first | (refine .cons (q hX rfl ?_)) | (refine .cons (qcallB rfl rfl rfl rfl ca39 rfl rfl (fun h f => reg_run hK _ _ h f.wf) ?_ ?_)) <;> intro _) <;> (iterate 4 refine .cons (q hX rfl ?_)) <;> (first | (refine .cons (q hX rfl ?_)) | (refine .cons (qcallB rfl rfl rfl rfl ca40 rfl rfl (fun h f => refSign_run hK (c.insns.getD i noInsn) h f.wf) ?_ ?_)) <;> intro _) <;> (iterate 5 refine .cons (q hX rfl ?_)) <;> (first | (refine .cons (q hX rfl ?_)) | (refine .cons (qcallB rfl rfl rfl rfl ca41 rfl rfl (fun h f => refWord_run hK c pv sv iv (c.insns.getD i noInsn) (r.each _ (getD_mem _ (by omega))) h f.wf r (f.ro (.of hr))) ?_ ?_)) <;> intro _) <;> (iterate 5 refine .cons (q hX rfl ?_)) <;> (first | (refine .cons (q hX rfl ?_)) | (refine .cons (qcallB rfl rfl rfl rfl ca42 rfl rfl (fun h f => target_run hK c pv sv iv (c.insns.getD i noInsn) h f.wf r (f.ro (.of hr))) ?_ ?_)) <;> intro _) <;> (iterate 2 refine .cons (q hX rfl ?_)) <;> (refine .nil (.intro rfl ?_)))
  | (refine WCX.g_ (id := 10) ?_; (refine .cons (q hX rfl ?_)) <;> (refine .nil (.intro rfl ?_)))
  | (refine WCX.g_ (id := 6) ?_; (refine .cons (q hX rfl ?_)) <;> ((refine .cons (qa rfl rfl rfl rfl rfl (wI (by first | omega | (simp only [Int.ofNat_eq_natCast]; omega)) (by first | omega | (simp only [Int.ofNat_eq_natCast]; omega))) rfl rfl ?_))) <;> (refine .cons (q hX rfl ?_)) <;> (refine .nil (.intro rfl ?_)))
  | (refine WCX.g_ (id := 11) ?_; (iterate 3 refine .cons (q hX rfl ?_)) <;> ((refine .cons (qa (d := ((c.insns.length - 1 : Nat) : Int)) rfl rfl rfl rfl rfl (wrap_sub (i := 1) (by omega) (by omega)) rfl rfl ?_))) <;> ((refine .cons (qidx hX rfl rfl rfl rfl rfl (.of hi) (row_i noInsn (by omega)) rfl rfl rfl ?_))) <;> (iterate 2 refine .cons (q hX rfl ?_)) <;> ((refine .cons (qc rfl ?_ ?_)) <;> intro _) <;> (iterate 4 refine .cons (q hX rfl ?_)) <;> (first | (refine .cons (q hX rfl ?_)) | (refine .cons (qa (d := ((c.insns.length - 1 : Nat) : Int)) rfl rfl rfl rfl rfl (wrap_sub (i := 1) (by omega) (by omega)) rfl rfl ?_))) <;> (first | (refine .cons (q hX rfl ?_)) | (refine .cons (qidx hX rfl rfl rfl rfl rfl (.of hi) (row_i noInsn (by omega)) rfl rfl rfl ?_))) <;> (iterate 2 refine .cons (q hX rfl ?_)) <;> (first | (refine .cons (q hX rfl ?_)) | (refine .cons (qc rfl ?_ ?_)) <;> intro _) <;> (iterate 2 refine .cons (q hX rfl ?_)) <;> (refine .nil (.intro rfl ?_)))
  | refine WCX.r_ ?_
  | refine ToX.d_ ?_
  | refine ToX.f_ ?_
  | refine WCX.t_ rfl ?_
  | refine WCX.f_ rfl ?_
  | refine WCX.k_ ?_
  | refine WCX.b_ ?_
  | refine WCX.e_ ?_
  | refine ToX.e_ ?_
  | refine ToX.c_ ?_
  | refine ToX.b_ ?_
  | refine ToX.r_ hX rfl ?_)
 all_goals first
  | (refine next (i + 1) _ _ _ (by omega) ⟨⟨rfl, rfl, rfl, trivial⟩, ⟨_, rfl⟩, ⟨_, .nil⟩⟩ ⟨by omega, ?_⟩; clear next; rw [he, all_step _ (by omega) noInsn]; have hin : c.refInsnM (c.insns.getD i noInsn) = true := (by unfold CodeP.refInsnM; rw [decide_eq_true (p := _ ∧ _) (by omega)]; simp_all); rw [hin]; rfl)
  | (clear next; refine fun h f => ⟨?_, f.chg⟩; clear f; have hin : c.refInsnM (c.insns.getD i noInsn) = false := (by unfold CodeP.refInsnM; first | (rw [decide_eq_false (by omega)]; rfl) | (rw [decide_eq_true (p := _ ∧ _) (by omega)]; simp_all; done)); rw [he, all_step _ (by omega) noInsn, hin]; rfl)
  | skip
 all_goals
  clear next
  refine fun h f => ⟨?_, f.chg⟩
  clear f
  rw [he, List.drop_of_length_le (by omega)]
  unfold CodeP.lastM
  first | (rw [decide_eq_true (by omega)]; rfl) | (rw [decide_eq_false (by omega)]; rfl)
/-! ## Both are the same -/
theorem int_cases16 {k : Int} (h0 : 0 ≤ k) (h1 : k < 16) : k = 0 ∨ k = 1 ∨ k = 2 ∨ k = 3 ∨ k = 4 ∨ k = 5 ∨ k = 6 ∨ k = 7 ∨ k = 8 ∨ k = 9 ∨ k = 10 ∨ k = 11 ∨ k = 12 ∨ k = 13 ∨ k = 14 ∨ k = 15 := by omega
theorem arrayM_wordM (f : CodeP) (n : Int) (h6 : f.params.length ≤ 6) : f.arrayM n = f.wordM 1 n := by
 unfold CodeP.arrayM CodeP.wordM
 simp only [show ¬ (1 : Int) = 0 by decide, if_false, if_true]
 by_cases h : 6 ≤ n
 ·rw [if_pos h, decide_eq_false (p := 0 ≤ n ∧ n < (f.params.length : Int)) (by omega)]
  simp only [Bool.false_and, Bool.false_or]
  congr 1
  exact propext ⟨fun g => ⟨h, g⟩, fun g => g.2⟩
 ·rw [if_neg h, decide_eq_false (p := 6 ≤ n ∧ _) (by omega), Bool.or_false]
theorem insnM_same (f : CodeP) (x : InsnD) (h6 : f.params.length ≤ 6) : f.insnM x = f.refInsnM x := by
 unfold CodeP.insnM CodeP.refInsnM
 by_cases h : 0 ≤ x.kind ∧ x.kind < 16
 ·rw [decide_eq_true h, Bool.true_and, Bool.true_and]
  have e := int_cases16 h.1 h.2
  have ha := arrayM_wordM f x.imm h6
  rcases e with e | e | e | e | e | e | e | e | e | e | e | e | e | e | e | e <;> rw [e]
  all_goals simp only [Int.toNat, U, noUses, hasM, refSignM, CodeP.refWordM, CodeP.targetM, CodeP.immM, withinM, ha, e, signM, unaryM, binaryM, CodeP.wordM]
  all_goals simp [Int.lt_add_one_iff]
  all_goals ac_rfl
 ·rw [decide_eq_false h]; simp
theorem validM_same (f : CodeP) : f.validM = f.refValidM := by
 unfold CodeP.validM CodeP.refValidM CodeP.headM
 by_cases h6 : f.params.length ≤ 6
 ·have e : f.insnM = f.refInsnM := funext fun x => insnM_same f x h6
  rw [e]
  ac_rfl
 ·have e : f.headsM = false := by unfold CodeP.headsM CodeP.refHeadM; rw [decide_eq_false h6]; simp
  rw [e]; simp
end Em
end Go.HL
namespace Go.HL
open Go Go.Proofs
namespace Em
set_option maxRecDepth 10000
variable {K : CallFn} {base : List (Nat × HObj)}
abbrev wordsO (v : HVal) (l : List Nat) : Part := ownS 42 1 v (l.map wcell)
def Fresh (v : HVal) : Prop := ∃ k n, v = .slice k 0 n none
def wordI (n : Int) : Nat := (n % 4294967296).toNat
theorem wrap_wordI (n : Int) : wrapF .u32 n = (wordI n : Int) := by rw [wrapF_u32, wordI]; omega
abbrev icells (n : Int) : List HVal := [.int .i64 n]
abbrev jcells (n : Int) : List HVal := [.int .i32 n]
theorem add_run (hK : KN base K) (v nv : HVal) (l : List Nat) (ns : List Int) (h : Heap) (w : Wf h) (hg : (wordsO v l).holds h) (ro : Ro [wordsO v l] h (rd nv 1 (ns.map icells))) (hb : l.length + ns.length ≤ 17592186044416) :
  Sp P K 65 [v, nv] h (TrG (wordsO v l) (fun x C' => C' = [wordsO x (l ++ ns.map wordI)] ∧ (0 < ns.length → Fresh x)) h) := by
 have ll := rd_len ro.holds
 refine Sp.startG (m := 2003) (n := 20) w hg (hK.none 65 rfl rfl _ _) Tryz.func65 rfl rfl mask65 rfl rfl ?_
 repeat' (first
  | refine ToX.a_ ?_
  | refine WCX.s_ ?_
  | (refine WCX.g_ (id := 0) ?_; (refine .cons (q hX rfl ?_)) <;> (refine .nil (.intro rfl ?_)))
  | (refine WCX.g_ (id := 1) ?_; (refine .cons (q hX rfl ?_)) <;> ((refine .cons (ql hX rfl rfl rfl rfl rfl rfl (by assumption) rfl rfl ?_))) <;> (refine .cons (q hX rfl ?_)) <;> (refine .nil (.intro rfl ?_)))
  | refine WCX.b_ ?_)
 refine WCX.loop (ι := Nat × HVal) (fun a => [(9, .ext (i64 a.1)), (8, .ext (i64 ns.length)), (7, .ext nv), (0, .ext a.2)]) (fun _ => []) (fun a => [wordsO a.2 (l ++ (ns.take a.1).map wordI)]) (fun a => a.1 ≤ ns.length ∧ (0 < a.1 → Fresh a.2)) (fun a => ns.length - a.1) (0, v) ⟨⟨rfl, rfl, rfl, rfl, trivial⟩, ⟨_, rfl⟩, ⟨_, by simp only [List.take_zero, List.map_nil, List.append_nil]; exact .cons .h .nil⟩⟩ ⟨Nat.zero_le _, fun h => absurd h (by simp)⟩ (fun _ => rfl) (fun _ => rfl) (fun _ => rfl) ?_
 rintro ⟨i, v2⟩ ⟨hi, hfr⟩ next
 simp only at hi hfr next ⊢
 repeat' (first
  | refine ToX.a_ ?_
  | refine WCX.s_ ?_
  | (refine WCX.g_ (id := 2) ?_; ((refine .cons (qc rfl ?_ ?_)) <;> intro _) <;> (refine .nil (.intro rfl ?_)))
  | (refine WCX.g_ (id := 3) ?_; ((refine .cons (qidx hX rfl rfl rfl rfl rfl ro (row_i (0 : Int) (by omega)) rfl rfl rfl ?_))) <;> (iterate 2 refine .cons (q hX rfl ?_)) <;> (refine .nil (.intro rfl ?_)))
  | (refine WCX.g_ (id := 4) ?_; (iterate 2 refine .cons (q hX rfl ?_)) <;> ((refine .cons (qw hX rfl rfl rfl rfl (wrap_wordI _) rfl rfl ?_))) <;> (refine .cons (q hX rfl ?_)) <;> ((refine .cons (qapp hX rfl rfl rfl rfl rfl rfl rfl rfl rfl rfl rfl rfl b42 rfl rfl rfl rfl rfl (by repeat (first | exact .h | apply Pick.t)) rfl (by simp only [List.length_map, List.length_append, List.length_take]; omega) rfl rfl ?_)) <;> intro kp) <;> (refine .cons (q hX rfl ?_)) <;> (refine .nil (.intro rfl ?_)))
  | (refine WCX.g_ (id := 5) ?_; ((refine .cons (qa rfl rfl rfl rfl rfl (wI (by first | omega | (simp only [Int.ofNat_eq_natCast]; omega)) (by first | omega | (simp only [Int.ofNat_eq_natCast]; omega))) rfl rfl ?_))) <;> (refine .cons (q hX rfl ?_)) <;> (refine .nil (.intro rfl ?_)))
  | (refine WCX.g_ (id := 6) ?_; (iterate 2 refine .cons (q hX rfl ?_)) <;> (refine .nil (.intro rfl ?_)))
  | refine WCX.r_ ?_
  | refine WCX.t_ rfl ?_
  | refine WCX.f_ rfl ?_
  | refine WCX.k_ ?_
  | refine WCX.b_ ?_
  | refine WCX.e_ ?_
  | refine ToX.e_ ?_
  | refine ToX.c_ ?_
  | refine ToX.b_ ?_
  | refine ToX.r_ hX rfl ?_)
 ·refine next (i + 1, _) _ _ _ (by simp only; omega) ⟨⟨rfl, rfl, rfl, rfl, trivial⟩, ⟨_, rfl⟩, ⟨_, .cons (.he (ownS_snoc (x := wordI (ns.getD i 0)) (by simp only; rw [take_succ (by omega) (0 : Int), List.map_append, ← List.append_assoc]; rfl))) .nil⟩⟩ ⟨by simp only; omega, fun _ => ⟨_, _, rfl⟩⟩
 ·have hi2 : i = ns.length := by omega
  subst hi2
  exact fun h f => ⟨_, f.chg, by simp only [List.take_length]; rfl, hfr⟩
theorem add32_run (hK : KN base K) (v nv : HVal) (l : List Nat) (ns : List Int) (h : Heap) (w : Wf h) (hg : (wordsO v l).holds h) (ro : Ro [wordsO v l] h (rd nv 1 (ns.map jcells))) (hb : l.length + ns.length ≤ 17592186044416) :
  Sp P K 66 [v, nv] h (TrG (wordsO v l) (fun x C' => C' = [wordsO x (l ++ ns.map wordI)] ∧ (0 < ns.length → Fresh x)) h) := by
 have ll := rd_len ro.holds
 refine Sp.startG (m := 2003) (n := 20) w hg (hK.none 66 rfl rfl _ _) Tryz.func66 rfl rfl mask66 rfl rfl ?_
 repeat' (first
  | refine ToX.a_ ?_
  | refine WCX.s_ ?_
  | (refine WCX.g_ (id := 0) ?_; (refine .cons (q hX rfl ?_)) <;> (refine .nil (.intro rfl ?_)))
  | (refine WCX.g_ (id := 1) ?_; (refine .cons (q hX rfl ?_)) <;> ((refine .cons (ql hX rfl rfl rfl rfl rfl rfl (by assumption) rfl rfl ?_))) <;> (refine .cons (q hX rfl ?_)) <;> (refine .nil (.intro rfl ?_)))
  | refine WCX.b_ ?_)
 refine WCX.loop (ι := Nat × HVal) (fun a => [(9, .ext (i64 a.1)), (8, .ext (i64 ns.length)), (7, .ext nv), (0, .ext a.2)]) (fun _ => []) (fun a => [wordsO a.2 (l ++ (ns.take a.1).map wordI)]) (fun a => a.1 ≤ ns.length ∧ (0 < a.1 → Fresh a.2)) (fun a => ns.length - a.1) (0, v) ⟨⟨rfl, rfl, rfl, rfl, trivial⟩, ⟨_, rfl⟩, ⟨_, by simp only [List.take_zero, List.map_nil, List.append_nil]; exact .cons .h .nil⟩⟩ ⟨Nat.zero_le _, fun h => absurd h (by simp)⟩ (fun _ => rfl) (fun _ => rfl) (fun _ => rfl) ?_
 rintro ⟨i, v2⟩ ⟨hi, hfr⟩ next
 simp only at hi hfr next ⊢
 repeat' (first
  | refine ToX.a_ ?_
  | refine WCX.s_ ?_
  | (refine WCX.g_ (id := 2) ?_; ((refine .cons (qc rfl ?_ ?_)) <;> intro _) <;> (refine .nil (.intro rfl ?_)))
  | (refine WCX.g_ (id := 3) ?_; ((refine .cons (qidx hX rfl rfl rfl rfl rfl ro (row_i (0 : Int) (by omega)) rfl rfl rfl ?_))) <;> (iterate 2 refine .cons (q hX rfl ?_)) <;> (refine .nil (.intro rfl ?_)))
  | (refine WCX.g_ (id := 4) ?_; (iterate 2 refine .cons (q hX rfl ?_)) <;> ((refine .cons (qw hX rfl rfl rfl rfl (wrap_wordI _) rfl rfl ?_))) <;> (refine .cons (q hX rfl ?_)) <;> ((refine .cons (qapp hX rfl rfl rfl rfl rfl rfl rfl rfl rfl rfl rfl rfl b42 rfl rfl rfl rfl rfl (by repeat (first | exact .h | apply Pick.t)) rfl (by simp only [List.length_map, List.length_append, List.length_take]; omega) rfl rfl ?_)) <;> intro kp) <;> (refine .cons (q hX rfl ?_)) <;> (refine .nil (.intro rfl ?_)))
  | (refine WCX.g_ (id := 5) ?_; ((refine .cons (qa rfl rfl rfl rfl rfl (wI (by first | omega | (simp only [Int.ofNat_eq_natCast]; omega)) (by first | omega | (simp only [Int.ofNat_eq_natCast]; omega))) rfl rfl ?_))) <;> (refine .cons (q hX rfl ?_)) <;> (refine .nil (.intro rfl ?_)))
  | (refine WCX.g_ (id := 6) ?_; (iterate 2 refine .cons (q hX rfl ?_)) <;> (refine .nil (.intro rfl ?_)))
  | refine WCX.r_ ?_
  | refine WCX.t_ rfl ?_
  | refine WCX.f_ rfl ?_
  | refine WCX.k_ ?_
  | refine WCX.b_ ?_
  | refine WCX.e_ ?_
  | refine ToX.e_ ?_
  | refine ToX.c_ ?_
  | refine ToX.b_ ?_
  | refine ToX.r_ hX rfl ?_)
 ·refine next (i + 1, _) _ _ _ (by simp only; omega) ⟨⟨rfl, rfl, rfl, rfl, trivial⟩, ⟨_, rfl⟩, ⟨_, .cons (.he (ownS_snoc (x := wordI (ns.getD i 0)) (by simp only; rw [take_succ (by omega) (0 : Int), List.map_append, ← List.append_assoc]; rfl))) .nil⟩⟩ ⟨by simp only; omega, fun _ => ⟨_, _, rfl⟩⟩
 ·have hi2 : i = ns.length := by omega
  subst hi2
  exact fun h f => ⟨_, f.chg, by simp only [List.take_length]; rfl, hfr⟩
theorem check_run (hK : KN base K) (v : HVal) (l : List Nat) (h : Heap) (w : Wf h) (ro : (rd v 1 (l.map wcell)).holds h) (hb : l.length ≤ 17592186044416) (hw : ∀ x ∈ l, x < 4294967296) :
  Sp P K 67 [v] h (Val (u32 (sumOf l)) h) := by
 have ll := rd_len ro
 refine Sp.start (m := 1005) (n := 18) w (hK.none 67 rfl rfl _ _) Tryz.func67 rfl rfl mask67 rfl rfl ?_
 repeat' (first
  | refine ToX.a_ ?_
  | refine WCX.s_ ?_
  | (refine WCX.g_ (id := 0) ?_; (refine .cons (q hX rfl ?_)) <;> (refine .nil (.intro rfl ?_)))
  | (refine WCX.g_ (id := 1) ?_; (refine .cons (q hX rfl ?_)) <;> (refine .nil (.intro rfl ?_)))
  | (refine WCX.g_ (id := 2) ?_; (refine .cons (q hX rfl ?_)) <;> ((refine .cons (ql hX rfl rfl rfl rfl rfl rfl (by assumption) rfl rfl ?_))) <;> (refine .cons (q hX rfl ?_)) <;> (refine .nil (.intro rfl ?_)))
  | refine WCX.b_ ?_)
 refine WCX.loop (ι := Nat × Nat) (fun a => [(8, .ext (i64 a.1)), (7, .ext (i64 l.length)), (6, .ext v), (3, .ext (u32 a.2))]) (fun _ => []) (fun _ => []) (fun a => a.1 ≤ l.length ∧ a.2 < 4294967296 ∧ sumOf l = (l.drop a.1).foldl (fun n w => (31 * n + w) % 4294967296) a.2) (fun a => l.length - a.1) (0, 7) ⟨⟨rfl, rfl, rfl, rfl, trivial⟩, ⟨_, rfl⟩, ⟨_, .nil⟩⟩ ⟨Nat.zero_le _, by decide, rfl⟩ (fun _ => rfl) (fun _ => rfl) (fun _ => rfl) ?_
 rintro ⟨i, s⟩ ⟨hi, hs, he⟩ next
 simp only at hi hs he next ⊢
 have hx : i < l.length → l.getD i 0 < 4294967296 := fun hlt => hw _ (getD_mem _ hlt)
 repeat' (first
  | refine ToX.a_ ?_
  | refine WCX.s_ ?_
  | (refine WCX.g_ (id := 3) ?_; ((refine .cons (qc rfl ?_ ?_)) <;> intro _) <;> (refine .nil (.intro rfl ?_)))
  | (refine WCX.g_ (id := 4) ?_; ((refine .cons (qidx hX rfl rfl rfl rfl rfl (.of ro) (row_i (0 : Nat) (by omega)) rfl rfl rfl ?_))) <;> (iterate 2 refine .cons (q hX rfl ?_)) <;> (refine .nil (.intro rfl ?_)))
  | (refine WCX.g_ (id := 5) ?_; (refine .cons (q hX rfl ?_)) <;> ((refine .cons (qa (d := ((s * 31 % 4294967296 : Nat) : Int)) rfl rfl rfl rfl rfl (by rw [wrapF_u32]; omega) rfl rfl ?_))) <;> (refine .cons (q hX rfl ?_)) <;> ((refine .cons (qa (d := (((31 * s + l.getD i 0) % 4294967296 : Nat) : Int)) rfl rfl rfl rfl rfl (by rw [wrapF_u32]; omega) rfl rfl ?_))) <;> (refine .cons (q hX rfl ?_)) <;> (refine .nil (.intro rfl ?_)))
  | (refine WCX.g_ (id := 6) ?_; ((refine .cons (qa rfl rfl rfl rfl rfl (wI (by first | omega | (simp only [Int.ofNat_eq_natCast]; omega)) (by first | omega | (simp only [Int.ofNat_eq_natCast]; omega))) rfl rfl ?_))) <;> (refine .cons (q hX rfl ?_)) <;> (refine .nil (.intro rfl ?_)))
  | (refine WCX.g_ (id := 7) ?_; (iterate 2 refine .cons (q hX rfl ?_)) <;> (refine .nil (.intro rfl ?_)))
  | refine WCX.r_ ?_
  | refine WCX.t_ rfl ?_
  | refine WCX.f_ rfl ?_
  | refine WCX.k_ ?_
  | refine WCX.b_ ?_
  | refine WCX.e_ ?_
  | refine ToX.e_ ?_
  | refine ToX.c_ ?_
  | refine ToX.b_ ?_
  | refine ToX.r_ hX rfl ?_)
 ·refine next (i + 1, _) _ _ _ (by simp only; omega) ⟨⟨rfl, rfl, rfl, rfl, trivial⟩, ⟨_, rfl⟩, ⟨_, .nil⟩⟩ ⟨by simp only; omega, Nat.mod_lt _ (by decide), ?_⟩
  rw [he, drop_cons (by omega) 0]; rfl
 ·have hi2 : i = l.length := by omega
  subst hi2
  exact fun h f => ⟨by rw [he, List.drop_length]; rfl, f.chg⟩
end Em
end Go.HL
