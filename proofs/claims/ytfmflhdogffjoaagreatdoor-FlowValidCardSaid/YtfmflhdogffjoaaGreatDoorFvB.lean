/- The walk of FlowValid: what an instruction's word means. No statement of the seat stands here. -/
import Derived.Test.YtfmflhdogffjoaaGreatDoorFvD
import Derived.Test.YtfmflhdogffjoaaGreatDoorFvA
namespace Go.HL
open Go Go.Proofs
namespace Fv
set_option maxRecDepth 10000
variable {K : CallFn} {base : List (Nat × HObj)}
def noUses : UsesD := ⟨false, false, false, false, false, false, 0, false, false, false⟩
def fieldsM (k : Int) : UsesD × Bool :=
  if k = 0 then ({ noUses with d := true, imm := true }, true)
  else if k = 1 then ({ noUses with d := true, a := true }, true)
  else if k = 2 then ({ noUses with d := true, a := true, ops := 3 }, true)
  else if k = 3 then ({ noUses with d := true, a := true, b := true, ops := 20 }, true)
  else if k = 4 then ({ noUses with d := true, ops := 4 }, true)
  else if k = 5 then ({ noUses with d := true, param := true }, true)
  else if k = 6 then ({ noUses with d := true, a := true, array := true }, true)
  else if k = 7 then ({ noUses with a := true, b := true, array := true }, true)
  else if k = 8 then ({ noUses with a := true, b := true, array := true, folds := true }, true)
  else if k = 9 then ({ noUses with barrier := true }, true)
  else if k = 10 then ({ noUses with d := true, a := true, barrier := true, folds := true }, true)
  else if k = 11 then ({ noUses with d := true, args := true }, true)
  else (noUses, false)
theorem fields_run (hK : KN base K) (k : Int) (h : Heap) (w : Wf h) : Sp P K 42 [.int .i64 k] h (Gives h (.tuple [.agg (fieldsM k).1.cells, .bool (fieldsM k).2])) := by
  refine Sp.of (m := 314146179389) (n := 42) (hK.none 42 rfl rfl _ _) Tryz.func42 rfl rfl mask42 rfl rfl ?_
  repeat' (first
    | refine To.fn_cell hT rfl rfl rfl (by (repeat (first | assumption | refine Grow.get (by assumption) ?_))) rfl rfl ?_
    | refine To.nrm_seq ?_
    | refine WC.seq ?_
    | (refine WC.region (id := 0) ?_; ((refine WO.cons ?_; ((refine Op1.made (M.alloc rfl (by first | exact z40 | exact z43 | exact z101 | exact z35 | exact z37)) rfl rfl (by assumption) ?_; rintro ka ha ⟨ga, ea, fa, wa, lea, lta, oa⟩)))
        <;> (refine WO.cons ?_; (refine Op1.val (V.assign rfl rfl) rfl rfl ?_))
        <;> (refine WO.nil (Then.intro rfl ?_))))
    | (refine WC.region (id := 1) ?_; ((refine WO.cons ?_; (refine Op1.val (V.move rfl rfl) rfl rfl ?_))
        <;> (refine WO.nil (Then.intro rfl ?_))))
    | (refine WC.region (id := 2) ?_; ((refine WO.cons ?_; ((refine Op1.eql rfl rfl rfl rfl rfl rfl ?_ ?_ <;> intro _)))
        <;> (refine WO.cons ?_; (refine Op1.val (V.assign rfl rfl) rfl rfl ?_))
        <;> (refine WO.nil (Then.intro rfl ?_))))
    | (refine WC.region (id := 3) ?_; ((refine WO.cons ?_; (refine Op1.val (V.build hT rfl rfl (by first | exact z40 | exact z43 | exact z101 | exact z35 | exact z37) rfl rfl rfl) rfl rfl ?_))
        <;> (refine WO.cons ?_; ((refine Op1.storeN hT rfl rfl (by first | exact i40 | exact i43 | exact i101 | exact i35 | exact i37 | exact i4 | exact i41) rfl rfl rfl rfl (by (repeat (first | assumption | refine Grow.get (by assumption) ?_))) rfl rfl rfl (by assumption) (by assumption) (by (repeat (first | assumption | exact Grow.refl _ | refine Grow.trans ?_ (by assumption)))) ?_; rintro hs gs es ws os)))
        <;> (refine WO.cons ?_; (refine Op1.val (V.assign rfl rfl) rfl rfl ?_))
        <;> (refine WO.nil (Then.intro rfl ?_))))
    | (refine WC.region (id := 4) ?_; ((refine WO.cons ?_; ((refine Op1.eql rfl rfl rfl rfl rfl rfl ?_ ?_ <;> intro _)))
        <;> (refine WO.cons ?_; (refine Op1.val (V.assign rfl rfl) rfl rfl ?_))
        <;> (refine WO.nil (Then.intro rfl ?_))))
    | (refine WC.region (id := 5) ?_; ((refine WO.cons ?_; (refine Op1.val (V.build hT rfl rfl (by first | exact z40 | exact z43 | exact z101 | exact z35 | exact z37) rfl rfl rfl) rfl rfl ?_))
        <;> (refine WO.cons ?_; ((refine Op1.storeN hT rfl rfl (by first | exact i40 | exact i43 | exact i101 | exact i35 | exact i37 | exact i4 | exact i41) rfl rfl rfl rfl (by (repeat (first | assumption | refine Grow.get (by assumption) ?_))) rfl rfl rfl (by assumption) (by assumption) (by (repeat (first | assumption | exact Grow.refl _ | refine Grow.trans ?_ (by assumption)))) ?_; rintro hs gs es ws os)))
        <;> (refine WO.cons ?_; (refine Op1.val (V.assign rfl rfl) rfl rfl ?_))
        <;> (refine WO.nil (Then.intro rfl ?_))))
    | (refine WC.region (id := 6) ?_; ((refine WO.cons ?_; ((refine Op1.eql rfl rfl rfl rfl rfl rfl ?_ ?_ <;> intro _)))
        <;> (refine WO.cons ?_; (refine Op1.val (V.assign rfl rfl) rfl rfl ?_))
        <;> (refine WO.nil (Then.intro rfl ?_))))
    | (refine WC.region (id := 7) ?_; ((refine WO.cons ?_; (refine Op1.val (V.build hT rfl rfl (by first | exact z40 | exact z43 | exact z101 | exact z35 | exact z37) rfl rfl rfl) rfl rfl ?_))
        <;> (refine WO.cons ?_; ((refine Op1.storeN hT rfl rfl (by first | exact i40 | exact i43 | exact i101 | exact i35 | exact i37 | exact i4 | exact i41) rfl rfl rfl rfl (by (repeat (first | assumption | refine Grow.get (by assumption) ?_))) rfl rfl rfl (by assumption) (by assumption) (by (repeat (first | assumption | exact Grow.refl _ | refine Grow.trans ?_ (by assumption)))) ?_; rintro hs gs es ws os)))
        <;> (refine WO.cons ?_; (refine Op1.val (V.assign rfl rfl) rfl rfl ?_))
        <;> (refine WO.nil (Then.intro rfl ?_))))
    | (refine WC.region (id := 8) ?_; ((refine WO.cons ?_; ((refine Op1.eql rfl rfl rfl rfl rfl rfl ?_ ?_ <;> intro _)))
        <;> (refine WO.cons ?_; (refine Op1.val (V.assign rfl rfl) rfl rfl ?_))
        <;> (refine WO.nil (Then.intro rfl ?_))))
    | (refine WC.region (id := 9) ?_; ((refine WO.cons ?_; (refine Op1.val (V.build hT rfl rfl (by first | exact z40 | exact z43 | exact z101 | exact z35 | exact z37) rfl rfl rfl) rfl rfl ?_))
        <;> (refine WO.cons ?_; ((refine Op1.storeN hT rfl rfl (by first | exact i40 | exact i43 | exact i101 | exact i35 | exact i37 | exact i4 | exact i41) rfl rfl rfl rfl (by (repeat (first | assumption | refine Grow.get (by assumption) ?_))) rfl rfl rfl (by assumption) (by assumption) (by (repeat (first | assumption | exact Grow.refl _ | refine Grow.trans ?_ (by assumption)))) ?_; rintro hs gs es ws os)))
        <;> (refine WO.cons ?_; (refine Op1.val (V.assign rfl rfl) rfl rfl ?_))
        <;> (refine WO.nil (Then.intro rfl ?_))))
    | (refine WC.region (id := 10) ?_; ((refine WO.cons ?_; ((refine Op1.eql rfl rfl rfl rfl rfl rfl ?_ ?_ <;> intro _)))
        <;> (refine WO.cons ?_; (refine Op1.val (V.assign rfl rfl) rfl rfl ?_))
        <;> (refine WO.nil (Then.intro rfl ?_))))
    | (refine WC.region (id := 11) ?_; ((refine WO.cons ?_; (refine Op1.val (V.build hT rfl rfl (by first | exact z40 | exact z43 | exact z101 | exact z35 | exact z37) rfl rfl rfl) rfl rfl ?_))
        <;> (refine WO.cons ?_; ((refine Op1.storeN hT rfl rfl (by first | exact i40 | exact i43 | exact i101 | exact i35 | exact i37 | exact i4 | exact i41) rfl rfl rfl rfl (by (repeat (first | assumption | refine Grow.get (by assumption) ?_))) rfl rfl rfl (by assumption) (by assumption) (by (repeat (first | assumption | exact Grow.refl _ | refine Grow.trans ?_ (by assumption)))) ?_; rintro hs gs es ws os)))
        <;> (refine WO.cons ?_; (refine Op1.val (V.assign rfl rfl) rfl rfl ?_))
        <;> (refine WO.nil (Then.intro rfl ?_))))
    | (refine WC.region (id := 12) ?_; ((refine WO.cons ?_; ((refine Op1.eql rfl rfl rfl rfl rfl rfl ?_ ?_ <;> intro _)))
        <;> (refine WO.cons ?_; (refine Op1.val (V.assign rfl rfl) rfl rfl ?_))
        <;> (refine WO.nil (Then.intro rfl ?_))))
    | (refine WC.region (id := 13) ?_; ((refine WO.cons ?_; (refine Op1.val (V.build hT rfl rfl (by first | exact z40 | exact z43 | exact z101 | exact z35 | exact z37) rfl rfl rfl) rfl rfl ?_))
        <;> (refine WO.cons ?_; ((refine Op1.storeN hT rfl rfl (by first | exact i40 | exact i43 | exact i101 | exact i35 | exact i37 | exact i4 | exact i41) rfl rfl rfl rfl (by (repeat (first | assumption | refine Grow.get (by assumption) ?_))) rfl rfl rfl (by assumption) (by assumption) (by (repeat (first | assumption | exact Grow.refl _ | refine Grow.trans ?_ (by assumption)))) ?_; rintro hs gs es ws os)))
        <;> (refine WO.cons ?_; (refine Op1.val (V.assign rfl rfl) rfl rfl ?_))
        <;> (refine WO.nil (Then.intro rfl ?_))))
    | (refine WC.region (id := 14) ?_; ((refine WO.cons ?_; ((refine Op1.eql rfl rfl rfl rfl rfl rfl ?_ ?_ <;> intro _)))
        <;> (refine WO.cons ?_; (refine Op1.val (V.assign rfl rfl) rfl rfl ?_))
        <;> (refine WO.nil (Then.intro rfl ?_))))
    | (refine WC.region (id := 15) ?_; ((refine WO.cons ?_; (refine Op1.val (V.build hT rfl rfl (by first | exact z40 | exact z43 | exact z101 | exact z35 | exact z37) rfl rfl rfl) rfl rfl ?_))
        <;> (refine WO.cons ?_; ((refine Op1.storeN hT rfl rfl (by first | exact i40 | exact i43 | exact i101 | exact i35 | exact i37 | exact i4 | exact i41) rfl rfl rfl rfl (by (repeat (first | assumption | refine Grow.get (by assumption) ?_))) rfl rfl rfl (by assumption) (by assumption) (by (repeat (first | assumption | exact Grow.refl _ | refine Grow.trans ?_ (by assumption)))) ?_; rintro hs gs es ws os)))
        <;> (refine WO.cons ?_; (refine Op1.val (V.assign rfl rfl) rfl rfl ?_))
        <;> (refine WO.nil (Then.intro rfl ?_))))
    | (refine WC.region (id := 16) ?_; ((refine WO.cons ?_; ((refine Op1.eql rfl rfl rfl rfl rfl rfl ?_ ?_ <;> intro _)))
        <;> (refine WO.cons ?_; (refine Op1.val (V.assign rfl rfl) rfl rfl ?_))
        <;> (refine WO.nil (Then.intro rfl ?_))))
    | (refine WC.region (id := 17) ?_; ((refine WO.cons ?_; (refine Op1.val (V.build hT rfl rfl (by first | exact z40 | exact z43 | exact z101 | exact z35 | exact z37) rfl rfl rfl) rfl rfl ?_))
        <;> (refine WO.cons ?_; ((refine Op1.storeN hT rfl rfl (by first | exact i40 | exact i43 | exact i101 | exact i35 | exact i37 | exact i4 | exact i41) rfl rfl rfl rfl (by (repeat (first | assumption | refine Grow.get (by assumption) ?_))) rfl rfl rfl (by assumption) (by assumption) (by (repeat (first | assumption | exact Grow.refl _ | refine Grow.trans ?_ (by assumption)))) ?_; rintro hs gs es ws os)))
        <;> (refine WO.cons ?_; (refine Op1.val (V.assign rfl rfl) rfl rfl ?_))
        <;> (refine WO.nil (Then.intro rfl ?_))))
    | (refine WC.region (id := 18) ?_; ((refine WO.cons ?_; ((refine Op1.eql rfl rfl rfl rfl rfl rfl ?_ ?_ <;> intro _)))
        <;> (refine WO.cons ?_; (refine Op1.val (V.assign rfl rfl) rfl rfl ?_))
        <;> (refine WO.nil (Then.intro rfl ?_))))
    | (refine WC.region (id := 19) ?_; ((refine WO.cons ?_; (refine Op1.val (V.build hT rfl rfl (by first | exact z40 | exact z43 | exact z101 | exact z35 | exact z37) rfl rfl rfl) rfl rfl ?_))
        <;> (refine WO.cons ?_; ((refine Op1.storeN hT rfl rfl (by first | exact i40 | exact i43 | exact i101 | exact i35 | exact i37 | exact i4 | exact i41) rfl rfl rfl rfl (by (repeat (first | assumption | refine Grow.get (by assumption) ?_))) rfl rfl rfl (by assumption) (by assumption) (by (repeat (first | assumption | exact Grow.refl _ | refine Grow.trans ?_ (by assumption)))) ?_; rintro hs gs es ws os)))
        <;> (refine WO.cons ?_; (refine Op1.val (V.assign rfl rfl) rfl rfl ?_))
        <;> (refine WO.nil (Then.intro rfl ?_))))
    | (refine WC.region (id := 20) ?_; ((refine WO.cons ?_; ((refine Op1.eql rfl rfl rfl rfl rfl rfl ?_ ?_ <;> intro _)))
        <;> (refine WO.cons ?_; (refine Op1.val (V.assign rfl rfl) rfl rfl ?_))
        <;> (refine WO.nil (Then.intro rfl ?_))))
    | (refine WC.region (id := 21) ?_; ((refine WO.cons ?_; (refine Op1.val (V.build hT rfl rfl (by first | exact z40 | exact z43 | exact z101 | exact z35 | exact z37) rfl rfl rfl) rfl rfl ?_))
        <;> (refine WO.cons ?_; ((refine Op1.storeN hT rfl rfl (by first | exact i40 | exact i43 | exact i101 | exact i35 | exact i37 | exact i4 | exact i41) rfl rfl rfl rfl (by (repeat (first | assumption | refine Grow.get (by assumption) ?_))) rfl rfl rfl (by assumption) (by assumption) (by (repeat (first | assumption | exact Grow.refl _ | refine Grow.trans ?_ (by assumption)))) ?_; rintro hs gs es ws os)))
        <;> (refine WO.cons ?_; (refine Op1.val (V.assign rfl rfl) rfl rfl ?_))
        <;> (refine WO.nil (Then.intro rfl ?_))))
    | (refine WC.region (id := 22) ?_; ((refine WO.cons ?_; ((refine Op1.eql rfl rfl rfl rfl rfl rfl ?_ ?_ <;> intro _)))
        <;> (refine WO.cons ?_; (refine Op1.val (V.assign rfl rfl) rfl rfl ?_))
        <;> (refine WO.nil (Then.intro rfl ?_))))
    | (refine WC.region (id := 23) ?_; ((refine WO.cons ?_; (refine Op1.val (V.build hT rfl rfl (by first | exact z40 | exact z43 | exact z101 | exact z35 | exact z37) rfl rfl rfl) rfl rfl ?_))
        <;> (refine WO.cons ?_; ((refine Op1.storeN hT rfl rfl (by first | exact i40 | exact i43 | exact i101 | exact i35 | exact i37 | exact i4 | exact i41) rfl rfl rfl rfl (by (repeat (first | assumption | refine Grow.get (by assumption) ?_))) rfl rfl rfl (by assumption) (by assumption) (by (repeat (first | assumption | exact Grow.refl _ | refine Grow.trans ?_ (by assumption)))) ?_; rintro hs gs es ws os)))
        <;> (refine WO.cons ?_; (refine Op1.val (V.assign rfl rfl) rfl rfl ?_))
        <;> (refine WO.nil (Then.intro rfl ?_))))
    | (refine WC.region (id := 24) ?_; ((refine WO.cons ?_; ((refine Op1.eql rfl rfl rfl rfl rfl rfl ?_ ?_ <;> intro _)))
        <;> (refine WO.cons ?_; (refine Op1.val (V.assign rfl rfl) rfl rfl ?_))
        <;> (refine WO.nil (Then.intro rfl ?_))))
    | (refine WC.region (id := 25) ?_; ((refine WO.cons ?_; (refine Op1.val (V.build hT rfl rfl (by first | exact z40 | exact z43 | exact z101 | exact z35 | exact z37) rfl rfl rfl) rfl rfl ?_))
        <;> (refine WO.cons ?_; ((refine Op1.storeN hT rfl rfl (by first | exact i40 | exact i43 | exact i101 | exact i35 | exact i37 | exact i4 | exact i41) rfl rfl rfl rfl (by (repeat (first | assumption | refine Grow.get (by assumption) ?_))) rfl rfl rfl (by assumption) (by assumption) (by (repeat (first | assumption | exact Grow.refl _ | refine Grow.trans ?_ (by assumption)))) ?_; rintro hs gs es ws os)))
        <;> (refine WO.cons ?_; (refine Op1.val (V.assign rfl rfl) rfl rfl ?_))
        <;> (refine WO.nil (Then.intro rfl ?_))))
    | (refine WC.region (id := 26) ?_; ((refine WO.cons ?_; (refine Op1.val (V.build hT rfl rfl (by first | exact z40 | exact z43 | exact z101 | exact z35 | exact z37) rfl rfl rfl) rfl rfl ?_))
        <;> (refine WO.cons ?_; ((refine Op1.storeN hT rfl rfl (by first | exact i40 | exact i43 | exact i101 | exact i35 | exact i37 | exact i4 | exact i41) rfl rfl rfl rfl (by (repeat (first | assumption | refine Grow.get (by assumption) ?_))) rfl rfl rfl (by assumption) (by assumption) (by (repeat (first | assumption | exact Grow.refl _ | refine Grow.trans ?_ (by assumption)))) ?_; rintro hs gs es ws os)))
        <;> (refine WO.cons ?_; (refine Op1.val (V.assign rfl rfl) rfl rfl ?_))
        <;> (refine WO.nil (Then.intro rfl ?_))))
    | refine WC.ret ?_
    | refine To.ret_seq ?_
    | refine To.ret_block ?_
    | refine WC.cond_true rfl ?_
    | refine WC.cond_false rfl ?_
    | refine WC.skip ?_
    | refine WC.block ?_
    | refine To.nrm_block ?_)
  all_goals (refine ⟨?_, by (repeat (first | assumption | exact Grow.refl _ | refine Grow.trans ?_ (by assumption))), by assumption⟩; first | (simp_all [resV, fieldsM, UsesD.cells, noUses]; done) | (simp_all [resV, fieldsM, UsesD.cells, noUses]; omega) | (simp_all [resV, fieldsM, UsesD.cells, noUses]; intros; exfalso; omega) | (simp_all [resV, fieldsM, UsesD.cells, noUses]; split <;> intros <;> first | omega | (exfalso; omega) | simp_all))
def FlowD.arrayM (f : FlowD) (n : Int) : Bool := if 6 ≤ n then decide (n < 6 + (f.shared.length : Int)) else decide (0 ≤ n ∧ n < (f.params.length : Int)) && (f.param n).2.2
theorem array_run (hK : KN base K) (f : FlowD) (n : Int) (n1 : -2147483648 ≤ n) (n2 : n ≤ 2147483647) (h : Heap) (w : Wf h) (r : f.Ok h) : Sp P K 74 [.agg f.cells, .int .i32 n] h (Gives h (.bool (f.arrayM n))) := by
  have hp := r.params
  have lp := r.lp
  have ls := r.ls
  have bp := r.plen
  have bs := r.slen
  refine Sp.of (m := 87) (n := 32) (hK.none 74 rfl rfl _ _) Tryz.func74 rfl rfl mask74 rfl rfl ?_
  repeat' (first
    | refine To.nrm_seq ?_
    | refine WC.seq ?_
    | (refine WC.region (id := 0) ?_; ((refine WO.cons ?_; ((refine Op1.made (M.box rfl rfl rfl) rfl rfl (by assumption) ?_; rintro kb hb ⟨gb, eb, fb, wb, leb, ltb, obb⟩)))
        <;> (refine WO.cons ?_; (refine Op1.val (V.assign rfl rfl) rfl rfl ?_))
        <;> (refine WO.nil (Then.intro rfl ?_))))
    | (refine WC.region (id := 1) ?_; ((refine WO.cons ?_; (refine Op1.val (V.move rfl rfl) rfl rfl ?_))
        <;> (refine WO.cons ?_; ((refine Op1.geq rfl rfl rfl rfl rfl rfl ?_ ?_ <;> intro _)))
        <;> (refine WO.nil (Then.intro rfl ?_))))
    | (refine WC.region (id := 2) ?_; ((refine WO.cons ?_; (refine Op1.val (V.move rfl rfl) rfl rfl ?_))
        <;> (refine WO.cons ?_; (refine Op1.val (V.conv hT rfl rfl rfl rfl (by omega) (by omega)) rfl rfl ?_))
        <;> (refine WO.cons ?_; (refine Op1.val (V.fieldAddr hT rfl rfl rfl rfl rfl rfl) rfl rfl ?_))
        <;> (refine WO.cons ?_; (refine Op1.val (V.load hT rfl rfl rfl rfl (by (repeat (first | assumption | refine Grow.get (by assumption) ?_))) rfl) rfl rfl ?_))
        <;> (refine WO.cons ?_; (refine Op1.val (V.len hT rfl rfl rfl rfl rfl rfl (by first | rfl | assumption)) rfl rfl ?_))
        <;> (refine WO.cons ?_; (refine Op1.val (V.add rfl rfl rfl rfl (wrapF_i64 (by first | omega | (simp only [Int.ofNat_eq_natCast]; omega)) (by first | omega | (simp only [Int.ofNat_eq_natCast]; omega)))) rfl rfl ?_))
        <;> (refine WO.cons ?_; ((refine Op1.lss rfl rfl rfl rfl rfl rfl ?_ ?_ <;> intro _)))
        <;> (refine WO.cons ?_; (refine Op1.val (V.assign rfl rfl) rfl rfl ?_))
        <;> (refine WO.nil (Then.intro rfl ?_))))
    | (refine WC.region (id := 3) ?_; ((refine WO.cons ?_; (refine Op1.val (V.move rfl rfl) rfl rfl ?_))
        <;> (refine WO.cons ?_; ((refine Op1.geq rfl rfl rfl rfl rfl rfl ?_ ?_ <;> intro _)))
        <;> (refine WO.cons ?_; (refine Op1.val (V.move rfl rfl) rfl rfl ?_))
        <;> (refine WO.cons ?_; (first | refine Op1.skip rfl rfl rfl ?_ | refine Op1.val (V.move rfl rfl) rfl rfl ?_))
        <;> (refine WO.cons ?_; (first | refine Op1.skip rfl rfl rfl ?_ | refine Op1.val (V.conv hT rfl rfl rfl rfl (by omega) (by omega)) rfl rfl ?_))
        <;> (refine WO.cons ?_; (first | refine Op1.skip rfl rfl rfl ?_ | refine Op1.val (V.fieldAddr hT rfl rfl rfl rfl rfl rfl) rfl rfl ?_))
        <;> (refine WO.cons ?_; (first | refine Op1.skip rfl rfl rfl ?_ | refine Op1.val (V.load hT rfl rfl rfl rfl (by (repeat (first | assumption | refine Grow.get (by assumption) ?_))) rfl) rfl rfl ?_))
        <;> (refine WO.cons ?_; (first | refine Op1.skip rfl rfl rfl ?_ | refine Op1.val (V.len hT rfl rfl rfl rfl rfl rfl (by first | rfl | assumption)) rfl rfl ?_))
        <;> (refine WO.cons ?_; (first | refine Op1.skip rfl rfl rfl ?_ | (refine Op1.lss rfl rfl rfl rfl rfl rfl ?_ ?_ <;> intro _)))
        <;> (refine WO.cons ?_; (first | refine Op1.val (V.pick_true rfl rfl rfl) rfl rfl ?_ | refine Op1.val (V.pick_false rfl rfl rfl) rfl rfl ?_))
        <;> (refine WO.cons ?_; (refine Op1.val (V.move rfl rfl) rfl rfl ?_))
        <;> (refine WO.cons ?_; (first | refine Op1.skip rfl rfl rfl ?_ | refine Op1.val (V.fieldAddr hT rfl rfl rfl rfl rfl rfl) rfl rfl ?_))
        <;> (refine WO.cons ?_; (first | refine Op1.skip rfl rfl rfl ?_ | refine Op1.val (V.load hT rfl rfl rfl rfl (by (repeat (first | assumption | refine Grow.get (by assumption) ?_))) rfl) rfl rfl ?_))
        <;> (refine WO.cons ?_; (first | refine Op1.skip rfl rfl rfl ?_ | refine Op1.val (V.move rfl rfl) rfl rfl ?_))
        <;> (refine WO.cons ?_; (first | refine Op1.skip rfl rfl rfl ?_ | (refine Op1.indexI hT rfl rfl rfl rfl rfl rfl rfl (by assumption) (by (repeat (first | assumption | refine SliceAt.grow (by assumption) ?_))) (FlowD.param_row (by assumption) (by assumption)) ?_; intro kx ox rx kvx)))
        <;> (refine WO.cons ?_; (first | refine Op1.skip rfl rfl rfl ?_ | refine Op1.val (V.fieldAddr hT rfl rfl rfl rfl rfl rfl) rfl rfl ?_))
        <;> (refine WO.cons ?_; (first | refine Op1.skip rfl rfl rfl ?_ | (refine Op1.loadRB hT rfl rfl rfl (by assumption) rfl rfl rfl ?_ ?_ <;> (intro hbl; (first | (cases hbl; done) | skip)))))
        <;> (refine WO.cons ?_; (first | refine Op1.val (V.pick_true rfl rfl rfl) rfl rfl ?_ | refine Op1.val (V.pick_false rfl rfl rfl) rfl rfl ?_))
        <;> (refine WO.cons ?_; (refine Op1.val (V.assign rfl rfl) rfl rfl ?_))
        <;> (refine WO.nil (Then.intro rfl ?_))))
    | refine WC.ret ?_
    | refine To.ret_seq ?_
    | refine WC.cond_true rfl ?_
    | refine WC.cond_false rfl ?_
    | refine WC.skip ?_
    | refine To.fn_ret rfl ?_)
  all_goals (refine ⟨?_, by (repeat (first | assumption | exact Grow.refl _ | refine Grow.trans ?_ (by assumption))), by assumption⟩; first | (simp_all [resV, FlowD.arrayM, paramCells]; done) | (simp_all [resV, FlowD.arrayM, paramCells]; omega) | (simp_all [resV, FlowD.arrayM, paramCells]; intros; exfalso; omega) | (simp_all [resV, FlowD.arrayM, paramCells]; split <;> intros <;> first | omega | (exfalso; omega) | simp_all))
def FlowD.immM (f : FlowD) (u : UsesD) (n : Int) : Bool :=
  if u.imm then true
  else if u.param then decide (0 ≤ n ∧ n < (f.params.length : Int)) && !(f.param n).2.2
  else if u.array then f.arrayM n
  else if u.barrier then decide (0 ≤ n ∧ n ≤ 400)
  else decide (n = 0)
theorem imm_run (hK : KN base K) (f : FlowD) (u : UsesD) (x : InstrD) (h : Heap) (w : Wf h) (r : f.Ok h) (rx : x.Ok h) : Sp P K 43 [.agg f.cells, .agg u.cells, .agg x.cells] h (Gives h (.bool (f.immM u x.imm))) := by
  have hp := r.params
  have lp := r.lp
  have bp := r.plen
  have n1 := rx.lo
  have n2 := rx.hi
  refine Sp.of (m := 4432406250751) (n := 56) (hK.none 43 rfl rfl _ _) Tryz.func43 rfl rfl mask43 rfl rfl ?_
  repeat' (first
    | refine To.nrm_seq ?_
    | refine WC.seq ?_
    | (refine WC.region (id := 0) ?_; ((refine WO.cons ?_; ((refine Op1.made (M.box rfl rfl rfl) rfl rfl (by assumption) ?_; rintro kb hb ⟨gb, eb, fb, wb, leb, ltb, obb⟩)))
        <;> (refine WO.cons ?_; ((refine Op1.made (M.box rfl rfl rfl) rfl rfl (by assumption) ?_; rintro kb hb ⟨gb, eb, fb, wb, leb, ltb, obb⟩)))
        <;> (refine WO.cons ?_; ((refine Op1.made (M.box rfl rfl rfl) rfl rfl (by assumption) ?_; rintro kb hb ⟨gb, eb, fb, wb, leb, ltb, obb⟩)))
        <;> (refine WO.cons ?_; (refine Op1.val (V.assign rfl rfl) rfl rfl ?_))
        <;> (refine WO.nil (Then.intro rfl ?_))))
    | (refine WC.region (id := 1) ?_; ((refine WO.cons ?_; (refine Op1.val (V.fieldAddr hT rfl rfl rfl rfl rfl rfl) rfl rfl ?_))
        <;> (refine WO.cons ?_; ((refine Op1.loadB hT rfl rfl rfl (by (repeat (first | assumption | refine Grow.get (by assumption) ?_))) rfl rfl rfl ?_ ?_ <;> (intro hbl; (first | (cases hbl; done) | skip)))))
        <;> (refine WO.cons ?_; (refine Op1.val (V.assign rfl rfl) rfl rfl ?_))
        <;> (refine WO.nil (Then.intro rfl ?_))))
    | (refine WC.region (id := 2) ?_; ((refine WO.cons ?_; (refine Op1.val (V.assign rfl rfl) rfl rfl ?_))
        <;> (refine WO.nil (Then.intro rfl ?_))))
    | (refine WC.region (id := 3) ?_; ((refine WO.cons ?_; (refine Op1.val (V.fieldAddr hT rfl rfl rfl rfl rfl rfl) rfl rfl ?_))
        <;> (refine WO.cons ?_; ((refine Op1.loadB hT rfl rfl rfl (by (repeat (first | assumption | refine Grow.get (by assumption) ?_))) rfl rfl rfl ?_ ?_ <;> (intro hbl; (first | (cases hbl; done) | skip)))))
        <;> (refine WO.cons ?_; (refine Op1.val (V.assign rfl rfl) rfl rfl ?_))
        <;> (refine WO.nil (Then.intro rfl ?_))))
    | (refine WC.region (id := 4) ?_; ((refine WO.cons ?_; (refine Op1.val (V.fieldAddr hT rfl rfl rfl rfl rfl rfl) rfl rfl ?_))
        <;> (refine WO.cons ?_; (refine Op1.val (V.load hT rfl rfl rfl rfl (by (repeat (first | assumption | refine Grow.get (by assumption) ?_))) rfl) rfl rfl ?_))
        <;> (refine WO.cons ?_; ((refine Op1.geq rfl rfl rfl rfl rfl rfl ?_ ?_ <;> intro _)))
        <;> (refine WO.cons ?_; (refine Op1.val (V.move rfl rfl) rfl rfl ?_))
        <;> (refine WO.cons ?_; (first | refine Op1.skip rfl rfl rfl ?_ | refine Op1.val (V.fieldAddr hT rfl rfl rfl rfl rfl rfl) rfl rfl ?_))
        <;> (refine WO.cons ?_; (first | refine Op1.skip rfl rfl rfl ?_ | refine Op1.val (V.load hT rfl rfl rfl rfl (by (repeat (first | assumption | refine Grow.get (by assumption) ?_))) rfl) rfl rfl ?_))
        <;> (refine WO.cons ?_; (first | refine Op1.skip rfl rfl rfl ?_ | refine Op1.val (V.conv hT rfl rfl rfl rfl (by omega) (by omega)) rfl rfl ?_))
        <;> (refine WO.cons ?_; (first | refine Op1.skip rfl rfl rfl ?_ | refine Op1.val (V.fieldAddr hT rfl rfl rfl rfl rfl rfl) rfl rfl ?_))
        <;> (refine WO.cons ?_; (first | refine Op1.skip rfl rfl rfl ?_ | refine Op1.val (V.load hT rfl rfl rfl rfl (by (repeat (first | assumption | refine Grow.get (by assumption) ?_))) rfl) rfl rfl ?_))
        <;> (refine WO.cons ?_; (first | refine Op1.skip rfl rfl rfl ?_ | refine Op1.val (V.len hT rfl rfl rfl rfl rfl rfl (by first | rfl | assumption)) rfl rfl ?_))
        <;> (refine WO.cons ?_; (first | refine Op1.skip rfl rfl rfl ?_ | (refine Op1.lss rfl rfl rfl rfl rfl rfl ?_ ?_ <;> intro _)))
        <;> (refine WO.cons ?_; (first | refine Op1.val (V.pick_true rfl rfl rfl) rfl rfl ?_ | refine Op1.val (V.pick_false rfl rfl rfl) rfl rfl ?_))
        <;> (refine WO.cons ?_; (refine Op1.val (V.move rfl rfl) rfl rfl ?_))
        <;> (refine WO.cons ?_; (first | refine Op1.skip rfl rfl rfl ?_ | refine Op1.val (V.fieldAddr hT rfl rfl rfl rfl rfl rfl) rfl rfl ?_))
        <;> (refine WO.cons ?_; (first | refine Op1.skip rfl rfl rfl ?_ | refine Op1.val (V.load hT rfl rfl rfl rfl (by (repeat (first | assumption | refine Grow.get (by assumption) ?_))) rfl) rfl rfl ?_))
        <;> (refine WO.cons ?_; (first | refine Op1.skip rfl rfl rfl ?_ | refine Op1.val (V.fieldAddr hT rfl rfl rfl rfl rfl rfl) rfl rfl ?_))
        <;> (refine WO.cons ?_; (first | refine Op1.skip rfl rfl rfl ?_ | refine Op1.val (V.load hT rfl rfl rfl rfl (by (repeat (first | assumption | refine Grow.get (by assumption) ?_))) rfl) rfl rfl ?_))
        <;> (refine WO.cons ?_; (first | refine Op1.skip rfl rfl rfl ?_ | (refine Op1.indexI hT rfl rfl rfl rfl rfl rfl rfl (by assumption) (by (repeat (first | assumption | refine SliceAt.grow (by assumption) ?_))) (FlowD.param_row (by assumption) (by assumption)) ?_; intro kx ox rx kvx)))
        <;> (refine WO.cons ?_; (first | refine Op1.skip rfl rfl rfl ?_ | refine Op1.val (V.fieldAddr hT rfl rfl rfl rfl rfl rfl) rfl rfl ?_))
        <;> (refine WO.cons ?_; (first | refine Op1.skip rfl rfl rfl ?_ | (refine Op1.loadRB hT rfl rfl rfl (by assumption) rfl rfl rfl ?_ ?_ <;> (intro hbl; (first | (cases hbl; done) | skip)))))
        <;> (refine WO.cons ?_; (first | refine Op1.skip rfl rfl rfl ?_ | refine Op1.val (V.not_true rfl rfl) rfl rfl ?_ | refine Op1.val (V.not_false rfl rfl) rfl rfl ?_))
        <;> (refine WO.cons ?_; (first | refine Op1.val (V.pick_true rfl rfl rfl) rfl rfl ?_ | refine Op1.val (V.pick_false rfl rfl rfl) rfl rfl ?_))
        <;> (refine WO.cons ?_; (refine Op1.val (V.assign rfl rfl) rfl rfl ?_))
        <;> (refine WO.nil (Then.intro rfl ?_))))
    | (refine WC.region (id := 5) ?_; ((refine WO.cons ?_; (refine Op1.val (V.fieldAddr hT rfl rfl rfl rfl rfl rfl) rfl rfl ?_))
        <;> (refine WO.cons ?_; ((refine Op1.loadB hT rfl rfl rfl (by (repeat (first | assumption | refine Grow.get (by assumption) ?_))) rfl rfl rfl ?_ ?_ <;> (intro hbl; (first | (cases hbl; done) | skip)))))
        <;> (refine WO.cons ?_; (refine Op1.val (V.assign rfl rfl) rfl rfl ?_))
        <;> (refine WO.nil (Then.intro rfl ?_))))
    | (refine WC.region (id := 6) ?_; ((refine WO.cons ?_; (refine Op1.val (V.loadS hT rfl rfl rfl rfl (by (repeat (first | assumption | refine Grow.get (by assumption) ?_))) rfl) rfl rfl ?_))
        <;> (refine WO.cons ?_; (refine Op1.val (V.fieldAddr hT rfl rfl rfl rfl rfl rfl) rfl rfl ?_))
        <;> (refine WO.cons ?_; (refine Op1.val (V.load hT rfl rfl rfl rfl (by (repeat (first | assumption | refine Grow.get (by assumption) ?_))) rfl) rfl rfl ?_))
        <;> (refine WO.cons ?_; ((refine Op1.sp (C.call rfl rfl rfl rfl ca74) rfl rfl (array_run hK f x.imm n1 n2 _ (by assumption) (by (repeat (first | assumption | refine FlowD.Ok.grow (by assumption) ?_)))) ?_; rintro _ _ ⟨rfl, _, _⟩)))
        <;> (refine WO.cons ?_; (refine Op1.val (V.assign rfl rfl) rfl rfl ?_))
        <;> (refine WO.nil (Then.intro rfl ?_))))
    | (refine WC.region (id := 7) ?_; ((refine WO.cons ?_; (refine Op1.val (V.fieldAddr hT rfl rfl rfl rfl rfl rfl) rfl rfl ?_))
        <;> (refine WO.cons ?_; ((refine Op1.loadB hT rfl rfl rfl (by (repeat (first | assumption | refine Grow.get (by assumption) ?_))) rfl rfl rfl ?_ ?_ <;> (intro hbl; (first | (cases hbl; done) | skip)))))
        <;> (refine WO.cons ?_; (refine Op1.val (V.assign rfl rfl) rfl rfl ?_))
        <;> (refine WO.nil (Then.intro rfl ?_))))
    | (refine WC.region (id := 8) ?_; ((refine WO.cons ?_; (refine Op1.val (V.fieldAddr hT rfl rfl rfl rfl rfl rfl) rfl rfl ?_))
        <;> (refine WO.cons ?_; (refine Op1.val (V.load hT rfl rfl rfl rfl (by (repeat (first | assumption | refine Grow.get (by assumption) ?_))) rfl) rfl rfl ?_))
        <;> (refine WO.cons ?_; ((refine Op1.geq rfl rfl rfl rfl rfl rfl ?_ ?_ <;> intro _)))
        <;> (refine WO.cons ?_; (refine Op1.val (V.move rfl rfl) rfl rfl ?_))
        <;> (refine WO.cons ?_; (first | refine Op1.skip rfl rfl rfl ?_ | refine Op1.val (V.fieldAddr hT rfl rfl rfl rfl rfl rfl) rfl rfl ?_))
        <;> (refine WO.cons ?_; (first | refine Op1.skip rfl rfl rfl ?_ | refine Op1.val (V.load hT rfl rfl rfl rfl (by (repeat (first | assumption | refine Grow.get (by assumption) ?_))) rfl) rfl rfl ?_))
        <;> (refine WO.cons ?_; (first | refine Op1.skip rfl rfl rfl ?_ | (refine Op1.leq rfl rfl rfl rfl rfl rfl ?_ ?_ <;> intro _)))
        <;> (refine WO.cons ?_; (first | refine Op1.val (V.pick_true rfl rfl rfl) rfl rfl ?_ | refine Op1.val (V.pick_false rfl rfl rfl) rfl rfl ?_))
        <;> (refine WO.cons ?_; (refine Op1.val (V.assign rfl rfl) rfl rfl ?_))
        <;> (refine WO.nil (Then.intro rfl ?_))))
    | (refine WC.region (id := 9) ?_; ((refine WO.cons ?_; (refine Op1.val (V.fieldAddr hT rfl rfl rfl rfl rfl rfl) rfl rfl ?_))
        <;> (refine WO.cons ?_; (refine Op1.val (V.load hT rfl rfl rfl rfl (by (repeat (first | assumption | refine Grow.get (by assumption) ?_))) rfl) rfl rfl ?_))
        <;> (refine WO.cons ?_; ((refine Op1.eql rfl rfl rfl rfl rfl rfl ?_ ?_ <;> intro _)))
        <;> (refine WO.cons ?_; (refine Op1.val (V.assign rfl rfl) rfl rfl ?_))
        <;> (refine WO.nil (Then.intro rfl ?_))))
    | refine WC.ret ?_
    | refine To.ret_seq ?_
    | refine To.ret_block ?_
    | refine WC.cond_true rfl ?_
    | refine WC.cond_false rfl ?_
    | refine WC.skip ?_
    | refine WC.block ?_
    | refine To.nrm_block ?_
    | refine To.fn_ret rfl ?_)
  all_goals (refine ⟨?_, by (repeat (first | assumption | exact Grow.refl _ | refine Grow.trans ?_ (by assumption))), by assumption⟩; first | (simp_all [resV, FlowD.immM, paramCells]; done) | (simp_all [resV, FlowD.immM, paramCells]; omega) | (simp_all [resV, FlowD.immM, paramCells]; intros; exfalso; omega) | (simp_all [resV, FlowD.immM, paramCells]; split <;> intros <;> first | omega | (exfalso; omega) | simp_all))
def FlowD.wordM (f : FlowD) (what n : Int) : Bool :=
  if what = 0 then decide (0 ≤ n ∧ n < (f.params.length : Int)) && !(f.param n).2.2
  else if what = 1 then decide (0 ≤ n ∧ n < (f.params.length : Int)) && (f.param n).2.2 || decide (6 ≤ n ∧ n < 6 + (f.shared.length : Int))
  else if what = 2 then decide (0 ≤ n ∧ n ≤ 400)
  else if what = 3 then true
  else decide (n = 0)
theorem word_run (hK : KN base K) (f : FlowD) (what n : Int) (n1 : -2147483648 ≤ n) (n2 : n ≤ 2147483647) (h : Heap) (w : Wf h) (r : f.Ok h) : Sp P K 51 [.int .i64 what, .int .i32 n, f.pv, f.sv] h (Gives h (.bool (f.wordM what n))) := by
  have hp := r.params
  have lp := r.lp
  have ls := r.ls
  have bp := r.plen
  have bs := r.slen
  refine Sp.of (m := 148150413342516709135) (n := 71) (hK.none 51 rfl rfl _ _) Tryz.func51 rfl rfl mask51 rfl rfl ?_
  repeat' (first
    | refine To.nrm_seq ?_
    | refine WC.seq ?_
    | (refine WC.region (id := 0) ?_; ((refine WO.cons ?_; (refine Op1.val (V.assign rfl rfl) rfl rfl ?_))
        <;> (refine WO.nil (Then.intro rfl ?_))))
    | (refine WC.region (id := 1) ?_; ((refine WO.cons ?_; (refine Op1.val (V.move rfl rfl) rfl rfl ?_))
        <;> (refine WO.nil (Then.intro rfl ?_))))
    | (refine WC.region (id := 2) ?_; ((refine WO.cons ?_; ((refine Op1.eql rfl rfl rfl rfl rfl rfl ?_ ?_ <;> intro _)))
        <;> (refine WO.cons ?_; (refine Op1.val (V.assign rfl rfl) rfl rfl ?_))
        <;> (refine WO.nil (Then.intro rfl ?_))))
    | (refine WC.region (id := 3) ?_; ((refine WO.cons ?_; (refine Op1.val (V.move rfl rfl) rfl rfl ?_))
        <;> (refine WO.cons ?_; ((refine Op1.geq rfl rfl rfl rfl rfl rfl ?_ ?_ <;> intro _)))
        <;> (refine WO.cons ?_; (refine Op1.val (V.move rfl rfl) rfl rfl ?_))
        <;> (refine WO.cons ?_; (first | refine Op1.skip rfl rfl rfl ?_ | refine Op1.val (V.move rfl rfl) rfl rfl ?_))
        <;> (refine WO.cons ?_; (first | refine Op1.skip rfl rfl rfl ?_ | refine Op1.val (V.conv hT rfl rfl rfl rfl (by omega) (by omega)) rfl rfl ?_))
        <;> (refine WO.cons ?_; (first | refine Op1.skip rfl rfl rfl ?_ | refine Op1.val (V.move rfl rfl) rfl rfl ?_))
        <;> (refine WO.cons ?_; (first | refine Op1.skip rfl rfl rfl ?_ | refine Op1.val (V.len hT rfl rfl rfl rfl rfl rfl (by first | rfl | assumption)) rfl rfl ?_))
        <;> (refine WO.cons ?_; (first | refine Op1.skip rfl rfl rfl ?_ | (refine Op1.lss rfl rfl rfl rfl rfl rfl ?_ ?_ <;> intro _)))
        <;> (refine WO.cons ?_; (first | refine Op1.val (V.pick_true rfl rfl rfl) rfl rfl ?_ | refine Op1.val (V.pick_false rfl rfl rfl) rfl rfl ?_))
        <;> (refine WO.cons ?_; (refine Op1.val (V.move rfl rfl) rfl rfl ?_))
        <;> (refine WO.cons ?_; (first | refine Op1.skip rfl rfl rfl ?_ | refine Op1.val (V.move rfl rfl) rfl rfl ?_))
        <;> (refine WO.cons ?_; (first | refine Op1.skip rfl rfl rfl ?_ | refine Op1.val (V.move rfl rfl) rfl rfl ?_))
        <;> (refine WO.cons ?_; (first | refine Op1.skip rfl rfl rfl ?_ | (refine Op1.indexI hT rfl rfl rfl rfl rfl rfl rfl (by assumption) (by (repeat (first | assumption | refine SliceAt.grow (by assumption) ?_))) (FlowD.param_row (by assumption) (by assumption)) ?_; intro kx ox rx kvx)))
        <;> (refine WO.cons ?_; (first | refine Op1.skip rfl rfl rfl ?_ | refine Op1.val (V.fieldAddr hT rfl rfl rfl rfl rfl rfl) rfl rfl ?_))
        <;> (refine WO.cons ?_; (first | refine Op1.skip rfl rfl rfl ?_ | (refine Op1.loadRB hT rfl rfl rfl (by assumption) rfl rfl rfl ?_ ?_ <;> (intro hbl; (first | (cases hbl; done) | skip)))))
        <;> (refine WO.cons ?_; (first | refine Op1.skip rfl rfl rfl ?_ | refine Op1.val (V.not_true rfl rfl) rfl rfl ?_ | refine Op1.val (V.not_false rfl rfl) rfl rfl ?_))
        <;> (refine WO.cons ?_; (first | refine Op1.val (V.pick_true rfl rfl rfl) rfl rfl ?_ | refine Op1.val (V.pick_false rfl rfl rfl) rfl rfl ?_))
        <;> (refine WO.cons ?_; (refine Op1.val (V.assign rfl rfl) rfl rfl ?_))
        <;> (refine WO.nil (Then.intro rfl ?_))))
    | (refine WC.region (id := 4) ?_; ((refine WO.cons ?_; ((refine Op1.eql rfl rfl rfl rfl rfl rfl ?_ ?_ <;> intro _)))
        <;> (refine WO.cons ?_; (refine Op1.val (V.assign rfl rfl) rfl rfl ?_))
        <;> (refine WO.nil (Then.intro rfl ?_))))
    | (refine WC.region (id := 5) ?_; ((refine WO.cons ?_; (refine Op1.val (V.move rfl rfl) rfl rfl ?_))
        <;> (refine WO.cons ?_; ((refine Op1.geq rfl rfl rfl rfl rfl rfl ?_ ?_ <;> intro _)))
        <;> (refine WO.cons ?_; (refine Op1.val (V.move rfl rfl) rfl rfl ?_))
        <;> (refine WO.cons ?_; (first | refine Op1.skip rfl rfl rfl ?_ | refine Op1.val (V.move rfl rfl) rfl rfl ?_))
        <;> (refine WO.cons ?_; (first | refine Op1.skip rfl rfl rfl ?_ | refine Op1.val (V.conv hT rfl rfl rfl rfl (by omega) (by omega)) rfl rfl ?_))
        <;> (refine WO.cons ?_; (first | refine Op1.skip rfl rfl rfl ?_ | refine Op1.val (V.move rfl rfl) rfl rfl ?_))
        <;> (refine WO.cons ?_; (first | refine Op1.skip rfl rfl rfl ?_ | refine Op1.val (V.len hT rfl rfl rfl rfl rfl rfl (by first | rfl | assumption)) rfl rfl ?_))
        <;> (refine WO.cons ?_; (first | refine Op1.skip rfl rfl rfl ?_ | (refine Op1.lss rfl rfl rfl rfl rfl rfl ?_ ?_ <;> intro _)))
        <;> (refine WO.cons ?_; (first | refine Op1.val (V.pick_true rfl rfl rfl) rfl rfl ?_ | refine Op1.val (V.pick_false rfl rfl rfl) rfl rfl ?_))
        <;> (refine WO.cons ?_; (refine Op1.val (V.move rfl rfl) rfl rfl ?_))
        <;> (refine WO.cons ?_; (first | refine Op1.skip rfl rfl rfl ?_ | refine Op1.val (V.move rfl rfl) rfl rfl ?_))
        <;> (refine WO.cons ?_; (first | refine Op1.skip rfl rfl rfl ?_ | refine Op1.val (V.move rfl rfl) rfl rfl ?_))
        <;> (refine WO.cons ?_; (first | refine Op1.skip rfl rfl rfl ?_ | (refine Op1.indexI hT rfl rfl rfl rfl rfl rfl rfl (by assumption) (by (repeat (first | assumption | refine SliceAt.grow (by assumption) ?_))) (FlowD.param_row (by assumption) (by assumption)) ?_; intro kx ox rx kvx)))
        <;> (refine WO.cons ?_; (first | refine Op1.skip rfl rfl rfl ?_ | refine Op1.val (V.fieldAddr hT rfl rfl rfl rfl rfl rfl) rfl rfl ?_))
        <;> (refine WO.cons ?_; (first | refine Op1.skip rfl rfl rfl ?_ | (refine Op1.loadRB hT rfl rfl rfl (by assumption) rfl rfl rfl ?_ ?_ <;> (intro hbl; (first | (cases hbl; done) | skip)))))
        <;> (refine WO.cons ?_; (first | refine Op1.val (V.pick_true rfl rfl rfl) rfl rfl ?_ | refine Op1.val (V.pick_false rfl rfl rfl) rfl rfl ?_))
        <;> (refine WO.cons ?_; (refine Op1.val (V.move rfl rfl) rfl rfl ?_))
        <;> (refine WO.cons ?_; (first | refine Op1.skip rfl rfl rfl ?_ | refine Op1.val (V.move rfl rfl) rfl rfl ?_))
        <;> (refine WO.cons ?_; (first | refine Op1.skip rfl rfl rfl ?_ | (refine Op1.geq rfl rfl rfl rfl rfl rfl ?_ ?_ <;> intro _)))
        <;> (refine WO.cons ?_; (first | refine Op1.skip rfl rfl rfl ?_ | refine Op1.val (V.move rfl rfl) rfl rfl ?_))
        <;> (refine WO.cons ?_; (first | refine Op1.skip rfl rfl rfl ?_ | refine Op1.val (V.move rfl rfl) rfl rfl ?_))
        <;> (refine WO.cons ?_; (first | refine Op1.skip rfl rfl rfl ?_ | refine Op1.val (V.conv hT rfl rfl rfl rfl (by omega) (by omega)) rfl rfl ?_))
        <;> (refine WO.cons ?_; (first | refine Op1.skip rfl rfl rfl ?_ | refine Op1.val (V.move rfl rfl) rfl rfl ?_))
        <;> (refine WO.cons ?_; (first | refine Op1.skip rfl rfl rfl ?_ | refine Op1.val (V.len hT rfl rfl rfl rfl rfl rfl (by first | rfl | assumption)) rfl rfl ?_))
        <;> (refine WO.cons ?_; (first | refine Op1.skip rfl rfl rfl ?_ | refine Op1.val (V.add rfl rfl rfl rfl (wrapF_i64 (by first | omega | (simp only [Int.ofNat_eq_natCast]; omega)) (by first | omega | (simp only [Int.ofNat_eq_natCast]; omega)))) rfl rfl ?_))
        <;> (refine WO.cons ?_; (first | refine Op1.skip rfl rfl rfl ?_ | (refine Op1.lss rfl rfl rfl rfl rfl rfl ?_ ?_ <;> intro _)))
        <;> (refine WO.cons ?_; (first | refine Op1.skip rfl rfl rfl ?_ | refine Op1.val (V.pick_true rfl rfl rfl) rfl rfl ?_ | refine Op1.val (V.pick_false rfl rfl rfl) rfl rfl ?_))
        <;> (refine WO.cons ?_; (first | refine Op1.val (V.pick_true rfl rfl rfl) rfl rfl ?_ | refine Op1.val (V.pick_false rfl rfl rfl) rfl rfl ?_))
        <;> (refine WO.cons ?_; (refine Op1.val (V.assign rfl rfl) rfl rfl ?_))
        <;> (refine WO.nil (Then.intro rfl ?_))))
    | (refine WC.region (id := 6) ?_; ((refine WO.cons ?_; ((refine Op1.eql rfl rfl rfl rfl rfl rfl ?_ ?_ <;> intro _)))
        <;> (refine WO.cons ?_; (refine Op1.val (V.assign rfl rfl) rfl rfl ?_))
        <;> (refine WO.nil (Then.intro rfl ?_))))
    | (refine WC.region (id := 7) ?_; ((refine WO.cons ?_; (refine Op1.val (V.move rfl rfl) rfl rfl ?_))
        <;> (refine WO.cons ?_; ((refine Op1.geq rfl rfl rfl rfl rfl rfl ?_ ?_ <;> intro _)))
        <;> (refine WO.cons ?_; (refine Op1.val (V.move rfl rfl) rfl rfl ?_))
        <;> (refine WO.cons ?_; (first | refine Op1.skip rfl rfl rfl ?_ | refine Op1.val (V.move rfl rfl) rfl rfl ?_))
        <;> (refine WO.cons ?_; (first | refine Op1.skip rfl rfl rfl ?_ | (refine Op1.leq rfl rfl rfl rfl rfl rfl ?_ ?_ <;> intro _)))
        <;> (refine WO.cons ?_; (first | refine Op1.val (V.pick_true rfl rfl rfl) rfl rfl ?_ | refine Op1.val (V.pick_false rfl rfl rfl) rfl rfl ?_))
        <;> (refine WO.cons ?_; (refine Op1.val (V.assign rfl rfl) rfl rfl ?_))
        <;> (refine WO.nil (Then.intro rfl ?_))))
    | (refine WC.region (id := 8) ?_; ((refine WO.cons ?_; ((refine Op1.eql rfl rfl rfl rfl rfl rfl ?_ ?_ <;> intro _)))
        <;> (refine WO.cons ?_; (refine Op1.val (V.assign rfl rfl) rfl rfl ?_))
        <;> (refine WO.nil (Then.intro rfl ?_))))
    | (refine WC.region (id := 9) ?_; ((refine WO.cons ?_; (refine Op1.val (V.assign rfl rfl) rfl rfl ?_))
        <;> (refine WO.nil (Then.intro rfl ?_))))
    | (refine WC.region (id := 10) ?_; ((refine WO.cons ?_; (refine Op1.val (V.move rfl rfl) rfl rfl ?_))
        <;> (refine WO.cons ?_; ((refine Op1.eql rfl rfl rfl rfl rfl rfl ?_ ?_ <;> intro _)))
        <;> (refine WO.cons ?_; (refine Op1.val (V.assign rfl rfl) rfl rfl ?_))
        <;> (refine WO.nil (Then.intro rfl ?_))))
    | refine WC.ret ?_
    | refine To.ret_seq ?_
    | refine To.ret_block ?_
    | refine WC.cond_true rfl ?_
    | refine WC.cond_false rfl ?_
    | refine WC.skip ?_
    | refine WC.block ?_
    | refine To.nrm_block ?_
    | refine To.fn_ret rfl ?_)
  all_goals (refine ⟨?_, by (repeat (first | assumption | exact Grow.refl _ | refine Grow.trans ?_ (by assumption))), by assumption⟩; first | (simp_all [resV, FlowD.wordM, paramCells]; done) | (simp_all [resV, FlowD.wordM, paramCells]; omega) | (simp_all [resV, FlowD.wordM, paramCells]; intros; exfalso; omega) | (simp_all [resV, FlowD.wordM, paramCells]; split <;> intros <;> first | omega | (exfalso; omega) | simp_all))
end Fv
end Go.HL
