/- The walk of FlowValid: functions of numbers. No statement of the seat stands here. -/
import Derived.Test.YtfmflhdogffjoaaGreatDoorFvT
namespace Go.HL
open Go Go.Proofs
namespace Fv
set_option maxRecDepth 10000
variable {K : CallFn} {base : List (Nat × HObj)}
def letterM (c : Int) : Bool := decide (97 ≤ c ∧ c ≤ 122 ∨ 65 ≤ c ∧ c ≤ 90)
def digitM (c : Int) : Bool := decide (48 ≤ c ∧ c ≤ 57)
def innerM (c : Int) : Bool := letterM c || digitM c || decide (c = 95)
theorem letter_run (hK : KN base K) (c : Int) (h : Heap) (w : Wf h) : Sp P K 71 [.int .u8 c] h (Gives h (.bool (letterM c))) := by
  refine Sp.of (m := 5) (n := 17) (hK.none 71 rfl rfl _ _) Tryz.func71 rfl rfl mask71 rfl rfl ?_
  repeat' (first
    | refine To.nrm_seq ?_
    | refine WC.seq ?_
    | (refine WC.region (id := 0) ?_; ((refine WO.cons ?_; (refine Op1.val (V.assign rfl rfl) rfl rfl ?_))
        <;> (refine WO.nil (Then.intro rfl ?_))))
    | (refine WC.region (id := 1) ?_; ((refine WO.cons ?_; (refine Op1.val (V.move rfl rfl) rfl rfl ?_))
        <;> (refine WO.cons ?_; ((refine Op1.geq rfl rfl rfl rfl rfl rfl ?_ ?_ <;> intro _)))
        <;> (refine WO.cons ?_; (refine Op1.val (V.move rfl rfl) rfl rfl ?_))
        <;> (refine WO.cons ?_; (first | refine Op1.skip rfl rfl rfl ?_ | refine Op1.val (V.move rfl rfl) rfl rfl ?_))
        <;> (refine WO.cons ?_; (first | refine Op1.skip rfl rfl rfl ?_ | (refine Op1.leq rfl rfl rfl rfl rfl rfl ?_ ?_ <;> intro _)))
        <;> (refine WO.cons ?_; (first | refine Op1.val (V.pick_true rfl rfl rfl) rfl rfl ?_ | refine Op1.val (V.pick_false rfl rfl rfl) rfl rfl ?_))
        <;> (refine WO.cons ?_; (refine Op1.val (V.move rfl rfl) rfl rfl ?_))
        <;> (refine WO.cons ?_; (first | refine Op1.skip rfl rfl rfl ?_ | refine Op1.val (V.move rfl rfl) rfl rfl ?_))
        <;> (refine WO.cons ?_; (first | refine Op1.skip rfl rfl rfl ?_ | (refine Op1.geq rfl rfl rfl rfl rfl rfl ?_ ?_ <;> intro _)))
        <;> (refine WO.cons ?_; (first | refine Op1.skip rfl rfl rfl ?_ | refine Op1.val (V.move rfl rfl) rfl rfl ?_))
        <;> (refine WO.cons ?_; (first | refine Op1.skip rfl rfl rfl ?_ | refine Op1.val (V.move rfl rfl) rfl rfl ?_))
        <;> (refine WO.cons ?_; (first | refine Op1.skip rfl rfl rfl ?_ | (refine Op1.leq rfl rfl rfl rfl rfl rfl ?_ ?_ <;> intro _)))
        <;> (refine WO.cons ?_; (first | refine Op1.skip rfl rfl rfl ?_ | refine Op1.val (V.pick_true rfl rfl rfl) rfl rfl ?_ | refine Op1.val (V.pick_false rfl rfl rfl) rfl rfl ?_))
        <;> (refine WO.cons ?_; (first | refine Op1.val (V.pick_true rfl rfl rfl) rfl rfl ?_ | refine Op1.val (V.pick_false rfl rfl rfl) rfl rfl ?_))
        <;> (refine WO.cons ?_; (refine Op1.val (V.assign rfl rfl) rfl rfl ?_))
        <;> (refine WO.nil (Then.intro rfl ?_))))
    | refine WC.ret ?_
    | refine To.fn_ret rfl ?_)
  all_goals (refine ⟨?_, by (repeat (first | assumption | exact Grow.refl _ | refine Grow.trans ?_ (by assumption))), by assumption⟩; first | (simp_all [resV, letterM]; done) | (simp_all [resV, letterM]; omega) | (simp_all [resV, letterM]; intros; exfalso; omega) | (simp_all [resV, letterM]; split <;> intros <;> first | omega | (exfalso; omega) | simp_all))
theorem digit_run (hK : KN base K) (c : Int) (h : Heap) (w : Wf h) : Sp P K 104 [.int .u8 c] h (Gives h (.bool (digitM c))) := by
  refine Sp.of (m := 5) (n := 9) (hK.none 104 rfl rfl _ _) Tryz.func104 rfl rfl mask104 rfl rfl ?_
  repeat' (first
    | refine To.nrm_seq ?_
    | refine WC.seq ?_
    | (refine WC.region (id := 0) ?_; ((refine WO.cons ?_; (refine Op1.val (V.assign rfl rfl) rfl rfl ?_))
        <;> (refine WO.nil (Then.intro rfl ?_))))
    | (refine WC.region (id := 1) ?_; ((refine WO.cons ?_; (refine Op1.val (V.move rfl rfl) rfl rfl ?_))
        <;> (refine WO.cons ?_; ((refine Op1.geq rfl rfl rfl rfl rfl rfl ?_ ?_ <;> intro _)))
        <;> (refine WO.cons ?_; (refine Op1.val (V.move rfl rfl) rfl rfl ?_))
        <;> (refine WO.cons ?_; (first | refine Op1.skip rfl rfl rfl ?_ | refine Op1.val (V.move rfl rfl) rfl rfl ?_))
        <;> (refine WO.cons ?_; (first | refine Op1.skip rfl rfl rfl ?_ | (refine Op1.leq rfl rfl rfl rfl rfl rfl ?_ ?_ <;> intro _)))
        <;> (refine WO.cons ?_; (first | refine Op1.val (V.pick_true rfl rfl rfl) rfl rfl ?_ | refine Op1.val (V.pick_false rfl rfl rfl) rfl rfl ?_))
        <;> (refine WO.cons ?_; (refine Op1.val (V.assign rfl rfl) rfl rfl ?_))
        <;> (refine WO.nil (Then.intro rfl ?_))))
    | refine WC.ret ?_
    | refine To.fn_ret rfl ?_)
  all_goals (refine ⟨?_, by (repeat (first | assumption | exact Grow.refl _ | refine Grow.trans ?_ (by assumption))), by assumption⟩; first | (simp_all [resV, digitM]; done) | (simp_all [resV, digitM]; omega) | (simp_all [resV, digitM]; intros; exfalso; omega) | (simp_all [resV, digitM]; split <;> intros <;> first | omega | (exfalso; omega) | simp_all))
theorem inner_run (hK : KN base K) (c : Int) (h : Heap) (w : Wf h) : Sp P K 73 [.int .u8 c] h (Gives h (.bool (innerM c))) := by
  refine Sp.of (m := 5) (n := 13) (hK.none 73 rfl rfl _ _) Tryz.func73 rfl rfl mask73 rfl rfl ?_
  repeat' (first
    | refine To.nrm_seq ?_
    | refine WC.seq ?_
    | (refine WC.region (id := 0) ?_; ((refine WO.cons ?_; (refine Op1.val (V.assign rfl rfl) rfl rfl ?_))
        <;> (refine WO.nil (Then.intro rfl ?_))))
    | (refine WC.region (id := 1) ?_; ((refine WO.cons ?_; (refine Op1.val (V.move rfl rfl) rfl rfl ?_))
        <;> (refine WO.cons ?_; ((refine Op1.spB (C.call rfl rfl rfl rfl ca71) rfl rfl (letter_run hK _ _ (by assumption)) ?_ ?_ <;> (rintro _ ⟨_, _⟩ _))))
        <;> (refine WO.cons ?_; (refine Op1.val (V.move rfl rfl) rfl rfl ?_))
        <;> (refine WO.cons ?_; (first | refine Op1.skip rfl rfl rfl ?_ | refine Op1.val (V.move rfl rfl) rfl rfl ?_))
        <;> (refine WO.cons ?_; (first | refine Op1.skip rfl rfl rfl ?_ | (refine Op1.spB (C.call rfl rfl rfl rfl ca104) rfl rfl (digit_run hK _ _ (by assumption)) ?_ ?_ <;> (rintro _ ⟨_, _⟩ _))))
        <;> (refine WO.cons ?_; (first | refine Op1.val (V.pick_true rfl rfl rfl) rfl rfl ?_ | refine Op1.val (V.pick_false rfl rfl rfl) rfl rfl ?_))
        <;> (refine WO.cons ?_; (refine Op1.val (V.move rfl rfl) rfl rfl ?_))
        <;> (refine WO.cons ?_; (first | refine Op1.skip rfl rfl rfl ?_ | refine Op1.val (V.move rfl rfl) rfl rfl ?_))
        <;> (refine WO.cons ?_; (first | refine Op1.skip rfl rfl rfl ?_ | (refine Op1.eql rfl rfl rfl rfl rfl rfl ?_ ?_ <;> intro _)))
        <;> (refine WO.cons ?_; (first | refine Op1.val (V.pick_true rfl rfl rfl) rfl rfl ?_ | refine Op1.val (V.pick_false rfl rfl rfl) rfl rfl ?_))
        <;> (refine WO.cons ?_; (refine Op1.val (V.assign rfl rfl) rfl rfl ?_))
        <;> (refine WO.nil (Then.intro rfl ?_))))
    | refine WC.ret ?_
    | refine To.fn_ret rfl ?_)
  all_goals (refine ⟨?_, by (repeat (first | assumption | exact Grow.refl _ | refine Grow.trans ?_ (by assumption))), by assumption⟩; first | (simp_all [resV, innerM]; done) | (simp_all [resV, innerM]; omega) | (simp_all [resV, innerM]; intros; exfalso; omega) | (simp_all [resV, innerM]; split <;> intros <;> first | omega | (exfalso; omega) | simp_all))
theorem letter2_run (hK : KN base K) (c : Int) (h : Heap) (w : Wf h) : Sp P K 140 [.int .u8 c] h (Gives h (.bool (letterM c))) := by
  refine Sp.of (m := 5) (n := 17) (hK.none 140 rfl rfl _ _) Tryz.func140 rfl rfl mask140 rfl rfl ?_
  repeat' (first
    | refine To.nrm_seq ?_
    | refine WC.seq ?_
    | (refine WC.region (id := 0) ?_; ((refine WO.cons ?_; (refine Op1.val (V.assign rfl rfl) rfl rfl ?_))
        <;> (refine WO.nil (Then.intro rfl ?_))))
    | (refine WC.region (id := 1) ?_; ((refine WO.cons ?_; (refine Op1.val (V.move rfl rfl) rfl rfl ?_))
        <;> (refine WO.cons ?_; ((refine Op1.geq rfl rfl rfl rfl rfl rfl ?_ ?_ <;> intro _)))
        <;> (refine WO.cons ?_; (refine Op1.val (V.move rfl rfl) rfl rfl ?_))
        <;> (refine WO.cons ?_; (first | refine Op1.skip rfl rfl rfl ?_ | refine Op1.val (V.move rfl rfl) rfl rfl ?_))
        <;> (refine WO.cons ?_; (first | refine Op1.skip rfl rfl rfl ?_ | (refine Op1.leq rfl rfl rfl rfl rfl rfl ?_ ?_ <;> intro _)))
        <;> (refine WO.cons ?_; (first | refine Op1.val (V.pick_true rfl rfl rfl) rfl rfl ?_ | refine Op1.val (V.pick_false rfl rfl rfl) rfl rfl ?_))
        <;> (refine WO.cons ?_; (refine Op1.val (V.move rfl rfl) rfl rfl ?_))
        <;> (refine WO.cons ?_; (first | refine Op1.skip rfl rfl rfl ?_ | refine Op1.val (V.move rfl rfl) rfl rfl ?_))
        <;> (refine WO.cons ?_; (first | refine Op1.skip rfl rfl rfl ?_ | (refine Op1.geq rfl rfl rfl rfl rfl rfl ?_ ?_ <;> intro _)))
        <;> (refine WO.cons ?_; (first | refine Op1.skip rfl rfl rfl ?_ | refine Op1.val (V.move rfl rfl) rfl rfl ?_))
        <;> (refine WO.cons ?_; (first | refine Op1.skip rfl rfl rfl ?_ | refine Op1.val (V.move rfl rfl) rfl rfl ?_))
        <;> (refine WO.cons ?_; (first | refine Op1.skip rfl rfl rfl ?_ | (refine Op1.leq rfl rfl rfl rfl rfl rfl ?_ ?_ <;> intro _)))
        <;> (refine WO.cons ?_; (first | refine Op1.skip rfl rfl rfl ?_ | refine Op1.val (V.pick_true rfl rfl rfl) rfl rfl ?_ | refine Op1.val (V.pick_false rfl rfl rfl) rfl rfl ?_))
        <;> (refine WO.cons ?_; (first | refine Op1.val (V.pick_true rfl rfl rfl) rfl rfl ?_ | refine Op1.val (V.pick_false rfl rfl rfl) rfl rfl ?_))
        <;> (refine WO.cons ?_; (refine Op1.val (V.assign rfl rfl) rfl rfl ?_))
        <;> (refine WO.nil (Then.intro rfl ?_))))
    | refine WC.ret ?_
    | refine To.fn_ret rfl ?_)
  all_goals (refine ⟨?_, by (repeat (first | assumption | exact Grow.refl _ | refine Grow.trans ?_ (by assumption))), by assumption⟩; first | (simp_all [resV, letterM]; done) | (simp_all [resV, letterM]; omega) | (simp_all [resV, letterM]; intros; exfalso; omega) | (simp_all [resV, letterM]; split <;> intros <;> first | omega | (exfalso; omega) | simp_all))
theorem digit2_run (hK : KN base K) (c : Int) (h : Heap) (w : Wf h) : Sp P K 142 [.int .u8 c] h (Gives h (.bool (digitM c))) := by
  refine Sp.of (m := 5) (n := 9) (hK.none 142 rfl rfl _ _) Tryz.func142 rfl rfl mask142 rfl rfl ?_
  repeat' (first
    | refine To.nrm_seq ?_
    | refine WC.seq ?_
    | (refine WC.region (id := 0) ?_; ((refine WO.cons ?_; (refine Op1.val (V.assign rfl rfl) rfl rfl ?_))
        <;> (refine WO.nil (Then.intro rfl ?_))))
    | (refine WC.region (id := 1) ?_; ((refine WO.cons ?_; (refine Op1.val (V.move rfl rfl) rfl rfl ?_))
        <;> (refine WO.cons ?_; ((refine Op1.geq rfl rfl rfl rfl rfl rfl ?_ ?_ <;> intro _)))
        <;> (refine WO.cons ?_; (refine Op1.val (V.move rfl rfl) rfl rfl ?_))
        <;> (refine WO.cons ?_; (first | refine Op1.skip rfl rfl rfl ?_ | refine Op1.val (V.move rfl rfl) rfl rfl ?_))
        <;> (refine WO.cons ?_; (first | refine Op1.skip rfl rfl rfl ?_ | (refine Op1.leq rfl rfl rfl rfl rfl rfl ?_ ?_ <;> intro _)))
        <;> (refine WO.cons ?_; (first | refine Op1.val (V.pick_true rfl rfl rfl) rfl rfl ?_ | refine Op1.val (V.pick_false rfl rfl rfl) rfl rfl ?_))
        <;> (refine WO.cons ?_; (refine Op1.val (V.assign rfl rfl) rfl rfl ?_))
        <;> (refine WO.nil (Then.intro rfl ?_))))
    | refine WC.ret ?_
    | refine To.fn_ret rfl ?_)
  all_goals (refine ⟨?_, by (repeat (first | assumption | exact Grow.refl _ | refine Grow.trans ?_ (by assumption))), by assumption⟩; first | (simp_all [resV, digitM]; done) | (simp_all [resV, digitM]; omega) | (simp_all [resV, digitM]; intros; exfalso; omega) | (simp_all [resV, digitM]; split <;> intros <;> first | omega | (exfalso; omega) | simp_all))
theorem inner2_run (hK : KN base K) (c : Int) (h : Heap) (w : Wf h) : Sp P K 144 [.int .u8 c] h (Gives h (.bool (innerM c))) := by
  refine Sp.of (m := 5) (n := 13) (hK.none 144 rfl rfl _ _) Tryz.func144 rfl rfl mask144 rfl rfl ?_
  repeat' (first
    | refine To.nrm_seq ?_
    | refine WC.seq ?_
    | (refine WC.region (id := 0) ?_; ((refine WO.cons ?_; (refine Op1.val (V.assign rfl rfl) rfl rfl ?_))
        <;> (refine WO.nil (Then.intro rfl ?_))))
    | (refine WC.region (id := 1) ?_; ((refine WO.cons ?_; (refine Op1.val (V.move rfl rfl) rfl rfl ?_))
        <;> (refine WO.cons ?_; ((refine Op1.spB (C.call rfl rfl rfl rfl ca140) rfl rfl (letter2_run hK _ _ (by assumption)) ?_ ?_ <;> (rintro _ ⟨_, _⟩ _))))
        <;> (refine WO.cons ?_; (refine Op1.val (V.move rfl rfl) rfl rfl ?_))
        <;> (refine WO.cons ?_; (first | refine Op1.skip rfl rfl rfl ?_ | refine Op1.val (V.move rfl rfl) rfl rfl ?_))
        <;> (refine WO.cons ?_; (first | refine Op1.skip rfl rfl rfl ?_ | (refine Op1.spB (C.call rfl rfl rfl rfl ca142) rfl rfl (digit2_run hK _ _ (by assumption)) ?_ ?_ <;> (rintro _ ⟨_, _⟩ _))))
        <;> (refine WO.cons ?_; (first | refine Op1.val (V.pick_true rfl rfl rfl) rfl rfl ?_ | refine Op1.val (V.pick_false rfl rfl rfl) rfl rfl ?_))
        <;> (refine WO.cons ?_; (refine Op1.val (V.move rfl rfl) rfl rfl ?_))
        <;> (refine WO.cons ?_; (first | refine Op1.skip rfl rfl rfl ?_ | refine Op1.val (V.move rfl rfl) rfl rfl ?_))
        <;> (refine WO.cons ?_; (first | refine Op1.skip rfl rfl rfl ?_ | (refine Op1.eql rfl rfl rfl rfl rfl rfl ?_ ?_ <;> intro _)))
        <;> (refine WO.cons ?_; (first | refine Op1.val (V.pick_true rfl rfl rfl) rfl rfl ?_ | refine Op1.val (V.pick_false rfl rfl rfl) rfl rfl ?_))
        <;> (refine WO.cons ?_; (refine Op1.val (V.assign rfl rfl) rfl rfl ?_))
        <;> (refine WO.nil (Then.intro rfl ?_))))
    | refine WC.ret ?_
    | refine To.fn_ret rfl ?_)
  all_goals (refine ⟨?_, by (repeat (first | assumption | exact Grow.refl _ | refine Grow.trans ?_ (by assumption))), by assumption⟩; first | (simp_all [resV, innerM]; done) | (simp_all [resV, innerM]; omega) | (simp_all [resV, innerM]; intros; exfalso; omega) | (simp_all [resV, innerM]; split <;> intros <;> first | omega | (exfalso; omega) | simp_all))
/-! folding operators -/
def neutM (op : Int) : Int × Bool := if op = 0 ∨ op = 6 ∨ op = 7 then (0, true) else if op = 18 then (2147483647, true) else if op = 19 then (-2147483648, true) else if op = 5 then (-1, true) else (0, false)
def foldsM (op : Int) : Bool := (neutM op).2
theorem neutral_run (hK : KN base K) (op : Int) (h : Heap) (w : Wf h) : Sp P K 75 [.int .i64 op] h (Gives h (.tuple [.int .i32 (neutM op).1, .bool (neutM op).2])) := by
  refine Sp.of (m := 10813) (n := 15) (hK.none 75 rfl rfl _ _) Tryz.func75 rfl rfl mask75 rfl rfl ?_
  repeat' (first
    | refine To.nrm_seq ?_
    | refine WC.seq ?_
    | (refine WC.region (id := 0) ?_; ((refine WO.cons ?_; (refine Op1.val (V.assign rfl rfl) rfl rfl ?_))
        <;> (refine WO.cons ?_; (refine Op1.val (V.assign rfl rfl) rfl rfl ?_))
        <;> (refine WO.nil (Then.intro rfl ?_))))
    | (refine WC.region (id := 1) ?_; ((refine WO.cons ?_; (refine Op1.val (V.move rfl rfl) rfl rfl ?_))
        <;> (refine WO.nil (Then.intro rfl ?_))))
    | (refine WC.region (id := 2) ?_; ((refine WO.cons ?_; ((refine Op1.eql rfl rfl rfl rfl rfl rfl ?_ ?_ <;> intro _)))
        <;> (refine WO.cons ?_; (refine Op1.val (V.assign rfl rfl) rfl rfl ?_))
        <;> (refine WO.nil (Then.intro rfl ?_))))
    | (refine WC.region (id := 3) ?_; ((refine WO.cons ?_; ((refine Op1.eql rfl rfl rfl rfl rfl rfl ?_ ?_ <;> intro _)))
        <;> (refine WO.cons ?_; (refine Op1.val (V.assign rfl rfl) rfl rfl ?_))
        <;> (refine WO.nil (Then.intro rfl ?_))))
    | (refine WC.region (id := 4) ?_; ((refine WO.cons ?_; ((refine Op1.eql rfl rfl rfl rfl rfl rfl ?_ ?_ <;> intro _)))
        <;> (refine WO.cons ?_; (refine Op1.val (V.assign rfl rfl) rfl rfl ?_))
        <;> (refine WO.nil (Then.intro rfl ?_))))
    | (refine WC.region (id := 5) ?_; ((refine WO.cons ?_; (refine Op1.val (V.assign rfl rfl) rfl rfl ?_))
        <;> (refine WO.cons ?_; (refine Op1.val (V.assign rfl rfl) rfl rfl ?_))
        <;> (refine WO.nil (Then.intro rfl ?_))))
    | (refine WC.region (id := 6) ?_; ((refine WO.cons ?_; ((refine Op1.eql rfl rfl rfl rfl rfl rfl ?_ ?_ <;> intro _)))
        <;> (refine WO.cons ?_; (refine Op1.val (V.assign rfl rfl) rfl rfl ?_))
        <;> (refine WO.nil (Then.intro rfl ?_))))
    | (refine WC.region (id := 7) ?_; ((refine WO.cons ?_; (refine Op1.val (V.assign rfl rfl) rfl rfl ?_))
        <;> (refine WO.cons ?_; (refine Op1.val (V.assign rfl rfl) rfl rfl ?_))
        <;> (refine WO.nil (Then.intro rfl ?_))))
    | (refine WC.region (id := 8) ?_; ((refine WO.cons ?_; ((refine Op1.eql rfl rfl rfl rfl rfl rfl ?_ ?_ <;> intro _)))
        <;> (refine WO.cons ?_; (refine Op1.val (V.assign rfl rfl) rfl rfl ?_))
        <;> (refine WO.nil (Then.intro rfl ?_))))
    | (refine WC.region (id := 9) ?_; ((refine WO.cons ?_; (refine Op1.val (V.assign rfl rfl) rfl rfl ?_))
        <;> (refine WO.cons ?_; (refine Op1.val (V.assign rfl rfl) rfl rfl ?_))
        <;> (refine WO.nil (Then.intro rfl ?_))))
    | (refine WC.region (id := 10) ?_; ((refine WO.cons ?_; ((refine Op1.eql rfl rfl rfl rfl rfl rfl ?_ ?_ <;> intro _)))
        <;> (refine WO.cons ?_; (refine Op1.val (V.assign rfl rfl) rfl rfl ?_))
        <;> (refine WO.nil (Then.intro rfl ?_))))
    | (refine WC.region (id := 11) ?_; ((refine WO.cons ?_; (refine Op1.val (V.assign rfl rfl) rfl rfl ?_))
        <;> (refine WO.cons ?_; (refine Op1.val (V.assign rfl rfl) rfl rfl ?_))
        <;> (refine WO.nil (Then.intro rfl ?_))))
    | (refine WC.region (id := 12) ?_; ((refine WO.cons ?_; (refine Op1.val (V.assign rfl rfl) rfl rfl ?_))
        <;> (refine WO.cons ?_; (refine Op1.val (V.assign rfl rfl) rfl rfl ?_))
        <;> (refine WO.nil (Then.intro rfl ?_))))
    | refine WC.ret ?_
    | refine To.ret_seq ?_
    | refine To.ret_block ?_
    | refine WC.cond_true rfl ?_
    | refine WC.cond_false rfl ?_
    | refine WC.skip ?_
    | refine WC.block ?_
    | refine To.nrm_block ?_
    | refine To.fn_ret rfl ?_)
  all_goals (refine ⟨?_, by (repeat (first | assumption | exact Grow.refl _ | refine Grow.trans ?_ (by assumption))), by assumption⟩; first | (simp_all [resV, neutM]; done) | (simp_all [resV, neutM]; omega) | (simp_all [resV, neutM]; intros; exfalso; omega) | (simp_all [resV, neutM]; split <;> intros <;> first | omega | (exfalso; omega) | simp_all))
theorem neutral2_run (hK : KN base K) (op : Int) (h : Heap) (w : Wf h) : Sp P K 107 [.int .i64 op] h (Gives h (.tuple [.int .i32 (neutM op).1, .bool (neutM op).2])) := by
  refine Sp.of (m := 10813) (n := 15) (hK.none 107 rfl rfl _ _) Tryz.func107 rfl rfl mask107 rfl rfl ?_
  repeat' (first
    | refine To.nrm_seq ?_
    | refine WC.seq ?_
    | (refine WC.region (id := 0) ?_; ((refine WO.cons ?_; (refine Op1.val (V.assign rfl rfl) rfl rfl ?_))
        <;> (refine WO.cons ?_; (refine Op1.val (V.assign rfl rfl) rfl rfl ?_))
        <;> (refine WO.nil (Then.intro rfl ?_))))
    | (refine WC.region (id := 1) ?_; ((refine WO.cons ?_; (refine Op1.val (V.move rfl rfl) rfl rfl ?_))
        <;> (refine WO.nil (Then.intro rfl ?_))))
    | (refine WC.region (id := 2) ?_; ((refine WO.cons ?_; ((refine Op1.eql rfl rfl rfl rfl rfl rfl ?_ ?_ <;> intro _)))
        <;> (refine WO.cons ?_; (refine Op1.val (V.assign rfl rfl) rfl rfl ?_))
        <;> (refine WO.nil (Then.intro rfl ?_))))
    | (refine WC.region (id := 3) ?_; ((refine WO.cons ?_; ((refine Op1.eql rfl rfl rfl rfl rfl rfl ?_ ?_ <;> intro _)))
        <;> (refine WO.cons ?_; (refine Op1.val (V.assign rfl rfl) rfl rfl ?_))
        <;> (refine WO.nil (Then.intro rfl ?_))))
    | (refine WC.region (id := 4) ?_; ((refine WO.cons ?_; ((refine Op1.eql rfl rfl rfl rfl rfl rfl ?_ ?_ <;> intro _)))
        <;> (refine WO.cons ?_; (refine Op1.val (V.assign rfl rfl) rfl rfl ?_))
        <;> (refine WO.nil (Then.intro rfl ?_))))
    | (refine WC.region (id := 5) ?_; ((refine WO.cons ?_; (refine Op1.val (V.assign rfl rfl) rfl rfl ?_))
        <;> (refine WO.cons ?_; (refine Op1.val (V.assign rfl rfl) rfl rfl ?_))
        <;> (refine WO.nil (Then.intro rfl ?_))))
    | (refine WC.region (id := 6) ?_; ((refine WO.cons ?_; ((refine Op1.eql rfl rfl rfl rfl rfl rfl ?_ ?_ <;> intro _)))
        <;> (refine WO.cons ?_; (refine Op1.val (V.assign rfl rfl) rfl rfl ?_))
        <;> (refine WO.nil (Then.intro rfl ?_))))
    | (refine WC.region (id := 7) ?_; ((refine WO.cons ?_; (refine Op1.val (V.assign rfl rfl) rfl rfl ?_))
        <;> (refine WO.cons ?_; (refine Op1.val (V.assign rfl rfl) rfl rfl ?_))
        <;> (refine WO.nil (Then.intro rfl ?_))))
    | (refine WC.region (id := 8) ?_; ((refine WO.cons ?_; ((refine Op1.eql rfl rfl rfl rfl rfl rfl ?_ ?_ <;> intro _)))
        <;> (refine WO.cons ?_; (refine Op1.val (V.assign rfl rfl) rfl rfl ?_))
        <;> (refine WO.nil (Then.intro rfl ?_))))
    | (refine WC.region (id := 9) ?_; ((refine WO.cons ?_; (refine Op1.val (V.assign rfl rfl) rfl rfl ?_))
        <;> (refine WO.cons ?_; (refine Op1.val (V.assign rfl rfl) rfl rfl ?_))
        <;> (refine WO.nil (Then.intro rfl ?_))))
    | (refine WC.region (id := 10) ?_; ((refine WO.cons ?_; ((refine Op1.eql rfl rfl rfl rfl rfl rfl ?_ ?_ <;> intro _)))
        <;> (refine WO.cons ?_; (refine Op1.val (V.assign rfl rfl) rfl rfl ?_))
        <;> (refine WO.nil (Then.intro rfl ?_))))
    | (refine WC.region (id := 11) ?_; ((refine WO.cons ?_; (refine Op1.val (V.assign rfl rfl) rfl rfl ?_))
        <;> (refine WO.cons ?_; (refine Op1.val (V.assign rfl rfl) rfl rfl ?_))
        <;> (refine WO.nil (Then.intro rfl ?_))))
    | (refine WC.region (id := 12) ?_; ((refine WO.cons ?_; (refine Op1.val (V.assign rfl rfl) rfl rfl ?_))
        <;> (refine WO.cons ?_; (refine Op1.val (V.assign rfl rfl) rfl rfl ?_))
        <;> (refine WO.nil (Then.intro rfl ?_))))
    | refine WC.ret ?_
    | refine To.ret_seq ?_
    | refine To.ret_block ?_
    | refine WC.cond_true rfl ?_
    | refine WC.cond_false rfl ?_
    | refine WC.skip ?_
    | refine WC.block ?_
    | refine To.nrm_block ?_
    | refine To.fn_ret rfl ?_)
  all_goals (refine ⟨?_, by (repeat (first | assumption | exact Grow.refl _ | refine Grow.trans ?_ (by assumption))), by assumption⟩; first | (simp_all [resV, neutM]; done) | (simp_all [resV, neutM]; omega) | (simp_all [resV, neutM]; intros; exfalso; omega) | (simp_all [resV, neutM]; split <;> intros <;> first | omega | (exfalso; omega) | simp_all))
theorem folds_run (hK : KN base K) (op : Int) (h : Heap) (w : Wf h) : Sp P K 44 [.int .i64 op] h (Gives h (.bool (foldsM op))) := by
  refine Sp.of (m := 21) (n := 11) (hK.none 44 rfl rfl _ _) Tryz.func44 rfl rfl mask44 rfl rfl ?_
  repeat' (first
    | refine To.nrm_seq ?_
    | refine WC.seq ?_
    | (refine WC.region (id := 0) ?_; ((refine WO.cons ?_; (refine Op1.val (V.assign rfl rfl) rfl rfl ?_))
        <;> (refine WO.nil (Then.intro rfl ?_))))
    | (refine WC.region (id := 1) ?_; ((refine WO.cons ?_; (refine Op1.val (V.move rfl rfl) rfl rfl ?_))
        <;> (refine WO.cons ?_; ((refine Op1.sp (C.call rfl rfl rfl rfl ca75) rfl rfl (neutral_run hK _ _ (by assumption)) ?_; rintro _ _ ⟨rfl, _, _⟩)))
        <;> (refine WO.cons ?_; (refine Op1.val (V.move rfl rfl) rfl rfl ?_))
        <;> (refine WO.cons ?_; (refine Op1.val (V.extract rfl rfl rfl) rfl rfl ?_))
        <;> (refine WO.cons ?_; (refine Op1.val (V.extract rfl rfl rfl) rfl rfl ?_))
        <;> (refine WO.cons ?_; (refine Op1.val (V.assign rfl rfl) rfl rfl ?_))
        <;> (refine WO.cons ?_; (refine Op1.val (V.assign rfl rfl) rfl rfl ?_))
        <;> (refine WO.nil (Then.intro rfl ?_))))
    | (refine WC.region (id := 2) ?_; ((refine WO.cons ?_; (refine Op1.val (V.move rfl rfl) rfl rfl ?_))
        <;> (refine WO.cons ?_; (refine Op1.val (V.assign rfl rfl) rfl rfl ?_))
        <;> (refine WO.nil (Then.intro rfl ?_))))
    | refine WC.ret ?_
    | refine To.fn_ret rfl ?_)
  all_goals (refine ⟨?_, by (repeat (first | assumption | exact Grow.refl _ | refine Grow.trans ?_ (by assumption))), by assumption⟩; first | (simp_all [resV, foldsM]; done) | (simp_all [resV, foldsM]; omega) | (simp_all [resV, foldsM]; intros; exfalso; omega) | (simp_all [resV, foldsM]; split <;> intros <;> first | omega | (exfalso; omega) | simp_all))
theorem folds2_run (hK : KN base K) (op : Int) (h : Heap) (w : Wf h) : Sp P K 79 [.int .i64 op] h (Gives h (.bool (foldsM op))) := by
  refine Sp.of (m := 21) (n := 11) (hK.none 79 rfl rfl _ _) Tryz.func79 rfl rfl mask79 rfl rfl ?_
  repeat' (first
    | refine To.nrm_seq ?_
    | refine WC.seq ?_
    | (refine WC.region (id := 0) ?_; ((refine WO.cons ?_; (refine Op1.val (V.assign rfl rfl) rfl rfl ?_))
        <;> (refine WO.nil (Then.intro rfl ?_))))
    | (refine WC.region (id := 1) ?_; ((refine WO.cons ?_; (refine Op1.val (V.move rfl rfl) rfl rfl ?_))
        <;> (refine WO.cons ?_; ((refine Op1.sp (C.call rfl rfl rfl rfl ca107) rfl rfl (neutral2_run hK _ _ (by assumption)) ?_; rintro _ _ ⟨rfl, _, _⟩)))
        <;> (refine WO.cons ?_; (refine Op1.val (V.move rfl rfl) rfl rfl ?_))
        <;> (refine WO.cons ?_; (refine Op1.val (V.extract rfl rfl rfl) rfl rfl ?_))
        <;> (refine WO.cons ?_; (refine Op1.val (V.extract rfl rfl rfl) rfl rfl ?_))
        <;> (refine WO.cons ?_; (refine Op1.val (V.assign rfl rfl) rfl rfl ?_))
        <;> (refine WO.cons ?_; (refine Op1.val (V.assign rfl rfl) rfl rfl ?_))
        <;> (refine WO.nil (Then.intro rfl ?_))))
    | (refine WC.region (id := 2) ?_; ((refine WO.cons ?_; (refine Op1.val (V.move rfl rfl) rfl rfl ?_))
        <;> (refine WO.cons ?_; (refine Op1.val (V.assign rfl rfl) rfl rfl ?_))
        <;> (refine WO.nil (Then.intro rfl ?_))))
    | refine WC.ret ?_
    | refine To.fn_ret rfl ?_)
  all_goals (refine ⟨?_, by (repeat (first | assumption | exact Grow.refl _ | refine Grow.trans ?_ (by assumption))), by assumption⟩; first | (simp_all [resV, foldsM]; done) | (simp_all [resV, foldsM]; omega) | (simp_all [resV, foldsM]; intros; exfalso; omega) | (simp_all [resV, foldsM]; split <;> intros <;> first | omega | (exfalso; omega) | simp_all))
def unaryM (op : Int) : Bool := decide (0 ≤ op ∧ op < 3)
def binaryM (op : Int) : Bool := decide (0 ≤ op ∧ op < 20)
theorem isUnary_run (hK : KN base K) (op : Int) (h : Heap) (w : Wf h) : Sp P K 77 [.int .i64 op] h (Gives h (.bool (unaryM op))) := by
  refine Sp.of (m := 5) (n := 9) (hK.none 77 rfl rfl _ _) Tryz.func77 rfl rfl mask77 rfl rfl ?_
  repeat' (first
    | refine To.nrm_seq ?_
    | refine WC.seq ?_
    | (refine WC.region (id := 0) ?_; ((refine WO.cons ?_; (refine Op1.val (V.assign rfl rfl) rfl rfl ?_))
        <;> (refine WO.nil (Then.intro rfl ?_))))
    | (refine WC.region (id := 1) ?_; ((refine WO.cons ?_; (refine Op1.val (V.move rfl rfl) rfl rfl ?_))
        <;> (refine WO.cons ?_; ((refine Op1.geq rfl rfl rfl rfl rfl rfl ?_ ?_ <;> intro _)))
        <;> (refine WO.cons ?_; (refine Op1.val (V.move rfl rfl) rfl rfl ?_))
        <;> (refine WO.cons ?_; (first | refine Op1.skip rfl rfl rfl ?_ | refine Op1.val (V.move rfl rfl) rfl rfl ?_))
        <;> (refine WO.cons ?_; (first | refine Op1.skip rfl rfl rfl ?_ | (refine Op1.lss rfl rfl rfl rfl rfl rfl ?_ ?_ <;> intro _)))
        <;> (refine WO.cons ?_; (first | refine Op1.val (V.pick_true rfl rfl rfl) rfl rfl ?_ | refine Op1.val (V.pick_false rfl rfl rfl) rfl rfl ?_))
        <;> (refine WO.cons ?_; (refine Op1.val (V.assign rfl rfl) rfl rfl ?_))
        <;> (refine WO.nil (Then.intro rfl ?_))))
    | refine WC.ret ?_
    | refine To.fn_ret rfl ?_)
  all_goals (refine ⟨?_, by (repeat (first | assumption | exact Grow.refl _ | refine Grow.trans ?_ (by assumption))), by assumption⟩; first | (simp_all [resV, unaryM]; done) | (simp_all [resV, unaryM]; omega) | (simp_all [resV, unaryM]; intros; exfalso; omega) | (simp_all [resV, unaryM]; split <;> intros <;> first | omega | (exfalso; omega) | simp_all))
theorem isBinary_run (hK : KN base K) (op : Int) (h : Heap) (w : Wf h) : Sp P K 78 [.int .i64 op] h (Gives h (.bool (binaryM op))) := by
  refine Sp.of (m := 5) (n := 9) (hK.none 78 rfl rfl _ _) Tryz.func78 rfl rfl mask78 rfl rfl ?_
  repeat' (first
    | refine To.nrm_seq ?_
    | refine WC.seq ?_
    | (refine WC.region (id := 0) ?_; ((refine WO.cons ?_; (refine Op1.val (V.assign rfl rfl) rfl rfl ?_))
        <;> (refine WO.nil (Then.intro rfl ?_))))
    | (refine WC.region (id := 1) ?_; ((refine WO.cons ?_; (refine Op1.val (V.move rfl rfl) rfl rfl ?_))
        <;> (refine WO.cons ?_; ((refine Op1.geq rfl rfl rfl rfl rfl rfl ?_ ?_ <;> intro _)))
        <;> (refine WO.cons ?_; (refine Op1.val (V.move rfl rfl) rfl rfl ?_))
        <;> (refine WO.cons ?_; (first | refine Op1.skip rfl rfl rfl ?_ | refine Op1.val (V.move rfl rfl) rfl rfl ?_))
        <;> (refine WO.cons ?_; (first | refine Op1.skip rfl rfl rfl ?_ | (refine Op1.lss rfl rfl rfl rfl rfl rfl ?_ ?_ <;> intro _)))
        <;> (refine WO.cons ?_; (first | refine Op1.val (V.pick_true rfl rfl rfl) rfl rfl ?_ | refine Op1.val (V.pick_false rfl rfl rfl) rfl rfl ?_))
        <;> (refine WO.cons ?_; (refine Op1.val (V.assign rfl rfl) rfl rfl ?_))
        <;> (refine WO.nil (Then.intro rfl ?_))))
    | refine WC.ret ?_
    | refine To.fn_ret rfl ?_)
  all_goals (refine ⟨?_, by (repeat (first | assumption | exact Grow.refl _ | refine Grow.trans ?_ (by assumption))), by assumption⟩; first | (simp_all [resV, binaryM]; done) | (simp_all [resV, binaryM]; omega) | (simp_all [resV, binaryM]; intros; exfalso; omega) | (simp_all [resV, binaryM]; split <;> intros <;> first | omega | (exfalso; omega) | simp_all))
/-! kinds -/
def hasM (k : Int) : Bool × Bool × Bool := (decide (k = 0 ∨ k = 4 ∨ k = 5 ∨ k = 11 ∨ k = 1 ∨ k = 2 ∨ k = 6 ∨ k = 10 ∨ k = 3), decide (k = 1 ∨ k = 2 ∨ k = 6 ∨ k = 10 ∨ k = 3 ∨ k = 7 ∨ k = 8), decide (k = 3 ∨ k = 7 ∨ k = 8))
theorem has_run (hK : KN base K) (k : Int) (h : Heap) (w : Wf h) : Sp P K 47 [.int .i64 k] h (Gives h (.tuple [.bool (hasM k).1, .bool (hasM k).2.1, .bool (hasM k).2.2])) := by
  refine Sp.of (m := 329853) (n := 21) (hK.none 47 rfl rfl _ _) Tryz.func47 rfl rfl mask47 rfl rfl ?_
  repeat' (first
    | refine To.nrm_seq ?_
    | refine WC.seq ?_
    | (refine WC.region (id := 0) ?_; ((refine WO.cons ?_; (refine Op1.val (V.assign rfl rfl) rfl rfl ?_))
        <;> (refine WO.cons ?_; (refine Op1.val (V.assign rfl rfl) rfl rfl ?_))
        <;> (refine WO.cons ?_; (refine Op1.val (V.assign rfl rfl) rfl rfl ?_))
        <;> (refine WO.nil (Then.intro rfl ?_))))
    | (refine WC.region (id := 1) ?_; ((refine WO.cons ?_; (refine Op1.val (V.move rfl rfl) rfl rfl ?_))
        <;> (refine WO.nil (Then.intro rfl ?_))))
    | (refine WC.region (id := 2) ?_; ((refine WO.cons ?_; ((refine Op1.eql rfl rfl rfl rfl rfl rfl ?_ ?_ <;> intro _)))
        <;> (refine WO.cons ?_; (refine Op1.val (V.assign rfl rfl) rfl rfl ?_))
        <;> (refine WO.nil (Then.intro rfl ?_))))
    | (refine WC.region (id := 3) ?_; ((refine WO.cons ?_; ((refine Op1.eql rfl rfl rfl rfl rfl rfl ?_ ?_ <;> intro _)))
        <;> (refine WO.cons ?_; (refine Op1.val (V.assign rfl rfl) rfl rfl ?_))
        <;> (refine WO.nil (Then.intro rfl ?_))))
    | (refine WC.region (id := 4) ?_; ((refine WO.cons ?_; ((refine Op1.eql rfl rfl rfl rfl rfl rfl ?_ ?_ <;> intro _)))
        <;> (refine WO.cons ?_; (refine Op1.val (V.assign rfl rfl) rfl rfl ?_))
        <;> (refine WO.nil (Then.intro rfl ?_))))
    | (refine WC.region (id := 5) ?_; ((refine WO.cons ?_; ((refine Op1.eql rfl rfl rfl rfl rfl rfl ?_ ?_ <;> intro _)))
        <;> (refine WO.cons ?_; (refine Op1.val (V.assign rfl rfl) rfl rfl ?_))
        <;> (refine WO.nil (Then.intro rfl ?_))))
    | (refine WC.region (id := 6) ?_; ((refine WO.cons ?_; (refine Op1.val (V.assign rfl rfl) rfl rfl ?_))
        <;> (refine WO.cons ?_; (refine Op1.val (V.assign rfl rfl) rfl rfl ?_))
        <;> (refine WO.cons ?_; (refine Op1.val (V.assign rfl rfl) rfl rfl ?_))
        <;> (refine WO.nil (Then.intro rfl ?_))))
    | (refine WC.region (id := 7) ?_; ((refine WO.cons ?_; ((refine Op1.eql rfl rfl rfl rfl rfl rfl ?_ ?_ <;> intro _)))
        <;> (refine WO.cons ?_; (refine Op1.val (V.assign rfl rfl) rfl rfl ?_))
        <;> (refine WO.nil (Then.intro rfl ?_))))
    | (refine WC.region (id := 8) ?_; ((refine WO.cons ?_; ((refine Op1.eql rfl rfl rfl rfl rfl rfl ?_ ?_ <;> intro _)))
        <;> (refine WO.cons ?_; (refine Op1.val (V.assign rfl rfl) rfl rfl ?_))
        <;> (refine WO.nil (Then.intro rfl ?_))))
    | (refine WC.region (id := 9) ?_; ((refine WO.cons ?_; ((refine Op1.eql rfl rfl rfl rfl rfl rfl ?_ ?_ <;> intro _)))
        <;> (refine WO.cons ?_; (refine Op1.val (V.assign rfl rfl) rfl rfl ?_))
        <;> (refine WO.nil (Then.intro rfl ?_))))
    | (refine WC.region (id := 10) ?_; ((refine WO.cons ?_; ((refine Op1.eql rfl rfl rfl rfl rfl rfl ?_ ?_ <;> intro _)))
        <;> (refine WO.cons ?_; (refine Op1.val (V.assign rfl rfl) rfl rfl ?_))
        <;> (refine WO.nil (Then.intro rfl ?_))))
    | (refine WC.region (id := 11) ?_; ((refine WO.cons ?_; (refine Op1.val (V.assign rfl rfl) rfl rfl ?_))
        <;> (refine WO.cons ?_; (refine Op1.val (V.assign rfl rfl) rfl rfl ?_))
        <;> (refine WO.cons ?_; (refine Op1.val (V.assign rfl rfl) rfl rfl ?_))
        <;> (refine WO.nil (Then.intro rfl ?_))))
    | (refine WC.region (id := 12) ?_; ((refine WO.cons ?_; ((refine Op1.eql rfl rfl rfl rfl rfl rfl ?_ ?_ <;> intro _)))
        <;> (refine WO.cons ?_; (refine Op1.val (V.assign rfl rfl) rfl rfl ?_))
        <;> (refine WO.nil (Then.intro rfl ?_))))
    | (refine WC.region (id := 13) ?_; ((refine WO.cons ?_; (refine Op1.val (V.assign rfl rfl) rfl rfl ?_))
        <;> (refine WO.cons ?_; (refine Op1.val (V.assign rfl rfl) rfl rfl ?_))
        <;> (refine WO.cons ?_; (refine Op1.val (V.assign rfl rfl) rfl rfl ?_))
        <;> (refine WO.nil (Then.intro rfl ?_))))
    | (refine WC.region (id := 14) ?_; ((refine WO.cons ?_; ((refine Op1.eql rfl rfl rfl rfl rfl rfl ?_ ?_ <;> intro _)))
        <;> (refine WO.cons ?_; (refine Op1.val (V.assign rfl rfl) rfl rfl ?_))
        <;> (refine WO.nil (Then.intro rfl ?_))))
    | (refine WC.region (id := 15) ?_; ((refine WO.cons ?_; ((refine Op1.eql rfl rfl rfl rfl rfl rfl ?_ ?_ <;> intro _)))
        <;> (refine WO.cons ?_; (refine Op1.val (V.assign rfl rfl) rfl rfl ?_))
        <;> (refine WO.nil (Then.intro rfl ?_))))
    | (refine WC.region (id := 16) ?_; ((refine WO.cons ?_; (refine Op1.val (V.assign rfl rfl) rfl rfl ?_))
        <;> (refine WO.cons ?_; (refine Op1.val (V.assign rfl rfl) rfl rfl ?_))
        <;> (refine WO.cons ?_; (refine Op1.val (V.assign rfl rfl) rfl rfl ?_))
        <;> (refine WO.nil (Then.intro rfl ?_))))
    | (refine WC.region (id := 17) ?_; ((refine WO.cons ?_; (refine Op1.val (V.assign rfl rfl) rfl rfl ?_))
        <;> (refine WO.cons ?_; (refine Op1.val (V.assign rfl rfl) rfl rfl ?_))
        <;> (refine WO.cons ?_; (refine Op1.val (V.assign rfl rfl) rfl rfl ?_))
        <;> (refine WO.nil (Then.intro rfl ?_))))
    | refine WC.ret ?_
    | refine To.ret_seq ?_
    | refine To.ret_block ?_
    | refine WC.cond_true rfl ?_
    | refine WC.cond_false rfl ?_
    | refine WC.skip ?_
    | refine WC.block ?_
    | refine To.nrm_block ?_
    | refine To.fn_ret rfl ?_)
  all_goals (refine ⟨?_, by (repeat (first | assumption | exact Grow.refl _ | refine Grow.trans ?_ (by assumption))), by assumption⟩; first | (simp_all [resV, hasM]; done) | (simp_all [resV, hasM]; omega) | (simp_all [resV, hasM]; intros; exfalso; omega) | (simp_all [resV, hasM]; split <;> intros <;> first | omega | (exfalso; omega) | simp_all))
def howM (k : Int) : Int := if k = 2 then 1 else if k = 3 then 2 else if k = 4 then 3 else if k = 8 ∨ k = 10 then 4 else 0
theorem how_run (hK : KN base K) (k : Int) (h : Heap) (w : Wf h) : Sp P K 50 [.int .i64 k] h (Gives h (.int .i64 (howM k))) := by
  refine Sp.of (m := 1373) (n := 13) (hK.none 50 rfl rfl _ _) Tryz.func50 rfl rfl mask50 rfl rfl ?_
  repeat' (first
    | refine To.nrm_seq ?_
    | refine WC.seq ?_
    | (refine WC.region (id := 0) ?_; ((refine WO.cons ?_; (refine Op1.val (V.assign rfl rfl) rfl rfl ?_))
        <;> (refine WO.nil (Then.intro rfl ?_))))
    | (refine WC.region (id := 1) ?_; ((refine WO.cons ?_; (refine Op1.val (V.move rfl rfl) rfl rfl ?_))
        <;> (refine WO.nil (Then.intro rfl ?_))))
    | (refine WC.region (id := 2) ?_; ((refine WO.cons ?_; ((refine Op1.eql rfl rfl rfl rfl rfl rfl ?_ ?_ <;> intro _)))
        <;> (refine WO.cons ?_; (refine Op1.val (V.assign rfl rfl) rfl rfl ?_))
        <;> (refine WO.nil (Then.intro rfl ?_))))
    | (refine WC.region (id := 3) ?_; ((refine WO.cons ?_; (refine Op1.val (V.assign rfl rfl) rfl rfl ?_))
        <;> (refine WO.nil (Then.intro rfl ?_))))
    | (refine WC.region (id := 4) ?_; ((refine WO.cons ?_; ((refine Op1.eql rfl rfl rfl rfl rfl rfl ?_ ?_ <;> intro _)))
        <;> (refine WO.cons ?_; (refine Op1.val (V.assign rfl rfl) rfl rfl ?_))
        <;> (refine WO.nil (Then.intro rfl ?_))))
    | (refine WC.region (id := 5) ?_; ((refine WO.cons ?_; (refine Op1.val (V.assign rfl rfl) rfl rfl ?_))
        <;> (refine WO.nil (Then.intro rfl ?_))))
    | (refine WC.region (id := 6) ?_; ((refine WO.cons ?_; ((refine Op1.eql rfl rfl rfl rfl rfl rfl ?_ ?_ <;> intro _)))
        <;> (refine WO.cons ?_; (refine Op1.val (V.assign rfl rfl) rfl rfl ?_))
        <;> (refine WO.nil (Then.intro rfl ?_))))
    | (refine WC.region (id := 7) ?_; ((refine WO.cons ?_; (refine Op1.val (V.assign rfl rfl) rfl rfl ?_))
        <;> (refine WO.nil (Then.intro rfl ?_))))
    | (refine WC.region (id := 8) ?_; ((refine WO.cons ?_; ((refine Op1.eql rfl rfl rfl rfl rfl rfl ?_ ?_ <;> intro _)))
        <;> (refine WO.cons ?_; (refine Op1.val (V.assign rfl rfl) rfl rfl ?_))
        <;> (refine WO.nil (Then.intro rfl ?_))))
    | (refine WC.region (id := 9) ?_; ((refine WO.cons ?_; ((refine Op1.eql rfl rfl rfl rfl rfl rfl ?_ ?_ <;> intro _)))
        <;> (refine WO.cons ?_; (refine Op1.val (V.assign rfl rfl) rfl rfl ?_))
        <;> (refine WO.nil (Then.intro rfl ?_))))
    | (refine WC.region (id := 10) ?_; ((refine WO.cons ?_; (refine Op1.val (V.assign rfl rfl) rfl rfl ?_))
        <;> (refine WO.nil (Then.intro rfl ?_))))
    | (refine WC.region (id := 11) ?_; ((refine WO.cons ?_; (refine Op1.val (V.assign rfl rfl) rfl rfl ?_))
        <;> (refine WO.nil (Then.intro rfl ?_))))
    | refine WC.ret ?_
    | refine To.ret_seq ?_
    | refine To.ret_block ?_
    | refine WC.cond_true rfl ?_
    | refine WC.cond_false rfl ?_
    | refine WC.skip ?_
    | refine WC.block ?_
    | refine To.nrm_block ?_
    | refine To.fn_ret rfl ?_)
  all_goals (refine ⟨?_, by (repeat (first | assumption | exact Grow.refl _ | refine Grow.trans ?_ (by assumption))), by assumption⟩; first | (simp_all [resV, howM]; done) | (simp_all [resV, howM]; omega) | (simp_all [resV, howM]; intros; exfalso; omega) | (simp_all [resV, howM]; split <;> intros <;> first | omega | (exfalso; omega) | simp_all))
def whatM (k : Int) : Int := if k = 0 then 3 else if k = 5 then 0 else if k = 6 ∨ k = 7 ∨ k = 8 then 1 else if k = 9 ∨ k = 10 then 2 else 4
theorem what_run (hK : KN base K) (k : Int) (h : Heap) (w : Wf h) : Sp P K 52 [.int .i64 k] h (Gives h (.int .i64 (whatM k))) := by
  refine Sp.of (m := 4445) (n := 15) (hK.none 52 rfl rfl _ _) Tryz.func52 rfl rfl mask52 rfl rfl ?_
  repeat' (first
    | refine To.nrm_seq ?_
    | refine WC.seq ?_
    | (refine WC.region (id := 0) ?_; ((refine WO.cons ?_; (refine Op1.val (V.assign rfl rfl) rfl rfl ?_))
        <;> (refine WO.nil (Then.intro rfl ?_))))
    | (refine WC.region (id := 1) ?_; ((refine WO.cons ?_; (refine Op1.val (V.move rfl rfl) rfl rfl ?_))
        <;> (refine WO.nil (Then.intro rfl ?_))))
    | (refine WC.region (id := 2) ?_; ((refine WO.cons ?_; ((refine Op1.eql rfl rfl rfl rfl rfl rfl ?_ ?_ <;> intro _)))
        <;> (refine WO.cons ?_; (refine Op1.val (V.assign rfl rfl) rfl rfl ?_))
        <;> (refine WO.nil (Then.intro rfl ?_))))
    | (refine WC.region (id := 3) ?_; ((refine WO.cons ?_; (refine Op1.val (V.assign rfl rfl) rfl rfl ?_))
        <;> (refine WO.nil (Then.intro rfl ?_))))
    | (refine WC.region (id := 4) ?_; ((refine WO.cons ?_; ((refine Op1.eql rfl rfl rfl rfl rfl rfl ?_ ?_ <;> intro _)))
        <;> (refine WO.cons ?_; (refine Op1.val (V.assign rfl rfl) rfl rfl ?_))
        <;> (refine WO.nil (Then.intro rfl ?_))))
    | (refine WC.region (id := 5) ?_; ((refine WO.cons ?_; (refine Op1.val (V.assign rfl rfl) rfl rfl ?_))
        <;> (refine WO.nil (Then.intro rfl ?_))))
    | (refine WC.region (id := 6) ?_; ((refine WO.cons ?_; ((refine Op1.eql rfl rfl rfl rfl rfl rfl ?_ ?_ <;> intro _)))
        <;> (refine WO.cons ?_; (refine Op1.val (V.assign rfl rfl) rfl rfl ?_))
        <;> (refine WO.nil (Then.intro rfl ?_))))
    | (refine WC.region (id := 7) ?_; ((refine WO.cons ?_; ((refine Op1.eql rfl rfl rfl rfl rfl rfl ?_ ?_ <;> intro _)))
        <;> (refine WO.cons ?_; (refine Op1.val (V.assign rfl rfl) rfl rfl ?_))
        <;> (refine WO.nil (Then.intro rfl ?_))))
    | (refine WC.region (id := 8) ?_; ((refine WO.cons ?_; ((refine Op1.eql rfl rfl rfl rfl rfl rfl ?_ ?_ <;> intro _)))
        <;> (refine WO.cons ?_; (refine Op1.val (V.assign rfl rfl) rfl rfl ?_))
        <;> (refine WO.nil (Then.intro rfl ?_))))
    | (refine WC.region (id := 9) ?_; ((refine WO.cons ?_; (refine Op1.val (V.assign rfl rfl) rfl rfl ?_))
        <;> (refine WO.nil (Then.intro rfl ?_))))
    | (refine WC.region (id := 10) ?_; ((refine WO.cons ?_; ((refine Op1.eql rfl rfl rfl rfl rfl rfl ?_ ?_ <;> intro _)))
        <;> (refine WO.cons ?_; (refine Op1.val (V.assign rfl rfl) rfl rfl ?_))
        <;> (refine WO.nil (Then.intro rfl ?_))))
    | (refine WC.region (id := 11) ?_; ((refine WO.cons ?_; ((refine Op1.eql rfl rfl rfl rfl rfl rfl ?_ ?_ <;> intro _)))
        <;> (refine WO.cons ?_; (refine Op1.val (V.assign rfl rfl) rfl rfl ?_))
        <;> (refine WO.nil (Then.intro rfl ?_))))
    | (refine WC.region (id := 12) ?_; ((refine WO.cons ?_; (refine Op1.val (V.assign rfl rfl) rfl rfl ?_))
        <;> (refine WO.nil (Then.intro rfl ?_))))
    | (refine WC.region (id := 13) ?_; ((refine WO.cons ?_; (refine Op1.val (V.assign rfl rfl) rfl rfl ?_))
        <;> (refine WO.nil (Then.intro rfl ?_))))
    | refine WC.ret ?_
    | refine To.ret_seq ?_
    | refine To.ret_block ?_
    | refine WC.cond_true rfl ?_
    | refine WC.cond_false rfl ?_
    | refine WC.skip ?_
    | refine WC.block ?_
    | refine To.nrm_block ?_
    | refine To.fn_ret rfl ?_)
  all_goals (refine ⟨?_, by (repeat (first | assumption | exact Grow.refl _ | refine Grow.trans ?_ (by assumption))), by assumption⟩; first | (simp_all [resV, whatM]; done) | (simp_all [resV, whatM]; omega) | (simp_all [resV, whatM]; intros; exfalso; omega) | (simp_all [resV, whatM]; split <;> intros <;> first | omega | (exfalso; omega) | simp_all))
def signM (how op : Int) : Bool := if how = 1 then unaryM op else if how = 2 then binaryM op else if how = 3 then decide (0 ≤ op ∧ op < 4) else if how = 4 then foldsM op else decide (op = 0)
theorem sign_run (hK : KN base K) (how op : Int) (h : Heap) (w : Wf h) : Sp P K 49 [.int .i64 how, .int .i64 op] h (Gives h (.bool (signM how op))) := by
  refine Sp.of (m := 4211827) (n := 28) (hK.none 49 rfl rfl _ _) Tryz.func49 rfl rfl mask49 rfl rfl ?_
  repeat' (first
    | refine To.nrm_seq ?_
    | refine WC.seq ?_
    | (refine WC.region (id := 0) ?_; ((refine WO.cons ?_; (refine Op1.val (V.assign rfl rfl) rfl rfl ?_))
        <;> (refine WO.nil (Then.intro rfl ?_))))
    | (refine WC.region (id := 1) ?_; ((refine WO.cons ?_; (refine Op1.val (V.move rfl rfl) rfl rfl ?_))
        <;> (refine WO.nil (Then.intro rfl ?_))))
    | (refine WC.region (id := 2) ?_; ((refine WO.cons ?_; ((refine Op1.eql rfl rfl rfl rfl rfl rfl ?_ ?_ <;> intro _)))
        <;> (refine WO.cons ?_; (refine Op1.val (V.assign rfl rfl) rfl rfl ?_))
        <;> (refine WO.nil (Then.intro rfl ?_))))
    | (refine WC.region (id := 3) ?_; ((refine WO.cons ?_; (refine Op1.val (V.move rfl rfl) rfl rfl ?_))
        <;> (refine WO.cons ?_; ((refine Op1.spB (C.call rfl rfl rfl rfl ca77) rfl rfl (isUnary_run hK _ _ (by assumption)) ?_ ?_ <;> (rintro _ ⟨_, _⟩ _))))
        <;> (refine WO.cons ?_; (refine Op1.val (V.assign rfl rfl) rfl rfl ?_))
        <;> (refine WO.nil (Then.intro rfl ?_))))
    | (refine WC.region (id := 4) ?_; ((refine WO.cons ?_; ((refine Op1.eql rfl rfl rfl rfl rfl rfl ?_ ?_ <;> intro _)))
        <;> (refine WO.cons ?_; (refine Op1.val (V.assign rfl rfl) rfl rfl ?_))
        <;> (refine WO.nil (Then.intro rfl ?_))))
    | (refine WC.region (id := 5) ?_; ((refine WO.cons ?_; (refine Op1.val (V.move rfl rfl) rfl rfl ?_))
        <;> (refine WO.cons ?_; ((refine Op1.spB (C.call rfl rfl rfl rfl ca78) rfl rfl (isBinary_run hK _ _ (by assumption)) ?_ ?_ <;> (rintro _ ⟨_, _⟩ _))))
        <;> (refine WO.cons ?_; (refine Op1.val (V.assign rfl rfl) rfl rfl ?_))
        <;> (refine WO.nil (Then.intro rfl ?_))))
    | (refine WC.region (id := 6) ?_; ((refine WO.cons ?_; ((refine Op1.eql rfl rfl rfl rfl rfl rfl ?_ ?_ <;> intro _)))
        <;> (refine WO.cons ?_; (refine Op1.val (V.assign rfl rfl) rfl rfl ?_))
        <;> (refine WO.nil (Then.intro rfl ?_))))
    | (refine WC.region (id := 7) ?_; ((refine WO.cons ?_; (refine Op1.val (V.move rfl rfl) rfl rfl ?_))
        <;> (refine WO.cons ?_; ((refine Op1.geq rfl rfl rfl rfl rfl rfl ?_ ?_ <;> intro _)))
        <;> (refine WO.cons ?_; (refine Op1.val (V.move rfl rfl) rfl rfl ?_))
        <;> (refine WO.cons ?_; (first | refine Op1.skip rfl rfl rfl ?_ | refine Op1.val (V.move rfl rfl) rfl rfl ?_))
        <;> (refine WO.cons ?_; (first | refine Op1.skip rfl rfl rfl ?_ | (refine Op1.lss rfl rfl rfl rfl rfl rfl ?_ ?_ <;> intro _)))
        <;> (refine WO.cons ?_; (first | refine Op1.val (V.pick_true rfl rfl rfl) rfl rfl ?_ | refine Op1.val (V.pick_false rfl rfl rfl) rfl rfl ?_))
        <;> (refine WO.cons ?_; (refine Op1.val (V.assign rfl rfl) rfl rfl ?_))
        <;> (refine WO.nil (Then.intro rfl ?_))))
    | (refine WC.region (id := 8) ?_; ((refine WO.cons ?_; ((refine Op1.eql rfl rfl rfl rfl rfl rfl ?_ ?_ <;> intro _)))
        <;> (refine WO.cons ?_; (refine Op1.val (V.assign rfl rfl) rfl rfl ?_))
        <;> (refine WO.nil (Then.intro rfl ?_))))
    | (refine WC.region (id := 9) ?_; ((refine WO.cons ?_; (refine Op1.val (V.move rfl rfl) rfl rfl ?_))
        <;> (refine WO.cons ?_; ((refine Op1.spB (C.call rfl rfl rfl rfl ca79) rfl rfl (folds2_run hK _ _ (by assumption)) ?_ ?_ <;> (rintro _ ⟨_, _⟩ _))))
        <;> (refine WO.cons ?_; (refine Op1.val (V.assign rfl rfl) rfl rfl ?_))
        <;> (refine WO.nil (Then.intro rfl ?_))))
    | (refine WC.region (id := 10) ?_; ((refine WO.cons ?_; (refine Op1.val (V.move rfl rfl) rfl rfl ?_))
        <;> (refine WO.cons ?_; ((refine Op1.eql rfl rfl rfl rfl rfl rfl ?_ ?_ <;> intro _)))
        <;> (refine WO.cons ?_; (refine Op1.val (V.assign rfl rfl) rfl rfl ?_))
        <;> (refine WO.nil (Then.intro rfl ?_))))
    | refine WC.ret ?_
    | refine To.ret_seq ?_
    | refine To.ret_block ?_
    | refine WC.cond_true rfl ?_
    | refine WC.cond_false rfl ?_
    | refine WC.skip ?_
    | refine WC.block ?_
    | refine To.nrm_block ?_
    | refine To.fn_ret rfl ?_)
  all_goals (refine ⟨?_, by (repeat (first | assumption | exact Grow.refl _ | refine Grow.trans ?_ (by assumption))), by assumption⟩; first | (simp_all [resV, signM]; done) | (simp_all [resV, signM]; omega) | (simp_all [resV, signM]; intros; exfalso; omega) | (simp_all [resV, signM]; split <;> intros <;> first | omega | (exfalso; omega) | simp_all))
def regM (regs : Int) (used : Bool) (r : Int) : Bool := if used then decide (0 ≤ r ∧ r < regs) else decide (r = 0)
theorem reg_run (hK : KN base K) (used : Bool) (r regs : Int) (h : Heap) (w : Wf h) : Sp P K 48 [.bool used, .int .i64 r, .int .i64 regs] h (Gives h (.bool (regM regs used r))) := by
  cases used
  all_goals
    refine Sp.of (m := 71) (n := 25) (hK.none 48 rfl rfl _ _) Tryz.func48 rfl rfl mask48 rfl rfl ?_
    repeat' (first
      | refine To.nrm_seq ?_
      | refine WC.seq ?_
      | (refine WC.region (id := 0) ?_; ((refine WO.cons ?_; (refine Op1.val (V.assign rfl rfl) rfl rfl ?_))
          <;> (refine WO.nil (Then.intro rfl ?_))))
      | (refine WC.region (id := 1) ?_; ((refine WO.cons ?_; (refine Op1.val (V.move rfl rfl) rfl rfl ?_))
          <;> (refine WO.cons ?_; (refine Op1.val (V.move rfl rfl) rfl rfl ?_))
          <;> (refine WO.cons ?_; (first | refine Op1.skip rfl rfl rfl ?_ | refine Op1.val (V.move rfl rfl) rfl rfl ?_))
          <;> (refine WO.cons ?_; (first | refine Op1.skip rfl rfl rfl ?_ | (refine Op1.geq rfl rfl rfl rfl rfl rfl ?_ ?_ <;> intro _)))
          <;> (refine WO.cons ?_; (first | refine Op1.val (V.pick_true rfl rfl rfl) rfl rfl ?_ | refine Op1.val (V.pick_false rfl rfl rfl) rfl rfl ?_))
          <;> (refine WO.cons ?_; (refine Op1.val (V.move rfl rfl) rfl rfl ?_))
          <;> (refine WO.cons ?_; (first | refine Op1.skip rfl rfl rfl ?_ | refine Op1.val (V.move rfl rfl) rfl rfl ?_))
          <;> (refine WO.cons ?_; (first | refine Op1.skip rfl rfl rfl ?_ | refine Op1.val (V.move rfl rfl) rfl rfl ?_))
          <;> (refine WO.cons ?_; (first | refine Op1.skip rfl rfl rfl ?_ | (refine Op1.lss rfl rfl rfl rfl rfl rfl ?_ ?_ <;> intro _)))
          <;> (refine WO.cons ?_; (first | refine Op1.val (V.pick_true rfl rfl rfl) rfl rfl ?_ | refine Op1.val (V.pick_false rfl rfl rfl) rfl rfl ?_))
          <;> (refine WO.cons ?_; (refine Op1.val (V.move rfl rfl) rfl rfl ?_))
          <;> (refine WO.cons ?_; (first | refine Op1.skip rfl rfl rfl ?_ | refine Op1.val (V.move rfl rfl) rfl rfl ?_))
          <;> (refine WO.cons ?_; (first | refine Op1.skip rfl rfl rfl ?_ | refine Op1.val (V.not_true rfl rfl) rfl rfl ?_ | refine Op1.val (V.not_false rfl rfl) rfl rfl ?_))
          <;> (refine WO.cons ?_; (first | refine Op1.skip rfl rfl rfl ?_ | refine Op1.val (V.move rfl rfl) rfl rfl ?_))
          <;> (refine WO.cons ?_; (first | refine Op1.skip rfl rfl rfl ?_ | refine Op1.val (V.move rfl rfl) rfl rfl ?_))
          <;> (refine WO.cons ?_; (first | refine Op1.skip rfl rfl rfl ?_ | (refine Op1.eql rfl rfl rfl rfl rfl rfl ?_ ?_ <;> intro _)))
          <;> (refine WO.cons ?_; (first | refine Op1.skip rfl rfl rfl ?_ | refine Op1.val (V.pick_true rfl rfl rfl) rfl rfl ?_ | refine Op1.val (V.pick_false rfl rfl rfl) rfl rfl ?_))
          <;> (refine WO.cons ?_; (first | refine Op1.val (V.pick_true rfl rfl rfl) rfl rfl ?_ | refine Op1.val (V.pick_false rfl rfl rfl) rfl rfl ?_))
          <;> (refine WO.cons ?_; (refine Op1.val (V.assign rfl rfl) rfl rfl ?_))
          <;> (refine WO.nil (Then.intro rfl ?_))))
      | refine WC.ret ?_
      | refine To.fn_ret rfl ?_)
    all_goals (refine ⟨?_, by (repeat (first | assumption | exact Grow.refl _ | refine Grow.trans ?_ (by assumption))), by assumption⟩; first | (simp_all [resV, regM]; done) | (simp_all [resV, regM]; omega) | (simp_all [resV, regM]; intros; exfalso; omega) | (simp_all [resV, regM]; split <;> intros <;> first | omega | (exfalso; omega) | simp_all))
theorem register_run (hK : KN base K) (c0 c1 c2 c4 : HVal) (regs r : Int) (used : Bool) (h : Heap) (w : Wf h) : Sp P K 41 [.agg [c0, c1, c2, .int .i64 regs, c4], .bool used, .int .i64 r] h (Gives h (.bool (regM regs used r))) := by
  cases used
  all_goals
    refine Sp.of (m := 335) (n := 19) (hK.none 41 rfl rfl _ _) Tryz.func41 rfl rfl mask41 rfl rfl ?_
    repeat' (first
      | refine To.nrm_seq ?_
      | refine WC.seq ?_
      | (refine WC.region (id := 0) ?_; ((refine WO.cons ?_; ((refine Op1.made (M.box rfl rfl rfl) rfl rfl (by assumption) ?_; rintro kb hb ⟨gb, eb, fb, wb, leb, ltb, obb⟩)))
          <;> (refine WO.cons ?_; (refine Op1.val (V.assign rfl rfl) rfl rfl ?_))
          <;> (refine WO.nil (Then.intro rfl ?_))))
      | (refine WC.region (id := 1) ?_; ((refine WO.cons ?_; (refine Op1.val (V.move rfl rfl) rfl rfl ?_))
          <;> (refine WO.cons ?_; (first | refine Op1.val (V.not_true rfl rfl) rfl rfl ?_ | refine Op1.val (V.not_false rfl rfl) rfl rfl ?_))
          <;> (refine WO.nil (Then.intro rfl ?_))))
      | (refine WC.region (id := 2) ?_; ((refine WO.cons ?_; (refine Op1.val (V.move rfl rfl) rfl rfl ?_))
          <;> (refine WO.cons ?_; ((refine Op1.eql rfl rfl rfl rfl rfl rfl ?_ ?_ <;> intro _)))
          <;> (refine WO.cons ?_; (refine Op1.val (V.assign rfl rfl) rfl rfl ?_))
          <;> (refine WO.nil (Then.intro rfl ?_))))
      | (refine WC.region (id := 3) ?_; ((refine WO.cons ?_; (refine Op1.val (V.move rfl rfl) rfl rfl ?_))
          <;> (refine WO.cons ?_; ((refine Op1.geq rfl rfl rfl rfl rfl rfl ?_ ?_ <;> intro _)))
          <;> (refine WO.cons ?_; (refine Op1.val (V.move rfl rfl) rfl rfl ?_))
          <;> (refine WO.cons ?_; (first | refine Op1.skip rfl rfl rfl ?_ | refine Op1.val (V.move rfl rfl) rfl rfl ?_))
          <;> (refine WO.cons ?_; (first | refine Op1.skip rfl rfl rfl ?_ | refine Op1.val (V.fieldAddr hT rfl rfl rfl rfl rfl rfl) rfl rfl ?_))
          <;> (refine WO.cons ?_; (first | refine Op1.skip rfl rfl rfl ?_ | refine Op1.val (V.load hT rfl rfl rfl rfl (by (repeat (first | assumption | refine Grow.get (by assumption) ?_))) rfl) rfl rfl ?_))
          <;> (refine WO.cons ?_; (first | refine Op1.skip rfl rfl rfl ?_ | (refine Op1.lss rfl rfl rfl rfl rfl rfl ?_ ?_ <;> intro _)))
          <;> (refine WO.cons ?_; (first | refine Op1.val (V.pick_true rfl rfl rfl) rfl rfl ?_ | refine Op1.val (V.pick_false rfl rfl rfl) rfl rfl ?_))
          <;> (refine WO.cons ?_; (refine Op1.val (V.assign rfl rfl) rfl rfl ?_))
          <;> (refine WO.nil (Then.intro rfl ?_))))
      | refine WC.ret ?_
      | refine To.ret_seq ?_
      | refine WC.cond_true rfl ?_
      | refine WC.cond_false rfl ?_
      | refine WC.skip ?_
      | refine To.fn_ret rfl ?_)
    all_goals (refine ⟨?_, by (repeat (first | assumption | exact Grow.refl _ | refine Grow.trans ?_ (by assumption))), by assumption⟩; first | (simp_all [resV, regM]; done) | (simp_all [resV, regM]; omega) | (simp_all [resV, regM]; intros; exfalso; omega) | (simp_all [resV, regM]; split <;> intros <;> first | omega | (exfalso; omega) | simp_all))
end Fv
end Go.HL
