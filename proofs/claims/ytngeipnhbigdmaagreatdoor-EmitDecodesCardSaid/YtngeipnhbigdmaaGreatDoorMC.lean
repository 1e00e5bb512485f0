/- The walk: numbers, names. No statement of the seat stands here. -/
import Derived.Test.YtngeipnhbigdmaaGreatDoorMB
set_option linter.unusedVariables false
set_option linter.unusedSimpArgs false
namespace Go.HL
open Go Go.Proofs
namespace Em
set_option maxRecDepth 10000
variable {K : CallFn} {base : List (Nat × HObj)}
def letterM (c : Int) : Bool := decide (97 ≤ c ∧ c ≤ 122 ∨ 65 ≤ c ∧ c ≤ 90)
def digitM (c : Int) : Bool := decide (48 ≤ c ∧ c ≤ 57)
def innerM (c : Int) : Bool := letterM c || digitM c || decide (c = 95)
theorem letter_run (hK : KN base K) (c : Int) (h : Heap) (w : Wf h) : Sp P K 148 [.int .u8 c] h (Val (.bool (letterM c)) h) := by
  refine Sp.start (m := 5) (n := 17) w (hK.none 148 rfl rfl _ _) Tryz.func148 rfl rfl mask148 rfl rfl ?_
  repeat' (first
    | refine ToX.nrm_seq ?_
    | refine WCX.seq ?_
    | (refine WCX.region (id := 0) ?_; ((refine .cons (q hX rfl ?_))) <;> (refine .nil (.intro rfl ?_)))
    | (refine WCX.region (id := 1) ?_; ((refine .cons (q hX rfl ?_))) <;> ((refine .cons (qc rfl ?_ ?_)) <;> intro _) <;> (iterate 2 (refine .cons (q hX rfl ?_))) <;> (first | (refine .cons (q hX rfl ?_)) | (refine .cons (qc rfl ?_ ?_)) <;> intro _) <;> (iterate 3 (refine .cons (q hX rfl ?_))) <;> (first | (refine .cons (q hX rfl ?_)) | (refine .cons (qc rfl ?_ ?_)) <;> intro _) <;> (iterate 2 (refine .cons (q hX rfl ?_))) <;> (first | (refine .cons (q hX rfl ?_)) | (refine .cons (qc rfl ?_ ?_)) <;> intro _) <;> (iterate 3 (refine .cons (q hX rfl ?_))) <;> (refine .nil (.intro rfl ?_)))
    | refine WCX.ret ?_
    | refine ToX.fn_ret hX rfl ?_)
  all_goals (intro h f; refine ⟨?_, f.chg⟩; clear f; first | (simp_all [resV, letterM]; done) | (simp_all [resV, letterM]; omega) | (simp_all [resV, letterM]; intros; exfalso; omega) | (simp_all [resV, letterM]; split <;> intros <;> first | omega | (exfalso; omega) | simp_all))
theorem digit_run (hK : KN base K) (c : Int) (h : Heap) (w : Wf h) : Sp P K 241 [.int .u8 c] h (Val (.bool (digitM c)) h) := by
  refine Sp.start (m := 5) (n := 9) w (hK.none 241 rfl rfl _ _) Tryz.func241 rfl rfl mask241 rfl rfl ?_
  repeat' (first
    | refine ToX.nrm_seq ?_
    | refine WCX.seq ?_
    | (refine WCX.region (id := 0) ?_; ((refine .cons (q hX rfl ?_))) <;> (refine .nil (.intro rfl ?_)))
    | (refine WCX.region (id := 1) ?_; ((refine .cons (q hX rfl ?_))) <;> ((refine .cons (qc rfl ?_ ?_)) <;> intro _) <;> (iterate 2 (refine .cons (q hX rfl ?_))) <;> (first | (refine .cons (q hX rfl ?_)) | (refine .cons (qc rfl ?_ ?_)) <;> intro _) <;> (iterate 2 (refine .cons (q hX rfl ?_))) <;> (refine .nil (.intro rfl ?_)))
    | refine WCX.ret ?_
    | refine ToX.fn_ret hX rfl ?_)
  all_goals (intro h f; refine ⟨?_, f.chg⟩; clear f; first | (simp_all [resV, digitM]; done) | (simp_all [resV, digitM]; omega) | (simp_all [resV, digitM]; intros; exfalso; omega) | (simp_all [resV, digitM]; split <;> intros <;> first | omega | (exfalso; omega) | simp_all))
theorem inner_run (hK : KN base K) (c : Int) (h : Heap) (w : Wf h) : Sp P K 150 [.int .u8 c] h (Val (.bool (innerM c)) h) := by
  refine Sp.start (m := 5) (n := 13) w (hK.none 150 rfl rfl _ _) Tryz.func150 rfl rfl mask150 rfl rfl ?_
  repeat' (first
    | refine ToX.nrm_seq ?_
    | refine WCX.seq ?_
    | (refine WCX.region (id := 0) ?_; ((refine .cons (q hX rfl ?_))) <;> (refine .nil (.intro rfl ?_)))
    | (refine WCX.region (id := 1) ?_; ((refine .cons (q hX rfl ?_))) <;> ((refine .cons (qcallB rfl rfl rfl rfl ca148 rfl rfl (fun h f => letter_run hK _ h f.wf) ?_ ?_)) <;> intro _) <;> (iterate 2 (refine .cons (q hX rfl ?_))) <;> (first | (refine .cons (q hX rfl ?_)) | (refine .cons (qcallB rfl rfl rfl rfl ca241 rfl rfl (fun h f => digit_run hK _ h f.wf) ?_ ?_)) <;> intro _) <;> (iterate 3 (refine .cons (q hX rfl ?_))) <;> (first | (refine .cons (q hX rfl ?_)) | (refine .cons (qc rfl ?_ ?_)) <;> intro _) <;> (iterate 2 (refine .cons (q hX rfl ?_))) <;> (refine .nil (.intro rfl ?_)))
    | refine WCX.ret ?_
    | refine ToX.fn_ret hX rfl ?_)
  all_goals (intro h f; refine ⟨?_, f.chg⟩; clear f; first | (simp_all [resV, innerM]; done) | (simp_all [resV, innerM]; omega) | (simp_all [resV, innerM]; intros; exfalso; omega) | (simp_all [resV, innerM]; split <;> intros <;> first | omega | (exfalso; omega) | simp_all))
theorem letter2_run (hK : KN base K) (c : Int) (h : Heap) (w : Wf h) : Sp P K 310 [.int .u8 c] h (Val (.bool (letterM c)) h) := by
  refine Sp.start (m := 5) (n := 17) w (hK.none 310 rfl rfl _ _) Tryz.func310 rfl rfl mask310 rfl rfl ?_
  repeat' (first
    | refine ToX.nrm_seq ?_
    | refine WCX.seq ?_
    | (refine WCX.region (id := 0) ?_; ((refine .cons (q hX rfl ?_))) <;> (refine .nil (.intro rfl ?_)))
    | (refine WCX.region (id := 1) ?_; ((refine .cons (q hX rfl ?_))) <;> ((refine .cons (qc rfl ?_ ?_)) <;> intro _) <;> (iterate 2 (refine .cons (q hX rfl ?_))) <;> (first | (refine .cons (q hX rfl ?_)) | (refine .cons (qc rfl ?_ ?_)) <;> intro _) <;> (iterate 3 (refine .cons (q hX rfl ?_))) <;> (first | (refine .cons (q hX rfl ?_)) | (refine .cons (qc rfl ?_ ?_)) <;> intro _) <;> (iterate 2 (refine .cons (q hX rfl ?_))) <;> (first | (refine .cons (q hX rfl ?_)) | (refine .cons (qc rfl ?_ ?_)) <;> intro _) <;> (iterate 3 (refine .cons (q hX rfl ?_))) <;> (refine .nil (.intro rfl ?_)))
    | refine WCX.ret ?_
    | refine ToX.fn_ret hX rfl ?_)
  all_goals (intro h f; refine ⟨?_, f.chg⟩; clear f; first | (simp_all [resV, letterM]; done) | (simp_all [resV, letterM]; omega) | (simp_all [resV, letterM]; intros; exfalso; omega) | (simp_all [resV, letterM]; split <;> intros <;> first | omega | (exfalso; omega) | simp_all))
theorem digit2_run (hK : KN base K) (c : Int) (h : Heap) (w : Wf h) : Sp P K 312 [.int .u8 c] h (Val (.bool (digitM c)) h) := by
  refine Sp.start (m := 5) (n := 9) w (hK.none 312 rfl rfl _ _) Tryz.func312 rfl rfl mask312 rfl rfl ?_
  repeat' (first
    | refine ToX.nrm_seq ?_
    | refine WCX.seq ?_
    | (refine WCX.region (id := 0) ?_; ((refine .cons (q hX rfl ?_))) <;> (refine .nil (.intro rfl ?_)))
    | (refine WCX.region (id := 1) ?_; ((refine .cons (q hX rfl ?_))) <;> ((refine .cons (qc rfl ?_ ?_)) <;> intro _) <;> (iterate 2 (refine .cons (q hX rfl ?_))) <;> (first | (refine .cons (q hX rfl ?_)) | (refine .cons (qc rfl ?_ ?_)) <;> intro _) <;> (iterate 2 (refine .cons (q hX rfl ?_))) <;> (refine .nil (.intro rfl ?_)))
    | refine WCX.ret ?_
    | refine ToX.fn_ret hX rfl ?_)
  all_goals (intro h f; refine ⟨?_, f.chg⟩; clear f; first | (simp_all [resV, digitM]; done) | (simp_all [resV, digitM]; omega) | (simp_all [resV, digitM]; intros; exfalso; omega) | (simp_all [resV, digitM]; split <;> intros <;> first | omega | (exfalso; omega) | simp_all))
theorem inner2_run (hK : KN base K) (c : Int) (h : Heap) (w : Wf h) : Sp P K 314 [.int .u8 c] h (Val (.bool (innerM c)) h) := by
  refine Sp.start (m := 5) (n := 13) w (hK.none 314 rfl rfl _ _) Tryz.func314 rfl rfl mask314 rfl rfl ?_
  repeat' (first
    | refine ToX.nrm_seq ?_
    | refine WCX.seq ?_
    | (refine WCX.region (id := 0) ?_; ((refine .cons (q hX rfl ?_))) <;> (refine .nil (.intro rfl ?_)))
    | (refine WCX.region (id := 1) ?_; ((refine .cons (q hX rfl ?_))) <;> ((refine .cons (qcallB rfl rfl rfl rfl ca310 rfl rfl (fun h f => letter2_run hK _ h f.wf) ?_ ?_)) <;> intro _) <;> (iterate 2 (refine .cons (q hX rfl ?_))) <;> (first | (refine .cons (q hX rfl ?_)) | (refine .cons (qcallB rfl rfl rfl rfl ca312 rfl rfl (fun h f => digit2_run hK _ h f.wf) ?_ ?_)) <;> intro _) <;> (iterate 3 (refine .cons (q hX rfl ?_))) <;> (first | (refine .cons (q hX rfl ?_)) | (refine .cons (qc rfl ?_ ?_)) <;> intro _) <;> (iterate 2 (refine .cons (q hX rfl ?_))) <;> (refine .nil (.intro rfl ?_)))
    | refine WCX.ret ?_
    | refine ToX.fn_ret hX rfl ?_)
  all_goals (intro h f; refine ⟨?_, f.chg⟩; clear f; first | (simp_all [resV, innerM]; done) | (simp_all [resV, innerM]; omega) | (simp_all [resV, innerM]; intros; exfalso; omega) | (simp_all [resV, innerM]; split <;> intros <;> first | omega | (exfalso; omega) | simp_all))
def neutM (op : Int) : Int × Bool := if op = 0 ∨ op = 6 ∨ op = 7 then (0, true) else if op = 18 then (2147483647, true) else if op = 19 then (-2147483648, true) else if op = 5 then (-1, true) else (0, false)
def foldsM (op : Int) : Bool := (neutM op).2
theorem neutral_run (hK : KN base K) (op : Int) (h : Heap) (w : Wf h) : Sp P K 151 [.int .i64 op] h (Val (.tuple [.int .i32 (neutM op).1, .bool (neutM op).2]) h) := by
  refine Sp.start (m := 10813) (n := 15) w (hK.none 151 rfl rfl _ _) Tryz.func151 rfl rfl mask151 rfl rfl ?_
  repeat' (first
    | refine ToX.nrm_seq ?_
    | refine WCX.seq ?_
    | (refine WCX.region (id := 0) ?_; (iterate 2 (refine .cons (q hX rfl ?_))) <;> (refine .nil (.intro rfl ?_)))
    | (refine WCX.region (id := 1) ?_; ((refine .cons (q hX rfl ?_))) <;> (refine .nil (.intro rfl ?_)))
    | (refine WCX.region (id := 2) ?_; ((refine .cons (qc rfl ?_ ?_)) <;> intro _) <;> ((refine .cons (q hX rfl ?_))) <;> (refine .nil (.intro rfl ?_)))
    | (refine WCX.region (id := 3) ?_; ((refine .cons (qc rfl ?_ ?_)) <;> intro _) <;> ((refine .cons (q hX rfl ?_))) <;> (refine .nil (.intro rfl ?_)))
    | (refine WCX.region (id := 4) ?_; ((refine .cons (qc rfl ?_ ?_)) <;> intro _) <;> ((refine .cons (q hX rfl ?_))) <;> (refine .nil (.intro rfl ?_)))
    | (refine WCX.region (id := 5) ?_; (iterate 2 (refine .cons (q hX rfl ?_))) <;> (refine .nil (.intro rfl ?_)))
    | (refine WCX.region (id := 6) ?_; ((refine .cons (qc rfl ?_ ?_)) <;> intro _) <;> ((refine .cons (q hX rfl ?_))) <;> (refine .nil (.intro rfl ?_)))
    | (refine WCX.region (id := 7) ?_; (iterate 2 (refine .cons (q hX rfl ?_))) <;> (refine .nil (.intro rfl ?_)))
    | (refine WCX.region (id := 8) ?_; ((refine .cons (qc rfl ?_ ?_)) <;> intro _) <;> ((refine .cons (q hX rfl ?_))) <;> (refine .nil (.intro rfl ?_)))
    | (refine WCX.region (id := 9) ?_; (iterate 2 (refine .cons (q hX rfl ?_))) <;> (refine .nil (.intro rfl ?_)))
    | (refine WCX.region (id := 10) ?_; ((refine .cons (qc rfl ?_ ?_)) <;> intro _) <;> ((refine .cons (q hX rfl ?_))) <;> (refine .nil (.intro rfl ?_)))
    | (refine WCX.region (id := 11) ?_; (iterate 2 (refine .cons (q hX rfl ?_))) <;> (refine .nil (.intro rfl ?_)))
    | (refine WCX.region (id := 12) ?_; (iterate 2 (refine .cons (q hX rfl ?_))) <;> (refine .nil (.intro rfl ?_)))
    | refine WCX.ret ?_
    | refine ToX.ret_seq ?_
    | refine ToX.ret_block ?_
    | refine WCX.cond_true rfl ?_
    | refine WCX.cond_false rfl ?_
    | refine WCX.skip ?_
    | refine WCX.block ?_
    | refine ToX.nrm_block ?_
    | refine ToX.fn_ret hX rfl ?_)
  all_goals (intro h f; refine ⟨?_, f.chg⟩; clear f; first | (simp_all [resV, neutM]; done) | (simp_all [resV, neutM]; omega) | (simp_all [resV, neutM]; intros; exfalso; omega) | (simp_all [resV, neutM]; split <;> intros <;> first | omega | (exfalso; omega) | simp_all))
theorem neutral2_run (hK : KN base K) (op : Int) (h : Heap) (w : Wf h) : Sp P K 244 [.int .i64 op] h (Val (.tuple [.int .i32 (neutM op).1, .bool (neutM op).2]) h) := by
  refine Sp.start (m := 10813) (n := 15) w (hK.none 244 rfl rfl _ _) Tryz.func244 rfl rfl mask244 rfl rfl ?_
  repeat' (first
    | refine ToX.nrm_seq ?_
    | refine WCX.seq ?_
    | (refine WCX.region (id := 0) ?_; (iterate 2 (refine .cons (q hX rfl ?_))) <;> (refine .nil (.intro rfl ?_)))
    | (refine WCX.region (id := 1) ?_; ((refine .cons (q hX rfl ?_))) <;> (refine .nil (.intro rfl ?_)))
    | (refine WCX.region (id := 2) ?_; ((refine .cons (qc rfl ?_ ?_)) <;> intro _) <;> ((refine .cons (q hX rfl ?_))) <;> (refine .nil (.intro rfl ?_)))
    | (refine WCX.region (id := 3) ?_; ((refine .cons (qc rfl ?_ ?_)) <;> intro _) <;> ((refine .cons (q hX rfl ?_))) <;> (refine .nil (.intro rfl ?_)))
    | (refine WCX.region (id := 4) ?_; ((refine .cons (qc rfl ?_ ?_)) <;> intro _) <;> ((refine .cons (q hX rfl ?_))) <;> (refine .nil (.intro rfl ?_)))
    | (refine WCX.region (id := 5) ?_; (iterate 2 (refine .cons (q hX rfl ?_))) <;> (refine .nil (.intro rfl ?_)))
    | (refine WCX.region (id := 6) ?_; ((refine .cons (qc rfl ?_ ?_)) <;> intro _) <;> ((refine .cons (q hX rfl ?_))) <;> (refine .nil (.intro rfl ?_)))
    | (refine WCX.region (id := 7) ?_; (iterate 2 (refine .cons (q hX rfl ?_))) <;> (refine .nil (.intro rfl ?_)))
    | (refine WCX.region (id := 8) ?_; ((refine .cons (qc rfl ?_ ?_)) <;> intro _) <;> ((refine .cons (q hX rfl ?_))) <;> (refine .nil (.intro rfl ?_)))
    | (refine WCX.region (id := 9) ?_; (iterate 2 (refine .cons (q hX rfl ?_))) <;> (refine .nil (.intro rfl ?_)))
    | (refine WCX.region (id := 10) ?_; ((refine .cons (qc rfl ?_ ?_)) <;> intro _) <;> ((refine .cons (q hX rfl ?_))) <;> (refine .nil (.intro rfl ?_)))
    | (refine WCX.region (id := 11) ?_; (iterate 2 (refine .cons (q hX rfl ?_))) <;> (refine .nil (.intro rfl ?_)))
    | (refine WCX.region (id := 12) ?_; (iterate 2 (refine .cons (q hX rfl ?_))) <;> (refine .nil (.intro rfl ?_)))
    | refine WCX.ret ?_
    | refine ToX.ret_seq ?_
    | refine ToX.ret_block ?_
    | refine WCX.cond_true rfl ?_
    | refine WCX.cond_false rfl ?_
    | refine WCX.skip ?_
    | refine WCX.block ?_
    | refine ToX.nrm_block ?_
    | refine ToX.fn_ret hX rfl ?_)
  all_goals (intro h f; refine ⟨?_, f.chg⟩; clear f; first | (simp_all [resV, neutM]; done) | (simp_all [resV, neutM]; omega) | (simp_all [resV, neutM]; intros; exfalso; omega) | (simp_all [resV, neutM]; split <;> intros <;> first | omega | (exfalso; omega) | simp_all))
theorem folds_run (hK : KN base K) (op : Int) (h : Heap) (w : Wf h) : Sp P K 79 [.int .i64 op] h (Val (.bool (foldsM op)) h) := by
  refine Sp.start (m := 21) (n := 11) w (hK.none 79 rfl rfl _ _) Tryz.func79 rfl rfl mask79 rfl rfl ?_
  repeat' (first
    | refine ToX.nrm_seq ?_
    | refine WCX.seq ?_
    | (refine WCX.region (id := 0) ?_; ((refine .cons (q hX rfl ?_))) <;> (refine .nil (.intro rfl ?_)))
    | (refine WCX.region (id := 1) ?_; ((refine .cons (q hX rfl ?_))) <;> ((refine .cons (qcallV rfl rfl rfl rfl ca151 rfl rfl (fun h f => neutral_run hK _ h f.wf) ?_))) <;> (iterate 5 (refine .cons (q hX rfl ?_))) <;> (refine .nil (.intro rfl ?_)))
    | (refine WCX.region (id := 2) ?_; (iterate 2 (refine .cons (q hX rfl ?_))) <;> (refine .nil (.intro rfl ?_)))
    | refine WCX.ret ?_
    | refine ToX.fn_ret hX rfl ?_)
  all_goals (intro h f; refine ⟨?_, f.chg⟩; clear f; first | (simp_all [resV, foldsM]; done) | (simp_all [resV, foldsM]; omega) | (simp_all [resV, foldsM]; intros; exfalso; omega) | (simp_all [resV, foldsM]; split <;> intros <;> first | omega | (exfalso; omega) | simp_all))
theorem folds2_run (hK : KN base K) (op : Int) (h : Heap) (w : Wf h) : Sp P K 154 [.int .i64 op] h (Val (.bool (foldsM op)) h) := by
  refine Sp.start (m := 21) (n := 11) w (hK.none 154 rfl rfl _ _) Tryz.func154 rfl rfl mask154 rfl rfl ?_
  repeat' (first
    | refine ToX.nrm_seq ?_
    | refine WCX.seq ?_
    | (refine WCX.region (id := 0) ?_; ((refine .cons (q hX rfl ?_))) <;> (refine .nil (.intro rfl ?_)))
    | (refine WCX.region (id := 1) ?_; ((refine .cons (q hX rfl ?_))) <;> ((refine .cons (qcallV rfl rfl rfl rfl ca244 rfl rfl (fun h f => neutral2_run hK _ h f.wf) ?_))) <;> (iterate 5 (refine .cons (q hX rfl ?_))) <;> (refine .nil (.intro rfl ?_)))
    | (refine WCX.region (id := 2) ?_; (iterate 2 (refine .cons (q hX rfl ?_))) <;> (refine .nil (.intro rfl ?_)))
    | refine WCX.ret ?_
    | refine ToX.fn_ret hX rfl ?_)
  all_goals (intro h f; refine ⟨?_, f.chg⟩; clear f; first | (simp_all [resV, foldsM]; done) | (simp_all [resV, foldsM]; omega) | (simp_all [resV, foldsM]; intros; exfalso; omega) | (simp_all [resV, foldsM]; split <;> intros <;> first | omega | (exfalso; omega) | simp_all))
def unaryM (op : Int) : Bool := decide (0 ≤ op ∧ op < 3)
def binaryM (op : Int) : Bool := decide (0 ≤ op ∧ op < 20)
theorem isUnary_run (hK : KN base K) (op : Int) (h : Heap) (w : Wf h) : Sp P K 146 [.int .i64 op] h (Val (.bool (unaryM op)) h) := by
  refine Sp.start (m := 5) (n := 9) w (hK.none 146 rfl rfl _ _) Tryz.func146 rfl rfl mask146 rfl rfl ?_
  repeat' (first
    | refine ToX.nrm_seq ?_
    | refine WCX.seq ?_
    | (refine WCX.region (id := 0) ?_; ((refine .cons (q hX rfl ?_))) <;> (refine .nil (.intro rfl ?_)))
    | (refine WCX.region (id := 1) ?_; ((refine .cons (q hX rfl ?_))) <;> ((refine .cons (qc rfl ?_ ?_)) <;> intro _) <;> (iterate 2 (refine .cons (q hX rfl ?_))) <;> (first | (refine .cons (q hX rfl ?_)) | (refine .cons (qc rfl ?_ ?_)) <;> intro _) <;> (iterate 2 (refine .cons (q hX rfl ?_))) <;> (refine .nil (.intro rfl ?_)))
    | refine WCX.ret ?_
    | refine ToX.fn_ret hX rfl ?_)
  all_goals (intro h f; refine ⟨?_, f.chg⟩; clear f; first | (simp_all [resV, unaryM]; done) | (simp_all [resV, unaryM]; omega) | (simp_all [resV, unaryM]; intros; exfalso; omega) | (simp_all [resV, unaryM]; split <;> intros <;> first | omega | (exfalso; omega) | simp_all))
theorem isBinary_run (hK : KN base K) (op : Int) (h : Heap) (w : Wf h) : Sp P K 147 [.int .i64 op] h (Val (.bool (binaryM op)) h) := by
  refine Sp.start (m := 5) (n := 9) w (hK.none 147 rfl rfl _ _) Tryz.func147 rfl rfl mask147 rfl rfl ?_
  repeat' (first
    | refine ToX.nrm_seq ?_
    | refine WCX.seq ?_
    | (refine WCX.region (id := 0) ?_; ((refine .cons (q hX rfl ?_))) <;> (refine .nil (.intro rfl ?_)))
    | (refine WCX.region (id := 1) ?_; ((refine .cons (q hX rfl ?_))) <;> ((refine .cons (qc rfl ?_ ?_)) <;> intro _) <;> (iterate 2 (refine .cons (q hX rfl ?_))) <;> (first | (refine .cons (q hX rfl ?_)) | (refine .cons (qc rfl ?_ ?_)) <;> intro _) <;> (iterate 2 (refine .cons (q hX rfl ?_))) <;> (refine .nil (.intro rfl ?_)))
    | refine WCX.ret ?_
    | refine ToX.fn_ret hX rfl ?_)
  all_goals (intro h f; refine ⟨?_, f.chg⟩; clear f; first | (simp_all [resV, binaryM]; done) | (simp_all [resV, binaryM]; omega) | (simp_all [resV, binaryM]; intros; exfalso; omega) | (simp_all [resV, binaryM]; split <;> intros <;> first | omega | (exfalso; omega) | simp_all))
def hasM (k : Int) : Bool × Bool × Bool := (decide (k = 0 ∨ k = 4 ∨ k = 5 ∨ k = 11 ∨ k = 1 ∨ k = 2 ∨ k = 6 ∨ k = 10 ∨ k = 3), decide (k = 1 ∨ k = 2 ∨ k = 6 ∨ k = 10 ∨ k = 3 ∨ k = 7 ∨ k = 8 ∨ k = 12 ∨ k = 14), decide (k = 3 ∨ k = 7 ∨ k = 8))
theorem has_run (hK : KN base K) (k : Int) (h : Heap) (w : Wf h) : Sp P K 38 [.int .i64 k] h (Val (.tuple [.bool (hasM k).1, .bool (hasM k).2.1, .bool (hasM k).2.2]) h) := by
  refine Sp.start (m := 2427005) (n := 24) w (hK.none 38 rfl rfl _ _) Tryz.func38 rfl rfl mask38 rfl rfl ?_
  repeat' (first
    | refine ToX.nrm_seq ?_
    | refine WCX.seq ?_
    | (refine WCX.region (id := 0) ?_; (iterate 3 (refine .cons (q hX rfl ?_))) <;> (refine .nil (.intro rfl ?_)))
    | (refine WCX.region (id := 1) ?_; ((refine .cons (q hX rfl ?_))) <;> (refine .nil (.intro rfl ?_)))
    | (refine WCX.region (id := 2) ?_; ((refine .cons (qc rfl ?_ ?_)) <;> intro _) <;> ((refine .cons (q hX rfl ?_))) <;> (refine .nil (.intro rfl ?_)))
    | (refine WCX.region (id := 3) ?_; ((refine .cons (qc rfl ?_ ?_)) <;> intro _) <;> ((refine .cons (q hX rfl ?_))) <;> (refine .nil (.intro rfl ?_)))
    | (refine WCX.region (id := 4) ?_; ((refine .cons (qc rfl ?_ ?_)) <;> intro _) <;> ((refine .cons (q hX rfl ?_))) <;> (refine .nil (.intro rfl ?_)))
    | (refine WCX.region (id := 5) ?_; ((refine .cons (qc rfl ?_ ?_)) <;> intro _) <;> ((refine .cons (q hX rfl ?_))) <;> (refine .nil (.intro rfl ?_)))
    | (refine WCX.region (id := 6) ?_; (iterate 3 (refine .cons (q hX rfl ?_))) <;> (refine .nil (.intro rfl ?_)))
    | (refine WCX.region (id := 7) ?_; ((refine .cons (qc rfl ?_ ?_)) <;> intro _) <;> ((refine .cons (q hX rfl ?_))) <;> (refine .nil (.intro rfl ?_)))
    | (refine WCX.region (id := 8) ?_; ((refine .cons (qc rfl ?_ ?_)) <;> intro _) <;> ((refine .cons (q hX rfl ?_))) <;> (refine .nil (.intro rfl ?_)))
    | (refine WCX.region (id := 9) ?_; ((refine .cons (qc rfl ?_ ?_)) <;> intro _) <;> ((refine .cons (q hX rfl ?_))) <;> (refine .nil (.intro rfl ?_)))
    | (refine WCX.region (id := 10) ?_; ((refine .cons (qc rfl ?_ ?_)) <;> intro _) <;> ((refine .cons (q hX rfl ?_))) <;> (refine .nil (.intro rfl ?_)))
    | (refine WCX.region (id := 11) ?_; (iterate 3 (refine .cons (q hX rfl ?_))) <;> (refine .nil (.intro rfl ?_)))
    | (refine WCX.region (id := 12) ?_; ((refine .cons (qc rfl ?_ ?_)) <;> intro _) <;> ((refine .cons (q hX rfl ?_))) <;> (refine .nil (.intro rfl ?_)))
    | (refine WCX.region (id := 13) ?_; (iterate 3 (refine .cons (q hX rfl ?_))) <;> (refine .nil (.intro rfl ?_)))
    | (refine WCX.region (id := 14) ?_; ((refine .cons (qc rfl ?_ ?_)) <;> intro _) <;> ((refine .cons (q hX rfl ?_))) <;> (refine .nil (.intro rfl ?_)))
    | (refine WCX.region (id := 15) ?_; ((refine .cons (qc rfl ?_ ?_)) <;> intro _) <;> ((refine .cons (q hX rfl ?_))) <;> (refine .nil (.intro rfl ?_)))
    | (refine WCX.region (id := 16) ?_; (iterate 3 (refine .cons (q hX rfl ?_))) <;> (refine .nil (.intro rfl ?_)))
    | (refine WCX.region (id := 17) ?_; ((refine .cons (qc rfl ?_ ?_)) <;> intro _) <;> ((refine .cons (q hX rfl ?_))) <;> (refine .nil (.intro rfl ?_)))
    | (refine WCX.region (id := 18) ?_; ((refine .cons (qc rfl ?_ ?_)) <;> intro _) <;> ((refine .cons (q hX rfl ?_))) <;> (refine .nil (.intro rfl ?_)))
    | (refine WCX.region (id := 19) ?_; (iterate 3 (refine .cons (q hX rfl ?_))) <;> (refine .nil (.intro rfl ?_)))
    | (refine WCX.region (id := 20) ?_; (iterate 3 (refine .cons (q hX rfl ?_))) <;> (refine .nil (.intro rfl ?_)))
    | refine WCX.ret ?_
    | refine ToX.ret_seq ?_
    | refine ToX.ret_block ?_
    | refine WCX.cond_true rfl ?_
    | refine WCX.cond_false rfl ?_
    | refine WCX.skip ?_
    | refine WCX.block ?_
    | refine ToX.nrm_block ?_
    | refine ToX.fn_ret hX rfl ?_)
  all_goals (intro h f; refine ⟨?_, f.chg⟩; clear f; first | (simp_all [resV, hasM]; done) | (simp_all [resV, hasM]; omega) | (simp_all [resV, hasM]; intros; exfalso; omega) | (simp_all [resV, hasM]; split <;> intros <;> first | omega | (exfalso; omega) | simp_all))
def signM (how op : Int) : Bool := if how = 1 then unaryM op else if how = 2 then binaryM op else if how = 3 then decide (0 ≤ op ∧ op < 4) else if how = 4 then foldsM op else decide (op = 0)
theorem sign_run (hK : KN base K) (how op : Int) (h : Heap) (w : Wf h) : Sp P K 84 [.int .i64 how, .int .i64 op] h (Val (.bool (signM how op)) h) := by
  refine Sp.start (m := 4211827) (n := 28) w (hK.none 84 rfl rfl _ _) Tryz.func84 rfl rfl mask84 rfl rfl ?_
  repeat' (first
    | refine ToX.nrm_seq ?_
    | refine WCX.seq ?_
    | (refine WCX.region (id := 0) ?_; ((refine .cons (q hX rfl ?_))) <;> (refine .nil (.intro rfl ?_)))
    | (refine WCX.region (id := 1) ?_; ((refine .cons (q hX rfl ?_))) <;> (refine .nil (.intro rfl ?_)))
    | (refine WCX.region (id := 2) ?_; ((refine .cons (qc rfl ?_ ?_)) <;> intro _) <;> ((refine .cons (q hX rfl ?_))) <;> (refine .nil (.intro rfl ?_)))
    | (refine WCX.region (id := 3) ?_; ((refine .cons (q hX rfl ?_))) <;> ((refine .cons (qcallB rfl rfl rfl rfl ca146 rfl rfl (fun h f => isUnary_run hK _ h f.wf) ?_ ?_)) <;> intro _) <;> ((refine .cons (q hX rfl ?_))) <;> (refine .nil (.intro rfl ?_)))
    | (refine WCX.region (id := 4) ?_; ((refine .cons (qc rfl ?_ ?_)) <;> intro _) <;> ((refine .cons (q hX rfl ?_))) <;> (refine .nil (.intro rfl ?_)))
    | (refine WCX.region (id := 5) ?_; ((refine .cons (q hX rfl ?_))) <;> ((refine .cons (qcallB rfl rfl rfl rfl ca147 rfl rfl (fun h f => isBinary_run hK _ h f.wf) ?_ ?_)) <;> intro _) <;> ((refine .cons (q hX rfl ?_))) <;> (refine .nil (.intro rfl ?_)))
    | (refine WCX.region (id := 6) ?_; ((refine .cons (qc rfl ?_ ?_)) <;> intro _) <;> ((refine .cons (q hX rfl ?_))) <;> (refine .nil (.intro rfl ?_)))
    | (refine WCX.region (id := 7) ?_; ((refine .cons (q hX rfl ?_))) <;> ((refine .cons (qc rfl ?_ ?_)) <;> intro _) <;> (iterate 2 (refine .cons (q hX rfl ?_))) <;> (first | (refine .cons (q hX rfl ?_)) | (refine .cons (qc rfl ?_ ?_)) <;> intro _) <;> (iterate 2 (refine .cons (q hX rfl ?_))) <;> (refine .nil (.intro rfl ?_)))
    | (refine WCX.region (id := 8) ?_; ((refine .cons (qc rfl ?_ ?_)) <;> intro _) <;> ((refine .cons (q hX rfl ?_))) <;> (refine .nil (.intro rfl ?_)))
    | (refine WCX.region (id := 9) ?_; ((refine .cons (q hX rfl ?_))) <;> ((refine .cons (qcallB rfl rfl rfl rfl ca154 rfl rfl (fun h f => folds2_run hK _ h f.wf) ?_ ?_)) <;> intro _) <;> ((refine .cons (q hX rfl ?_))) <;> (refine .nil (.intro rfl ?_)))
    | (refine WCX.region (id := 10) ?_; ((refine .cons (q hX rfl ?_))) <;> ((refine .cons (qc rfl ?_ ?_)) <;> intro _) <;> ((refine .cons (q hX rfl ?_))) <;> (refine .nil (.intro rfl ?_)))
    | refine WCX.ret ?_
    | refine ToX.ret_seq ?_
    | refine ToX.ret_block ?_
    | refine WCX.cond_true rfl ?_
    | refine WCX.cond_false rfl ?_
    | refine WCX.skip ?_
    | refine WCX.block ?_
    | refine ToX.nrm_block ?_
    | refine ToX.fn_ret hX rfl ?_)
  all_goals (intro h f; refine ⟨?_, f.chg⟩; clear f; first | (simp_all [resV, signM]; done) | (simp_all [resV, signM]; omega) | (simp_all [resV, signM]; intros; exfalso; omega) | (simp_all [resV, signM]; split <;> intros <;> first | omega | (exfalso; omega) | simp_all))
def withinM (used : Bool) (n lim : Int) : Bool := if used then decide (0 ≤ n ∧ n < lim) else decide (n = 0)
theorem within_run (hK : KN base K) (used : Bool) (n lim : Int) (h : Heap) (w : Wf h) : Sp P K 80 [.bool used, .int .i64 n, .int .i64 lim] h (Val (.bool (withinM used n lim)) h) := by
  cases used
  all_goals
    refine Sp.start (m := 327) (n := 18) w (hK.none 80 rfl rfl _ _) Tryz.func80 rfl rfl mask80 rfl rfl ?_
    repeat' (first
      | refine ToX.nrm_seq ?_
      | refine WCX.seq ?_
      | (refine WCX.region (id := 0) ?_; ((refine .cons (q hX rfl ?_))) <;> (refine .nil (.intro rfl ?_)))
      | (refine WCX.region (id := 1) ?_; (iterate 2 (refine .cons (q hX rfl ?_))) <;> (refine .nil (.intro rfl ?_)))
      | (refine WCX.region (id := 2) ?_; ((refine .cons (q hX rfl ?_))) <;> ((refine .cons (qc rfl ?_ ?_)) <;> intro _) <;> ((refine .cons (q hX rfl ?_))) <;> (refine .nil (.intro rfl ?_)))
      | (refine WCX.region (id := 3) ?_; ((refine .cons (q hX rfl ?_))) <;> ((refine .cons (qc rfl ?_ ?_)) <;> intro _) <;> (iterate 3 (refine .cons (q hX rfl ?_))) <;> (first | (refine .cons (q hX rfl ?_)) | (refine .cons (qc rfl ?_ ?_)) <;> intro _) <;> (iterate 2 (refine .cons (q hX rfl ?_))) <;> (refine .nil (.intro rfl ?_)))
      | refine WCX.ret ?_
      | refine ToX.ret_seq ?_
      | refine WCX.cond_true rfl ?_
      | refine WCX.cond_false rfl ?_
      | refine WCX.skip ?_
      | refine ToX.fn_ret hX rfl ?_)
    all_goals (intro h f; refine ⟨?_, f.chg⟩; clear f; first | (simp_all [resV, withinM]; done) | (simp_all [resV, withinM]; omega) | (simp_all [resV, withinM]; intros; exfalso; omega) | (simp_all [resV, withinM]; split <;> intros <;> first | omega | (exfalso; omega) | simp_all))
theorem reg_run (hK : KN base K) (used : Bool) (n : Int) (h : Heap) (w : Wf h) : Sp P K 39 [.bool used, .int .i64 n] h (Val (.bool (withinM used n 16)) h) := by
  cases used
  all_goals
    refine Sp.start (m := 19) (n := 22) w (hK.none 39 rfl rfl _ _) Tryz.func39 rfl rfl mask39 rfl rfl ?_
    repeat' (first
      | refine ToX.nrm_seq ?_
      | refine WCX.seq ?_
      | (refine WCX.region (id := 0) ?_; ((refine .cons (q hX rfl ?_))) <;> (refine .nil (.intro rfl ?_)))
      | (refine WCX.region (id := 1) ?_; (iterate 3 (refine .cons (q hX rfl ?_))) <;> (first | (refine .cons (q hX rfl ?_)) | (refine .cons (qc rfl ?_ ?_)) <;> intro _) <;> (iterate 3 (refine .cons (q hX rfl ?_))) <;> (first | (refine .cons (q hX rfl ?_)) | (refine .cons (qc rfl ?_ ?_)) <;> intro _) <;> (iterate 6 (refine .cons (q hX rfl ?_))) <;> (first | (refine .cons (q hX rfl ?_)) | (refine .cons (qc rfl ?_ ?_)) <;> intro _) <;> (iterate 3 (refine .cons (q hX rfl ?_))) <;> (refine .nil (.intro rfl ?_)))
      | refine WCX.ret ?_
      | refine ToX.fn_ret hX rfl ?_)
    all_goals (intro h f; refine ⟨?_, f.chg⟩; clear f; first | (simp_all [resV, withinM]; done) | (simp_all [resV, withinM]; omega) | (simp_all [resV, withinM]; intros; exfalso; omega) | (simp_all [resV, withinM]; split <;> intros <;> first | omega | (exfalso; omega) | simp_all))
end Em
end Go.HL
namespace Go.HL
open Go Go.Proofs
namespace Em
set_option maxRecDepth 10000
variable {K : CallFn} {base : List (Nat × HObj)}
theorem fs9 : KeyFine P 9 strKey := fine_str (tab_str hT (t := 9) rfl)
theorem zh4 : zeroH P 4 = some (.bool false) := by kernel_rfl
structure NameOk (p : Nat × Nat) : Prop where
  len : p.1 ≤ 1152921504606846976
  zero : 0 < p.1 ∨ p.2 = 0
def scell (p : Nat × Nat) : List HVal := [.str p.1 p.2]
def noStr : Nat × Nat := (0, 0)
def inM (p : Nat × Nat) (l : List (Nat × Nat)) : Bool := l.any fun q => decide (q = p)
theorem in_run (hK : KN base K) (p : Nat × Nat) (l : List (Nat × Nat)) (v : HVal) (h : Heap) (w : Wf h) (hs : (rd v 1 (l.map scell)).holds h) (hb : l.length ≤ 1152921504606846976) : Sp P K 83 [.str p.1 p.2, v] h (Val (.bool (inM p l)) h) := by
  have ll := rd_len hs
  refine Sp.start (m := 131635) (n := 18) w (hK.none 83 rfl rfl _ _) Tryz.func83 rfl rfl mask83 rfl rfl ?_
  repeat' (first
    | refine ToX.nrm_seq ?_
    | refine WCX.seq ?_
    | (refine WCX.region (id := 0) ?_; ((refine .cons (q hX rfl ?_))) <;> (refine .nil (.intro rfl ?_)))
    | (refine WCX.region (id := 1) ?_; ((refine .cons (q hX rfl ?_))) <;> (refine .nil (.intro rfl ?_)))
    | refine WCX.block ?_)
  refine WCX.loop (fun i => [(0, .ext (.str p.1 p.2)), (1, .ext v), (5, .ext (i64 i))]) (fun _ => []) (fun _ => []) (fun i => i ≤ l.length ∧ inM p l = (l.drop i).any fun q => decide (q = p)) (fun i => l.length - i) 0 ⟨⟨rfl, rfl, rfl, trivial⟩, ⟨_, rfl⟩, ⟨_, .nil⟩⟩ ⟨Nat.zero_le _, rfl⟩ (fun _ => rfl) (fun _ => rfl) (fun _ => rfl) ?_
  rintro i ⟨hi, he⟩ next
  repeat' (first
    | refine ToX.nrm_seq ?_
    | refine WCX.seq ?_
    | (refine WCX.region (id := 2) ?_; (iterate 2 (refine .cons (q hX rfl ?_))) <;> ((refine .cons (ql hX rfl rfl rfl rfl rfl rfl (by assumption) rfl rfl ?_))) <;> ((refine .cons (qc rfl ?_ ?_)) <;> intro _) <;> (refine .nil (.intro rfl ?_)))
    | (refine WCX.region (id := 4) ?_; (iterate 2 (refine .cons (q hX rfl ?_))) <;> ((refine .cons (qidx hX rfl rfl rfl rfl rfl (.of hs) (row_i noStr (by omega)) rfl rfl rfl ?_))) <;> (iterate 2 (refine .cons (q hX rfl ?_))) <;> ((refine .cons (qc rfl ?_ ?_)) <;> intro _) <;> (refine .nil (.intro rfl ?_)))
    | (refine WCX.region (id := 5) ?_; ((refine .cons (q hX rfl ?_))) <;> (refine .nil (.intro rfl ?_)))
    | (refine WCX.region (id := 3) ?_; ((refine .cons (q hX rfl ?_))) <;> ((refine .cons (qa rfl rfl rfl rfl rfl (wrapF_i64 (by first | omega | (simp only [Int.ofNat_eq_natCast]; omega)) (by first | omega | (simp only [Int.ofNat_eq_natCast]; omega))) rfl rfl ?_))) <;> ((refine .cons (q hX rfl ?_))) <;> (refine .nil (.intro rfl ?_)))
    | (refine WCX.region (id := 6) ?_; ((refine .cons (q hX rfl ?_))) <;> (refine .nil (.intro rfl ?_)))
    | refine WCX.ret ?_
    | refine ToX.ret_seq ?_
    | refine ToX.ret_block ?_
    | refine WCX.cond_true rfl ?_
    | refine WCX.cond_false rfl ?_
    | refine WCX.skip ?_
    | refine WCX.block ?_
    | refine WCX.exit ?_
    | refine ToX.exit_seq ?_
    | refine ToX.exit_block ?_
    | refine ToX.nrm_block ?_
    | refine ToX.fn_ret hX rfl ?_)
  · clear next
    refine fun h f => ⟨?_, f.chg⟩
    rw [he, any_step _ (by omega) noStr, decide_eq_true (Prod.ext_iff.2 (by assumption))]; rfl
  · refine next (i + 1) _ _ _ (by omega) ⟨⟨rfl, rfl, rfl, trivial⟩, ⟨_, rfl⟩, ⟨_, .nil⟩⟩ ⟨by omega, ?_⟩
    rw [he, any_step _ (by omega) noStr, decide_eq_false (fun e => absurd (Prod.ext_iff.1 e) (by assumption))]; rfl
  · exact fun h f => ⟨by rw [he, List.drop_of_length_le (by omega)]; rfl, f.chg⟩
theorem refWords_run (hK : KN base K) (h : Heap) (w : Wf h) : Sp P K 243 [] h (Tr (fun v C' => ∃ k, v = .slice k 0 25 (some 25) ∧ C' = [ownS 9 1 (.slice k 0 25 (some 25)) (wordList.map scell)]) h) := by
  refine Sp.start (m := 1) (n := 2) w (hK.none 243 rfl rfl _ _) Tryz.func243 rfl rfl mask243 rfl rfl ?_
  repeat' (first
    | refine ToX.nrm_seq ?_
    | refine WCX.seq ?_
    | (refine WCX.region (id := 0) ?_; ((refine .cons (q hX rfl ?_))) <;> (refine .nil (.intro rfl ?_)))
    | (refine WCX.region (id := 1) ?_; (iterate 2 (refine .cons (q hX rfl ?_))) <;> (refine .nil (.intro rfl ?_)))
    | refine WCX.ret ?_)
  refine ToX.leak 0 (fun k => ownS 9 1 (.slice k 0 25 (some 25)) (wordList.map scell)) rfl (fun k => .own rfl (by intro r hr; obtain ⟨q, _, rfl⟩ := List.mem_map.1 hr; rfl) rfl) (fun _ => rfl) rfl fun k => ?_
  refine ToX.fn_ret hX rfl ?_
  exact fun h f => ⟨_, f.chg, k, rfl, rfl⟩
theorem words_run (hK : KN base K) (h : Heap) (w : Wf h) (hB : (lies base).holds h) : Sp P K 149 [] h (Tr (fun v C' => ∃ k, v = .map k ∧ C' = [mapB strKey k ((wordList.map fun q => (q, true)).map cellB)]) h) :=
  ⟨_, _, .known (hK.words h hB), [mapB strKey h.next ((wordList.map fun q => (q, true)).map cellB)], chg_new _ (made_new w _) ⟨_, _, (made_new w _).get, ents_zip _ _⟩ (fun j e => e), _, rfl, rfl⟩
def byteM (p : Nat × Nat) (i : Nat) : Int := Int.ofNat (sIndex p.1 p.2 i)
def restM (p : Nat × Nat) (i : Nat) : Bool := ((List.range p.1).drop i).all fun i => innerM (byteM p i)
theorem restM_step {p : Nat × Nat} {i : Nat} (hi : i < p.1) : restM p i = (innerM (byteM p i) && restM p (i + 1)) := by
  unfold restM
  rw [all_step _ (by simpa using hi) 0]
  simp [List.getD, hi]
theorem restM_end {p : Nat × Nat} {i : Nat} (hi : p.1 ≤ i) : restM p i = true := by
  unfold restM
  rw [List.drop_of_length_le (by simpa using hi)]; rfl
def shapedM (p : Nat × Nat) : Bool := !decide (p.1 = 0) && letterM (byteM p 0) && restM p 0
theorem shaped_run (hK : KN base K) (p : Nat × Nat) (hp : NameOk p) (h : Heap) (w : Wf h) : Sp P K 242 [.str p.1 p.2] h (Val (.bool (shapedM p)) h) := by
  have hp1 := hp.len
  have hp2 := hp.zero
  refine Sp.start (m := 4229133) (n := 23) w (hK.none 242 rfl rfl _ _) Tryz.func242 rfl rfl mask242 rfl rfl ?_
  repeat' (first
    | refine ToX.nrm_seq ?_
    | refine WCX.seq ?_
    | (refine WCX.region (id := 0) ?_; ((refine .cons (q hX rfl ?_))) <;> (refine .nil (.intro rfl ?_)))
    | (refine WCX.region (id := 1) ?_; ((refine .cons (q hX rfl ?_))) <;> ((refine .cons (qce (u' := 0) (c' := 0) rfl rfl rfl rfl rfl ?_ ?_)) <;> intro _) <;> (iterate 2 (refine .cons (q hX rfl ?_))) <;> (first | (refine .cons (q hX rfl ?_)) | (refine .cons (qs hX rfl rfl rfl rfl (by first | omega | (simp only [Int.ofNat_eq_natCast]; omega)) rfl rfl ?_))) <;> (first | (refine .cons (q hX rfl ?_)) | (refine .cons (qcallB rfl rfl rfl rfl ca310 rfl rfl (fun h f => letter2_run hK _ h f.wf) ?_ ?_)) <;> intro _) <;> (iterate 2 (refine .cons (q hX rfl ?_))) <;> (refine .nil (.intro rfl ?_)))
    | (refine WCX.region (id := 2) ?_; ((refine .cons (q hX rfl ?_))) <;> (refine .nil (.intro rfl ?_)))
    | (refine WCX.region (id := 3) ?_; ((refine .cons (q hX rfl ?_))) <;> (refine .nil (.intro rfl ?_)))
    | refine WCX.ret ?_
    | refine ToX.ret_seq ?_
    | refine WCX.cond_true rfl ?_
    | refine WCX.cond_false rfl ?_
    | refine WCX.skip ?_
    | refine WCX.block ?_
    | refine ToX.fn_ret hX rfl ?_)
  · exact fun h f => ⟨by simp_all [resV, shapedM], f.chg⟩
  all_goals try (refine fun h f => ⟨?_, f.chg⟩; clear f; simp only [resV]; unfold shapedM byteM; simp_all; done)
  refine WCX.loop (fun i => [(0, .ext (.str p.1 p.2)), (3, .ext (i64 i))]) (fun _ => []) (fun _ => []) (fun i => i ≤ p.1 ∧ shapedM p = restM p i) (fun i => p.1 - i) 0 ⟨⟨rfl, rfl, trivial⟩, ⟨_, rfl⟩, ⟨_, .nil⟩⟩ ⟨Nat.zero_le _, by (have : ¬ p.1 = 0 := by omega); unfold shapedM byteM; simp_all⟩ (fun _ => rfl) (fun _ => rfl) (fun _ => rfl) ?_
  rintro i ⟨hi, he⟩ next
  repeat' (first
    | refine ToX.nrm_seq ?_
    | refine WCX.seq ?_
    | (refine WCX.region (id := 4) ?_; (iterate 3 (refine .cons (q hX rfl ?_))) <;> ((refine .cons (qc rfl ?_ ?_)) <;> intro _) <;> (refine .nil (.intro rfl ?_)))
    | (refine WCX.region (id := 6) ?_; (iterate 2 (refine .cons (q hX rfl ?_))) <;> ((refine .cons (qs hX rfl rfl rfl rfl (by first | omega | (simp only [Int.ofNat_eq_natCast]; omega)) rfl rfl ?_))) <;> ((refine .cons (qcallB rfl rfl rfl rfl ca314 rfl rfl (fun h f => inner2_run hK _ h f.wf) ?_ ?_)) <;> intro _) <;> ((refine .cons (q hX rfl ?_))) <;> (refine .nil (.intro rfl ?_)))
    | (refine WCX.region (id := 7) ?_; ((refine .cons (q hX rfl ?_))) <;> (refine .nil (.intro rfl ?_)))
    | (refine WCX.region (id := 5) ?_; ((refine .cons (q hX rfl ?_))) <;> ((refine .cons (qa rfl rfl rfl rfl rfl (wrapF_i64 (by first | omega | (simp only [Int.ofNat_eq_natCast]; omega)) (by first | omega | (simp only [Int.ofNat_eq_natCast]; omega))) rfl rfl ?_))) <;> ((refine .cons (q hX rfl ?_))) <;> (refine .nil (.intro rfl ?_)))
    | (refine WCX.region (id := 8) ?_; ((refine .cons (q hX rfl ?_))) <;> (refine .nil (.intro rfl ?_)))
    | refine WCX.ret ?_
    | refine ToX.ret_seq ?_
    | refine ToX.ret_block ?_
    | refine WCX.cond_true rfl ?_
    | refine WCX.cond_false rfl ?_
    | refine WCX.skip ?_
    | refine WCX.block ?_
    | refine WCX.exit ?_
    | refine ToX.exit_seq ?_
    | refine ToX.exit_block ?_
    | refine ToX.nrm_block ?_
    | refine ToX.fn_ret hX rfl ?_)
  · refine next (i + 1) _ _ _ (by omega) ⟨⟨rfl, rfl, trivial⟩, ⟨_, rfl⟩, ⟨_, .nil⟩⟩ ⟨by omega, ?_⟩
    clear next
    rw [he, restM_step (by omega)]; unfold byteM; simp_all
  · clear next
    refine fun h f => ⟨?_, f.chg⟩
    clear f
    rw [he, restM_step (by omega)]; unfold byteM; simp_all [resV]
  · exact fun h f => ⟨by rw [he, restM_end (by omega)]; rfl, f.chg⟩
def nameM (p : Nat × Nat) : Bool := shapedM p && decide (p.1 ≤ 16) && !inM p wordList
theorem refName_run (hK : KN base K) (p : Nat × Nat) (hp : NameOk p) (h : Heap) (w : Wf h) : Sp P K 153 [.str p.1 p.2] h (Val (.bool (nameM p)) h) := by
  have hp1 := hp.len
  refine Sp.start (m := 5) (n := 16) w (hK.none 153 rfl rfl _ _) Tryz.func153 rfl rfl mask153 rfl rfl ?_
  repeat' (first
    | refine ToX.nrm_seq ?_
    | refine WCX.seq ?_
    | (refine WCX.region (id := 0) ?_; ((refine .cons (q hX rfl ?_))) <;> (refine .nil (.intro rfl ?_)))
    | (refine WCX.region (id := 1) ?_; ((refine .cons (q hX rfl ?_))) <;> ((refine .cons (qcallB rfl rfl rfl rfl ca242 rfl rfl (fun h f => shaped_run hK p hp h f.wf) ?_ ?_)) <;> intro _) <;> (iterate 3 (refine .cons (q hX rfl ?_))) <;> (first | (refine .cons (q hX rfl ?_)) | (refine .cons (qc rfl ?_ ?_)) <;> intro _) <;> (iterate 3 (refine .cons (q hX rfl ?_))) <;> (first | (refine .cons (q hX rfl ?_)) | (refine .cons (qcall rfl rfl rfl rfl ca243 rfl rfl (fun h f => refWords_run hK h f.wf) ?_)) <;> (rintro v C' ⟨kw, rfl, rfl⟩)) <;> (first | (refine .cons (q hX rfl ?_)) | (refine .cons (qcallB rfl rfl rfl rfl ca83 rfl rfl (fun h f => in_run hK p wordList _ h f.wf (ownS.rd (f.pick .h)) (by decide)) ?_ ?_)) <;> intro _) <;> (iterate 3 (refine .cons (q hX rfl ?_))) <;> (refine .nil (.intro rfl ?_)))
    | refine WCX.ret ?_
    | refine ToX.fn_ret hX rfl ?_)
  all_goals (intro h f; refine ⟨?_, f.chg.picks .nil⟩; clear f; unfold nameM; first | (simp_all [resV]; done) | (simp_all [resV]; omega))
theorem lexName_run (hK : KN base K) (p : Nat × Nat) (hp : NameOk p) (h : Heap) (w : Wf h) (hB : (lies base).holds h) : Sp P K 78 [.str p.1 p.2] h (Val (.bool (nameM p)) h) := by
  have hp1 := hp.len
  have hp2 := hp.zero
  have hwl : inM p wordList = _ := (lookB_true wordList p).symm
  refine Sp.start (m := 2208301069) (n := 33) w (hK.none 78 rfl rfl _ _) Tryz.func78 rfl rfl mask78 rfl rfl ?_
  repeat' (first
    | refine ToX.nrm_seq ?_
    | refine WCX.seq ?_
    | (refine WCX.region (id := 0) ?_; ((refine .cons (q hX rfl ?_))) <;> (refine .nil (.intro rfl ?_)))
    | (refine WCX.region (id := 1) ?_; ((refine .cons (q hX rfl ?_))) <;> ((refine .cons (qce (u' := 0) (c' := 0) rfl rfl rfl rfl rfl ?_ ?_)) <;> intro _) <;> (iterate 3 (refine .cons (q hX rfl ?_))) <;> (first | (refine .cons (q hX rfl ?_)) | (refine .cons (qc rfl ?_ ?_)) <;> intro _) <;> (iterate 3 (refine .cons (q hX rfl ?_))) <;> (first | (refine .cons (q hX rfl ?_)) | (refine .cons (qs hX rfl rfl rfl rfl (by first | omega | (simp only [Int.ofNat_eq_natCast]; omega)) rfl rfl ?_))) <;> (first | (refine .cons (q hX rfl ?_)) | (refine .cons (qcallB rfl rfl rfl rfl ca148 rfl rfl (fun h f => letter_run hK _ h f.wf) ?_ ?_)) <;> intro _) <;> (iterate 3 (refine .cons (q hX rfl ?_))) <;> (first | (refine .cons (q hX rfl ?_)) | (refine .cons (qcall rfl rfl rfl rfl ca149 rfl rfl (fun h f => words_run hK h f.wf (f.ro (.of hB))) ?_)) <;> (rintro v C' ⟨kw, rfl, rfl⟩)) <;> ((refine .cons (q hX rfl ?_))) <;> (first | (refine .cons (q hX rfl ?_)) | (refine .cons (qlookB (a := p) hX rfl rfl fs9 zh4 rfl rfl .h rfl rfl ?_ ?_)) <;> (intro _)) <;> ((refine .cons (q hX rfl ?_))) <;> (refine .nil (.intro rfl ?_)))
    | (refine WCX.region (id := 2) ?_; ((refine .cons (q hX rfl ?_))) <;> (refine .nil (.intro rfl ?_)))
    | (refine WCX.region (id := 3) ?_; (iterate 3 (refine .cons (q hX rfl ?_))) <;> (refine .nil (.intro rfl ?_)))
    | refine WCX.ret ?_
    | refine ToX.ret_seq ?_
    | refine WCX.cond_true rfl ?_
    | refine WCX.cond_false rfl ?_
    | refine WCX.skip ?_
    | refine WCX.block ?_
    | refine ToX.fn_ret hX rfl ?_)
  all_goals try (refine fun h f => ⟨?_, f.chg.picks .nil⟩; clear f; simp only [resV]; unfold nameM; rw [hwl]; unfold shapedM byteM; simp_all; done)
  all_goals try (refine fun h f => ⟨?_, f.chg.picks .nil⟩; clear f; simp only [resV]; unfold nameM; rw [decide_eq_false (by omega)]; simp; done)
  refine WCX.loop (fun i => [(24, .ext (i64 i)), (0, .ext (.str p.1 p.2)), (23, .ext (i64 p.1))]) (fun _ => []) (fun _ => []) (fun i => i ≤ p.1 ∧ nameM p = restM p i) (fun i => p.1 - i) 0 ⟨⟨rfl, rfl, rfl, trivial⟩, ⟨_, rfl⟩, ⟨_, .nil⟩⟩ ⟨Nat.zero_le _, by (have : ¬ p.1 = 0 := by omega); (have h16 : p.1 ≤ 16 := by omega); unfold nameM; rw [hwl]; unfold shapedM byteM; clear hwl; simp_all⟩ (fun _ => rfl) (fun _ => rfl) (fun _ => rfl) ?_
  rintro i ⟨hi, he⟩ next
  repeat' (first
    | refine ToX.nrm_seq ?_
    | refine WCX.seq ?_
    | (refine WCX.region (id := 4) ?_; ((refine .cons (qc rfl ?_ ?_)) <;> intro _) <;> (refine .nil (.intro rfl ?_)))
    | (refine WCX.region (id := 5) ?_; (iterate 2 (refine .cons (q hX rfl ?_))) <;> (refine .nil (.intro rfl ?_)))
    | (refine WCX.region (id := 6) ?_; (iterate 2 (refine .cons (q hX rfl ?_))) <;> ((refine .cons (qs hX rfl rfl rfl rfl (by first | omega | (simp only [Int.ofNat_eq_natCast]; omega)) rfl rfl ?_))) <;> ((refine .cons (qcallB rfl rfl rfl rfl ca150 rfl rfl (fun h f => inner_run hK _ h f.wf) ?_ ?_)) <;> intro _) <;> ((refine .cons (q hX rfl ?_))) <;> (refine .nil (.intro rfl ?_)))
    | (refine WCX.region (id := 7) ?_; ((refine .cons (q hX rfl ?_))) <;> (refine .nil (.intro rfl ?_)))
    | (refine WCX.region (id := 8) ?_; ((refine .cons (qa rfl rfl rfl rfl rfl (wrapF_i64 (by first | omega | (simp only [Int.ofNat_eq_natCast]; omega)) (by first | omega | (simp only [Int.ofNat_eq_natCast]; omega))) rfl rfl ?_))) <;> ((refine .cons (q hX rfl ?_))) <;> (refine .nil (.intro rfl ?_)))
    | (refine WCX.region (id := 9) ?_; ((refine .cons (q hX rfl ?_))) <;> (refine .nil (.intro rfl ?_)))
    | refine WCX.ret ?_
    | refine ToX.ret_seq ?_
    | refine ToX.ret_block ?_
    | refine WCX.cond_true rfl ?_
    | refine WCX.cond_false rfl ?_
    | refine WCX.skip ?_
    | refine WCX.block ?_
    | refine WCX.exit ?_
    | refine ToX.exit_seq ?_
    | refine ToX.exit_block ?_
    | refine ToX.nrm_block ?_
    | refine ToX.fn_ret hX rfl ?_)
  · refine next (i + 1) _ _ _ (by omega) ⟨⟨rfl, rfl, rfl, trivial⟩, ⟨_, rfl⟩, ⟨_, .nil⟩⟩ ⟨by omega, ?_⟩
    clear next
    rw [he, restM_step (by omega)]; unfold byteM; simp_all
  · clear next
    refine fun h f => ⟨?_, f.chg⟩
    clear f
    rw [he, restM_step (by omega)]; unfold byteM; simp_all [resV]
  · exact fun h f => ⟨by rw [he, restM_end (by omega)]; rfl, f.chg⟩
end Em
end Go.HL
