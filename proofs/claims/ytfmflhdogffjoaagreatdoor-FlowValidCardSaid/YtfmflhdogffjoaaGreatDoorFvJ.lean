/- The walk of FlowValid: instructions. No statement of the seat stands here. -/
import Derived.Test.YtfmflhdogffjoaaGreatDoorFvI
namespace Go.HL
open Go Go.Proofs
namespace Fv
set_option maxRecDepth 10000
set_option maxHeartbeats 4000000
variable {K : CallFn} {base : List (Nat × HObj)}
def opM (u : UsesD) (op : Int) : Bool := if u.folds then foldsM op else if 0 < u.ops then decide (0 ≤ op ∧ op < u.ops) else decide (op = 0)
def FlowD.instrM (f : FlowD) (x : InstrD) (before : Int) : Bool :=
  (fieldsM x.kind).2 && regM f.regs (fieldsM x.kind).1.d x.d && regM f.regs (fieldsM x.kind).1.a x.a && regM f.regs (fieldsM x.kind).1.b x.b && f.immM (fieldsM x.kind).1 x.imm && opM (fieldsM x.kind).1 x.op &&
    (if (fieldsM x.kind).1.args then x.args.all (regM f.regs true) && decide ((x.args.length : Int) = before) else decide (x.args.length = 0))
theorem FlowD.instrM_at {f : FlowD} {x : InstrD} {before : Int} {b : Bool} (h1 : (fieldsM x.kind).2 = true) (h2 : regM f.regs (fieldsM x.kind).1.d x.d = true) (h3 : regM f.regs (fieldsM x.kind).1.a x.a = true) (h4 : regM f.regs (fieldsM x.kind).1.b x.b = true)
    (h5 : f.immM (fieldsM x.kind).1 x.imm = true) (ha : (fieldsM x.kind).1.args = true) (ho : opM (fieldsM x.kind).1 x.op = b) : f.instrM x before = (b && (x.args.drop 0).all (regM f.regs true) && decide ((x.args.length : Int) = before)) := by
  unfold FlowD.instrM; simp [h1, h2, h3, h4, h5, ha, ho, Bool.and_assoc]
theorem instr_run (hK : KN base K) (f : FlowD) (x : InstrD) (before : Int) (h : Heap) (w : Wf h) (r : f.Ok h) (rx : x.Ok h) : Sp P K 25 [.agg f.cells, .agg x.cells, .int .i64 before] h (Gives h (.bool (f.instrM x before))) := by
  have la := rx.la
  have ha0 := rx.args
  have ba := rx.len
  refine Sp.of (m := 2321439809803238884822222303) (n := 108) (hK.none 25 rfl rfl _ _) Tryz.func25 rfl rfl mask25 rfl rfl ?_
  repeat' (first
    | refine To.nrm_seq ?_
    | refine WC.seq ?_
    | (refine WC.region (id := 0) ?_; ((refine WO.cons ?_; ((refine Op1.made (M.box (x := .tmp 0) rfl rfl rfl) rfl rfl (by assumption) ?_; rintro kf hf ⟨gf, ef, ff, wf, lef, ltf, obf⟩)))
        <;> (refine WO.cons ?_; ((refine Op1.made (M.box rfl rfl rfl) rfl rfl (by assumption) ?_; rintro kb hb ⟨gb, eb, fb, wb, leb, ltb, obb⟩)))
        <;> (refine WO.cons ?_; (refine Op1.val (V.assign rfl rfl) rfl rfl ?_))
        <;> (refine WO.nil (Then.intro rfl ?_))))
    | (refine WC.region (id := 1) ?_; ((refine WO.cons ?_; (refine Op1.val (V.fieldAddr hT rfl rfl rfl rfl rfl rfl) rfl rfl ?_))
        <;> (refine WO.cons ?_; (refine Op1.val (V.load hT rfl rfl rfl rfl (by (repeat (first | assumption | refine Grow.get (by assumption) ?_))) rfl) rfl rfl ?_))
        <;> (refine WO.cons ?_; ((refine Op1.sp (C.call rfl rfl rfl rfl ca42) rfl rfl (fields_run hK _ _ (by assumption)) ?_; rintro _ _ ⟨rfl, _, _⟩)))
        <;> (refine WO.cons ?_; (refine Op1.val (V.move rfl rfl) rfl rfl ?_))
        <;> (refine WO.cons ?_; (refine Op1.val (V.extract rfl rfl rfl) rfl rfl ?_))
        <;> (refine WO.cons ?_; (refine Op1.val (V.extract rfl rfl rfl) rfl rfl ?_))
        <;> (refine WO.cons ?_; ((refine Op1.made (M.alloc rfl (by first | exact z40 | exact z43 | exact z101 | exact z35 | exact z37)) rfl rfl (by assumption) ?_; rintro ka ha ⟨ga, ea, fa, wa, lea, lta, oa⟩)))
        <;> (refine WO.cons ?_; ((refine Op1.storeN hT rfl rfl (by first | exact i40 | exact i43 | exact i101 | exact i35 | exact i37 | exact i4 | exact i41) rfl rfl rfl rfl (by (repeat (first | assumption | refine Grow.get (by assumption) ?_))) rfl rfl rfl (by assumption) (by assumption) (by (repeat (first | assumption | exact Grow.refl _ | refine Grow.trans ?_ (by assumption)))) ?_; rintro hs gs es ws os)))
        <;> (refine WO.cons ?_; (refine Op1.val (V.assign rfl rfl) rfl rfl ?_))
        <;> (refine WO.nil (Then.intro rfl ?_))))
    | (refine WC.region (id := 2) ?_; ((refine WO.cons ?_; (refine Op1.val (V.move rfl rfl) rfl rfl ?_))
        <;> (refine WO.cons ?_; ((refine Op1.notB rfl rfl rfl rfl ?_ ?_ <;> intro _)))
        <;> (refine WO.cons ?_; (refine Op1.val (V.move rfl rfl) rfl rfl ?_))
        <;> (refine WO.cons ?_; (first | refine Op1.skip rfl rfl rfl ?_ | refine Op1.val (V.loadS hT rfl rfl rfl rfl (by (repeat (first | assumption | refine Grow.get (by assumption) ?_))) rfl) rfl rfl ?_))
        <;> (refine WO.cons ?_; (first | refine Op1.skip rfl rfl rfl ?_ | refine Op1.val (V.fieldAddr hT rfl rfl rfl rfl rfl rfl) rfl rfl ?_))
        <;> (refine WO.cons ?_; (first | refine Op1.skip rfl rfl rfl ?_ | (refine Op1.valG rfl (V.load hT rfl rfl rfl rfl (by (repeat (first | assumption | refine Grow.get (by assumption) ?_))) rfl) rfl rfl ?_)))
        <;> (refine WO.cons ?_; (first | refine Op1.skip rfl rfl rfl ?_ | refine Op1.val (V.fieldAddr hT rfl rfl rfl rfl rfl rfl) rfl rfl ?_))
        <;> (refine WO.cons ?_; (first | refine Op1.skip rfl rfl rfl ?_ | (refine Op1.valG rfl (V.load hT rfl rfl rfl rfl (by (repeat (first | assumption | refine Grow.get (by assumption) ?_))) rfl) rfl rfl ?_)))
        <;> (refine WO.cons ?_; (first | refine Op1.skip rfl rfl rfl ?_ | (refine Op1.spB (C.call rfl rfl rfl rfl ca41) rfl rfl (register_run hK _ _ _ _ f.regs _ _ _ (by assumption)) ?_ ?_ <;> (rintro _ ⟨_, _⟩ _))))
        <;> (refine WO.cons ?_; (first | refine Op1.skip rfl rfl rfl ?_ | refine Op1.val (V.not_true rfl rfl) rfl rfl ?_ | refine Op1.val (V.not_false rfl rfl) rfl rfl ?_))
        <;> (refine WO.cons ?_; (first | refine Op1.val (V.pick_true rfl rfl rfl) rfl rfl ?_ | refine Op1.val (V.pick_false rfl rfl rfl) rfl rfl ?_))
        <;> (refine WO.cons ?_; (refine Op1.val (V.move rfl rfl) rfl rfl ?_))
        <;> (refine WO.cons ?_; (first | refine Op1.skip rfl rfl rfl ?_ | refine Op1.val (V.loadS hT rfl rfl rfl rfl (by (repeat (first | assumption | refine Grow.get (by assumption) ?_))) rfl) rfl rfl ?_))
        <;> (refine WO.cons ?_; (first | refine Op1.skip rfl rfl rfl ?_ | refine Op1.val (V.fieldAddr hT rfl rfl rfl rfl rfl rfl) rfl rfl ?_))
        <;> (refine WO.cons ?_; (first | refine Op1.skip rfl rfl rfl ?_ | (refine Op1.valG rfl (V.load hT rfl rfl rfl rfl (by (repeat (first | assumption | refine Grow.get (by assumption) ?_))) rfl) rfl rfl ?_)))
        <;> (refine WO.cons ?_; (first | refine Op1.skip rfl rfl rfl ?_ | refine Op1.val (V.fieldAddr hT rfl rfl rfl rfl rfl rfl) rfl rfl ?_))
        <;> (refine WO.cons ?_; (first | refine Op1.skip rfl rfl rfl ?_ | (refine Op1.valG rfl (V.load hT rfl rfl rfl rfl (by (repeat (first | assumption | refine Grow.get (by assumption) ?_))) rfl) rfl rfl ?_)))
        <;> (refine WO.cons ?_; (first | refine Op1.skip rfl rfl rfl ?_ | (refine Op1.spB (C.call rfl rfl rfl rfl ca41) rfl rfl (register_run hK _ _ _ _ f.regs _ _ _ (by assumption)) ?_ ?_ <;> (rintro _ ⟨_, _⟩ _))))
        <;> (refine WO.cons ?_; (first | refine Op1.skip rfl rfl rfl ?_ | refine Op1.val (V.not_true rfl rfl) rfl rfl ?_ | refine Op1.val (V.not_false rfl rfl) rfl rfl ?_))
        <;> (refine WO.cons ?_; (first | refine Op1.val (V.pick_true rfl rfl rfl) rfl rfl ?_ | refine Op1.val (V.pick_false rfl rfl rfl) rfl rfl ?_))
        <;> (refine WO.cons ?_; (refine Op1.val (V.move rfl rfl) rfl rfl ?_))
        <;> (refine WO.cons ?_; (first | refine Op1.skip rfl rfl rfl ?_ | refine Op1.val (V.loadS hT rfl rfl rfl rfl (by (repeat (first | assumption | refine Grow.get (by assumption) ?_))) rfl) rfl rfl ?_))
        <;> (refine WO.cons ?_; (first | refine Op1.skip rfl rfl rfl ?_ | refine Op1.val (V.fieldAddr hT rfl rfl rfl rfl rfl rfl) rfl rfl ?_))
        <;> (refine WO.cons ?_; (first | refine Op1.skip rfl rfl rfl ?_ | (refine Op1.valG rfl (V.load hT rfl rfl rfl rfl (by (repeat (first | assumption | refine Grow.get (by assumption) ?_))) rfl) rfl rfl ?_)))
        <;> (refine WO.cons ?_; (first | refine Op1.skip rfl rfl rfl ?_ | refine Op1.val (V.fieldAddr hT rfl rfl rfl rfl rfl rfl) rfl rfl ?_))
        <;> (refine WO.cons ?_; (first | refine Op1.skip rfl rfl rfl ?_ | (refine Op1.valG rfl (V.load hT rfl rfl rfl rfl (by (repeat (first | assumption | refine Grow.get (by assumption) ?_))) rfl) rfl rfl ?_)))
        <;> (refine WO.cons ?_; (first | refine Op1.skip rfl rfl rfl ?_ | (refine Op1.spB (C.call rfl rfl rfl rfl ca41) rfl rfl (register_run hK _ _ _ _ f.regs _ _ _ (by assumption)) ?_ ?_ <;> (rintro _ ⟨_, _⟩ _))))
        <;> (refine WO.cons ?_; (first | refine Op1.skip rfl rfl rfl ?_ | refine Op1.val (V.not_true rfl rfl) rfl rfl ?_ | refine Op1.val (V.not_false rfl rfl) rfl rfl ?_))
        <;> (refine WO.cons ?_; (first | refine Op1.val (V.pick_true rfl rfl rfl) rfl rfl ?_ | refine Op1.val (V.pick_false rfl rfl rfl) rfl rfl ?_))
        <;> (refine WO.cons ?_; (refine Op1.val (V.move rfl rfl) rfl rfl ?_))
        <;> (refine WO.cons ?_; (first | refine Op1.skip rfl rfl rfl ?_ | refine Op1.val (V.loadS hT rfl rfl rfl rfl (by (repeat (first | assumption | refine Grow.get (by assumption) ?_))) rfl) rfl rfl ?_))
        <;> (refine WO.cons ?_; (first | refine Op1.skip rfl rfl rfl ?_ | refine Op1.val (V.loadS hT rfl rfl rfl rfl (by (repeat (first | assumption | refine Grow.get (by assumption) ?_))) rfl) rfl rfl ?_))
        <;> (refine WO.cons ?_; (first | refine Op1.skip rfl rfl rfl ?_ | refine Op1.val (V.loadS hT rfl rfl rfl rfl (by (repeat (first | assumption | refine Grow.get (by assumption) ?_))) rfl) rfl rfl ?_))
        <;> (refine WO.cons ?_; (first | refine Op1.skip rfl rfl rfl ?_ | (refine Op1.spB (C.call rfl rfl rfl rfl ca43) rfl rfl (imm_run hK f (fieldsM x.kind).1 x _ (by assumption) (by (repeat (first | assumption | refine FlowD.Ok.grow (by assumption) ?_))) (InstrD.Ok.grow (by (repeat (first | assumption | exact Grow.refl _ | refine Grow.trans ?_ (by assumption)))) rx)) ?_ ?_ <;> (rintro _ ⟨_, _⟩ _))))
        <;> (refine WO.cons ?_; (first | refine Op1.skip rfl rfl rfl ?_ | refine Op1.val (V.not_true rfl rfl) rfl rfl ?_ | refine Op1.val (V.not_false rfl rfl) rfl rfl ?_))
        <;> (refine WO.cons ?_; (first | refine Op1.val (V.pick_true rfl rfl rfl) rfl rfl ?_ | refine Op1.val (V.pick_false rfl rfl rfl) rfl rfl ?_))
        <;> (refine WO.nil (Then.intro rfl ?_))))
    | (refine WC.region (id := 3) ?_; ((refine WO.cons ?_; (refine Op1.val (V.assign rfl rfl) rfl rfl ?_))
        <;> (refine WO.nil (Then.intro rfl ?_))))
    | (refine WC.region (id := 5) ?_; ((refine WO.cons ?_; (refine Op1.val (V.fieldAddr hT rfl rfl rfl rfl rfl rfl) rfl rfl ?_))
        <;> (refine WO.cons ?_; ((refine Op1.loadB hT rfl rfl rfl (by (repeat (first | assumption | refine Grow.get (by assumption) ?_))) rfl rfl rfl ?_ ?_ <;> (intro hbl; (first | (cases hbl; done) | skip)))))
        <;> (refine WO.cons ?_; (refine Op1.val (V.assign rfl rfl) rfl rfl ?_))
        <;> (refine WO.nil (Then.intro rfl ?_))))
    | (refine WC.region (id := 6) ?_; ((refine WO.cons ?_; (refine Op1.val (V.fieldAddr hT rfl rfl rfl rfl rfl rfl) rfl rfl ?_))
        <;> (refine WO.cons ?_; (refine Op1.val (V.load hT rfl rfl rfl rfl (by (repeat (first | assumption | refine Grow.get (by assumption) ?_))) rfl) rfl rfl ?_))
        <;> (refine WO.cons ?_; ((refine Op1.spB (C.call rfl rfl rfl rfl ca44) rfl rfl (folds_run hK _ _ (by assumption)) ?_ ?_ <;> (rintro _ ⟨_, _⟩ _))))
        <;> (refine WO.cons ?_; (refine Op1.val (V.assign rfl rfl) rfl rfl ?_))
        <;> (refine WO.nil (Then.intro rfl ?_))))
    | (refine WC.region (id := 7) ?_; ((refine WO.cons ?_; (refine Op1.val (V.fieldAddr hT rfl rfl rfl rfl rfl rfl) rfl rfl ?_))
        <;> (refine WO.cons ?_; (refine Op1.val (V.load hT rfl rfl rfl rfl (by (repeat (first | assumption | refine Grow.get (by assumption) ?_))) rfl) rfl rfl ?_))
        <;> (refine WO.cons ?_; ((refine Op1.gtr rfl rfl rfl rfl rfl rfl ?_ ?_ <;> intro _)))
        <;> (refine WO.cons ?_; (refine Op1.val (V.assign rfl rfl) rfl rfl ?_))
        <;> (refine WO.nil (Then.intro rfl ?_))))
    | (refine WC.region (id := 8) ?_; ((refine WO.cons ?_; (refine Op1.val (V.fieldAddr hT rfl rfl rfl rfl rfl rfl) rfl rfl ?_))
        <;> (refine WO.cons ?_; (refine Op1.val (V.load hT rfl rfl rfl rfl (by (repeat (first | assumption | refine Grow.get (by assumption) ?_))) rfl) rfl rfl ?_))
        <;> (refine WO.cons ?_; ((refine Op1.geq rfl rfl rfl rfl rfl rfl ?_ ?_ <;> intro _)))
        <;> (refine WO.cons ?_; (refine Op1.val (V.move rfl rfl) rfl rfl ?_))
        <;> (refine WO.cons ?_; (first | refine Op1.skip rfl rfl rfl ?_ | refine Op1.val (V.fieldAddr hT rfl rfl rfl rfl rfl rfl) rfl rfl ?_))
        <;> (refine WO.cons ?_; (first | refine Op1.skip rfl rfl rfl ?_ | (refine Op1.valG rfl (V.load hT rfl rfl rfl rfl (by (repeat (first | assumption | refine Grow.get (by assumption) ?_))) rfl) rfl rfl ?_)))
        <;> (refine WO.cons ?_; (first | refine Op1.skip rfl rfl rfl ?_ | refine Op1.val (V.fieldAddr hT rfl rfl rfl rfl rfl rfl) rfl rfl ?_))
        <;> (refine WO.cons ?_; (first | refine Op1.skip rfl rfl rfl ?_ | (refine Op1.valG rfl (V.load hT rfl rfl rfl rfl (by (repeat (first | assumption | refine Grow.get (by assumption) ?_))) rfl) rfl rfl ?_)))
        <;> (refine WO.cons ?_; (first | refine Op1.skip rfl rfl rfl ?_ | (refine Op1.lss rfl rfl rfl rfl rfl rfl ?_ ?_ <;> intro _)))
        <;> (refine WO.cons ?_; (first | refine Op1.val (V.pick_true rfl rfl rfl) rfl rfl ?_ | refine Op1.val (V.pick_false rfl rfl rfl) rfl rfl ?_))
        <;> (refine WO.cons ?_; (refine Op1.val (V.assign rfl rfl) rfl rfl ?_))
        <;> (refine WO.nil (Then.intro rfl ?_))))
    | (refine WC.region (id := 4) ?_; ((refine WO.cons ?_; (refine Op1.val (V.fieldAddr hT rfl rfl rfl rfl rfl rfl) rfl rfl ?_))
        <;> (refine WO.cons ?_; (refine Op1.val (V.load hT rfl rfl rfl rfl (by (repeat (first | assumption | refine Grow.get (by assumption) ?_))) rfl) rfl rfl ?_))
        <;> (refine WO.cons ?_; ((refine Op1.eql rfl rfl rfl rfl rfl rfl ?_ ?_ <;> intro _)))
        <;> (refine WO.cons ?_; (refine Op1.val (V.assign rfl rfl) rfl rfl ?_))
        <;> (refine WO.nil (Then.intro rfl ?_))))
    | (refine WC.region (id := 9) ?_; ((refine WO.cons ?_; (refine Op1.val (V.fieldAddr hT rfl rfl rfl rfl rfl rfl) rfl rfl ?_))
        <;> (refine WO.cons ?_; ((refine Op1.loadB hT rfl rfl rfl (by (repeat (first | assumption | refine Grow.get (by assumption) ?_))) rfl rfl rfl ?_ ?_ <;> (intro hbl; (first | (cases hbl; done) | skip)))))
        <;> (refine WO.cons ?_; (first | refine Op1.val (V.not_true rfl rfl) rfl rfl ?_ | refine Op1.val (V.not_false rfl rfl) rfl rfl ?_))
        <;> (refine WO.nil (Then.intro rfl ?_))))
    | (refine WC.region (id := 10) ?_; ((refine WO.cons ?_; (refine Op1.val (V.move rfl rfl) rfl rfl ?_))
        <;> (refine WO.cons ?_; (refine Op1.val (V.move rfl rfl) rfl rfl ?_))
        <;> (refine WO.cons ?_; (first | refine Op1.skip rfl rfl rfl ?_ | refine Op1.val (V.fieldAddr hT rfl rfl rfl rfl rfl rfl) rfl rfl ?_))
        <;> (refine WO.cons ?_; (first | refine Op1.skip rfl rfl rfl ?_ | (refine Op1.valG rfl (V.load hT rfl rfl rfl rfl (by (repeat (first | assumption | refine Grow.get (by assumption) ?_))) rfl) rfl rfl ?_)))
        <;> (refine WO.cons ?_; (first | refine Op1.skip rfl rfl rfl ?_ | refine Op1.val (V.len hT rfl rfl rfl rfl rfl rfl (by first | rfl | assumption)) rfl rfl ?_))
        <;> (refine WO.cons ?_; (first | refine Op1.skip rfl rfl rfl ?_ | (refine Op1.eql rfl rfl rfl rfl rfl rfl ?_ ?_ <;> intro _)))
        <;> (refine WO.cons ?_; (first | refine Op1.val (V.pick_true rfl rfl rfl) rfl rfl ?_ | refine Op1.val (V.pick_false rfl rfl rfl) rfl rfl ?_))
        <;> (refine WO.cons ?_; (refine Op1.val (V.assign rfl rfl) rfl rfl ?_))
        <;> (refine WO.nil (Then.intro rfl ?_))))
    | (refine WC.region (id := 11) ?_; ((refine WO.cons ?_; (refine Op1.val (V.fieldAddr hT rfl rfl rfl rfl rfl rfl) rfl rfl ?_))
        <;> (refine WO.cons ?_; (refine Op1.val (V.load hT rfl rfl rfl rfl (by (repeat (first | assumption | refine Grow.get (by assumption) ?_))) rfl) rfl rfl ?_))
        <;> (refine WO.cons ?_; (refine Op1.val (V.len hT rfl rfl rfl rfl rfl rfl (by first | rfl | assumption)) rfl rfl ?_))
        <;> (refine WO.cons ?_; (refine Op1.val (V.move rfl rfl) rfl rfl ?_))
        <;> (refine WO.nil (Then.intro rfl ?_))))
    | refine WC.ret ?_
    | refine To.ret_seq ?_
    | refine WC.cond_true rfl ?_
    | refine WC.cond_false rfl ?_
    | refine WC.skip ?_
    | refine WC.block ?_
    | refine To.nrm_block ?_
    | refine To.fn_ret rfl ?_)
  all_goals try (refine ⟨?_, (by (repeat (first | assumption | exact Grow.refl _ | refine Grow.trans ?_ (by assumption)))), by assumption⟩; simp only [resV]; unfold FlowD.instrM opM; simp_all; done)
  all_goals try (refine ⟨?_, (by (repeat (first | assumption | exact Grow.refl _ | refine Grow.trans ?_ (by assumption)))), by assumption⟩; simp only [resV]; unfold FlowD.instrM opM; first | (rw [decide_eq_false (p := 0 ≤ x.op ∧ _) (by omega)]; simp_all; done) | (rw [decide_eq_true (p := 0 ≤ x.op ∧ _) (by omega)]; simp_all; done))
  all_goals
    refine WC.sub (L' := [(89, .int .i64 ((0 : Nat) : Int)), (8, .bool _), (3, .ptr kf 0), (4, .ptr kb 0), (2, .int .i64 before), (87, x.av), (88, .int .i64 (x.args.length : Int))]) ⟨rfl, rfl, rfl, rfl, rfl, rfl, rfl, trivial⟩ ?_
    refine WC.fall (ι := Nat × Bool) (fun y => [(89, .int .i64 (y.1 : Int)), (8, .bool y.2), (3, .ptr kf 0), (4, .ptr kb 0), (2, .int .i64 before), (87, x.av), (88, .int .i64 (x.args.length : Int))]) (fun y h' => y.1 ≤ x.args.length ∧ f.instrM x before = (y.2 && (x.args.drop y.1).all (regM f.regs true) && decide ((x.args.length : Int) = before)) ∧ Grow hb h' ∧ Wf h') (fun y => x.args.length - y.1) ?_ (0, _) _ ⟨Nat.zero_le _, ?_, (by (repeat (first | assumption | exact Grow.refl _ | refine Grow.trans ?_ (by assumption)))), by assumption⟩
  all_goals first
    | (refine FlowD.instrM_at (by assumption) (by assumption) (by assumption) (by assumption) (by assumption) (by assumption) ?_; unfold opM; first | (simp_all; done) | (simp_all; omega))
    | skip
  all_goals
    rintro ⟨i, ok⟩ h1 ⟨hi, he, hg, hw⟩ next
    simp only at next hi he ⊢
    cases ok
  all_goals
    repeat' (first
      | refine To.nrm_seq ?_
      | refine WC.seq ?_
      | (refine WC.region (id := 12) ?_; ((refine WO.cons ?_; ((refine Op1.lss rfl rfl rfl rfl rfl rfl ?_ ?_ <;> intro _)))
          <;> (refine WO.nil (Then.intro rfl ?_))))
      | (refine WC.region (id := 13) ?_; ((refine WO.cons ?_; ((refine Op1.index hT rfl rfl rfl rfl rfl rfl rfl (SliceAt.grow (Grow.trans (Grow.trans ef eb) hg) ha0) (row_i (0 : Int) (by omega)) ?_; intro kx ox rx kvx)))
          <;> (refine WO.cons ?_; (refine Op1.val (V.loadR0 hT rfl rfl rfl rfl (by assumption) rfl) rfl rfl ?_))
          <;> (refine WO.cons ?_; (refine Op1.val (V.assign rfl rfl) rfl rfl ?_))
          <;> (refine WO.nil (Then.intro rfl ?_))))
      | (refine WC.region (id := 14) ?_; ((refine WO.cons ?_; (refine Op1.val (V.move rfl rfl) rfl rfl ?_))
          <;> (refine WO.cons ?_; (refine Op1.val (V.move rfl rfl) rfl rfl ?_))
          <;> (refine WO.cons ?_; (first | refine Op1.skip rfl rfl rfl ?_ | refine Op1.val (V.loadS hT rfl rfl rfl rfl (by (repeat (first | assumption | refine Grow.get (by assumption) ?_))) rfl) rfl rfl ?_))
          <;> (refine WO.cons ?_; (first | refine Op1.skip rfl rfl rfl ?_ | refine Op1.val (V.move rfl rfl) rfl rfl ?_))
          <;> (refine WO.cons ?_; (first | refine Op1.skip rfl rfl rfl ?_ | (refine Op1.spB (C.call rfl rfl rfl rfl ca41) rfl rfl (register_run hK _ _ _ _ f.regs _ _ _ (by assumption)) ?_ ?_ <;> (rintro _ ⟨_, _⟩ _))))
          <;> (refine WO.cons ?_; (first | refine Op1.val (V.pick_true rfl rfl rfl) rfl rfl ?_ | refine Op1.val (V.pick_false rfl rfl rfl) rfl rfl ?_))
          <;> (refine WO.cons ?_; (refine Op1.val (V.assign rfl rfl) rfl rfl ?_))
          <;> (refine WO.nil (Then.intro rfl ?_))))
      | (refine WC.region (id := 15) ?_; ((refine WO.cons ?_; (refine Op1.val (V.add rfl rfl rfl rfl (wrapF_i64 (by first | omega | (simp only [Int.ofNat_eq_natCast]; omega)) (by first | omega | (simp only [Int.ofNat_eq_natCast]; omega)))) rfl rfl ?_))
          <;> (refine WO.cons ?_; (refine Op1.val (V.move rfl rfl) rfl rfl ?_))
          <;> (refine WO.nil (Then.intro rfl ?_))))
      | (refine WC.region (id := 16) ?_; ((refine WO.cons ?_; (refine Op1.val (V.move rfl rfl) rfl rfl ?_))
          <;> (refine WO.cons ?_; (refine Op1.val (V.move rfl rfl) rfl rfl ?_))
          <;> (refine WO.cons ?_; (first | refine Op1.skip rfl rfl rfl ?_ | refine Op1.val (V.fieldAddr hT rfl rfl rfl rfl rfl rfl) rfl rfl ?_))
          <;> (refine WO.cons ?_; (first | refine Op1.skip rfl rfl rfl ?_ | refine Op1.val (V.load hT rfl rfl rfl rfl (by (repeat (first | assumption | refine Grow.get (by assumption) ?_))) rfl) rfl rfl ?_))
          <;> (refine WO.cons ?_; (first | refine Op1.skip rfl rfl rfl ?_ | refine Op1.val (V.len hT rfl rfl rfl rfl rfl rfl (by first | rfl | assumption)) rfl rfl ?_))
          <;> (refine WO.cons ?_; (first | refine Op1.skip rfl rfl rfl ?_ | refine Op1.val (V.move rfl rfl) rfl rfl ?_))
          <;> (refine WO.cons ?_; (first | refine Op1.skip rfl rfl rfl ?_ | (refine Op1.eql rfl rfl rfl rfl rfl rfl ?_ ?_ <;> intro _)))
          <;> (refine WO.cons ?_; (first | refine Op1.val (V.pick_true rfl rfl rfl) rfl rfl ?_ | refine Op1.val (V.pick_false rfl rfl rfl) rfl rfl ?_))
          <;> (refine WO.cons ?_; (refine Op1.val (V.assign rfl rfl) rfl rfl ?_))
          <;> (refine WO.nil (Then.intro rfl ?_))))
      | refine WC.ret ?_
      | refine WC.cond_true rfl ?_
      | refine WC.cond_false rfl ?_
      | refine WC.skip ?_
      | refine WC.block ?_
      | refine WC.exit ?_
      | refine To.exit_seq ?_
      | refine To.exit_block ?_
      | refine To.nrm_block ?_
      | refine To.fn_ret rfl ?_)
  all_goals first
    | (refine next (i + 1, _) _ _ (by simp only; omega) ⟨rfl, rfl, rfl, rfl, rfl, rfl, rfl, trivial⟩ ⟨by simp only; omega, ?_, (by (repeat (first | assumption | exact Grow.refl _ | refine Grow.trans ?_ (by assumption)))), by assumption⟩; clear next; rw [he, all_step _ (by omega) (0 : Int)]; simp_all; done)
    | (clear next; refine ⟨?_, (by (repeat (first | assumption | exact Grow.refl _ | refine Grow.trans ?_ (by assumption)))), by assumption⟩; rw [he, List.drop_of_length_le (by omega)]; first | rfl | (rw [decide_eq_true (by assumption)]; rfl) | (rw [decide_eq_false (by assumption)]; rfl))
def FlowD.refInstrM (f : FlowD) (x : InstrD) (preds : Int) : Bool :=
  decide (0 ≤ x.kind ∧ x.kind < 12) && regM f.regs (hasM x.kind).1 x.d && regM f.regs (hasM x.kind).2.1 x.a && regM f.regs (hasM x.kind).2.2 x.b && signM (howM x.kind) x.op && f.wordM (whatM x.kind) x.imm &&
    (if x.kind = 11 then x.args.all (regM f.regs true) && decide ((x.args.length : Int) = preds) else decide (x.args.length = 0))
theorem refInstr_run (hK : KN base K) (f : FlowD) (x : InstrD) (before : Int) (h : Heap) (w : Wf h) (r : f.Ok h) (rx : x.Ok h) : Sp P K 29 [.agg f.cells, .agg x.cells, .int .i64 before] h (Gives h (.bool (f.refInstrM x before))) := by
  have la := rx.la
  have ha0 := rx.args
  have ba := rx.len
  have n1 := rx.lo
  have n2 := rx.hi
  have lp := r.lp
  have ls := r.ls
  refine Sp.of (m := 5070621786227329785880415307743) (n := 108) (hK.none 29 rfl rfl _ _) Tryz.func29 rfl rfl mask29 rfl rfl ?_
  repeat' (first
    | refine To.nrm_seq ?_
    | refine WC.seq ?_
    | (refine WC.region (id := 0) ?_; ((refine WO.cons ?_; ((refine Op1.made (M.box (x := .tmp 0) rfl rfl rfl) rfl rfl (by assumption) ?_; rintro kf hf ⟨gf, ef, ff, wf, lef, ltf, obf⟩)))
        <;> (refine WO.cons ?_; ((refine Op1.made (M.box rfl rfl rfl) rfl rfl (by assumption) ?_; rintro kb hb ⟨gb, eb, fb, wb, leb, ltb, obb⟩)))
        <;> (refine WO.cons ?_; (refine Op1.val (V.assign rfl rfl) rfl rfl ?_))
        <;> (refine WO.nil (Then.intro rfl ?_))))
    | (refine WC.region (id := 1) ?_; ((refine WO.cons ?_; (refine Op1.val (V.fieldAddr hT rfl rfl rfl rfl rfl rfl) rfl rfl ?_))
        <;> (refine WO.cons ?_; (refine Op1.val (V.load hT rfl rfl rfl rfl (by (repeat (first | assumption | refine Grow.get (by assumption) ?_))) rfl) rfl rfl ?_))
        <;> (refine WO.cons ?_; ((refine Op1.lss rfl rfl rfl rfl rfl rfl ?_ ?_ <;> intro _)))
        <;> (refine WO.cons ?_; (refine Op1.val (V.move rfl rfl) rfl rfl ?_))
        <;> (refine WO.cons ?_; (first | refine Op1.skip rfl rfl rfl ?_ | refine Op1.val (V.fieldAddr hT rfl rfl rfl rfl rfl rfl) rfl rfl ?_))
        <;> (refine WO.cons ?_; (first | refine Op1.skip rfl rfl rfl ?_ | refine Op1.val (V.load hT rfl rfl rfl rfl (by (repeat (first | assumption | refine Grow.get (by assumption) ?_))) rfl) rfl rfl ?_))
        <;> (refine WO.cons ?_; (first | refine Op1.skip rfl rfl rfl ?_ | (refine Op1.geq rfl rfl rfl rfl rfl rfl ?_ ?_ <;> intro _)))
        <;> (refine WO.cons ?_; (first | refine Op1.val (V.pick_true rfl rfl rfl) rfl rfl ?_ | refine Op1.val (V.pick_false rfl rfl rfl) rfl rfl ?_))
        <;> (refine WO.nil (Then.intro rfl ?_))))
    | (refine WC.region (id := 2) ?_; ((refine WO.cons ?_; (refine Op1.val (V.assign rfl rfl) rfl rfl ?_))
        <;> (refine WO.nil (Then.intro rfl ?_))))
    | (refine WC.region (id := 3) ?_; ((refine WO.cons ?_; (refine Op1.val (V.fieldAddr hT rfl rfl rfl rfl rfl rfl) rfl rfl ?_))
        <;> (refine WO.cons ?_; (refine Op1.val (V.load hT rfl rfl rfl rfl (by (repeat (first | assumption | refine Grow.get (by assumption) ?_))) rfl) rfl rfl ?_))
        <;> (refine WO.cons ?_; ((refine Op1.sp (C.call rfl rfl rfl rfl ca47) rfl rfl (has_run hK _ _ (by assumption)) ?_; rintro _ _ ⟨rfl, _, _⟩)))
        <;> (refine WO.cons ?_; (refine Op1.val (V.move rfl rfl) rfl rfl ?_))
        <;> (refine WO.cons ?_; (refine Op1.val (V.extract rfl rfl rfl) rfl rfl ?_))
        <;> (refine WO.cons ?_; (refine Op1.val (V.extract rfl rfl rfl) rfl rfl ?_))
        <;> (refine WO.cons ?_; (refine Op1.val (V.extract rfl rfl rfl) rfl rfl ?_))
        <;> (refine WO.cons ?_; (refine Op1.val (V.assign rfl rfl) rfl rfl ?_))
        <;> (refine WO.cons ?_; (refine Op1.val (V.assign rfl rfl) rfl rfl ?_))
        <;> (refine WO.cons ?_; (refine Op1.val (V.assign rfl rfl) rfl rfl ?_))
        <;> (refine WO.nil (Then.intro rfl ?_))))
    | (refine WC.draw (id := 4) [0, 1, 2, 3, 4, 5, 6, 7, 8, 9, 10, 11, 12, 13, 14, 15, 16, 17, 18, 19, 20, 21, 22, 23, 24, 25, 26, 27, 29, 30, 28, 31, 32, 33, 34, 35, 36, 38, 39, 40, 41, 42, 43, 37, 44, 45, 46] #[0, 0, 2, 0, 8, 31, 63, 127, 255, 255, 767, 255, 2303, 8191, 16383, 32767, 65535, 131071, 131071, 393215, 131071, 1179647, 4194303, 8388607, 16777215, 33554431, 67108863, 134217727, 268435455, 67108863, 603979775, 2147483647, 4294967295, 8589934591, 17179869183, 34359738367, 68719476735, 137438953471, 34359738367, 309237645311, 34359738367, 1133871366143, 34359738367, 4432406249471, 17592186044415, 35184372088831, 70368744177663] (by kernel_rfl) (by kernel_rfl) (by kernel_rfl) ?_; ((refine WD.cons rfl ?_; ((refine Op1.val (V.move rfl rfl) rfl rfl ?_) <;> refine ⟨_, rfl, ?_⟩))
        <;> (refine WD.cons rfl ?_; ((refine Op1.val (V.fieldAddr hT rfl rfl rfl rfl rfl rfl) rfl rfl ?_) <;> refine ⟨_, rfl, ?_⟩))
        <;> (refine WD.cons rfl ?_; ((refine Op1.val (V.load hT rfl rfl rfl rfl (by (repeat (first | assumption | refine Grow.get (by assumption) ?_))) rfl) rfl rfl ?_) <;> refine ⟨_, rfl, ?_⟩))
        <;> (refine WD.cons rfl ?_; ((refine Op1.val (V.fieldAddr hT rfl rfl rfl rfl rfl rfl) rfl rfl ?_) <;> refine ⟨_, rfl, ?_⟩))
        <;> (refine WD.cons rfl ?_; ((refine Op1.val (V.load hT rfl rfl rfl rfl (by (repeat (first | assumption | refine Grow.get (by assumption) ?_))) rfl) rfl rfl ?_) <;> refine ⟨_, rfl, ?_⟩))
        <;> (refine WD.cons rfl ?_; (((refine Op1.spB (C.call rfl rfl rfl rfl ca48) rfl rfl (reg_run hK _ _ _ _ (by assumption)) ?_ ?_ <;> (rintro _ ⟨_, _⟩ _))) <;> refine ⟨_, rfl, ?_⟩))
        <;> (refine WD.cons rfl ?_; ((first | refine Op1.val (V.not_true rfl rfl) rfl rfl ?_ | refine Op1.val (V.not_false rfl rfl) rfl rfl ?_) <;> refine ⟨_, rfl, ?_⟩))
        <;> (refine WD.cons rfl ?_; ((refine Op1.val (V.move rfl rfl) rfl rfl ?_) <;> refine ⟨_, rfl, ?_⟩))
        <;> (refine WD.cons rfl ?_; ((first | refine Op1.skip rfl rfl rfl ?_ | refine Op1.val (V.move rfl rfl) rfl rfl ?_) <;> refine ⟨_, rfl, ?_⟩))
        <;> (refine WD.cons rfl ?_; ((first | refine Op1.skip rfl rfl rfl ?_ | refine Op1.val (V.fieldAddr hT rfl rfl rfl rfl rfl rfl) rfl rfl ?_) <;> refine ⟨_, rfl, ?_⟩))
        <;> (refine WD.cons rfl ?_; ((first | refine Op1.skip rfl rfl rfl ?_ | refine Op1.val (V.load hT rfl rfl rfl rfl (by (repeat (first | assumption | refine Grow.get (by assumption) ?_))) rfl) rfl rfl ?_) <;> refine ⟨_, rfl, ?_⟩))
        <;> (refine WD.cons rfl ?_; ((first | refine Op1.skip rfl rfl rfl ?_ | refine Op1.val (V.fieldAddr hT rfl rfl rfl rfl rfl rfl) rfl rfl ?_) <;> refine ⟨_, rfl, ?_⟩))
        <;> (refine WD.cons rfl ?_; ((first | refine Op1.skip rfl rfl rfl ?_ | refine Op1.val (V.load hT rfl rfl rfl rfl (by (repeat (first | assumption | refine Grow.get (by assumption) ?_))) rfl) rfl rfl ?_) <;> refine ⟨_, rfl, ?_⟩))
        <;> (refine WD.cons rfl ?_; ((first | refine Op1.skip rfl rfl rfl ?_ | (refine Op1.spB (C.call rfl rfl rfl rfl ca48) rfl rfl (reg_run hK _ _ _ _ (by assumption)) ?_ ?_ <;> (rintro _ ⟨_, _⟩ _))) <;> refine ⟨_, rfl, ?_⟩))
        <;> (refine WD.cons rfl ?_; ((first | refine Op1.skip rfl rfl rfl ?_ | refine Op1.val (V.not_true rfl rfl) rfl rfl ?_ | refine Op1.val (V.not_false rfl rfl) rfl rfl ?_) <;> refine ⟨_, rfl, ?_⟩))
        <;> (refine WD.cons rfl ?_; ((first | refine Op1.val (V.pick_true rfl rfl rfl) rfl rfl ?_ | refine Op1.val (V.pick_false rfl rfl rfl) rfl rfl ?_) <;> refine ⟨_, rfl, ?_⟩))
        <;> (refine WD.cons rfl ?_; ((refine Op1.val (V.move rfl rfl) rfl rfl ?_) <;> refine ⟨_, rfl, ?_⟩))
        <;> (refine WD.cons rfl ?_; ((first | refine Op1.skip rfl rfl rfl ?_ | refine Op1.val (V.move rfl rfl) rfl rfl ?_) <;> refine ⟨_, rfl, ?_⟩))
        <;> (refine WD.cons rfl ?_; ((first | refine Op1.skip rfl rfl rfl ?_ | refine Op1.val (V.fieldAddr hT rfl rfl rfl rfl rfl rfl) rfl rfl ?_) <;> refine ⟨_, rfl, ?_⟩))
        <;> (refine WD.cons rfl ?_; ((first | refine Op1.skip rfl rfl rfl ?_ | refine Op1.val (V.load hT rfl rfl rfl rfl (by (repeat (first | assumption | refine Grow.get (by assumption) ?_))) rfl) rfl rfl ?_) <;> refine ⟨_, rfl, ?_⟩))
        <;> (refine WD.cons rfl ?_; ((first | refine Op1.skip rfl rfl rfl ?_ | refine Op1.val (V.fieldAddr hT rfl rfl rfl rfl rfl rfl) rfl rfl ?_) <;> refine ⟨_, rfl, ?_⟩))
        <;> (refine WD.cons rfl ?_; ((first | refine Op1.skip rfl rfl rfl ?_ | refine Op1.val (V.load hT rfl rfl rfl rfl (by (repeat (first | assumption | refine Grow.get (by assumption) ?_))) rfl) rfl rfl ?_) <;> refine ⟨_, rfl, ?_⟩))
        <;> (refine WD.cons rfl ?_; ((first | refine Op1.skip rfl rfl rfl ?_ | (refine Op1.spB (C.call rfl rfl rfl rfl ca48) rfl rfl (reg_run hK _ _ _ _ (by assumption)) ?_ ?_ <;> (rintro _ ⟨_, _⟩ _))) <;> refine ⟨_, rfl, ?_⟩))
        <;> (refine WD.cons rfl ?_; ((first | refine Op1.skip rfl rfl rfl ?_ | refine Op1.val (V.not_true rfl rfl) rfl rfl ?_ | refine Op1.val (V.not_false rfl rfl) rfl rfl ?_) <;> refine ⟨_, rfl, ?_⟩))
        <;> (refine WD.cons rfl ?_; ((first | refine Op1.val (V.pick_true rfl rfl rfl) rfl rfl ?_ | refine Op1.val (V.pick_false rfl rfl rfl) rfl rfl ?_) <;> refine ⟨_, rfl, ?_⟩))
        <;> (refine WD.cons rfl ?_; ((refine Op1.val (V.move rfl rfl) rfl rfl ?_) <;> refine ⟨_, rfl, ?_⟩))
        <;> (refine WD.cons rfl ?_; ((first | refine Op1.skip rfl rfl rfl ?_ | refine Op1.val (V.fieldAddr hT rfl rfl rfl rfl rfl rfl) rfl rfl ?_) <;> refine ⟨_, rfl, ?_⟩))
        <;> (refine WD.cons rfl ?_; ((first | refine Op1.skip rfl rfl rfl ?_ | refine Op1.val (V.load hT rfl rfl rfl rfl (by (repeat (first | assumption | refine Grow.get (by assumption) ?_))) rfl) rfl rfl ?_) <;> refine ⟨_, rfl, ?_⟩))
        <;> (refine WD.cons rfl ?_; ((first | refine Op1.skip rfl rfl rfl ?_ | refine Op1.val (V.fieldAddr hT rfl rfl rfl rfl rfl rfl) rfl rfl ?_) <;> refine ⟨_, rfl, ?_⟩))
        <;> (refine WD.cons rfl ?_; ((first | refine Op1.skip rfl rfl rfl ?_ | refine Op1.val (V.load hT rfl rfl rfl rfl (by (repeat (first | assumption | refine Grow.get (by assumption) ?_))) rfl) rfl rfl ?_) <;> refine ⟨_, rfl, ?_⟩))
        <;> (refine WD.cons rfl ?_; ((first | refine Op1.skip rfl rfl rfl ?_ | (refine Op1.sp (C.call rfl rfl rfl rfl ca50) rfl rfl (how_run hK _ _ (by assumption)) ?_; rintro _ _ ⟨rfl, _, _⟩)) <;> refine ⟨_, rfl, ?_⟩))
        <;> (refine WD.cons rfl ?_; ((first | refine Op1.skip rfl rfl rfl ?_ | (refine Op1.spB (C.call rfl rfl rfl rfl ca49) rfl rfl (sign_run hK _ _ _ (by assumption)) ?_ ?_ <;> (rintro _ ⟨_, _⟩ _))) <;> refine ⟨_, rfl, ?_⟩))
        <;> (refine WD.cons rfl ?_; ((first | refine Op1.skip rfl rfl rfl ?_ | refine Op1.val (V.not_true rfl rfl) rfl rfl ?_ | refine Op1.val (V.not_false rfl rfl) rfl rfl ?_) <;> refine ⟨_, rfl, ?_⟩))
        <;> (refine WD.cons rfl ?_; ((first | refine Op1.val (V.pick_true rfl rfl rfl) rfl rfl ?_ | refine Op1.val (V.pick_false rfl rfl rfl) rfl rfl ?_) <;> refine ⟨_, rfl, ?_⟩))
        <;> (refine WD.cons rfl ?_; ((refine Op1.val (V.move rfl rfl) rfl rfl ?_) <;> refine ⟨_, rfl, ?_⟩))
        <;> (refine WD.cons rfl ?_; ((first | refine Op1.skip rfl rfl rfl ?_ | refine Op1.val (V.fieldAddr hT rfl rfl rfl rfl rfl rfl) rfl rfl ?_) <;> refine ⟨_, rfl, ?_⟩))
        <;> (refine WD.cons rfl ?_; ((first | refine Op1.skip rfl rfl rfl ?_ | refine Op1.val (V.load hT rfl rfl rfl rfl (by (repeat (first | assumption | refine Grow.get (by assumption) ?_))) rfl) rfl rfl ?_) <;> refine ⟨_, rfl, ?_⟩))
        <;> (refine WD.cons rfl ?_; ((first | refine Op1.skip rfl rfl rfl ?_ | refine Op1.val (V.fieldAddr hT rfl rfl rfl rfl rfl rfl) rfl rfl ?_) <;> refine ⟨_, rfl, ?_⟩))
        <;> (refine WD.cons rfl ?_; ((first | refine Op1.skip rfl rfl rfl ?_ | refine Op1.val (V.load hT rfl rfl rfl rfl (by (repeat (first | assumption | refine Grow.get (by assumption) ?_))) rfl) rfl rfl ?_) <;> refine ⟨_, rfl, ?_⟩))
        <;> (refine WD.cons rfl ?_; ((first | refine Op1.skip rfl rfl rfl ?_ | refine Op1.val (V.fieldAddr hT rfl rfl rfl rfl rfl rfl) rfl rfl ?_) <;> refine ⟨_, rfl, ?_⟩))
        <;> (refine WD.cons rfl ?_; ((first | refine Op1.skip rfl rfl rfl ?_ | refine Op1.val (V.load hT rfl rfl rfl rfl (by (repeat (first | assumption | refine Grow.get (by assumption) ?_))) rfl) rfl rfl ?_) <;> refine ⟨_, rfl, ?_⟩))
        <;> (refine WD.cons rfl ?_; ((first | refine Op1.skip rfl rfl rfl ?_ | refine Op1.val (V.fieldAddr hT rfl rfl rfl rfl rfl rfl) rfl rfl ?_) <;> refine ⟨_, rfl, ?_⟩))
        <;> (refine WD.cons rfl ?_; ((first | refine Op1.skip rfl rfl rfl ?_ | refine Op1.val (V.load hT rfl rfl rfl rfl (by (repeat (first | assumption | refine Grow.get (by assumption) ?_))) rfl) rfl rfl ?_) <;> refine ⟨_, rfl, ?_⟩))
        <;> (refine WD.cons rfl ?_; ((first | refine Op1.skip rfl rfl rfl ?_ | (refine Op1.sp (C.call rfl rfl rfl rfl ca52) rfl rfl (what_run hK _ _ (by assumption)) ?_; rintro _ _ ⟨rfl, _, _⟩)) <;> refine ⟨_, rfl, ?_⟩))
        <;> (refine WD.cons rfl ?_; ((first | refine Op1.skip rfl rfl rfl ?_ | (refine Op1.spB (C.call rfl rfl rfl rfl ca51) rfl rfl (word_run hK f _ _ n1 n2 _ (by assumption) (by (repeat (first | assumption | refine FlowD.Ok.grow (by assumption) ?_)))) ?_ ?_ <;> (rintro _ ⟨_, _⟩ _))) <;> refine ⟨_, rfl, ?_⟩))
        <;> (refine WD.cons rfl ?_; ((first | refine Op1.skip rfl rfl rfl ?_ | refine Op1.val (V.not_true rfl rfl) rfl rfl ?_ | refine Op1.val (V.not_false rfl rfl) rfl rfl ?_) <;> refine ⟨_, rfl, ?_⟩))
        <;> (refine WD.cons rfl ?_; ((first | refine Op1.val (V.pick_true rfl rfl rfl) rfl rfl ?_ | refine Op1.val (V.pick_false rfl rfl rfl) rfl rfl ?_) <;> refine ⟨_, rfl, ?_⟩))
        <;> (refine WD.nil ⟨?_, Then.intro rfl ?_⟩; (repeat' (first | exact trivial | refine ⟨?_, ?_⟩ | exact Or.inl rfl | exact Or.inr ⟨⟨_, _, V.load hT rfl rfl rfl rfl (by (repeat (first | assumption | refine Grow.get (by assumption) ?_))) rfl, V.load hT rfl rfl rfl rfl (by (repeat (first | assumption | refine Grow.get (by assumption) ?_))) rfl⟩, by first | exact beq_int | exact beq_len (by assumption)⟩)))))
    | (refine WC.region (id := 5) ?_; ((refine WO.cons ?_; (refine Op1.val (V.assign rfl rfl) rfl rfl ?_))
        <;> (refine WO.nil (Then.intro rfl ?_))))
    | (refine WC.region (id := 6) ?_; ((refine WO.cons ?_; (refine Op1.val (V.fieldAddr hT rfl rfl rfl rfl rfl rfl) rfl rfl ?_))
        <;> (refine WO.cons ?_; (refine Op1.val (V.load hT rfl rfl rfl rfl (by (repeat (first | assumption | refine Grow.get (by assumption) ?_))) rfl) rfl rfl ?_))
        <;> (refine WO.cons ?_; ((refine Op1.neq rfl rfl rfl rfl rfl rfl ?_ ?_ <;> intro _)))
        <;> (refine WO.nil (Then.intro rfl ?_))))
    | (refine WC.region (id := 7) ?_; ((refine WO.cons ?_; (refine Op1.val (V.fieldAddr hT rfl rfl rfl rfl rfl rfl) rfl rfl ?_))
        <;> (refine WO.cons ?_; (refine Op1.val (V.load hT rfl rfl rfl rfl (by (repeat (first | assumption | refine Grow.get (by assumption) ?_))) rfl) rfl rfl ?_))
        <;> (refine WO.cons ?_; (refine Op1.val (V.len hT rfl rfl rfl rfl rfl rfl (by first | rfl | assumption)) rfl rfl ?_))
        <;> (refine WO.cons ?_; ((refine Op1.eql rfl rfl rfl rfl rfl rfl ?_ ?_ <;> intro _)))
        <;> (refine WO.cons ?_; (refine Op1.val (V.assign rfl rfl) rfl rfl ?_))
        <;> (refine WO.nil (Then.intro rfl ?_))))
    | (refine WC.region (id := 8) ?_; ((refine WO.cons ?_; (refine Op1.val (V.assign rfl rfl) rfl rfl ?_))
        <;> (refine WO.nil (Then.intro rfl ?_))))
    | refine WC.ret ?_
    | refine To.ret_seq ?_
    | refine WC.cond_true rfl ?_
    | refine WC.cond_false rfl ?_
    | refine WC.skip ?_
    | refine WC.block ?_
    | refine To.fn_ret rfl ?_)
  all_goals try (refine ⟨?_, (by (repeat (first | assumption | exact Grow.refl _ | refine Grow.trans ?_ (by assumption)))), by assumption⟩; simp only [resV]; unfold FlowD.refInstrM; first | (rw [decide_eq_false (by omega)]; rfl) | (rw [decide_eq_true (p := _ ∧ _) (by omega)]; simp_all; done))
  have e0 : f.refInstrM x before = ((x.args.drop 0).all (regM f.regs true) && decide ((x.args.length : Int) = before)) := by unfold FlowD.refInstrM; rw [decide_eq_true (p := _ ∧ _) (by omega)]; simp_all
  refine WC.sub (L' := [(10, .int .i64 ((0 : Nat) : Int)), (3, .ptr kf 0), (4, .ptr kb 0), (2, .int .i64 before)]) ⟨rfl, rfl, rfl, rfl, trivial⟩ ?_
  refine WC.iter (fun i => (10, .int .i64 (i : Int)) :: _) (fun i h' => f.refInstrM x before = ((x.args.drop i).all (regM f.regs true) && decide ((x.args.length : Int) = before)) ∧ Grow hb h' ∧ Wf h') x.args.length ?_ 0 _ (Nat.zero_le _) ⟨e0, (by (repeat (first | assumption | exact Grow.refl _ | refine Grow.trans ?_ (by assumption)))), by assumption⟩
  rintro i h1 hi ⟨he, hg, hw⟩ next
  repeat' (first
    | refine To.nrm_seq ?_
    | refine WC.seq ?_
    | (refine WC.region (id := 9) ?_; ((refine WO.cons ?_; (refine Op1.val (V.move rfl rfl) rfl rfl ?_))
        <;> (refine WO.cons ?_; (refine Op1.val (V.fieldAddr hT rfl rfl rfl rfl rfl rfl) rfl rfl ?_))
        <;> (refine WO.cons ?_; (refine Op1.val (V.load hT rfl rfl rfl rfl (by (repeat (first | assumption | refine Grow.get (by assumption) ?_))) rfl) rfl rfl ?_))
        <;> (refine WO.cons ?_; (refine Op1.val (V.len hT rfl rfl rfl rfl rfl rfl (by first | rfl | assumption)) rfl rfl ?_))
        <;> (refine WO.cons ?_; ((refine Op1.lss rfl rfl rfl rfl rfl rfl ?_ ?_ <;> intro _)))
        <;> (refine WO.nil (Then.intro rfl ?_))))
    | (refine WC.draw (id := 11) [0, 1, 2, 3, 4, 5, 6, 7, 8, 9, 10, 11, 12, 13, 14, 15] #[0, 1, 0, 7, 15, 31, 63, 127, 255, 127, 1023, 2047, 127, 4223, 16383, 32767] (by kernel_rfl) (by kernel_rfl) (by kernel_rfl) ?_; ((refine WD.cons rfl ?_; ((refine Op1.val (V.fieldAddr hT rfl rfl rfl rfl rfl rfl) rfl rfl ?_) <;> refine ⟨_, rfl, ?_⟩))
        <;> (refine WD.cons rfl ?_; ((refine Op1.val (V.load hT rfl rfl rfl rfl (by (repeat (first | assumption | refine Grow.get (by assumption) ?_))) rfl) rfl rfl ?_) <;> refine ⟨_, rfl, ?_⟩))
        <;> (refine WD.cons rfl ?_; ((refine Op1.val (V.move rfl rfl) rfl rfl ?_) <;> refine ⟨_, rfl, ?_⟩))
        <;> (refine WD.cons rfl ?_; (((refine Op1.index hT rfl rfl rfl rfl rfl rfl rfl (SliceAt.grow (Grow.trans (Grow.trans ef eb) hg) ha0) (row_i (0 : Int) (by omega)) ?_; intro kx ox rx kvx)) <;> refine ⟨_, rfl, ?_⟩))
        <;> (refine WD.cons rfl ?_; ((refine Op1.val (V.loadR0 hT rfl rfl rfl rfl (by assumption) rfl) rfl rfl ?_) <;> refine ⟨_, rfl, ?_⟩))
        <;> (refine WD.cons rfl ?_; (((refine Op1.lss rfl rfl rfl rfl rfl rfl ?_ ?_ <;> intro _)) <;> refine ⟨_, rfl, ?_⟩))
        <;> (refine WD.cons rfl ?_; ((refine Op1.val (V.move rfl rfl) rfl rfl ?_) <;> refine ⟨_, rfl, ?_⟩))
        <;> (refine WD.cons rfl ?_; ((first | refine Op1.skip rfl rfl rfl ?_ | refine Op1.val (V.fieldAddr hT rfl rfl rfl rfl rfl rfl) rfl rfl ?_) <;> refine ⟨_, rfl, ?_⟩))
        <;> (refine WD.cons rfl ?_; ((first | refine Op1.skip rfl rfl rfl ?_ | refine Op1.val (V.load hT rfl rfl rfl rfl (by (repeat (first | assumption | refine Grow.get (by assumption) ?_))) rfl) rfl rfl ?_) <;> refine ⟨_, rfl, ?_⟩))
        <;> (refine WD.cons rfl ?_; ((first | refine Op1.skip rfl rfl rfl ?_ | refine Op1.val (V.move rfl rfl) rfl rfl ?_) <;> refine ⟨_, rfl, ?_⟩))
        <;> (refine WD.cons rfl ?_; ((first | refine Op1.skip rfl rfl rfl ?_ | (refine Op1.index hT rfl rfl rfl rfl rfl rfl rfl (SliceAt.grow (Grow.trans (Grow.trans ef eb) hg) ha0) (row_i (0 : Int) (by omega)) ?_; intro kx ox rx kvx)) <;> refine ⟨_, rfl, ?_⟩))
        <;> (refine WD.cons rfl ?_; ((first | refine Op1.skip rfl rfl rfl ?_ | refine Op1.val (V.loadR0 hT rfl rfl rfl rfl (by assumption) rfl) rfl rfl ?_) <;> refine ⟨_, rfl, ?_⟩))
        <;> (refine WD.cons rfl ?_; ((first | refine Op1.skip rfl rfl rfl ?_ | refine Op1.val (V.fieldAddr hT rfl rfl rfl rfl rfl rfl) rfl rfl ?_) <;> refine ⟨_, rfl, ?_⟩))
        <;> (refine WD.cons rfl ?_; ((first | refine Op1.skip rfl rfl rfl ?_ | refine Op1.val (V.load hT rfl rfl rfl rfl (by (repeat (first | assumption | refine Grow.get (by assumption) ?_))) rfl) rfl rfl ?_) <;> refine ⟨_, rfl, ?_⟩))
        <;> (refine WD.cons rfl ?_; ((first | refine Op1.skip rfl rfl rfl ?_ | (refine Op1.geq rfl rfl rfl rfl rfl rfl ?_ ?_ <;> intro _)) <;> refine ⟨_, rfl, ?_⟩))
        <;> (refine WD.cons rfl ?_; ((first | refine Op1.val (V.pick_true rfl rfl rfl) rfl rfl ?_ | refine Op1.val (V.pick_false rfl rfl rfl) rfl rfl ?_) <;> refine ⟨_, rfl, ?_⟩))
        <;> (refine WD.nil ⟨?_, Then.intro rfl ?_⟩; (repeat' (first | exact trivial | refine ⟨?_, ?_⟩)))))
    | (refine WC.region (id := 12) ?_; ((refine WO.cons ?_; (refine Op1.val (V.assign rfl rfl) rfl rfl ?_))
        <;> (refine WO.nil (Then.intro rfl ?_))))
    | (refine WC.region (id := 10) ?_; ((refine WO.cons ?_; (refine Op1.val (V.move rfl rfl) rfl rfl ?_))
        <;> (refine WO.cons ?_; (refine Op1.val (V.add rfl rfl rfl rfl (wrapF_i64 (by first | omega | (simp only [Int.ofNat_eq_natCast]; omega)) (by first | omega | (simp only [Int.ofNat_eq_natCast]; omega)))) rfl rfl ?_))
        <;> (refine WO.cons ?_; (refine Op1.val (V.assign rfl rfl) rfl rfl ?_))
        <;> (refine WO.nil (Then.intro rfl ?_))))
    | (refine WC.region (id := 13) ?_; ((refine WO.cons ?_; (refine Op1.val (V.fieldAddr hT rfl rfl rfl rfl rfl rfl) rfl rfl ?_))
        <;> (refine WO.cons ?_; (refine Op1.val (V.load hT rfl rfl rfl rfl (by (repeat (first | assumption | refine Grow.get (by assumption) ?_))) rfl) rfl rfl ?_))
        <;> (refine WO.cons ?_; (refine Op1.val (V.len hT rfl rfl rfl rfl rfl rfl (by first | rfl | assumption)) rfl rfl ?_))
        <;> (refine WO.cons ?_; (refine Op1.val (V.move rfl rfl) rfl rfl ?_))
        <;> (refine WO.cons ?_; ((refine Op1.eql rfl rfl rfl rfl rfl rfl ?_ ?_ <;> intro _)))
        <;> (refine WO.cons ?_; (refine Op1.val (V.assign rfl rfl) rfl rfl ?_))
        <;> (refine WO.nil (Then.intro rfl ?_))))
    | refine WC.ret ?_
    | refine To.ret_seq ?_
    | refine To.ret_block ?_
    | refine WC.cond_true rfl ?_
    | refine WC.cond_false rfl ?_
    | refine WC.skip ?_
    | refine WC.block ?_
    | refine WC.exit ?_
    | refine To.exit_seq ?_
    | refine To.exit_block ?_
    | refine To.nrm_block ?_
    | refine To.fn_ret rfl ?_)
  all_goals first
    | (refine next _ _ (by omega) ⟨rfl, rfl, rfl, rfl, trivial⟩ ⟨?_, (by (repeat (first | assumption | exact Grow.refl _ | refine Grow.trans ?_ (by assumption)))), by assumption⟩; clear next; rw [he, all_step _ (by omega) (0 : Int)]; unfold regM; first | (simp_all; done) | (simp_all; omega))
    | (clear next; refine ⟨?_, (by (repeat (first | assumption | exact Grow.refl _ | refine Grow.trans ?_ (by assumption)))), by assumption⟩; rw [he, List.drop_of_length_le (by omega)]; first | rfl | (rw [decide_eq_true (by assumption)]; rfl) | (rw [decide_eq_false (by assumption)]; rfl))
    | (clear next; refine ⟨?_, (by (repeat (first | assumption | exact Grow.refl _ | refine Grow.trans ?_ (by assumption)))), by assumption⟩; rw [he, all_step _ (by omega) (0 : Int)]; unfold regM; first | (simp_all [resV]; done) | (simp_all [resV]; omega) | (simp_all [resV]; intros; omega))
end Fv
end Go.HL
