/- The walk of FlowValid: the reference's validity. No statement of the seat stands here. -/
import Derived.Test.YtfmflhdogffjoaaGreatDoorFvS
namespace Go.HL
open Go Go.Proofs
namespace Fv
set_option maxRecDepth 10000
set_option maxHeartbeats 4000000
variable {K : CallFn} {base : List (Nat × HObj)}
def FlowD.okA (f : FlowD) (i : Nat) : Bool := decide (f.sizeM (i + 1) ≤ 2000) && f.endsM (f.at i)
def FlowD.okB (f : FlowD) (i : Nat) : Bool := f.reachM.getD i false && instrsR f i (f.predsLen i) (f.at i).ins
theorem FlowD.Ok.beq {f : FlowD} {h : Heap} (r : f.Ok h) : HVal.beq (.agg f.cells) (.agg f.cells) = true := by
  simp [HVal.beq, beqL, FlowD.cells, beq_len r.lp, beq_len r.ls, beq_len r.ln]
theorem validR_run (hK : KN base K) (f : FlowD) (h : Heap) (w : Wf h) (r : f.Ok h) : Sp P K 11 [.agg f.cells] h (Gives h (.bool f.validR)) := by
  have ln := r.ln
  have hns := r.nodes
  have bn0 := r.nlen
  have hbq := r.beq
  refine Sp.of (m := 89202980794122571872282283311836625991894015) (n := 147) (hK.none 11 rfl rfl _ _) Tryz.func11 rfl rfl mask11 rfl rfl ?_
  repeat' (first
    | refine To.nrm_seq ?_
    | refine WC.seq ?_
    | (refine WC.region (id := 0) ?_; ((refine WO.cons ?_; ((refine Op1.made (M.box rfl rfl rfl) rfl rfl (by assumption) ?_; rintro kb hb ⟨gb, eb, fb, wb, leb, ltb, obb⟩)))
        <;> (refine WO.cons ?_; (refine Op1.val (V.assign rfl rfl) rfl rfl ?_))
        <;> (refine WO.nil (Then.intro rfl ?_))))
    | (refine WC.region (id := 1) ?_; ((refine WO.cons ?_; (refine Op1.val (V.fieldAddr hT rfl rfl rfl rfl rfl rfl) rfl rfl ?_))
        <;> (refine WO.cons ?_; (refine Op1.val (V.load hT rfl rfl rfl rfl (by (repeat (first | assumption | refine Grow.get (by assumption) ?_))) rfl) rfl rfl ?_))
        <;> (refine WO.cons ?_; (refine Op1.val (V.fieldAddr hT rfl rfl rfl rfl rfl rfl) rfl rfl ?_))
        <;> (refine WO.cons ?_; (refine Op1.val (V.load hT rfl rfl rfl rfl (by (repeat (first | assumption | refine Grow.get (by assumption) ?_))) rfl) rfl rfl ?_))
        <;> (refine WO.cons ?_; (refine Op1.val (V.fieldAddr hT rfl rfl rfl rfl rfl rfl) rfl rfl ?_))
        <;> (refine WO.cons ?_; (refine Op1.val (V.load hT rfl rfl rfl rfl (by (repeat (first | assumption | refine Grow.get (by assumption) ?_))) rfl) rfl rfl ?_))
        <;> (refine WO.cons ?_; ((refine Op1.spB (C.call rfl rfl rfl rfl ca26) rfl rfl (heads_run hK f _ (by assumption) (by (repeat (first | assumption | refine FlowD.Ok.grow (by assumption) ?_)))) ?_ ?_ <;> (rintro _ ⟨_, _⟩ _))))
        <;> (refine WO.cons ?_; (first | refine Op1.val (V.not_true rfl rfl) rfl rfl ?_ | refine Op1.val (V.not_false rfl rfl) rfl rfl ?_))
        <;> (refine WO.cons ?_; (refine Op1.val (V.move rfl rfl) rfl rfl ?_))
        <;> (refine WO.cons ?_; (first | refine Op1.skip rfl rfl rfl ?_ | refine Op1.val (V.fieldAddr hT rfl rfl rfl rfl rfl rfl) rfl rfl ?_))
        <;> (refine WO.cons ?_; (first | refine Op1.skip rfl rfl rfl ?_ | refine Op1.val (V.load hT rfl rfl rfl rfl (by (repeat (first | assumption | refine Grow.get (by assumption) ?_))) rfl) rfl rfl ?_))
        <;> (refine WO.cons ?_; (first | refine Op1.skip rfl rfl rfl ?_ | (refine Op1.lss rfl rfl rfl rfl rfl rfl ?_ ?_ <;> intro _)))
        <;> (refine WO.cons ?_; (first | refine Op1.val (V.pick_true rfl rfl rfl) rfl rfl ?_ | refine Op1.val (V.pick_false rfl rfl rfl) rfl rfl ?_))
        <;> (refine WO.cons ?_; (refine Op1.val (V.move rfl rfl) rfl rfl ?_))
        <;> (refine WO.cons ?_; (first | refine Op1.skip rfl rfl rfl ?_ | refine Op1.val (V.fieldAddr hT rfl rfl rfl rfl rfl rfl) rfl rfl ?_))
        <;> (refine WO.cons ?_; (first | refine Op1.skip rfl rfl rfl ?_ | refine Op1.val (V.load hT rfl rfl rfl rfl (by (repeat (first | assumption | refine Grow.get (by assumption) ?_))) rfl) rfl rfl ?_))
        <;> (refine WO.cons ?_; (first | refine Op1.skip rfl rfl rfl ?_ | (refine Op1.gtr rfl rfl rfl rfl rfl rfl ?_ ?_ <;> intro _)))
        <;> (refine WO.cons ?_; (first | refine Op1.val (V.pick_true rfl rfl rfl) rfl rfl ?_ | refine Op1.val (V.pick_false rfl rfl rfl) rfl rfl ?_))
        <;> (refine WO.cons ?_; (refine Op1.val (V.move rfl rfl) rfl rfl ?_))
        <;> (refine WO.cons ?_; (first | refine Op1.skip rfl rfl rfl ?_ | refine Op1.val (V.fieldAddr hT rfl rfl rfl rfl rfl rfl) rfl rfl ?_))
        <;> (refine WO.cons ?_; (first | refine Op1.skip rfl rfl rfl ?_ | refine Op1.val (V.load hT rfl rfl rfl rfl (by (repeat (first | assumption | refine Grow.get (by assumption) ?_))) rfl) rfl rfl ?_))
        <;> (refine WO.cons ?_; (first | refine Op1.skip rfl rfl rfl ?_ | refine Op1.val (V.len hT rfl rfl rfl rfl rfl rfl (by first | rfl | assumption)) rfl rfl ?_))
        <;> (refine WO.cons ?_; (first | refine Op1.skip rfl rfl rfl ?_ | (refine Op1.lss rfl rfl rfl rfl rfl rfl ?_ ?_ <;> intro _)))
        <;> (refine WO.cons ?_; (first | refine Op1.val (V.pick_true rfl rfl rfl) rfl rfl ?_ | refine Op1.val (V.pick_false rfl rfl rfl) rfl rfl ?_))
        <;> (refine WO.cons ?_; (refine Op1.val (V.move rfl rfl) rfl rfl ?_))
        <;> (refine WO.cons ?_; (first | refine Op1.skip rfl rfl rfl ?_ | refine Op1.val (V.fieldAddr hT rfl rfl rfl rfl rfl rfl) rfl rfl ?_))
        <;> (refine WO.cons ?_; (first | refine Op1.skip rfl rfl rfl ?_ | refine Op1.val (V.load hT rfl rfl rfl rfl (by (repeat (first | assumption | refine Grow.get (by assumption) ?_))) rfl) rfl rfl ?_))
        <;> (refine WO.cons ?_; (first | refine Op1.skip rfl rfl rfl ?_ | refine Op1.val (V.len hT rfl rfl rfl rfl rfl rfl (by first | rfl | assumption)) rfl rfl ?_))
        <;> (refine WO.cons ?_; (first | refine Op1.skip rfl rfl rfl ?_ | (refine Op1.gtr rfl rfl rfl rfl rfl rfl ?_ ?_ <;> intro _)))
        <;> (refine WO.cons ?_; (first | refine Op1.val (V.pick_true rfl rfl rfl) rfl rfl ?_ | refine Op1.val (V.pick_false rfl rfl rfl) rfl rfl ?_))
        <;> (refine WO.nil (Then.intro rfl ?_))))
    | (refine WC.region (id := 2) ?_; ((refine WO.cons ?_; (refine Op1.val (V.assign rfl rfl) rfl rfl ?_))
        <;> (refine WO.nil (Then.intro rfl ?_))))
    | (refine WC.region (id := 3) ?_; ((refine WO.cons ?_; (refine Op1.val (V.fieldAddr hT rfl rfl rfl rfl rfl rfl) rfl rfl ?_))
        <;> (refine WO.cons ?_; (refine Op1.val (V.load hT rfl rfl rfl rfl (by (repeat (first | assumption | refine Grow.get (by assumption) ?_))) rfl) rfl rfl ?_))
        <;> (refine WO.cons ?_; (refine Op1.val (V.len hT rfl rfl rfl rfl rfl rfl (by first | rfl | assumption)) rfl rfl ?_))
        <;> (refine WO.cons ?_; (refine Op1.val (V.assign rfl rfl) rfl rfl ?_))
        <;> (refine WO.nil (Then.intro rfl ?_))))
    | (refine WC.region (id := 4) ?_; ((refine WO.cons ?_; (refine Op1.val (V.assign rfl rfl) rfl rfl ?_))
        <;> (refine WO.nil (Then.intro rfl ?_))))
    | refine WC.ret ?_
    | refine To.ret_seq ?_
    | refine WC.cond_true rfl ?_
    | refine WC.cond_false rfl ?_
    | refine WC.skip ?_
    | refine WC.block ?_
    | refine To.fn_ret rfl ?_)
  all_goals try (refine ⟨?_, (by (repeat (first | assumption | exact Grow.refl _ | refine Grow.trans ?_ (by assumption)))), by assumption⟩; simp only [resV]; unfold FlowD.validR; first | (rw [decide_eq_false (p := 1 ≤ f.nodes.length ∧ _) (by omega)]; simp; done) | (rw [decide_eq_false (p := 0 ≤ f.regs ∧ _) (by omega)]; simp; done) | (simp_all; done))
  have hn : 1 ≤ f.nodes.length ∧ f.nodes.length ≤ 2000 := by omega
  have hv0 : f.validR = ((List.range f.nodes.length).all f.okA && (List.range f.nodes.length).all f.okB) := by
    have e1 : f.headsM = true := by assumption
    unfold FlowD.validR
    rw [decide_eq_true hn, e1, decide_eq_true (by omega)]
    rfl
  refine WC.sub (L' := [(4, .int .i64 ((0 : Nat) : Int)), (3, .int .i64 (f.nodes.length : Int)), (1, .ptr kb 0)]) ⟨rfl, rfl, rfl, trivial⟩ ?_
  refine WC.iter (fun i => [(4, .int .i64 (i : Int)), (3, .int .i64 (f.sizeM i : Int)), (1, .ptr kb 0)]) (fun i h' => f.validR = (((List.range f.nodes.length).drop i).all f.okA && (List.range f.nodes.length).all f.okB) ∧ f.sizeM i ≤ 2000 ∧ (∀ j, j < i → f.endsM (f.at j) = true) ∧ Grow hb h' ∧ Wf h') f.nodes.length ?_ 0 _ (Nat.zero_le _) ⟨hv0, by simp [FlowD.sizeM, sumM]; omega, fun _ e => absurd e (by omega), (by (repeat (first | assumption | exact Grow.refl _ | refine Grow.trans ?_ (by assumption)))), by assumption⟩
  rintro i h1 hi ⟨he, hsz, hall, hg, hw⟩ next
  by_cases hin : i < f.nodes.length
  · have hnok : (f.at i).Ok h := r.each _ (getD_mem noNode hin)
    have li := hnok.li
    have bi := hnok.len
    have hst := sizeM_step hin
    rw [all_step _ (by simpa using hin) 0, show (List.range f.nodes.length).getD i 0 = i by simp [List.getD, hin]] at he
    have hnd : f.nodes.getD i noNode = f.at i := rfl
    repeat' (first
      | refine To.nrm_seq ?_
      | refine WC.seq ?_
      | (refine WC.region (id := 5) ?_; ((refine WO.cons ?_; (refine Op1.val (V.move rfl rfl) rfl rfl ?_))
          <;> (refine WO.cons ?_; (refine Op1.val (V.fieldAddr hT rfl rfl rfl rfl rfl rfl) rfl rfl ?_))
          <;> (refine WO.cons ?_; (refine Op1.val (V.load hT rfl rfl rfl rfl (by (repeat (first | assumption | refine Grow.get (by assumption) ?_))) rfl) rfl rfl ?_))
          <;> (refine WO.cons ?_; (refine Op1.val (V.len hT rfl rfl rfl rfl rfl rfl (by first | rfl | assumption)) rfl rfl ?_))
          <;> (refine WO.cons ?_; ((refine Op1.lss rfl rfl rfl rfl rfl rfl ?_ ?_ <;> intro _)))
          <;> (refine WO.nil (Then.intro rfl ?_))))
      | (refine WC.region (id := 7) ?_; ((refine WO.cons ?_; (refine Op1.val (V.move rfl rfl) rfl rfl ?_))
          <;> (refine WO.cons ?_; (refine Op1.val (V.fieldAddr hT rfl rfl rfl rfl rfl rfl) rfl rfl ?_))
          <;> (refine WO.cons ?_; (refine Op1.val (V.load hT rfl rfl rfl rfl (by (repeat (first | assumption | refine Grow.get (by assumption) ?_))) rfl) rfl rfl ?_))
          <;> (refine WO.cons ?_; (refine Op1.val (V.move rfl rfl) rfl rfl ?_))
          <;> (refine WO.cons ?_; ((refine Op1.index hT rfl rfl rfl rfl rfl rfl rfl (SliceAt.grow (Grow.trans eb hg) hns) (row_is noNode hin hnd) ?_; intro kx ox rx kvx)))
          <;> (refine WO.cons ?_; (refine Op1.val (V.fieldAddr hT rfl rfl rfl rfl rfl rfl) rfl rfl ?_))
          <;> (refine WO.cons ?_; (refine Op1.val (V.loadR hT rfl rfl rfl rfl (by assumption) rfl) rfl rfl ?_))
          <;> (refine WO.cons ?_; (refine Op1.val (V.len hT rfl rfl rfl rfl rfl rfl (by first | rfl | assumption)) rfl rfl ?_))
          <;> (refine WO.cons ?_; (refine Op1.val (V.add rfl rfl rfl rfl (wrapF_i64 (by first | omega | (simp only [Int.ofNat_eq_natCast]; omega)) (by first | omega | (simp only [Int.ofNat_eq_natCast]; omega)))) rfl rfl ?_))
          <;> (refine WO.cons ?_; (refine Op1.val (V.assign rfl rfl) rfl rfl ?_))
          <;> (refine WO.nil (Then.intro rfl ?_))))
      | (refine WC.draw (id := 8) [0, 1, 2, 3, 4, 5, 6, 7, 8, 9, 10, 11] #[0, 1, 3, 7, 7, 23, 7, 119, 247, 511, 1023, 2047] (by kernel_rfl) (by kernel_rfl) (by kernel_rfl) ?_; ((refine WD.cons rfl ?_; ((refine Op1.val (V.move rfl rfl) rfl rfl ?_) <;> refine ⟨_, rfl, ?_⟩))
          <;> (refine WD.cons rfl ?_; (((refine Op1.gtr rfl rfl rfl rfl rfl rfl ?_ ?_ <;> intro _)) <;> refine ⟨_, rfl, ?_⟩))
          <;> (refine WD.cons rfl ?_; ((refine Op1.val (V.move rfl rfl) rfl rfl ?_) <;> refine ⟨_, rfl, ?_⟩))
          <;> (refine WD.cons rfl ?_; ((first | refine Op1.skip rfl rfl rfl ?_ | refine Op1.val (V.loadS hT rfl rfl rfl rfl (by (repeat (first | assumption | refine Grow.get (by assumption) ?_))) rfl) rfl rfl ?_) <;> refine ⟨_, rfl, ?_⟩))
          <;> (refine WD.cons rfl ?_; ((first | refine Op1.skip rfl rfl rfl ?_ | refine Op1.val (V.fieldAddr hT rfl rfl rfl rfl rfl rfl) rfl rfl ?_) <;> refine ⟨_, rfl, ?_⟩))
          <;> (refine WD.cons rfl ?_; ((first | refine Op1.skip rfl rfl rfl ?_ | refine Op1.val (V.load hT rfl rfl rfl rfl (by (repeat (first | assumption | refine Grow.get (by assumption) ?_))) rfl) rfl rfl ?_) <;> refine ⟨_, rfl, ?_⟩))
          <;> (refine WD.cons rfl ?_; ((first | refine Op1.skip rfl rfl rfl ?_ | refine Op1.val (V.move rfl rfl) rfl rfl ?_) <;> refine ⟨_, rfl, ?_⟩))
          <;> (refine WD.cons rfl ?_; ((first | refine Op1.skip rfl rfl rfl ?_ | (refine Op1.index hT rfl rfl rfl rfl rfl rfl rfl (SliceAt.grow (Grow.trans eb hg) hns) (row_is noNode hin hnd) ?_; intro kx ox rx kvx)) <;> refine ⟨_, rfl, ?_⟩))
          <;> (refine WD.cons rfl ?_; ((first | refine Op1.skip rfl rfl rfl ?_ | refine Op1.val (V.loadRS hT rfl rfl rfl rfl (by assumption) rfl) rfl rfl ?_) <;> refine ⟨_, rfl, ?_⟩))
          <;> (refine WD.cons rfl ?_; ((first | refine Op1.skip rfl rfl rfl ?_ | (refine Op1.spB (C.call rfl rfl rfl rfl ca27) rfl rfl (refEnds_run hK f (f.at i) _ (by assumption) (FlowD.Ok.grow (Grow.trans eb hg) r)) ?_ ?_ <;> (rintro _ ⟨_, _⟩ _))) <;> refine ⟨_, rfl, ?_⟩))
          <;> (refine WD.cons rfl ?_; ((first | refine Op1.skip rfl rfl rfl ?_ | refine Op1.val (V.not_true rfl rfl) rfl rfl ?_ | refine Op1.val (V.not_false rfl rfl) rfl rfl ?_) <;> refine ⟨_, rfl, ?_⟩))
          <;> (refine WD.cons rfl ?_; ((first | refine Op1.val (V.pick_true rfl rfl rfl) rfl rfl ?_ | refine Op1.val (V.pick_false rfl rfl rfl) rfl rfl ?_) <;> refine ⟨_, rfl, ?_⟩))
          <;> (refine WD.nil ⟨?_, Then.intro rfl ?_⟩; (repeat' (first | exact trivial | refine ⟨?_, ?_⟩ | exact Or.inl rfl)))))
      | (refine WC.region (id := 9) ?_; ((refine WO.cons ?_; (refine Op1.val (V.assign rfl rfl) rfl rfl ?_))
          <;> (refine WO.nil (Then.intro rfl ?_))))
      | (refine WC.region (id := 6) ?_; ((refine WO.cons ?_; (refine Op1.val (V.move rfl rfl) rfl rfl ?_))
          <;> (refine WO.cons ?_; (refine Op1.val (V.add rfl rfl rfl rfl (wrapF_i64 (by first | omega | (simp only [Int.ofNat_eq_natCast]; omega)) (by first | omega | (simp only [Int.ofNat_eq_natCast]; omega)))) rfl rfl ?_))
          <;> (refine WO.cons ?_; (refine Op1.val (V.assign rfl rfl) rfl rfl ?_))
          <;> (refine WO.nil (Then.intro rfl ?_))))
      | refine WC.ret ?_
      | refine To.ret_seq ?_
      | refine To.ret_block ?_
      | refine WC.cond_true rfl ?_
      | refine WC.cond_false rfl ?_
      | refine WC.skip ?_
      | refine WC.block ?_
      | refine WC.exit ?_
      | refine To.exit_seq ?_
      | refine To.exit_block ?_
      | refine To.nrm_block ?_
      | refine To.fn_ret rfl ?_)
    all_goals try (exfalso; omega)
    · clear next
      refine ⟨?_, (by (repeat (first | assumption | exact Grow.refl _ | refine Grow.trans ?_ (by assumption)))), by assumption⟩
      rw [he, show f.okA i = false by unfold FlowD.okA; rw [decide_eq_false (by omega)]; rfl]; rfl
    · refine next _ _ hin ⟨rfl, by rw [hst, Int.natCast_add]; rfl, rfl, trivial⟩ ⟨?_, by omega, fun j hj => ?_, (by (repeat (first | assumption | exact Grow.refl _ | refine Grow.trans ?_ (by assumption)))), by assumption⟩
      · clear next
        have e2 : f.endsM (f.at i) = true := by assumption
        rw [he, show f.okA i = true by unfold FlowD.okA; rw [decide_eq_true (by omega), e2]; rfl]; rfl
      · by_cases hji : j = i
        · subst hji; assumption
        · exact hall j (by omega)
    · clear next
      refine ⟨?_, (by (repeat (first | assumption | exact Grow.refl _ | refine Grow.trans ?_ (by assumption)))), by assumption⟩
      have e2 : f.endsM (f.at i) = false := by assumption
      rw [he, show f.okA i = false by unfold FlowD.okA; rw [e2, Bool.and_false]]; rfl
  · clear next
    have hlk : f.linked := by
      refine linked_of (b := true) ?_
      rw [Bool.and_true, List.all_eq_true]
      intro x hx
      obtain ⟨j, hj, rfl⟩ := List.getElem_of_mem hx
      have := hall j (by omega)
      simpa [FlowD.at, List.getD, List.getElem?_eq_getElem hj] using this
    rw [List.drop_of_length_le (by simp; omega)] at he
    have he : f.validR = ((List.range f.nodes.length).drop 0).all f.okB := by rw [he]; rfl
    repeat' (first
      | refine To.nrm_seq ?_
      | refine WC.seq ?_
      | (refine WC.region (id := 5) ?_; ((refine WO.cons ?_; (refine Op1.val (V.move rfl rfl) rfl rfl ?_))
          <;> (refine WO.cons ?_; (refine Op1.val (V.fieldAddr hT rfl rfl rfl rfl rfl rfl) rfl rfl ?_))
          <;> (refine WO.cons ?_; (refine Op1.val (V.load hT rfl rfl rfl rfl (by (repeat (first | assumption | refine Grow.get (by assumption) ?_))) rfl) rfl rfl ?_))
          <;> (refine WO.cons ?_; (refine Op1.val (V.len hT rfl rfl rfl rfl rfl rfl (by first | rfl | assumption)) rfl rfl ?_))
          <;> (refine WO.cons ?_; ((refine Op1.lss rfl rfl rfl rfl rfl rfl ?_ ?_ <;> intro _)))
          <;> (refine WO.nil (Then.intro rfl ?_))))
      | (refine WC.draw (id := 10) [0, 2, 1, 3, 4, 5] #[0, 1, 0, 7, 15, 31] (by kernel_rfl) (by kernel_rfl) (by kernel_rfl) ?_; ((refine WD.cons rfl ?_; ((refine Op1.val (V.loadS hT rfl rfl rfl rfl (by (repeat (first | assumption | refine Grow.get (by assumption) ?_))) rfl) rfl rfl ?_) <;> refine ⟨_, rfl, ?_⟩))
          <;> (refine WD.cons rfl ?_; ((refine Op1.val (V.loadS hT rfl rfl rfl rfl (by (repeat (first | assumption | refine Grow.get (by assumption) ?_))) rfl) rfl rfl ?_) <;> refine ⟨_, rfl, ?_⟩))
          <;> (refine WD.cons rfl ?_; (((refine Op1.sp (C.call rfl rfl rfl rfl ca22) rfl rfl (refPreds_run hK f _ (by assumption) (FlowD.Ok.grow (Grow.trans eb (by (repeat (first | assumption | exact Grow.refl _ | refine Grow.trans ?_ (by assumption))))) r) hn.2 hlk) ?_; rintro vk hk ⟨⟨vs, hv1, hv2, hv3⟩, gv, wv⟩; have lvk := hv2.len; rw [List.length_map, hv1, predsR_length] at lvk)) <;> refine ⟨_, rfl, ?_⟩))
          <;> (refine WD.cons rfl ?_; (((refine Op1.sp (C.call rfl rfl rfl rfl ca28) rfl rfl (refReached_run hK f _ (by assumption) (FlowD.Ok.grow (Grow.trans eb (by (repeat (first | assumption | exact Grow.refl _ | refine Grow.trans ?_ (by assumption))))) r) hn.2 hn.1 hlk) ?_; rintro vq hq ⟨rq, gq, wq⟩; have lvq := rq.slice.len)) <;> refine ⟨_, rfl, ?_⟩))
          <;> (refine WD.cons rfl ?_; ((refine Op1.val (V.assign rfl rfl) rfl rfl ?_) <;> refine ⟨_, rfl, ?_⟩))
          <;> (refine WD.cons rfl ?_; ((refine Op1.val (V.assign rfl rfl) rfl rfl ?_) <;> refine ⟨_, rfl, ?_⟩))
          <;> (refine WD.nil ⟨?_, Then.intro rfl ?_⟩; (repeat' (first | exact trivial | refine ⟨?_, ?_⟩ | exact Or.inl rfl | exact Or.inr ⟨⟨_, _, V.loadS hT rfl rfl rfl rfl (by (repeat (first | assumption | refine Grow.get (by assumption) ?_))) rfl, V.loadS hT rfl rfl rfl rfl (by (repeat (first | assumption | refine Grow.get (by assumption) ?_))) rfl⟩, hbq⟩)))))
      | (refine WC.region (id := 11) ?_; ((refine WO.cons ?_; (refine Op1.val (V.assign rfl rfl) rfl rfl ?_))
          <;> (refine WO.nil (Then.intro rfl ?_))))
      | refine WC.cond_true rfl ?_
      | refine WC.cond_false rfl ?_
      | refine WC.skip ?_
      | refine WC.block ?_
      | refine WC.exit ?_
      | refine To.exit_seq ?_
      | refine To.exit_block ?_)
    all_goals try (exfalso; omega)
    have hgbq : Grow hb hq := (by (repeat (first | assumption | exact Grow.refl _ | refine Grow.trans ?_ (by assumption))))
    have hgq : Grow h hq := Grow.trans eb hgbq
    have hrl := reach_length f hn.1
    refine WC.sub (L' := [(7, .int .i64 ((0 : Nat) : Int)), (6, vq), (5, vk), (1, .ptr kb 0)]) ⟨rfl, rfl, rfl, rfl, trivial⟩ ?_
    refine WC.iter (fun i => (7, .int .i64 (i : Int)) :: _) (fun i h' => f.validR = ((List.range f.nodes.length).drop i).all f.okB ∧ Grow hq h' ∧ Wf h') f.nodes.length ?_ 0 _ (Nat.zero_le _) ⟨he, Grow.refl _, wq⟩
    clear he hall hsz
    rintro i h2 hi ⟨he, hg2, hw2⟩ next
    have hgh2 : Grow h h2 := Grow.trans hgq hg2
    have hgb2 : Grow hb h2 := Grow.trans hgbq hg2
    by_cases hin : i < f.nodes.length
    · have hnok : (f.at i).Ok h := r.each _ (getD_mem noNode hin)
      have li := hnok.li
      have bi := hnok.len
      have hpi : i < f.predsR.length := by rw [predsR_length]; exact hin
      have lvi : lenV (vs.getD i .nils) = some (f.predsR.getD i []).length := by have := (hv3 i hpi).len; rw [List.length_map] at this; exact this
      rw [all_step _ (by simpa using hin) 0, show (List.range f.nodes.length).getD i 0 = i by simp [List.getD, hin]] at he
      have hnd : f.nodes.getD i noNode = f.at i := rfl
      repeat' (first
        | refine To.nrm_seq ?_
        | refine WC.seq ?_
        | (refine WC.region (id := 12) ?_; ((refine WO.cons ?_; (refine Op1.val (V.move rfl rfl) rfl rfl ?_))
            <;> (refine WO.cons ?_; (refine Op1.val (V.fieldAddr hT rfl rfl rfl rfl rfl rfl) rfl rfl ?_))
            <;> (refine WO.cons ?_; (refine Op1.val (V.load hT rfl rfl rfl rfl (by (repeat (first | assumption | refine Grow.get (by assumption) ?_))) rfl) rfl rfl ?_))
            <;> (refine WO.cons ?_; (refine Op1.val (V.len hT rfl rfl rfl rfl rfl rfl (by first | rfl | assumption)) rfl rfl ?_))
            <;> (refine WO.cons ?_; ((refine Op1.lss rfl rfl rfl rfl rfl rfl ?_ ?_ <;> intro _)))
            <;> (refine WO.nil (Then.intro rfl ?_))))
        | (refine WC.region (id := 14) ?_; ((refine WO.cons ?_; (refine Op1.val (V.move rfl rfl) rfl rfl ?_))
            <;> (refine WO.cons ?_; (refine Op1.val (V.move rfl rfl) rfl rfl ?_))
            <;> (refine WO.cons ?_; ((refine Op1.index hT rfl rfl rfl rfl rfl rfl rfl (SliceAt.grow hg2 rq.slice) (row_i (g := boolCells) false (by omega)) ?_; intro kx ox rx kvx)))
            <;> (refine WO.cons ?_; ((refine Op1.loadRB0 hT rfl rfl rfl (by assumption) rfl rfl rfl ?_ ?_ <;> (intro hbl; (first | (cases hbl; done) | skip)))))
            <;> (refine WO.cons ?_; (first | refine Op1.val (V.not_true rfl rfl) rfl rfl ?_ | refine Op1.val (V.not_false rfl rfl) rfl rfl ?_))
            <;> (refine WO.nil (Then.intro rfl ?_))))
        | (refine WC.region (id := 15) ?_; ((refine WO.cons ?_; (refine Op1.val (V.assign rfl rfl) rfl rfl ?_))
            <;> (refine WO.nil (Then.intro rfl ?_))))
        | (refine WC.region (id := 16) ?_; ((refine WO.cons ?_; (refine Op1.val (V.fieldAddr hT rfl rfl rfl rfl rfl rfl) rfl rfl ?_))
            <;> (refine WO.cons ?_; (refine Op1.val (V.load hT rfl rfl rfl rfl (by (repeat (first | assumption | refine Grow.get (by assumption) ?_))) rfl) rfl rfl ?_))
            <;> (refine WO.cons ?_; (refine Op1.val (V.move rfl rfl) rfl rfl ?_))
            <;> (refine WO.cons ?_; ((refine Op1.index hT rfl rfl rfl rfl rfl rfl rfl (SliceAt.grow hgh2 hns) (row_is noNode hin hnd) ?_; intro kx ox rx kvx)))
            <;> (refine WO.cons ?_; (refine Op1.val (V.fieldAddr hT rfl rfl rfl rfl rfl rfl) rfl rfl ?_))
            <;> (refine WO.cons ?_; (refine Op1.val (V.loadR hT rfl rfl rfl rfl (by assumption) rfl) rfl rfl ?_))
            <;> (refine WO.cons ?_; (refine Op1.val (V.assign rfl rfl) rfl rfl ?_))
            <;> (refine WO.nil (Then.intro rfl ?_))))
        | (refine WC.region (id := 17) ?_; ((refine WO.cons ?_; (refine Op1.val (V.assign rfl rfl) rfl rfl ?_))
            <;> (refine WO.nil (Then.intro rfl ?_))))
        | (refine WC.region (id := 22) ?_; ((refine WO.cons ?_; (refine Op1.val (V.assign rfl rfl) rfl rfl ?_))
            <;> (refine WO.nil (Then.intro rfl ?_))))
        | refine WC.ret ?_
        | refine To.ret_seq ?_
        | refine To.ret_block ?_
        | refine WC.cond_true rfl ?_
        | refine WC.cond_false rfl ?_
        | refine WC.skip ?_
        | refine WC.block ?_
        | refine WC.exit ?_
        | refine To.exit_seq ?_
        | refine To.exit_block ?_
        | refine To.fn_ret rfl ?_)
      all_goals try (exfalso; omega)
      rotate_left
      · clear next
        refine ⟨?_, (by (repeat (first | assumption | exact Grow.refl _ | refine Grow.trans ?_ (by assumption)))), by assumption⟩
        have e2 : f.reachM.getD i false = false := by assumption
        rw [he, show f.okB i = false by unfold FlowD.okB; rw [e2]; rfl]; rfl
      have hokB : f.okB i = ((List.range (f.at i).ins.length).drop 0).all (instrR f i (f.predsLen i) (f.at i).ins) := by
        have e2 : f.reachM.getD i false = true := by assumption
        unfold FlowD.okB; rw [e2]; rfl
      rw [hokB] at he
      have hloose := hnok.loose
      refine WC.sub (L' := [(9, .int .i64 ((0 : Nat) : Int)), (8, (f.at i).iv), (7, .int .i64 (i : Int)), (6, vq), (5, vk), (1, .ptr kb 0)]) ⟨rfl, rfl, rfl, rfl, rfl, rfl, trivial⟩ ?_
      refine WC.iter (fun k => (9, .int .i64 (k : Int)) :: _) (fun k h' => f.validR = (((List.range (f.at i).ins.length).drop k).all (instrR f i (f.predsLen i) (f.at i).ins) && ((List.range f.nodes.length).drop (i + 1)).all f.okB) ∧ Grow h2 h' ∧ Wf h') (f.at i).ins.length ?_ 0 _ (Nat.zero_le _) ⟨he, Grow.refl _, hw2⟩
      rintro k h3 hkl ⟨he3, hg3, hw3⟩ next2
      have hins3 : SliceAt h3 (f.at i).iv 7 ((f.at i).ins.map InstrD.cells) := hnok.ins.grow (hgh2.trans hg3)
      by_cases hkt : k < (f.at i).ins.length
      · have hxok : ((f.at i).ins.getD k noInstr).Ok h := hnok.each _ (getD_mem noInstr hkt)
        have hk1 : ((k : Int) - 1).toNat = k - 1 := by omega
        rw [all_step _ (by simpa using hkt) 0, show (List.range (f.at i).ins.length).getD k 0 = k by simp [List.getD, hkt]] at he3
        have hir : instrR f i (f.predsLen i) (f.at i).ins k = (f.refInstrM ((f.at i).ins.getD k noInstr) (f.predsLen i) && !(decide (((f.at i).ins.getD k noInstr).kind = 11) && (decide (i = 0) || (decide (0 < k) && decide (((f.at i).ins.getD ((k : Int) - 1).toNat noInstr).kind ≠ 11)) || twiceM ((f.at i).ins.take k) ((f.at i).ins.getD k noInstr).d))) := by rw [hk1]; rfl
        generalize instrR f i (f.predsLen i) (f.at i).ins k = R at hir he3
        generalize hx : (f.at i).ins.getD k noInstr = x at hir hxok
        repeat' (first
          | refine To.nrm_seq ?_
          | refine WC.seq ?_
          | (refine WC.region (id := 18) ?_; ((refine WO.cons ?_; (refine Op1.val (V.move rfl rfl) rfl rfl ?_))
              <;> (refine WO.cons ?_; (refine Op1.val (V.move rfl rfl) rfl rfl ?_))
              <;> (refine WO.cons ?_; (refine Op1.val (V.len hT rfl rfl rfl rfl rfl rfl (by first | rfl | assumption)) rfl rfl ?_))
              <;> (refine WO.cons ?_; ((refine Op1.lss rfl rfl rfl rfl rfl rfl ?_ ?_ <;> intro _)))
              <;> (refine WO.nil (Then.intro rfl ?_))))
          | (refine WC.draw (id := 20) [0, 1, 2, 3, 4, 5, 6, 7, 8, 9, 10, 11, 12, 13, 14, 15, 16, 17, 18, 19, 20, 21, 22, 23, 24, 25, 26, 27, 28, 29, 30, 31, 32, 33, 34, 35, 36, 37, 38, 39, 40, 41, 42, 43, 44, 45, 46, 47] #[0, 0, 0, 6, 14, 0, 0, 96, 224, 480, 1023, 2047, 4095, 8191, 8191, 32767, 65535, 131071, 262143, 524287, 1048575, 2097151, 4194303, 8388607, 16777215, 33554431, 67108863, 67108863, 201326591, 536870911, 1073741823, 2147483647, 4294967295, 8589934591, 17179869183, 34359738367, 68719476735, 68719476735, 274877906943, 68719476735, 68719476735, 1717986918399, 3917010173951, 8315056685055, 17592186044415, 35184372088831, 70368744177663, 140737488355327] (by kernel_rfl) (by kernel_rfl) (by kernel_rfl) ?_; ((refine WD.cons rfl ?_; ((refine Op1.val (V.loadS hT rfl rfl rfl rfl (by (repeat (first | assumption | refine Grow.get (by assumption) ?_))) rfl) rfl rfl ?_) <;> refine ⟨_, rfl, ?_⟩))
              <;> (refine WD.cons rfl ?_; ((refine Op1.val (V.move rfl rfl) rfl rfl ?_) <;> refine ⟨_, rfl, ?_⟩))
              <;> (refine WD.cons rfl ?_; ((refine Op1.val (V.move rfl rfl) rfl rfl ?_) <;> refine ⟨_, rfl, ?_⟩))
              <;> (refine WD.cons rfl ?_; (((refine Op1.index hT rfl rfl rfl rfl rfl rfl rfl (SliceAt.grow (by (repeat (first | assumption | exact Grow.refl _ | refine Grow.trans ?_ (by assumption)))) hins3) (row_is noInstr hkt hx) ?_; intro kx ox rx kvx)) <;> refine ⟨_, rfl, ?_⟩))
              <;> (refine WD.cons rfl ?_; ((refine Op1.val (V.loadRS hT rfl rfl rfl rfl (by assumption) rfl) rfl rfl ?_) <;> refine ⟨_, rfl, ?_⟩))
              <;> (refine WD.cons rfl ?_; ((refine Op1.val (V.move rfl rfl) rfl rfl ?_) <;> refine ⟨_, rfl, ?_⟩))
              <;> (refine WD.cons rfl ?_; ((refine Op1.val (V.move rfl rfl) rfl rfl ?_) <;> refine ⟨_, rfl, ?_⟩))
              <;> (refine WD.cons rfl ?_; (((refine Op1.index hT rfl rfl rfl rfl rfl rfl rfl (SliceAt.grow (Grow.trans (Grow.trans (Grow.trans gq hg2) hg3) (by (repeat (first | assumption | exact Grow.refl _ | refine Grow.trans ?_ (by assumption))))) hv2) (row_i (g := fun v => [v]) HVal.nils (by omega)) ?_; intro kx ox rx kvx)) <;> refine ⟨_, rfl, ?_⟩))
              <;> (refine WD.cons rfl ?_; ((refine Op1.val (V.loadR0 hT rfl rfl rfl rfl (by assumption) rfl) rfl rfl ?_) <;> refine ⟨_, rfl, ?_⟩))
              <;> (refine WD.cons rfl ?_; ((refine Op1.val (V.len hT rfl rfl rfl rfl rfl rfl (by first | rfl | assumption)) rfl rfl ?_) <;> refine ⟨_, rfl, ?_⟩))
              <;> (refine WD.cons rfl ?_; (((refine Op1.spB (C.call rfl rfl rfl rfl ca29) rfl rfl (refInstr_run hK f x (f.predsLen i) _ (by assumption) (FlowD.Ok.grow (Grow.trans hgh2 (by (repeat (first | assumption | exact Grow.refl _ | refine Grow.trans ?_ (by assumption))))) r) (InstrD.Ok.grow (Grow.trans hgh2 (by (repeat (first | assumption | exact Grow.refl _ | refine Grow.trans ?_ (by assumption))))) hxok)) ?_ ?_ <;> (rintro _ ⟨_, _⟩ _))) <;> refine ⟨_, rfl, ?_⟩))
              <;> (refine WD.cons rfl ?_; ((first | refine Op1.val (V.not_true rfl rfl) rfl rfl ?_ | refine Op1.val (V.not_false rfl rfl) rfl rfl ?_) <;> refine ⟨_, rfl, ?_⟩))
              <;> (refine WD.cons rfl ?_; ((refine Op1.val (V.move rfl rfl) rfl rfl ?_) <;> refine ⟨_, rfl, ?_⟩))
              <;> (refine WD.cons rfl ?_; ((first | refine Op1.skip rfl rfl rfl ?_ | refine Op1.val (V.move rfl rfl) rfl rfl ?_) <;> refine ⟨_, rfl, ?_⟩))
              <;> (refine WD.cons rfl ?_; ((first | refine Op1.skip rfl rfl rfl ?_ | refine Op1.val (V.move rfl rfl) rfl rfl ?_) <;> refine ⟨_, rfl, ?_⟩))
              <;> (refine WD.cons rfl ?_; ((first | refine Op1.skip rfl rfl rfl ?_ | (refine Op1.index hT rfl rfl rfl rfl rfl rfl rfl (SliceAt.grow (by (repeat (first | assumption | exact Grow.refl _ | refine Grow.trans ?_ (by assumption)))) hins3) (row_is noInstr hkt hx) ?_; intro kx ox rx kvx)) <;> refine ⟨_, rfl, ?_⟩))
              <;> (refine WD.cons rfl ?_; ((first | refine Op1.skip rfl rfl rfl ?_ | refine Op1.val (V.fieldAddr hT rfl rfl rfl rfl rfl rfl) rfl rfl ?_) <;> refine ⟨_, rfl, ?_⟩))
              <;> (refine WD.cons rfl ?_; ((first | refine Op1.skip rfl rfl rfl ?_ | refine Op1.val (V.loadR hT rfl rfl rfl rfl (by assumption) rfl) rfl rfl ?_) <;> refine ⟨_, rfl, ?_⟩))
              <;> (refine WD.cons rfl ?_; ((first | refine Op1.skip rfl rfl rfl ?_ | (refine Op1.eql rfl rfl rfl rfl rfl rfl ?_ ?_ <;> intro _)) <;> refine ⟨_, rfl, ?_⟩))
              <;> (refine WD.cons rfl ?_; ((first | refine Op1.skip rfl rfl rfl ?_ | refine Op1.val (V.move rfl rfl) rfl rfl ?_) <;> refine ⟨_, rfl, ?_⟩))
              <;> (refine WD.cons rfl ?_; ((first | refine Op1.skip rfl rfl rfl ?_ | refine Op1.val (V.move rfl rfl) rfl rfl ?_) <;> refine ⟨_, rfl, ?_⟩))
              <;> (refine WD.cons rfl ?_; ((first | refine Op1.skip rfl rfl rfl ?_ | (refine Op1.eql rfl rfl rfl rfl rfl rfl ?_ ?_ <;> intro _)) <;> refine ⟨_, rfl, ?_⟩))
              <;> (refine WD.cons rfl ?_; ((first | refine Op1.skip rfl rfl rfl ?_ | refine Op1.val (V.move rfl rfl) rfl rfl ?_) <;> refine ⟨_, rfl, ?_⟩))
              <;> (refine WD.cons rfl ?_; ((first | refine Op1.skip rfl rfl rfl ?_ | refine Op1.val (V.move rfl rfl) rfl rfl ?_) <;> refine ⟨_, rfl, ?_⟩))
              <;> (refine WD.cons rfl ?_; ((first | refine Op1.skip rfl rfl rfl ?_ | (refine Op1.gtr rfl rfl rfl rfl rfl rfl ?_ ?_ <;> intro _)) <;> refine ⟨_, rfl, ?_⟩))
              <;> (refine WD.cons rfl ?_; ((first | refine Op1.skip rfl rfl rfl ?_ | refine Op1.val (V.move rfl rfl) rfl rfl ?_) <;> refine ⟨_, rfl, ?_⟩))
              <;> (refine WD.cons rfl ?_; ((first | refine Op1.skip rfl rfl rfl ?_ | refine Op1.val (V.move rfl rfl) rfl rfl ?_) <;> refine ⟨_, rfl, ?_⟩))
              <;> (refine WD.cons rfl ?_; ((first | refine Op1.skip rfl rfl rfl ?_ | refine Op1.val (V.move rfl rfl) rfl rfl ?_) <;> refine ⟨_, rfl, ?_⟩))
              <;> (refine WD.cons rfl ?_; ((first | refine Op1.skip rfl rfl rfl ?_ | refine Op1.val (V.sub rfl rfl rfl rfl (wrapF_i64 (by first | omega | (simp only [Int.ofNat_eq_natCast]; omega)) (by first | omega | (simp only [Int.ofNat_eq_natCast]; omega)))) rfl rfl ?_) <;> refine ⟨_, rfl, ?_⟩))
              <;> (refine WD.cons rfl ?_; ((first | refine Op1.skip rfl rfl rfl ?_ | (refine Op1.indexI hT rfl rfl rfl rfl rfl rfl rfl (by omega) (SliceAt.grow (by (repeat (first | assumption | exact Grow.refl _ | refine Grow.trans ?_ (by assumption)))) hins3) (row_is noInstr (by omega) rfl) ?_; intro kx ox rx kvx)) <;> refine ⟨_, rfl, ?_⟩))
              <;> (refine WD.cons rfl ?_; ((first | refine Op1.skip rfl rfl rfl ?_ | refine Op1.val (V.fieldAddr hT rfl rfl rfl rfl rfl rfl) rfl rfl ?_) <;> refine ⟨_, rfl, ?_⟩))
              <;> (refine WD.cons rfl ?_; ((first | refine Op1.skip rfl rfl rfl ?_ | refine Op1.val (V.loadR hT rfl rfl rfl rfl (by assumption) rfl) rfl rfl ?_) <;> refine ⟨_, rfl, ?_⟩))
              <;> (refine WD.cons rfl ?_; ((first | refine Op1.skip rfl rfl rfl ?_ | (refine Op1.neq rfl rfl rfl rfl rfl rfl ?_ ?_ <;> intro _)) <;> refine ⟨_, rfl, ?_⟩))
              <;> (refine WD.cons rfl ?_; ((first | refine Op1.skip rfl rfl rfl ?_ | refine Op1.val (V.pick_true rfl rfl rfl) rfl rfl ?_ | refine Op1.val (V.pick_false rfl rfl rfl) rfl rfl ?_) <;> refine ⟨_, rfl, ?_⟩))
              <;> (refine WD.cons rfl ?_; ((first | refine Op1.skip rfl rfl rfl ?_ | refine Op1.val (V.pick_true rfl rfl rfl) rfl rfl ?_ | refine Op1.val (V.pick_false rfl rfl rfl) rfl rfl ?_) <;> refine ⟨_, rfl, ?_⟩))
              <;> (refine WD.cons rfl ?_; ((first | refine Op1.skip rfl rfl rfl ?_ | refine Op1.val (V.move rfl rfl) rfl rfl ?_) <;> refine ⟨_, rfl, ?_⟩))
              <;> (refine WD.cons rfl ?_; ((first | refine Op1.skip rfl rfl rfl ?_ | refine Op1.val (V.move rfl rfl) rfl rfl ?_) <;> refine ⟨_, rfl, ?_⟩))
              <;> (refine WD.cons rfl ?_; ((first | refine Op1.skip rfl rfl rfl ?_ | refine Op1.val (V.move rfl rfl) rfl rfl ?_) <;> refine ⟨_, rfl, ?_⟩))
              <;> (refine WD.cons rfl ?_; ((first | refine Op1.skip rfl rfl rfl ?_ | (refine Op1.sliceHi hT rfl rfl rfl rfl rfl hloose (SliceAt.grow (by (repeat (first | assumption | exact Grow.refl _ | refine Grow.trans ?_ (by assumption)))) hins3) (by rw [List.length_map]; omega) rfl rfl ?_; intro vz lz sz)) <;> refine ⟨_, rfl, ?_⟩))
              <;> (refine WD.cons rfl ?_; ((first | refine Op1.skip rfl rfl rfl ?_ | refine Op1.val (V.move rfl rfl) rfl rfl ?_) <;> refine ⟨_, rfl, ?_⟩))
              <;> (refine WD.cons rfl ?_; ((first | refine Op1.skip rfl rfl rfl ?_ | refine Op1.val (V.move rfl rfl) rfl rfl ?_) <;> refine ⟨_, rfl, ?_⟩))
              <;> (refine WD.cons rfl ?_; ((first | refine Op1.skip rfl rfl rfl ?_ | (refine Op1.index hT rfl rfl rfl rfl rfl rfl rfl (SliceAt.grow (by (repeat (first | assumption | exact Grow.refl _ | refine Grow.trans ?_ (by assumption)))) hins3) (row_is noInstr hkt hx) ?_; intro kx ox rx kvx)) <;> refine ⟨_, rfl, ?_⟩))
              <;> (refine WD.cons rfl ?_; ((first | refine Op1.skip rfl rfl rfl ?_ | refine Op1.val (V.fieldAddr hT rfl rfl rfl rfl rfl rfl) rfl rfl ?_) <;> refine ⟨_, rfl, ?_⟩))
              <;> (refine WD.cons rfl ?_; ((first | refine Op1.skip rfl rfl rfl ?_ | refine Op1.val (V.loadR hT rfl rfl rfl rfl (by assumption) rfl) rfl rfl ?_) <;> refine ⟨_, rfl, ?_⟩))
              <;> (refine WD.cons rfl ?_; ((first | refine Op1.skip rfl rfl rfl ?_ | (refine Op1.spB (C.call rfl rfl rfl rfl ca30) rfl rfl (twice_run hK ((f.at i).ins.take k) _ _ _ (by assumption) (by rw [List.map_take]; assumption) (by rw [List.length_take]; omega)) ?_ ?_ <;> (rintro _ ⟨_, _⟩ _))) <;> refine ⟨_, rfl, ?_⟩))
              <;> (refine WD.cons rfl ?_; ((first | refine Op1.skip rfl rfl rfl ?_ | refine Op1.val (V.pick_true rfl rfl rfl) rfl rfl ?_ | refine Op1.val (V.pick_false rfl rfl rfl) rfl rfl ?_) <;> refine ⟨_, rfl, ?_⟩))
              <;> (refine WD.cons rfl ?_; ((first | refine Op1.skip rfl rfl rfl ?_ | refine Op1.val (V.pick_true rfl rfl rfl) rfl rfl ?_ | refine Op1.val (V.pick_false rfl rfl rfl) rfl rfl ?_) <;> refine ⟨_, rfl, ?_⟩))
              <;> (refine WD.cons rfl ?_; ((first | refine Op1.val (V.pick_true rfl rfl rfl) rfl rfl ?_ | refine Op1.val (V.pick_false rfl rfl rfl) rfl rfl ?_) <;> refine ⟨_, rfl, ?_⟩))
              <;> (refine WD.nil ⟨?_, Then.intro rfl ?_⟩; (repeat' (first | exact trivial | refine ⟨?_, ?_⟩ | exact Or.inl rfl)))))
          | (refine WC.region (id := 21) ?_; ((refine WO.cons ?_; (refine Op1.val (V.assign rfl rfl) rfl rfl ?_))
              <;> (refine WO.nil (Then.intro rfl ?_))))
          | (refine WC.region (id := 19) ?_; ((refine WO.cons ?_; (refine Op1.val (V.move rfl rfl) rfl rfl ?_))
              <;> (refine WO.cons ?_; (refine Op1.val (V.add rfl rfl rfl rfl (wrapF_i64 (by first | omega | (simp only [Int.ofNat_eq_natCast]; omega)) (by first | omega | (simp only [Int.ofNat_eq_natCast]; omega)))) rfl rfl ?_))
              <;> (refine WO.cons ?_; (refine Op1.val (V.assign rfl rfl) rfl rfl ?_))
              <;> (refine WO.nil (Then.intro rfl ?_))))
          | (refine WC.region (id := 13) ?_; ((refine WO.cons ?_; (refine Op1.val (V.move rfl rfl) rfl rfl ?_))
              <;> (refine WO.cons ?_; (refine Op1.val (V.add rfl rfl rfl rfl (wrapF_i64 (by first | omega | (simp only [Int.ofNat_eq_natCast]; omega)) (by first | omega | (simp only [Int.ofNat_eq_natCast]; omega)))) rfl rfl ?_))
              <;> (refine WO.cons ?_; (refine Op1.val (V.assign rfl rfl) rfl rfl ?_))
              <;> (refine WO.nil (Then.intro rfl ?_))))
          | refine WC.ret ?_
          | refine To.ret_seq ?_
          | refine To.ret_block ?_
          | refine WC.cond_true rfl ?_
          | refine WC.cond_false rfl ?_
          | refine WC.skip ?_
          | refine WC.block ?_
          | refine WC.exit ?_
          | refine To.exit_seq ?_
          | refine To.exit_block ?_
          | refine To.nrm_block ?_
          | refine To.fn_ret rfl ?_)
        all_goals try (exfalso; omega)
        all_goals first
          | (refine next2 _ _ hkt ⟨rfl, rfl, rfl, rfl, rfl, rfl, trivial⟩ ⟨?_, (by (repeat (first | assumption | exact Grow.refl _ | refine Grow.trans ?_ (by assumption)))), by assumption⟩
             have hR : R = true := by
               clear next next2 he he3 hokB
               rw [hir]
               first | (simp_all; done) | (simp_all; omega)
             rw [he3, hR]; rfl)
          | (have hR : R = false := by
               clear next next2 he he3 hokB
               rw [hir]
               first | (simp_all; done) | (simp_all; omega)
             clear next next2
             refine ⟨?_, (by (repeat (first | assumption | exact Grow.refl _ | refine Grow.trans ?_ (by assumption)))), by assumption⟩
             rw [he3, hR]; rfl)
      · have hke : k = (f.at i).ins.length := by omega
        subst hke
        rw [List.drop_of_length_le (by simp)] at he3
        clear next2
        repeat' (first
          | refine To.nrm_seq ?_
          | refine WC.seq ?_
          | (refine WC.region (id := 18) ?_; ((refine WO.cons ?_; (refine Op1.val (V.move rfl rfl) rfl rfl ?_))
              <;> (refine WO.cons ?_; (refine Op1.val (V.move rfl rfl) rfl rfl ?_))
              <;> (refine WO.cons ?_; (refine Op1.val (V.len hT rfl rfl rfl rfl rfl rfl (by first | rfl | assumption)) rfl rfl ?_))
              <;> (refine WO.cons ?_; ((refine Op1.lss rfl rfl rfl rfl rfl rfl ?_ ?_ <;> intro _)))
              <;> (refine WO.nil (Then.intro rfl ?_))))
          | (refine WC.region (id := 13) ?_; ((refine WO.cons ?_; (refine Op1.val (V.move rfl rfl) rfl rfl ?_))
              <;> (refine WO.cons ?_; (refine Op1.val (V.add rfl rfl rfl rfl (wrapF_i64 (by first | omega | (simp only [Int.ofNat_eq_natCast]; omega)) (by first | omega | (simp only [Int.ofNat_eq_natCast]; omega)))) rfl rfl ?_))
              <;> (refine WO.cons ?_; (refine Op1.val (V.assign rfl rfl) rfl rfl ?_))
              <;> (refine WO.nil (Then.intro rfl ?_))))
          | refine WC.cond_true rfl ?_
          | refine WC.cond_false rfl ?_
          | refine WC.skip ?_
          | refine WC.block ?_
          | refine WC.exit ?_
          | refine To.exit_seq ?_
          | refine To.exit_block ?_
          | refine To.nrm_block ?_)
        all_goals try (exfalso; omega)
        exact next _ _ hin ⟨rfl, rfl, rfl, rfl, trivial⟩ ⟨by simpa using he3, Grow.trans hg2 hg3, hw3⟩
    · clear next
      repeat' (first
        | refine To.nrm_seq ?_
        | refine WC.seq ?_
        | (refine WC.region (id := 12) ?_; ((refine WO.cons ?_; (refine Op1.val (V.move rfl rfl) rfl rfl ?_))
            <;> (refine WO.cons ?_; (refine Op1.val (V.fieldAddr hT rfl rfl rfl rfl rfl rfl) rfl rfl ?_))
            <;> (refine WO.cons ?_; (refine Op1.val (V.load hT rfl rfl rfl rfl (by (repeat (first | assumption | refine Grow.get (by assumption) ?_))) rfl) rfl rfl ?_))
            <;> (refine WO.cons ?_; (refine Op1.val (V.len hT rfl rfl rfl rfl rfl rfl (by first | rfl | assumption)) rfl rfl ?_))
            <;> (refine WO.cons ?_; ((refine Op1.lss rfl rfl rfl rfl rfl rfl ?_ ?_ <;> intro _)))
            <;> (refine WO.nil (Then.intro rfl ?_))))
        | (refine WC.region (id := 22) ?_; ((refine WO.cons ?_; (refine Op1.val (V.assign rfl rfl) rfl rfl ?_))
            <;> (refine WO.nil (Then.intro rfl ?_))))
        | refine WC.ret ?_
        | refine WC.cond_true rfl ?_
        | refine WC.cond_false rfl ?_
        | refine WC.skip ?_
        | refine WC.block ?_
        | refine WC.exit ?_
        | refine To.exit_seq ?_
        | refine To.exit_block ?_
        | refine To.fn_ret rfl ?_)
      all_goals try (exfalso; omega)
      exact ⟨by rw [he, List.drop_of_length_le (by simp; omega)]; rfl, hgh2, hw2⟩
end Fv
end Go.HL
