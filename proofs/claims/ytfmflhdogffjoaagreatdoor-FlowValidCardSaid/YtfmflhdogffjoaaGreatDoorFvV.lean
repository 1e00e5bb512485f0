/- The walk of FlowValid: successors and predecessors. No statement of the seat stands here. -/
import Derived.Test.YtfmflhdogffjoaaGreatDoorFvV0
namespace Go.HL
open Go Go.Proofs
namespace Fv
set_option maxRecDepth 10000
set_option maxHeartbeats 4000000
variable {K : CallFn} {base : List (Nat × HObj)}
theorem refGraph_run (hK : KN base K) (f : FlowD) (h : Heap) (w : Wf h) (r : f.Ok h) (bn : f.nodes.length ≤ 2000) : Sp P K 20 [.agg f.cells] h (GivesLists h f.graphM) := by
  have ln := r.ln
  have hns := r.nodes
  refine Sp.of (m := 543) (n := 22) (hK.none 20 rfl rfl _ _) Tryz.func20 rfl rfl mask20 rfl rfl ?_
  repeat' (first
    | refine To.nrm_seq ?_
    | refine WC.seq ?_
    | (refine WC.region (id := 0) ?_; ((refine WO.cons ?_; ((refine Op1.made (M.box rfl rfl rfl) rfl rfl (by assumption) ?_; rintro kb hb ⟨gb, eb, fb, wb, leb, ltb, obb⟩)))
        <;> (refine WO.cons ?_; (refine Op1.val (V.assign rfl rfl) rfl rfl ?_))
        <;> (refine WO.nil (Then.intro rfl ?_))))
    | (refine WC.region (id := 1) ?_; ((refine WO.cons ?_; (refine Op1.val (V.assign rfl rfl) rfl rfl ?_))
        <;> (refine WO.nil (Then.intro rfl ?_))))
    | (refine WC.region (id := 2) ?_; ((refine WO.cons ?_; (refine Op1.val (V.assign rfl rfl) rfl rfl ?_))
        <;> (refine WO.nil (Then.intro rfl ?_))))
    | refine WC.block ?_)
  refine WC.sub (L' := [(4, .int .i64 ((0 : Nat) : Int)), (3, .nils), (1, .ptr kb 0)]) ⟨rfl, rfl, rfl, trivial⟩ ?_
  refine WC.fall (ι := Nat × List HVal × HVal × Option Nat) (fun x => [(4, .int .i64 (x.1 : Int)), (3, x.2.2.1), (1, .ptr kb 0)]) (fun x h' => x.1 ≤ f.nodes.length ∧ Gath hb f x.1 x.2.1 x.2.2.1 x.2.2.2 h') (fun x => f.nodes.length - x.1) ?_ (0, [], .nils, none) _ ⟨Nat.zero_le _, Gath.start (Grow.refl _) (by assumption)⟩
  rintro ⟨i, vs, vt, d⟩ h1 ⟨hi, g⟩ next
  simp only at hi g next ⊢
  have hw1 := g.wf
  have hg1 : Grow hb h1 := g.grow
  by_cases hin : i < f.nodes.length
  · have hnd : f.nodes.getD i noNode = f.at i := rfl
    repeat' (first
      | refine To.nrm_seq ?_
      | refine WC.seq ?_
      | (refine WC.region (id := 3) ?_; ((refine WO.cons ?_; (refine Op1.val (V.move rfl rfl) rfl rfl ?_))
          <;> (refine WO.cons ?_; (refine Op1.val (V.fieldAddr hT rfl rfl rfl rfl rfl rfl) rfl rfl ?_))
          <;> (refine WO.cons ?_; (refine Op1.val (V.load hT rfl rfl rfl rfl (by (repeat (first | assumption | refine Grow.get (by assumption) ?_))) rfl) rfl rfl ?_))
          <;> (refine WO.cons ?_; (refine Op1.val (V.len hT rfl rfl rfl rfl rfl rfl (by first | rfl | assumption)) rfl rfl ?_))
          <;> (refine WO.cons ?_; ((refine Op1.lss rfl rfl rfl rfl rfl rfl ?_ ?_ <;> intro _)))
          <;> (refine WO.nil (Then.intro rfl ?_))))
      | (refine WC.region (id := 5) ?_; ((refine WO.cons ?_; (refine Op1.val (V.move rfl rfl) rfl rfl ?_))
          <;> (refine WO.cons ?_; (refine Op1.val (V.fieldAddr hT rfl rfl rfl rfl rfl rfl) rfl rfl ?_))
          <;> (refine WO.cons ?_; (refine Op1.val (V.load hT rfl rfl rfl rfl (by (repeat (first | assumption | refine Grow.get (by assumption) ?_))) rfl) rfl rfl ?_))
          <;> (refine WO.cons ?_; (refine Op1.val (V.move rfl rfl) rfl rfl ?_))
          <;> (refine WO.cons ?_; ((refine Op1.index hT rfl rfl rfl rfl rfl rfl rfl (SliceAt.grow (Grow.trans eb hg1) hns) (row_is noNode hin hnd) ?_; intro kx ox rx kvx)))
          <;> (refine WO.cons ?_; (refine Op1.val (V.loadRS hT rfl rfl rfl rfl (by assumption) rfl) rfl rfl ?_))
          <;> (refine WO.cons ?_; ((refine Op1.sp (C.call rfl rfl rfl rfl ca39) rfl rfl (next2_run hK (f.at i) _ (by assumption)) ?_; rintro vk hk ⟨hv, nv, gv, wv⟩; have lvk := hv.slice.len; simp only [List.length_map] at lvk)))
          <;> (refine WO.cons ?_; ((refine Op1.made (M.build1 hT rfl rfl rfl z41 rfl (cells_len lvk)) rfl rfl (by assumption) ?_; rintro kc hc ⟨gc, ec, fc, wc, lec, ltc, oc⟩)))
          <;> (refine WO.cons ?_; ((refine Op1.append hT rfl rfl rfl rfl rfl rfl rfl rfl z41 rfl rfl rfl b41 rfl rfl rfl ((g.app.mono (by (repeat (first | assumption | exact Grow.refl _ | refine Grow.trans ?_ (by assumption)))))) (row_all gc) rfl rfl (by first | omega | (skip)) (by assumption) rfl rfl ?_; rintro kp hp ⟨ap, gp, fp, lep, op, wpp, npp⟩)))
          <;> (refine WO.cons ?_; (refine Op1.val (V.assign rfl rfl) rfl rfl ?_))
          <;> (refine WO.nil (Then.intro rfl ?_))))
      | (refine WC.region (id := 4) ?_; ((refine WO.cons ?_; (refine Op1.val (V.move rfl rfl) rfl rfl ?_))
          <;> (refine WO.cons ?_; (refine Op1.val (V.add rfl rfl rfl rfl (wrapF_i64 (by first | omega | (simp only [Int.ofNat_eq_natCast]; omega)) (by first | omega | (simp only [Int.ofNat_eq_natCast]; omega)))) rfl rfl ?_))
          <;> (refine WO.cons ?_; (refine Op1.val (V.assign rfl rfl) rfl rfl ?_))
          <;> (refine WO.nil (Then.intro rfl ?_))))
      | (refine WC.region (id := 6) ?_; ((refine WO.cons ?_; (refine Op1.val (V.move rfl rfl) rfl rfl ?_))
          <;> (refine WO.cons ?_; (refine Op1.val (V.assign rfl rfl) rfl rfl ?_))
          <;> (refine WO.nil (Then.intro rfl ?_))))
      | refine WC.ret ?_
      | refine WC.cond_true rfl ?_
      | refine WC.cond_false rfl ?_
      | refine WC.skip ?_
      | refine WC.block ?_
      | refine WC.exit ?_
      | refine To.exit_seq ?_
      | refine To.exit_block ?_
      | refine To.nrm_block ?_
      | refine To.fn_ret rfl ?_)
    all_goals try (exfalso; omega)
    exact next (i + 1, vs ++ [vk], .slice kp 0 (i + 1) none, some kp) _ _ (by simp only; omega) ⟨rfl, rfl, rfl, trivial⟩ ⟨by simp only; omega, g.step (Grow.refl _) hv nv gv ec (Appended.mk ap gp fp lep op wpp npp)⟩
  · clear next
    repeat' (first
      | refine To.nrm_seq ?_
      | refine WC.seq ?_
      | (refine WC.region (id := 3) ?_; ((refine WO.cons ?_; (refine Op1.val (V.move rfl rfl) rfl rfl ?_))
          <;> (refine WO.cons ?_; (refine Op1.val (V.fieldAddr hT rfl rfl rfl rfl rfl rfl) rfl rfl ?_))
          <;> (refine WO.cons ?_; (refine Op1.val (V.load hT rfl rfl rfl rfl (by (repeat (first | assumption | refine Grow.get (by assumption) ?_))) rfl) rfl rfl ?_))
          <;> (refine WO.cons ?_; (refine Op1.val (V.len hT rfl rfl rfl rfl rfl rfl (by first | rfl | assumption)) rfl rfl ?_))
          <;> (refine WO.cons ?_; ((refine Op1.lss rfl rfl rfl rfl rfl rfl ?_ ?_ <;> intro _)))
          <;> (refine WO.nil (Then.intro rfl ?_))))
      | (refine WC.region (id := 6) ?_; ((refine WO.cons ?_; (refine Op1.val (V.move rfl rfl) rfl rfl ?_))
          <;> (refine WO.cons ?_; (refine Op1.val (V.assign rfl rfl) rfl rfl ?_))
          <;> (refine WO.nil (Then.intro rfl ?_))))
      | refine WC.ret ?_
      | refine WC.cond_true rfl ?_
      | refine WC.cond_false rfl ?_
      | refine WC.skip ?_
      | refine WC.block ?_
      | refine WC.exit ?_
      | refine To.exit_seq ?_
      | refine To.exit_block ?_
      | refine To.fn_ret rfl ?_)
    all_goals try (exfalso; omega)
    exact ⟨g.lists (by omega), Grow.trans eb hg1, hw1⟩
theorem succ_run (hK : KN base K) (f : FlowD) (h : Heap) (w : Wf h) (hB : Based base h) (r : f.Ok h) : Sp P K 6 [.agg f.cells] h (GivesPair h f.validR f.graphM) := by
  rw [← valid_same f]
  have ln := r.ln
  have hns := r.nodes
  have bn0 := r.nlen
  refine Sp.of (m := 31327) (n := 24) (hK.none 6 rfl rfl _ _) Tryz.func6 rfl rfl mask6 rfl rfl ?_
  repeat' (first
    | refine To.nrm_seq ?_
    | refine WC.seq ?_
    | (refine WC.region (id := 0) ?_; ((refine WO.cons ?_; ((refine Op1.made (M.box rfl rfl rfl) rfl rfl (by assumption) ?_; rintro kb hb ⟨gb, eb, fb, wb, leb, ltb, obb⟩)))
        <;> (refine WO.cons ?_; (refine Op1.val (V.assign rfl rfl) rfl rfl ?_))
        <;> (refine WO.cons ?_; (refine Op1.val (V.assign rfl rfl) rfl rfl ?_))
        <;> (refine WO.nil (Then.intro rfl ?_))))
    | (refine WC.region (id := 1) ?_; ((refine WO.cons ?_; (refine Op1.val (V.loadS hT rfl rfl rfl rfl (by (repeat (first | assumption | refine Grow.get (by assumption) ?_))) rfl) rfl rfl ?_))
        <;> (refine WO.cons ?_; ((refine Op1.spB (C.call rfl rfl rfl rfl ca10) rfl rfl (validP_run hK f _ (by assumption) (by (repeat (first | assumption | refine Based.grow (by assumption) ?_))) (by (repeat (first | assumption | refine FlowD.Ok.grow (by assumption) ?_)))) ?_ ?_ <;> (rintro _ ⟨_, _⟩ _))))
        <;> (refine WO.cons ?_; (first | refine Op1.val (V.not_true rfl rfl) rfl rfl ?_ | refine Op1.val (V.not_false rfl rfl) rfl rfl ?_))
        <;> (refine WO.nil (Then.intro rfl ?_))))
    | (refine WC.region (id := 2) ?_; ((refine WO.cons ?_; (refine Op1.val (V.assign rfl rfl) rfl rfl ?_))
        <;> (refine WO.cons ?_; (refine Op1.val (V.assign rfl rfl) rfl rfl ?_))
        <;> (refine WO.nil (Then.intro rfl ?_))))
    | (refine WC.region (id := 3) ?_; ((refine WO.cons ?_; (refine Op1.val (V.assign rfl rfl) rfl rfl ?_))
        <;> (refine WO.nil (Then.intro rfl ?_))))
    | (refine WC.region (id := 4) ?_; ((refine WO.cons ?_; (refine Op1.val (V.fieldAddr hT rfl rfl rfl rfl rfl rfl) rfl rfl ?_))
        <;> (refine WO.cons ?_; (refine Op1.val (V.load hT rfl rfl rfl rfl (by (repeat (first | assumption | refine Grow.get (by assumption) ?_))) rfl) rfl rfl ?_))
        <;> (refine WO.cons ?_; (refine Op1.val (V.len hT rfl rfl rfl rfl rfl rfl (by first | rfl | assumption)) rfl rfl ?_))
        <;> (refine WO.cons ?_; (refine Op1.val (V.move rfl rfl) rfl rfl ?_))
        <;> (refine WO.nil (Then.intro rfl ?_))))
    | refine WC.ret ?_
    | refine To.ret_seq ?_
    | refine WC.cond_true rfl ?_
    | refine WC.cond_false rfl ?_
    | refine WC.skip ?_
    | refine WC.block ?_
    | refine To.fn_ret rfl ?_)
  rotate_left
  · have e : f.validP = false := by assumption
    refine ⟨⟨.nils, ?_, ?_⟩, (by (repeat (first | assumption | exact Grow.refl _ | refine Grow.trans ?_ (by assumption)))), by assumption⟩
    · rw [e]; rfl
    · rw [e]; exact lists_nils
  have hval : f.validP = true := by assumption
  have bn : f.nodes.length ≤ 2000 := by unfold FlowD.validP at hval; simp only [Bool.and_eq_true, decide_eq_true_eq] at hval; omega
  rw [hval]
  refine WC.sub (L' := [(13, .int .i64 ((0 : Nat) : Int)), (4, .nils), (1, .ptr kb 0), (11, f.nv), (12, .int .i64 (f.nodes.length : Int))]) ⟨rfl, rfl, rfl, rfl, rfl, trivial⟩ ?_
  refine WC.fall (ι := Nat × List HVal × HVal × Option Nat) (fun x => [(13, .int .i64 (x.1 : Int)), (4, x.2.2.1), (1, .ptr kb 0), (11, f.nv), (12, .int .i64 (f.nodes.length : Int))]) (fun x h' => x.1 ≤ f.nodes.length ∧ Gath hb f x.1 x.2.1 x.2.2.1 x.2.2.2 h') (fun x => f.nodes.length - x.1) ?_ (0, [], .nils, none) _ ⟨Nat.zero_le _, Gath.start (by (repeat (first | assumption | exact Grow.refl _ | refine Grow.trans ?_ (by assumption)))) (by assumption)⟩
  rintro ⟨i, vs, vt, d⟩ h1 ⟨hi, g⟩ next
  simp only at hi g next ⊢
  have hw1 := g.wf
  have hg1 : Grow hb h1 := g.grow
  by_cases hin : i < f.nodes.length
  · have hnd : f.nodes.getD i noNode = f.at i := rfl
    repeat' (first
      | refine To.nrm_seq ?_
      | refine WC.seq ?_
      | (refine WC.region (id := 5) ?_; ((refine WO.cons ?_; ((refine Op1.lss rfl rfl rfl rfl rfl rfl ?_ ?_ <;> intro _)))
          <;> (refine WO.nil (Then.intro rfl ?_))))
      | (refine WC.region (id := 6) ?_; ((refine WO.cons ?_; ((refine Op1.index hT rfl rfl rfl rfl rfl rfl rfl (SliceAt.grow (Grow.trans eb hg1) hns) (row_is noNode hin hnd) ?_; intro kx ox rx kvx)))
          <;> (refine WO.cons ?_; (refine Op1.val (V.loadRS hT rfl rfl rfl rfl (by assumption) rfl) rfl rfl ?_))
          <;> (refine WO.cons ?_; ((refine Op1.made (M.alloc rfl (by first | exact z40 | exact z43 | exact z101 | exact z35 | exact z37)) rfl rfl (by assumption) ?_; rintro ka ha ⟨ga, ea, fa, wa, lea, lta, oa⟩)))
          <;> (refine WO.cons ?_; ((refine Op1.storeN hT rfl rfl (by first | exact i40 | exact i43 | exact i101 | exact i35 | exact i37 | exact i4 | exact i41) rfl rfl rfl rfl (by (repeat (first | assumption | refine Grow.get (by assumption) ?_))) rfl rfl rfl (by assumption) (by assumption) (by (repeat (first | assumption | exact Grow.refl _ | refine Grow.trans ?_ (by assumption)))) ?_; rintro hs gs es ws os)))
          <;> (refine WO.nil (Then.intro rfl ?_))))
      | (refine WC.region (id := 7) ?_; ((refine WO.cons ?_; (refine Op1.val (V.move rfl rfl) rfl rfl ?_))
          <;> (refine WO.cons ?_; (refine Op1.val (V.loadS hT rfl rfl rfl rfl (by (repeat (first | assumption | refine Grow.get (by assumption) ?_))) rfl) rfl rfl ?_))
          <;> (refine WO.cons ?_; ((refine Op1.sp (C.call rfl rfl rfl rfl ca19) rfl rfl (next_run hK (f.at i) _ (by assumption)) ?_; rintro vk hk ⟨hv, nv, gv, wv⟩; have lvk := hv.slice.len; simp only [List.length_map] at lvk)))
          <;> (refine WO.cons ?_; ((refine Op1.made (M.build1 hT rfl rfl rfl z41 rfl (cells_len lvk)) rfl rfl (by assumption) ?_; rintro kc hc ⟨gc, ec, fc, wc, lec, ltc, oc⟩)))
          <;> (refine WO.cons ?_; ((refine Op1.append hT rfl rfl rfl rfl rfl rfl rfl rfl z41 rfl rfl rfl b41 rfl rfl rfl ((g.app.mono (by (repeat (first | assumption | exact Grow.refl _ | refine Grow.trans ?_ (by assumption)))))) (row_all gc) rfl rfl (by first | omega | (skip)) (by assumption) rfl rfl ?_; rintro kp hp ⟨ap, gp, fp, lep, op, wpp, npp⟩)))
          <;> (refine WO.cons ?_; (refine Op1.val (V.assign rfl rfl) rfl rfl ?_))
          <;> (refine WO.nil (Then.intro rfl ?_))))
      | (refine WC.region (id := 8) ?_; ((refine WO.cons ?_; (refine Op1.val (V.add rfl rfl rfl rfl (wrapF_i64 (by first | omega | (simp only [Int.ofNat_eq_natCast]; omega)) (by first | omega | (simp only [Int.ofNat_eq_natCast]; omega)))) rfl rfl ?_))
          <;> (refine WO.cons ?_; (refine Op1.val (V.move rfl rfl) rfl rfl ?_))
          <;> (refine WO.nil (Then.intro rfl ?_))))
      | (refine WC.region (id := 9) ?_; ((refine WO.cons ?_; (refine Op1.val (V.move rfl rfl) rfl rfl ?_))
          <;> (refine WO.cons ?_; (refine Op1.val (V.assign rfl rfl) rfl rfl ?_))
          <;> (refine WO.cons ?_; (refine Op1.val (V.assign rfl rfl) rfl rfl ?_))
          <;> (refine WO.nil (Then.intro rfl ?_))))
      | refine WC.ret ?_
      | refine WC.cond_true rfl ?_
      | refine WC.cond_false rfl ?_
      | refine WC.skip ?_
      | refine WC.block ?_
      | refine WC.exit ?_
      | refine To.exit_seq ?_
      | refine To.exit_block ?_
      | refine To.nrm_block ?_
      | refine To.fn_ret rfl ?_)
    all_goals try (exfalso; omega)
    exact next (i + 1, vs ++ [vk], .slice kp 0 (i + 1) none, some kp) _ _ (by simp only; omega) ⟨rfl, rfl, rfl, rfl, rfl, trivial⟩ ⟨by simp only; omega, g.step es hv nv gv ec (Appended.mk ap gp fp lep op wpp npp)⟩
  · clear next
    repeat' (first
      | refine To.nrm_seq ?_
      | refine WC.seq ?_
      | (refine WC.region (id := 5) ?_; ((refine WO.cons ?_; ((refine Op1.lss rfl rfl rfl rfl rfl rfl ?_ ?_ <;> intro _)))
          <;> (refine WO.nil (Then.intro rfl ?_))))
      | (refine WC.region (id := 9) ?_; ((refine WO.cons ?_; (refine Op1.val (V.move rfl rfl) rfl rfl ?_))
          <;> (refine WO.cons ?_; (refine Op1.val (V.assign rfl rfl) rfl rfl ?_))
          <;> (refine WO.cons ?_; (refine Op1.val (V.assign rfl rfl) rfl rfl ?_))
          <;> (refine WO.nil (Then.intro rfl ?_))))
      | refine WC.ret ?_
      | refine WC.cond_true rfl ?_
      | refine WC.cond_false rfl ?_
      | refine WC.skip ?_
      | refine WC.block ?_
      | refine WC.exit ?_
      | refine To.exit_seq ?_
      | refine To.exit_block ?_
      | refine To.fn_ret rfl ?_)
    all_goals try (exfalso; omega)
    exact ⟨⟨vt, rfl, g.lists (by omega)⟩, Grow.trans eb hg1, hw1⟩
theorem validP_run' (hK : KN base K) (f : FlowD) (h : Heap) (w : Wf h) (hB : Based base h) (r : f.Ok h) : Sp P K 10 [.agg f.cells] h (Gives h (.bool f.validR)) := by
  rw [← valid_same f]; exact validP_run hK f h w hB r
theorem valid_facts {f : FlowD} (hval : f.validR = true) : (1 ≤ f.nodes.length ∧ f.nodes.length ≤ 2000) ∧ f.linked := by
  rw [← valid_same f] at hval
  unfold FlowD.validP at hval
  simp only [Bool.and_eq_true, decide_eq_true_eq] at hval
  refine ⟨hval.1.1.1, linked_of (b := true) ?_⟩
  rw [hval.1.2.1]; rfl
theorem refSucc_run (hK : KN base K) (f : FlowD) (h : Heap) (w : Wf h) (r : f.Ok h) : Sp P K 7 [.agg f.cells] h (GivesPair h f.validR f.graphM) := by
  refine Sp.of (m := 79) (n := 9) (hK.none 7 rfl rfl _ _) Tryz.func7 rfl rfl mask7 rfl rfl ?_
  repeat' (first
    | refine To.nrm_seq ?_
    | refine WC.seq ?_
    | (refine WC.region (id := 0) ?_; ((refine WO.cons ?_; ((refine Op1.made (M.box rfl rfl rfl) rfl rfl (by assumption) ?_; rintro kb hb ⟨gb, eb, fb, wb, leb, ltb, obb⟩)))
        <;> (refine WO.cons ?_; (refine Op1.val (V.assign rfl rfl) rfl rfl ?_))
        <;> (refine WO.cons ?_; (refine Op1.val (V.assign rfl rfl) rfl rfl ?_))
        <;> (refine WO.nil (Then.intro rfl ?_))))
    | (refine WC.region (id := 1) ?_; ((refine WO.cons ?_; (refine Op1.val (V.loadS hT rfl rfl rfl rfl (by (repeat (first | assumption | refine Grow.get (by assumption) ?_))) rfl) rfl rfl ?_))
        <;> (refine WO.cons ?_; ((refine Op1.spB (C.call rfl rfl rfl rfl ca11) rfl rfl (validR_run hK f _ (by assumption) (by (repeat (first | assumption | refine FlowD.Ok.grow (by assumption) ?_)))) ?_ ?_ <;> (rintro _ ⟨_, _⟩ _))))
        <;> (refine WO.cons ?_; (first | refine Op1.val (V.not_true rfl rfl) rfl rfl ?_ | refine Op1.val (V.not_false rfl rfl) rfl rfl ?_))
        <;> (refine WO.nil (Then.intro rfl ?_))))
    | (refine WC.region (id := 2) ?_; ((refine WO.cons ?_; (refine Op1.val (V.assign rfl rfl) rfl rfl ?_))
        <;> (refine WO.cons ?_; (refine Op1.val (V.assign rfl rfl) rfl rfl ?_))
        <;> (refine WO.nil (Then.intro rfl ?_))))
    | (refine WC.region (id := 3) ?_; ((refine WO.cons ?_; (refine Op1.val (V.loadS hT rfl rfl rfl rfl (by (repeat (first | assumption | refine Grow.get (by assumption) ?_))) rfl) rfl rfl ?_))
        <;> (refine WO.cons ?_; ((refine Op1.sp (C.call rfl rfl rfl rfl ca20) rfl rfl (refGraph_run hK f _ (by assumption) (by (repeat (first | assumption | refine FlowD.Ok.grow (by assumption) ?_))) (valid_facts (by assumption)).1.2) ?_; rintro vk hk ⟨lk, gk, wk⟩)))
        <;> (refine WO.cons ?_; (refine Op1.val (V.assign rfl rfl) rfl rfl ?_))
        <;> (refine WO.cons ?_; (refine Op1.val (V.assign rfl rfl) rfl rfl ?_))
        <;> (refine WO.nil (Then.intro rfl ?_))))
    | refine WC.ret ?_
    | refine To.ret_seq ?_
    | refine WC.cond_true rfl ?_
    | refine WC.cond_false rfl ?_
    | refine WC.skip ?_
    | refine To.fn_ret rfl ?_)
  · have e : f.validR = true := by assumption
    exact ⟨⟨vk, by rw [e]; rfl, by rw [e]; exact lk⟩, (by (repeat (first | assumption | exact Grow.refl _ | refine Grow.trans ?_ (by assumption)))), by assumption⟩
  · have e : f.validR = false := by assumption
    exact ⟨⟨.nils, by rw [e]; rfl, by rw [e]; exact lists_nils⟩, (by (repeat (first | assumption | exact Grow.refl _ | refine Grow.trans ?_ (by assumption)))), by assumption⟩
theorem preds_run (hK : KN base K) (f : FlowD) (h : Heap) (w : Wf h) (hB : Based base h) (r : f.Ok h) : Sp P K 8 [.agg f.cells] h (GivesPair h f.validR f.predsR) := by
  refine Sp.of (m := 79) (n := 9) (hK.none 8 rfl rfl _ _) Tryz.func8 rfl rfl mask8 rfl rfl ?_
  repeat' (first
    | refine To.nrm_seq ?_
    | refine WC.seq ?_
    | (refine WC.region (id := 0) ?_; ((refine WO.cons ?_; ((refine Op1.made (M.box rfl rfl rfl) rfl rfl (by assumption) ?_; rintro kb hb ⟨gb, eb, fb, wb, leb, ltb, obb⟩)))
        <;> (refine WO.cons ?_; (refine Op1.val (V.assign rfl rfl) rfl rfl ?_))
        <;> (refine WO.cons ?_; (refine Op1.val (V.assign rfl rfl) rfl rfl ?_))
        <;> (refine WO.nil (Then.intro rfl ?_))))
    | (refine WC.region (id := 1) ?_; ((refine WO.cons ?_; (refine Op1.val (V.loadS hT rfl rfl rfl rfl (by (repeat (first | assumption | refine Grow.get (by assumption) ?_))) rfl) rfl rfl ?_))
        <;> (refine WO.cons ?_; ((refine Op1.spB (C.call rfl rfl rfl rfl ca10) rfl rfl (validP_run' hK f _ (by assumption) (by (repeat (first | assumption | refine Based.grow (by assumption) ?_))) (by (repeat (first | assumption | refine FlowD.Ok.grow (by assumption) ?_)))) ?_ ?_ <;> (rintro _ ⟨_, _⟩ _))))
        <;> (refine WO.cons ?_; (first | refine Op1.val (V.not_true rfl rfl) rfl rfl ?_ | refine Op1.val (V.not_false rfl rfl) rfl rfl ?_))
        <;> (refine WO.nil (Then.intro rfl ?_))))
    | (refine WC.region (id := 2) ?_; ((refine WO.cons ?_; (refine Op1.val (V.assign rfl rfl) rfl rfl ?_))
        <;> (refine WO.cons ?_; (refine Op1.val (V.assign rfl rfl) rfl rfl ?_))
        <;> (refine WO.nil (Then.intro rfl ?_))))
    | (refine WC.region (id := 3) ?_; ((refine WO.cons ?_; (refine Op1.val (V.loadS hT rfl rfl rfl rfl (by (repeat (first | assumption | refine Grow.get (by assumption) ?_))) rfl) rfl rfl ?_))
        <;> (refine WO.cons ?_; ((refine Op1.sp (C.call rfl rfl rfl rfl ca21) rfl rfl (before_run hK f _ (by assumption) (by (repeat (first | assumption | refine FlowD.Ok.grow (by assumption) ?_))) (valid_facts (by assumption)).1.2 (valid_facts (by assumption)).2) ?_; rintro vk hk ⟨lk, gk, wk⟩)))
        <;> (refine WO.cons ?_; (refine Op1.val (V.assign rfl rfl) rfl rfl ?_))
        <;> (refine WO.cons ?_; (refine Op1.val (V.assign rfl rfl) rfl rfl ?_))
        <;> (refine WO.nil (Then.intro rfl ?_))))
    | refine WC.ret ?_
    | refine To.ret_seq ?_
    | refine WC.cond_true rfl ?_
    | refine WC.cond_false rfl ?_
    | refine WC.skip ?_
    | refine To.fn_ret rfl ?_)
  · have e : f.validR = true := by assumption
    exact ⟨⟨vk, by rw [e]; rfl, by rw [e]; exact lk⟩, (by (repeat (first | assumption | exact Grow.refl _ | refine Grow.trans ?_ (by assumption)))), by assumption⟩
  · have e : f.validR = false := by assumption
    exact ⟨⟨.nils, by rw [e]; rfl, by rw [e]; exact lists_nils⟩, (by (repeat (first | assumption | exact Grow.refl _ | refine Grow.trans ?_ (by assumption)))), by assumption⟩
theorem refPredecessors_run (hK : KN base K) (f : FlowD) (h : Heap) (w : Wf h) (r : f.Ok h) : Sp P K 9 [.agg f.cells] h (GivesPair h f.validR f.predsR) := by
  refine Sp.of (m := 79) (n := 9) (hK.none 9 rfl rfl _ _) Tryz.func9 rfl rfl mask9 rfl rfl ?_
  repeat' (first
    | refine To.nrm_seq ?_
    | refine WC.seq ?_
    | (refine WC.region (id := 0) ?_; ((refine WO.cons ?_; ((refine Op1.made (M.box rfl rfl rfl) rfl rfl (by assumption) ?_; rintro kb hb ⟨gb, eb, fb, wb, leb, ltb, obb⟩)))
        <;> (refine WO.cons ?_; (refine Op1.val (V.assign rfl rfl) rfl rfl ?_))
        <;> (refine WO.cons ?_; (refine Op1.val (V.assign rfl rfl) rfl rfl ?_))
        <;> (refine WO.nil (Then.intro rfl ?_))))
    | (refine WC.region (id := 1) ?_; ((refine WO.cons ?_; (refine Op1.val (V.loadS hT rfl rfl rfl rfl (by (repeat (first | assumption | refine Grow.get (by assumption) ?_))) rfl) rfl rfl ?_))
        <;> (refine WO.cons ?_; ((refine Op1.spB (C.call rfl rfl rfl rfl ca11) rfl rfl (validR_run hK f _ (by assumption) (by (repeat (first | assumption | refine FlowD.Ok.grow (by assumption) ?_)))) ?_ ?_ <;> (rintro _ ⟨_, _⟩ _))))
        <;> (refine WO.cons ?_; (first | refine Op1.val (V.not_true rfl rfl) rfl rfl ?_ | refine Op1.val (V.not_false rfl rfl) rfl rfl ?_))
        <;> (refine WO.nil (Then.intro rfl ?_))))
    | (refine WC.region (id := 2) ?_; ((refine WO.cons ?_; (refine Op1.val (V.assign rfl rfl) rfl rfl ?_))
        <;> (refine WO.cons ?_; (refine Op1.val (V.assign rfl rfl) rfl rfl ?_))
        <;> (refine WO.nil (Then.intro rfl ?_))))
    | (refine WC.region (id := 3) ?_; ((refine WO.cons ?_; (refine Op1.val (V.loadS hT rfl rfl rfl rfl (by (repeat (first | assumption | refine Grow.get (by assumption) ?_))) rfl) rfl rfl ?_))
        <;> (refine WO.cons ?_; ((refine Op1.sp (C.call rfl rfl rfl rfl ca22) rfl rfl (refPreds_run hK f _ (by assumption) (by (repeat (first | assumption | refine FlowD.Ok.grow (by assumption) ?_))) (valid_facts (by assumption)).1.2 (valid_facts (by assumption)).2) ?_; rintro vk hk ⟨lk, gk, wk⟩)))
        <;> (refine WO.cons ?_; (refine Op1.val (V.assign rfl rfl) rfl rfl ?_))
        <;> (refine WO.cons ?_; (refine Op1.val (V.assign rfl rfl) rfl rfl ?_))
        <;> (refine WO.nil (Then.intro rfl ?_))))
    | refine WC.ret ?_
    | refine To.ret_seq ?_
    | refine WC.cond_true rfl ?_
    | refine WC.cond_false rfl ?_
    | refine WC.skip ?_
    | refine To.fn_ret rfl ?_)
  · have e : f.validR = true := by assumption
    exact ⟨⟨vk, by rw [e]; rfl, by rw [e]; exact lk⟩, (by (repeat (first | assumption | exact Grow.refl _ | refine Grow.trans ?_ (by assumption)))), by assumption⟩
  · have e : f.validR = false := by assumption
    exact ⟨⟨.nils, by rw [e]; rfl, by rw [e]; exact lists_nils⟩, (by (repeat (first | assumption | exact Grow.refl _ | refine Grow.trans ?_ (by assumption)))), by assumption⟩
/-- lists that are the same -/
theorem sameLists_run (hK : KN base K) (T : List (List Int)) (va vb : HVal) (h : Heap) (w : Wf h) (la : ListsAt h va T) (lb : ListsAt h vb T) (bT : T.length ≤ 1152921504606846976) (bl : ∀ m, (T.getD m []).length ≤ 1152921504606846976) : Sp P K 12 [va, vb] h (Gives h (.bool true)) := by
  obtain ⟨us, a1, a2, a3⟩ := la
  obtain ⟨ws, b1, b2, b3⟩ := lb
  have l1 : lenV va = some T.length := by have := a2.len; rw [List.length_map, a1] at this; exact this
  have l2 : lenV vb = some T.length := by have := b2.len; rw [List.length_map, b1] at this; exact this
  refine Sp.of (m := 67126323) (n := 27) (hK.none 12 rfl rfl _ _) Tryz.func12 rfl rfl mask12 rfl rfl ?_
  repeat' (first
    | refine To.nrm_seq ?_
    | refine WC.seq ?_
    | (refine WC.region (id := 0) ?_; ((refine WO.cons ?_; (refine Op1.val (V.assign rfl rfl) rfl rfl ?_))
        <;> (refine WO.nil (Then.intro rfl ?_))))
    | (refine WC.region (id := 1) ?_; ((refine WO.cons ?_; (refine Op1.val (V.move rfl rfl) rfl rfl ?_))
        <;> (refine WO.cons ?_; (refine Op1.val (V.len hT rfl rfl rfl rfl rfl rfl (by first | rfl | assumption)) rfl rfl ?_))
        <;> (refine WO.cons ?_; (refine Op1.val (V.move rfl rfl) rfl rfl ?_))
        <;> (refine WO.cons ?_; (refine Op1.val (V.len hT rfl rfl rfl rfl rfl rfl (by first | rfl | assumption)) rfl rfl ?_))
        <;> (refine WO.cons ?_; ((refine Op1.neq rfl rfl rfl rfl rfl rfl ?_ ?_ <;> intro _)))
        <;> (refine WO.nil (Then.intro rfl ?_))))
    | (refine WC.region (id := 2) ?_; ((refine WO.cons ?_; (refine Op1.val (V.assign rfl rfl) rfl rfl ?_))
        <;> (refine WO.nil (Then.intro rfl ?_))))
    | (refine WC.region (id := 3) ?_; ((refine WO.cons ?_; (refine Op1.val (V.assign rfl rfl) rfl rfl ?_))
        <;> (refine WO.nil (Then.intro rfl ?_))))
    | refine WC.ret ?_
    | refine To.ret_seq ?_
    | refine WC.cond_true rfl ?_
    | refine WC.cond_false rfl ?_
    | refine WC.skip ?_
    | refine WC.block ?_
    | refine To.fn_ret rfl ?_)
  all_goals try (exfalso; omega)
  refine WC.sub (L' := [(5, .int .i64 ((0 : Nat) : Int)), (0, va), (1, vb)]) ⟨rfl, rfl, rfl, trivial⟩ ?_
  refine WC.iter (fun i => (5, .int .i64 (i : Int)) :: _) (fun i h' => Grow h h' ∧ Wf h') T.length ?_ 0 _ (Nat.zero_le _) ⟨Grow.refl _, w⟩
  rintro i h1 hi ⟨hg, hw⟩ next
  by_cases hin : i < T.length
  · have hsame : decide (T.getD i [] = T.getD i []) = true := decide_eq_true rfl
    repeat' (first
      | refine To.nrm_seq ?_
      | refine WC.seq ?_
      | (refine WC.region (id := 4) ?_; ((refine WO.cons ?_; (refine Op1.val (V.move rfl rfl) rfl rfl ?_))
          <;> (refine WO.cons ?_; (refine Op1.val (V.move rfl rfl) rfl rfl ?_))
          <;> (refine WO.cons ?_; (refine Op1.val (V.len hT rfl rfl rfl rfl rfl rfl (by first | rfl | assumption)) rfl rfl ?_))
          <;> (refine WO.cons ?_; ((refine Op1.lss rfl rfl rfl rfl rfl rfl ?_ ?_ <;> intro _)))
          <;> (refine WO.nil (Then.intro rfl ?_))))
      | (refine WC.draw (id := 6) [0, 1, 2, 3, 4, 5, 6, 7, 8, 9] #[0, 0, 3, 7, 0, 0, 48, 112, 255, 511] (by kernel_rfl) (by kernel_rfl) (by kernel_rfl) ?_; ((refine WD.cons rfl ?_; ((refine Op1.val (V.move rfl rfl) rfl rfl ?_) <;> refine ⟨_, rfl, ?_⟩))
          <;> (refine WD.cons rfl ?_; ((refine Op1.val (V.move rfl rfl) rfl rfl ?_) <;> refine ⟨_, rfl, ?_⟩))
          <;> (refine WD.cons rfl ?_; (((refine Op1.index hT rfl rfl rfl rfl rfl rfl rfl (SliceAt.grow hg a2) (row_i (g := fun v => [v]) HVal.nils (by omega)) ?_; intro kx ox rx kvx)) <;> refine ⟨_, rfl, ?_⟩))
          <;> (refine WD.cons rfl ?_; ((refine Op1.val (V.loadR0 hT rfl rfl rfl rfl (by assumption) rfl) rfl rfl ?_) <;> refine ⟨_, rfl, ?_⟩))
          <;> (refine WD.cons rfl ?_; ((refine Op1.val (V.move rfl rfl) rfl rfl ?_) <;> refine ⟨_, rfl, ?_⟩))
          <;> (refine WD.cons rfl ?_; ((refine Op1.val (V.move rfl rfl) rfl rfl ?_) <;> refine ⟨_, rfl, ?_⟩))
          <;> (refine WD.cons rfl ?_; (((refine Op1.index hT rfl rfl rfl rfl rfl rfl rfl (SliceAt.grow hg b2) (row_i (g := fun v => [v]) HVal.nils (by omega)) ?_; intro kx ox rx kvx)) <;> refine ⟨_, rfl, ?_⟩))
          <;> (refine WD.cons rfl ?_; ((refine Op1.val (V.loadR0 hT rfl rfl rfl rfl (by assumption) rfl) rfl rfl ?_) <;> refine ⟨_, rfl, ?_⟩))
          <;> (refine WD.cons rfl ?_; (((refine Op1.spB (C.call rfl rfl rfl rfl ca31) rfl rfl (sameInts_run hK (T.getD i []) (T.getD i []) _ _ _ (by assumption) (SliceAt.grow hg (a3 i hin)) (SliceAt.grow hg (b3 i hin)) (bl i)) ?_ ?_ <;> (rintro _ ⟨_, _⟩ _))) <;> refine ⟨_, rfl, ?_⟩))
          <;> (refine WD.cons rfl ?_; ((first | refine Op1.val (V.not_true rfl rfl) rfl rfl ?_ | refine Op1.val (V.not_false rfl rfl) rfl rfl ?_) <;> refine ⟨_, rfl, ?_⟩))
          <;> (refine WD.nil ⟨?_, Then.intro rfl ?_⟩; (repeat' (first | exact trivial | refine ⟨?_, ?_⟩ | exact Or.inl rfl)))))
      | (refine WC.region (id := 7) ?_; ((refine WO.cons ?_; (refine Op1.val (V.assign rfl rfl) rfl rfl ?_))
          <;> (refine WO.nil (Then.intro rfl ?_))))
      | (refine WC.region (id := 5) ?_; ((refine WO.cons ?_; (refine Op1.val (V.move rfl rfl) rfl rfl ?_))
          <;> (refine WO.cons ?_; (refine Op1.val (V.add rfl rfl rfl rfl (wrapF_i64 (by first | omega | (simp only [Int.ofNat_eq_natCast]; omega)) (by first | omega | (simp only [Int.ofNat_eq_natCast]; omega)))) rfl rfl ?_))
          <;> (refine WO.cons ?_; (refine Op1.val (V.assign rfl rfl) rfl rfl ?_))
          <;> (refine WO.nil (Then.intro rfl ?_))))
      | (refine WC.region (id := 8) ?_; ((refine WO.cons ?_; (refine Op1.val (V.assign rfl rfl) rfl rfl ?_))
          <;> (refine WO.nil (Then.intro rfl ?_))))
      | refine WC.ret ?_
      | refine To.ret_seq ?_
      | refine To.ret_block ?_
      | refine WC.cond_true rfl ?_
      | refine WC.cond_false rfl ?_
      | refine WC.skip ?_
      | refine WC.block ?_
      | refine WC.exit ?_
      | refine To.exit_seq ?_
      | refine To.exit_block ?_
      | refine To.nrm_block ?_
      | refine To.fn_ret rfl ?_)
    all_goals try (exfalso; omega)
    all_goals try (exfalso; rename_i e; rw [hsame] at e; exact absurd e (by decide))
    exact next _ _ hin ⟨rfl, rfl, rfl, trivial⟩ ⟨(by (repeat (first | assumption | exact Grow.refl _ | refine Grow.trans ?_ (by assumption)))), by assumption⟩
  · clear next
    repeat' (first
      | refine To.nrm_seq ?_
      | refine WC.seq ?_
      | (refine WC.region (id := 4) ?_; ((refine WO.cons ?_; (refine Op1.val (V.move rfl rfl) rfl rfl ?_))
          <;> (refine WO.cons ?_; (refine Op1.val (V.move rfl rfl) rfl rfl ?_))
          <;> (refine WO.cons ?_; (refine Op1.val (V.len hT rfl rfl rfl rfl rfl rfl (by first | rfl | assumption)) rfl rfl ?_))
          <;> (refine WO.cons ?_; ((refine Op1.lss rfl rfl rfl rfl rfl rfl ?_ ?_ <;> intro _)))
          <;> (refine WO.nil (Then.intro rfl ?_))))
      | (refine WC.region (id := 8) ?_; ((refine WO.cons ?_; (refine Op1.val (V.assign rfl rfl) rfl rfl ?_))
          <;> (refine WO.nil (Then.intro rfl ?_))))
      | refine WC.ret ?_
      | refine WC.cond_true rfl ?_
      | refine WC.cond_false rfl ?_
      | refine WC.skip ?_
      | refine WC.block ?_
      | refine WC.exit ?_
      | refine To.exit_seq ?_
      | refine To.exit_block ?_
      | refine To.fn_ret rfl ?_)
    all_goals try (exfalso; omega)
    exact ⟨rfl, hg, hw⟩
end Fv
end Go.HL
