/- The walk of FlowValid: the reference's predecessors. No statement of the seat stands here. -/
import Derived.Test.YtfmflhdogffjoaaGreatDoorFvP
namespace Go.HL
open Go Go.Proofs
namespace Fv
set_option maxRecDepth 10000
set_option maxHeartbeats 4000000
variable {K : CallFn} {base : List (Nat × HObj)}
theorem stepR_at {i k j : Nat} {l : List Int} {T : List (List Int)} (hj : l.getD k 0 = (j : Int)) : stepR i l k T = if k = 0 ∨ (j : Int) ≠ l.getD 0 0 then addM i T j else T := by
  unfold stepR; rw [hj]; rfl
theorem refPreds_run (hK : KN base K) (f : FlowD) (h : Heap) (w : Wf h) (r : f.Ok h) (bn : f.nodes.length ≤ 2000) (hlk : f.linked) : Sp P K 22 [.agg f.cells] h (GivesLists h f.predsR) := by
  have ln := r.ln
  have hns := r.nodes
  refine Sp.of (m := 2199157506175) (n := 59) (hK.none 22 rfl rfl _ _) Tryz.func22 rfl rfl mask22 rfl rfl ?_
  repeat' (first
    | refine To.nrm_seq ?_
    | refine WC.seq ?_
    | (refine WC.region (id := 0) ?_; ((refine WO.cons ?_; ((refine Op1.made (M.box rfl rfl rfl) rfl rfl (by assumption) ?_; rintro kb hb ⟨gb, eb, fb, wb, leb, ltb, obb⟩)))
        <;> (refine WO.cons ?_; (refine Op1.val (V.assign rfl rfl) rfl rfl ?_))
        <;> (refine WO.nil (Then.intro rfl ?_))))
    | (refine WC.region (id := 1) ?_; ((refine WO.cons ?_; (refine Op1.val (V.fieldAddr hT rfl rfl rfl rfl rfl rfl) rfl rfl ?_))
        <;> (refine WO.cons ?_; (refine Op1.val (V.load hT rfl rfl rfl rfl (by (repeat (first | assumption | refine Grow.get (by assumption) ?_))) rfl) rfl rfl ?_))
        <;> (refine WO.cons ?_; (refine Op1.val (V.len hT rfl rfl rfl rfl rfl rfl (by first | rfl | assumption)) rfl rfl ?_))
        <;> (refine WO.cons ?_; ((refine Op1.makeN hT rfl rfl rfl rfl b41 (by omega) (by omega) z41 rfl rfl (by assumption) ?_; rintro kt hq ⟨gq, eq, fq, wq, leq, ltq, oq⟩)))
        <;> (refine WO.cons ?_; (refine Op1.val (V.assign rfl rfl) rfl rfl ?_))
        <;> (refine WO.nil (Then.intro rfl ?_))))
    | (refine WC.region (id := 2) ?_; ((refine WO.cons ?_; (refine Op1.val (V.assign rfl rfl) rfl rfl ?_))
        <;> (refine WO.nil (Then.intro rfl ?_))))
    | refine WC.block ?_)
  refine WC.sub (L' := [(4, .int .i64 ((0 : Nat) : Int)), (1, .ptr kb 0), (3, .slice kt 0 f.nodes.length (some f.nodes.length))]) ⟨rfl, rfl, rfl, trivial⟩ ?_
  refine WC.fall (ι := Nat × List (List Int) × List HVal) (fun x => [(4, .int .i64 (x.1 : Int)), (1, .ptr kb 0), (3, .slice kt 0 f.nodes.length (some f.nodes.length))])
    (fun x h' => x.1 ≤ f.nodes.length ∧ runM (nodeR f) x.1 (f.nodes.length - x.1) x.2.1 = f.predsR ∧ x.2.1.length = f.nodes.length ∧ (∀ m, (x.2.1.getD m []).length ≤ 2 * x.1) ∧ Tbl hb kt x.2.1 x.2.2 h') (fun x => f.nodes.length - x.1) ?_ (0, List.replicate f.nodes.length [], List.replicate f.nodes.length .nils) _
    ⟨Nat.zero_le _, rfl, by simp, fun m => by rw [getD_repl]; simp, Tbl.start gq fq eq wq⟩
  rintro ⟨i, T, vs⟩ h1 ⟨hi, he, hT1, hbd, tb⟩ next
  simp only at hi he hT1 hbd tb next ⊢
  have hw1 := tb.wf
  have hg1 : Grow hb h1 := tb.grow
  by_cases hin : i < f.nodes.length
  · have hlj := hlk _ (getD_mem noNode hin)
    have nlj := (f.nodes.getD i noNode).next_len
    rw [runM_step hin] at he
    have hnR : nodeR f i T = runM (stepR i (f.nodes.getD i noNode).next) 0 ((f.nodes.getD i noNode).next.length - 0) T := rfl
    rw [hnR] at he
    generalize hnd : f.nodes.getD i noNode = nd at he hlj nlj
    repeat' (first
      | refine To.nrm_seq ?_
      | refine WC.seq ?_
      | (refine WC.region (id := 3) ?_; ((refine WO.cons ?_; (refine Op1.val (V.move rfl rfl) rfl rfl ?_))
          <;> (refine WO.cons ?_; (refine Op1.val (V.fieldAddr hT rfl rfl rfl rfl rfl rfl) rfl rfl ?_))
          <;> (refine WO.cons ?_; (refine Op1.val (V.load hT rfl rfl rfl rfl (by (repeat (first | assumption | refine Grow.get (by assumption) ?_))) rfl) rfl rfl ?_))
          <;> (refine WO.cons ?_; (refine Op1.val (V.len hT rfl rfl rfl rfl rfl rfl (by first | rfl | assumption)) rfl rfl ?_))
          <;> (refine WO.cons ?_; ((refine Op1.lss rfl rfl rfl rfl rfl rfl ?_ ?_ <;> intro _)))
          <;> (refine WO.nil (Then.intro rfl ?_))))
      | (refine WC.region (id := 5) ?_; ((refine WO.cons ?_; (refine Op1.val (V.fieldAddr hT rfl rfl rfl rfl rfl rfl) rfl rfl ?_))
          <;> (refine WO.cons ?_; (refine Op1.val (V.load hT rfl rfl rfl rfl (by (repeat (first | assumption | refine Grow.get (by assumption) ?_))) rfl) rfl rfl ?_))
          <;> (refine WO.cons ?_; (refine Op1.val (V.move rfl rfl) rfl rfl ?_))
          <;> (refine WO.cons ?_; ((refine Op1.index hT rfl rfl rfl rfl rfl rfl rfl (SliceAt.grow (Grow.trans eb hg1) hns) (row_is noNode hin hnd) ?_; intro kx ox rx kvx)))
          <;> (refine WO.cons ?_; (refine Op1.val (V.loadRS hT rfl rfl rfl rfl (by assumption) rfl) rfl rfl ?_))
          <;> (refine WO.cons ?_; ((refine Op1.sp (C.call rfl rfl rfl rfl ca39) rfl rfl (next2_run hK nd _ (by assumption)) ?_; rintro vk hk ⟨hv, nv, gv, wv⟩; have lvk := hv.slice.len; simp only [List.length_map] at lvk)))
          <;> (refine WO.cons ?_; (refine Op1.val (V.assign rfl rfl) rfl rfl ?_))
          <;> (refine WO.nil (Then.intro rfl ?_))))
      | (refine WC.region (id := 6) ?_; ((refine WO.cons ?_; (refine Op1.val (V.assign rfl rfl) rfl rfl ?_))
          <;> (refine WO.nil (Then.intro rfl ?_))))
      | (refine WC.region (id := 11) ?_; ((refine WO.cons ?_; (refine Op1.val (V.move rfl rfl) rfl rfl ?_))
          <;> (refine WO.cons ?_; (refine Op1.val (V.assign rfl rfl) rfl rfl ?_))
          <;> (refine WO.nil (Then.intro rfl ?_))))
      | refine WC.ret ?_
      | refine WC.cond_true rfl ?_
      | refine WC.cond_false rfl ?_
      | refine WC.skip ?_
      | refine WC.block ?_
      | refine WC.exit ?_
      | refine To.exit_seq ?_
      | refine To.exit_block ?_
      | refine To.fn_ret rfl ?_)
    all_goals try (exfalso; omega)
    have bs0 := BesideT.new (tb.more (Grow.refl _) hw1) hv nv
    refine WC.sub (L' := [(6, .int .i64 ((0 : Nat) : Int)), (5, vk), (4, .int .i64 (i : Int)), (1, .ptr kb 0), (3, .slice kt 0 f.nodes.length (some f.nodes.length))]) ⟨rfl, rfl, rfl, rfl, rfl, trivial⟩ ?_
    refine WC.fall (ι := Nat × List (List Int) × List HVal) (fun x => [(6, .int .i64 (x.1 : Int)), (5, vk), (4, .int .i64 (i : Int)), (1, .ptr kb 0), (3, .slice kt 0 f.nodes.length (some f.nodes.length))])
      (fun x h' => x.1 ≤ nd.next.length ∧ runM (nodeR f) (i + 1) (f.nodes.length - (i + 1)) (runM (stepR i nd.next) x.1 (nd.next.length - x.1) x.2.1) = f.predsR ∧ x.2.1.length = f.nodes.length ∧ (∀ m, (x.2.1.getD m []).length ≤ 2 * i + x.1) ∧ Tbl hb kt x.2.1 x.2.2 h' ∧ BesideT kt x.2.2 vk (nd.next.map intCells) h') (fun x => nd.next.length - x.1) ?_ (0, T, vs) _
      ⟨Nat.zero_le _, he, hT1, hbd, tb.more gv wv, bs0⟩
    clear he tb hbd hT1
    rintro ⟨k, T, vs⟩ h3 ⟨hk, he, hT1, hbd, tb, bs⟩ next2
    simp only at hk he hT1 hbd tb bs next2 ⊢
    have hw3 := tb.wf
    have hg3 : Grow hb h3 := tb.grow
    by_cases hkt : k < nd.next.length
    · obtain ⟨j, hj⟩ : ∃ j : Nat, nd.next.getD k 0 = (j : Int) := ⟨(nd.next.getD k 0).toNat, by have := hlj _ (getD_mem (0 : Int) hkt); omega⟩
      have hjn : j < f.nodes.length := by have := hlj _ (getD_mem (0 : Int) hkt); omega
      rw [runM_step hkt, stepR_at hj] at he
      obtain ⟨d, am⟩ := tb.each j (by omega)
      have lvm := am.len
      have hbj := hbd j
      have hjv : j < vs.length := by rw [tb.len]; omega
      repeat' (first
        | refine To.nrm_seq ?_
        | refine WC.seq ?_
        | (refine WC.region (id := 7) ?_; ((refine WO.cons ?_; (refine Op1.val (V.move rfl rfl) rfl rfl ?_))
            <;> (refine WO.cons ?_; (refine Op1.val (V.move rfl rfl) rfl rfl ?_))
            <;> (refine WO.cons ?_; (refine Op1.val (V.len hT rfl rfl rfl rfl rfl rfl (by first | rfl | assumption)) rfl rfl ?_))
            <;> (refine WO.cons ?_; ((refine Op1.lss rfl rfl rfl rfl rfl rfl ?_ ?_ <;> intro _)))
            <;> (refine WO.nil (Then.intro rfl ?_))))
        | (refine WC.draw (id := 9) [0, 1, 2, 3, 4, 5, 6, 7, 8, 9, 10, 11] #[0, 1, 3, 7, 7, 31, 63, 7, 135, 391, 1023, 2047] (by kernel_rfl) (by kernel_rfl) (by kernel_rfl) ?_; ((refine WD.cons rfl ?_; ((refine Op1.val (V.move rfl rfl) rfl rfl ?_) <;> refine ⟨_, rfl, ?_⟩))
            <;> (refine WD.cons rfl ?_; (((refine Op1.eql rfl rfl rfl rfl rfl rfl ?_ ?_ <;> intro _)) <;> refine ⟨_, rfl, ?_⟩))
            <;> (refine WD.cons rfl ?_; ((refine Op1.val (V.move rfl rfl) rfl rfl ?_) <;> refine ⟨_, rfl, ?_⟩))
            <;> (refine WD.cons rfl ?_; ((first | refine Op1.skip rfl rfl rfl ?_ | refine Op1.val (V.move rfl rfl) rfl rfl ?_) <;> refine ⟨_, rfl, ?_⟩))
            <;> (refine WD.cons rfl ?_; ((first | refine Op1.skip rfl rfl rfl ?_ | refine Op1.val (V.move rfl rfl) rfl rfl ?_) <;> refine ⟨_, rfl, ?_⟩))
            <;> (refine WD.cons rfl ?_; ((first | refine Op1.skip rfl rfl rfl ?_ | (refine Op1.index hT rfl rfl rfl rfl rfl rfl rfl bs.held.slice (row_is (0 : Int) hkt hj) ?_; intro kx ox rx kvx)) <;> refine ⟨_, rfl, ?_⟩))
            <;> (refine WD.cons rfl ?_; ((first | refine Op1.skip rfl rfl rfl ?_ | refine Op1.val (V.loadR0 hT rfl rfl rfl rfl (by assumption) rfl) rfl rfl ?_) <;> refine ⟨_, rfl, ?_⟩))
            <;> (refine WD.cons rfl ?_; ((first | refine Op1.skip rfl rfl rfl ?_ | refine Op1.val (V.move rfl rfl) rfl rfl ?_) <;> refine ⟨_, rfl, ?_⟩))
            <;> (refine WD.cons rfl ?_; ((first | refine Op1.skip rfl rfl rfl ?_ | (refine Op1.index hT rfl rfl rfl rfl rfl rfl rfl bs.held.slice (row_is (0 : Int) (i := 0) (by omega) rfl) ?_; intro kx ox rx kvx)) <;> refine ⟨_, rfl, ?_⟩))
            <;> (refine WD.cons rfl ?_; ((first | refine Op1.skip rfl rfl rfl ?_ | refine Op1.val (V.loadR0 hT rfl rfl rfl rfl (by assumption) rfl) rfl rfl ?_) <;> refine ⟨_, rfl, ?_⟩))
            <;> (refine WD.cons rfl ?_; ((first | refine Op1.skip rfl rfl rfl ?_ | (refine Op1.neq rfl rfl rfl rfl rfl rfl ?_ ?_ <;> intro _)) <;> refine ⟨_, rfl, ?_⟩))
            <;> (refine WD.cons rfl ?_; ((first | refine Op1.val (V.pick_true rfl rfl rfl) rfl rfl ?_ | refine Op1.val (V.pick_false rfl rfl rfl) rfl rfl ?_) <;> refine ⟨_, rfl, ?_⟩))
            <;> (refine WD.nil ⟨?_, Then.intro rfl ?_⟩; (repeat' (first | exact trivial | refine ⟨?_, ?_⟩)))))
        | (refine WC.draw (id := 10) [0, 1, 2, 3, 4, 5, 6, 7, 8, 9, 10, 11, 12, 13, 14, 15, 16] #[0, 0, 0, 6, 14, 0, 0, 0, 192, 448, 992, 2016, 0, 4096, 16352, 32767, 65535] (by kernel_rfl) (by kernel_rfl) (by kernel_rfl) ?_; ((refine WD.cons rfl ?_; ((refine Op1.val (V.move rfl rfl) rfl rfl ?_) <;> refine ⟨_, rfl, ?_⟩))
            <;> (refine WD.cons rfl ?_; ((refine Op1.val (V.move rfl rfl) rfl rfl ?_) <;> refine ⟨_, rfl, ?_⟩))
            <;> (refine WD.cons rfl ?_; ((refine Op1.val (V.move rfl rfl) rfl rfl ?_) <;> refine ⟨_, rfl, ?_⟩))
            <;> (refine WD.cons rfl ?_; (((refine Op1.index hT rfl rfl rfl rfl rfl rfl rfl bs.held.slice (row_is (0 : Int) hkt hj) ?_; intro kx ox rx kvx)) <;> refine ⟨_, rfl, ?_⟩))
            <;> (refine WD.cons rfl ?_; ((refine Op1.val (V.loadR0 hT rfl rfl rfl rfl (by assumption) rfl) rfl rfl ?_) <;> refine ⟨_, rfl, ?_⟩))
            <;> (refine WD.cons rfl ?_; ((refine Op1.val (V.move rfl rfl) rfl rfl ?_) <;> refine ⟨_, rfl, ?_⟩))
            <;> (refine WD.cons rfl ?_; ((refine Op1.val (V.move rfl rfl) rfl rfl ?_) <;> refine ⟨_, rfl, ?_⟩))
            <;> (refine WD.cons rfl ?_; ((refine Op1.val (V.move rfl rfl) rfl rfl ?_) <;> refine ⟨_, rfl, ?_⟩))
            <;> (refine WD.cons rfl ?_; (((refine Op1.index hT rfl rfl rfl rfl rfl rfl rfl bs.held.slice (row_is (0 : Int) hkt hj) ?_; intro kx ox rx kvx)) <;> refine ⟨_, rfl, ?_⟩))
            <;> (refine WD.cons rfl ?_; ((refine Op1.val (V.loadR0 hT rfl rfl rfl rfl (by assumption) rfl) rfl rfl ?_) <;> refine ⟨_, rfl, ?_⟩))
            <;> (refine WD.cons rfl ?_; ((refine Op1.val (V.indexAddr (t := 29) (j := j) hT rfl rfl rfl rfl rfl hjn) rfl rfl ?_) <;> refine ⟨_, rfl, ?_⟩))
            <;> (refine WD.cons rfl ?_; (((refine Op1.val (V.load (t := 41) hT rfl rfl rfl rfl tb.obj (nth_one hjv)) rfl rfl ?_)) <;> refine ⟨_, rfl, ?_⟩))
            <;> (refine WD.cons rfl ?_; ((refine Op1.val (V.move rfl rfl) rfl rfl ?_) <;> refine ⟨_, rfl, ?_⟩))
            <;> (refine WD.cons rfl ?_; (((refine Op1.made (M.buildSlice hT rfl rfl rfl rfl (by first | exact z3 | exact z9 | exact z41) rfl rfl rfl) rfl rfl (by assumption) ?_; rintro kc hc ⟨gc, ec, fc, wc, lec, ltc, oc⟩)) <;> refine ⟨_, rfl, ?_⟩))
            <;> (refine WD.cons rfl ?_; (((refine Op1.append hT rfl rfl rfl rfl rfl rfl rfl rfl z3 rfl rfl rfl b3 rfl rfl rfl ((am.mono ec)) (row_all gc) rfl rfl (by first | omega | (skip)) (by assumption) rfl rfl ?_; rintro kp hp ⟨ap, gp, fp, lep, op, wpp, npp⟩)) <;> refine ⟨_, rfl, ?_⟩))
            <;> (refine WD.cons rfl ?_; ((refine Op1.val (V.indexAddr (t := 29) (j := j) hT rfl rfl rfl rfl rfl hjn) rfl rfl ?_) <;> refine ⟨_, rfl, ?_⟩))
            <;> (refine WD.cons rfl ?_; (((refine Op1.store (t := 41) hT rfl rfl i41 rfl rfl rfl rfl ((op kt (fun e => tb.apart j (by omega) (am.key e.symm)) (fun e => by rw [← e] at fp; rw [ec.get tb.obj] at fp; cases fp)).trans (ec.get tb.obj)) (over_one hjv) rfl rfl (by assumption) ?_; rintro hz pz)) <;> refine ⟨_, rfl, ?_⟩))
            <;> (refine WD.nil ⟨?_, Then.intro rfl ?_⟩; (repeat' (first | exact trivial | refine ⟨?_, ?_⟩ | exact Or.inl rfl | exact Or.inr ⟨⟨_, _, V.loadR0 hT rfl rfl rfl rfl (Row.grow ec (by assumption)) rfl, V.loadR0 hT rfl rfl rfl rfl (Row.keep ((bs.more ec).old (am.mono ec) (Appended.mk ap gp fp lep op wpp npp) (by assumption)) (Row.grow ec (by assumption))) rfl⟩, beq_int⟩)))))
        | (refine WC.region (id := 8) ?_; ((refine WO.cons ?_; (refine Op1.val (V.move rfl rfl) rfl rfl ?_))
            <;> (refine WO.cons ?_; (refine Op1.val (V.add rfl rfl rfl rfl (wrapF_i64 (by first | omega | (simp only [Int.ofNat_eq_natCast]; omega)) (by first | omega | (simp only [Int.ofNat_eq_natCast]; omega)))) rfl rfl ?_))
            <;> (refine WO.cons ?_; (refine Op1.val (V.assign rfl rfl) rfl rfl ?_))
            <;> (refine WO.nil (Then.intro rfl ?_))))
        | (refine WC.region (id := 4) ?_; ((refine WO.cons ?_; (refine Op1.val (V.move rfl rfl) rfl rfl ?_))
            <;> (refine WO.cons ?_; (refine Op1.val (V.add rfl rfl rfl rfl (wrapF_i64 (by first | omega | (simp only [Int.ofNat_eq_natCast]; omega)) (by first | omega | (simp only [Int.ofNat_eq_natCast]; omega)))) rfl rfl ?_))
            <;> (refine WO.cons ?_; (refine Op1.val (V.assign rfl rfl) rfl rfl ?_))
            <;> (refine WO.nil (Then.intro rfl ?_))))
        | refine WC.cond_true rfl ?_
        | refine WC.cond_false rfl ?_
        | refine WC.skip ?_
        | refine WC.block ?_
        | refine WC.exit ?_
        | refine To.exit_seq ?_
        | refine To.exit_block ?_
        | refine To.nrm_block ?_)
      all_goals try (exfalso; omega)
      · rw [if_pos (.inl (by omega))] at he
        have pp := Appended.mk ap gp fp lep op wpp npp
        have hGr : Grow hb hp := pp.grow (hg3.trans ec) fun x e => by subst e; exact tb.dead j x (by omega) (am.key rfl)
        refine next2 (k + 1, addM i T j, vs.set j _) _ _ (by simp only; omega) ⟨rfl, rfl, rfl, rfl, rfl, trivial⟩
          ⟨by simp only; omega, he, by simp only [addM_length]; exact hT1, fun m => by have := bound_add (i := i) (j := j) (by omega) hbd m; simp only; omega,
            (tb.more ec wc).push (by omega) (am.mono ec) rfl rfl pp pz.get pz.old (pz.ext hGr tb.new) pz.wf, (bs.more ec).push hjv (am.mono ec) pp pz.old⟩
      · rw [if_pos (.inr (by assumption))] at he
        have pp := Appended.mk ap gp fp lep op wpp npp
        have hGr : Grow hb hp := pp.grow (hg3.trans ec) fun x e => by subst e; exact tb.dead j x (by omega) (am.key rfl)
        refine next2 (k + 1, addM i T j, vs.set j _) _ _ (by simp only; omega) ⟨rfl, rfl, rfl, rfl, rfl, trivial⟩
          ⟨by simp only; omega, he, by simp only [addM_length]; exact hT1, fun m => by have := bound_add (i := i) (j := j) (by omega) hbd m; simp only; omega,
            (tb.more ec wc).push (by omega) (am.mono ec) rfl rfl pp pz.get pz.old (pz.ext hGr tb.new) pz.wf, (bs.more ec).push hjv (am.mono ec) pp pz.old⟩
      · rw [if_neg (by rename_i hne; rintro (e | e); · omega
                       · exact hne e)] at he
        exact next2 (k + 1, T, vs) _ _ (by simp only; omega) ⟨rfl, rfl, rfl, rfl, rfl, trivial⟩ ⟨by simp only; omega, he, hT1, fun m => by have := hbd m; simp only; omega, tb, bs⟩
    · have hke : k = nd.next.length := by omega
      subst hke
      rw [runM_end (Nat.le_refl _)] at he
      clear next2
      repeat' (first
        | refine To.nrm_seq ?_
        | refine WC.seq ?_
        | (refine WC.region (id := 7) ?_; ((refine WO.cons ?_; (refine Op1.val (V.move rfl rfl) rfl rfl ?_))
            <;> (refine WO.cons ?_; (refine Op1.val (V.move rfl rfl) rfl rfl ?_))
            <;> (refine WO.cons ?_; (refine Op1.val (V.len hT rfl rfl rfl rfl rfl rfl (by first | rfl | assumption)) rfl rfl ?_))
            <;> (refine WO.cons ?_; ((refine Op1.lss rfl rfl rfl rfl rfl rfl ?_ ?_ <;> intro _)))
            <;> (refine WO.nil (Then.intro rfl ?_))))
        | (refine WC.region (id := 4) ?_; ((refine WO.cons ?_; (refine Op1.val (V.move rfl rfl) rfl rfl ?_))
            <;> (refine WO.cons ?_; (refine Op1.val (V.add rfl rfl rfl rfl (wrapF_i64 (by first | omega | (simp only [Int.ofNat_eq_natCast]; omega)) (by first | omega | (simp only [Int.ofNat_eq_natCast]; omega)))) rfl rfl ?_))
            <;> (refine WO.cons ?_; (refine Op1.val (V.assign rfl rfl) rfl rfl ?_))
            <;> (refine WO.nil (Then.intro rfl ?_))))
        | refine WC.cond_true rfl ?_
        | refine WC.cond_false rfl ?_
        | refine WC.skip ?_
        | refine WC.block ?_
        | refine WC.exit ?_
        | refine To.exit_seq ?_
        | refine To.exit_block ?_
        | refine To.nrm_block ?_)
      all_goals try (exfalso; omega)
      exact next (i + 1, T, vs) _ _ (by simp only; omega) ⟨rfl, rfl, rfl, trivial⟩ ⟨by simp only; omega, he, hT1, fun m => by have := hbd m; simp only; omega, tb⟩
  · clear next
    rw [runM_end (by omega)] at he
    subst he
    repeat' (first
      | refine To.nrm_seq ?_
      | refine WC.seq ?_
      | (refine WC.region (id := 3) ?_; ((refine WO.cons ?_; (refine Op1.val (V.move rfl rfl) rfl rfl ?_))
          <;> (refine WO.cons ?_; (refine Op1.val (V.fieldAddr hT rfl rfl rfl rfl rfl rfl) rfl rfl ?_))
          <;> (refine WO.cons ?_; (refine Op1.val (V.load hT rfl rfl rfl rfl (by (repeat (first | assumption | refine Grow.get (by assumption) ?_))) rfl) rfl rfl ?_))
          <;> (refine WO.cons ?_; (refine Op1.val (V.len hT rfl rfl rfl rfl rfl rfl (by first | rfl | assumption)) rfl rfl ?_))
          <;> (refine WO.cons ?_; ((refine Op1.lss rfl rfl rfl rfl rfl rfl ?_ ?_ <;> intro _)))
          <;> (refine WO.nil (Then.intro rfl ?_))))
      | (refine WC.region (id := 11) ?_; ((refine WO.cons ?_; (refine Op1.val (V.move rfl rfl) rfl rfl ?_))
          <;> (refine WO.cons ?_; (refine Op1.val (V.assign rfl rfl) rfl rfl ?_))
          <;> (refine WO.nil (Then.intro rfl ?_))))
      | refine WC.ret ?_
      | refine WC.cond_true rfl ?_
      | refine WC.cond_false rfl ?_
      | refine WC.skip ?_
      | refine WC.block ?_
      | refine WC.exit ?_
      | refine To.exit_seq ?_
      | refine To.exit_block ?_
      | refine To.fn_ret rfl ?_)
    all_goals try (exfalso; omega)
    exact ⟨tb.lists hT1.symm, Grow.trans eb hg1, hw1⟩
end Fv
end Go.HL
