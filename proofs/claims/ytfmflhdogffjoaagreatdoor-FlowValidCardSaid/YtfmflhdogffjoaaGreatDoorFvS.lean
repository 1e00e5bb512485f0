/- The walk of FlowValid: the program's validity. No statement of the seat stands here. -/
import Derived.Test.YtfmflhdogffjoaaGreatDoorFvR
namespace Go.HL
open Go Go.Proofs
namespace Fv
set_option maxRecDepth 10000
set_option maxHeartbeats 4000000
variable {K : CallFn} {base : List (Nat × HObj)}
theorem linked_of {f : FlowD} {b : Bool} (h : (f.nodes.all f.endsM && b) = true) : f.linked := by
  intro x hx m hm
  simp only [Bool.and_eq_true] at h
  have := List.all_eq_true.1 h.1 x hx
  unfold FlowD.endsM at this
  simp only [Bool.and_eq_true, List.all_eq_true] at this
  have := this.1 m hm
  unfold FlowD.inside at this
  simpa using this
theorem sumM_append (l m : List NodeD) : sumM (l ++ m) = sumM l + sumM m := by
  induction l with
  | nil => simp [sumM]
  | cons x l ih => simp only [List.cons_append, sumM, ih]; omega
theorem sizeM_step {f : FlowD} {i : Nat} (hi : i < f.nodes.length) : f.sizeM (i + 1) = f.sizeM i + (f.at i).ins.length := by
  unfold FlowD.sizeM FlowD.at
  rw [take_succ hi noNode, sumM_append]
  simp [sumM]; omega
def FlowD.okP (f : FlowD) (i : Nat) : Bool := decide (f.sizeM (i + 1) ≤ 2000) && instrsP f (f.predsLen i) (decide (0 < i)) [] (f.at i).ins
def kindB (x : InstrD) : Bool := decide (x.kind = 11)
theorem instrsP_cons {f : FlowD} {b : Int} {phis : Bool} {ch : List Int} {l : List InstrD} {k : Nat} (hk : k < l.length) : instrsP f b phis ch (l.drop k) =
    (!((decide ((l.getD k noInstr).kind = 11) && (!phis || decide ((l.getD k noInstr).d ∈ ch))) || !f.instrM (l.getD k noInstr) b) && instrsP f b (phis && decide ((l.getD k noInstr).kind = 11)) (if (l.getD k noInstr).kind = 11 then (l.getD k noInstr).d :: ch else ch) (l.drop (k + 1))) := by
  rw [drop_cons hk noInstr]; rfl
theorem chosen_phi {m : List (Int × Bool)} {ch : List Int} {d : Int} (h : ∀ e, lookB m e = decide (e ∈ ch)) : ∀ e, lookB (setB m d true) e = decide (e ∈ d :: ch) := by
  intro e
  rw [lookB_setB, h e]
  by_cases hd : d = e
  · simp [hd]
  · have : ¬ e = d := fun x => hd x.symm
    simp [hd, this]
theorem chosen_same {m : List (Int × Bool)} {ch : List Int} {d : Int} {b : Bool} (h : ∀ e, lookB m e = decide (e ∈ ch)) (hb : lookB m d = b) : ∀ e, lookB (setB m d b) e = decide (e ∈ ch) := by
  intro e
  rw [lookB_setB, ← h e]
  split
  · rename_i hd; rw [← hd, hb]
  · rfl
theorem validP_run (hK : KN base K) (f : FlowD) (h : Heap) (w : Wf h) (hB : Based base h) (r : f.Ok h) : Sp P K 10 [.agg f.cells] h (Gives h (.bool f.validP)) := by
  have ln := r.ln
  have hns := r.nodes
  have bn0 := r.nlen
  refine Sp.of (m := 77371269758166293773550335) (n := 107) (hK.none 10 rfl rfl _ _) Tryz.func10 rfl rfl mask10 rfl rfl ?_
  repeat' (first
    | refine To.nrm_seq ?_
    | refine WC.seq ?_
    | (refine WC.region (id := 0) ?_; ((refine WO.cons ?_; ((refine Op1.made (M.box rfl rfl rfl) rfl rfl (by assumption) ?_; rintro kb hb ⟨gb, eb, fb, wb, leb, ltb, obb⟩)))
        <;> (refine WO.cons ?_; (refine Op1.val (V.assign rfl rfl) rfl rfl ?_))
        <;> (refine WO.nil (Then.intro rfl ?_))))
    | (refine WC.region (id := 1) ?_; ((refine WO.cons ?_; (refine Op1.val (V.fieldAddr hT rfl rfl rfl rfl rfl rfl) rfl rfl ?_))
        <;> (refine WO.cons ?_; (refine Op1.val (V.load hT rfl rfl rfl rfl (by (repeat (first | assumption | refine Grow.get (by assumption) ?_))) rfl) rfl rfl ?_))
        <;> (refine WO.cons ?_; (refine Op1.val (V.len hT rfl rfl rfl rfl rfl rfl (by first | rfl | assumption)) rfl rfl ?_))
        <;> (refine WO.cons ?_; ((refine Op1.lss rfl rfl rfl rfl rfl rfl ?_ ?_ <;> intro _)))
        <;> (refine WO.cons ?_; (refine Op1.val (V.move rfl rfl) rfl rfl ?_))
        <;> (refine WO.cons ?_; (first | refine Op1.skip rfl rfl rfl ?_ | refine Op1.val (V.fieldAddr hT rfl rfl rfl rfl rfl rfl) rfl rfl ?_))
        <;> (refine WO.cons ?_; (first | refine Op1.skip rfl rfl rfl ?_ | refine Op1.val (V.load hT rfl rfl rfl rfl (by (repeat (first | assumption | refine Grow.get (by assumption) ?_))) rfl) rfl rfl ?_))
        <;> (refine WO.cons ?_; (first | refine Op1.skip rfl rfl rfl ?_ | refine Op1.val (V.len hT rfl rfl rfl rfl rfl rfl (by first | rfl | assumption)) rfl rfl ?_))
        <;> (refine WO.cons ?_; (first | refine Op1.skip rfl rfl rfl ?_ | (refine Op1.gtr rfl rfl rfl rfl rfl rfl ?_ ?_ <;> intro _)))
        <;> (refine WO.cons ?_; (first | refine Op1.val (V.pick_true rfl rfl rfl) rfl rfl ?_ | refine Op1.val (V.pick_false rfl rfl rfl) rfl rfl ?_))
        <;> (refine WO.cons ?_; (refine Op1.val (V.move rfl rfl) rfl rfl ?_))
        <;> (refine WO.cons ?_; (first | refine Op1.skip rfl rfl rfl ?_ | refine Op1.val (V.loadS hT rfl rfl rfl rfl (by (repeat (first | assumption | refine Grow.get (by assumption) ?_))) rfl) rfl rfl ?_))
        <;> (refine WO.cons ?_; (first | refine Op1.skip rfl rfl rfl ?_ | (refine Op1.spB (C.call rfl rfl rfl rfl ca23) rfl rfl (head_run hK f _ (by assumption) (by (repeat (first | assumption | refine Based.grow (by assumption) ?_))) (by (repeat (first | assumption | refine FlowD.Ok.grow (by assumption) ?_)))) ?_ ?_ <;> (rintro _ ⟨_, _⟩ _))))
        <;> (refine WO.cons ?_; (first | refine Op1.skip rfl rfl rfl ?_ | refine Op1.val (V.not_true rfl rfl) rfl rfl ?_ | refine Op1.val (V.not_false rfl rfl) rfl rfl ?_))
        <;> (refine WO.cons ?_; (first | refine Op1.val (V.pick_true rfl rfl rfl) rfl rfl ?_ | refine Op1.val (V.pick_false rfl rfl rfl) rfl rfl ?_))
        <;> (refine WO.cons ?_; (refine Op1.val (V.move rfl rfl) rfl rfl ?_))
        <;> (refine WO.cons ?_; (first | refine Op1.skip rfl rfl rfl ?_ | refine Op1.val (V.loadS hT rfl rfl rfl rfl (by (repeat (first | assumption | refine Grow.get (by assumption) ?_))) rfl) rfl rfl ?_))
        <;> (refine WO.cons ?_; (first | refine Op1.skip rfl rfl rfl ?_ | (refine Op1.spB (C.call rfl rfl rfl rfl ca24) rfl rfl (progEnds_run hK f _ (by assumption) (by (repeat (first | assumption | refine FlowD.Ok.grow (by assumption) ?_))) (by omega) (by omega)) ?_ ?_ <;> (rintro _ ⟨_, _⟩ _))))
        <;> (refine WO.cons ?_; (first | refine Op1.skip rfl rfl rfl ?_ | refine Op1.val (V.not_true rfl rfl) rfl rfl ?_ | refine Op1.val (V.not_false rfl rfl) rfl rfl ?_))
        <;> (refine WO.cons ?_; (first | refine Op1.val (V.pick_true rfl rfl rfl) rfl rfl ?_ | refine Op1.val (V.pick_false rfl rfl rfl) rfl rfl ?_))
        <;> (refine WO.nil (Then.intro rfl ?_))))
    | (refine WC.region (id := 2) ?_; ((refine WO.cons ?_; (refine Op1.val (V.assign rfl rfl) rfl rfl ?_))
        <;> (refine WO.nil (Then.intro rfl ?_))))
    | (refine WC.region (id := 3) ?_; ((refine WO.cons ?_; (refine Op1.val (V.fieldAddr hT rfl rfl rfl rfl rfl rfl) rfl rfl ?_))
        <;> (refine WO.cons ?_; (refine Op1.val (V.load hT rfl rfl rfl rfl (by (repeat (first | assumption | refine Grow.get (by assumption) ?_))) rfl) rfl rfl ?_))
        <;> (refine WO.cons ?_; (refine Op1.val (V.len hT rfl rfl rfl rfl rfl rfl (by first | rfl | assumption)) rfl rfl ?_))
        <;> (refine WO.cons ?_; (refine Op1.val (V.assign rfl rfl) rfl rfl ?_))
        <;> (refine WO.nil (Then.intro rfl ?_))))
    | (refine WC.region (id := 4) ?_; ((refine WO.cons ?_; (refine Op1.val (V.loadS hT rfl rfl rfl rfl (by (repeat (first | assumption | refine Grow.get (by assumption) ?_))) rfl) rfl rfl ?_))
        <;> (refine WO.cons ?_; ((refine Op1.sp (C.call rfl rfl rfl rfl ca21) rfl rfl (before_run hK f _ (by assumption) (by (repeat (first | assumption | refine FlowD.Ok.grow (by assumption) ?_))) (by omega) (linked_of (by assumption))) ?_; rintro vk hk ⟨⟨vs, hv1, hv2, hv3⟩, gv, wv⟩; have lvk := hv2.len; rw [List.length_map, hv1, predsR_length] at lvk)))
        <;> (refine WO.cons ?_; (refine Op1.val (V.len hT rfl rfl rfl rfl rfl rfl (by first | rfl | assumption)) rfl rfl ?_))
        <;> (refine WO.cons ?_; (refine Op1.val (V.move rfl rfl) rfl rfl ?_))
        <;> (refine WO.nil (Then.intro rfl ?_))))
    | refine WC.ret ?_
    | refine To.ret_seq ?_
    | refine WC.cond_true rfl ?_
    | refine WC.cond_false rfl ?_
    | refine WC.skip ?_
    | refine WC.block ?_
    | refine To.fn_ret rfl ?_)
  all_goals try (refine ⟨?_, (by (repeat (first | assumption | exact Grow.refl _ | refine Grow.trans ?_ (by assumption)))), by assumption⟩; simp only [resV]; unfold FlowD.validP; first | (rw [decide_eq_false (p := 1 ≤ f.nodes.length ∧ _) (by omega)]; rfl) | (simp_all; done))
  have hn : 1 ≤ f.nodes.length ∧ f.nodes.length ≤ 2000 := by omega
  have hv0 : f.validP = (List.range f.nodes.length).all f.okP := by
    have e1 : f.hdM = true := by assumption
    have e2 : (f.nodes.all f.endsM && f.reachM.all id) = true := by assumption
    unfold FlowD.validP
    rw [decide_eq_true hn, e1, e2]
    rfl
  have hgk : Grow hb hk := (by (repeat (first | assumption | exact Grow.refl _ | refine Grow.trans ?_ (by assumption))))
  have hgk0 : Grow h hk := Grow.trans eb hgk
  refine WC.sub (L' := [(36, .int .i64 ((0 : Nat) : Int)), (35, .int .i64 (f.nodes.length : Int)), (34, vk), (3, .int .i64 (f.nodes.length : Int)), (1, .ptr kb 0)]) ⟨rfl, rfl, rfl, rfl, rfl, trivial⟩ ?_
  refine WC.iter (fun i => [(36, .int .i64 (i : Int)), (35, .int .i64 (f.nodes.length : Int)), (34, vk), (3, .int .i64 (f.sizeM i : Int)), (1, .ptr kb 0)]) (fun i h' => f.validP = ((List.range f.nodes.length).drop i).all f.okP ∧ f.sizeM i ≤ 2000 ∧ Grow hk h' ∧ Wf h') f.nodes.length ?_ 0 _ (Nat.zero_le _) ⟨hv0, by simp [FlowD.sizeM, sumM]; omega, Grow.refl _, by assumption⟩
  rintro i h1 hi ⟨he, hsz, hg, hw⟩ next
  have hgh : Grow h h1 := Grow.trans hgk0 hg
  have hgb : Grow hb h1 := Grow.trans hgk hg
  by_cases hin : i < f.nodes.length
  · have hnok : (f.at i).Ok h := r.each _ (getD_mem noNode hin)
    have li := hnok.li
    have bi := hnok.len
    have hst := sizeM_step hin
    have hpi : i < f.predsR.length := by rw [predsR_length]; exact hin
    have lvi : lenV (vs.getD i .nils) = some (f.predsR.getD i []).length := by have := (hv3 i hpi).len; rw [List.length_map] at this; exact this
    rw [all_step _ (by simpa using hin) 0, show (List.range f.nodes.length).getD i 0 = i by simp [List.getD, hin]] at he
    have hnd : f.nodes.getD i noNode = f.at i := rfl
    repeat' (first
      | refine To.nrm_seq ?_
      | refine WC.seq ?_
      | (refine WC.region (id := 5) ?_; ((refine WO.cons ?_; ((refine Op1.lss rfl rfl rfl rfl rfl rfl ?_ ?_ <;> intro _)))
          <;> (refine WO.nil (Then.intro rfl ?_))))
      | (refine WC.region (id := 6) ?_; ((refine WO.cons ?_; (refine Op1.val (V.move rfl rfl) rfl rfl ?_))
          <;> (refine WO.cons ?_; ((refine Op1.index hT rfl rfl rfl rfl rfl rfl rfl (SliceAt.grow hg hv2) (row_i (g := fun v => [v]) HVal.nils (by omega)) ?_; intro kx ox rx kvx)))
          <;> (refine WO.cons ?_; (refine Op1.val (V.loadR0 hT rfl rfl rfl rfl (by assumption) rfl) rfl rfl ?_))
          <;> (refine WO.cons ?_; (refine Op1.val (V.assign rfl rfl) rfl rfl ?_))
          <;> (refine WO.cons ?_; (refine Op1.val (V.assign rfl rfl) rfl rfl ?_))
          <;> (refine WO.nil (Then.intro rfl ?_))))
      | (refine WC.region (id := 7) ?_; ((refine WO.cons ?_; (refine Op1.val (V.move rfl rfl) rfl rfl ?_))
          <;> (refine WO.cons ?_; ((refine Op1.gtr rfl rfl rfl rfl rfl rfl ?_ ?_ <;> intro _)))
          <;> (refine WO.cons ?_; (refine Op1.val (V.assign rfl rfl) rfl rfl ?_))
          <;> (refine WO.nil (Then.intro rfl ?_))))
      | (refine WC.region (id := 8) ?_; ((refine WO.cons ?_; (refine Op1.val (V.move rfl rfl) rfl rfl ?_))
          <;> (refine WO.cons ?_; (refine Op1.val (V.fieldAddr hT rfl rfl rfl rfl rfl rfl) rfl rfl ?_))
          <;> (refine WO.cons ?_; (refine Op1.val (V.load hT rfl rfl rfl rfl (by (repeat (first | assumption | refine Grow.get (by assumption) ?_))) rfl) rfl rfl ?_))
          <;> (refine WO.cons ?_; (refine Op1.val (V.move rfl rfl) rfl rfl ?_))
          <;> (refine WO.cons ?_; ((refine Op1.index hT rfl rfl rfl rfl rfl rfl rfl (SliceAt.grow (Grow.trans hgh (by (repeat (first | assumption | exact Grow.refl _ | refine Grow.trans ?_ (by assumption))))) hns) (row_is noNode hin hnd) ?_; intro kx ox rx kvx)))
          <;> (refine WO.cons ?_; (refine Op1.val (V.fieldAddr hT rfl rfl rfl rfl rfl rfl) rfl rfl ?_))
          <;> (refine WO.cons ?_; (refine Op1.val (V.loadR hT rfl rfl rfl rfl (by assumption) rfl) rfl rfl ?_))
          <;> (refine WO.cons ?_; (refine Op1.val (V.len hT rfl rfl rfl rfl rfl rfl (by first | rfl | assumption)) rfl rfl ?_))
          <;> (refine WO.cons ?_; (refine Op1.val (V.add rfl rfl rfl rfl (wrapF_i64 (by first | omega | (simp only [Int.ofNat_eq_natCast]; omega)) (by first | omega | (simp only [Int.ofNat_eq_natCast]; omega)))) rfl rfl ?_))
          <;> (refine WO.cons ?_; (refine Op1.val (V.assign rfl rfl) rfl rfl ?_))
          <;> (refine WO.nil (Then.intro rfl ?_))))
      | (refine WC.region (id := 9) ?_; ((refine WO.cons ?_; (refine Op1.val (V.move rfl rfl) rfl rfl ?_))
          <;> (refine WO.cons ?_; ((refine Op1.gtr rfl rfl rfl rfl rfl rfl ?_ ?_ <;> intro _)))
          <;> (refine WO.nil (Then.intro rfl ?_))))
      | (refine WC.region (id := 10) ?_; ((refine WO.cons ?_; (refine Op1.val (V.assign rfl rfl) rfl rfl ?_))
          <;> (refine WO.nil (Then.intro rfl ?_))))
      | (refine WC.region (id := 11) ?_; ((refine WO.cons ?_; ((refine Op1.made (M.map hT rfl rfl) rfl rfl (by assumption) ?_; rintro km hm ⟨gm, em, fm, wm, lem, ltm, om⟩)))
          <;> (refine WO.cons ?_; (refine Op1.val (V.assign rfl rfl) rfl rfl ?_))
          <;> (refine WO.nil (Then.intro rfl ?_))))
      | (refine WC.region (id := 12) ?_; ((refine WO.cons ?_; (refine Op1.val (V.fieldAddr hT rfl rfl rfl rfl rfl rfl) rfl rfl ?_))
          <;> (refine WO.cons ?_; (refine Op1.val (V.load hT rfl rfl rfl rfl (by (repeat (first | assumption | refine Grow.get (by assumption) ?_))) rfl) rfl rfl ?_))
          <;> (refine WO.cons ?_; (refine Op1.val (V.move rfl rfl) rfl rfl ?_))
          <;> (refine WO.cons ?_; ((refine Op1.index hT rfl rfl rfl rfl rfl rfl rfl (SliceAt.grow (Grow.trans hgh (by (repeat (first | assumption | exact Grow.refl _ | refine Grow.trans ?_ (by assumption))))) hns) (row_is noNode hin hnd) ?_; intro kx ox rx kvx)))
          <;> (refine WO.cons ?_; (refine Op1.val (V.fieldAddr hT rfl rfl rfl rfl rfl rfl) rfl rfl ?_))
          <;> (refine WO.cons ?_; (refine Op1.val (V.loadR hT rfl rfl rfl rfl (by assumption) rfl) rfl rfl ?_))
          <;> (refine WO.cons ?_; (refine Op1.val (V.len hT rfl rfl rfl rfl rfl rfl (by first | rfl | assumption)) rfl rfl ?_))
          <;> (refine WO.cons ?_; (refine Op1.val (V.move rfl rfl) rfl rfl ?_))
          <;> (refine WO.nil (Then.intro rfl ?_))))
      | (refine WC.region (id := 21) ?_; ((refine WO.cons ?_; (refine Op1.val (V.assign rfl rfl) rfl rfl ?_))
          <;> (refine WO.nil (Then.intro rfl ?_))))
      | refine WC.ret ?_
      | refine To.ret_seq ?_
      | refine To.ret_block ?_
      | refine WC.cond_true rfl ?_
      | refine WC.cond_false rfl ?_
      | refine WC.skip ?_
      | refine WC.block ?_
      | refine WC.exit ?_
      | refine To.exit_seq ?_
      | refine To.exit_block ?_
      | refine To.fn_ret rfl ?_)
    all_goals try
      clear next
      refine ⟨?_, (by (repeat (first | assumption | exact Grow.refl _ | refine Grow.trans ?_ (by assumption)))), by assumption⟩
      rw [he, show f.okP i = false by unfold FlowD.okP; rw [decide_eq_false (by omega)]; rfl]
      rfl
    all_goals try (exfalso; omega)
    all_goals
      have hokP : f.okP i = instrsP f (f.predsLen i) (decide (0 < i)) [] ((f.at i).ins.drop 0) := by unfold FlowD.okP; rw [decide_eq_true (by omega)]; rfl
      have hfr : hk.get km = none := Grow.fresh hg fm
      rw [hokP] at he
      refine WC.sub (L' := [(62, .int .i64 ((0 : Nat) : Int)), (61, .int .i64 ((f.at i).ins.length : Int)), (60, (f.at i).iv), (6, .bool (decide (0 < i))), (7, .map km), (5, vs.getD i .nils), (4, .int .i64 (i : Int)), (1, .ptr kb 0), (3, .int .i64 (f.sizeM (i + 1) : Int)), (34, vk), (35, .int .i64 (f.nodes.length : Int)), (36, .int .i64 (i : Int))])
        ⟨rfl, rfl, rfl, by first | (rw [decide_eq_true (by omega)]; rfl) | (rw [decide_eq_false (by omega)]; rfl), rfl, rfl, rfl, rfl, by rw [hst, Int.natCast_add]; rfl, rfl, rfl, rfl, trivial⟩ ?_
      refine WC.fall (ι := Nat × Bool × List Int × List (Int × Bool)) (fun x => [(62, .int .i64 (x.1 : Int)), (61, .int .i64 ((f.at i).ins.length : Int)), (60, (f.at i).iv), (6, .bool x.2.1), (7, .map km), (5, vs.getD i .nils), (4, .int .i64 (i : Int)), (1, .ptr kb 0), (3, .int .i64 (f.sizeM (i + 1) : Int)), (34, vk), (35, .int .i64 (f.nodes.length : Int)), (36, .int .i64 (i : Int))])
        (fun x h' => x.1 ≤ (f.at i).ins.length ∧ f.validP = (instrsP f (f.predsLen i) x.2.1 x.2.2.1 ((f.at i).ins.drop x.1) && ((List.range f.nodes.length).drop (i + 1)).all f.okP) ∧ (∀ e, lookB x.2.2.2 e = decide (e ∈ x.2.2.1)) ∧ MapRw intKey h' km (x.2.2.2.map cellB) ∧ Grow hk h' ∧ Wf h') (fun x => (f.at i).ins.length - x.1) ?_ (0, decide (0 < i), [], []) _
        ⟨Nat.zero_le _, he, fun e => rfl, ⟨_, _, gm, trivial⟩, (by (repeat (first | assumption | exact Grow.refl _ | refine Grow.trans ?_ (by assumption)))), by assumption⟩
      rintro ⟨k, phis, ch, m⟩ h3 ⟨hkl, he3, hch, hmp, hg3, hw3⟩ next2
      simp only at hkl he3 hch hmp next2 ⊢
      have hgh3 : Grow h h3 := Grow.trans hgk0 hg3
      have hgb3 : Grow hb h3 := Grow.trans hgk hg3
      by_cases hkt : k < (f.at i).ins.length
      · have hxok : ((f.at i).ins.getD k noInstr).Ok h := hnok.each _ (getD_mem noInstr hkt)
        rw [instrsP_cons hkt] at he3
        generalize hx : (f.at i).ins.getD k noInstr = x at he3 hxok
        cases phis
        all_goals
          repeat' (first
            | refine To.nrm_seq ?_
            | refine WC.seq ?_
            | (refine WC.region (id := 13) ?_; ((refine WO.cons ?_; ((refine Op1.lss rfl rfl rfl rfl rfl rfl ?_ ?_ <;> intro _)))
                <;> (refine WO.nil (Then.intro rfl ?_))))
            | (refine WC.region (id := 14) ?_; ((refine WO.cons ?_; ((refine Op1.index hT rfl rfl rfl rfl rfl rfl rfl (SliceAt.grow hgh3 hnok.ins) (row_is noInstr hkt hx) ?_; intro kx ox rx kvx)))
                <;> (refine WO.cons ?_; (refine Op1.val (V.loadRS hT rfl rfl rfl rfl (by assumption) rfl) rfl rfl ?_))
                <;> (refine WO.cons ?_; ((refine Op1.made (M.alloc rfl (by first | exact z40 | exact z43 | exact z101 | exact z35 | exact z37)) rfl rfl (by assumption) ?_; rintro ka ha ⟨ga, ea, fa, wa, lea, lta, oa⟩)))
                <;> (refine WO.cons ?_; ((refine Op1.storeN hT rfl rfl (by first | exact i40 | exact i43 | exact i101 | exact i35 | exact i37 | exact i4 | exact i41) rfl rfl rfl rfl (by (repeat (first | assumption | refine Grow.get (by assumption) ?_))) rfl rfl rfl (by assumption) (by assumption) (by (repeat (first | assumption | exact Grow.refl _ | refine Grow.trans ?_ (by assumption)))) ?_; rintro hs gs es ws os)))
                <;> (refine WO.nil (Then.intro rfl ?_))))
            | (refine WC.region (id := 15) ?_; ((refine WO.cons ?_; (refine Op1.val (V.fieldAddr hT rfl rfl rfl rfl rfl rfl) rfl rfl ?_))
                <;> (refine WO.cons ?_; (refine Op1.val (V.load hT rfl rfl rfl rfl (by (repeat (first | assumption | refine Grow.get (by assumption) ?_))) rfl) rfl rfl ?_))
                <;> (refine WO.cons ?_; ((refine Op1.eql rfl rfl rfl rfl rfl rfl ?_ ?_ <;> intro _)))
                <;> (refine WO.cons ?_; (refine Op1.val (V.move rfl rfl) rfl rfl ?_))
                <;> (refine WO.cons ?_; (first | refine Op1.skip rfl rfl rfl ?_ | refine Op1.val (V.move rfl rfl) rfl rfl ?_))
                <;> (refine WO.cons ?_; (first | refine Op1.skip rfl rfl rfl ?_ | refine Op1.val (V.not_true rfl rfl) rfl rfl ?_ | refine Op1.val (V.not_false rfl rfl) rfl rfl ?_))
                <;> (refine WO.cons ?_; (first | refine Op1.skip rfl rfl rfl ?_ | refine Op1.val (V.move rfl rfl) rfl rfl ?_))
                <;> (refine WO.cons ?_; (first | refine Op1.skip rfl rfl rfl ?_ | refine Op1.val (V.move rfl rfl) rfl rfl ?_))
                <;> (refine WO.cons ?_; (first | refine Op1.skip rfl rfl rfl ?_ | refine Op1.val (V.fieldAddr hT rfl rfl rfl rfl rfl rfl) rfl rfl ?_))
                <;> (refine WO.cons ?_; (first | refine Op1.skip rfl rfl rfl ?_ | refine Op1.val (V.load hT rfl rfl rfl rfl (by (repeat (first | assumption | refine Grow.get (by assumption) ?_))) rfl) rfl rfl ?_))
                <;> (refine WO.cons ?_; (first | refine Op1.skip rfl rfl rfl ?_ | (refine Op1.lookupB (a := x.d) hT rfl rfl fi3 zh4 rfl rfl ((MapAt.grow (by (repeat (first | assumption | exact Grow.refl _ | refine Grow.trans ?_ (by assumption)))) hmp.at)) rfl rfl ?_ ?_ <;> intro _)))
                <;> (refine WO.cons ?_; (first | refine Op1.skip rfl rfl rfl ?_ | refine Op1.val (V.pick_true rfl rfl rfl) rfl rfl ?_ | refine Op1.val (V.pick_false rfl rfl rfl) rfl rfl ?_))
                <;> (refine WO.cons ?_; (first | refine Op1.val (V.pick_true rfl rfl rfl) rfl rfl ?_ | refine Op1.val (V.pick_false rfl rfl rfl) rfl rfl ?_))
                <;> (refine WO.cons ?_; (refine Op1.val (V.move rfl rfl) rfl rfl ?_))
                <;> (refine WO.cons ?_; (first | refine Op1.skip rfl rfl rfl ?_ | refine Op1.val (V.loadS hT rfl rfl rfl rfl (by (repeat (first | assumption | refine Grow.get (by assumption) ?_))) rfl) rfl rfl ?_))
                <;> (refine WO.cons ?_; (first | refine Op1.skip rfl rfl rfl ?_ | refine Op1.val (V.loadS hT rfl rfl rfl rfl (by (repeat (first | assumption | refine Grow.get (by assumption) ?_))) rfl) rfl rfl ?_))
                <;> (refine WO.cons ?_; (first | refine Op1.skip rfl rfl rfl ?_ | refine Op1.val (V.move rfl rfl) rfl rfl ?_))
                <;> (refine WO.cons ?_; (first | refine Op1.skip rfl rfl rfl ?_ | refine Op1.val (V.len hT rfl rfl rfl rfl rfl rfl (by first | rfl | assumption)) rfl rfl ?_))
                <;> (refine WO.cons ?_; (first | refine Op1.skip rfl rfl rfl ?_ | (refine Op1.spB (C.call rfl rfl rfl rfl ca25) rfl rfl (instr_run hK f x (f.predsLen i) _ (by assumption) (FlowD.Ok.grow (Grow.trans hgh3 (by (repeat (first | assumption | exact Grow.refl _ | refine Grow.trans ?_ (by assumption))))) r) (InstrD.Ok.grow (Grow.trans hgh3 (by (repeat (first | assumption | exact Grow.refl _ | refine Grow.trans ?_ (by assumption))))) hxok)) ?_ ?_ <;> (rintro _ ⟨_, _⟩ _))))
                <;> (refine WO.cons ?_; (first | refine Op1.skip rfl rfl rfl ?_ | refine Op1.val (V.not_true rfl rfl) rfl rfl ?_ | refine Op1.val (V.not_false rfl rfl) rfl rfl ?_))
                <;> (refine WO.cons ?_; (first | refine Op1.val (V.pick_true rfl rfl rfl) rfl rfl ?_ | refine Op1.val (V.pick_false rfl rfl rfl) rfl rfl ?_))
                <;> (refine WO.nil (Then.intro rfl ?_))))
            | (refine WC.region (id := 16) ?_; ((refine WO.cons ?_; (refine Op1.val (V.assign rfl rfl) rfl rfl ?_))
                <;> (refine WO.nil (Then.intro rfl ?_))))
            | (refine WC.region (id := 17) ?_; ((refine WO.cons ?_; (refine Op1.val (V.move rfl rfl) rfl rfl ?_))
                <;> (refine WO.cons ?_; (refine Op1.val (V.move rfl rfl) rfl rfl ?_))
                <;> (refine WO.cons ?_; (first | refine Op1.skip rfl rfl rfl ?_ | refine Op1.val (V.fieldAddr hT rfl rfl rfl rfl rfl rfl) rfl rfl ?_))
                <;> (refine WO.cons ?_; (first | refine Op1.skip rfl rfl rfl ?_ | refine Op1.val (V.load hT rfl rfl rfl rfl (by (repeat (first | assumption | refine Grow.get (by assumption) ?_))) rfl) rfl rfl ?_))
                <;> (refine WO.cons ?_; (first | refine Op1.skip rfl rfl rfl ?_ | (refine Op1.eql rfl rfl rfl rfl rfl rfl ?_ ?_ <;> intro _)))
                <;> (refine WO.cons ?_; (first | refine Op1.val (V.pick_true rfl rfl rfl) rfl rfl ?_ | refine Op1.val (V.pick_false rfl rfl rfl) rfl rfl ?_))
                <;> (refine WO.cons ?_; (refine Op1.val (V.assign rfl rfl) rfl rfl ?_))
                <;> (refine WO.nil (Then.intro rfl ?_))))
            | (refine WC.region (id := 18) ?_; ((refine WO.cons ?_; (refine Op1.val (V.move rfl rfl) rfl rfl ?_))
                <;> (refine WO.cons ?_; (refine Op1.val (V.fieldAddr hT rfl rfl rfl rfl rfl rfl) rfl rfl ?_))
                <;> (refine WO.cons ?_; (refine Op1.val (V.load hT rfl rfl rfl rfl (by (repeat (first | assumption | refine Grow.get (by assumption) ?_))) rfl) rfl rfl ?_))
                <;> (refine WO.cons ?_; (refine Op1.val (V.move rfl rfl) rfl rfl ?_))
                <;> (refine WO.cons ?_; (refine Op1.val (V.fieldAddr hT rfl rfl rfl rfl rfl rfl) rfl rfl ?_))
                <;> (refine WO.cons ?_; (refine Op1.val (V.load hT rfl rfl rfl rfl (by (repeat (first | assumption | refine Grow.get (by assumption) ?_))) rfl) rfl rfl ?_))
                <;> (refine WO.cons ?_; ((refine Op1.lookupB (a := x.d) hT rfl rfl fi3 zh4 rfl rfl ((MapAt.grow (by (repeat (first | assumption | exact Grow.refl _ | refine Grow.trans ?_ (by assumption)))) hmp.at)) rfl rfl ?_ ?_ <;> intro _)))
                <;> (refine WO.cons ?_; (refine Op1.val (V.move rfl rfl) rfl rfl ?_))
                <;> (refine WO.cons ?_; (first | refine Op1.skip rfl rfl rfl ?_ | refine Op1.val (V.fieldAddr hT rfl rfl rfl rfl rfl rfl) rfl rfl ?_))
                <;> (refine WO.cons ?_; (first | refine Op1.skip rfl rfl rfl ?_ | refine Op1.val (V.load hT rfl rfl rfl rfl (by (repeat (first | assumption | refine Grow.get (by assumption) ?_))) rfl) rfl rfl ?_))
                <;> (refine WO.cons ?_; (first | refine Op1.skip rfl rfl rfl ?_ | (refine Op1.eql rfl rfl rfl rfl rfl rfl ?_ ?_ <;> intro _)))
                <;> (refine WO.cons ?_; (first | refine Op1.val (V.pick_true rfl rfl rfl) rfl rfl ?_ | refine Op1.val (V.pick_false rfl rfl rfl) rfl rfl ?_))
                <;> (refine WO.cons ?_; ((refine Op1.mapUpdate (a := x.d) hT rfl rfl fi3 rfl rfl rfl ((MapRw.grow (by (repeat (first | assumption | exact Grow.refl _ | refine Grow.trans ?_ (by assumption)))) hmp)) (by assumption) rfl rfl ?_; intro hu gu ou wu nu)))
                <;> (refine WO.nil (Then.intro rfl ?_))))
            | (refine WC.region (id := 19) ?_; ((refine WO.cons ?_; (refine Op1.val (V.add rfl rfl rfl rfl (wrapF_i64 (by first | omega | (simp only [Int.ofNat_eq_natCast]; omega)) (by first | omega | (simp only [Int.ofNat_eq_natCast]; omega)))) rfl rfl ?_))
                <;> (refine WO.cons ?_; (refine Op1.val (V.move rfl rfl) rfl rfl ?_))
                <;> (refine WO.nil (Then.intro rfl ?_))))
            | (refine WC.region (id := 20) ?_; ((refine WO.cons ?_; (refine Op1.val (V.add rfl rfl rfl rfl (wrapF_i64 (by first | omega | (simp only [Int.ofNat_eq_natCast]; omega)) (by first | omega | (simp only [Int.ofNat_eq_natCast]; omega)))) rfl rfl ?_))
                <;> (refine WO.cons ?_; (refine Op1.val (V.move rfl rfl) rfl rfl ?_))
                <;> (refine WO.nil (Then.intro rfl ?_))))
            | refine WC.ret ?_
            | refine To.ret_seq ?_
            | refine To.ret_block ?_
            | refine WC.cond_true rfl ?_
            | refine WC.cond_false rfl ?_
            | refine WC.skip ?_
            | refine WC.block ?_
            | refine WC.exit ?_
            | refine To.exit_seq ?_
            | refine To.exit_block ?_
            | refine To.nrm_block ?_
            | refine To.fn_ret rfl ?_)
          all_goals try (exfalso; omega)
          all_goals try (exfalso; simp_all; done)
          all_goals first
            | (refine next2 (k + 1, _, (if x.kind = 11 then x.d :: ch else ch), setB m x.d _) _ _ (by simp only; omega) ⟨rfl, rfl, rfl, rfl, rfl, rfl, rfl, rfl, rfl, rfl, rfl, rfl, trivial⟩ ⟨by simp only; omega, ?_, ?_, by rw [← setM_B]; exact gu, Grow.change (by (repeat (first | assumption | exact Grow.refl _ | refine Grow.trans ?_ (by assumption)))) hfr ou nu, wu⟩
               · have hcx := hch x.d
                 clear next next2 he
                 simp_all
               · first | (rw [if_pos (by assumption)]; exact chosen_phi hch) | (rw [if_neg (by assumption)]; exact chosen_same hch (by assumption)))
            | (have hcx := hch x.d
               clear next next2 he
               refine ⟨?_, (by (repeat (first | assumption | exact Grow.refl _ | refine Grow.trans ?_ (by assumption)))), by assumption⟩
               simp_all [resV])
      · have hke : k = (f.at i).ins.length := by omega
        subst hke
        rw [List.drop_of_length_le (Nat.le_refl _)] at he3
        clear next2
        repeat' (first
          | refine To.nrm_seq ?_
          | refine WC.seq ?_
          | (refine WC.region (id := 13) ?_; ((refine WO.cons ?_; ((refine Op1.lss rfl rfl rfl rfl rfl rfl ?_ ?_ <;> intro _)))
              <;> (refine WO.nil (Then.intro rfl ?_))))
          | (refine WC.region (id := 20) ?_; ((refine WO.cons ?_; (refine Op1.val (V.add rfl rfl rfl rfl (wrapF_i64 (by first | omega | (simp only [Int.ofNat_eq_natCast]; omega)) (by first | omega | (simp only [Int.ofNat_eq_natCast]; omega)))) rfl rfl ?_))
              <;> (refine WO.cons ?_; (refine Op1.val (V.move rfl rfl) rfl rfl ?_))
              <;> (refine WO.nil (Then.intro rfl ?_))))
          | refine WC.cond_true rfl ?_
          | refine WC.cond_false rfl ?_
          | refine WC.skip ?_
          | refine WC.block ?_
          | refine WC.exit ?_
          | refine To.exit_seq ?_
          | refine To.exit_block ?_
          | refine To.nrm_block ?_)
        all_goals try (exfalso; omega)
        exact next _ _ hin ⟨rfl, rfl, rfl, rfl, rfl, trivial⟩ ⟨by simpa [instrsP] using he3, by omega, hg3, hw3⟩
  · clear next
    repeat' (first
      | refine To.nrm_seq ?_
      | refine WC.seq ?_
      | (refine WC.region (id := 5) ?_; ((refine WO.cons ?_; ((refine Op1.lss rfl rfl rfl rfl rfl rfl ?_ ?_ <;> intro _)))
          <;> (refine WO.nil (Then.intro rfl ?_))))
      | (refine WC.region (id := 21) ?_; ((refine WO.cons ?_; (refine Op1.val (V.assign rfl rfl) rfl rfl ?_))
          <;> (refine WO.nil (Then.intro rfl ?_))))
      | refine WC.ret ?_
      | refine WC.cond_true rfl ?_
      | refine WC.cond_false rfl ?_
      | refine WC.skip ?_
      | refine WC.block ?_
      | refine WC.exit ?_
      | refine To.exit_seq ?_
      | refine To.exit_block ?_
      | refine To.fn_ret rfl ?_)
    all_goals try (exfalso; omega)
    exact ⟨by rw [he, List.drop_of_length_le (by simp; omega)]; rfl, (by (repeat (first | assumption | exact Grow.refl _ | refine Grow.trans ?_ (by assumption)))), hw⟩
end Fv
end Go.HL
