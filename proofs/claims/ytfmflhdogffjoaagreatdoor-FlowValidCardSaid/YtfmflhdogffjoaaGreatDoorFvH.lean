/- The walk of FlowValid: different names. No statement of the seat stands here. -/
import Derived.Test.YtfmflhdogffjoaaGreatDoorFvG
namespace Go.HL
open Go Go.Proofs
namespace Fv
set_option maxRecDepth 10000
variable {K : CallFn} {base : List (Nat × HObj)}
theorem take_succ {α : Type} {l : List α} {i : Nat} (hi : i < l.length) (d : α) : l.take (i + 1) = l.take i ++ [l.getD i d] := by
  rw [List.take_add_one]
  simp [List.getD, List.getElem?_eq_getElem hi]
theorem names_left {f : FlowD} {i : Nat} (hi : i < f.params.length) : f.names.getD i noStr = nmP (f.params.getD i noParam) := by
  unfold FlowD.names
  simp [List.getD, List.getElem?_append_left, hi]
theorem names_right {f : FlowD} {i : Nat} (hi : i < f.shared.length) : f.names.getD (f.params.length + i) noStr = nmA (f.shared.getD i noArray) := by
  unfold FlowD.names
  simp [List.getD, List.getElem?_append_right, hi]
theorem names_length (f : FlowD) : f.names.length = f.params.length + f.shared.length := by simp [FlowD.names]
/-- what is known of the names that were gathered -/
structure Gathered (h0 : Heap) (f : FlowD) (i : Nat) (v : HVal) (h : Heap) : Prop where
  app : ∃ d, App h 9 1 v i ((f.names.take i).map strKey) d ∧ ∀ j, d = some j → h0.get j = none
  loose : Loose v
  grow : Grow h0 h
  wf : Wf h
theorem Gathered.step {h0 h h' : Heap} {f : FlowD} {i k : Nat} {d : Option Nat} {x : HVal} (hi : i < f.names.length) (hx : x = strKey (f.names.getD i noStr)) (hd : ∀ j, d = some j → h0.get j = none) (hg : Grow h0 h) (a : Appended h 9 1 (i + 1) ((f.names.take i).map strKey ++ [x]) d k h') : Gathered h0 f (i + 1) (.slice k 0 (i + 1) none) h' := by
  refine ⟨⟨some k, ?_, fun j e => ?_⟩, .slice _ _ _, a.grow hg hd, a.wf⟩
  · have := a.app
    rw [take_succ hi noStr, List.map_append, List.map_cons, List.map_nil, ← hx]; exact this
  · cases e; exact hg.fresh a.fresh
theorem heads_run (hK : KN base K) (f : FlowD) (h : Heap) (w : Wf h) (r : f.Ok h) : Sp P K 26 [.str f.n f.c, f.pv, f.sv] h (Gives h (.bool f.headsM)) := by
  have hps := r.params
  have hss := r.shared
  have lp := r.lp
  have ls := r.ls
  have bp := r.plen
  have bs := r.slen
  have hn := names_length f
  refine Sp.of (m := 144255934154704839) (n := 58) (hK.none 26 rfl rfl _ _) Tryz.func26 rfl rfl mask26 rfl rfl ?_
  repeat' (first
    | refine To.nrm_seq ?_
    | refine WC.seq ?_
    | (refine WC.region (id := 0) ?_; ((refine WO.cons ?_; (refine Op1.val (V.assign rfl rfl) rfl rfl ?_))
        <;> (refine WO.nil (Then.intro rfl ?_))))
    | (refine WC.region (id := 1) ?_; ((refine WO.cons ?_; (refine Op1.val (V.move rfl rfl) rfl rfl ?_))
        <;> (refine WO.cons ?_; (refine Op1.val (V.move rfl rfl) rfl rfl ?_))
        <;> (refine WO.cons ?_; (refine Op1.val (V.move rfl rfl) rfl rfl ?_))
        <;> (refine WO.cons ?_; ((refine Op1.spB (C.call rfl rfl rfl rfl ca45) rfl rfl (refHead_run hK f _ (by assumption) (by (repeat (first | assumption | refine FlowD.Ok.grow (by assumption) ?_)))) ?_ ?_ <;> (rintro _ ⟨_, _⟩ _))))
        <;> (refine WO.cons ?_; (first | refine Op1.val (V.not_true rfl rfl) rfl rfl ?_ | refine Op1.val (V.not_false rfl rfl) rfl rfl ?_))
        <;> (refine WO.nil (Then.intro rfl ?_))))
    | (refine WC.region (id := 2) ?_; ((refine WO.cons ?_; (refine Op1.val (V.assign rfl rfl) rfl rfl ?_))
        <;> (refine WO.nil (Then.intro rfl ?_))))
    | (refine WC.region (id := 3) ?_; ((refine WO.cons ?_; (refine Op1.val (V.assign rfl rfl) rfl rfl ?_))
        <;> (refine WO.nil (Then.intro rfl ?_))))
    | (refine WC.region (id := 4) ?_; ((refine WO.cons ?_; (refine Op1.val (V.assign rfl rfl) rfl rfl ?_))
        <;> (refine WO.nil (Then.intro rfl ?_))))
    | refine WC.ret ?_
    | refine To.ret_seq ?_
    | refine WC.cond_true rfl ?_
    | refine WC.cond_false rfl ?_
    | refine WC.skip ?_
    | refine WC.block ?_
    | refine To.fn_ret rfl ?_)
  rotate_left
  · exact ⟨by simp_all [resV, FlowD.headsM], (by (repeat (first | assumption | exact Grow.refl _ | refine Grow.trans ?_ (by assumption)))), by assumption⟩
  have e6 : f.refHeadM = true := by assumption
  have b6 : f.params.length ≤ 6 := by unfold FlowD.refHeadM at e6; simp at e6; omega
  have b4 : f.shared.length ≤ 4 := by unfold FlowD.refHeadM at e6; simp at e6; omega
  refine WC.sub (L' := [(8, .int .i64 ((0 : Nat) : Int)), (7, .nils), (1, f.pv), (2, f.sv)]) ⟨rfl, rfl, rfl, rfl, trivial⟩ ?_
  refine WC.fall (ι := Nat × HVal) (fun x => [(8, .int .i64 (x.1 : Int)), (7, x.2), (1, f.pv), (2, f.sv)]) (fun x h' => x.1 ≤ f.params.length ∧ Gathered h f x.1 x.2 h') (fun x => f.params.length - x.1) ?_ (0, .nils) _ ⟨Nat.zero_le _, ⟨_, .nils, fun _ e => by cases e⟩, .nils, (by (repeat (first | assumption | exact Grow.refl _ | refine Grow.trans ?_ (by assumption)))), by assumption⟩
  rintro ⟨i, v⟩ h1 ⟨hi, ⟨⟨d, ha, hd⟩, hl, hg, hw⟩⟩ next
  simp only at next hi ha ⊢
  have hlen := ha.len
  repeat' (first
    | refine To.nrm_seq ?_
    | refine WC.seq ?_
    | (refine WC.region (id := 5) ?_; ((refine WO.cons ?_; (refine Op1.val (V.move rfl rfl) rfl rfl ?_))
        <;> (refine WO.cons ?_; (refine Op1.val (V.move rfl rfl) rfl rfl ?_))
        <;> (refine WO.cons ?_; (refine Op1.val (V.len hT rfl rfl rfl rfl rfl rfl (by first | rfl | assumption)) rfl rfl ?_))
        <;> (refine WO.cons ?_; ((refine Op1.lss rfl rfl rfl rfl rfl rfl ?_ ?_ <;> intro _)))
        <;> (refine WO.nil (Then.intro rfl ?_))))
    | (refine WC.region (id := 7) ?_; ((refine WO.cons ?_; (refine Op1.val (V.move rfl rfl) rfl rfl ?_))
        <;> (refine WO.cons ?_; (refine Op1.val (V.move rfl rfl) rfl rfl ?_))
        <;> (refine WO.cons ?_; (refine Op1.val (V.move rfl rfl) rfl rfl ?_))
        <;> (refine WO.cons ?_; ((refine Op1.index hT rfl rfl rfl rfl rfl rfl rfl (by (repeat (first | assumption | refine SliceAt.grow (by assumption) ?_))) (row_i noParam (by omega)) ?_; intro kx ox rx kvx)))
        <;> (refine WO.cons ?_; (refine Op1.val (V.fieldAddr hT rfl rfl rfl rfl rfl rfl) rfl rfl ?_))
        <;> (refine WO.cons ?_; (refine Op1.val (V.loadR hT rfl rfl rfl rfl (by assumption) rfl) rfl rfl ?_))
        <;> (refine WO.cons ?_; ((refine Op1.made (M.buildSlice hT rfl rfl rfl rfl (by first | exact z3 | exact z9 | exact z41) rfl rfl rfl) rfl rfl (by assumption) ?_; rintro kc hc ⟨gc, ec, fc, wc, lec, ltc, oc⟩)))
        <;> (refine WO.cons ?_; ((refine Op1.append hT rfl rfl rfl rfl rfl rfl rfl rfl z9 rfl rfl rfl b9 rfl rfl rfl ((ha.mono (by (repeat (first | assumption | exact Grow.refl _ | refine Grow.trans ?_ (by assumption)))))) (row_all gc) rfl rfl (by first | omega | (skip)) (by assumption) rfl rfl ?_; rintro kp hp ⟨ap, gp, fp, lep, op, wpp, npp⟩)))
        <;> (refine WO.cons ?_; (refine Op1.val (V.assign rfl rfl) rfl rfl ?_))
        <;> (refine WO.nil (Then.intro rfl ?_))))
    | (refine WC.region (id := 6) ?_; ((refine WO.cons ?_; (refine Op1.val (V.move rfl rfl) rfl rfl ?_))
        <;> (refine WO.cons ?_; (refine Op1.val (V.add rfl rfl rfl rfl (wrapF_i64 (by first | omega | (simp only [Int.ofNat_eq_natCast]; omega)) (by first | omega | (simp only [Int.ofNat_eq_natCast]; omega)))) rfl rfl ?_))
        <;> (refine WO.cons ?_; (refine Op1.val (V.assign rfl rfl) rfl rfl ?_))
        <;> (refine WO.nil (Then.intro rfl ?_))))
    | (refine WC.region (id := 8) ?_; ((refine WO.cons ?_; (refine Op1.val (V.assign rfl rfl) rfl rfl ?_))
        <;> (refine WO.nil (Then.intro rfl ?_))))
    | refine WC.cond_true rfl ?_
    | refine WC.cond_false rfl ?_
    | refine WC.skip ?_
    | refine WC.block ?_
    | refine WC.exit ?_
    | refine To.exit_seq ?_
    | refine To.exit_block ?_
    | refine To.nrm_block ?_)
  · refine next (i + 1, _) _ _ (by simp only; omega) ⟨rfl, rfl, rfl, rfl, trivial⟩ ⟨by simp only; omega, ?_⟩
    exact Gathered.step (by omega) (by rw [names_left (by omega)]; rfl) hd (by (repeat (first | assumption | exact Grow.refl _ | refine Grow.trans ?_ (by assumption)))) (Appended.mk ap gp fp lep op wpp npp)
  clear next
  have hip : i = f.params.length := by omega
  subst hip
  refine WC.sub (L' := [(9, .int .i64 ((0 : Nat) : Int)), (7, v), (1, f.pv), (2, f.sv)]) ⟨rfl, rfl, rfl, rfl, trivial⟩ ?_
  refine WC.fall (ι := Nat × HVal) (fun x => [(9, .int .i64 (x.1 : Int)), (7, x.2), (1, f.pv), (2, f.sv)]) (fun x h' => x.1 ≤ f.shared.length ∧ Gathered h f (f.params.length + x.1) x.2 h') (fun x => f.shared.length - x.1) ?_ (0, v) _ ⟨Nat.zero_le _, ⟨d, ha, hd⟩, hl, (by (repeat (first | assumption | exact Grow.refl _ | refine Grow.trans ?_ (by assumption)))), by assumption⟩
  clear hlen ha hd hl hg hw d v h1
  rintro ⟨i, v⟩ h1 ⟨hi, ⟨⟨d, ha, hd⟩, hl, hg, hw⟩⟩ next
  simp only at next hi ha ⊢
  have hlen := ha.len
  repeat' (first
    | refine To.nrm_seq ?_
    | refine WC.seq ?_
    | (refine WC.region (id := 9) ?_; ((refine WO.cons ?_; (refine Op1.val (V.move rfl rfl) rfl rfl ?_))
        <;> (refine WO.cons ?_; (refine Op1.val (V.move rfl rfl) rfl rfl ?_))
        <;> (refine WO.cons ?_; (refine Op1.val (V.len hT rfl rfl rfl rfl rfl rfl (by first | rfl | assumption)) rfl rfl ?_))
        <;> (refine WO.cons ?_; ((refine Op1.lss rfl rfl rfl rfl rfl rfl ?_ ?_ <;> intro _)))
        <;> (refine WO.nil (Then.intro rfl ?_))))
    | (refine WC.region (id := 11) ?_; ((refine WO.cons ?_; (refine Op1.val (V.move rfl rfl) rfl rfl ?_))
        <;> (refine WO.cons ?_; (refine Op1.val (V.move rfl rfl) rfl rfl ?_))
        <;> (refine WO.cons ?_; (refine Op1.val (V.move rfl rfl) rfl rfl ?_))
        <;> (refine WO.cons ?_; ((refine Op1.index hT rfl rfl rfl rfl rfl rfl rfl (by (repeat (first | assumption | refine SliceAt.grow (by assumption) ?_))) (row_i noArray (by omega)) ?_; intro kx ox rx kvx)))
        <;> (refine WO.cons ?_; (refine Op1.val (V.fieldAddr hT rfl rfl rfl rfl rfl rfl) rfl rfl ?_))
        <;> (refine WO.cons ?_; (refine Op1.val (V.loadR hT rfl rfl rfl rfl (by assumption) rfl) rfl rfl ?_))
        <;> (refine WO.cons ?_; ((refine Op1.made (M.buildSlice hT rfl rfl rfl rfl (by first | exact z3 | exact z9 | exact z41) rfl rfl rfl) rfl rfl (by assumption) ?_; rintro kc hc ⟨gc, ec, fc, wc, lec, ltc, oc⟩)))
        <;> (refine WO.cons ?_; ((refine Op1.append hT rfl rfl rfl rfl rfl rfl rfl rfl z9 rfl rfl rfl b9 rfl rfl rfl ((ha.mono (by (repeat (first | assumption | exact Grow.refl _ | refine Grow.trans ?_ (by assumption)))))) (row_all gc) rfl rfl (by first | omega | (skip)) (by assumption) rfl rfl ?_; rintro kp hp ⟨ap, gp, fp, lep, op, wpp, npp⟩)))
        <;> (refine WO.cons ?_; (refine Op1.val (V.assign rfl rfl) rfl rfl ?_))
        <;> (refine WO.nil (Then.intro rfl ?_))))
    | (refine WC.region (id := 10) ?_; ((refine WO.cons ?_; (refine Op1.val (V.move rfl rfl) rfl rfl ?_))
        <;> (refine WO.cons ?_; (refine Op1.val (V.add rfl rfl rfl rfl (wrapF_i64 (by first | omega | (simp only [Int.ofNat_eq_natCast]; omega)) (by first | omega | (simp only [Int.ofNat_eq_natCast]; omega)))) rfl rfl ?_))
        <;> (refine WO.cons ?_; (refine Op1.val (V.assign rfl rfl) rfl rfl ?_))
        <;> (refine WO.nil (Then.intro rfl ?_))))
    | (refine WC.region (id := 12) ?_; ((refine WO.cons ?_; (refine Op1.val (V.assign rfl rfl) rfl rfl ?_))
        <;> (refine WO.nil (Then.intro rfl ?_))))
    | refine WC.cond_true rfl ?_
    | refine WC.cond_false rfl ?_
    | refine WC.skip ?_
    | refine WC.block ?_
    | refine WC.exit ?_
    | refine To.exit_seq ?_
    | refine To.exit_block ?_
    | refine To.nrm_block ?_)
  · refine next (i + 1, _) _ _ (by simp only; omega) ⟨rfl, rfl, rfl, rfl, trivial⟩ ⟨by simp only; omega, ?_⟩
    exact Gathered.step (i := f.params.length + i) (by omega) (by rw [names_right (by omega)]; rfl) hd (by (repeat (first | assumption | exact Grow.refl _ | refine Grow.trans ?_ (by assumption)))) (Appended.mk ap gp fp lep op wpp npp)
  clear next
  have hip : i = f.shared.length := by omega
  subst hip
  rw [← hn] at ha hlen
  have hat : SliceAt h1 v 1 (f.names.map strCells) := by
    have := ha.at1
    rw [List.take_length, List.map_map] at this
    exact this
  refine WC.sub (L' := [(10, .int .i64 ((0 : Nat) : Int)), (7, v)]) ⟨rfl, rfl, trivial⟩ ?_
  refine WC.iter (fun i => (10, .int .i64 (i : Int)) :: _) (fun i h' => f.headsM = distM f.names i ∧ Grow h1 h' ∧ Wf h') f.names.length ?_ 0 _ (Nat.zero_le _) ⟨by simp_all [FlowD.headsM], Grow.refl _, by assumption⟩
  rintro i h2 hi2 ⟨he, hg2, hw2⟩ next
  have hat2 := hat.grow hg2
  repeat' (first
    | refine To.nrm_seq ?_
    | refine WC.seq ?_
    | (refine WC.region (id := 13) ?_; ((refine WO.cons ?_; (refine Op1.val (V.move rfl rfl) rfl rfl ?_))
        <;> (refine WO.cons ?_; (refine Op1.val (V.move rfl rfl) rfl rfl ?_))
        <;> (refine WO.cons ?_; (refine Op1.val (V.len hT rfl rfl rfl rfl rfl rfl (by first | rfl | assumption)) rfl rfl ?_))
        <;> (refine WO.cons ?_; ((refine Op1.lss rfl rfl rfl rfl rfl rfl ?_ ?_ <;> intro _)))
        <;> (refine WO.nil (Then.intro rfl ?_))))
    | (refine WC.draw (id := 15) [0, 1, 2, 3, 4, 5, 6, 7] #[0, 0, 3, 7, 0, 0, 48, 127] (by kernel_rfl) (by kernel_rfl) (by kernel_rfl) ?_; ((refine WD.cons rfl ?_; ((refine Op1.val (V.move rfl rfl) rfl rfl ?_) <;> refine ⟨_, rfl, ?_⟩))
        <;> (refine WD.cons rfl ?_; ((refine Op1.val (V.move rfl rfl) rfl rfl ?_) <;> refine ⟨_, rfl, ?_⟩))
        <;> (refine WD.cons rfl ?_; (((refine Op1.index hT rfl rfl rfl rfl rfl rfl rfl (by (repeat (first | assumption | refine SliceAt.grow (by assumption) ?_))) (row_i noStr (by omega)) ?_; intro kx ox rx kvx)) <;> refine ⟨_, rfl, ?_⟩))
        <;> (refine WD.cons rfl ?_; ((refine Op1.val (V.loadR0 hT rfl rfl rfl rfl (by assumption) rfl) rfl rfl ?_) <;> refine ⟨_, rfl, ?_⟩))
        <;> (refine WD.cons rfl ?_; ((refine Op1.val (V.move rfl rfl) rfl rfl ?_) <;> refine ⟨_, rfl, ?_⟩))
        <;> (refine WD.cons rfl ?_; ((refine Op1.val (V.move rfl rfl) rfl rfl ?_) <;> refine ⟨_, rfl, ?_⟩))
        <;> (refine WD.cons rfl ?_; (((refine Op1.sliceHi hT rfl rfl rfl rfl rfl (by assumption) (by (repeat (first | assumption | refine SliceAt.grow (by assumption) ?_))) (by first | omega | (simp only [List.length_map]; omega)) rfl rfl ?_; intro _ _ _)) <;> refine ⟨_, rfl, ?_⟩))
        <;> (refine WD.cons rfl ?_; (((refine Op1.spB (C.call rfl rfl rfl rfl ca46) rfl rfl (in_run hK (f.names.getD i noStr) (f.names.take i) _ _ (by assumption) (by rw [List.map_take]; assumption) (by rw [List.length_take]; omega)) ?_ ?_ <;> (rintro _ ⟨_, _⟩ _))) <;> refine ⟨_, rfl, ?_⟩))
        <;> (refine WD.nil ⟨?_, Then.intro rfl ?_⟩; (repeat' (first | exact trivial | refine ⟨?_, ?_⟩ | exact Or.inl rfl)))))
    | (refine WC.region (id := 16) ?_; ((refine WO.cons ?_; (refine Op1.val (V.assign rfl rfl) rfl rfl ?_))
        <;> (refine WO.nil (Then.intro rfl ?_))))
    | (refine WC.region (id := 14) ?_; ((refine WO.cons ?_; (refine Op1.val (V.move rfl rfl) rfl rfl ?_))
        <;> (refine WO.cons ?_; (refine Op1.val (V.add rfl rfl rfl rfl (wrapF_i64 (by first | omega | (simp only [Int.ofNat_eq_natCast]; omega)) (by first | omega | (simp only [Int.ofNat_eq_natCast]; omega)))) rfl rfl ?_))
        <;> (refine WO.cons ?_; (refine Op1.val (V.assign rfl rfl) rfl rfl ?_))
        <;> (refine WO.nil (Then.intro rfl ?_))))
    | (refine WC.region (id := 17) ?_; ((refine WO.cons ?_; (refine Op1.val (V.assign rfl rfl) rfl rfl ?_))
        <;> (refine WO.nil (Then.intro rfl ?_))))
    | refine WC.ret ?_
    | refine To.ret_seq ?_
    | refine To.ret_block ?_
    | refine WC.cond_true rfl ?_
    | refine WC.cond_false rfl ?_
    | refine WC.skip ?_
    | refine WC.block ?_
    | refine WC.exit ?_
    | refine To.exit_seq ?_
    | refine To.exit_block ?_
    | refine To.nrm_block ?_
    | refine To.fn_ret rfl ?_)
  · clear next
    refine ⟨?_, (by (repeat (first | assumption | exact Grow.refl _ | refine Grow.trans ?_ (by assumption)))), by assumption⟩
    rw [he, distM_step (by omega)]; simp_all [resV]
  · refine next _ _ (by omega) ⟨rfl, rfl, trivial⟩ ⟨?_, (by (repeat (first | assumption | exact Grow.refl _ | refine Grow.trans ?_ (by assumption)))), by assumption⟩
    clear next
    rw [he, distM_step (by omega)]; simp_all
  · clear next
    exact ⟨by rw [he, distM_end (by omega)]; rfl, (by (repeat (first | assumption | exact Grow.refl _ | refine Grow.trans ?_ (by assumption)))), by assumption⟩
end Fv
end Go.HL
