/- The walk of FlowValid: the program's search. No statement of the seat stands here. -/
import Derived.Test.YtfmflhdogffjoaaGreatDoorFvM0
namespace Go.HL
open Go Go.Proofs
namespace Fv
set_option maxRecDepth 10000
set_option maxHeartbeats 4000000
variable {K : CallFn} {base : List (Nat × HObj)}
theorem progEnds_run (hK : KN base K) (f : FlowD) (h : Heap) (w : Wf h) (r : f.Ok h) (bn : f.nodes.length ≤ 2000) (hn1 : 1 ≤ f.nodes.length) : Sp P K 24 [.agg f.cells] h (Gives h (.bool (f.nodes.all f.endsM && f.reachM.all id))) := by
  have ln := r.ln
  have hns := r.nodes
  refine Sp.of (m := 2634179185365556365565814909299671) (n := 126) (hK.none 24 rfl rfl _ _) Tryz.func24 rfl rfl mask24 rfl rfl ?_
  repeat' (first
    | refine To.nrm_seq ?_
    | refine WC.seq ?_
    | (refine WC.region (id := 0) ?_; ((refine WO.cons ?_; ((refine Op1.made (M.box rfl rfl rfl) rfl rfl (by assumption) ?_; rintro kb hb ⟨gb, eb, fb, wb, leb, ltb, obb⟩)))
        <;> (refine WO.cons ?_; (refine Op1.val (V.assign rfl rfl) rfl rfl ?_))
        <;> (refine WO.nil (Then.intro rfl ?_))))
    | (refine WC.region (id := 1) ?_; ((refine WO.cons ?_; (refine Op1.val (V.fieldAddr hT rfl rfl rfl rfl rfl rfl) rfl rfl ?_))
        <;> (refine WO.cons ?_; (refine Op1.val (V.load hT rfl rfl rfl rfl (by (repeat (first | assumption | refine Grow.get (by assumption) ?_))) rfl) rfl rfl ?_))
        <;> (refine WO.cons ?_; (refine Op1.val (V.len hT rfl rfl rfl rfl rfl rfl (by first | rfl | assumption)) rfl rfl ?_))
        <;> (refine WO.cons ?_; (refine Op1.val (V.move rfl rfl) rfl rfl ?_))
        <;> (refine WO.nil (Then.intro rfl ?_))))
    | refine WC.block ?_)
  refine WC.sub (L' := [(15, .int .i64 ((0 : Nat) : Int)), (1, .ptr kb 0), (13, f.nv), (14, .int .i64 (f.nodes.length : Int))]) ⟨rfl, rfl, rfl, rfl, trivial⟩ ?_
  refine WC.iter (fun i => (15, .int .i64 (i : Int)) :: _) (fun i h' => (f.nodes.all f.endsM && f.reachM.all id) = ((f.nodes.drop i).all f.endsM && f.reachM.all id) ∧ (∀ j, j < i → f.endsM (f.nodes.getD j noNode) = true) ∧ Grow hb h' ∧ Wf h') f.nodes.length ?_ 0 _ (Nat.zero_le _) ⟨rfl, fun _ e => absurd e (by omega), (by (repeat (first | assumption | exact Grow.refl _ | refine Grow.trans ?_ (by assumption)))), by assumption⟩
  rintro i h1 hi ⟨he, hall, hg, hw⟩ next
  have nl := (f.nodes.getD i noNode).next_len
  repeat' (first
    | refine To.nrm_seq ?_
    | refine WC.seq ?_
    | (refine WC.region (id := 2) ?_; ((refine WO.cons ?_; ((refine Op1.lss rfl rfl rfl rfl rfl rfl ?_ ?_ <;> intro _)))
        <;> (refine WO.nil (Then.intro rfl ?_))))
    | (refine WC.region (id := 3) ?_; ((refine WO.cons ?_; ((refine Op1.index hT rfl rfl rfl rfl rfl rfl rfl (SliceAt.grow (Grow.trans eb hg) hns) (row_i noNode (by omega)) ?_; intro kx ox rx kvx)))
        <;> (refine WO.cons ?_; (refine Op1.val (V.loadRS hT rfl rfl rfl rfl (by assumption) rfl) rfl rfl ?_))
        <;> (refine WO.cons ?_; ((refine Op1.made (M.alloc rfl (by first | exact z40 | exact z43 | exact z101 | exact z35 | exact z37)) rfl rfl (by assumption) ?_; rintro ka ha ⟨ga, ea, fa, wa, lea, lta, oa⟩)))
        <;> (refine WO.cons ?_; ((refine Op1.storeN hT rfl rfl (by first | exact i40 | exact i43 | exact i101 | exact i35 | exact i37 | exact i4 | exact i41) rfl rfl rfl rfl (by (repeat (first | assumption | refine Grow.get (by assumption) ?_))) rfl rfl rfl (by assumption) (by assumption) (by (repeat (first | assumption | exact Grow.refl _ | refine Grow.trans ?_ (by assumption)))) ?_; rintro hs gs es ws os)))
        <;> (refine WO.nil (Then.intro rfl ?_))))
    | (refine WC.region (id := 4) ?_; ((refine WO.cons ?_; (refine Op1.val (V.fieldAddr hT rfl rfl rfl rfl rfl rfl) rfl rfl ?_))
        <;> (refine WO.cons ?_; (refine Op1.val (V.load hT rfl rfl rfl rfl (by (repeat (first | assumption | refine Grow.get (by assumption) ?_))) rfl) rfl rfl ?_))
        <;> (refine WO.cons ?_; ((refine Op1.lss rfl rfl rfl rfl rfl rfl ?_ ?_ <;> intro _)))
        <;> (refine WO.cons ?_; (refine Op1.val (V.move rfl rfl) rfl rfl ?_))
        <;> (refine WO.cons ?_; (first | refine Op1.skip rfl rfl rfl ?_ | refine Op1.val (V.fieldAddr hT rfl rfl rfl rfl rfl rfl) rfl rfl ?_))
        <;> (refine WO.cons ?_; (first | refine Op1.skip rfl rfl rfl ?_ | refine Op1.val (V.load hT rfl rfl rfl rfl (by (repeat (first | assumption | refine Grow.get (by assumption) ?_))) rfl) rfl rfl ?_))
        <;> (refine WO.cons ?_; (first | refine Op1.skip rfl rfl rfl ?_ | (refine Op1.gtr rfl rfl rfl rfl rfl rfl ?_ ?_ <;> intro _)))
        <;> (refine WO.cons ?_; (first | refine Op1.val (V.pick_true rfl rfl rfl) rfl rfl ?_ | refine Op1.val (V.pick_false rfl rfl rfl) rfl rfl ?_))
        <;> (refine WO.nil (Then.intro rfl ?_))))
    | (refine WC.region (id := 5) ?_; ((refine WO.cons ?_; (refine Op1.val (V.assign rfl rfl) rfl rfl ?_))
        <;> (refine WO.nil (Then.intro rfl ?_))))
    | (refine WC.region (id := 6) ?_; ((refine WO.cons ?_; (refine Op1.val (V.fieldAddr hT rfl rfl rfl rfl rfl rfl) rfl rfl ?_))
        <;> (refine WO.cons ?_; (refine Op1.val (V.load hT rfl rfl rfl rfl (by (repeat (first | assumption | refine Grow.get (by assumption) ?_))) rfl) rfl rfl ?_))
        <;> (refine WO.cons ?_; ((refine Op1.neq rfl rfl rfl rfl rfl rfl ?_ ?_ <;> intro _)))
        <;> (refine WO.cons ?_; (refine Op1.val (V.move rfl rfl) rfl rfl ?_))
        <;> (refine WO.cons ?_; (first | refine Op1.skip rfl rfl rfl ?_ | refine Op1.val (V.fieldAddr hT rfl rfl rfl rfl rfl rfl) rfl rfl ?_))
        <;> (refine WO.cons ?_; (first | refine Op1.skip rfl rfl rfl ?_ | refine Op1.val (V.load hT rfl rfl rfl rfl (by (repeat (first | assumption | refine Grow.get (by assumption) ?_))) rfl) rfl rfl ?_))
        <;> (refine WO.cons ?_; (first | refine Op1.skip rfl rfl rfl ?_ | (refine Op1.neq rfl rfl rfl rfl rfl rfl ?_ ?_ <;> intro _)))
        <;> (refine WO.cons ?_; (first | refine Op1.skip rfl rfl rfl ?_ | refine Op1.val (V.move rfl rfl) rfl rfl ?_))
        <;> (refine WO.cons ?_; (first | refine Op1.skip rfl rfl rfl ?_ | refine Op1.val (V.fieldAddr hT rfl rfl rfl rfl rfl rfl) rfl rfl ?_))
        <;> (refine WO.cons ?_; (first | refine Op1.skip rfl rfl rfl ?_ | refine Op1.val (V.load hT rfl rfl rfl rfl (by (repeat (first | assumption | refine Grow.get (by assumption) ?_))) rfl) rfl rfl ?_))
        <;> (refine WO.cons ?_; (first | refine Op1.skip rfl rfl rfl ?_ | (refine Op1.neq rfl rfl rfl rfl rfl rfl ?_ ?_ <;> intro _)))
        <;> (refine WO.cons ?_; (first | refine Op1.skip rfl rfl rfl ?_ | refine Op1.val (V.pick_true rfl rfl rfl) rfl rfl ?_ | refine Op1.val (V.pick_false rfl rfl rfl) rfl rfl ?_))
        <;> (refine WO.cons ?_; (first | refine Op1.val (V.pick_true rfl rfl rfl) rfl rfl ?_ | refine Op1.val (V.pick_false rfl rfl rfl) rfl rfl ?_))
        <;> (refine WO.cons ?_; (refine Op1.val (V.move rfl rfl) rfl rfl ?_))
        <;> (refine WO.cons ?_; (first | refine Op1.skip rfl rfl rfl ?_ | refine Op1.val (V.fieldAddr hT rfl rfl rfl rfl rfl rfl) rfl rfl ?_))
        <;> (refine WO.cons ?_; (first | refine Op1.skip rfl rfl rfl ?_ | refine Op1.val (V.load hT rfl rfl rfl rfl (by (repeat (first | assumption | refine Grow.get (by assumption) ?_))) rfl) rfl rfl ?_))
        <;> (refine WO.cons ?_; (first | refine Op1.skip rfl rfl rfl ?_ | (refine Op1.eql rfl rfl rfl rfl rfl rfl ?_ ?_ <;> intro _)))
        <;> (refine WO.cons ?_; (first | refine Op1.skip rfl rfl rfl ?_ | refine Op1.val (V.move rfl rfl) rfl rfl ?_))
        <;> (refine WO.cons ?_; (first | refine Op1.skip rfl rfl rfl ?_ | refine Op1.val (V.fieldAddr hT rfl rfl rfl rfl rfl rfl) rfl rfl ?_))
        <;> (refine WO.cons ?_; (first | refine Op1.skip rfl rfl rfl ?_ | refine Op1.val (V.load hT rfl rfl rfl rfl (by (repeat (first | assumption | refine Grow.get (by assumption) ?_))) rfl) rfl rfl ?_))
        <;> (refine WO.cons ?_; (first | refine Op1.skip rfl rfl rfl ?_ | (refine Op1.neq rfl rfl rfl rfl rfl rfl ?_ ?_ <;> intro _)))
        <;> (refine WO.cons ?_; (first | refine Op1.skip rfl rfl rfl ?_ | refine Op1.val (V.pick_true rfl rfl rfl) rfl rfl ?_ | refine Op1.val (V.pick_false rfl rfl rfl) rfl rfl ?_))
        <;> (refine WO.cons ?_; (first | refine Op1.val (V.pick_true rfl rfl rfl) rfl rfl ?_ | refine Op1.val (V.pick_false rfl rfl rfl) rfl rfl ?_))
        <;> (refine WO.cons ?_; (refine Op1.val (V.move rfl rfl) rfl rfl ?_))
        <;> (refine WO.cons ?_; (first | refine Op1.skip rfl rfl rfl ?_ | refine Op1.val (V.fieldAddr hT rfl rfl rfl rfl rfl rfl) rfl rfl ?_))
        <;> (refine WO.cons ?_; (first | refine Op1.skip rfl rfl rfl ?_ | refine Op1.val (V.load hT rfl rfl rfl rfl (by (repeat (first | assumption | refine Grow.get (by assumption) ?_))) rfl) rfl rfl ?_))
        <;> (refine WO.cons ?_; (first | refine Op1.skip rfl rfl rfl ?_ | (refine Op1.eql rfl rfl rfl rfl rfl rfl ?_ ?_ <;> intro _)))
        <;> (refine WO.cons ?_; (first | refine Op1.skip rfl rfl rfl ?_ | refine Op1.val (V.move rfl rfl) rfl rfl ?_))
        <;> (refine WO.cons ?_; (first | refine Op1.skip rfl rfl rfl ?_ | refine Op1.val (V.loadS hT rfl rfl rfl rfl (by (repeat (first | assumption | refine Grow.get (by assumption) ?_))) rfl) rfl rfl ?_))
        <;> (refine WO.cons ?_; (first | refine Op1.skip rfl rfl rfl ?_ | refine Op1.val (V.fieldAddr hT rfl rfl rfl rfl rfl rfl) rfl rfl ?_))
        <;> (refine WO.cons ?_; (first | refine Op1.skip rfl rfl rfl ?_ | refine Op1.val (V.load hT rfl rfl rfl rfl (by (repeat (first | assumption | refine Grow.get (by assumption) ?_))) rfl) rfl rfl ?_))
        <;> (refine WO.cons ?_; (first | refine Op1.skip rfl rfl rfl ?_ | (refine Op1.spB (C.call rfl rfl rfl rfl ca41) rfl rfl (register_run hK _ _ _ _ f.regs _ _ _ (by assumption)) ?_ ?_ <;> (rintro _ ⟨_, _⟩ _))))
        <;> (refine WO.cons ?_; (first | refine Op1.skip rfl rfl rfl ?_ | refine Op1.val (V.not_true rfl rfl) rfl rfl ?_ | refine Op1.val (V.not_false rfl rfl) rfl rfl ?_))
        <;> (refine WO.cons ?_; (first | refine Op1.skip rfl rfl rfl ?_ | refine Op1.val (V.pick_true rfl rfl rfl) rfl rfl ?_ | refine Op1.val (V.pick_false rfl rfl rfl) rfl rfl ?_))
        <;> (refine WO.cons ?_; (first | refine Op1.val (V.pick_true rfl rfl rfl) rfl rfl ?_ | refine Op1.val (V.pick_false rfl rfl rfl) rfl rfl ?_))
        <;> (refine WO.nil (Then.intro rfl ?_))))
    | (refine WC.region (id := 7) ?_; ((refine WO.cons ?_; (refine Op1.val (V.assign rfl rfl) rfl rfl ?_))
        <;> (refine WO.nil (Then.intro rfl ?_))))
    | (refine WC.region (id := 8) ?_; ((refine WO.cons ?_; (refine Op1.val (V.loadS hT rfl rfl rfl rfl (by (repeat (first | assumption | refine Grow.get (by assumption) ?_))) rfl) rfl rfl ?_))
        <;> (refine WO.cons ?_; ((refine Op1.sp (C.call rfl rfl rfl rfl ca19) rfl rfl (next_run hK (f.nodes.getD i noNode) _ (by assumption)) ?_; rintro vk hk ⟨hv, nv, gv, wv⟩; have lvk := hv.slice.len; simp only [List.length_map] at lvk)))
        <;> (refine WO.cons ?_; (refine Op1.val (V.len hT rfl rfl rfl rfl rfl rfl (by first | rfl | assumption)) rfl rfl ?_))
        <;> (refine WO.cons ?_; (refine Op1.val (V.move rfl rfl) rfl rfl ?_))
        <;> (refine WO.nil (Then.intro rfl ?_))))
    | (refine WC.region (id := 15) ?_; ((refine WO.cons ?_; (refine Op1.val (V.fieldAddr hT rfl rfl rfl rfl rfl rfl) rfl rfl ?_))
        <;> (refine WO.cons ?_; (refine Op1.val (V.load hT rfl rfl rfl rfl (by (repeat (first | assumption | refine Grow.get (by assumption) ?_))) rfl) rfl rfl ?_))
        <;> (refine WO.cons ?_; (refine Op1.val (V.len hT rfl rfl rfl rfl rfl rfl (by first | rfl | assumption)) rfl rfl ?_))
        <;> (refine WO.cons ?_; ((refine Op1.makeB hT rfl rfl rfl rfl b4 (by omega) (by omega) z4 rfl rfl (by assumption) ?_; rintro ks hsn ⟨gq, eq, fq, wq, leq, ltq, oq⟩)))
        <;> (refine WO.cons ?_; (refine Op1.val (V.assign rfl rfl) rfl rfl ?_))
        <;> (refine WO.nil (Then.intro rfl ?_))))
    | (refine WC.region (id := 16) ?_; ((refine WO.cons ?_; (refine Op1.val (V.move rfl rfl) rfl rfl ?_))
        <;> (refine WO.cons ?_; (refine Op1.val (V.indexAddr (j := 0) hT rfl rfl rfl rfl rfl (by omega)) rfl rfl ?_))
        <;> (refine WO.cons ?_; ((refine Op1.storeB (j := 0) (s := List.replicate f.nodes.length false) hT rfl rfl i4 rfl rfl gq (by rw [List.length_replicate]; omega) rfl rfl (by assumption) (Grow.fresh hg fq) (Grow.trans hg eq) ?_; rintro hz gz ez wz oz nz)))
        <;> (refine WO.nil (Then.intro rfl ?_))))
    | (refine WC.region (id := 17) ?_; ((refine WO.cons ?_; ((refine Op1.made (M.buildSlice hT rfl rfl rfl rfl (by first | exact z3 | exact z9 | exact z41) rfl rfl rfl) rfl rfl (by assumption) ?_; rintro kc hc ⟨gc, ec, fc, wc, lec, ltc, oc⟩)))
        <;> (refine WO.cons ?_; (refine Op1.val (V.assign rfl rfl) rfl rfl ?_))
        <;> (refine WO.nil (Then.intro rfl ?_))))
    | (refine WC.region (id := 18) ?_; ((refine WO.cons ?_; (refine Op1.val (V.assign rfl rfl) rfl rfl ?_))
        <;> (refine WO.nil (Then.intro rfl ?_))))
    | refine WC.ret ?_
    | refine To.ret_seq ?_
    | refine To.ret_block ?_
    | refine WC.cond_true rfl ?_
    | refine WC.cond_false rfl ?_
    | refine WC.skip ?_
    | refine WC.block ?_
    | refine WC.exit ?_
    | refine To.exit_seq ?_
    | refine To.exit_block ?_
    | refine To.fn_ret rfl ?_)
  all_goals try
    clear next
    refine ⟨?_, (by (repeat (first | assumption | exact Grow.refl _ | refine Grow.trans ?_ (by assumption)))), by assumption⟩
    have hfn : f.finM (f.nodes.getD i noNode) = false := by (unfold FlowD.finM; (repeat' split) <;> first | rfl | (simp_all [regM]; done) | (simp_all [regM]; omega) | (simp_all [regM]; intros; omega))
    rw [he, all_step _ (by omega) noNode, show f.endsM (f.nodes.getD i noNode) = false by unfold FlowD.endsM; rw [hfn, Bool.and_false]]
    rfl
  all_goals try (exfalso; omega)
  rotate_right
  · clear next
    have hnd : f.nodes.all f.endsM = true := by
      rw [List.all_eq_true]
      intro x hx
      obtain ⟨j, hj, rfl⟩ := List.getElem_of_mem hx
      have := hall j (by omega)
      simpa [List.getD, List.getElem?_eq_getElem hj] using this
    have hlk : f.linked := by
      intro x hx m hm
      have := List.all_eq_true.1 hnd x hx
      unfold FlowD.endsM at this
      simp only [Bool.and_eq_true, List.all_eq_true] at this
      have := this.1 m hm
      unfold FlowD.inside at this
      simp only [Bool.and_eq_true, decide_eq_true_eq] at this
      exact this
    rw [List.drop_of_length_le (by omega)] at he
    have h0 := seen0_count f hn1
    have hc := count_both f.seen0
    have hz2 : (List.replicate f.nodes.length false).set 0 true = f.seen0 := rfl
    rw [hz2] at gz
    refine WC.sub (L' := [(9, .int .i64 ((0 : Nat) : Int)), (8, .slice kc 0 1 (some 1)), (7, .slice ks 0 f.nodes.length (some f.nodes.length)), (1, .ptr kb 0)]) ⟨rfl, rfl, rfl, rfl, trivial⟩ ?_
    refine WC.fall (ι := Nat × Nat × List Bool × List Int × HVal) (fun x => [(9, .int .i64 (x.2.1 : Int)), (8, x.2.2.2.2), (7, .slice ks 0 f.nodes.length (some f.nodes.length)), (1, .ptr kb 0)])
      (fun x h' => x.2.2.1.length = f.nodes.length ∧ x.2.2.2.1.length = x.2.2.1.count true ∧ (∀ m ∈ x.2.2.2.1, 0 ≤ m ∧ m < (f.nodes.length : Int)) ∧ x.2.1 ≤ x.2.2.2.1.length ∧ bfsM f x.1 x.2.2.1 (x.2.2.2.1.drop x.2.1) = f.reachM ∧
        2 * x.2.2.1.count false + (x.2.2.2.1.length - x.2.1) ≤ x.1 ∧ ∃ d, Srch hb ks x.2.2.1 x.2.2.2.1 x.2.2.2.2 d h') (fun x => x.1) ?_ (2 * f.nodes.length, 0, f.seen0, [0], .slice kc 0 1 (some 1)) _
      ⟨h0.2, h0.1.symm, by simp; omega, by simp, rfl, by simp only [List.length_singleton]; omega, none, ?_⟩
    rotate_left
    · refine ⟨.full gc rfl rfl, fun e => ?_, fun _ e => (by cases e), ec.get gz, Grow.fresh hg fq, ez.trans ec, wc⟩
      cases e; rw [gz] at fc; cases fc
    clear hall
    rintro ⟨fuel, i2, s, t, vt⟩ h2 ⟨hs1, ht1, htr, hi2, hbf, hmu, d, sr⟩ next
    simp only at hs1 ht1 htr hi2 hbf hmu sr next ⊢
    have lvt := sr.app.len
    have hcb := count_both s
    by_cases hlt : i2 < t.length
    · obtain ⟨j, hj⟩ : ∃ j : Nat, t.getD i2 0 = (j : Int) := ⟨(t.getD i2 0).toNat, by have := htr _ (getD_mem (0 : Int) hlt); omega⟩
      have hjn : j < f.nodes.length := by have := htr _ (getD_mem (0 : Int) hlt); omega
      obtain ⟨fu, rfl⟩ : ∃ fu, fuel = fu + 1 := ⟨fuel - 1, by omega⟩
      rw [drop_cons hlt 0, hj] at hbf
      have hbf : bfsM f fu (visitM (f.nodes.getD j noNode).next s (t.drop (i2 + 1))).1 (visitM (f.nodes.getD j noNode).next s (t.drop (i2 + 1))).2 = f.reachM := hbf
      have hlj := hlk _ (getD_mem noNode hjn)
      have nlj := (f.nodes.getD j noNode).next_len
      generalize hnd2 : f.nodes.getD j noNode = nd at hbf hlj nlj
      have hw2 := sr.wf
      have hg2 : Grow hb h2 := sr.grow
      repeat' (first
        | refine To.nrm_seq ?_
        | refine WC.seq ?_
        | (refine WC.region (id := 19) ?_; ((refine WO.cons ?_; (refine Op1.val (V.move rfl rfl) rfl rfl ?_))
            <;> (refine WO.cons ?_; (refine Op1.val (V.move rfl rfl) rfl rfl ?_))
            <;> (refine WO.cons ?_; (refine Op1.val (V.len hT rfl rfl rfl rfl rfl rfl (by first | rfl | assumption)) rfl rfl ?_))
            <;> (refine WO.cons ?_; ((refine Op1.lss rfl rfl rfl rfl rfl rfl ?_ ?_ <;> intro _)))
            <;> (refine WO.nil (Then.intro rfl ?_))))
        | (refine WC.draw (id := 21) [0, 1, 2, 3, 4, 5, 6, 7, 10, 8, 9] #[0, 1, 0, 0, 12, 28, 63, 127, 255, 511, 0] (by kernel_rfl) (by kernel_rfl) (by kernel_rfl) ?_; ((refine WD.cons rfl ?_; ((refine Op1.val (V.fieldAddr hT rfl rfl rfl rfl rfl rfl) rfl rfl ?_) <;> refine ⟨_, rfl, ?_⟩))
            <;> (refine WD.cons rfl ?_; ((refine Op1.val (V.load hT rfl rfl rfl rfl (by (repeat (first | assumption | refine Grow.get (by assumption) ?_))) rfl) rfl rfl ?_) <;> refine ⟨_, rfl, ?_⟩))
            <;> (refine WD.cons rfl ?_; ((refine Op1.val (V.move rfl rfl) rfl rfl ?_) <;> refine ⟨_, rfl, ?_⟩))
            <;> (refine WD.cons rfl ?_; ((refine Op1.val (V.move rfl rfl) rfl rfl ?_) <;> refine ⟨_, rfl, ?_⟩))
            <;> (refine WD.cons rfl ?_; (((refine Op1.index hT rfl rfl rfl rfl rfl rfl rfl sr.numbers (row_is (0 : Int) hlt hj) ?_; intro kx ox rx kvx)) <;> refine ⟨_, rfl, ?_⟩))
            <;> (refine WD.cons rfl ?_; ((refine Op1.val (V.loadR0 hT rfl rfl rfl rfl (by assumption) rfl) rfl rfl ?_) <;> refine ⟨_, rfl, ?_⟩))
            <;> (refine WD.cons rfl ?_; (((refine Op1.index hT rfl rfl rfl rfl rfl rfl rfl (SliceAt.grow (Grow.trans eb sr.grow) hns) (row_is noNode hjn hnd2) ?_; intro kx ox rx kvx)) <;> refine ⟨_, rfl, ?_⟩))
            <;> (refine WD.cons rfl ?_; ((refine Op1.val (V.loadRS hT rfl rfl rfl rfl (by assumption) rfl) rfl rfl ?_) <;> refine ⟨_, rfl, ?_⟩))
            <;> (refine WD.cons rfl ?_; ((refine Op1.val (V.move rfl rfl) rfl rfl ?_) <;> refine ⟨_, rfl, ?_⟩))
            <;> (refine WD.cons rfl ?_; (((refine Op1.sp (C.call rfl rfl rfl rfl ca19) rfl rfl (next_run hK nd _ (by assumption)) ?_; rintro vk hk ⟨hv, nv, gv, wv⟩; have lvk := hv.slice.len; simp only [List.length_map] at lvk)) <;> refine ⟨_, rfl, ?_⟩))
            <;> (refine WD.cons rfl ?_; ((refine Op1.val (V.len hT rfl rfl rfl rfl rfl rfl (by first | rfl | assumption)) rfl rfl ?_) <;> refine ⟨_, rfl, ?_⟩))
            <;> (refine WD.nil ⟨?_, Then.intro rfl ?_⟩; (repeat' (first | exact trivial | refine ⟨?_, ?_⟩ | exact Or.inl rfl)))))
        | (refine WC.region (id := 28) ?_; ((refine WO.cons ?_; (refine Op1.val (V.move rfl rfl) rfl rfl ?_))
            <;> (refine WO.cons ?_; (refine Op1.val (V.len hT rfl rfl rfl rfl rfl rfl (by first | rfl | assumption)) rfl rfl ?_))
            <;> (refine WO.cons ?_; (refine Op1.val (V.fieldAddr hT rfl rfl rfl rfl rfl rfl) rfl rfl ?_))
            <;> (refine WO.cons ?_; (refine Op1.val (V.load hT rfl rfl rfl rfl (by (repeat (first | assumption | refine Grow.get (by assumption) ?_))) rfl) rfl rfl ?_))
            <;> (refine WO.cons ?_; (refine Op1.val (V.len hT rfl rfl rfl rfl rfl rfl (by first | rfl | assumption)) rfl rfl ?_))
            <;> (refine WO.cons ?_; ((refine Op1.eql rfl rfl rfl rfl rfl rfl ?_ ?_ <;> intro _)))
            <;> (refine WO.cons ?_; (refine Op1.val (V.assign rfl rfl) rfl rfl ?_))
            <;> (refine WO.nil (Then.intro rfl ?_))))
        | refine WC.ret ?_
        | refine WC.cond_true rfl ?_
        | refine WC.cond_false rfl ?_
        | refine WC.skip ?_
        | refine WC.block ?_
        | refine WC.exit ?_
        | refine To.exit_seq ?_
        | refine To.exit_block ?_
        | refine To.fn_ret rfl ?_)
      all_goals try (exfalso; omega)
      have bs0 := Beside.new sr (by (repeat (first | assumption | exact Grow.refl _ | refine Grow.trans ?_ (by assumption)))) hv nv
      refine WC.sub (L' := [(103, .int .i64 ((0 : Nat) : Int)), (101, vk), (102, .int .i64 (nd.next.length : Int)), (8, vt), (7, .slice ks 0 f.nodes.length (some f.nodes.length)), (9, .int .i64 (i2 : Int)), (1, .ptr kb 0)]) ⟨rfl, rfl, rfl, rfl, rfl, rfl, rfl, trivial⟩ ?_
      refine WC.fall (ι := Nat × List Bool × List Int × HVal) (fun x => [(103, .int .i64 (x.1 : Int)), (101, vk), (102, .int .i64 (nd.next.length : Int)), (8, x.2.2.2), (7, .slice ks 0 f.nodes.length (some f.nodes.length)), (9, .int .i64 (i2 : Int)), (1, .ptr kb 0)])
        (fun x h' => x.1 ≤ nd.next.length ∧ x.2.1.length = f.nodes.length ∧ x.2.2.1.length = x.2.1.count true ∧ (∀ m ∈ x.2.2.1, 0 ≤ m ∧ m < (f.nodes.length : Int)) ∧ i2 + 1 ≤ x.2.2.1.length ∧ bfsM f fu (visitM (nd.next.drop x.1) x.2.1 (x.2.2.1.drop (i2 + 1))).1 (visitM (nd.next.drop x.1) x.2.1 (x.2.2.1.drop (i2 + 1))).2 = f.reachM ∧
          2 * x.2.1.count false + (x.2.2.1.length - (i2 + 1)) ≤ fu ∧ Beside ks x.2.2.2 vk (nd.next.map intCells) h' ∧ ∃ d, Srch hb ks x.2.1 x.2.2.1 x.2.2.2 d h') (fun x => nd.next.length - x.1) ?_ (0, s, t, vt) _
        ⟨Nat.zero_le _, hs1, ht1, htr, by simp only; omega, hbf, by simp only; omega, bs0, d, sr.more gv wv⟩
      rintro ⟨k, s, t, vt⟩ h3 ⟨hkl, hs1, ht1, htr, hi2, hbf, hmu, bsd, d, sr⟩ next2
      simp only at hkl hs1 ht1 htr hi2 hbf hmu bsd sr next2 ⊢
      have lvt := sr.app.len
      have hcb := count_both s
      have hw3 := sr.wf
      by_cases hkt : k < nd.next.length
      · obtain ⟨j2, hj2⟩ : ∃ j2 : Nat, nd.next.getD k 0 = (j2 : Int) := ⟨(nd.next.getD k 0).toNat, by have := hlj _ (getD_mem (0 : Int) hkt); omega⟩
        have hjn2 : j2 < f.nodes.length := by have := hlj _ (getD_mem (0 : Int) hkt); omega
        rw [visitM_step hkt hj2] at hbf
        repeat' (first
          | refine To.nrm_seq ?_
          | refine WC.seq ?_
          | (refine WC.region (id := 22) ?_; ((refine WO.cons ?_; ((refine Op1.lss rfl rfl rfl rfl rfl rfl ?_ ?_ <;> intro _)))
              <;> (refine WO.nil (Then.intro rfl ?_))))
          | (refine WC.region (id := 23) ?_; ((refine WO.cons ?_; ((refine Op1.index hT rfl rfl rfl rfl rfl rfl rfl bsd.held.slice (row_is (0 : Int) hkt hj2) ?_; intro kx ox rx kvx)))
              <;> (refine WO.cons ?_; (refine Op1.val (V.loadR0 hT rfl rfl rfl rfl (by assumption) rfl) rfl rfl ?_))
              <;> (refine WO.cons ?_; (refine Op1.val (V.assign rfl rfl) rfl rfl ?_))
              <;> (refine WO.nil (Then.intro rfl ?_))))
          | (refine WC.region (id := 24) ?_; ((refine WO.cons ?_; (refine Op1.val (V.move rfl rfl) rfl rfl ?_))
              <;> (refine WO.cons ?_; (refine Op1.val (V.move rfl rfl) rfl rfl ?_))
              <;> (refine WO.cons ?_; (refine Op1.val (V.indexAddr (j := j2) hT rfl rfl rfl rfl rfl hjn2) rfl rfl ?_))
              <;> (refine WO.cons ?_; ((refine Op1.loadBo (j := j2) hT rfl rfl rfl sr.seen (by omega) rfl rfl ?_ ?_ <;> intro hsj)))
              <;> (refine WO.cons ?_; (first | refine Op1.val (V.not_true rfl rfl) rfl rfl ?_ | refine Op1.val (V.not_false rfl rfl) rfl rfl ?_))
              <;> (refine WO.nil (Then.intro rfl ?_))))
          | (refine WC.region (id := 25) ?_; ((refine WO.cons ?_; (refine Op1.val (V.move rfl rfl) rfl rfl ?_))
              <;> (refine WO.cons ?_; (refine Op1.val (V.move rfl rfl) rfl rfl ?_))
              <;> (refine WO.cons ?_; (refine Op1.val (V.indexAddr (j := j2) hT rfl rfl rfl rfl rfl hjn2) rfl rfl ?_))
              <;> (refine WO.cons ?_; ((refine Op1.storeB (j := j2) (s := s) hT rfl rfl i4 rfl rfl sr.seen (by omega) rfl rfl (by assumption) sr.new sr.grow ?_; rintro hz gz ez wz oz nz)))
              <;> (refine WO.nil (Then.intro rfl ?_))))
          | (refine WC.region (id := 26) ?_; ((refine WO.cons ?_; (refine Op1.val (V.move rfl rfl) rfl rfl ?_))
              <;> (refine WO.cons ?_; (refine Op1.val (V.move rfl rfl) rfl rfl ?_))
              <;> (refine WO.cons ?_; ((refine Op1.made (M.buildSlice hT rfl rfl rfl rfl (by first | exact z3 | exact z9 | exact z41) rfl rfl rfl) rfl rfl (by assumption) ?_; rintro kc hc ⟨gc, ec, fc, wc, lec, ltc, oc⟩)))
              <;> (refine WO.cons ?_; ((refine Op1.append hT rfl rfl rfl rfl rfl rfl rfl rfl z3 rfl rfl rfl b3 rfl rfl rfl (((sr.mark gz ez wz oz).app.mono ec)) (row_all gc) rfl rfl (by first | omega | (skip)) (by assumption) rfl rfl ?_; rintro kp hp ⟨ap, gp, fp, lep, op, wpp, npp⟩)))
              <;> (refine WO.cons ?_; (refine Op1.val (V.assign rfl rfl) rfl rfl ?_))
              <;> (refine WO.nil (Then.intro rfl ?_))))
          | (refine WC.region (id := 27) ?_; ((refine WO.cons ?_; (refine Op1.val (V.add rfl rfl rfl rfl (wrapF_i64 (by first | omega | (simp only [Int.ofNat_eq_natCast]; omega)) (by first | omega | (simp only [Int.ofNat_eq_natCast]; omega)))) rfl rfl ?_))
              <;> (refine WO.cons ?_; (refine Op1.val (V.move rfl rfl) rfl rfl ?_))
              <;> (refine WO.nil (Then.intro rfl ?_))))
          | (refine WC.region (id := 20) ?_; ((refine WO.cons ?_; (refine Op1.val (V.move rfl rfl) rfl rfl ?_))
              <;> (refine WO.cons ?_; (refine Op1.val (V.add rfl rfl rfl rfl (wrapF_i64 (by first | omega | (simp only [Int.ofNat_eq_natCast]; omega)) (by first | omega | (simp only [Int.ofNat_eq_natCast]; omega)))) rfl rfl ?_))
              <;> (refine WO.cons ?_; (refine Op1.val (V.assign rfl rfl) rfl rfl ?_))
              <;> (refine WO.nil (Then.intro rfl ?_))))
          | refine WC.cond_true rfl ?_
          | refine WC.cond_false rfl ?_
          | refine WC.skip ?_
          | refine WC.block ?_
          | refine WC.exit ?_
          | refine To.exit_seq ?_
          | refine To.exit_block ?_
          | refine To.nrm_block ?_)
        all_goals try (exfalso; omega)
        · rw [if_pos hsj] at hbf
          exact next2 (k + 1, s, t, vt) _ _ (by simp only; omega) ⟨rfl, rfl, rfl, rfl, rfl, rfl, rfl, trivial⟩ ⟨by simp only; omega, hs1, ht1, htr, hi2, hbf, hmu, bsd, d, sr⟩
        · rw [if_neg (by rw [hsj]; decide)] at hbf
          have hcs := count_set (s := s) (j := j2) (by omega) hsj
          have sr2 := (sr.mark gz ez wz oz).more ec wc
          refine next2 (k + 1, s.set j2 true, t ++ [(j2 : Int)], _) _ _ (by simp only; omega) ⟨rfl, rfl, rfl, rfl, rfl, rfl, rfl, trivial⟩
            ⟨by simp only; omega, by simpa using hs1, by simp only [List.length_append, List.length_singleton]; omega, fun m hm => ?_, by simp only [List.length_append, List.length_singleton]; omega, ?_, by simp only [List.length_append, List.length_singleton]; omega,
              ((bsd.mark oz).more ec).push sr2.app (Appended.mk ap gp fp lep op wpp npp), some kp, sr2.push (Appended.mk ap gp fp lep op wpp npp)⟩
          · rcases List.mem_append.1 hm with hm | hm
            · exact htr m hm
            · rw [List.mem_singleton.1 hm]; omega
          · simp only
            rw [List.drop_append_of_le_length (by omega)]
            exact hbf
      · have hke : k = nd.next.length := by omega
        subst hke
        rw [List.drop_of_length_le (Nat.le_refl _)] at hbf
        clear next2
        repeat' (first
          | refine To.nrm_seq ?_
          | refine WC.seq ?_
          | (refine WC.region (id := 22) ?_; ((refine WO.cons ?_; ((refine Op1.lss rfl rfl rfl rfl rfl rfl ?_ ?_ <;> intro _)))
              <;> (refine WO.nil (Then.intro rfl ?_))))
          | (refine WC.region (id := 20) ?_; ((refine WO.cons ?_; (refine Op1.val (V.move rfl rfl) rfl rfl ?_))
              <;> (refine WO.cons ?_; (refine Op1.val (V.add rfl rfl rfl rfl (wrapF_i64 (by first | omega | (simp only [Int.ofNat_eq_natCast]; omega)) (by first | omega | (simp only [Int.ofNat_eq_natCast]; omega)))) rfl rfl ?_))
              <;> (refine WO.cons ?_; (refine Op1.val (V.assign rfl rfl) rfl rfl ?_))
              <;> (refine WO.nil (Then.intro rfl ?_))))
          | refine WC.cond_true rfl ?_
          | refine WC.cond_false rfl ?_
          | refine WC.skip ?_
          | refine WC.block ?_
          | refine WC.exit ?_
          | refine To.exit_seq ?_
          | refine To.exit_block ?_
          | refine To.nrm_block ?_)
        all_goals try (exfalso; omega)
        exact next (fu, i2 + 1, s, t, vt) _ _ (by simp only; omega) ⟨rfl, rfl, rfl, rfl, trivial⟩ ⟨hs1, ht1, htr, by simp only; omega, hbf, by simp only; omega, d, sr⟩
    · clear next
      rw [List.drop_of_length_le (by omega), bfsM_nil] at hbf
      have hw2 := sr.wf
      have e2 := all_true s
      have hg2 : Grow hb h2 := sr.grow
      repeat' (first
        | refine To.nrm_seq ?_
        | refine WC.seq ?_
        | (refine WC.region (id := 19) ?_; ((refine WO.cons ?_; (refine Op1.val (V.move rfl rfl) rfl rfl ?_))
            <;> (refine WO.cons ?_; (refine Op1.val (V.move rfl rfl) rfl rfl ?_))
            <;> (refine WO.cons ?_; (refine Op1.val (V.len hT rfl rfl rfl rfl rfl rfl (by first | rfl | assumption)) rfl rfl ?_))
            <;> (refine WO.cons ?_; ((refine Op1.lss rfl rfl rfl rfl rfl rfl ?_ ?_ <;> intro _)))
            <;> (refine WO.nil (Then.intro rfl ?_))))
        | (refine WC.region (id := 28) ?_; ((refine WO.cons ?_; (refine Op1.val (V.move rfl rfl) rfl rfl ?_))
            <;> (refine WO.cons ?_; (refine Op1.val (V.len hT rfl rfl rfl rfl rfl rfl (by first | rfl | assumption)) rfl rfl ?_))
            <;> (refine WO.cons ?_; (refine Op1.val (V.fieldAddr hT rfl rfl rfl rfl rfl rfl) rfl rfl ?_))
            <;> (refine WO.cons ?_; (refine Op1.val (V.load hT rfl rfl rfl rfl (by (repeat (first | assumption | refine Grow.get (by assumption) ?_))) rfl) rfl rfl ?_))
            <;> (refine WO.cons ?_; (refine Op1.val (V.len hT rfl rfl rfl rfl rfl rfl (by first | rfl | assumption)) rfl rfl ?_))
            <;> (refine WO.cons ?_; ((refine Op1.eql rfl rfl rfl rfl rfl rfl ?_ ?_ <;> intro _)))
            <;> (refine WO.cons ?_; (refine Op1.val (V.assign rfl rfl) rfl rfl ?_))
            <;> (refine WO.nil (Then.intro rfl ?_))))
        | refine WC.ret ?_
        | refine WC.cond_true rfl ?_
        | refine WC.cond_false rfl ?_
        | refine WC.skip ?_
        | refine WC.block ?_
        | refine WC.exit ?_
        | refine To.exit_seq ?_
        | refine To.exit_block ?_
        | refine To.fn_ret rfl ?_)
      all_goals try (exfalso; omega)
      all_goals
        refine ⟨?_, Grow.trans eb sr.grow, sr.wf⟩
        rw [he, ← hbf, e2]
        first | (rw [decide_eq_true (by omega)]; rfl) | (rw [decide_eq_false (by omega)]; rfl)
  all_goals
    have hfn : f.finM (f.nodes.getD i noNode) = true := by (unfold FlowD.finM; (repeat' split) <;> first | rfl | (simp_all [regM]; done) | (simp_all [regM]; omega) | (simp_all [regM]; intros; omega) | (exfalso; omega))
    refine WC.sub (L' := [(65, .int .i64 ((0 : Nat) : Int)), (63, vk), (64, .int .i64 ((f.nodes.getD i noNode).next.length : Int)), (15, .int .i64 (i : Int)), (1, .ptr kb 0), (13, f.nv), (14, .int .i64 (f.nodes.length : Int))]) ⟨rfl, rfl, rfl, rfl, rfl, rfl, rfl, trivial⟩ ?_
    refine WC.iter (fun k => (65, .int .i64 (k : Int)) :: _) (fun k h' => f.endsM (f.nodes.getD i noNode) = ((f.nodes.getD i noNode).next.drop k).all f.inside ∧ Grow hk h' ∧ Wf h') (f.nodes.getD i noNode).next.length ?_ 0 _ (Nat.zero_le _) ⟨by unfold FlowD.endsM; rw [hfn, Bool.and_true]; rfl, Grow.refl _, by assumption⟩
    have hgk : Grow hb hk := (by (repeat (first | assumption | exact Grow.refl _ | refine Grow.trans ?_ (by assumption))))
    rintro k h3 hk3 ⟨he3, hg3, hw3⟩ next2
    repeat' (first
      | refine To.nrm_seq ?_
      | refine WC.seq ?_
      | (refine WC.region (id := 9) ?_; ((refine WO.cons ?_; ((refine Op1.lss rfl rfl rfl rfl rfl rfl ?_ ?_ <;> intro _)))
          <;> (refine WO.nil (Then.intro rfl ?_))))
      | (refine WC.region (id := 10) ?_; ((refine WO.cons ?_; ((refine Op1.index hT rfl rfl rfl rfl rfl rfl rfl (SliceAt.grow hg3 hv.slice) (row_i (0 : Int) (by omega)) ?_; intro kx ox rx kvx)))
          <;> (refine WO.cons ?_; (refine Op1.val (V.loadR0 hT rfl rfl rfl rfl (by assumption) rfl) rfl rfl ?_))
          <;> (refine WO.cons ?_; (refine Op1.val (V.assign rfl rfl) rfl rfl ?_))
          <;> (refine WO.nil (Then.intro rfl ?_))))
      | (refine WC.region (id := 11) ?_; ((refine WO.cons ?_; (refine Op1.val (V.move rfl rfl) rfl rfl ?_))
          <;> (refine WO.cons ?_; ((refine Op1.lss rfl rfl rfl rfl rfl rfl ?_ ?_ <;> intro _)))
          <;> (refine WO.cons ?_; (refine Op1.val (V.move rfl rfl) rfl rfl ?_))
          <;> (refine WO.cons ?_; (first | refine Op1.skip rfl rfl rfl ?_ | refine Op1.val (V.move rfl rfl) rfl rfl ?_))
          <;> (refine WO.cons ?_; (first | refine Op1.skip rfl rfl rfl ?_ | refine Op1.val (V.fieldAddr hT rfl rfl rfl rfl rfl rfl) rfl rfl ?_))
          <;> (refine WO.cons ?_; (first | refine Op1.skip rfl rfl rfl ?_ | refine Op1.val (V.load hT rfl rfl rfl rfl (by (repeat (first | assumption | refine Grow.get (by assumption) ?_))) rfl) rfl rfl ?_))
          <;> (refine WO.cons ?_; (first | refine Op1.skip rfl rfl rfl ?_ | refine Op1.val (V.len hT rfl rfl rfl rfl rfl rfl (by first | rfl | assumption)) rfl rfl ?_))
          <;> (refine WO.cons ?_; (first | refine Op1.skip rfl rfl rfl ?_ | (refine Op1.geq rfl rfl rfl rfl rfl rfl ?_ ?_ <;> intro _)))
          <;> (refine WO.cons ?_; (first | refine Op1.val (V.pick_true rfl rfl rfl) rfl rfl ?_ | refine Op1.val (V.pick_false rfl rfl rfl) rfl rfl ?_))
          <;> (refine WO.nil (Then.intro rfl ?_))))
      | (refine WC.region (id := 12) ?_; ((refine WO.cons ?_; (refine Op1.val (V.assign rfl rfl) rfl rfl ?_))
          <;> (refine WO.nil (Then.intro rfl ?_))))
      | (refine WC.region (id := 13) ?_; ((refine WO.cons ?_; (refine Op1.val (V.add rfl rfl rfl rfl (wrapF_i64 (by first | omega | (simp only [Int.ofNat_eq_natCast]; omega)) (by first | omega | (simp only [Int.ofNat_eq_natCast]; omega)))) rfl rfl ?_))
          <;> (refine WO.cons ?_; (refine Op1.val (V.move rfl rfl) rfl rfl ?_))
          <;> (refine WO.nil (Then.intro rfl ?_))))
      | (refine WC.region (id := 14) ?_; ((refine WO.cons ?_; (refine Op1.val (V.add rfl rfl rfl rfl (wrapF_i64 (by first | omega | (simp only [Int.ofNat_eq_natCast]; omega)) (by first | omega | (simp only [Int.ofNat_eq_natCast]; omega)))) rfl rfl ?_))
          <;> (refine WO.cons ?_; (refine Op1.val (V.move rfl rfl) rfl rfl ?_))
          <;> (refine WO.nil (Then.intro rfl ?_))))
      | refine WC.ret ?_
      | refine To.ret_seq ?_
      | refine To.ret_block ?_
      | refine WC.cond_true rfl ?_
      | refine WC.cond_false rfl ?_
      | refine WC.skip ?_
      | refine WC.block ?_
      | refine WC.exit ?_
      | refine To.exit_seq ?_
      | refine To.exit_block ?_
      | refine To.nrm_block ?_
      | refine To.fn_ret rfl ?_)
  all_goals first
    | (refine next2 _ _ (by omega) ⟨rfl, rfl, rfl, rfl, rfl, rfl, rfl, trivial⟩ ⟨?_, (by (repeat (first | assumption | exact Grow.refl _ | refine Grow.trans ?_ (by assumption)))), by assumption⟩
       rw [he3, all_step _ (by omega) (0 : Int), show f.inside _ = true by unfold FlowD.inside; rw [decide_eq_true (by omega), decide_eq_true (by omega)]; rfl]
       rfl)
    | (clear next next2
       refine ⟨?_, (by (repeat (first | assumption | exact Grow.refl _ | refine Grow.trans ?_ (by assumption)))), by assumption⟩
       rw [he, all_step _ (by omega) noNode, he3, all_step _ (by omega) (0 : Int), show f.inside _ = false by unfold FlowD.inside; first | (rw [decide_eq_false (p := 1 ≤ _) (by omega)]; rfl) | (rw [decide_eq_false (p := _ < (f.nodes.length : Int)) (by omega), Bool.and_false])]
       rfl)
    | (rw [List.drop_of_length_le (by omega)] at he3
       clear next2
       refine next _ _ (by omega) ⟨rfl, rfl, rfl, rfl, trivial⟩ ⟨?_, ?_, (by (repeat (first | assumption | exact Grow.refl _ | refine Grow.trans ?_ (by assumption)))), by assumption⟩
       · rw [he, all_step _ (by omega) noNode, he3]; rfl
       · intro j hj
         by_cases hji : j = i
         · subst hji; exact he3
         · exact hall j (by omega))
end Fv
end Go.HL
