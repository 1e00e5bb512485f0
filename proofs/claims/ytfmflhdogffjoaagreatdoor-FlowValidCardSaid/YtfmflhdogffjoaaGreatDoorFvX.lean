/- The walk of FlowValid: the statement's function returns true. No statement of the seat stands here. -/
import Derived.Test.YtfmflhdogffjoaaGreatDoorFvW
namespace Go.HL
open Go Go.Proofs
namespace Fv
set_option maxRecDepth 10000
set_option maxHeartbeats 4000000
variable {K : CallFn} {base : List (Nat × HObj)}
theorem runM_bound {step : Nat → List (List Int) → List (List Int)} {c : Nat} (hs : ∀ k T b, (∀ m, (T.getD m []).length ≤ b) → ∀ m, ((step k T).getD m []).length ≤ b + c) : ∀ (d k : Nat) (T : List (List Int)) (b : Nat), (∀ m, (T.getD m []).length ≤ b) → ∀ m, ((runM step k d T).getD m []).length ≤ b + d * c
  | 0, _, T, b, h, m => by simpa [runM] using h m
  | d + 1, k, T, b, h, m => by
    have := runM_bound hs d (k + 1) (step k T) (b + c) (hs k T b h) m
    rw [runM, Nat.add_mul]; omega
theorem addM_bound {i j b : Nat} {T : List (List Int)} (hb : ∀ m, (T.getD m []).length ≤ b) : ∀ m, ((addM i T j).getD m []).length ≤ b + 1 := by
  by_cases hj : j < T.length
  · exact bound_add hj hb
  · intro m
    unfold addM
    rw [List.set_eq_of_length_le (by omega)]
    have := hb m; omega
theorem predsR_bound (f : FlowD) (m : Nat) : (f.predsR.getD m []).length ≤ 2 * f.nodes.length := by
  have h1 : ∀ i T b, (∀ m, (T.getD m []).length ≤ b) → ∀ m, ((nodeR f i T).getD m []).length ≤ b + 2 := by
    intro i T b hb m
    have hl := (f.nodes.getD i noNode).next_len
    have := runM_bound (step := stepR i (f.nodes.getD i noNode).next) (c := 1) (fun k T b hb m => by
      unfold stepR
      split
      · exact addM_bound hb m
      · have := hb m; omega) (f.nodes.getD i noNode).next.length 0 T b hb m
    unfold nodeR; omega
  have := runM_bound (step := nodeR f) (c := 2) h1 f.nodes.length 0 (List.replicate f.nodes.length []) 0 (fun m => by rw [getD_repl]; simp) m
  unfold FlowD.predsR; omega
theorem awake_run (hK : KN base K) (h : Heap) (w : Wf h) (hB : Based base h) : Sp P K 5 [] h (Gives h (.bool true)) := ⟨_, _, Does.known (hK.awake h hB), rfl, Grow.refl h, w⟩
theorem law_run (hK : KN base K) (f : FlowD) (h : Heap) (w : Wf h) (hB : Based base h) (r : f.Ok h) : Sp P K 3 [.agg f.cells] h fun v _ => v = .bool true := by
  have hbq := r.beq
  have bn := r.nlen
  have b1 : (if f.validR = true then f.graphM else []).length ≤ 1152921504606846976 := by split <;> simp [FlowD.graphM] <;> omega
  have b2 : ∀ m, ((if f.validR = true then f.graphM else []).getD m []).length ≤ 1152921504606846976 := by
    intro m
    split
    · by_cases hm : m < f.nodes.length
      · have e : f.graphM.getD m [] = (f.at m).next := by simp [FlowD.graphM, FlowD.at, List.getD, hm]
        rw [e]; have := (f.at m).next_len; omega
      · simp [FlowD.graphM, List.getD, hm]
    · simp
  have b3 : (if f.validR = true then f.predsR else []).length ≤ 1152921504606846976 := by split <;> simp [predsR_length] <;> omega
  have b4 : ∀ m, ((if f.validR = true then f.predsR else []).getD m []).length ≤ 1152921504606846976 := by
    intro m
    by_cases hv : f.validR = true
    · rw [if_pos hv]; have := predsR_bound f m; have := (valid_facts hv).1.2; omega
    · rw [if_neg hv]; simp
  refine Sp.of (m := 6143) (n := 62) (hK.none 3 rfl rfl _ _) Tryz.func3 rfl rfl mask3 rfl rfl ?_
  repeat' (first
    | refine To.nrm_seq ?_
    | refine WC.seq ?_
    | (refine WC.region (id := 0) ?_; ((refine WO.cons ?_; ((refine Op1.made (M.box rfl rfl rfl) rfl rfl (by assumption) ?_; rintro kb hb ⟨gb, eb, fb, wb, leb, ltb, obb⟩)))
        <;> (refine WO.cons ?_; (refine Op1.val (V.assign rfl rfl) rfl rfl ?_))
        <;> (refine WO.nil (Then.intro rfl ?_))))
    | (refine WC.region (id := 1) ?_; ((refine WO.cons ?_; (refine Op1.val (V.loadS hT rfl rfl rfl rfl (by (repeat (first | assumption | refine Grow.get (by assumption) ?_))) rfl) rfl rfl ?_))
        <;> (refine WO.cons ?_; ((refine Op1.sp (C.call rfl rfl rfl rfl ca4) rfl rfl (wide_run hK f _ (by assumption) (by (repeat (first | assumption | refine FlowD.Ok.grow (by assumption) ?_)))) ?_; rintro _ hW ⟨bW, rfl, gW, wW⟩; cases bW)))
        <;> (refine WO.nil (Then.intro rfl ?_))))
    | (refine WC.region (id := 2) ?_; ((refine WO.cons ?_; ((refine Op1.sp (C.call rfl rfl rfl rfl ca5) rfl rfl (awake_run hK _ (by assumption) (by (repeat (first | assumption | refine Based.grow (by assumption) ?_)))) ?_; rintro _ _ ⟨rfl, _, _⟩)))
        <;> (refine WO.cons ?_; (refine Op1.val (V.assign rfl rfl) rfl rfl ?_))
        <;> (refine WO.nil (Then.intro rfl ?_))))
    | (refine WC.region (id := 3) ?_; ((refine WO.cons ?_; (refine Op1.val (V.loadS hT rfl rfl rfl rfl (by (repeat (first | assumption | refine Grow.get (by assumption) ?_))) rfl) rfl rfl ?_))
        <;> (refine WO.cons ?_; ((refine Op1.sp (C.call rfl rfl rfl rfl ca6) rfl rfl (succ_run hK f _ (by assumption) (by (repeat (first | assumption | refine Based.grow (by assumption) ?_))) (by (repeat (first | assumption | refine FlowD.Ok.grow (by assumption) ?_)))) ?_; rintro _ h1 ⟨⟨v1, rfl, l1⟩, g1, w1⟩)))
        <;> (refine WO.cons ?_; (refine Op1.val (V.move rfl rfl) rfl rfl ?_))
        <;> (refine WO.cons ?_; (refine Op1.val (V.extract rfl rfl rfl) rfl rfl ?_))
        <;> (refine WO.cons ?_; (refine Op1.val (V.extract rfl rfl rfl) rfl rfl ?_))
        <;> (refine WO.cons ?_; (refine Op1.val (V.assign rfl rfl) rfl rfl ?_))
        <;> (refine WO.cons ?_; (refine Op1.val (V.assign rfl rfl) rfl rfl ?_))
        <;> (refine WO.nil (Then.intro rfl ?_))))
    | (refine WC.region (id := 4) ?_; ((refine WO.cons ?_; (refine Op1.val (V.loadS hT rfl rfl rfl rfl (by (repeat (first | assumption | refine Grow.get (by assumption) ?_))) rfl) rfl rfl ?_))
        <;> (refine WO.cons ?_; ((refine Op1.sp (C.call rfl rfl rfl rfl ca7) rfl rfl (refSucc_run hK f _ (by assumption) (by (repeat (first | assumption | refine FlowD.Ok.grow (by assumption) ?_)))) ?_; rintro _ h2 ⟨⟨v2, rfl, l2⟩, g2, w2⟩)))
        <;> (refine WO.cons ?_; (refine Op1.val (V.move rfl rfl) rfl rfl ?_))
        <;> (refine WO.cons ?_; (refine Op1.val (V.extract rfl rfl rfl) rfl rfl ?_))
        <;> (refine WO.cons ?_; (refine Op1.val (V.extract rfl rfl rfl) rfl rfl ?_))
        <;> (refine WO.cons ?_; (refine Op1.val (V.assign rfl rfl) rfl rfl ?_))
        <;> (refine WO.cons ?_; (refine Op1.val (V.assign rfl rfl) rfl rfl ?_))
        <;> (refine WO.nil (Then.intro rfl ?_))))
    | (refine WC.region (id := 5) ?_; ((refine WO.cons ?_; (refine Op1.val (V.loadS hT rfl rfl rfl rfl (by (repeat (first | assumption | refine Grow.get (by assumption) ?_))) rfl) rfl rfl ?_))
        <;> (refine WO.cons ?_; ((refine Op1.sp (C.call rfl rfl rfl rfl ca8) rfl rfl (preds_run hK f _ (by assumption) (by (repeat (first | assumption | refine Based.grow (by assumption) ?_))) (by (repeat (first | assumption | refine FlowD.Ok.grow (by assumption) ?_)))) ?_; rintro _ h3 ⟨⟨v3, rfl, l3⟩, g3, w3⟩)))
        <;> (refine WO.cons ?_; (refine Op1.val (V.move rfl rfl) rfl rfl ?_))
        <;> (refine WO.cons ?_; (refine Op1.val (V.extract rfl rfl rfl) rfl rfl ?_))
        <;> (refine WO.cons ?_; (refine Op1.val (V.extract rfl rfl rfl) rfl rfl ?_))
        <;> (refine WO.cons ?_; (refine Op1.val (V.assign rfl rfl) rfl rfl ?_))
        <;> (refine WO.cons ?_; (refine Op1.val (V.assign rfl rfl) rfl rfl ?_))
        <;> (refine WO.nil (Then.intro rfl ?_))))
    | (refine WC.region (id := 6) ?_; ((refine WO.cons ?_; (refine Op1.val (V.loadS hT rfl rfl rfl rfl (by (repeat (first | assumption | refine Grow.get (by assumption) ?_))) rfl) rfl rfl ?_))
        <;> (refine WO.cons ?_; ((refine Op1.sp (C.call rfl rfl rfl rfl ca9) rfl rfl (refPredecessors_run hK f _ (by assumption) (by (repeat (first | assumption | refine FlowD.Ok.grow (by assumption) ?_)))) ?_; rintro _ h4 ⟨⟨v4, rfl, l4⟩, g4, w4⟩)))
        <;> (refine WO.cons ?_; (refine Op1.val (V.move rfl rfl) rfl rfl ?_))
        <;> (refine WO.cons ?_; (refine Op1.val (V.extract rfl rfl rfl) rfl rfl ?_))
        <;> (refine WO.cons ?_; (refine Op1.val (V.extract rfl rfl rfl) rfl rfl ?_))
        <;> (refine WO.cons ?_; (refine Op1.val (V.assign rfl rfl) rfl rfl ?_))
        <;> (refine WO.cons ?_; (refine Op1.val (V.assign rfl rfl) rfl rfl ?_))
        <;> (refine WO.nil (Then.intro rfl ?_))))
    | (refine WC.draw (id := 7) [0, 2, 1, 3, 4, 5, 6, 7, 8, 9, 10, 11, 12, 13, 14, 15, 16, 17, 18, 19, 20, 21, 22, 23, 24, 25, 26, 27, 28] #[0, 1, 0, 7, 15, 31, 63, 63, 255, 511, 1023, 2047, 2047, 8191, 16383, 32767, 65535, 65535, 262143, 524287, 1048575, 2097151, 2097151, 8388607, 16777215, 33554431, 67108863, 134217727, 268435455] (by kernel_rfl) (by kernel_rfl) (by kernel_rfl) ?_; ((refine WD.cons rfl ?_; ((refine Op1.val (V.loadS hT rfl rfl rfl rfl (by (repeat (first | assumption | refine Grow.get (by assumption) ?_))) rfl) rfl rfl ?_) <;> refine ⟨_, rfl, ?_⟩))
        <;> (refine WD.cons rfl ?_; ((refine Op1.val (V.loadS hT rfl rfl rfl rfl (by (repeat (first | assumption | refine Grow.get (by assumption) ?_))) rfl) rfl rfl ?_) <;> refine ⟨_, rfl, ?_⟩))
        <;> (refine WD.cons rfl ?_; (((refine Op1.sp (C.call rfl rfl rfl rfl ca10) rfl rfl (validP_run' hK f _ (by assumption) (by (repeat (first | assumption | refine Based.grow (by assumption) ?_))) (by (repeat (first | assumption | refine FlowD.Ok.grow (by assumption) ?_)))) ?_; rintro _ _ ⟨rfl, _, _⟩)) <;> refine ⟨_, rfl, ?_⟩))
        <;> (refine WD.cons rfl ?_; (((refine Op1.sp (C.call rfl rfl rfl rfl ca11) rfl rfl (validR_run hK f _ (by assumption) (by (repeat (first | assumption | refine FlowD.Ok.grow (by assumption) ?_)))) ?_; rintro _ _ ⟨rfl, _, _⟩)) <;> refine ⟨_, rfl, ?_⟩))
        <;> (refine WD.cons rfl ?_; (((refine Op1.val (V.eqBool hT rfl rfl rfl rfl) rfl rfl ?_)) <;> refine ⟨_, rfl, ?_⟩))
        <;> (refine WD.cons rfl ?_; ((refine Op1.val (V.move rfl rfl) rfl rfl ?_) <;> refine ⟨_, rfl, ?_⟩))
        <;> (refine WD.cons rfl ?_; ((refine Op1.val (V.move rfl rfl) rfl rfl ?_) <;> refine ⟨_, rfl, ?_⟩))
        <;> (refine WD.cons rfl ?_; ((refine Op1.val (V.move rfl rfl) rfl rfl ?_) <;> refine ⟨_, rfl, ?_⟩))
        <;> (refine WD.cons rfl ?_; (((refine Op1.sp (C.call rfl rfl rfl rfl ca12) rfl rfl (sameLists_run hK _ _ _ _ (by assumption) (ListsAt.grow (by (repeat (first | assumption | exact Grow.refl _ | refine Grow.trans ?_ (by assumption)))) l1) (ListsAt.grow (by (repeat (first | assumption | exact Grow.refl _ | refine Grow.trans ?_ (by assumption)))) l2) b1 b2) ?_; rintro _ _ ⟨rfl, _, _⟩)) <;> refine ⟨_, rfl, ?_⟩))
        <;> (refine WD.cons rfl ?_; ((refine Op1.val (V.pick_true rfl rfl rfl) rfl rfl ?_) <;> refine ⟨_, rfl, ?_⟩))
        <;> (refine WD.cons rfl ?_; ((refine Op1.val (V.move rfl rfl) rfl rfl ?_) <;> refine ⟨_, rfl, ?_⟩))
        <;> (refine WD.cons rfl ?_; ((refine Op1.val (V.move rfl rfl) rfl rfl ?_) <;> refine ⟨_, rfl, ?_⟩))
        <;> (refine WD.cons rfl ?_; ((refine Op1.val (V.move rfl rfl) rfl rfl ?_) <;> refine ⟨_, rfl, ?_⟩))
        <;> (refine WD.cons rfl ?_; (((refine Op1.eql rfl rfl rfl rfl rfl rfl ?_ ?_ <;> intro _)) <;> refine ⟨_, rfl, ?_⟩))
        <;> (refine WD.cons rfl ?_; ((refine Op1.val (V.pick_true rfl rfl rfl) rfl rfl ?_) <;> refine ⟨_, rfl, ?_⟩))
        <;> (refine WD.cons rfl ?_; ((refine Op1.val (V.move rfl rfl) rfl rfl ?_) <;> refine ⟨_, rfl, ?_⟩))
        <;> (refine WD.cons rfl ?_; ((first | refine Op1.skip rfl rfl rfl ?_ | refine Op1.val (V.move rfl rfl) rfl rfl ?_) <;> refine ⟨_, rfl, ?_⟩))
        <;> (refine WD.cons rfl ?_; ((first | refine Op1.skip rfl rfl rfl ?_ | refine Op1.val (V.move rfl rfl) rfl rfl ?_) <;> refine ⟨_, rfl, ?_⟩))
        <;> (refine WD.cons rfl ?_; ((first | refine Op1.skip rfl rfl rfl ?_ | (refine Op1.sp (C.call rfl rfl rfl rfl ca12) rfl rfl (sameLists_run hK _ _ _ _ (by assumption) (ListsAt.grow (by (repeat (first | assumption | exact Grow.refl _ | refine Grow.trans ?_ (by assumption)))) l3) (ListsAt.grow (by (repeat (first | assumption | exact Grow.refl _ | refine Grow.trans ?_ (by assumption)))) l4) b3 b4) ?_; rintro _ _ ⟨rfl, _, _⟩)) <;> refine ⟨_, rfl, ?_⟩))
        <;> (refine WD.cons rfl ?_; ((first | refine Op1.val (V.pick_true rfl rfl rfl) rfl rfl ?_ | refine Op1.val (V.pick_false rfl rfl rfl) rfl rfl ?_) <;> refine ⟨_, rfl, ?_⟩))
        <;> (refine WD.cons rfl ?_; ((refine Op1.val (V.move rfl rfl) rfl rfl ?_) <;> refine ⟨_, rfl, ?_⟩))
        <;> (refine WD.cons rfl ?_; ((first | refine Op1.skip rfl rfl rfl ?_ | refine Op1.val (V.move rfl rfl) rfl rfl ?_) <;> refine ⟨_, rfl, ?_⟩))
        <;> (refine WD.cons rfl ?_; ((first | refine Op1.skip rfl rfl rfl ?_ | refine Op1.val (V.move rfl rfl) rfl rfl ?_) <;> refine ⟨_, rfl, ?_⟩))
        <;> (refine WD.cons rfl ?_; ((first | refine Op1.skip rfl rfl rfl ?_ | (refine Op1.eql rfl rfl rfl rfl rfl rfl ?_ ?_ <;> intro _)) <;> refine ⟨_, rfl, ?_⟩))
        <;> (refine WD.cons rfl ?_; ((first | refine Op1.val (V.pick_true rfl rfl rfl) rfl rfl ?_ | refine Op1.val (V.pick_false rfl rfl rfl) rfl rfl ?_) <;> refine ⟨_, rfl, ?_⟩))
        <;> (refine WD.cons rfl ?_; ((refine Op1.val (V.move rfl rfl) rfl rfl ?_) <;> refine ⟨_, rfl, ?_⟩))
        <;> (refine WD.cons rfl ?_; ((first | refine Op1.skip rfl rfl rfl ?_ | (refine Op1.sp (C.call rfl rfl rfl rfl ca5) rfl rfl (awake_run hK _ (by assumption) (by (repeat (first | assumption | refine Based.grow (by assumption) ?_)))) ?_; rintro _ _ ⟨rfl, _, _⟩)) <;> refine ⟨_, rfl, ?_⟩))
        <;> (refine WD.cons rfl ?_; ((first | refine Op1.val (V.pick_true rfl rfl rfl) rfl rfl ?_ | refine Op1.val (V.pick_false rfl rfl rfl) rfl rfl ?_) <;> refine ⟨_, rfl, ?_⟩))
        <;> (refine WD.cons rfl ?_; ((refine Op1.val (V.assign rfl rfl) rfl rfl ?_) <;> refine ⟨_, rfl, ?_⟩))
        <;> (refine WD.nil ⟨?_, Then.intro rfl ?_⟩; (repeat' (first | exact trivial | refine ⟨?_, ?_⟩ | exact Or.inl rfl | exact Or.inr ⟨⟨_, _, V.loadS hT rfl rfl rfl rfl (by (repeat (first | assumption | refine Grow.get (by assumption) ?_))) rfl, V.loadS hT rfl rfl rfl rfl (by (repeat (first | assumption | refine Grow.get (by assumption) ?_))) rfl⟩, hbq⟩)))))
    | refine WC.ret ?_
    | refine To.ret_seq ?_
    | refine WC.cond_true rfl ?_
    | refine WC.cond_false rfl ?_
    | refine WC.skip ?_
    | refine To.fn_ret rfl ?_)
  all_goals first | rfl | (exfalso; exact absurd rfl ‹¬ (_ : Int) = _›)
end Fv
end Go.HL
