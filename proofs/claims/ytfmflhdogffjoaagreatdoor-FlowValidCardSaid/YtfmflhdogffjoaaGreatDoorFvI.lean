/- The walk of FlowValid: the program's head. No statement of the seat stands here. -/
import Derived.Test.YtfmflhdogffjoaaGreatDoorFvH
namespace Go.HL
open Go Go.Proofs
namespace Fv
set_option maxRecDepth 10000
set_option maxHeartbeats 4000000
variable {K : CallFn} {base : List (Nat × HObj)}
def FlowD.hdM (f : FlowD) : Bool := f.headsM && decide (0 ≤ f.regs ∧ f.regs ≤ 2000)
structure Seen (hb : Heap) (f : FlowD) (km i : Nat) (m : List ((Nat × Nat) × Bool)) (h : Heap) : Prop where
  look : ∀ q, lookB m q = inM q (f.names.take i)
  map : MapRw strKey h km (m.map cellB)
  grow : Grow hb h
  wf : Wf h
theorem Seen.step {hb h h' : Heap} {f : FlowD} {km i : Nat} {m : List ((Nat × Nat) × Bool)} {a : Nat × Nat} (hi : i < f.names.length) (ha : a = f.names.getD i noStr) (s : ∀ q, lookB m q = inM q (f.names.take i)) (hg : Grow hb h) (hf : hb.get km = none) (hm : MapRw strKey h' km (setM (m.map cellB) a (.bool true))) (old : ∀ j, j ≠ km → h'.get j = h.get j) (w : Wf h') (hn : h'.next = h.next) :
    Seen hb f km (i + 1) (setB m a true) h' := by
  refine ⟨fun q => ?_, ?_, hg.change hf old hn, w⟩
  · rw [lookB_setB, s, take_succ hi noStr, ← ha]
    unfold inM
    rw [List.any_append]
    by_cases h : a = q <;> simp [h]
  · rw [setM_B] at hm; exact hm
theorem head_run (hK : KN base K) (f : FlowD) (h : Heap) (w : Wf h) (hB : Based base h) (r : f.Ok h) : Sp P K 23 [.agg f.cells] h (Gives h (.bool f.hdM)) := by
  have hps := r.params
  have hss := r.shared
  have lp := r.lp
  have ls := r.ls
  have bp := r.plen
  have bs := r.slen
  have hn := names_length f
  refine Sp.of (m := 4835705442439177032433839) (n := 87) (hK.none 23 rfl rfl _ _) Tryz.func23 rfl rfl mask23 rfl rfl ?_
  repeat' (first
    | refine To.nrm_seq ?_
    | refine WC.seq ?_
    | (refine WC.region (id := 0) ?_; ((refine WO.cons ?_; ((refine Op1.made (M.box rfl rfl rfl) rfl rfl (by assumption) ?_; rintro kb hb ⟨gb, eb, fb, wb, leb, ltb, obb⟩)))
        <;> (refine WO.cons ?_; (refine Op1.val (V.assign rfl rfl) rfl rfl ?_))
        <;> (refine WO.nil (Then.intro rfl ?_))))
    | (refine WC.region (id := 1) ?_; ((refine WO.cons ?_; (refine Op1.val (V.fieldAddr hT rfl rfl rfl rfl rfl rfl) rfl rfl ?_))
        <;> (refine WO.cons ?_; (refine Op1.val (V.load hT rfl rfl rfl rfl (by (repeat (first | assumption | refine Grow.get (by assumption) ?_))) rfl) rfl rfl ?_))
        <;> (refine WO.cons ?_; ((refine Op1.spB (C.call rfl rfl rfl rfl ca40) rfl rfl (lexName_run hK (f.n, f.c) r.name _ (by assumption) (by (repeat (first | assumption | refine Based.grow (by assumption) ?_)))) ?_ ?_ <;> (rintro _ ⟨_, _⟩ _))))
        <;> (refine WO.cons ?_; (first | refine Op1.val (V.not_true rfl rfl) rfl rfl ?_ | refine Op1.val (V.not_false rfl rfl) rfl rfl ?_))
        <;> (refine WO.cons ?_; (refine Op1.val (V.move rfl rfl) rfl rfl ?_))
        <;> (refine WO.cons ?_; (first | refine Op1.skip rfl rfl rfl ?_ | refine Op1.val (V.fieldAddr hT rfl rfl rfl rfl rfl rfl) rfl rfl ?_))
        <;> (refine WO.cons ?_; (first | refine Op1.skip rfl rfl rfl ?_ | refine Op1.val (V.load hT rfl rfl rfl rfl (by (repeat (first | assumption | refine Grow.get (by assumption) ?_))) rfl) rfl rfl ?_))
        <;> (refine WO.cons ?_; (first | refine Op1.skip rfl rfl rfl ?_ | refine Op1.val (V.len hT rfl rfl rfl rfl rfl rfl (by first | rfl | assumption)) rfl rfl ?_))
        <;> (refine WO.cons ?_; (first | refine Op1.skip rfl rfl rfl ?_ | (refine Op1.gtr rfl rfl rfl rfl rfl rfl ?_ ?_ <;> intro _)))
        <;> (refine WO.cons ?_; (first | refine Op1.val (V.pick_true rfl rfl rfl) rfl rfl ?_ | refine Op1.val (V.pick_false rfl rfl rfl) rfl rfl ?_))
        <;> (refine WO.cons ?_; (refine Op1.val (V.move rfl rfl) rfl rfl ?_))
        <;> (refine WO.cons ?_; (first | refine Op1.skip rfl rfl rfl ?_ | refine Op1.val (V.fieldAddr hT rfl rfl rfl rfl rfl rfl) rfl rfl ?_))
        <;> (refine WO.cons ?_; (first | refine Op1.skip rfl rfl rfl ?_ | refine Op1.val (V.load hT rfl rfl rfl rfl (by (repeat (first | assumption | refine Grow.get (by assumption) ?_))) rfl) rfl rfl ?_))
        <;> (refine WO.cons ?_; (first | refine Op1.skip rfl rfl rfl ?_ | refine Op1.val (V.len hT rfl rfl rfl rfl rfl rfl (by first | rfl | assumption)) rfl rfl ?_))
        <;> (refine WO.cons ?_; (first | refine Op1.skip rfl rfl rfl ?_ | (refine Op1.gtr rfl rfl rfl rfl rfl rfl ?_ ?_ <;> intro _)))
        <;> (refine WO.cons ?_; (first | refine Op1.val (V.pick_true rfl rfl rfl) rfl rfl ?_ | refine Op1.val (V.pick_false rfl rfl rfl) rfl rfl ?_))
        <;> (refine WO.cons ?_; (refine Op1.val (V.move rfl rfl) rfl rfl ?_))
        <;> (refine WO.cons ?_; (first | refine Op1.skip rfl rfl rfl ?_ | refine Op1.val (V.fieldAddr hT rfl rfl rfl rfl rfl rfl) rfl rfl ?_))
        <;> (refine WO.cons ?_; (first | refine Op1.skip rfl rfl rfl ?_ | refine Op1.val (V.load hT rfl rfl rfl rfl (by (repeat (first | assumption | refine Grow.get (by assumption) ?_))) rfl) rfl rfl ?_))
        <;> (refine WO.cons ?_; (first | refine Op1.skip rfl rfl rfl ?_ | (refine Op1.lss rfl rfl rfl rfl rfl rfl ?_ ?_ <;> intro _)))
        <;> (refine WO.cons ?_; (first | refine Op1.val (V.pick_true rfl rfl rfl) rfl rfl ?_ | refine Op1.val (V.pick_false rfl rfl rfl) rfl rfl ?_))
        <;> (refine WO.cons ?_; (refine Op1.val (V.move rfl rfl) rfl rfl ?_))
        <;> (refine WO.cons ?_; (first | refine Op1.skip rfl rfl rfl ?_ | refine Op1.val (V.fieldAddr hT rfl rfl rfl rfl rfl rfl) rfl rfl ?_))
        <;> (refine WO.cons ?_; (first | refine Op1.skip rfl rfl rfl ?_ | refine Op1.val (V.load hT rfl rfl rfl rfl (by (repeat (first | assumption | refine Grow.get (by assumption) ?_))) rfl) rfl rfl ?_))
        <;> (refine WO.cons ?_; (first | refine Op1.skip rfl rfl rfl ?_ | (refine Op1.gtr rfl rfl rfl rfl rfl rfl ?_ ?_ <;> intro _)))
        <;> (refine WO.cons ?_; (first | refine Op1.val (V.pick_true rfl rfl rfl) rfl rfl ?_ | refine Op1.val (V.pick_false rfl rfl rfl) rfl rfl ?_))
        <;> (refine WO.nil (Then.intro rfl ?_))))
    | (refine WC.region (id := 2) ?_; ((refine WO.cons ?_; (refine Op1.val (V.assign rfl rfl) rfl rfl ?_))
        <;> (refine WO.nil (Then.intro rfl ?_))))
    | (refine WC.region (id := 3) ?_; ((refine WO.cons ?_; ((refine Op1.made (M.map hT rfl rfl) rfl rfl (by assumption) ?_; rintro km hm ⟨gm, em, fm, wm, lem, ltm, om⟩)))
        <;> (refine WO.cons ?_; (refine Op1.val (V.assign rfl rfl) rfl rfl ?_))
        <;> (refine WO.nil (Then.intro rfl ?_))))
    | (refine WC.region (id := 4) ?_; ((refine WO.cons ?_; (refine Op1.val (V.fieldAddr hT rfl rfl rfl rfl rfl rfl) rfl rfl ?_))
        <;> (refine WO.cons ?_; (refine Op1.val (V.load hT rfl rfl rfl rfl (by (repeat (first | assumption | refine Grow.get (by assumption) ?_))) rfl) rfl rfl ?_))
        <;> (refine WO.cons ?_; (refine Op1.val (V.len hT rfl rfl rfl rfl rfl rfl (by first | rfl | assumption)) rfl rfl ?_))
        <;> (refine WO.cons ?_; (refine Op1.val (V.move rfl rfl) rfl rfl ?_))
        <;> (refine WO.nil (Then.intro rfl ?_))))
    | refine WC.ret ?_
    | refine To.ret_seq ?_
    | refine WC.cond_true rfl ?_
    | refine WC.cond_false rfl ?_
    | refine WC.skip ?_
    | refine WC.block ?_
    | refine To.fn_ret rfl ?_)
  all_goals try (refine ⟨?_, (by (repeat (first | assumption | exact Grow.refl _ | refine Grow.trans ?_ (by assumption)))), by assumption⟩; simp only [resV]; unfold FlowD.hdM FlowD.headsM FlowD.refHeadM; simp_all; done)
  all_goals try (refine ⟨?_, (by (repeat (first | assumption | exact Grow.refl _ | refine Grow.trans ?_ (by assumption)))), by assumption⟩; simp only [resV]; unfold FlowD.hdM FlowD.headsM FlowD.refHeadM; first | (rw [decide_eq_false (p := f.params.length ≤ 6) (by omega)]; simp; done) | (rw [decide_eq_false (p := f.shared.length ≤ 4) (by omega)]; simp; done) | (rw [decide_eq_false (p := 0 ≤ f.regs ∧ f.regs ≤ 2000) (by omega)]; simp; done))
  have h6 : f.params.length ≤ 6 := by omega
  have h4 : f.shared.length ≤ 4 := by omega
  have hr : 0 ≤ f.regs ∧ f.regs ≤ 2000 := by omega
  have hfr : hb.get km = none := Grow.fresh (by (repeat (first | assumption | exact Grow.refl _ | refine Grow.trans ?_ (by assumption)))) fm
  refine WC.sub (L' := [(38, .int .i64 ((0 : Nat) : Int)), (1, .ptr kb 0), (3, .map km), (36, f.pv), (37, .int .i64 (f.params.length : Int))]) ⟨rfl, rfl, rfl, rfl, rfl, trivial⟩ ?_
  refine WC.fall (ι := Nat × List ((Nat × Nat) × Bool)) (fun x => [(38, .int .i64 (x.1 : Int)), (1, .ptr kb 0), (3, .map km), (36, f.pv), (37, .int .i64 (f.params.length : Int))]) (fun x h' => x.1 ≤ f.params.length ∧ f.hdM = ((f.params.drop x.1).all paramOk && f.shared.all arrayOk && distM f.names x.1) ∧ Seen hb f km x.1 x.2 h') (fun x => f.params.length - x.1) ?_ (0, []) _ ⟨Nat.zero_le _, ?_, fun _ => rfl, ⟨_, _, gm, trivial⟩, (by (repeat (first | assumption | exact Grow.refl _ | refine Grow.trans ?_ (by assumption)))), wm⟩
  rotate_left
  · unfold FlowD.hdM FlowD.headsM FlowD.refHeadM; simp_all
  rintro ⟨i, m⟩ h1 ⟨hi, he, ⟨hlk, hmp, hg, hw⟩⟩ next
  simp only at next hi he hlk hmp ⊢
  repeat' (first
    | refine To.nrm_seq ?_
    | refine WC.seq ?_
    | (refine WC.region (id := 5) ?_; ((refine WO.cons ?_; ((refine Op1.lss rfl rfl rfl rfl rfl rfl ?_ ?_ <;> intro _)))
        <;> (refine WO.nil (Then.intro rfl ?_))))
    | (refine WC.region (id := 6) ?_; ((refine WO.cons ?_; ((refine Op1.index hT rfl rfl rfl rfl rfl rfl rfl (SliceAt.grow (Grow.trans eb hg) hps) (row_i noParam (by omega)) ?_; intro kx ox rx kvx)))
        <;> (refine WO.cons ?_; (refine Op1.val (V.loadRS hT rfl rfl rfl rfl (by assumption) rfl) rfl rfl ?_))
        <;> (refine WO.cons ?_; ((refine Op1.made (M.alloc rfl (by first | exact z40 | exact z43 | exact z101 | exact z35 | exact z37)) rfl rfl (by assumption) ?_; rintro ka ha ⟨ga, ea, fa, wa, lea, lta, oa⟩)))
        <;> (refine WO.cons ?_; ((refine Op1.storeN hT rfl rfl (by first | exact i40 | exact i43 | exact i101 | exact i35 | exact i37 | exact i4 | exact i41) rfl rfl rfl rfl (by (repeat (first | assumption | refine Grow.get (by assumption) ?_))) rfl rfl rfl (by assumption) (by assumption) (by (repeat (first | assumption | exact Grow.refl _ | refine Grow.trans ?_ (by assumption)))) ?_; rintro hs gs es ws os)))
        <;> (refine WO.nil (Then.intro rfl ?_))))
    | (refine WC.region (id := 7) ?_; ((refine WO.cons ?_; (refine Op1.val (V.fieldAddr hT rfl rfl rfl rfl rfl rfl) rfl rfl ?_))
        <;> (refine WO.cons ?_; (refine Op1.val (V.load hT rfl rfl rfl rfl (by (repeat (first | assumption | refine Grow.get (by assumption) ?_))) rfl) rfl rfl ?_))
        <;> (refine WO.cons ?_; ((refine Op1.spB (C.call rfl rfl rfl rfl ca40) rfl rfl (lexName_run hK (nmP (f.params.getD i noParam)) (r.pnames _ (getD_mem _ (by omega))) _ (by assumption) (Based.grow (Grow.trans (Grow.trans eb hg) (by (repeat (first | assumption | exact Grow.refl _ | refine Grow.trans ?_ (by assumption))))) hB)) ?_ ?_ <;> (rintro _ ⟨_, _⟩ _))))
        <;> (refine WO.cons ?_; (first | refine Op1.val (V.not_true rfl rfl) rfl rfl ?_ | refine Op1.val (V.not_false rfl rfl) rfl rfl ?_))
        <;> (refine WO.cons ?_; (refine Op1.val (V.move rfl rfl) rfl rfl ?_))
        <;> (refine WO.cons ?_; (first | refine Op1.skip rfl rfl rfl ?_ | refine Op1.val (V.move rfl rfl) rfl rfl ?_))
        <;> (refine WO.cons ?_; (first | refine Op1.skip rfl rfl rfl ?_ | refine Op1.val (V.fieldAddr hT rfl rfl rfl rfl rfl rfl) rfl rfl ?_))
        <;> (refine WO.cons ?_; (first | refine Op1.skip rfl rfl rfl ?_ | refine Op1.val (V.load hT rfl rfl rfl rfl (by (repeat (first | assumption | refine Grow.get (by assumption) ?_))) rfl) rfl rfl ?_))
        <;> (refine WO.cons ?_; (first | refine Op1.skip rfl rfl rfl ?_ | (refine Op1.lookupB (a := (nmP (f.params.getD i noParam))) hT rfl rfl fs9 zh4 rfl rfl ((MapAt.grow (by (repeat (first | assumption | exact Grow.refl _ | refine Grow.trans ?_ (by assumption)))) hmp.at)) rfl rfl ?_ ?_ <;> intro _)))
        <;> (refine WO.cons ?_; (first | refine Op1.val (V.pick_true rfl rfl rfl) rfl rfl ?_ | refine Op1.val (V.pick_false rfl rfl rfl) rfl rfl ?_))
        <;> (refine WO.nil (Then.intro rfl ?_))))
    | (refine WC.region (id := 8) ?_; ((refine WO.cons ?_; (refine Op1.val (V.assign rfl rfl) rfl rfl ?_))
        <;> (refine WO.nil (Then.intro rfl ?_))))
    | (refine WC.region (id := 9) ?_; ((refine WO.cons ?_; (refine Op1.val (V.move rfl rfl) rfl rfl ?_))
        <;> (refine WO.cons ?_; (refine Op1.val (V.fieldAddr hT rfl rfl rfl rfl rfl rfl) rfl rfl ?_))
        <;> (refine WO.cons ?_; (refine Op1.val (V.load hT rfl rfl rfl rfl (by (repeat (first | assumption | refine Grow.get (by assumption) ?_))) rfl) rfl rfl ?_))
        <;> (refine WO.cons ?_; ((refine Op1.mapUpdate (a := (nmP (f.params.getD i noParam))) hT rfl rfl fs9 rfl rfl rfl ((MapRw.grow (by (repeat (first | assumption | exact Grow.refl _ | refine Grow.trans ?_ (by assumption)))) hmp)) (by assumption) rfl rfl ?_; intro hu gu ou wu nu)))
        <;> (refine WO.nil (Then.intro rfl ?_))))
    | (refine WC.region (id := 10) ?_; ((refine WO.cons ?_; (refine Op1.val (V.add rfl rfl rfl rfl (wrapF_i64 (by first | omega | (simp only [Int.ofNat_eq_natCast]; omega)) (by first | omega | (simp only [Int.ofNat_eq_natCast]; omega)))) rfl rfl ?_))
        <;> (refine WO.cons ?_; (refine Op1.val (V.move rfl rfl) rfl rfl ?_))
        <;> (refine WO.nil (Then.intro rfl ?_))))
    | (refine WC.region (id := 11) ?_; ((refine WO.cons ?_; (refine Op1.val (V.fieldAddr hT rfl rfl rfl rfl rfl rfl) rfl rfl ?_))
        <;> (refine WO.cons ?_; (refine Op1.val (V.load hT rfl rfl rfl rfl (by (repeat (first | assumption | refine Grow.get (by assumption) ?_))) rfl) rfl rfl ?_))
        <;> (refine WO.cons ?_; (refine Op1.val (V.len hT rfl rfl rfl rfl rfl rfl (by first | rfl | assumption)) rfl rfl ?_))
        <;> (refine WO.cons ?_; (refine Op1.val (V.move rfl rfl) rfl rfl ?_))
        <;> (refine WO.nil (Then.intro rfl ?_))))
    | refine WC.ret ?_
    | refine To.ret_seq ?_
    | refine To.ret_block ?_
    | refine WC.cond_true rfl ?_
    | refine WC.cond_false rfl ?_
    | refine WC.skip ?_
    | refine WC.block ?_
    | refine WC.exit ?_
    | refine To.exit_seq ?_
    | refine To.exit_block ?_
    | refine To.nrm_block ?_
    | refine To.fn_ret rfl ?_)
  · clear next
    refine ⟨?_, (by (repeat (first | assumption | exact Grow.refl _ | refine Grow.trans ?_ (by assumption)))), by assumption⟩
    rw [he, all_step _ (by omega) noParam, distM_step (by omega), names_left (by omega), ← hlk]; simp_all [resV]
  · refine next (i + 1, setB m _ true) _ _ (by simp only; omega) ⟨rfl, rfl, rfl, rfl, rfl, trivial⟩ ⟨by simp only; omega, ?_, Seen.step (by omega) (names_left (by omega)).symm hlk (by (repeat (first | assumption | exact Grow.refl _ | refine Grow.trans ?_ (by assumption)))) hfr gu ou wu nu⟩
    clear next
    rw [he, all_step _ (by omega) noParam, distM_step (by omega), names_left (by omega), ← hlk]; simp_all [paramOk]
  · clear next
    refine ⟨?_, (by (repeat (first | assumption | exact Grow.refl _ | refine Grow.trans ?_ (by assumption)))), by assumption⟩
    rw [he, all_step _ (by omega) noParam]; simp_all [resV, paramOk]
  clear next
  have hip : i = f.params.length := by omega
  subst hip
  rw [List.drop_of_length_le (Nat.le_refl _)] at he
  refine WC.sub (L' := [(59, .int .i64 ((0 : Nat) : Int)), (1, .ptr kb 0), (3, .map km), (57, f.sv), (58, .int .i64 (f.shared.length : Int))]) ⟨rfl, rfl, rfl, rfl, rfl, trivial⟩ ?_
  refine WC.fall (ι := Nat × List ((Nat × Nat) × Bool)) (fun x => [(59, .int .i64 (x.1 : Int)), (1, .ptr kb 0), (3, .map km), (57, f.sv), (58, .int .i64 (f.shared.length : Int))]) (fun x h' => x.1 ≤ f.shared.length ∧ f.hdM = ((f.shared.drop x.1).all arrayOk && distM f.names (f.params.length + x.1)) ∧ Seen hb f km (f.params.length + x.1) x.2 h') (fun x => f.shared.length - x.1) ?_ (0, m) _ ⟨Nat.zero_le _, ?_, hlk, hmp, hg, hw⟩
  rotate_left
  · rw [he]; simp
  clear he hlk hmp hg hw m h1
  rintro ⟨i, m⟩ h1 ⟨hi, he, ⟨hlk, hmp, hg, hw⟩⟩ next
  simp only at next hi he hlk hmp ⊢
  repeat' (first
    | refine To.nrm_seq ?_
    | refine WC.seq ?_
    | (refine WC.region (id := 12) ?_; ((refine WO.cons ?_; ((refine Op1.lss rfl rfl rfl rfl rfl rfl ?_ ?_ <;> intro _)))
        <;> (refine WO.nil (Then.intro rfl ?_))))
    | (refine WC.region (id := 13) ?_; ((refine WO.cons ?_; ((refine Op1.index hT rfl rfl rfl rfl rfl rfl rfl (SliceAt.grow (Grow.trans eb hg) hss) (row_i noArray (by omega)) ?_; intro kx ox rx kvx)))
        <;> (refine WO.cons ?_; (refine Op1.val (V.loadRS hT rfl rfl rfl rfl (by assumption) rfl) rfl rfl ?_))
        <;> (refine WO.cons ?_; ((refine Op1.made (M.alloc rfl (by first | exact z40 | exact z43 | exact z101 | exact z35 | exact z37)) rfl rfl (by assumption) ?_; rintro ka ha ⟨ga, ea, fa, wa, lea, lta, oa⟩)))
        <;> (refine WO.cons ?_; ((refine Op1.storeN hT rfl rfl (by first | exact i40 | exact i43 | exact i101 | exact i35 | exact i37 | exact i4 | exact i41) rfl rfl rfl rfl (by (repeat (first | assumption | refine Grow.get (by assumption) ?_))) rfl rfl rfl (by assumption) (by assumption) (by (repeat (first | assumption | exact Grow.refl _ | refine Grow.trans ?_ (by assumption)))) ?_; rintro hs gs es ws os)))
        <;> (refine WO.nil (Then.intro rfl ?_))))
    | (refine WC.region (id := 14) ?_; ((refine WO.cons ?_; (refine Op1.val (V.fieldAddr hT rfl rfl rfl rfl rfl rfl) rfl rfl ?_))
        <;> (refine WO.cons ?_; (refine Op1.val (V.load hT rfl rfl rfl rfl (by (repeat (first | assumption | refine Grow.get (by assumption) ?_))) rfl) rfl rfl ?_))
        <;> (refine WO.cons ?_; ((refine Op1.spB (C.call rfl rfl rfl rfl ca40) rfl rfl (lexName_run hK (nmA (f.shared.getD i noArray)) (r.snames _ (getD_mem _ (by omega))) _ (by assumption) (Based.grow (Grow.trans (Grow.trans eb hg) (by (repeat (first | assumption | exact Grow.refl _ | refine Grow.trans ?_ (by assumption))))) hB)) ?_ ?_ <;> (rintro _ ⟨_, _⟩ _))))
        <;> (refine WO.cons ?_; (first | refine Op1.val (V.not_true rfl rfl) rfl rfl ?_ | refine Op1.val (V.not_false rfl rfl) rfl rfl ?_))
        <;> (refine WO.cons ?_; (refine Op1.val (V.move rfl rfl) rfl rfl ?_))
        <;> (refine WO.cons ?_; (first | refine Op1.skip rfl rfl rfl ?_ | refine Op1.val (V.move rfl rfl) rfl rfl ?_))
        <;> (refine WO.cons ?_; (first | refine Op1.skip rfl rfl rfl ?_ | refine Op1.val (V.fieldAddr hT rfl rfl rfl rfl rfl rfl) rfl rfl ?_))
        <;> (refine WO.cons ?_; (first | refine Op1.skip rfl rfl rfl ?_ | refine Op1.val (V.load hT rfl rfl rfl rfl (by (repeat (first | assumption | refine Grow.get (by assumption) ?_))) rfl) rfl rfl ?_))
        <;> (refine WO.cons ?_; (first | refine Op1.skip rfl rfl rfl ?_ | (refine Op1.lookupB (a := (nmA (f.shared.getD i noArray))) hT rfl rfl fs9 zh4 rfl rfl ((MapAt.grow (by (repeat (first | assumption | exact Grow.refl _ | refine Grow.trans ?_ (by assumption)))) hmp.at)) rfl rfl ?_ ?_ <;> intro _)))
        <;> (refine WO.cons ?_; (first | refine Op1.val (V.pick_true rfl rfl rfl) rfl rfl ?_ | refine Op1.val (V.pick_false rfl rfl rfl) rfl rfl ?_))
        <;> (refine WO.cons ?_; (refine Op1.val (V.move rfl rfl) rfl rfl ?_))
        <;> (refine WO.cons ?_; (first | refine Op1.skip rfl rfl rfl ?_ | refine Op1.val (V.fieldAddr hT rfl rfl rfl rfl rfl rfl) rfl rfl ?_))
        <;> (refine WO.cons ?_; (first | refine Op1.skip rfl rfl rfl ?_ | refine Op1.val (V.load hT rfl rfl rfl rfl (by (repeat (first | assumption | refine Grow.get (by assumption) ?_))) rfl) rfl rfl ?_))
        <;> (refine WO.cons ?_; (first | refine Op1.skip rfl rfl rfl ?_ | (refine Op1.lss rfl rfl rfl rfl rfl rfl ?_ ?_ <;> intro _)))
        <;> (refine WO.cons ?_; (first | refine Op1.val (V.pick_true rfl rfl rfl) rfl rfl ?_ | refine Op1.val (V.pick_false rfl rfl rfl) rfl rfl ?_))
        <;> (refine WO.cons ?_; (refine Op1.val (V.move rfl rfl) rfl rfl ?_))
        <;> (refine WO.cons ?_; (first | refine Op1.skip rfl rfl rfl ?_ | refine Op1.val (V.fieldAddr hT rfl rfl rfl rfl rfl rfl) rfl rfl ?_))
        <;> (refine WO.cons ?_; (first | refine Op1.skip rfl rfl rfl ?_ | refine Op1.val (V.load hT rfl rfl rfl rfl (by (repeat (first | assumption | refine Grow.get (by assumption) ?_))) rfl) rfl rfl ?_))
        <;> (refine WO.cons ?_; (first | refine Op1.skip rfl rfl rfl ?_ | (refine Op1.gtr rfl rfl rfl rfl rfl rfl ?_ ?_ <;> intro _)))
        <;> (refine WO.cons ?_; (first | refine Op1.val (V.pick_true rfl rfl rfl) rfl rfl ?_ | refine Op1.val (V.pick_false rfl rfl rfl) rfl rfl ?_))
        <;> (refine WO.nil (Then.intro rfl ?_))))
    | (refine WC.region (id := 15) ?_; ((refine WO.cons ?_; (refine Op1.val (V.assign rfl rfl) rfl rfl ?_))
        <;> (refine WO.nil (Then.intro rfl ?_))))
    | (refine WC.region (id := 16) ?_; ((refine WO.cons ?_; (refine Op1.val (V.move rfl rfl) rfl rfl ?_))
        <;> (refine WO.cons ?_; (refine Op1.val (V.fieldAddr hT rfl rfl rfl rfl rfl rfl) rfl rfl ?_))
        <;> (refine WO.cons ?_; (refine Op1.val (V.load hT rfl rfl rfl rfl (by (repeat (first | assumption | refine Grow.get (by assumption) ?_))) rfl) rfl rfl ?_))
        <;> (refine WO.cons ?_; ((refine Op1.mapUpdate (a := (nmA (f.shared.getD i noArray))) hT rfl rfl fs9 rfl rfl rfl ((MapRw.grow (by (repeat (first | assumption | exact Grow.refl _ | refine Grow.trans ?_ (by assumption)))) hmp)) (by assumption) rfl rfl ?_; intro hu gu ou wu nu)))
        <;> (refine WO.nil (Then.intro rfl ?_))))
    | (refine WC.region (id := 17) ?_; ((refine WO.cons ?_; (refine Op1.val (V.add rfl rfl rfl rfl (wrapF_i64 (by first | omega | (simp only [Int.ofNat_eq_natCast]; omega)) (by first | omega | (simp only [Int.ofNat_eq_natCast]; omega)))) rfl rfl ?_))
        <;> (refine WO.cons ?_; (refine Op1.val (V.move rfl rfl) rfl rfl ?_))
        <;> (refine WO.nil (Then.intro rfl ?_))))
    | (refine WC.region (id := 18) ?_; ((refine WO.cons ?_; (refine Op1.val (V.assign rfl rfl) rfl rfl ?_))
        <;> (refine WO.nil (Then.intro rfl ?_))))
    | refine WC.ret ?_
    | refine To.ret_seq ?_
    | refine To.ret_block ?_
    | refine WC.cond_true rfl ?_
    | refine WC.cond_false rfl ?_
    | refine WC.skip ?_
    | refine WC.block ?_
    | refine WC.exit ?_
    | refine To.exit_seq ?_
    | refine To.exit_block ?_
    | refine To.nrm_block ?_
    | refine To.fn_ret rfl ?_)
  rotate_left 3
  · refine next (i + 1, setB m _ true) _ _ (by simp only; omega) ⟨rfl, rfl, rfl, rfl, rfl, trivial⟩ ⟨by simp only; omega, ?_, Seen.step (i := f.params.length + i) (by omega) (names_right (by omega)).symm hlk (by (repeat (first | assumption | exact Grow.refl _ | refine Grow.trans ?_ (by assumption)))) hfr gu ou wu nu⟩
    clear next
    rw [he, all_step _ (by omega) noArray, distM_step (by omega), names_right (by omega), ← hlk]
    unfold arrayOk
    rw [decide_eq_true (p := 1 ≤ _) (by omega), decide_eq_true (p := _ ≤ (64 : Int)) (by omega)]
    simp_all [Nat.add_assoc]
  rotate_left
  · clear next; exact ⟨by rw [he, List.drop_of_length_le (by omega), distM_end (by omega)]; rfl, (by (repeat (first | assumption | exact Grow.refl _ | refine Grow.trans ?_ (by assumption)))), by assumption⟩
  all_goals
    clear next
    refine ⟨?_, (by (repeat (first | assumption | exact Grow.refl _ | refine Grow.trans ?_ (by assumption)))), by assumption⟩
    rw [he, all_step _ (by omega) noArray, distM_step (by omega), names_right (by omega), ← hlk]
    unfold arrayOk
    first
      | (simp_all [resV]; done)
      | (rw [decide_eq_false (p := 1 ≤ _) (by omega)]; simp [resV]; done)
      | (rw [decide_eq_false (p := _ ≤ (64 : Int)) (by omega)]; simp [resV]; done)
end Fv
end Go.HL
