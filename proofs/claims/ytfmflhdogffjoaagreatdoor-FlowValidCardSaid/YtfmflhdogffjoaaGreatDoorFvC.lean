/- The walk of FlowValid: short loops over what is read. No statement of the seat stands here. -/
import Derived.Test.YtfmflhdogffjoaaGreatDoorFvB
import Derived.Test.YtfmflhdogffjoaaGreatDoorSB
namespace Go.HL
open Go Go.Proofs
namespace Fv
set_option maxRecDepth 10000
variable {K : CallFn} {base : List (Nat × HObj)}
def NodeD.next (x : NodeD) : List Int := if x.fin = 0 then [x.to] else if x.fin = 1 then [x.to, x.els] else []
/-- a call that returns new numbers -/
structure GivesInts (h : Heap) (l : List Int) (v : HVal) (h' : Heap) : Prop where
  held : Held h' v 1 (l.map intCells)
  new : ∀ k, keyV v = some k → h.get k = none
  grow : Grow h h'
  wf : Wf h'
theorem ints_nil {h h' : Heap} (g : Grow h h') (w : Wf h') : GivesInts h [] .nils h' := ⟨⟨sliceAt_nils, fun k e => (by cases e)⟩, fun k e => (by cases e), g, w⟩
theorem ints_cells {h h' : Heap} {k e : Nat} {l : List Int} {s r : Bool} {cap : Option Nat} {cs : List HVal} (hg : h'.get k = some (.cells cs e s r)) (hc : cs = l.map (.int .i64)) (g : Grow h h') (w : Wf h') {n : Nat} (hn : n = l.length) (hf : h.get k = none) : GivesInts h l (.slice k 0 n cap) h' := by
  subst hc
  subst hn
  have := sliceAt_one (cap := cap) hg
  rw [List.map_map, List.length_map] at this
  exact ⟨⟨this, fun j e => by cases e; exact ⟨_, hg⟩⟩, fun j e => (by cases e; exact hf), g, w⟩
theorem next_run (hK : KN base K) (x : NodeD) (h : Heap) (w : Wf h) : Sp P K 19 [.agg x.cells] h (GivesInts h x.next) := by
  refine Sp.of (m := 1079) (n := 17) (hK.none 19 rfl rfl _ _) Tryz.func19 rfl rfl mask19 rfl rfl ?_
  repeat' (first
    | refine To.nrm_seq ?_
    | refine WC.seq ?_
    | (refine WC.region (id := 0) ?_; ((refine WO.cons ?_; ((refine Op1.made (M.box rfl rfl rfl) rfl rfl (by assumption) ?_; rintro kb hb ⟨gb, eb, fb, wb, leb, ltb, obb⟩)))
        <;> (refine WO.cons ?_; (refine Op1.val (V.assign rfl rfl) rfl rfl ?_))
        <;> (refine WO.nil (Then.intro rfl ?_))))
    | (refine WC.region (id := 1) ?_; ((refine WO.cons ?_; (refine Op1.val (V.fieldAddr hT rfl rfl rfl rfl rfl rfl) rfl rfl ?_))
        <;> (refine WO.cons ?_; (refine Op1.val (V.load hT rfl rfl rfl rfl (by (repeat (first | assumption | refine Grow.get (by assumption) ?_))) rfl) rfl rfl ?_))
        <;> (refine WO.nil (Then.intro rfl ?_))))
    | (refine WC.region (id := 2) ?_; ((refine WO.cons ?_; ((refine Op1.eql rfl rfl rfl rfl rfl rfl ?_ ?_ <;> intro _)))
        <;> (refine WO.cons ?_; (refine Op1.val (V.assign rfl rfl) rfl rfl ?_))
        <;> (refine WO.nil (Then.intro rfl ?_))))
    | (refine WC.region (id := 3) ?_; ((refine WO.cons ?_; (refine Op1.val (V.fieldAddr hT rfl rfl rfl rfl rfl rfl) rfl rfl ?_))
        <;> (refine WO.cons ?_; (refine Op1.val (V.load hT rfl rfl rfl rfl (by (repeat (first | assumption | refine Grow.get (by assumption) ?_))) rfl) rfl rfl ?_))
        <;> (refine WO.cons ?_; ((refine Op1.made (M.buildSlice hT rfl rfl rfl rfl (by first | exact z3 | exact z9 | exact z41) rfl rfl rfl) rfl rfl (by assumption) ?_; rintro kc hc ⟨gc, ec, fc, wc, lec, ltc, oc⟩)))
        <;> (refine WO.cons ?_; (refine Op1.val (V.assign rfl rfl) rfl rfl ?_))
        <;> (refine WO.nil (Then.intro rfl ?_))))
    | (refine WC.region (id := 4) ?_; ((refine WO.cons ?_; ((refine Op1.eql rfl rfl rfl rfl rfl rfl ?_ ?_ <;> intro _)))
        <;> (refine WO.cons ?_; (refine Op1.val (V.assign rfl rfl) rfl rfl ?_))
        <;> (refine WO.nil (Then.intro rfl ?_))))
    | (refine WC.region (id := 5) ?_; ((refine WO.cons ?_; (refine Op1.val (V.fieldAddr hT rfl rfl rfl rfl rfl rfl) rfl rfl ?_))
        <;> (refine WO.cons ?_; (refine Op1.val (V.load hT rfl rfl rfl rfl (by (repeat (first | assumption | refine Grow.get (by assumption) ?_))) rfl) rfl rfl ?_))
        <;> (refine WO.cons ?_; (refine Op1.val (V.fieldAddr hT rfl rfl rfl rfl rfl rfl) rfl rfl ?_))
        <;> (refine WO.cons ?_; (refine Op1.val (V.load hT rfl rfl rfl rfl (by (repeat (first | assumption | refine Grow.get (by assumption) ?_))) rfl) rfl rfl ?_))
        <;> (refine WO.cons ?_; ((refine Op1.made (M.buildSlice hT rfl rfl rfl rfl (by first | exact z3 | exact z9 | exact z41) rfl rfl rfl) rfl rfl (by assumption) ?_; rintro kc hc ⟨gc, ec, fc, wc, lec, ltc, oc⟩)))
        <;> (refine WO.cons ?_; (refine Op1.val (V.assign rfl rfl) rfl rfl ?_))
        <;> (refine WO.nil (Then.intro rfl ?_))))
    | (refine WC.region (id := 6) ?_; ((refine WO.cons ?_; (refine Op1.val (V.assign rfl rfl) rfl rfl ?_))
        <;> (refine WO.nil (Then.intro rfl ?_))))
    | refine WC.ret ?_
    | refine To.ret_seq ?_
    | refine To.ret_block ?_
    | refine WC.cond_true rfl ?_
    | refine WC.cond_false rfl ?_
    | refine WC.skip ?_
    | refine WC.block ?_
    | refine To.nrm_block ?_
    | refine To.fn_ret rfl ?_)
  · exact ints_cells (by assumption) (by simp_all [NodeD.next]) (by (repeat (first | assumption | exact Grow.refl _ | refine Grow.trans ?_ (by assumption)))) (by assumption) (by simp_all [NodeD.next]) (Grow.fresh (by (repeat (first | assumption | exact Grow.refl _ | refine Grow.trans ?_ (by assumption)))) (by assumption))
  · exact ints_cells (by assumption) (by simp_all [NodeD.next]) (by (repeat (first | assumption | exact Grow.refl _ | refine Grow.trans ?_ (by assumption)))) (by assumption) (by simp_all [NodeD.next]) (Grow.fresh (by (repeat (first | assumption | exact Grow.refl _ | refine Grow.trans ?_ (by assumption)))) (by assumption))
  · rw [show x.next = [] by simp_all [NodeD.next]]; exact ints_nil (by (repeat (first | assumption | exact Grow.refl _ | refine Grow.trans ?_ (by assumption)))) (by assumption)
theorem next2_run (hK : KN base K) (x : NodeD) (h : Heap) (w : Wf h) : Sp P K 39 [.agg x.cells] h (GivesInts h x.next) := by
  refine Sp.of (m := 1079) (n := 17) (hK.none 39 rfl rfl _ _) Tryz.func39 rfl rfl mask39 rfl rfl ?_
  repeat' (first
    | refine To.nrm_seq ?_
    | refine WC.seq ?_
    | (refine WC.region (id := 0) ?_; ((refine WO.cons ?_; ((refine Op1.made (M.box rfl rfl rfl) rfl rfl (by assumption) ?_; rintro kb hb ⟨gb, eb, fb, wb, leb, ltb, obb⟩)))
        <;> (refine WO.cons ?_; (refine Op1.val (V.assign rfl rfl) rfl rfl ?_))
        <;> (refine WO.nil (Then.intro rfl ?_))))
    | (refine WC.region (id := 1) ?_; ((refine WO.cons ?_; (refine Op1.val (V.fieldAddr hT rfl rfl rfl rfl rfl rfl) rfl rfl ?_))
        <;> (refine WO.cons ?_; (refine Op1.val (V.load hT rfl rfl rfl rfl (by (repeat (first | assumption | refine Grow.get (by assumption) ?_))) rfl) rfl rfl ?_))
        <;> (refine WO.nil (Then.intro rfl ?_))))
    | (refine WC.region (id := 2) ?_; ((refine WO.cons ?_; ((refine Op1.eql rfl rfl rfl rfl rfl rfl ?_ ?_ <;> intro _)))
        <;> (refine WO.cons ?_; (refine Op1.val (V.assign rfl rfl) rfl rfl ?_))
        <;> (refine WO.nil (Then.intro rfl ?_))))
    | (refine WC.region (id := 3) ?_; ((refine WO.cons ?_; (refine Op1.val (V.fieldAddr hT rfl rfl rfl rfl rfl rfl) rfl rfl ?_))
        <;> (refine WO.cons ?_; (refine Op1.val (V.load hT rfl rfl rfl rfl (by (repeat (first | assumption | refine Grow.get (by assumption) ?_))) rfl) rfl rfl ?_))
        <;> (refine WO.cons ?_; ((refine Op1.made (M.buildSlice hT rfl rfl rfl rfl (by first | exact z3 | exact z9 | exact z41) rfl rfl rfl) rfl rfl (by assumption) ?_; rintro kc hc ⟨gc, ec, fc, wc, lec, ltc, oc⟩)))
        <;> (refine WO.cons ?_; (refine Op1.val (V.assign rfl rfl) rfl rfl ?_))
        <;> (refine WO.nil (Then.intro rfl ?_))))
    | (refine WC.region (id := 4) ?_; ((refine WO.cons ?_; ((refine Op1.eql rfl rfl rfl rfl rfl rfl ?_ ?_ <;> intro _)))
        <;> (refine WO.cons ?_; (refine Op1.val (V.assign rfl rfl) rfl rfl ?_))
        <;> (refine WO.nil (Then.intro rfl ?_))))
    | (refine WC.region (id := 5) ?_; ((refine WO.cons ?_; (refine Op1.val (V.fieldAddr hT rfl rfl rfl rfl rfl rfl) rfl rfl ?_))
        <;> (refine WO.cons ?_; (refine Op1.val (V.load hT rfl rfl rfl rfl (by (repeat (first | assumption | refine Grow.get (by assumption) ?_))) rfl) rfl rfl ?_))
        <;> (refine WO.cons ?_; (refine Op1.val (V.fieldAddr hT rfl rfl rfl rfl rfl rfl) rfl rfl ?_))
        <;> (refine WO.cons ?_; (refine Op1.val (V.load hT rfl rfl rfl rfl (by (repeat (first | assumption | refine Grow.get (by assumption) ?_))) rfl) rfl rfl ?_))
        <;> (refine WO.cons ?_; ((refine Op1.made (M.buildSlice hT rfl rfl rfl rfl (by first | exact z3 | exact z9 | exact z41) rfl rfl rfl) rfl rfl (by assumption) ?_; rintro kc hc ⟨gc, ec, fc, wc, lec, ltc, oc⟩)))
        <;> (refine WO.cons ?_; (refine Op1.val (V.assign rfl rfl) rfl rfl ?_))
        <;> (refine WO.nil (Then.intro rfl ?_))))
    | (refine WC.region (id := 6) ?_; ((refine WO.cons ?_; (refine Op1.val (V.assign rfl rfl) rfl rfl ?_))
        <;> (refine WO.nil (Then.intro rfl ?_))))
    | refine WC.ret ?_
    | refine To.ret_seq ?_
    | refine To.ret_block ?_
    | refine WC.cond_true rfl ?_
    | refine WC.cond_false rfl ?_
    | refine WC.skip ?_
    | refine WC.block ?_
    | refine To.nrm_block ?_
    | refine To.fn_ret rfl ?_)
  · exact ints_cells (by assumption) (by simp_all [NodeD.next]) (by (repeat (first | assumption | exact Grow.refl _ | refine Grow.trans ?_ (by assumption)))) (by assumption) (by simp_all [NodeD.next]) (Grow.fresh (by (repeat (first | assumption | exact Grow.refl _ | refine Grow.trans ?_ (by assumption)))) (by assumption))
  · exact ints_cells (by assumption) (by simp_all [NodeD.next]) (by (repeat (first | assumption | exact Grow.refl _ | refine Grow.trans ?_ (by assumption)))) (by assumption) (by simp_all [NodeD.next]) (Grow.fresh (by (repeat (first | assumption | exact Grow.refl _ | refine Grow.trans ?_ (by assumption)))) (by assumption))
  · rw [show x.next = [] by simp_all [NodeD.next]]; exact ints_nil (by (repeat (first | assumption | exact Grow.refl _ | refine Grow.trans ?_ (by assumption)))) (by assumption)
def noInstr : InstrD := ⟨0, 0, 0, 0, 0, 0, [], .nils⟩
/-- is d the D of one of some instructions? -/
def twiceM (l : List InstrD) (d : Int) : Bool := l.any fun x => decide (x.d = d)
theorem twice_run (hK : KN base K) (l : List InstrD) (v : HVal) (d : Int) (h : Heap) (w : Wf h) (hs : SliceAt h v 7 (l.map InstrD.cells)) (hb : l.length ≤ 1152921504606846976) : Sp P K 30 [v, .int .i64 d] h (Gives h (.bool (twiceM l d))) := by
  have ll : lenV v = some l.length := by simpa using hs.1
  refine Sp.of (m := 262707) (n := 19) (hK.none 30 rfl rfl _ _) Tryz.func30 rfl rfl mask30 rfl rfl ?_
  repeat' (first
    | refine To.nrm_seq ?_
    | refine WC.seq ?_
    | (refine WC.region (id := 0) ?_; ((refine WO.cons ?_; (refine Op1.val (V.assign rfl rfl) rfl rfl ?_))
        <;> (refine WO.nil (Then.intro rfl ?_))))
    | (refine WC.region (id := 1) ?_; ((refine WO.cons ?_; (refine Op1.val (V.assign rfl rfl) rfl rfl ?_))
        <;> (refine WO.nil (Then.intro rfl ?_))))
    | refine WC.block ?_)
  refine WC.sub (L' := [(0, v), (1, .int .i64 d), (5, .int .i64 ((0 : Nat) : Int))]) ⟨rfl, rfl, rfl, trivial⟩ ?_
  refine WC.iter (fun i => [(0, v), (1, .int .i64 d), (5, .int .i64 (i : Int))]) (fun i h' => twiceM l d = (l.drop i).any (fun x => decide (x.d = d)) ∧ Grow h h' ∧ Wf h') l.length ?_ 0 h (Nat.zero_le _) ⟨rfl, Grow.refl h, w⟩
  rintro i h1 hi ⟨he, hg, hw⟩ next
  repeat' (first
    | refine To.nrm_seq ?_
    | refine WC.seq ?_
    | (refine WC.region (id := 2) ?_; ((refine WO.cons ?_; (refine Op1.val (V.move rfl rfl) rfl rfl ?_))
        <;> (refine WO.cons ?_; (refine Op1.val (V.move rfl rfl) rfl rfl ?_))
        <;> (refine WO.cons ?_; (refine Op1.val (V.len hT rfl rfl rfl rfl rfl rfl (by first | rfl | assumption)) rfl rfl ?_))
        <;> (refine WO.cons ?_; ((refine Op1.lss rfl rfl rfl rfl rfl rfl ?_ ?_ <;> intro _)))
        <;> (refine WO.nil (Then.intro rfl ?_))))
    | (refine WC.region (id := 4) ?_; ((refine WO.cons ?_; (refine Op1.val (V.move rfl rfl) rfl rfl ?_))
        <;> (refine WO.cons ?_; (refine Op1.val (V.move rfl rfl) rfl rfl ?_))
        <;> (refine WO.cons ?_; ((refine Op1.index hT rfl rfl rfl rfl rfl rfl rfl (by (repeat (first | assumption | refine SliceAt.grow (by assumption) ?_))) (row_i noInstr (by omega)) ?_; intro kx ox rx kvx)))
        <;> (refine WO.cons ?_; (refine Op1.val (V.fieldAddr hT rfl rfl rfl rfl rfl rfl) rfl rfl ?_))
        <;> (refine WO.cons ?_; (refine Op1.val (V.loadR hT rfl rfl rfl rfl (by assumption) rfl) rfl rfl ?_))
        <;> (refine WO.cons ?_; (refine Op1.val (V.move rfl rfl) rfl rfl ?_))
        <;> (refine WO.cons ?_; ((refine Op1.eql rfl rfl rfl rfl rfl rfl ?_ ?_ <;> intro _)))
        <;> (refine WO.nil (Then.intro rfl ?_))))
    | (refine WC.region (id := 5) ?_; ((refine WO.cons ?_; (refine Op1.val (V.assign rfl rfl) rfl rfl ?_))
        <;> (refine WO.nil (Then.intro rfl ?_))))
    | (refine WC.region (id := 3) ?_; ((refine WO.cons ?_; (refine Op1.val (V.move rfl rfl) rfl rfl ?_))
        <;> (refine WO.cons ?_; (refine Op1.val (V.add rfl rfl rfl rfl (wrapF_i64 (by first | omega | (simp only [Int.ofNat_eq_natCast]; omega)) (by first | omega | (simp only [Int.ofNat_eq_natCast]; omega)))) rfl rfl ?_))
        <;> (refine WO.cons ?_; (refine Op1.val (V.assign rfl rfl) rfl rfl ?_))
        <;> (refine WO.nil (Then.intro rfl ?_))))
    | (refine WC.region (id := 6) ?_; ((refine WO.cons ?_; (refine Op1.val (V.assign rfl rfl) rfl rfl ?_))
        <;> (refine WO.nil (Then.intro rfl ?_))))
    | refine WC.ret ?_
    | refine To.ret_seq ?_
    | refine To.ret_block ?_
    | refine WC.cond_true rfl ?_
    | refine WC.cond_false rfl ?_
    | refine WC.skip ?_
    | refine WC.block ?_
    | refine WC.exit ?_
    | refine To.exit_seq ?_
    | refine To.exit_block ?_
    | refine To.nrm_block ?_
    | refine To.fn_ret rfl ?_)
  · clear next
    exact ⟨by rw [he, any_step _ (by omega) noInstr]; simp_all [resV, InstrD.cells], (by (repeat (first | assumption | exact Grow.refl _ | refine Grow.trans ?_ (by assumption)))), by assumption⟩
  · refine next _ _ (by omega) ⟨rfl, rfl, rfl, trivial⟩ ⟨?_, (by (repeat (first | assumption | exact Grow.refl _ | refine Grow.trans ?_ (by assumption)))), by assumption⟩
    clear next
    rw [he, any_step _ (by omega) noInstr]; simp_all [InstrD.cells]
  · clear next
    exact ⟨by rw [he, List.drop_of_length_le (by omega)]; rfl, (by (repeat (first | assumption | exact Grow.refl _ | refine Grow.trans ?_ (by assumption)))), by assumption⟩
/-- the same numbers -/
theorem sameInts_run (hK : KN base K) (a b : List Int) (va vb : HVal) (h : Heap) (w : Wf h) (ha : SliceAt h va 1 (a.map intCells)) (hb : SliceAt h vb 1 (b.map intCells)) (la : a.length ≤ 1152921504606846976) : Sp P K 31 [va, vb] h (Gives h (.bool (decide (a = b)))) := by
  have l1 : lenV va = some a.length := by simpa using ha.1
  have l2 : lenV vb = some b.length := by simpa using hb.1
  refine Sp.of (m := 33571891) (n := 26) (hK.none 31 rfl rfl _ _) Tryz.func31 rfl rfl mask31 rfl rfl ?_
  repeat' (first
    | refine To.nrm_seq ?_
    | refine WC.seq ?_
    | (refine WC.region (id := 0) ?_; ((refine WO.cons ?_; (refine Op1.val (V.assign rfl rfl) rfl rfl ?_))
        <;> (refine WO.nil (Then.intro rfl ?_))))
    | (refine WC.region (id := 1) ?_; ((refine WO.cons ?_; (refine Op1.val (V.move rfl rfl) rfl rfl ?_))
        <;> (refine WO.cons ?_; (refine Op1.val (V.len hT rfl rfl rfl rfl rfl rfl (by first | rfl | assumption)) rfl rfl ?_))
        <;> (refine WO.cons ?_; (refine Op1.val (V.move rfl rfl) rfl rfl ?_))
        <;> (refine WO.cons ?_; (refine Op1.val (V.len hT rfl rfl rfl rfl rfl rfl (by first | rfl | assumption)) rfl rfl ?_))
        <;> (refine WO.cons ?_; ((refine Op1.neq rfl rfl rfl rfl rfl rfl ?_ ?_ <;> intro _)))
        <;> (refine WO.nil (Then.intro rfl ?_))))
    | (refine WC.region (id := 2) ?_; ((refine WO.cons ?_; (refine Op1.val (V.assign rfl rfl) rfl rfl ?_))
        <;> (refine WO.nil (Then.intro rfl ?_))))
    | (refine WC.region (id := 3) ?_; ((refine WO.cons ?_; (refine Op1.val (V.assign rfl rfl) rfl rfl ?_))
        <;> (refine WO.nil (Then.intro rfl ?_))))
    | refine WC.ret ?_
    | refine To.ret_seq ?_
    | refine WC.cond_true rfl ?_
    | refine WC.cond_false rfl ?_
    | refine WC.skip ?_
    | refine WC.block ?_
    | refine To.fn_ret rfl ?_)
  · exact ⟨by simp only [resV]; rw [decide_eq_false]; rintro rfl; simp_all, Grow.refl _, w⟩
  have hl : a.length = b.length := by omega
  refine WC.sub (L' := [(0, va), (1, vb), (5, .int .i64 ((0 : Nat) : Int))]) ⟨rfl, rfl, rfl, trivial⟩ ?_
  refine WC.iter (fun i => [(0, va), (1, vb), (5, .int .i64 (i : Int))]) (fun i h' => (a = b ↔ a.drop i = b.drop i) ∧ Grow h h' ∧ Wf h') a.length ?_ 0 h (Nat.zero_le _) ⟨by simp, Grow.refl h, w⟩
  rintro i h1 hi ⟨he, hg, hw⟩ next
  repeat' (first
    | refine To.nrm_seq ?_
    | refine WC.seq ?_
    | (refine WC.region (id := 4) ?_; ((refine WO.cons ?_; (refine Op1.val (V.move rfl rfl) rfl rfl ?_))
        <;> (refine WO.cons ?_; (refine Op1.val (V.move rfl rfl) rfl rfl ?_))
        <;> (refine WO.cons ?_; (refine Op1.val (V.len hT rfl rfl rfl rfl rfl rfl (by first | rfl | assumption)) rfl rfl ?_))
        <;> (refine WO.cons ?_; ((refine Op1.lss rfl rfl rfl rfl rfl rfl ?_ ?_ <;> intro _)))
        <;> (refine WO.nil (Then.intro rfl ?_))))
    | (refine WC.draw (id := 6) [0, 1, 2, 3, 4, 5, 6, 7, 8] #[0, 0, 3, 7, 0, 0, 48, 112, 255] (by kernel_rfl) (by kernel_rfl) (by kernel_rfl) ?_; ((refine WD.cons rfl ?_; ((refine Op1.val (V.move rfl rfl) rfl rfl ?_) <;> refine ⟨_, rfl, ?_⟩))
        <;> (refine WD.cons rfl ?_; ((refine Op1.val (V.move rfl rfl) rfl rfl ?_) <;> refine ⟨_, rfl, ?_⟩))
        <;> (refine WD.cons rfl ?_; (((refine Op1.index hT rfl rfl rfl rfl rfl rfl rfl (by first | exact SliceAt.grow hg ha | exact SliceAt.grow hg hb) (row_i (0 : Int) (by omega)) ?_; intro kx ox rx kvx)) <;> refine ⟨_, rfl, ?_⟩))
        <;> (refine WD.cons rfl ?_; ((refine Op1.val (V.loadR0 hT rfl rfl rfl rfl (by assumption) rfl) rfl rfl ?_) <;> refine ⟨_, rfl, ?_⟩))
        <;> (refine WD.cons rfl ?_; ((refine Op1.val (V.move rfl rfl) rfl rfl ?_) <;> refine ⟨_, rfl, ?_⟩))
        <;> (refine WD.cons rfl ?_; ((refine Op1.val (V.move rfl rfl) rfl rfl ?_) <;> refine ⟨_, rfl, ?_⟩))
        <;> (refine WD.cons rfl ?_; (((refine Op1.index hT rfl rfl rfl rfl rfl rfl rfl (by first | exact SliceAt.grow hg ha | exact SliceAt.grow hg hb) (row_i (0 : Int) (by omega)) ?_; intro kx ox rx kvx)) <;> refine ⟨_, rfl, ?_⟩))
        <;> (refine WD.cons rfl ?_; ((refine Op1.val (V.loadR0 hT rfl rfl rfl rfl (by assumption) rfl) rfl rfl ?_) <;> refine ⟨_, rfl, ?_⟩))
        <;> (refine WD.cons rfl ?_; (((refine Op1.neq rfl rfl rfl rfl rfl rfl ?_ ?_ <;> intro _)) <;> refine ⟨_, rfl, ?_⟩))
        <;> (refine WD.nil ⟨?_, Then.intro rfl ?_⟩; (repeat' (first | exact trivial | refine ⟨?_, ?_⟩)))))
    | (refine WC.region (id := 7) ?_; ((refine WO.cons ?_; (refine Op1.val (V.assign rfl rfl) rfl rfl ?_))
        <;> (refine WO.nil (Then.intro rfl ?_))))
    | (refine WC.region (id := 5) ?_; ((refine WO.cons ?_; (refine Op1.val (V.move rfl rfl) rfl rfl ?_))
        <;> (refine WO.cons ?_; (refine Op1.val (V.add rfl rfl rfl rfl (wrapF_i64 (by first | omega | (simp only [Int.ofNat_eq_natCast]; omega)) (by first | omega | (simp only [Int.ofNat_eq_natCast]; omega)))) rfl rfl ?_))
        <;> (refine WO.cons ?_; (refine Op1.val (V.assign rfl rfl) rfl rfl ?_))
        <;> (refine WO.nil (Then.intro rfl ?_))))
    | (refine WC.region (id := 8) ?_; ((refine WO.cons ?_; (refine Op1.val (V.assign rfl rfl) rfl rfl ?_))
        <;> (refine WO.nil (Then.intro rfl ?_))))
    | refine WC.ret ?_
    | refine To.ret_seq ?_
    | refine To.ret_block ?_
    | refine WC.cond_true rfl ?_
    | refine WC.cond_false rfl ?_
    | refine WC.skip ?_
    | refine WC.block ?_
    | refine WC.exit ?_
    | refine To.exit_seq ?_
    | refine To.exit_block ?_
    | refine To.nrm_block ?_
    | refine To.fn_ret rfl ?_)
  · clear next
    refine ⟨?_, (by (repeat (first | assumption | exact Grow.refl _ | refine Grow.trans ?_ (by assumption)))), by assumption⟩
    rw [decide_eq_false]; rfl
    rw [he, drop_eq_iff (by omega) (by omega) 0]
    exact fun e => absurd e.1 (by assumption)
  · refine next _ _ (by omega) ⟨rfl, rfl, rfl, trivial⟩ ⟨?_, (by (repeat (first | assumption | exact Grow.refl _ | refine Grow.trans ?_ (by assumption)))), by assumption⟩
    clear next
    rw [he, drop_eq_iff (by omega) (by omega) 0]
    exact ⟨fun e => e.2, fun e => ⟨by omega, e⟩⟩
  · clear next
    refine ⟨?_, (by (repeat (first | assumption | exact Grow.refl _ | refine Grow.trans ?_ (by assumption)))), by assumption⟩
    rw [decide_eq_true]; rfl
    rw [he, List.drop_of_length_le (by omega), List.drop_of_length_le (by omega)]
end Fv
end Go.HL
