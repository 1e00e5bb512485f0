/- The walk of FlowValid: the reference's search. No statement of the seat stands here. -/
import Derived.Test.YtfmflhdogffjoaaGreatDoorFvM
namespace Go.HL
open Go Go.Proofs
namespace Fv
set_option maxRecDepth 10000
set_option maxHeartbeats 4000000
variable {K : CallFn} {base : List (Nat × HObj)}
def boolCells (b : Bool) : List HVal := [.bool b]
structure GivesBools (h : Heap) (l : List Bool) (v : HVal) (h' : Heap) : Prop where
  held : Held h' v 1 (l.map boolCells)
  grow : Grow h h'
  wf : Wf h'
theorem bools_held {h : Heap} {k e n : Nat} {s : List Bool} {sp r : Bool} {cap : Option Nat} (hg : h.get k = some (.cells (cellsB s) e sp r)) (hn : n = s.length) : Held h (.slice k 0 n cap) 1 (s.map boolCells) := by
  have := sliceAt_one (cap := cap) hg
  unfold cellsB at this
  rw [List.map_map, List.length_map, ← hn] at this
  exact ⟨this, fun j e => by cases e; exact ⟨_, hg⟩⟩
theorem refReached_run (hK : KN base K) (f : FlowD) (h : Heap) (w : Wf h) (r : f.Ok h) (bn : f.nodes.length ≤ 2000) (hn1 : 1 ≤ f.nodes.length) (hlk : f.linked) : Sp P K 28 [.agg f.cells] h (GivesBools h f.reachM) := by
  have ln := r.ln
  have hns := r.nodes
  have h0 := seen0_count f hn1
  have hc := count_both f.seen0
  refine Sp.of (m := 1100585435263) (n := 55) (hK.none 28 rfl rfl _ _) Tryz.func28 rfl rfl mask28 rfl rfl ?_
  repeat' (first
    | refine To.nrm_seq ?_
    | refine WC.seq ?_
    | (refine WC.region (id := 0) ?_; ((refine WO.cons ?_; ((refine Op1.made (M.box rfl rfl rfl) rfl rfl (by assumption) ?_; rintro kb hb ⟨gb, eb, fb, wb, leb, ltb, obb⟩)))
        <;> (refine WO.cons ?_; (refine Op1.val (V.assign rfl rfl) rfl rfl ?_))
        <;> (refine WO.nil (Then.intro rfl ?_))))
    | (refine WC.region (id := 1) ?_; ((refine WO.cons ?_; (refine Op1.val (V.fieldAddr hT rfl rfl rfl rfl rfl rfl) rfl rfl ?_))
        <;> (refine WO.cons ?_; (refine Op1.val (V.load hT rfl rfl rfl rfl (by (repeat (first | assumption | refine Grow.get (by assumption) ?_))) rfl) rfl rfl ?_))
        <;> (refine WO.cons ?_; (refine Op1.val (V.len hT rfl rfl rfl rfl rfl rfl (by first | rfl | assumption)) rfl rfl ?_))
        <;> (refine WO.cons ?_; ((refine Op1.makeB hT rfl rfl rfl rfl b4 (by omega) (by omega) z4 rfl rfl (by assumption) ?_; rintro ks hsn ⟨gq, eq, fq, wq, leq, ltq, oq⟩)))
        <;> (refine WO.cons ?_; (refine Op1.val (V.assign rfl rfl) rfl rfl ?_))
        <;> (refine WO.nil (Then.intro rfl ?_))))
    | (refine WC.region (id := 2) ?_; ((refine WO.cons ?_; (refine Op1.val (V.move rfl rfl) rfl rfl ?_))
        <;> (refine WO.cons ?_; (refine Op1.val (V.indexAddr (j := 0) hT rfl rfl rfl rfl rfl (by omega)) rfl rfl ?_))
        <;> (refine WO.cons ?_; ((refine Op1.storeB (j := 0) (s := List.replicate f.nodes.length false) hT rfl rfl i4 rfl rfl gq (by rw [List.length_replicate]; omega) rfl rfl (by assumption) fq eq ?_; rintro hz gz ez wz oz nz)))
        <;> (refine WO.nil (Then.intro rfl ?_))))
    | (refine WC.region (id := 3) ?_; ((refine WO.cons ?_; ((refine Op1.made (M.buildSlice hT rfl rfl rfl rfl (by first | exact z3 | exact z9 | exact z41) rfl rfl rfl) rfl rfl (by assumption) ?_; rintro kc hc ⟨gc, ec, fc, wc, lec, ltc, oc⟩)))
        <;> (refine WO.cons ?_; (refine Op1.val (V.assign rfl rfl) rfl rfl ?_))
        <;> (refine WO.nil (Then.intro rfl ?_))))
    | refine WC.block ?_)
  have hz2 : (List.replicate f.nodes.length false).set 0 true = f.seen0 := rfl
  rw [hz2] at gz
  refine WC.sub (L' := [(4, .slice kc 0 1 (some 1)), (3, .slice ks 0 f.nodes.length (some f.nodes.length)), (1, .ptr kb 0)]) ⟨rfl, rfl, rfl, trivial⟩ ?_
  refine WC.fall (ι := Nat × List Bool × List Int × HVal) (fun x => [(4, x.2.2.2), (3, .slice ks 0 f.nodes.length (some f.nodes.length)), (1, .ptr kb 0)])
    (fun x h' => x.1 ≤ 2 * f.nodes.length ∧ x.2.1.length = f.nodes.length ∧ (∀ m ∈ x.2.2.1, 0 ≤ m ∧ m < (f.nodes.length : Int)) ∧ bfsM f x.1 x.2.1 x.2.2.1 = f.reachM ∧
      2 * x.2.1.count false + x.2.2.1.length ≤ x.1 ∧ ∃ d, Srch hb ks x.2.1 x.2.2.1 x.2.2.2 d h') (fun x => x.1) ?_ (2 * f.nodes.length, f.seen0, [0], .slice kc 0 1 (some 1)) _
    ⟨Nat.le_refl _, h0.2, by simp; omega, rfl, by simp only [List.length_singleton]; omega, none, ?_⟩
  rotate_left
  · refine ⟨.full gc rfl rfl, fun e => ?_, fun _ e => (by cases e), ec.get gz, fq, ez.trans ec, wc⟩
    cases e; rw [gz] at fc; cases fc
  rintro ⟨fuel, s, q, vt⟩ h2 ⟨hfu, hs1, htr, hbf, hmu, d, sr⟩ next
  simp only at hfu hs1 htr hbf hmu sr next ⊢
  have lvt := sr.app.len
  have hw2 := sr.wf
  have hg2 : Grow hb h2 := sr.grow
  cases q with
  | nil =>
    clear next
    rw [bfsM_nil] at hbf
    subst hbf
    simp only [List.length_nil] at lvt
    repeat' (first
      | refine To.nrm_seq ?_
      | refine WC.seq ?_
      | (refine WC.region (id := 4) ?_; ((refine WO.cons ?_; (refine Op1.val (V.move rfl rfl) rfl rfl ?_))
          <;> (refine WO.cons ?_; (refine Op1.val (V.len hT rfl rfl rfl rfl rfl rfl (by first | rfl | assumption)) rfl rfl ?_))
          <;> (refine WO.cons ?_; ((refine Op1.gtr rfl rfl rfl rfl rfl rfl ?_ ?_ <;> intro _)))
          <;> (refine WO.nil (Then.intro rfl ?_))))
      | (refine WC.region (id := 13) ?_; ((refine WO.cons ?_; (refine Op1.val (V.move rfl rfl) rfl rfl ?_))
          <;> (refine WO.cons ?_; (refine Op1.val (V.assign rfl rfl) rfl rfl ?_))
          <;> (refine WO.nil (Then.intro rfl ?_))))
      | refine WC.ret ?_
      | refine WC.cond_true rfl ?_
      | refine WC.cond_false rfl ?_
      | refine WC.skip ?_
      | refine WC.block ?_
      | refine WC.exit ?_
      | refine To.exit_seq ?_
      | refine To.exit_block ?_
      | refine To.fn_ret rfl ?_)
    all_goals try (exfalso; omega)
    exact ⟨bools_held sr.seen hs1.symm, Grow.trans eb sr.grow, sr.wf⟩
  | cons m q =>
    obtain ⟨j, rfl⟩ : ∃ j : Nat, m = (j : Int) := ⟨m.toNat, by have := htr m (by simp); omega⟩
    have hjn : j < f.nodes.length := by have := htr (j : Int) (by simp); omega
    obtain ⟨fu, rfl⟩ : ∃ fu, fuel = fu + 1 := ⟨fuel - 1, by simp only [List.length_cons] at hmu; omega⟩
    have hbf : bfsM f fu (visitM (f.nodes.getD j noNode).next s q).1 (visitM (f.nodes.getD j noNode).next s q).2 = f.reachM := hbf
    have hlj := hlk _ (getD_mem noNode hjn)
    have nlj := (f.nodes.getD j noNode).next_len
    generalize hnd2 : f.nodes.getD j noNode = nd at hbf hlj nlj
    simp only [List.length_cons] at hmu lvt
    repeat' (first
      | refine To.nrm_seq ?_
      | refine WC.seq ?_
      | (refine WC.region (id := 4) ?_; ((refine WO.cons ?_; (refine Op1.val (V.move rfl rfl) rfl rfl ?_))
          <;> (refine WO.cons ?_; (refine Op1.val (V.len hT rfl rfl rfl rfl rfl rfl (by first | rfl | assumption)) rfl rfl ?_))
          <;> (refine WO.cons ?_; ((refine Op1.gtr rfl rfl rfl rfl rfl rfl ?_ ?_ <;> intro _)))
          <;> (refine WO.nil (Then.intro rfl ?_))))
      | (refine WC.draw (id := 5) [0, 1, 2, 3, 4, 5, 6, 7, 8] #[0, 1, 0, 4, 12, 31, 63, 127, 255] (by kernel_rfl) (by kernel_rfl) (by kernel_rfl) ?_; ((refine WD.cons rfl ?_; ((refine Op1.val (V.fieldAddr hT rfl rfl rfl rfl rfl rfl) rfl rfl ?_) <;> refine ⟨_, rfl, ?_⟩))
          <;> (refine WD.cons rfl ?_; ((refine Op1.val (V.load hT rfl rfl rfl rfl (by (repeat (first | assumption | refine Grow.get (by assumption) ?_))) rfl) rfl rfl ?_) <;> refine ⟨_, rfl, ?_⟩))
          <;> (refine WD.cons rfl ?_; ((refine Op1.val (V.move rfl rfl) rfl rfl ?_) <;> refine ⟨_, rfl, ?_⟩))
          <;> (refine WD.cons rfl ?_; (((refine Op1.index hT rfl rfl rfl rfl rfl rfl rfl sr.numbers (row_is (0 : Int) (i := 0) (by simp) rfl) ?_; intro kx ox rx kvx)) <;> refine ⟨_, rfl, ?_⟩))
          <;> (refine WD.cons rfl ?_; ((refine Op1.val (V.loadR0 hT rfl rfl rfl rfl (by assumption) rfl) rfl rfl ?_) <;> refine ⟨_, rfl, ?_⟩))
          <;> (refine WD.cons rfl ?_; (((refine Op1.index hT rfl rfl rfl rfl rfl rfl rfl (SliceAt.grow (Grow.trans eb sr.grow) hns) (row_is noNode hjn hnd2) ?_; intro kx ox rx kvx)) <;> refine ⟨_, rfl, ?_⟩))
          <;> (refine WD.cons rfl ?_; ((refine Op1.val (V.loadRS hT rfl rfl rfl rfl (by assumption) rfl) rfl rfl ?_) <;> refine ⟨_, rfl, ?_⟩))
          <;> (refine WD.cons rfl ?_; (((refine Op1.sp (C.call rfl rfl rfl rfl ca39) rfl rfl (next2_run hK nd _ (by assumption)) ?_; rintro vk hk ⟨hv, nv, gv, wv⟩; have lvk := hv.slice.len; simp only [List.length_map] at lvk)) <;> refine ⟨_, rfl, ?_⟩))
          <;> (refine WD.cons rfl ?_; ((refine Op1.val (V.assign rfl rfl) rfl rfl ?_) <;> refine ⟨_, rfl, ?_⟩))
          <;> (refine WD.nil ⟨?_, Then.intro rfl ?_⟩; (repeat' (first | exact trivial | refine ⟨?_, ?_⟩ | exact Or.inl rfl)))))
      | (refine WC.region (id := 6) ?_; ((refine WO.cons ?_; (refine Op1.val (V.move rfl rfl) rfl rfl ?_))
          <;> (refine WO.cons ?_; ((refine Op1.sliceTail (c := q.length) hT rfl rfl rfl rfl rfl (sr.app.mono gv) rfl rfl ?_; rintro vq aq kq)))
          <;> (refine WO.cons ?_; (refine Op1.val (V.assign rfl rfl) rfl rfl ?_))
          <;> (refine WO.nil (Then.intro rfl ?_))))
      | (refine WC.region (id := 7) ?_; ((refine WO.cons ?_; (refine Op1.val (V.assign rfl rfl) rfl rfl ?_))
          <;> (refine WO.nil (Then.intro rfl ?_))))
      | (refine WC.region (id := 13) ?_; ((refine WO.cons ?_; (refine Op1.val (V.move rfl rfl) rfl rfl ?_))
          <;> (refine WO.cons ?_; (refine Op1.val (V.assign rfl rfl) rfl rfl ?_))
          <;> (refine WO.nil (Then.intro rfl ?_))))
      | refine WC.ret ?_
      | refine WC.cond_true rfl ?_
      | refine WC.cond_false rfl ?_
      | refine WC.skip ?_
      | refine WC.block ?_
      | refine WC.exit ?_
      | refine To.exit_seq ?_
      | refine To.exit_block ?_
      | refine To.fn_ret rfl ?_)
    all_goals try (exfalso; omega)
    have bs1 := Beside.new sr (Grow.refl h2) hv nv
    have bs0 : Beside ks vq vk (nd.next.map intCells) hk := ⟨bs1.held, bs1.seen, fun k e => bs1.todo k (by rw [← kq]; exact e)⟩
    have sr1 := (sr.more gv wv).pop aq kq
    refine WC.sub (L' := [(6, .int .i64 ((0 : Nat) : Int)), (4, vq), (5, vk), (3, .slice ks 0 f.nodes.length (some f.nodes.length)), (1, .ptr kb 0)]) ⟨rfl, rfl, rfl, rfl, rfl, trivial⟩ ?_
    refine WC.fall (ι := Nat × List Bool × List Int × HVal) (fun x => [(6, .int .i64 (x.1 : Int)), (4, x.2.2.2), (5, vk), (3, .slice ks 0 f.nodes.length (some f.nodes.length)), (1, .ptr kb 0)])
      (fun x h' => x.1 ≤ nd.next.length ∧ x.2.1.length = f.nodes.length ∧ (∀ m ∈ x.2.2.1, 0 ≤ m ∧ m < (f.nodes.length : Int)) ∧ bfsM f fu (visitM (nd.next.drop x.1) x.2.1 x.2.2.1).1 (visitM (nd.next.drop x.1) x.2.1 x.2.2.1).2 = f.reachM ∧
        2 * x.2.1.count false + x.2.2.1.length ≤ fu ∧ Beside ks x.2.2.2 vk (nd.next.map intCells) h' ∧ ∃ d, Srch hb ks x.2.1 x.2.2.1 x.2.2.2 d h') (fun x => nd.next.length - x.1) ?_ (0, s, q, vq) _
      ⟨Nat.zero_le _, hs1, fun m hm => htr m (List.mem_cons_of_mem _ hm), hbf, by simp only; omega, bs0, d, sr1⟩
    clear hbf hmu bs0 bs1 hs1 htr
    rintro ⟨k, s, t, vt⟩ h3 ⟨hkl, hs1, htr, hbf, hmu, bsd, d, sr⟩ next2
    simp only at hkl hs1 htr hbf hmu bsd sr next2 ⊢
    have lvt := sr.app.len
    have hcb := count_both s
    have hw3 := sr.wf
    by_cases hkt : k < nd.next.length
    · obtain ⟨j2, hj2⟩ : ∃ j2 : Nat, nd.next.getD k 0 = (j2 : Int) := ⟨(nd.next.getD k 0).toNat, by have := hlj _ (getD_mem (0 : Int) hkt); omega⟩
      have hjn2 : j2 < f.nodes.length := by have := hlj _ (getD_mem (0 : Int) hkt); omega
      rw [visitM_step hkt hj2] at hbf
      repeat' (first
        | refine To.nrm_seq ?_
        | refine WC.seq ?_
        | (refine WC.region (id := 8) ?_; ((refine WO.cons ?_; (refine Op1.val (V.move rfl rfl) rfl rfl ?_))
            <;> (refine WO.cons ?_; (refine Op1.val (V.move rfl rfl) rfl rfl ?_))
            <;> (refine WO.cons ?_; (refine Op1.val (V.len hT rfl rfl rfl rfl rfl rfl (by first | rfl | assumption)) rfl rfl ?_))
            <;> (refine WO.cons ?_; ((refine Op1.lss rfl rfl rfl rfl rfl rfl ?_ ?_ <;> intro _)))
            <;> (refine WO.nil (Then.intro rfl ?_))))
        | (refine WC.region (id := 10) ?_; ((refine WO.cons ?_; (refine Op1.val (V.move rfl rfl) rfl rfl ?_))
            <;> (refine WO.cons ?_; (refine Op1.val (V.move rfl rfl) rfl rfl ?_))
            <;> (refine WO.cons ?_; (refine Op1.val (V.move rfl rfl) rfl rfl ?_))
            <;> (refine WO.cons ?_; ((refine Op1.index hT rfl rfl rfl rfl rfl rfl rfl bsd.held.slice (row_is (0 : Int) hkt hj2) ?_; intro kx ox rx kvx)))
            <;> (refine WO.cons ?_; (refine Op1.val (V.loadR0 hT rfl rfl rfl rfl (by assumption) rfl) rfl rfl ?_))
            <;> (refine WO.cons ?_; (refine Op1.val (V.indexAddr (j := j2) hT rfl rfl rfl rfl rfl hjn2) rfl rfl ?_))
            <;> (refine WO.cons ?_; ((refine Op1.loadBo (j := j2) hT rfl rfl rfl sr.seen (by omega) rfl rfl ?_ ?_ <;> intro hsj)))
            <;> (refine WO.cons ?_; (first | refine Op1.val (V.not_true rfl rfl) rfl rfl ?_ | refine Op1.val (V.not_false rfl rfl) rfl rfl ?_))
            <;> (refine WO.nil (Then.intro rfl ?_))))
        | (refine WC.region (id := 11) ?_; ((refine WO.cons ?_; (refine Op1.val (V.move rfl rfl) rfl rfl ?_))
            <;> (refine WO.cons ?_; (refine Op1.val (V.move rfl rfl) rfl rfl ?_))
            <;> (refine WO.cons ?_; (refine Op1.val (V.move rfl rfl) rfl rfl ?_))
            <;> (refine WO.cons ?_; ((refine Op1.index hT rfl rfl rfl rfl rfl rfl rfl bsd.held.slice (row_is (0 : Int) hkt hj2) ?_; intro kx ox rx kvx)))
            <;> (refine WO.cons ?_; (refine Op1.val (V.loadR0 hT rfl rfl rfl rfl (by assumption) rfl) rfl rfl ?_))
            <;> (refine WO.cons ?_; (refine Op1.val (V.indexAddr (j := j2) hT rfl rfl rfl rfl rfl hjn2) rfl rfl ?_))
            <;> (refine WO.cons ?_; ((refine Op1.storeB (j := j2) (s := s) hT rfl rfl i4 rfl rfl sr.seen (by omega) rfl rfl (by assumption) sr.new sr.grow ?_; rintro hz gz ez wz oz nz)))
            <;> (refine WO.nil (Then.intro rfl ?_))))
        | (refine WC.region (id := 12) ?_; ((refine WO.cons ?_; (refine Op1.val (V.move rfl rfl) rfl rfl ?_))
            <;> (refine WO.cons ?_; (refine Op1.val (V.move rfl rfl) rfl rfl ?_))
            <;> (refine WO.cons ?_; (refine Op1.val (V.move rfl rfl) rfl rfl ?_))
            <;> (refine WO.cons ?_; ((refine Op1.index hT rfl rfl rfl rfl rfl rfl rfl (bsd.mark oz).held.slice (row_is (0 : Int) hkt hj2) ?_; intro kx ox rx kvx)))
            <;> (refine WO.cons ?_; (refine Op1.val (V.loadR0 hT rfl rfl rfl rfl (by assumption) rfl) rfl rfl ?_))
            <;> (refine WO.cons ?_; ((refine Op1.made (M.buildSlice hT rfl rfl rfl rfl (by first | exact z3 | exact z9 | exact z41) rfl rfl rfl) rfl rfl (by assumption) ?_; rintro kc hc ⟨gc, ec, fc, wc, lec, ltc, oc⟩)))
            <;> (refine WO.cons ?_; ((refine Op1.append hT rfl rfl rfl rfl rfl rfl rfl rfl z3 rfl rfl rfl b3 rfl rfl rfl (((sr.mark gz ez wz oz).app.mono ec)) (row_all gc) rfl rfl (by first | omega | (skip)) (by assumption) rfl rfl ?_; rintro kp hp ⟨ap, gp, fp, lep, op, wpp, npp⟩)))
            <;> (refine WO.cons ?_; (refine Op1.val (V.assign rfl rfl) rfl rfl ?_))
            <;> (refine WO.nil (Then.intro rfl ?_))))
        | (refine WC.region (id := 9) ?_; ((refine WO.cons ?_; (refine Op1.val (V.move rfl rfl) rfl rfl ?_))
            <;> (refine WO.cons ?_; (refine Op1.val (V.add rfl rfl rfl rfl (wrapF_i64 (by first | omega | (simp only [Int.ofNat_eq_natCast]; omega)) (by first | omega | (simp only [Int.ofNat_eq_natCast]; omega)))) rfl rfl ?_))
            <;> (refine WO.cons ?_; (refine Op1.val (V.assign rfl rfl) rfl rfl ?_))
            <;> (refine WO.nil (Then.intro rfl ?_))))
        | refine WC.cond_true rfl ?_
        | refine WC.cond_false rfl ?_
        | refine WC.skip ?_
        | refine WC.block ?_
        | refine WC.exit ?_
        | refine To.exit_seq ?_
        | refine To.exit_block ?_
        | refine To.nrm_block ?_)
      all_goals try (exfalso; omega)
      · rw [if_pos hsj] at hbf
        exact next2 (k + 1, s, t, vt) _ _ (by simp only; omega) ⟨rfl, rfl, rfl, rfl, rfl, trivial⟩ ⟨by simp only; omega, hs1, htr, hbf, hmu, bsd, d, sr⟩
      · rw [if_neg (by rw [hsj]; decide)] at hbf
        have hcs := count_set (s := s) (j := j2) (by omega) hsj
        have sr2 := (sr.mark gz ez wz oz).more ec wc
        refine next2 (k + 1, s.set j2 true, t ++ [(j2 : Int)], _) _ _ (by simp only; omega) ⟨rfl, rfl, rfl, rfl, rfl, trivial⟩
          ⟨by simp only; omega, by simpa using hs1, fun m hm => ?_, hbf, by simp only [List.length_append, List.length_singleton]; omega,
            ((bsd.mark oz).more ec).push sr2.app (Appended.mk ap gp fp lep op wpp npp), some kp, sr2.push (Appended.mk ap gp fp lep op wpp npp)⟩
        rcases List.mem_append.1 hm with hm | hm
        · exact htr m hm
        · rw [List.mem_singleton.1 hm]; omega
    · have hke : k = nd.next.length := by omega
      subst hke
      rw [List.drop_of_length_le (Nat.le_refl _)] at hbf
      clear next2
      repeat' (first
        | refine To.nrm_seq ?_
        | refine WC.seq ?_
        | (refine WC.region (id := 8) ?_; ((refine WO.cons ?_; (refine Op1.val (V.move rfl rfl) rfl rfl ?_))
            <;> (refine WO.cons ?_; (refine Op1.val (V.move rfl rfl) rfl rfl ?_))
            <;> (refine WO.cons ?_; (refine Op1.val (V.len hT rfl rfl rfl rfl rfl rfl (by first | rfl | assumption)) rfl rfl ?_))
            <;> (refine WO.cons ?_; ((refine Op1.lss rfl rfl rfl rfl rfl rfl ?_ ?_ <;> intro _)))
            <;> (refine WO.nil (Then.intro rfl ?_))))
        | refine WC.cond_true rfl ?_
        | refine WC.cond_false rfl ?_
        | refine WC.skip ?_
        | refine WC.block ?_
        | refine WC.exit ?_
        | refine To.exit_seq ?_
        | refine To.exit_block ?_
        | refine To.nrm_block ?_)
      all_goals try (exfalso; omega)
      exact next (fu, s, t, vt) _ _ (by simp only; omega) ⟨rfl, rfl, rfl, trivial⟩ ⟨by simp only; omega, hs1, htr, hbf, by simp only; omega, d, sr⟩
end Fv
end Go.HL
