/- The walk of FlowValid: names. No statement of the seat stands here. -/
import Derived.Test.YtfmflhdogffjoaaGreatDoorFvC
namespace Go.HL
open Go Go.Proofs
namespace Fv
set_option maxRecDepth 10000
variable {K : CallFn} {base : List (Nat × HObj)}
def strCells (p : Nat × Nat) : List HVal := [.str p.1 p.2]
def noStr : Nat × Nat := (0, 0)
def inM (p : Nat × Nat) (l : List (Nat × Nat)) : Bool := l.any fun q => decide (q = p)
theorem in_run (hK : KN base K) (p : Nat × Nat) (l : List (Nat × Nat)) (v : HVal) (h : Heap) (w : Wf h) (hs : SliceAt h v 1 (l.map strCells)) (hb : l.length ≤ 1152921504606846976) : Sp P K 46 [.str p.1 p.2, v] h (Gives h (.bool (inM p l))) := by
  have ll : lenV v = some l.length := by simpa using hs.1
  refine Sp.of (m := 131635) (n := 18) (hK.none 46 rfl rfl _ _) Tryz.func46 rfl rfl mask46 rfl rfl ?_
  repeat' (first
    | refine To.nrm_seq ?_
    | refine WC.seq ?_
    | (refine WC.region (id := 0) ?_; ((refine WO.cons ?_; (refine Op1.val (V.assign rfl rfl) rfl rfl ?_))
        <;> (refine WO.nil (Then.intro rfl ?_))))
    | (refine WC.region (id := 1) ?_; ((refine WO.cons ?_; (refine Op1.val (V.assign rfl rfl) rfl rfl ?_))
        <;> (refine WO.nil (Then.intro rfl ?_))))
    | refine WC.block ?_)
  refine WC.sub (L' := [(0, .str p.1 p.2), (1, v), (5, .int .i64 ((0 : Nat) : Int))]) ⟨rfl, rfl, rfl, trivial⟩ ?_
  refine WC.iter (fun i => [(0, .str p.1 p.2), (1, v), (5, .int .i64 (i : Int))]) (fun i h' => inM p l = (l.drop i).any (fun q => decide (q = p)) ∧ Grow h h' ∧ Wf h') l.length ?_ 0 h (Nat.zero_le _) ⟨rfl, Grow.refl h, w⟩
  rintro i h1 hi ⟨he, hg, hw⟩ next
  repeat' (first
    | refine To.nrm_seq ?_
    | refine WC.seq ?_
    | (refine WC.region (id := 2) ?_; ((refine WO.cons ?_; (refine Op1.val (V.move rfl rfl) rfl rfl ?_))
        <;> (refine WO.cons ?_; (refine Op1.val (V.move rfl rfl) rfl rfl ?_))
        <;> (refine WO.cons ?_; (refine Op1.val (V.len hT rfl rfl rfl rfl rfl rfl (by first | rfl | assumption)) rfl rfl ?_))
        <;> (refine WO.cons ?_; ((refine Op1.lss rfl rfl rfl rfl rfl rfl ?_ ?_ <;> intro _)))
        <;> (refine WO.nil (Then.intro rfl ?_))))
    | (refine WC.region (id := 4) ?_; ((refine WO.cons ?_; (refine Op1.val (V.move rfl rfl) rfl rfl ?_))
        <;> (refine WO.cons ?_; (refine Op1.val (V.move rfl rfl) rfl rfl ?_))
        <;> (refine WO.cons ?_; ((refine Op1.index hT rfl rfl rfl rfl rfl rfl rfl (by (repeat (first | assumption | refine SliceAt.grow (by assumption) ?_))) (row_i noStr (by omega)) ?_; intro kx ox rx kvx)))
        <;> (refine WO.cons ?_; (refine Op1.val (V.loadR0 hT rfl rfl rfl rfl (by assumption) rfl) rfl rfl ?_))
        <;> (refine WO.cons ?_; (refine Op1.val (V.move rfl rfl) rfl rfl ?_))
        <;> (refine WO.cons ?_; ((refine Op1.eqS rfl rfl rfl rfl rfl ?_ ?_ <;> intro _)))
        <;> (refine WO.nil (Then.intro rfl ?_))))
    | (refine WC.region (id := 5) ?_; ((refine WO.cons ?_; (refine Op1.val (V.assign rfl rfl) rfl rfl ?_))
        <;> (refine WO.nil (Then.intro rfl ?_))))
    | (refine WC.region (id := 3) ?_; ((refine WO.cons ?_; (refine Op1.val (V.move rfl rfl) rfl rfl ?_))
        <;> (refine WO.cons ?_; (refine Op1.val (V.add rfl rfl rfl rfl (wrapF_i64 (by first | omega | (simp only [Int.ofNat_eq_natCast]; omega)) (by first | omega | (simp only [Int.ofNat_eq_natCast]; omega)))) rfl rfl ?_))
        <;> (refine WO.cons ?_; (refine Op1.val (V.assign rfl rfl) rfl rfl ?_))
        <;> (refine WO.nil (Then.intro rfl ?_))))
    | (refine WC.region (id := 6) ?_; ((refine WO.cons ?_; (refine Op1.val (V.assign rfl rfl) rfl rfl ?_))
        <;> (refine WO.nil (Then.intro rfl ?_))))
    | refine WC.ret ?_
    | refine To.ret_seq ?_
    | refine To.ret_block ?_
    | refine WC.cond_true rfl ?_
    | refine WC.cond_false rfl ?_
    | refine WC.skip ?_
    | refine WC.block ?_
    | refine WC.exit ?_
    | refine To.exit_seq ?_
    | refine To.exit_block ?_
    | refine To.nrm_block ?_
    | refine To.fn_ret rfl ?_)
  · clear next
    refine ⟨?_, (by (repeat (first | assumption | exact Grow.refl _ | refine Grow.trans ?_ (by assumption)))), by assumption⟩
    rw [he, any_step _ (by omega) noStr, decide_eq_true (Prod.ext_iff.2 (by assumption))]; rfl
  · refine next _ _ (by omega) ⟨rfl, rfl, rfl, trivial⟩ ⟨?_, (by (repeat (first | assumption | exact Grow.refl _ | refine Grow.trans ?_ (by assumption)))), by assumption⟩
    clear next
    rw [he, any_step _ (by omega) noStr, decide_eq_false (fun e => absurd (Prod.ext_iff.1 e) (by assumption))]; rfl
  · clear next
    exact ⟨by rw [he, List.drop_of_length_le (by omega)]; rfl, (by (repeat (first | assumption | exact Grow.refl _ | refine Grow.trans ?_ (by assumption)))), by assumption⟩
def GivesStrs (h : Heap) (l : List (Nat × Nat)) (v : HVal) (h' : Heap) : Prop := SliceAt h' v 1 (l.map strCells) ∧ Grow h h' ∧ Wf h'
theorem strs_cells {h h' : Heap} {k e : Nat} {l : List (Nat × Nat)} {s r : Bool} {cap : Option Nat} {cs : List HVal} (hg : h'.get k = some (.cells cs e s r)) (hc : cs = l.map strKey) (g : Grow h h') (w : Wf h') {n : Nat} (hn : n = l.length) : GivesStrs h l (.slice k 0 n cap) h' := by
  subst hc
  subst hn
  have := sliceAt_one (cap := cap) hg
  rw [List.map_map, List.length_map] at this
  exact ⟨this, g, w⟩
theorem refWords_run (hK : KN base K) (h : Heap) (w : Wf h) : Sp P K 106 [] h (GivesStrs h wordList) := by
  refine Sp.of (m := 1) (n := 2) (hK.none 106 rfl rfl _ _) Tryz.func106 rfl rfl mask106 rfl rfl ?_
  repeat' (first
    | refine To.nrm_seq ?_
    | refine WC.seq ?_
    | (refine WC.region (id := 0) ?_; ((refine WO.cons ?_; (refine Op1.val (V.assign rfl rfl) rfl rfl ?_))
        <;> (refine WO.nil (Then.intro rfl ?_))))
    | (refine WC.region (id := 1) ?_; ((refine WO.cons ?_; ((refine Op1.made (M.buildSlice hT rfl rfl rfl rfl (by first | exact z3 | exact z9 | exact z41) rfl rfl rfl) rfl rfl (by assumption) ?_; rintro kc hc ⟨gc, ec, fc, wc, lec, ltc, oc⟩)))
        <;> (refine WO.cons ?_; (refine Op1.val (V.assign rfl rfl) rfl rfl ?_))
        <;> (refine WO.nil (Then.intro rfl ?_))))
    | refine WC.ret ?_
    | refine To.fn_ret rfl ?_)
  exact strs_cells (by assumption) rfl (by (repeat (first | assumption | exact Grow.refl _ | refine Grow.trans ?_ (by assumption)))) (by assumption) rfl
theorem words_run (hK : KN base K) (h : Heap) (w : Wf h) (hB : Based base h) : Sp P K 72 [] h fun v h' => ∃ k, v = .map k ∧ MapAt strKey h' k ((wordList.map fun q => (q, true)).map cellB) ∧ Grow h h' ∧ Wf h' :=
  ⟨_, _, Does.known (hK.words h hB), _, rfl, ⟨_, _, _, (made_new w _).get, ents_zip _ _⟩, (made_new w _).ext, (made_new w _).wf⟩
def byteM (p : Nat × Nat) (i : Nat) : Int := Int.ofNat (sIndex p.1 p.2 i)
def restM (p : Nat × Nat) (i : Nat) : Bool := ((List.range p.1).drop i).all fun i => innerM (byteM p i)
theorem restM_step {p : Nat × Nat} {i : Nat} (hi : i < p.1) : restM p i = (innerM (byteM p i) && restM p (i + 1)) := by
  unfold restM
  rw [all_step _ (by simpa using hi) 0]
  simp [List.getD, hi]
theorem restM_end {p : Nat × Nat} {i : Nat} (hi : p.1 ≤ i) : restM p i = true := by
  unfold restM
  rw [List.drop_of_length_le (by simpa using hi)]; rfl
def shapedM (p : Nat × Nat) : Bool := !decide (p.1 = 0) && letterM (byteM p 0) && restM p 0
theorem shaped_run (hK : KN base K) (p : Nat × Nat) (hp : NameOk p) (h : Heap) (w : Wf h) : Sp P K 105 [.str p.1 p.2] h (Gives h (.bool (shapedM p))) := by
  have hp1 := hp.len
  have hp2 := hp.zero
  refine Sp.of (m := 4229133) (n := 23) (hK.none 105 rfl rfl _ _) Tryz.func105 rfl rfl mask105 rfl rfl ?_
  repeat' (first
    | refine To.nrm_seq ?_
    | refine WC.seq ?_
    | (refine WC.region (id := 0) ?_; ((refine WO.cons ?_; (refine Op1.val (V.assign rfl rfl) rfl rfl ?_))
        <;> (refine WO.nil (Then.intro rfl ?_))))
    | (refine WC.region (id := 1) ?_; ((refine WO.cons ?_; (refine Op1.val (V.move rfl rfl) rfl rfl ?_))
        <;> (refine WO.cons ?_; ((refine Op1.eqE rfl rfl rfl rfl rfl ?_ ?_ <;> intro _)))
        <;> (refine WO.cons ?_; (refine Op1.val (V.move rfl rfl) rfl rfl ?_))
        <;> (refine WO.cons ?_; (first | refine Op1.skip rfl rfl rfl ?_ | refine Op1.val (V.move rfl rfl) rfl rfl ?_))
        <;> (refine WO.cons ?_; (first | refine Op1.skip rfl rfl rfl ?_ | refine Op1.val (V.indexS hT rfl rfl rfl rfl (by first | omega | (show (0 : Nat) < _; omega))) rfl rfl ?_))
        <;> (refine WO.cons ?_; (first | refine Op1.skip rfl rfl rfl ?_ | (refine Op1.spB (C.call rfl rfl rfl rfl ca140) rfl rfl (letter2_run hK _ _ (by assumption)) ?_ ?_ <;> (rintro _ ⟨_, _⟩ _))))
        <;> (refine WO.cons ?_; (first | refine Op1.skip rfl rfl rfl ?_ | refine Op1.val (V.not_true rfl rfl) rfl rfl ?_ | refine Op1.val (V.not_false rfl rfl) rfl rfl ?_))
        <;> (refine WO.cons ?_; (first | refine Op1.val (V.pick_true rfl rfl rfl) rfl rfl ?_ | refine Op1.val (V.pick_false rfl rfl rfl) rfl rfl ?_))
        <;> (refine WO.nil (Then.intro rfl ?_))))
    | (refine WC.region (id := 2) ?_; ((refine WO.cons ?_; (refine Op1.val (V.assign rfl rfl) rfl rfl ?_))
        <;> (refine WO.nil (Then.intro rfl ?_))))
    | (refine WC.region (id := 3) ?_; ((refine WO.cons ?_; (refine Op1.val (V.assign rfl rfl) rfl rfl ?_))
        <;> (refine WO.nil (Then.intro rfl ?_))))
    | refine WC.ret ?_
    | refine To.ret_seq ?_
    | refine WC.cond_true rfl ?_
    | refine WC.cond_false rfl ?_
    | refine WC.skip ?_
    | refine WC.block ?_
    | refine To.fn_ret rfl ?_)
  · exact ⟨by simp_all [resV, shapedM], (by (repeat (first | assumption | exact Grow.refl _ | refine Grow.trans ?_ (by assumption)))), by assumption⟩
  all_goals try (refine ⟨?_, (by (repeat (first | assumption | exact Grow.refl _ | refine Grow.trans ?_ (by assumption)))), by assumption⟩; simp only [resV]; unfold shapedM byteM; simp_all; done)
  refine WC.sub (L' := [(0, .str p.1 p.2), (3, .int .i64 ((0 : Nat) : Int))]) ⟨rfl, rfl, trivial⟩ ?_
  refine WC.iter (fun i => [(0, .str p.1 p.2), (3, .int .i64 (i : Int))]) (fun i h' => shapedM p = restM p i ∧ Grow h h' ∧ Wf h') p.1 ?_ 0 _ (Nat.zero_le _) ⟨by (have : ¬ p.1 = 0 := by omega); unfold shapedM byteM; simp_all, (by (repeat (first | assumption | exact Grow.refl _ | refine Grow.trans ?_ (by assumption)))), by assumption⟩
  rintro i h1 hi ⟨he, hg, hw⟩ next
  repeat' (first
    | refine To.nrm_seq ?_
    | refine WC.seq ?_
    | (refine WC.region (id := 4) ?_; ((refine WO.cons ?_; (refine Op1.val (V.move rfl rfl) rfl rfl ?_))
        <;> (refine WO.cons ?_; (refine Op1.val (V.move rfl rfl) rfl rfl ?_))
        <;> (refine WO.cons ?_; (refine Op1.val (V.lenS hT rfl rfl rfl rfl rfl rfl) rfl rfl ?_))
        <;> (refine WO.cons ?_; ((refine Op1.lss rfl rfl rfl rfl rfl rfl ?_ ?_ <;> intro _)))
        <;> (refine WO.nil (Then.intro rfl ?_))))
    | (refine WC.region (id := 6) ?_; ((refine WO.cons ?_; (refine Op1.val (V.move rfl rfl) rfl rfl ?_))
        <;> (refine WO.cons ?_; (refine Op1.val (V.move rfl rfl) rfl rfl ?_))
        <;> (refine WO.cons ?_; (refine Op1.val (V.indexS hT rfl rfl rfl rfl (by first | omega | (show (0 : Nat) < _; omega))) rfl rfl ?_))
        <;> (refine WO.cons ?_; ((refine Op1.spB (C.call rfl rfl rfl rfl ca144) rfl rfl (inner2_run hK _ _ (by assumption)) ?_ ?_ <;> (rintro _ ⟨_, _⟩ _))))
        <;> (refine WO.cons ?_; (first | refine Op1.val (V.not_true rfl rfl) rfl rfl ?_ | refine Op1.val (V.not_false rfl rfl) rfl rfl ?_))
        <;> (refine WO.nil (Then.intro rfl ?_))))
    | (refine WC.region (id := 7) ?_; ((refine WO.cons ?_; (refine Op1.val (V.assign rfl rfl) rfl rfl ?_))
        <;> (refine WO.nil (Then.intro rfl ?_))))
    | (refine WC.region (id := 5) ?_; ((refine WO.cons ?_; (refine Op1.val (V.move rfl rfl) rfl rfl ?_))
        <;> (refine WO.cons ?_; (refine Op1.val (V.add rfl rfl rfl rfl (wrapF_i64 (by first | omega | (simp only [Int.ofNat_eq_natCast]; omega)) (by first | omega | (simp only [Int.ofNat_eq_natCast]; omega)))) rfl rfl ?_))
        <;> (refine WO.cons ?_; (refine Op1.val (V.assign rfl rfl) rfl rfl ?_))
        <;> (refine WO.nil (Then.intro rfl ?_))))
    | (refine WC.region (id := 8) ?_; ((refine WO.cons ?_; (refine Op1.val (V.assign rfl rfl) rfl rfl ?_))
        <;> (refine WO.nil (Then.intro rfl ?_))))
    | refine WC.ret ?_
    | refine To.ret_seq ?_
    | refine To.ret_block ?_
    | refine WC.cond_true rfl ?_
    | refine WC.cond_false rfl ?_
    | refine WC.skip ?_
    | refine WC.block ?_
    | refine WC.exit ?_
    | refine To.exit_seq ?_
    | refine To.exit_block ?_
    | refine To.nrm_block ?_
    | refine To.fn_ret rfl ?_)
  · refine next _ _ (by omega) ⟨rfl, rfl, trivial⟩ ⟨?_, (by (repeat (first | assumption | exact Grow.refl _ | refine Grow.trans ?_ (by assumption)))), by assumption⟩
    clear next
    rw [he, restM_step (by omega)]; unfold byteM; simp_all
  · clear next
    refine ⟨?_, (by (repeat (first | assumption | exact Grow.refl _ | refine Grow.trans ?_ (by assumption)))), by assumption⟩
    rw [he, restM_step (by omega)]; unfold byteM; simp_all [resV]
  · clear next
    exact ⟨by rw [he, restM_end (by omega)]; rfl, (by (repeat (first | assumption | exact Grow.refl _ | refine Grow.trans ?_ (by assumption)))), by assumption⟩
def nameM (p : Nat × Nat) : Bool := shapedM p && decide (p.1 ≤ 16) && !inM p wordList
theorem refName_run (hK : KN base K) (p : Nat × Nat) (hp : NameOk p) (h : Heap) (w : Wf h) : Sp P K 76 [.str p.1 p.2] h (Gives h (.bool (nameM p))) := by
  have hp1 := hp.len
  refine Sp.of (m := 5) (n := 16) (hK.none 76 rfl rfl _ _) Tryz.func76 rfl rfl mask76 rfl rfl ?_
  repeat' (first
    | refine To.nrm_seq ?_
    | refine WC.seq ?_
    | (refine WC.region (id := 0) ?_; ((refine WO.cons ?_; (refine Op1.val (V.assign rfl rfl) rfl rfl ?_))
        <;> (refine WO.nil (Then.intro rfl ?_))))
    | (refine WC.region (id := 1) ?_; ((refine WO.cons ?_; (refine Op1.val (V.move rfl rfl) rfl rfl ?_))
        <;> (refine WO.cons ?_; ((refine Op1.spB (C.call rfl rfl rfl rfl ca105) rfl rfl (shaped_run hK p hp _ (by assumption)) ?_ ?_ <;> (rintro _ ⟨_, _⟩ _))))
        <;> (refine WO.cons ?_; (refine Op1.val (V.move rfl rfl) rfl rfl ?_))
        <;> (refine WO.cons ?_; (first | refine Op1.skip rfl rfl rfl ?_ | refine Op1.val (V.move rfl rfl) rfl rfl ?_))
        <;> (refine WO.cons ?_; (first | refine Op1.skip rfl rfl rfl ?_ | refine Op1.val (V.lenS hT rfl rfl rfl rfl rfl rfl) rfl rfl ?_))
        <;> (refine WO.cons ?_; (first | refine Op1.skip rfl rfl rfl ?_ | (refine Op1.leq rfl rfl rfl rfl rfl rfl ?_ ?_ <;> intro _)))
        <;> (refine WO.cons ?_; (first | refine Op1.val (V.pick_true rfl rfl rfl) rfl rfl ?_ | refine Op1.val (V.pick_false rfl rfl rfl) rfl rfl ?_))
        <;> (refine WO.cons ?_; (refine Op1.val (V.move rfl rfl) rfl rfl ?_))
        <;> (refine WO.cons ?_; (first | refine Op1.skip rfl rfl rfl ?_ | refine Op1.val (V.move rfl rfl) rfl rfl ?_))
        <;> (refine WO.cons ?_; (first | refine Op1.skip rfl rfl rfl ?_ | (refine Op1.sp (C.call rfl rfl rfl rfl ca106) rfl rfl (refWords_run hK _ (by assumption)) ?_; rintro _ _ ⟨_, _, _⟩)))
        <;> (refine WO.cons ?_; (first | refine Op1.skip rfl rfl rfl ?_ | (refine Op1.spB (C.call rfl rfl rfl rfl ca46) rfl rfl (in_run hK p wordList _ _ (by assumption) (by (repeat (first | assumption | refine SliceAt.grow (by assumption) ?_))) (by decide)) ?_ ?_ <;> (rintro _ ⟨_, _⟩ _))))
        <;> (refine WO.cons ?_; (first | refine Op1.skip rfl rfl rfl ?_ | refine Op1.val (V.not_true rfl rfl) rfl rfl ?_ | refine Op1.val (V.not_false rfl rfl) rfl rfl ?_))
        <;> (refine WO.cons ?_; (first | refine Op1.val (V.pick_true rfl rfl rfl) rfl rfl ?_ | refine Op1.val (V.pick_false rfl rfl rfl) rfl rfl ?_))
        <;> (refine WO.cons ?_; (refine Op1.val (V.assign rfl rfl) rfl rfl ?_))
        <;> (refine WO.nil (Then.intro rfl ?_))))
    | refine WC.ret ?_
    | refine To.fn_ret rfl ?_)
  all_goals (refine ⟨?_, by (repeat (first | assumption | exact Grow.refl _ | refine Grow.trans ?_ (by assumption))), by assumption⟩; first | (simp_all [resV, nameM]; done) | (simp_all [resV, nameM]; omega) | (simp_all [resV, nameM]; intros; exfalso; omega) | (simp_all [resV, nameM]; split <;> intros <;> first | omega | (exfalso; omega) | simp_all))
end Fv
end Go.HL
