/- The walk: the program reads code, the law of the words read. No statement of the seat stands here. -/
import Derived.Test.YtngeipnhbigdmaaGreatDoorMH
import Derived.Test.YtngeipnhbigdmaaGreatDoorXC
set_option linter.unusedVariables false
set_option linter.unusedSimpArgs false
namespace Go.HL
open Go Go.Proofs
namespace Em
set_option maxRecDepth 10000
variable {K : CallFn} {base : List (Nat × HObj)}
theorem words_cut {C : List Part} {h : Heap} {v : HVal} {l : List Nat} (r : Ro C h (words v l)) (hl : 3 ≤ l.length) : Ro C h (words (cutV v 2 (l.length - 1) 1) ((l.drop 2).take (l.length - 3))) := by
  have := r.cut (j := 2) (b := l.length - 1) (by simp; omega) (by simp)
  rw [show l.length - 1 - 2 = l.length - 3 by omega] at this
  unfold words
  rw [List.map_take, List.map_drop]
  exact this
theorem decode_run (hK : KN base K) (u : HVal) (l : List Nat) (h : Heap) (w : Wf h) (hB : Ro [] h (lies base)) (hr : (words u l).holds h) (hw : ∀ x ∈ l, x < 4294967296) (hll : l.length ≤ 4611686018427387904) :
    Sp P K 16 [u] h (Tr (fun x C' => match ansP V l with
      | some c => ∃ pv sv iv, x = .tuple [codeV c pv sv iv, i64 0] ∧ C' = codeParts c pv sv iv
      | none => x = .tuple [.agg z26c, i64 8] ∧ C' = []) h) := by
  have hlen := words_len hr
  refine Sp.start (m := 288731787813781757) (n := 62) w (hK.none 16 rfl rfl _ _) Tryz.func16 rfl rfl mask16 rfl rfl ?_
  repeat' (first
    | refine ToX.nrm_seq ?_
    | refine WCX.seq ?_
    | (refine WCX.region (id := 0) ?_; (iterate 2 (refine .cons (q hX rfl ?_))) <;> (refine .nil (.intro rfl ?_)))
    | (refine WCX.region (id := 1) ?_; ((refine .cons (q hX rfl ?_))) <;> ((refine .cons (ql hX rfl rfl rfl rfl rfl rfl (by assumption) rfl rfl ?_))) <;> ((refine .cons (qc rfl ?_ ?_)) <;> intro _) <;> (iterate 2 (refine .cons (q hX rfl ?_))) <;> (first | (refine .cons (q hX rfl ?_)) | (refine .cons (qidx hX rfl rfl rfl rfl rfl (.of hr.2) (row_i (i := 0) (0 : Nat) (show 0 < l.length by omega)) rfl rfl rfl ?_))) <;> ((refine .cons (q hX rfl ?_))) <;> (first | (refine .cons (q hX rfl ?_)) | (refine .cons (qc rfl ?_ ?_)) <;> intro _) <;> ((refine .cons (q hX rfl ?_))) <;> (refine .nil (.intro rfl ?_)))
    | (refine WCX.region (id := 2) ?_; (iterate 3 (refine .cons (q hX rfl ?_))) <;> (refine .nil (.intro rfl ?_)))
    | refine WCX.ret ?_
    | refine ToX.ret_seq ?_
    | refine WCX.cond_true rfl ?_
    | refine WCX.cond_false rfl ?_
    | refine WCX.skip ?_
    | refine ToX.fn_ret hX rfl ?_)
  · rename_i e1
    have en : ansP V l = none := by unfold ansP; rw [if_pos (.inl (by omega))]
    exact fun h f => ⟨[], f.chg.picks .nil, by rw [en]; exact ⟨rfl, rfl⟩⟩
  · rename_i e1 e2
    have e3 : l[0]? ≠ some 65585 := by
      intro e3
      have : l.getD 0 0 = 65585 := by simp [List.getD, e3]
      omega
    have en : ansP V l = none := by unfold ansP; rw [if_pos (.inr e3)]
    exact fun h f => ⟨[], f.chg.picks .nil, by rw [en]; exact ⟨rfl, rfl⟩⟩
  rename_i e1 e2
  have l3 : 3 ≤ l.length := by omega
  have hN : ¬ (l.length < 3 ∨ l[0]? ≠ some 65585) := by
    rintro (e3 | e3)
    · omega
    · refine e3 ?_
      have : l.getD 0 0 = 65585 := by omega
      rw [List.getD, List.getElem?_eq_getElem (by omega)] at this
      rw [List.getElem?_eq_getElem (by omega)]
      exact congrArg some this
  have ro2 := words_cut (.of hr) l3
  have hw2 : ∀ x ∈ (l.drop 2).take (l.length - 3), x < 4294967296 := fun x hx => hw x (List.mem_of_mem_drop (List.mem_of_mem_take hx))
  generalize hs0 : (l.drop 2).take (l.length - 3) = s0 at ro2 hw2
  have hc2 := words_cells ro2.holds
  generalize hv2 : cutV u 2 (l.length - 1) 1 = v2 at ro2 hc2
  repeat' (first
    | refine ToX.nrm_seq ?_
    | refine WCX.seq ?_
    | (refine WCX.region (id := 3) ?_; (iterate 2 (refine .cons (q hX rfl ?_))) <;> ((refine .cons (ql hX rfl rfl rfl rfl rfl rfl (by assumption) rfl rfl ?_))) <;> ((refine .cons (qa (d := ((l.length - 1 : Nat) : Int)) rfl rfl rfl rfl rfl (wrap_sub (i := 1) (by omega) (by omega)) rfl rfl ?_))) <;> ((refine .cons (qcut (j := 2) (b := l.length - 1) hX rfl rfl rfl rfl rfl rfl rfl (.of hr) (by decide) (show 2 < (l.map wcell).length by rw [List.length_map]; omega) (by omega) (by rw [List.length_map]; omega) rfl rfl ?_)) <;> (rw [hv2])) <;> ((refine .cons (qbuild hX rfl rfl rfl rfl rfl (by simp only [fillH, hc2, ob_some]; rfl) rfl rfl ?_))) <;> (iterate 2 (refine .cons (q hX rfl ?_))) <;> (refine .nil (.intro rfl ?_)))
    | (refine WCX.region (id := 4) ?_; ((refine .cons (q hX rfl ?_))) <;> ((refine .cons (qcallP rfl rfl rfl rfl rfl rfl rfl ca43 rfl rfl (fun k h f hp ro => code_run hK k v2 (s0, false) h f.wf hp (ro _ ro2) hw2) (fun _ => rfl) ?_)) <;> (rintro v l' C' B' ⟨pv, sv, iv, rfl, ⟨v3, rfl, hv3, hlt3⟩, rfl⟩ hB; cases hB)) <;> (iterate 2 (refine .cons (q hX rfl ?_))) <;> (refine .nil (.intro rfl ?_))))
  have hfair := codeD_fair nextP_bounded 4294967295 4294967295 (s0, false)
  have hP : ansP V l = if (codeD nextP 4294967295 4294967295 (s0, false)).2.2 = true ∨ V (codeD nextP 4294967295 4294967295 (s0, false)).1 = false then none else if wholeE (codeD nextP 4294967295 4294967295 (s0, false)).1 = l then some (codeD nextP 4294967295 4294967295 (s0, false)).1 else none := by
    unfold ansP; rw [if_neg hN, hs0]
  generalize codeD nextP 4294967295 4294967295 (s0, false) = r at hfair hP hv3 hlt3 ⊢
  obtain ⟨⟨nm, ps, ar, lo, is⟩, s4, b4⟩ := r
  simp only [codeParts, List.append_nil] at hfair hP hv3 hlt3 ⊢
  have hV := V_fair hfair
  repeat' (first
    | refine ToX.nrm_seq ?_
    | refine WCX.seq ?_
    | (refine WCX.region (id := 5) ?_; (iterate 3 (refine .cons (q hX rfl ?_))) <;> ((refine .cons (qb hX rfl ?_ ?_)) <;> (intro hbl; (first | (cases hbl; done) | skip))) <;> (iterate 2 (refine .cons (q hX rfl ?_))) <;> (first | (refine .cons (q hX rfl ?_)) | (refine .cons (qcallB rfl rfl rfl rfl ca13 rfl rfl (fun h f => valid_run hK (CodeB.toP ⟨nm, ps, ar, lo, is⟩) pv sv iv h f.wf (f.ro hB) hfair.ok (codeRB_P ⟨ownS.rd (f.pick .h), ownS.rd (f.pick (.t .h)), ownS.rd (f.pick (.t (.t .h)))⟩)) ?_ ?_)) <;> intro _) <;> (iterate 2 (refine .cons (q hX rfl ?_))) <;> (refine .nil (.intro rfl ?_)))
    | (refine WCX.region (id := 6) ?_; (iterate 3 (refine .cons (q hX rfl ?_))) <;> (refine .nil (.intro rfl ?_)))
    | refine WCX.ret ?_
    | refine ToX.ret_seq ?_
    | refine WCX.cond_true rfl ?_
    | refine WCX.cond_false rfl ?_
    | refine WCX.skip ?_
    | refine ToX.fn_ret hX rfl ?_)
  · have en : ansP V l = none := by rw [hP, if_pos (.inl hbl)]
    exact fun h f => ⟨[], f.chg.picks .nil, by rw [en]; exact ⟨rfl, rfl⟩⟩
  · rename_i hv
    have hVt : V ⟨nm, ps, ar, lo, is⟩ = true := by rw [hV]; exact hv
    have hc := V_fine hVt
    have wl := wholeE_len hc
    have hb4 : ¬ (b4 = true ∨ V ⟨nm, ps, ar, lo, is⟩ = false) := by simp_all
    rw [if_neg hb4] at hP
    repeat' (first
      | refine ToX.nrm_seq ?_
      | refine WCX.seq ?_
      | (refine WCX.region (id := 7) ?_; ((refine .cons (q hX rfl ?_))) <;> ((refine .cons (qcall rfl rfl rfl rfl ca28 rfl rfl (fun h f => encode_run hK ⟨nm, ps, ar, lo, is⟩ pv sv iv h f.wf hc ⟨ownS.rd (f.pick .h), ownS.rd (f.pick (.t .h)), ownS.rd (f.pick (.t (.t .h)))⟩) ?_)) <;> (rintro v C' rfl)) <;> ((refine .cons (q hX rfl ?_))) <;> (refine .nil (.intro rfl ?_)))
      | (refine WCX.region (id := 8) ?_; ((refine .cons (q hX rfl ?_))) <;> ((refine .cons (qlG hX rfl rfl rfl rfl rfl rfl (by first | exact .h | exact .t .h | exact .t (.t .h)) rfl rfl ?_))) <;> ((refine .cons (q hX rfl ?_))) <;> ((refine .cons (ql hX rfl rfl rfl rfl rfl rfl (by assumption) rfl rfl ?_))) <;> ((refine .cons (qc rfl ?_ ?_)) <;> intro _) <;> (refine .nil (.intro rfl ?_)))
      | (refine WCX.region (id := 9) ?_; (iterate 3 (refine .cons (q hX rfl ?_))) <;> (refine .nil (.intro rfl ?_)))
      | (refine WCX.region (id := 10) ?_; ((refine .cons (q hX rfl ?_))) <;> ((refine .cons (ql hX rfl rfl rfl rfl rfl rfl (by assumption) rfl rfl ?_))) <;> ((refine .cons (q hX rfl ?_))) <;> (refine .nil (.intro rfl ?_)))
      | refine WCX.ret ?_
      | refine ToX.ret_seq ?_
      | refine WCX.cond_true rfl ?_
      | refine WCX.cond_false rfl ?_
      | refine WCX.skip ?_
      | refine WCX.block ?_
      | refine ToX.fn_ret hX rfl ?_)
    · rename_i e4
      have hne : ¬ wholeE ⟨nm, ps, ar, lo, is⟩ = l := fun he => e4 (by rw [List.length_map, he])
      have en : ansP V l = none := by rw [hP, if_neg hne]
      exact fun h f => ⟨[], f.chg.picks .nil, by rw [en]; exact ⟨rfl, rfl⟩⟩
    rename_i e4
    have el : (wholeE ⟨nm, ps, ar, lo, is⟩).length = l.length := by rw [List.length_map] at e4; omega
    generalize hW : wholeE ⟨nm, ps, ar, lo, is⟩ = W at el hP wl ⊢
    refine WCX.loop (ι := Nat) (fun i => [(47, .ext (i64 i)), (46, .ext (i64 l.length)), (6, .ext v), (5, .ptr 3 0), (2, .ptr 0 0), (0, .ext u)]) (fun _ => [.own z26c 26 false, .ro (wcell (l.getD 0 0)), .own [v3, .bool b4] 92 false, .own [strB nm, pv, sv, i64 lo, iv] 26 false]) (fun _ => [wordsO v W, ownS 70 2 pv (ps.map pcell), ownS 72 2 sv (ar.map acell), ownS 74 8 iv (is.map icell)]) (fun i => i ≤ l.length ∧ W.take i = l.take i) (fun i => l.length - i) 0 ⟨⟨rfl, rfl, rfl, rfl, rfl, rfl, trivial⟩, ⟨_, rfl⟩, ⟨_, .cons .h (.cons .h (.cons .h (.cons .h .nil)))⟩⟩ ⟨Nat.zero_le _, by simp⟩ (fun _ => rfl) (fun _ => rfl) (fun _ => rfl) ?_
    rintro i ⟨hi, ht⟩ next
    repeat' (first
      | refine ToX.nrm_seq ?_
      | refine WCX.seq ?_
      | (refine WCX.region (id := 11) ?_; ((refine .cons (qc rfl ?_ ?_)) <;> intro _) <;> (refine .nil (.intro rfl ?_)))
      | (refine WCX.region (id := 12) ?_; (iterate 2 (refine .cons (q hX rfl ?_))) <;> (refine .nil (.intro rfl ?_)))
      | (refine WCX.draw (id := 13) tab [0, 1, 2, 3, 4, 5, 6, 7, 8] #[0, 0, 3, 7, 0, 0, 48, 112, 255] (by kernel_rfl) (by kernel_rfl) (by kernel_rfl) ?_; (iterate 2 ((refine .cons rfl (q hX rfl ?_)) <;> refine ⟨_, .comp rfl, ?_⟩)) <;> ((refine .cons rfl (qidx hX rfl rfl rfl rfl rfl (.of hr.2) (row_i (0 : Nat) (by omega)) rfl rfl rfl ?_)) <;> refine ⟨_, .comp rfl, ?_⟩) <;> ((refine .cons rfl (q hX rfl ?_)) <;> first | refine ⟨_, .rdB hX.tab rfl rfl rfl rfl rfl rfl rfl rfl (sureV_beq rfl) rfl rfl rfl, ?_⟩ | refine ⟨_, .rdB hX.tab rfl rfl rfl rfl rfl rfl rfl rfl (beq_len (by assumption)) rfl rfl rfl, ?_⟩ | refine ⟨_, .rdS hX.tab rfl rfl rfl rfl rfl rfl rfl rfl (sureV_beq rfl) rfl rfl rfl, ?_⟩ | refine ⟨_, .rdS hX.tab rfl rfl rfl rfl rfl rfl rfl rfl (beq_len (by assumption)) rfl rfl rfl, ?_⟩ | refine ⟨_, .comp rfl, ?_⟩) <;> (iterate 2 ((refine .cons rfl (q hX rfl ?_)) <;> refine ⟨_, .comp rfl, ?_⟩)) <;> ((refine .cons rfl (qidxG hX rfl rfl rfl rfl rfl (by first | exact .h | exact .t .h | exact .t (.t .h) | exact .t (.t (.t .h))) (row_i (0 : Nat) (by omega)) rfl rfl rfl ?_)) <;> refine ⟨_, .comp rfl, ?_⟩) <;> ((refine .cons rfl (q hX rfl ?_)) <;> first | refine ⟨_, .rdB hX.tab rfl rfl rfl rfl rfl rfl rfl rfl (sureV_beq rfl) rfl rfl rfl, ?_⟩ | refine ⟨_, .rdB hX.tab rfl rfl rfl rfl rfl rfl rfl rfl (beq_len (by assumption)) rfl rfl rfl, ?_⟩ | refine ⟨_, .rdS hX.tab rfl rfl rfl rfl rfl rfl rfl rfl (sureV_beq rfl) rfl rfl rfl, ?_⟩ | refine ⟨_, .rdS hX.tab rfl rfl rfl rfl rfl rfl rfl rfl (beq_len (by assumption)) rfl rfl rfl, ?_⟩ | refine ⟨_, .comp rfl, ?_⟩) <;> ((refine .cons rfl (qc rfl ?_ ?_)) <;> intro _ <;> refine ⟨_, .comp rfl, ?_⟩) <;> (refine .nil ⟨?_, .intro rfl ?_⟩ <;> (repeat' (first | exact trivial | exact .inl rfl | exact .inr ⟨_, _, _, _, rfl, rfl, rfl⟩ | refine ⟨?_, ?_⟩))))
      | (refine WCX.region (id := 14) ?_; (iterate 3 (refine .cons (q hX rfl ?_))) <;> (refine .nil (.intro rfl ?_)))
      | (refine WCX.region (id := 15) ?_; ((refine .cons (qa rfl rfl rfl rfl rfl (wrapF_i64 (by first | omega | (simp only [Int.ofNat_eq_natCast]; omega)) (by first | omega | (simp only [Int.ofNat_eq_natCast]; omega))) rfl rfl ?_))) <;> ((refine .cons (q hX rfl ?_))) <;> (refine .nil (.intro rfl ?_)))
      | (refine WCX.region (id := 16) ?_; (iterate 3 (refine .cons (q hX rfl ?_))) <;> (refine .nil (.intro rfl ?_)))
      | refine WCX.ret ?_
      | refine ToX.ret_seq ?_
      | refine ToX.ret_block ?_
      | refine WCX.cond_true rfl ?_
      | refine WCX.cond_false rfl ?_
      | refine WCX.skip ?_
      | refine WCX.block ?_
      | refine WCX.exit ?_
      | refine ToX.exit_seq ?_
      | refine ToX.exit_block ?_
      | refine ToX.nrm_block ?_
      | refine ToX.fn_ret hX rfl ?_)
    · rename_i e5 e6
      have hne : ¬ W = l := fun he => e6 (by rw [he])
      have en : ansP V l = none := by rw [hP, if_neg hne]
      exact fun h f => ⟨[], f.chg.picks .nil, by rw [en]; exact ⟨rfl, rfl⟩⟩
    · rename_i e5 e6
      exact next (i + 1) _ _ _ (by omega) ⟨⟨rfl, rfl, rfl, rfl, rfl, rfl, trivial⟩, ⟨_, rfl⟩, ⟨_, .cons .h (.cons .h (.cons .h (.cons .h .nil)))⟩⟩ ⟨by omega, take_same 0 (by omega) (by omega) ht (by omega)⟩
    · rename_i e5
      have he : W = l := take_all (by omega) el ht
      have en : ansP V l = some ⟨nm, ps, ar, lo, is⟩ := by rw [hP, if_pos he]
      exact fun h f => ⟨_, f.chg.picks (.cons (.t .h) (.cons (.t .h) (.cons (.t .h) .nil))), by rw [en]; exact ⟨_, _, _, rfl, rfl⟩⟩
  · rename_i hv
    have en : ansP V l = none := by rw [hP, if_pos (.inr (by rw [hV]; exact hv))]
    exact fun h f => ⟨[], f.chg.picks .nil, by rw [en]; exact ⟨rfl, rfl⟩⟩
end Em
end Go.HL
namespace Go.HL
open Go Go.Proofs
namespace Em
set_option maxRecDepth 10000
variable {K : CallFn} {base : List (Nat × HObj)}
theorem sEq_refl (n c : Nat) : sEq n c n c = true := by simp [sEq]
theorem neq70 (n c : Nat) (b : Bool) : binH P .neq 70 (.agg [.str n c, .bool b]) (.agg [.str n c, .bool b]) = some (.bool false) := by
  have e : binH P .neq 70 (.agg [.str n c, .bool b]) (.agg [.str n c, .bool b]) = ob (bcase (sEq n c n c) (bcase (b == b) (some true) (some false)) (some false)) fun b => some (.bool (bcase b false true)) := by kernel_rfl
  rw [e, sEq_refl, beq_self_eq_true]; rfl
theorem ieq_same (i : Int) : ieq i i = true := by cases i <;> simp [ieq]
theorem neq72 (n c : Nat) (i : Int) : binH P .neq 72 (.agg [.str n c, .int .i64 i]) (.agg [.str n c, .int .i64 i]) = some (.bool false) := by
  have e : binH P .neq 72 (.agg [.str n c, .int .i64 i]) (.agg [.str n c, .int .i64 i]) = ob (bcase (sEq n c n c) (bcase (ieq i i) (some true) (some false)) (some false)) fun b => some (.bool (bcase b false true)) := by kernel_rfl
  rw [e, sEq_refl, ieq_same]; rfl
theorem neq74 (x : InsnD) : binH P .neq 74 (.agg (icell x)) (.agg (icell x)) = some (.bool false) := by
  obtain ⟨a1, a2, a3, a4, a5, a6, a7, a8⟩ := x
  have e : binH P .neq 74 (.agg (icell ⟨a1, a2, a3, a4, a5, a6, a7, a8⟩)) (.agg (icell ⟨a1, a2, a3, a4, a5, a6, a7, a8⟩)) = ob (bcase (ieq a1 a1) (bcase (ieq a2 a2) (bcase (ieq a3 a3) (bcase (ieq a4 a4) (bcase (ieq a5 a5) (bcase (ieq a6 a6) (bcase (ieq a7 a7) (bcase (ieq a8 a8) (some true) (some false)) (some false)) (some false)) (some false)) (some false)) (some false)) (some false)) (some false)) fun b => some (.bool (bcase b false true)) := by kernel_rfl
  have h : ∀ i : Int, ieq i i = true := ieq_same
  rw [e]
  simp only [h, bcase_true, ob_some]
theorem sameParams_run (hK : KN base K) (v1 v2 : HVal) (l : List (List Nat × Bool)) (h : Heap) (w : Wf h) (r1 : (rd v1 2 (l.map pcell)).holds h) (r2 : (rd v2 2 (l.map pcell)).holds h) (hb : l.length ≤ 4611686018427387904) :
    Sp P K 46 [v1, v2] h (Val (.bool true) h) := by
  have hlen1 := rd_len r1
  have hlen2 := rd_len r2
  refine Sp.start (m := 33571891) (n := 26) w (hK.none 46 rfl rfl _ _) Tryz.func46 rfl rfl mask46 rfl rfl ?_
  repeat' (first
    | refine ToX.nrm_seq ?_
    | refine WCX.seq ?_
    | (refine WCX.region (id := 0) ?_; ((refine .cons (q hX rfl ?_))) <;> (refine .nil (.intro rfl ?_)))
    | (refine WCX.region (id := 1) ?_; ((refine .cons (q hX rfl ?_))) <;> ((refine .cons (ql hX rfl rfl rfl rfl rfl rfl (by assumption) rfl rfl ?_))) <;> ((refine .cons (q hX rfl ?_))) <;> ((refine .cons (ql hX rfl rfl rfl rfl rfl rfl (by assumption) rfl rfl ?_))) <;> ((refine .cons (qc rfl ?_ ?_)) <;> intro _) <;> (refine .nil (.intro rfl ?_)))
    | (refine WCX.region (id := 2) ?_; ((refine .cons (q hX rfl ?_))) <;> (refine .nil (.intro rfl ?_)))
    | (refine WCX.region (id := 3) ?_; ((refine .cons (q hX rfl ?_))) <;> (refine .nil (.intro rfl ?_)))
    | refine WCX.ret ?_
    | refine ToX.ret_seq ?_
    | refine WCX.cond_true rfl ?_
    | refine WCX.cond_false rfl ?_
    | refine WCX.skip ?_
    | refine WCX.block ?_
    | refine ToX.fn_ret hX rfl ?_)
  · rename_i e
    exact absurd rfl e
  refine WCX.loop (ι := Nat) (fun a => [(5, .ext (i64 a)), (0, .ext v1), (1, .ext v2)]) (fun _ => []) (fun _ => []) (fun a => a ≤ l.length) (fun a => l.length - a) 0 ⟨⟨rfl, rfl, rfl, trivial⟩, ⟨_, rfl⟩, ⟨_, .nil⟩⟩ (Nat.zero_le _) (fun _ => rfl) (fun _ => rfl) (fun _ => rfl) ?_
  rintro i hi next
  repeat' (first
    | refine ToX.nrm_seq ?_
    | refine WCX.seq ?_
    | (refine WCX.region (id := 4) ?_; (iterate 2 (refine .cons (q hX rfl ?_))) <;> ((refine .cons (ql hX rfl rfl rfl rfl rfl rfl (by assumption) rfl rfl ?_))) <;> ((refine .cons (qc rfl ?_ ?_)) <;> intro _) <;> (refine .nil (.intro rfl ?_)))
    | (refine WCX.draw (id := 6) tab [0, 1, 2, 3, 4, 5, 6, 7, 8] #[0, 0, 3, 7, 0, 0, 48, 112, 255] (by kernel_rfl) (by kernel_rfl) (by kernel_rfl) ?_; (iterate 2 ((refine .cons rfl (q hX rfl ?_)) <;> refine ⟨_, .comp rfl, ?_⟩)) <;> ((refine .cons rfl (qidx hX rfl rfl rfl rfl rfl (.of r1) (row_i noPB (by omega)) rfl rfl rfl ?_)) <;> refine ⟨_, .comp rfl, ?_⟩) <;> ((refine .cons rfl (q hX rfl ?_)) <;> first | refine ⟨_, .rdB hX.tab rfl rfl rfl rfl rfl rfl rfl rfl (sureV_beq rfl) rfl rfl rfl, ?_⟩ | refine ⟨_, .rdB hX.tab rfl rfl rfl rfl rfl rfl rfl rfl (beq_len (by assumption)) rfl rfl rfl, ?_⟩ | refine ⟨_, .rdS hX.tab rfl rfl rfl rfl rfl rfl rfl rfl (sureV_beq rfl) rfl rfl rfl, ?_⟩ | refine ⟨_, .rdS hX.tab rfl rfl rfl rfl rfl rfl rfl rfl (beq_len (by assumption)) rfl rfl rfl, ?_⟩ | refine ⟨_, .comp rfl, ?_⟩) <;> (iterate 2 ((refine .cons rfl (q hX rfl ?_)) <;> refine ⟨_, .comp rfl, ?_⟩)) <;> ((refine .cons rfl (qidx hX rfl rfl rfl rfl rfl (.of r2) (row_i noPB (by omega)) rfl rfl rfl ?_)) <;> refine ⟨_, .comp rfl, ?_⟩) <;> ((refine .cons rfl (q hX rfl ?_)) <;> first | refine ⟨_, .rdB hX.tab rfl rfl rfl rfl rfl rfl rfl rfl (sureV_beq rfl) rfl rfl rfl, ?_⟩ | refine ⟨_, .rdB hX.tab rfl rfl rfl rfl rfl rfl rfl rfl (beq_len (by assumption)) rfl rfl rfl, ?_⟩ | refine ⟨_, .rdS hX.tab rfl rfl rfl rfl rfl rfl rfl rfl (sureV_beq rfl) rfl rfl rfl, ?_⟩ | refine ⟨_, .rdS hX.tab rfl rfl rfl rfl rfl rfl rfl rfl (beq_len (by assumption)) rfl rfl rfl, ?_⟩ | refine ⟨_, .comp rfl, ?_⟩) <;> ((refine .cons rfl (qnA rfl rfl rfl (neq70 _ _ _) rfl rfl ?_)) <;> refine ⟨_, .comp rfl, ?_⟩) <;> (refine .nil ⟨?_, .intro rfl ?_⟩ <;> (repeat' (first | exact trivial | exact .inl rfl | exact .inr ⟨_, _, _, _, rfl, rfl, rfl⟩ | refine ⟨?_, ?_⟩))))
    | (refine WCX.region (id := 5) ?_; ((refine .cons (q hX rfl ?_))) <;> ((refine .cons (qa rfl rfl rfl rfl rfl (wrapF_i64 (by first | omega | (simp only [Int.ofNat_eq_natCast]; omega)) (by first | omega | (simp only [Int.ofNat_eq_natCast]; omega))) rfl rfl ?_))) <;> ((refine .cons (q hX rfl ?_))) <;> (refine .nil (.intro rfl ?_)))
    | (refine WCX.region (id := 8) ?_; ((refine .cons (q hX rfl ?_))) <;> (refine .nil (.intro rfl ?_)))
    | refine WCX.ret ?_
    | refine WCX.cond_true rfl ?_
    | refine WCX.cond_false rfl ?_
    | refine WCX.skip ?_
    | refine WCX.block ?_
    | refine WCX.exit ?_
    | refine ToX.exit_seq ?_
    | refine ToX.exit_block ?_
    | refine ToX.nrm_block ?_
    | refine ToX.fn_ret hX rfl ?_)
  · exact next (i + 1) _ _ _ (by omega) ⟨⟨rfl, rfl, rfl, trivial⟩, ⟨_, rfl⟩, ⟨_, .nil⟩⟩ (by omega)
  · exact fun h f => ⟨rfl, f.chg⟩
theorem sameArrays_run (hK : KN base K) (v1 v2 : HVal) (l : List (List Nat × Nat)) (h : Heap) (w : Wf h) (r1 : (rd v1 2 (l.map acell)).holds h) (r2 : (rd v2 2 (l.map acell)).holds h) (hb : l.length ≤ 4611686018427387904) :
    Sp P K 47 [v1, v2] h (Val (.bool true) h) := by
  have hlen1 := rd_len r1
  have hlen2 := rd_len r2
  refine Sp.start (m := 33571891) (n := 26) w (hK.none 47 rfl rfl _ _) Tryz.func47 rfl rfl mask47 rfl rfl ?_
  repeat' (first
    | refine ToX.nrm_seq ?_
    | refine WCX.seq ?_
    | (refine WCX.region (id := 0) ?_; ((refine .cons (q hX rfl ?_))) <;> (refine .nil (.intro rfl ?_)))
    | (refine WCX.region (id := 1) ?_; ((refine .cons (q hX rfl ?_))) <;> ((refine .cons (ql hX rfl rfl rfl rfl rfl rfl (by assumption) rfl rfl ?_))) <;> ((refine .cons (q hX rfl ?_))) <;> ((refine .cons (ql hX rfl rfl rfl rfl rfl rfl (by assumption) rfl rfl ?_))) <;> ((refine .cons (qc rfl ?_ ?_)) <;> intro _) <;> (refine .nil (.intro rfl ?_)))
    | (refine WCX.region (id := 2) ?_; ((refine .cons (q hX rfl ?_))) <;> (refine .nil (.intro rfl ?_)))
    | (refine WCX.region (id := 3) ?_; ((refine .cons (q hX rfl ?_))) <;> (refine .nil (.intro rfl ?_)))
    | refine WCX.ret ?_
    | refine ToX.ret_seq ?_
    | refine WCX.cond_true rfl ?_
    | refine WCX.cond_false rfl ?_
    | refine WCX.skip ?_
    | refine WCX.block ?_
    | refine ToX.fn_ret hX rfl ?_)
  · rename_i e
    exact absurd rfl e
  refine WCX.loop (ι := Nat) (fun a => [(5, .ext (i64 a)), (0, .ext v1), (1, .ext v2)]) (fun _ => []) (fun _ => []) (fun a => a ≤ l.length) (fun a => l.length - a) 0 ⟨⟨rfl, rfl, rfl, trivial⟩, ⟨_, rfl⟩, ⟨_, .nil⟩⟩ (Nat.zero_le _) (fun _ => rfl) (fun _ => rfl) (fun _ => rfl) ?_
  rintro i hi next
  repeat' (first
    | refine ToX.nrm_seq ?_
    | refine WCX.seq ?_
    | (refine WCX.region (id := 4) ?_; (iterate 2 (refine .cons (q hX rfl ?_))) <;> ((refine .cons (ql hX rfl rfl rfl rfl rfl rfl (by assumption) rfl rfl ?_))) <;> ((refine .cons (qc rfl ?_ ?_)) <;> intro _) <;> (refine .nil (.intro rfl ?_)))
    | (refine WCX.draw (id := 6) tab [0, 1, 2, 3, 4, 5, 6, 7, 8] #[0, 0, 3, 7, 0, 0, 48, 112, 255] (by kernel_rfl) (by kernel_rfl) (by kernel_rfl) ?_; (iterate 2 ((refine .cons rfl (q hX rfl ?_)) <;> refine ⟨_, .comp rfl, ?_⟩)) <;> ((refine .cons rfl (qidx hX rfl rfl rfl rfl rfl (.of r1) (row_i noAB (by omega)) rfl rfl rfl ?_)) <;> refine ⟨_, .comp rfl, ?_⟩) <;> ((refine .cons rfl (q hX rfl ?_)) <;> first | refine ⟨_, .rdB hX.tab rfl rfl rfl rfl rfl rfl rfl rfl (sureV_beq rfl) rfl rfl rfl, ?_⟩ | refine ⟨_, .rdB hX.tab rfl rfl rfl rfl rfl rfl rfl rfl (beq_len (by assumption)) rfl rfl rfl, ?_⟩ | refine ⟨_, .rdS hX.tab rfl rfl rfl rfl rfl rfl rfl rfl (sureV_beq rfl) rfl rfl rfl, ?_⟩ | refine ⟨_, .rdS hX.tab rfl rfl rfl rfl rfl rfl rfl rfl (beq_len (by assumption)) rfl rfl rfl, ?_⟩ | refine ⟨_, .comp rfl, ?_⟩) <;> (iterate 2 ((refine .cons rfl (q hX rfl ?_)) <;> refine ⟨_, .comp rfl, ?_⟩)) <;> ((refine .cons rfl (qidx hX rfl rfl rfl rfl rfl (.of r2) (row_i noAB (by omega)) rfl rfl rfl ?_)) <;> refine ⟨_, .comp rfl, ?_⟩) <;> ((refine .cons rfl (q hX rfl ?_)) <;> first | refine ⟨_, .rdB hX.tab rfl rfl rfl rfl rfl rfl rfl rfl (sureV_beq rfl) rfl rfl rfl, ?_⟩ | refine ⟨_, .rdB hX.tab rfl rfl rfl rfl rfl rfl rfl rfl (beq_len (by assumption)) rfl rfl rfl, ?_⟩ | refine ⟨_, .rdS hX.tab rfl rfl rfl rfl rfl rfl rfl rfl (sureV_beq rfl) rfl rfl rfl, ?_⟩ | refine ⟨_, .rdS hX.tab rfl rfl rfl rfl rfl rfl rfl rfl (beq_len (by assumption)) rfl rfl rfl, ?_⟩ | refine ⟨_, .comp rfl, ?_⟩) <;> ((refine .cons rfl (qnA rfl rfl rfl (neq72 _ _ _) rfl rfl ?_)) <;> refine ⟨_, .comp rfl, ?_⟩) <;> (refine .nil ⟨?_, .intro rfl ?_⟩ <;> (repeat' (first | exact trivial | exact .inl rfl | exact .inr ⟨_, _, _, _, rfl, rfl, rfl⟩ | refine ⟨?_, ?_⟩))))
    | (refine WCX.region (id := 5) ?_; ((refine .cons (q hX rfl ?_))) <;> ((refine .cons (qa rfl rfl rfl rfl rfl (wrapF_i64 (by first | omega | (simp only [Int.ofNat_eq_natCast]; omega)) (by first | omega | (simp only [Int.ofNat_eq_natCast]; omega))) rfl rfl ?_))) <;> ((refine .cons (q hX rfl ?_))) <;> (refine .nil (.intro rfl ?_)))
    | (refine WCX.region (id := 8) ?_; ((refine .cons (q hX rfl ?_))) <;> (refine .nil (.intro rfl ?_)))
    | refine WCX.ret ?_
    | refine WCX.cond_true rfl ?_
    | refine WCX.cond_false rfl ?_
    | refine WCX.skip ?_
    | refine WCX.block ?_
    | refine WCX.exit ?_
    | refine ToX.exit_seq ?_
    | refine ToX.exit_block ?_
    | refine ToX.nrm_block ?_
    | refine ToX.fn_ret hX rfl ?_)
  · exact next (i + 1) _ _ _ (by omega) ⟨⟨rfl, rfl, rfl, trivial⟩, ⟨_, rfl⟩, ⟨_, .nil⟩⟩ (by omega)
  · exact fun h f => ⟨rfl, f.chg⟩
theorem same_run (hK : KN base K) (c : CodeB) (pv sv iv pv2 sv2 iv2 : HVal) (h : Heap) (w : Wf h) (b1 : c.params.length ≤ 6) (b2 : c.shared.length ≤ 4) (b3 : c.insns.length ≤ 2000) (r1 : (codeRB c pv sv iv).holds h) (r2 : (codeRB c pv2 sv2 iv2).holds h) :
    Sp P K 18 [codeV c pv sv iv, codeV c pv2 sv2 iv2] h (Val (.bool true) h) := by
  have li := rd_len r1.2.2
  have li2 := rd_len r2.2.2
  refine Sp.start (m := 1153066640141713471) (n := 61) w (hK.none 18 rfl rfl _ _) Tryz.func18 rfl rfl mask18 rfl rfl ?_
  repeat' (first
    | refine ToX.nrm_seq ?_
    | refine WCX.seq ?_
    | (refine WCX.region (id := 0) ?_; (iterate 3 (refine .cons (q hX rfl ?_))) <;> (refine .nil (.intro rfl ?_)))
    | (refine WCX.region (id := 1) ?_; (iterate 4 (refine .cons (q hX rfl ?_))) <;> ((refine .cons (qc rfl ?_ ?_)) <;> intro _) <;> (iterate 5 (refine .cons (q hX rfl ?_))) <;> (first | (refine .cons (q hX rfl ?_)) | (refine .cons (qcallV rfl rfl rfl rfl ca46 rfl rfl (fun h f => sameParams_run hK pv pv2 c.params h f.wf (f.ro (.of r1)).1 (f.ro (.of r2)).1 (by omega)) ?_))) <;> (iterate 7 (refine .cons (q hX rfl ?_))) <;> (first | (refine .cons (q hX rfl ?_)) | (refine .cons (qcallV rfl rfl rfl rfl ca47 rfl rfl (fun h f => sameArrays_run hK sv sv2 c.shared h f.wf (f.ro (.of r1)).2.1 (f.ro (.of r2)).2.1 (by omega)) ?_))) <;> (iterate 7 (refine .cons (q hX rfl ?_))) <;> (first | (refine .cons (q hX rfl ?_)) | (refine .cons (qc rfl ?_ ?_)) <;> intro _) <;> (iterate 4 (refine .cons (q hX rfl ?_))) <;> (first | (refine .cons (q hX rfl ?_)) | (refine .cons (ql hX rfl rfl rfl rfl rfl rfl (by assumption) rfl rfl ?_))) <;> (iterate 2 (refine .cons (q hX rfl ?_))) <;> (first | (refine .cons (q hX rfl ?_)) | (refine .cons (ql hX rfl rfl rfl rfl rfl rfl (by assumption) rfl rfl ?_))) <;> (first | (refine .cons (q hX rfl ?_)) | (refine .cons (qc rfl ?_ ?_)) <;> intro _) <;> ((refine .cons (q hX rfl ?_))) <;> (refine .nil (.intro rfl ?_)))
    | (refine WCX.region (id := 2) ?_; ((refine .cons (q hX rfl ?_))) <;> (refine .nil (.intro rfl ?_)))
    | (refine WCX.region (id := 3) ?_; ((refine .cons (q hX rfl ?_))) <;> (refine .nil (.intro rfl ?_)))
    | refine WCX.ret ?_
    | refine ToX.ret_seq ?_
    | refine WCX.cond_true rfl ?_
    | refine WCX.cond_false rfl ?_
    | refine WCX.skip ?_
    | refine WCX.block ?_
    | refine ToX.fn_ret hX rfl ?_)
  · exfalso; simp_all
  · exfalso; simp_all
  · exfalso; simp_all
  refine WCX.loop (ι := Nat) (fun a => [(5, .ext (i64 a)), (3, .ptr 1 0), (2, .ptr 0 0)]) (fun _ => [.own [strB c.name, pv, sv, i64 c.local, iv] 26 false, .own [strB c.name, pv2, sv2, i64 c.local, iv2] 26 false]) (fun _ => []) (fun a => a ≤ c.insns.length) (fun a => c.insns.length - a) 0 ⟨⟨rfl, rfl, rfl, trivial⟩, ⟨_, rfl⟩, ⟨_, .nil⟩⟩ (Nat.zero_le _) (fun _ => rfl) (fun _ => rfl) (fun _ => rfl) ?_
  rintro i hi next
  repeat' (first
    | refine ToX.nrm_seq ?_
    | refine WCX.seq ?_
    | (refine WCX.region (id := 4) ?_; (iterate 3 (refine .cons (q hX rfl ?_))) <;> ((refine .cons (ql hX rfl rfl rfl rfl rfl rfl (by assumption) rfl rfl ?_))) <;> ((refine .cons (qc rfl ?_ ?_)) <;> intro _) <;> (refine .nil (.intro rfl ?_)))
    | (refine WCX.draw (id := 6) tab [0, 1, 2, 3, 4, 5, 6, 7, 8, 9, 10] #[0, 1, 0, 7, 15, 0, 32, 0, 224, 480, 1023] (by kernel_rfl) (by kernel_rfl) (by kernel_rfl) ?_; ((refine .cons rfl (q hX rfl ?_)) <;> refine ⟨_, .comp rfl, ?_⟩) <;> ((refine .cons rfl (q hX rfl ?_)) <;> first | refine ⟨_, .rdB hX.tab rfl rfl rfl rfl rfl rfl rfl rfl (sureV_beq rfl) rfl rfl rfl, ?_⟩ | refine ⟨_, .rdB hX.tab rfl rfl rfl rfl rfl rfl rfl rfl (beq_len (by assumption)) rfl rfl rfl, ?_⟩ | refine ⟨_, .rdS hX.tab rfl rfl rfl rfl rfl rfl rfl rfl (sureV_beq rfl) rfl rfl rfl, ?_⟩ | refine ⟨_, .rdS hX.tab rfl rfl rfl rfl rfl rfl rfl rfl (beq_len (by assumption)) rfl rfl rfl, ?_⟩ | refine ⟨_, .comp rfl, ?_⟩) <;> ((refine .cons rfl (q hX rfl ?_)) <;> refine ⟨_, .comp rfl, ?_⟩) <;> ((refine .cons rfl (qidx hX rfl rfl rfl rfl rfl (.of r1.2.2) (row_i noInsn (by omega)) rfl rfl rfl ?_)) <;> refine ⟨_, .comp rfl, ?_⟩) <;> ((refine .cons rfl (q hX rfl ?_)) <;> first | refine ⟨_, .rdB hX.tab rfl rfl rfl rfl rfl rfl rfl rfl (sureV_beq rfl) rfl rfl rfl, ?_⟩ | refine ⟨_, .rdB hX.tab rfl rfl rfl rfl rfl rfl rfl rfl (beq_len (by assumption)) rfl rfl rfl, ?_⟩ | refine ⟨_, .rdS hX.tab rfl rfl rfl rfl rfl rfl rfl rfl (sureV_beq rfl) rfl rfl rfl, ?_⟩ | refine ⟨_, .rdS hX.tab rfl rfl rfl rfl rfl rfl rfl rfl (beq_len (by assumption)) rfl rfl rfl, ?_⟩ | refine ⟨_, .comp rfl, ?_⟩) <;> ((refine .cons rfl (q hX rfl ?_)) <;> refine ⟨_, .comp rfl, ?_⟩) <;> ((refine .cons rfl (q hX rfl ?_)) <;> first | refine ⟨_, .rdB hX.tab rfl rfl rfl rfl rfl rfl rfl rfl (sureV_beq rfl) rfl rfl rfl, ?_⟩ | refine ⟨_, .rdB hX.tab rfl rfl rfl rfl rfl rfl rfl rfl (beq_len (by assumption)) rfl rfl rfl, ?_⟩ | refine ⟨_, .rdS hX.tab rfl rfl rfl rfl rfl rfl rfl rfl (sureV_beq rfl) rfl rfl rfl, ?_⟩ | refine ⟨_, .rdS hX.tab rfl rfl rfl rfl rfl rfl rfl rfl (beq_len (by assumption)) rfl rfl rfl, ?_⟩ | refine ⟨_, .comp rfl, ?_⟩) <;> ((refine .cons rfl (q hX rfl ?_)) <;> refine ⟨_, .comp rfl, ?_⟩) <;> ((refine .cons rfl (qidx hX rfl rfl rfl rfl rfl (.of r2.2.2) (row_i noInsn (by omega)) rfl rfl rfl ?_)) <;> refine ⟨_, .comp rfl, ?_⟩) <;> ((refine .cons rfl (q hX rfl ?_)) <;> first | refine ⟨_, .rdB hX.tab rfl rfl rfl rfl rfl rfl rfl rfl (sureV_beq rfl) rfl rfl rfl, ?_⟩ | refine ⟨_, .rdB hX.tab rfl rfl rfl rfl rfl rfl rfl rfl (beq_len (by assumption)) rfl rfl rfl, ?_⟩ | refine ⟨_, .rdS hX.tab rfl rfl rfl rfl rfl rfl rfl rfl (sureV_beq rfl) rfl rfl rfl, ?_⟩ | refine ⟨_, .rdS hX.tab rfl rfl rfl rfl rfl rfl rfl rfl (beq_len (by assumption)) rfl rfl rfl, ?_⟩ | refine ⟨_, .comp rfl, ?_⟩) <;> ((refine .cons rfl (qnA rfl rfl rfl (neq74 _) rfl rfl ?_)) <;> refine ⟨_, .comp rfl, ?_⟩) <;> (refine .nil ⟨?_, .intro rfl ?_⟩ <;> (repeat' (first | exact trivial | exact .inl rfl | exact .inr ⟨_, _, _, _, rfl, rfl, rfl⟩ | refine ⟨?_, ?_⟩))))
    | (refine WCX.region (id := 5) ?_; ((refine .cons (q hX rfl ?_))) <;> ((refine .cons (qa rfl rfl rfl rfl rfl (wrapF_i64 (by first | omega | (simp only [Int.ofNat_eq_natCast]; omega)) (by first | omega | (simp only [Int.ofNat_eq_natCast]; omega))) rfl rfl ?_))) <;> ((refine .cons (q hX rfl ?_))) <;> (refine .nil (.intro rfl ?_)))
    | (refine WCX.region (id := 8) ?_; ((refine .cons (q hX rfl ?_))) <;> (refine .nil (.intro rfl ?_)))
    | refine WCX.ret ?_
    | refine WCX.cond_true rfl ?_
    | refine WCX.cond_false rfl ?_
    | refine WCX.skip ?_
    | refine WCX.block ?_
    | refine WCX.exit ?_
    | refine ToX.exit_seq ?_
    | refine ToX.exit_block ?_
    | refine ToX.nrm_block ?_
    | refine ToX.fn_ret hX rfl ?_)
  · exact next (i + 1) _ _ _ (by omega) ⟨⟨rfl, rfl, rfl, trivial⟩, ⟨_, rfl⟩, ⟨_, .nil⟩⟩ (by omega)
  · exact fun h f => ⟨rfl, f.chg⟩
end Em
end Go.HL
namespace Go.HL
open Go Go.Proofs
namespace Em
set_option maxRecDepth 10000
variable {K : CallFn} {base : List (Nat × HObj)}
theorem ca8 : Callable P 8 := ⟨_, _, Go.Proofs.Tryz.func8, rfl, by kernel_rfl, rfl⟩
theorem awake_run (hK : KN base K) (h : Heap) (w : Wf h) (hB : (lies base).holds h) : Sp P K 8 [] h (Val (.bool true) h) := .known (hK.awake h hB) ⟨rfl, Chg.refl w⟩
def noCode : CodeB := ⟨[], [], [], 0, []⟩
theorem noCode_holds (h : Heap) : (codeRB noCode .nils .nils .nils).holds h := ⟨ownS.rd (own_nil 70 2 h), ownS.rd (own_nil 72 2 h), ownS.rd (own_nil 74 8 h)⟩
theorem decodes_run (hK : KN base K) (v : HVal) (l : List Nat) (h : Heap) (w : Wf h) (hB : Ro [] h (lies base)) (hr : (words v l).holds h) (hw : ∀ x ∈ l, x < 4294967296) (hll : l.length ≤ 4611686018427387904) :
    Sp P K 4 [v] h (Val (.bool true) h) := by
  have hlen := words_len hr
  have hS := ans_same (V := V) (fun c hc => V_fine hc) l
  have hP := fun h w hB hr => decode_run hK v l h w hB hr hw hll
  have hR := fun h w hr => refDecode_run hK v l h w hr hw hll
  rw [← hS] at hR
  cases hA : ansP V l with
  | none =>
    simp only [hA] at hP hR
    refine Sp.start (m := 637) (n := 32) w (hK.none 4 rfl rfl _ _) Tryz.func4 rfl rfl mask4 rfl rfl ?_
    repeat' (first
      | refine ToX.nrm_seq ?_
      | refine WCX.seq ?_
      | (refine WCX.region (id := 0) ?_; ((refine .cons (q hX rfl ?_))) <;> (refine .nil (.intro rfl ?_)))
      | (refine WCX.region (id := 1) ?_; ((refine .cons (q hX rfl ?_))) <;> ((refine .cons (ql hX rfl rfl rfl rfl rfl rfl (by assumption) rfl rfl ?_))) <;> ((refine .cons (qc rfl ?_ ?_)) <;> intro _) <;> (refine .nil (.intro rfl ?_)))
      | (refine WCX.region (id := 2) ?_; ((refine .cons (qcallV rfl rfl rfl rfl ca8 rfl rfl (fun h f => awake_run hK h f.wf (f.ro hB)) ?_))) <;> ((refine .cons (q hX rfl ?_))) <;> (refine .nil (.intro rfl ?_)))
      | (refine WCX.region (id := 3) ?_; ((refine .cons (q hX rfl ?_))) <;> ((refine .cons (qcall rfl rfl rfl rfl ca16 rfl rfl (fun h f => hP h f.wf (.of (f.ro hB)) (f.ro (.of hr))) ?_)) <;> (rintro v C' ⟨rfl, rfl⟩)) <;> (iterate 6 (refine .cons (q hX rfl ?_))) <;> (refine .nil (.intro rfl ?_)))
      | (refine WCX.region (id := 4) ?_; ((refine .cons (q hX rfl ?_))) <;> ((refine .cons (qcall rfl rfl rfl rfl ca17 rfl rfl (fun h f => hR h f.wf (f.ro (.of hr))) ?_)) <;> (rintro v C' ⟨rfl, rfl⟩)) <;> (iterate 6 (refine .cons (q hX rfl ?_))) <;> (refine .nil (.intro rfl ?_)))
      | (refine WCX.region (id := 5) ?_; (iterate 2 (refine .cons (q hX rfl ?_))) <;> ((refine .cons (qcallV rfl rfl rfl rfl ca18 rfl rfl (fun h f => same_run hK noCode .nils .nils .nils .nils .nils .nils h f.wf (by decide) (by decide) (by decide) (noCode_holds h) (noCode_holds h)) ?_))) <;> (iterate 6 (refine .cons (q hX rfl ?_))) <;> ((refine .cons (qcallV rfl rfl rfl rfl ca8 rfl rfl (fun h f => awake_run hK h f.wf (f.ro hB)) ?_))) <;> (iterate 2 (refine .cons (q hX rfl ?_))) <;> (refine .nil (.intro rfl ?_)))
      | refine WCX.ret ?_
      | refine ToX.ret_seq ?_
      | refine WCX.cond_true rfl ?_
      | refine WCX.cond_false rfl ?_
      | refine WCX.skip ?_
      | refine ToX.fn_ret hX rfl ?_)
    · exact fun h f => ⟨rfl, f.chg⟩
    · exact fun h f => ⟨rfl, f.chg⟩
  | some c =>
    simp only [hA] at hP hR
    have hc : CodeFine c := V_fine ((ansP_some fun c hc => V_fine hc).1 hA).1
    have b1 := hc.params
    have b2 := hc.shared
    have b3 := hc.insns
    refine Sp.start (m := 637) (n := 32) w (hK.none 4 rfl rfl _ _) Tryz.func4 rfl rfl mask4 rfl rfl ?_
    repeat' (first
      | refine ToX.nrm_seq ?_
      | refine WCX.seq ?_
      | (refine WCX.region (id := 0) ?_; ((refine .cons (q hX rfl ?_))) <;> (refine .nil (.intro rfl ?_)))
      | (refine WCX.region (id := 1) ?_; ((refine .cons (q hX rfl ?_))) <;> ((refine .cons (ql hX rfl rfl rfl rfl rfl rfl (by assumption) rfl rfl ?_))) <;> ((refine .cons (qc rfl ?_ ?_)) <;> intro _) <;> (refine .nil (.intro rfl ?_)))
      | (refine WCX.region (id := 2) ?_; ((refine .cons (qcallV rfl rfl rfl rfl ca8 rfl rfl (fun h f => awake_run hK h f.wf (f.ro hB)) ?_))) <;> ((refine .cons (q hX rfl ?_))) <;> (refine .nil (.intro rfl ?_)))
      | (refine WCX.region (id := 3) ?_; ((refine .cons (q hX rfl ?_))) <;> ((refine .cons (qcall rfl rfl rfl rfl ca16 rfl rfl (fun h f => hP h f.wf (.of (f.ro hB)) (f.ro (.of hr))) ?_)) <;> (rintro v C' ⟨pv, sv, iv, rfl, rfl⟩)) <;> (iterate 6 (refine .cons (q hX rfl ?_))) <;> (refine .nil (.intro rfl ?_)))
      | (refine WCX.region (id := 4) ?_; ((refine .cons (q hX rfl ?_))) <;> ((refine .cons (qcall rfl rfl rfl rfl ca17 rfl rfl (fun h f => hR h f.wf (f.ro (.of hr))) ?_)) <;> (rintro v C' ⟨pv2, sv2, iv2, rfl, rfl⟩)) <;> (iterate 6 (refine .cons (q hX rfl ?_))) <;> (refine .nil (.intro rfl ?_)))
      | refine WCX.ret ?_
      | refine ToX.ret_seq ?_
      | refine WCX.cond_true rfl ?_
      | refine WCX.cond_false rfl ?_
      | refine WCX.skip ?_
      | refine ToX.fn_ret hX rfl ?_)
    · exact fun h f => ⟨rfl, f.chg⟩
    · simp only [codeParts, List.append_nil, List.cons_append, List.nil_append]
      repeat' (first
        | refine ToX.nrm_seq ?_
        | (refine WCX.region (id := 5) ?_; (iterate 2 (refine .cons (q hX rfl ?_))) <;> ((refine .cons (qcallV rfl rfl rfl rfl ca18 rfl rfl (fun h f => same_run hK c pv sv iv pv2 sv2 iv2 h f.wf b1 b2 b3 ⟨ownS.rd (f.pick (.t (.t (.t .h)))), ownS.rd (f.pick (.t (.t (.t (.t .h))))), ownS.rd (f.pick (.t (.t (.t (.t (.t .h))))))⟩ ⟨ownS.rd (f.pick .h), ownS.rd (f.pick (.t .h)), ownS.rd (f.pick (.t (.t .h)))⟩) ?_))) <;> (iterate 6 (refine .cons (q hX rfl ?_))) <;> ((refine .cons (qcallV rfl rfl rfl rfl ca8 rfl rfl (fun h f => awake_run hK h f.wf (f.ro hB)) ?_))) <;> (iterate 2 (refine .cons (q hX rfl ?_))) <;> (refine .nil (.intro rfl ?_)))
        | refine WCX.ret ?_
        | refine ToX.fn_ret hX rfl ?_)
      exact fun h f => ⟨rfl, f.chg.picks .nil⟩
end Em
end Go.HL
