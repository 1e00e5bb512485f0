/- The walk: the reference reads code. No statement of the seat stands here. -/
import Derived.Test.YtngeipnhbigdmaaGreatDoorMG
set_option linter.unusedVariables false
set_option linter.unusedSimpArgs false
namespace Go.HL
open Go Go.Proofs
namespace Em
set_option maxRecDepth 10000
variable {K : CallFn} {base : List (Nat × HObj)}
/-- the reader's cells -/
abbrev rcells (v : HVal) (at' : Nat) (b : Bool) : List HVal := [v, i64 at', .bool b]
/-- what a method of the reference's reader does -/
def ReadsR {α : Type} (val : α → HVal) (f : S → α × S) (l : List Nat) (k : Nat) (v : HVal) (i : Nat) (b : Bool) (h : Heap) : HVal → Heap → Prop :=
  TrP k (rcells v i b) 95 false (fun x l' C' => x = val (f (l.drop i, b)).1 ∧ (∃ i', l' = rcells v i' (f (l.drop i, b)).2.2 ∧ (f (l.drop i, b)).2.1 = l.drop i') ∧ C' = []) h
theorem wordR_drop {l : List Nat} {i : Nat} (h : i < l.length) (most : Nat) : wordR most (l.drop i, false) = if most < l.getD i 0 then (0, (l.drop i, true)) else (l.getD i 0, (l.drop (i + 1), false)) := by
  rw [drop_cons h 0]; rfl
theorem wordR_end {l : List Nat} {i : Nat} (h : ¬ i < l.length) (most : Nat) : wordR most (l.drop i, false) = (0, (l.drop i, true)) := by
  rw [List.drop_of_length_le (by omega)]; rfl
theorem rword_run (hK : KN base K) (k most : Nat) (v : HVal) (l : List Nat) (i : Nat) (b : Bool) (h : Heap) (w : Wf h) (hp : (pts k (rcells v i b) 95 false).holds h) (ro : Ro [pts k (rcells v i b) 95 false] h (words v l)) (hl : most ≤ 4294967295) (hw : ∀ x ∈ l, x < 4294967296) (hll : l.length ≤ 4611686018427387904) :
    Sp P K 45 [.ptr k 0, u32 most] h (ReadsR i64 (wordR most) l k v i b h) := by
  have hlen := words_len ro.holds
  cases b with
  | true =>
    refine Sp.startP (m := 17179869203) (n := 57) w hp (hK.none 45 rfl rfl _ _) Tryz.func45 rfl rfl mask45 rfl rfl ?_
    repeat' (first
      | refine ToX.nrm_seq ?_
      | refine WCX.seq ?_
      | (refine WCX.region (id := 0) ?_; ((refine .cons (q hX rfl ?_))) <;> (refine .nil (.intro rfl ?_)))
      | (refine WCX.draw (id := 1) tab [0, 1, 2, 3, 4, 5, 6, 7, 8, 9, 10, 11, 12, 13, 14, 15, 16, 17, 18, 19, 20, 21, 22, 23, 24, 25, 26, 27, 28, 29] #[0, 1, 3, 7, 15, 31, 63, 127, 255, 31, 543, 1567, 3615, 7711, 16383, 32767, 65535, 131071, 262143, 524287, 1048575, 131071, 2228223, 6422527, 14811135, 33554431, 67108863, 131071, 268435455, 536870911] (by kernel_rfl) (by kernel_rfl) (by kernel_rfl) ?_; (iterate 3 ((refine .cons rfl (q hX rfl ?_)) <;> refine ⟨_, .comp rfl, ?_⟩)) <;> ((refine .cons rfl (qb hX rfl ?_ ?_)) <;> (intro hbl; (first | (cases hbl; done) | skip)) <;> first | refine ⟨_, .rdB hX.tab rfl rfl rfl rfl rfl rfl rfl rfl (sureV_beq rfl) rfl rfl rfl, ?_⟩ | refine ⟨_, .rdB hX.tab rfl rfl rfl rfl rfl rfl rfl rfl (beq_len (by assumption)) rfl rfl rfl, ?_⟩ | refine ⟨_, .rdS hX.tab rfl rfl rfl rfl rfl rfl rfl rfl (sureV_beq rfl) rfl rfl rfl, ?_⟩ | refine ⟨_, .rdS hX.tab rfl rfl rfl rfl rfl rfl rfl rfl (beq_len (by assumption)) rfl rfl rfl, ?_⟩ | refine ⟨_, .comp rfl, ?_⟩) <;> (iterate 4 ((refine .cons rfl (q hX rfl ?_)) <;> refine ⟨_, .comp rfl, ?_⟩)) <;> ((refine .cons rfl (q hX rfl ?_)) <;> first | refine ⟨_, .rdB hX.tab rfl rfl rfl rfl rfl rfl rfl rfl (sureV_beq rfl) rfl rfl rfl, ?_⟩ | refine ⟨_, .rdB hX.tab rfl rfl rfl rfl rfl rfl rfl rfl (beq_len (by assumption)) rfl rfl rfl, ?_⟩ | refine ⟨_, .rdS hX.tab rfl rfl rfl rfl rfl rfl rfl rfl (sureV_beq rfl) rfl rfl rfl, ?_⟩ | refine ⟨_, .rdS hX.tab rfl rfl rfl rfl rfl rfl rfl rfl (beq_len (by assumption)) rfl rfl rfl, ?_⟩ | refine ⟨_, .comp rfl, ?_⟩) <;> (iterate 3 ((refine .cons rfl (q hX rfl ?_)) <;> refine ⟨_, .comp rfl, ?_⟩)) <;> ((refine .cons rfl (q hX rfl ?_)) <;> first | refine ⟨_, .rdB hX.tab rfl rfl rfl rfl rfl rfl rfl rfl (sureV_beq rfl) rfl rfl rfl, ?_⟩ | refine ⟨_, .rdB hX.tab rfl rfl rfl rfl rfl rfl rfl rfl (beq_len (by assumption)) rfl rfl rfl, ?_⟩ | refine ⟨_, .rdS hX.tab rfl rfl rfl rfl rfl rfl rfl rfl (sureV_beq rfl) rfl rfl rfl, ?_⟩ | refine ⟨_, .rdS hX.tab rfl rfl rfl rfl rfl rfl rfl rfl (beq_len (by assumption)) rfl rfl rfl, ?_⟩ | refine ⟨_, .comp rfl, ?_⟩) <;> (iterate 7 ((refine .cons rfl (q hX rfl ?_)) <;> refine ⟨_, .comp rfl, ?_⟩)) <;> ((refine .cons rfl (q hX rfl ?_)) <;> first | refine ⟨_, .rdB hX.tab rfl rfl rfl rfl rfl rfl rfl rfl (sureV_beq rfl) rfl rfl rfl, ?_⟩ | refine ⟨_, .rdB hX.tab rfl rfl rfl rfl rfl rfl rfl rfl (beq_len (by assumption)) rfl rfl rfl, ?_⟩ | refine ⟨_, .rdS hX.tab rfl rfl rfl rfl rfl rfl rfl rfl (sureV_beq rfl) rfl rfl rfl, ?_⟩ | refine ⟨_, .rdS hX.tab rfl rfl rfl rfl rfl rfl rfl rfl (beq_len (by assumption)) rfl rfl rfl, ?_⟩ | refine ⟨_, .comp rfl, ?_⟩) <;> (iterate 3 ((refine .cons rfl (q hX rfl ?_)) <;> refine ⟨_, .comp rfl, ?_⟩)) <;> ((refine .cons rfl (q hX rfl ?_)) <;> first | refine ⟨_, .rdB hX.tab rfl rfl rfl rfl rfl rfl rfl rfl (sureV_beq rfl) rfl rfl rfl, ?_⟩ | refine ⟨_, .rdB hX.tab rfl rfl rfl rfl rfl rfl rfl rfl (beq_len (by assumption)) rfl rfl rfl, ?_⟩ | refine ⟨_, .rdS hX.tab rfl rfl rfl rfl rfl rfl rfl rfl (sureV_beq rfl) rfl rfl rfl, ?_⟩ | refine ⟨_, .rdS hX.tab rfl rfl rfl rfl rfl rfl rfl rfl (beq_len (by assumption)) rfl rfl rfl, ?_⟩ | refine ⟨_, .comp rfl, ?_⟩) <;> ((refine .cons rfl (q hX rfl ?_)) <;> refine ⟨_, .comp rfl, ?_⟩) <;> ((refine .cons rfl (q hX rfl ?_)) <;> first | refine ⟨_, .rdB hX.tab rfl rfl rfl rfl rfl rfl rfl rfl (sureV_beq rfl) rfl rfl rfl, ?_⟩ | refine ⟨_, .rdB hX.tab rfl rfl rfl rfl rfl rfl rfl rfl (beq_len (by assumption)) rfl rfl rfl, ?_⟩ | refine ⟨_, .rdS hX.tab rfl rfl rfl rfl rfl rfl rfl rfl (sureV_beq rfl) rfl rfl rfl, ?_⟩ | refine ⟨_, .rdS hX.tab rfl rfl rfl rfl rfl rfl rfl rfl (beq_len (by assumption)) rfl rfl rfl, ?_⟩ | refine ⟨_, .comp rfl, ?_⟩) <;> (iterate 3 ((refine .cons rfl (q hX rfl ?_)) <;> refine ⟨_, .comp rfl, ?_⟩)) <;> (refine .nil ⟨?_, .intro rfl ?_⟩ <;> (repeat' (first | exact trivial | exact .inl rfl | exact .inr ⟨_, _, _, _, rfl, rfl, rfl⟩ | refine ⟨?_, ?_⟩))))
      | (refine WCX.region (id := 2) ?_; (iterate 4 (refine .cons (q hX rfl ?_))) <;> (refine .nil (.intro rfl ?_)))
      | (refine WCX.region (id := 3) ?_; ((refine .cons (q hX rfl ?_))) <;> (refine .nil (.intro rfl ?_)))
      | refine WCX.ret ?_
      | refine ToX.ret_seq ?_
      | refine WCX.cond_true rfl ?_
      | refine ToX.fn_ret hX rfl ?_)
    exact fun h f => ⟨_, _, f.chgP, rfl, ⟨i, rfl, rfl⟩, rfl⟩
  | false =>
    have hx : i < l.length → l.getD i 0 < 4294967296 := fun hlt => hw _ (getD_mem _ hlt)
    refine Sp.startP (m := 17179869203) (n := 57) w hp (hK.none 45 rfl rfl _ _) Tryz.func45 rfl rfl mask45 rfl rfl ?_
    repeat' (first
      | refine ToX.nrm_seq ?_
      | refine WCX.seq ?_
      | (refine WCX.region (id := 0) ?_; ((refine .cons (q hX rfl ?_))) <;> (refine .nil (.intro rfl ?_)))
      | (refine WCX.draw (id := 1) tab [0, 1, 2, 3, 4, 5, 6, 7, 8, 9, 10, 11, 12, 13, 14, 15, 16, 17, 18, 19, 20, 21, 22, 23, 24, 25, 26, 27, 28, 29] #[0, 1, 3, 7, 15, 31, 63, 127, 255, 31, 543, 1567, 3615, 7711, 16383, 32767, 65535, 131071, 262143, 524287, 1048575, 131071, 2228223, 6422527, 14811135, 33554431, 67108863, 131071, 268435455, 536870911] (by kernel_rfl) (by kernel_rfl) (by kernel_rfl) ?_; (iterate 3 ((refine .cons rfl (q hX rfl ?_)) <;> refine ⟨_, .comp rfl, ?_⟩)) <;> ((refine .cons rfl (qb hX rfl ?_ ?_)) <;> (intro hbl; (first | (cases hbl; done) | skip)) <;> first | refine ⟨_, .rdB hX.tab rfl rfl rfl rfl rfl rfl rfl rfl (sureV_beq rfl) rfl rfl rfl, ?_⟩ | refine ⟨_, .rdB hX.tab rfl rfl rfl rfl rfl rfl rfl rfl (beq_len (by assumption)) rfl rfl rfl, ?_⟩ | refine ⟨_, .rdS hX.tab rfl rfl rfl rfl rfl rfl rfl rfl (sureV_beq rfl) rfl rfl rfl, ?_⟩ | refine ⟨_, .rdS hX.tab rfl rfl rfl rfl rfl rfl rfl rfl (beq_len (by assumption)) rfl rfl rfl, ?_⟩ | refine ⟨_, .comp rfl, ?_⟩) <;> (iterate 4 ((refine .cons rfl (q hX rfl ?_)) <;> refine ⟨_, .comp rfl, ?_⟩)) <;> ((refine .cons rfl (q hX rfl ?_)) <;> first | refine ⟨_, .rdB hX.tab rfl rfl rfl rfl rfl rfl rfl rfl (sureV_beq rfl) rfl rfl rfl, ?_⟩ | refine ⟨_, .rdB hX.tab rfl rfl rfl rfl rfl rfl rfl rfl (beq_len (by assumption)) rfl rfl rfl, ?_⟩ | refine ⟨_, .rdS hX.tab rfl rfl rfl rfl rfl rfl rfl rfl (sureV_beq rfl) rfl rfl rfl, ?_⟩ | refine ⟨_, .rdS hX.tab rfl rfl rfl rfl rfl rfl rfl rfl (beq_len (by assumption)) rfl rfl rfl, ?_⟩ | refine ⟨_, .comp rfl, ?_⟩) <;> (iterate 3 ((refine .cons rfl (q hX rfl ?_)) <;> refine ⟨_, .comp rfl, ?_⟩)) <;> ((refine .cons rfl (q hX rfl ?_)) <;> first | refine ⟨_, .rdB hX.tab rfl rfl rfl rfl rfl rfl rfl rfl (sureV_beq rfl) rfl rfl rfl, ?_⟩ | refine ⟨_, .rdB hX.tab rfl rfl rfl rfl rfl rfl rfl rfl (beq_len (by assumption)) rfl rfl rfl, ?_⟩ | refine ⟨_, .rdS hX.tab rfl rfl rfl rfl rfl rfl rfl rfl (sureV_beq rfl) rfl rfl rfl, ?_⟩ | refine ⟨_, .rdS hX.tab rfl rfl rfl rfl rfl rfl rfl rfl (beq_len (by assumption)) rfl rfl rfl, ?_⟩ | refine ⟨_, .comp rfl, ?_⟩) <;> ((refine .cons rfl (ql hX rfl rfl rfl rfl rfl rfl (by assumption) rfl rfl ?_)) <;> refine ⟨_, .comp rfl, ?_⟩) <;> ((refine .cons rfl (qc rfl ?_ ?_)) <;> intro _ <;> refine ⟨_, .comp rfl, ?_⟩) <;> (iterate 5 ((refine .cons rfl (q hX rfl ?_)) <;> refine ⟨_, .comp rfl, ?_⟩)) <;> ((refine .cons rfl (q hX rfl ?_)) <;> first | refine ⟨_, .rdB hX.tab rfl rfl rfl rfl rfl rfl rfl rfl (sureV_beq rfl) rfl rfl rfl, ?_⟩ | refine ⟨_, .rdB hX.tab rfl rfl rfl rfl rfl rfl rfl rfl (beq_len (by assumption)) rfl rfl rfl, ?_⟩ | refine ⟨_, .rdS hX.tab rfl rfl rfl rfl rfl rfl rfl rfl (sureV_beq rfl) rfl rfl rfl, ?_⟩ | refine ⟨_, .rdS hX.tab rfl rfl rfl rfl rfl rfl rfl rfl (beq_len (by assumption)) rfl rfl rfl, ?_⟩ | refine ⟨_, .comp rfl, ?_⟩) <;> (iterate 3 ((refine .cons rfl (q hX rfl ?_)) <;> refine ⟨_, .comp rfl, ?_⟩)) <;> ((refine .cons rfl (q hX rfl ?_)) <;> first | refine ⟨_, .rdB hX.tab rfl rfl rfl rfl rfl rfl rfl rfl (sureV_beq rfl) rfl rfl rfl, ?_⟩ | refine ⟨_, .rdB hX.tab rfl rfl rfl rfl rfl rfl rfl rfl (beq_len (by assumption)) rfl rfl rfl, ?_⟩ | refine ⟨_, .rdS hX.tab rfl rfl rfl rfl rfl rfl rfl rfl (sureV_beq rfl) rfl rfl rfl, ?_⟩ | refine ⟨_, .rdS hX.tab rfl rfl rfl rfl rfl rfl rfl rfl (beq_len (by assumption)) rfl rfl rfl, ?_⟩ | refine ⟨_, .comp rfl, ?_⟩) <;> (first | (refine .cons rfl (q hX rfl ?_)) <;> refine ⟨_, .comp rfl, ?_⟩ | (refine .cons rfl (qidx hX rfl rfl rfl rfl rfl ro.frd (row_i (0 : Nat) (by omega)) rfl rfl rfl ?_)) <;> refine ⟨_, .comp rfl, ?_⟩) <;> ((refine .cons rfl (q hX rfl ?_)) <;> first | refine ⟨_, .rdB hX.tab rfl rfl rfl rfl rfl rfl rfl rfl (sureV_beq rfl) rfl rfl rfl, ?_⟩ | refine ⟨_, .rdB hX.tab rfl rfl rfl rfl rfl rfl rfl rfl (beq_len (by assumption)) rfl rfl rfl, ?_⟩ | refine ⟨_, .rdS hX.tab rfl rfl rfl rfl rfl rfl rfl rfl (sureV_beq rfl) rfl rfl rfl, ?_⟩ | refine ⟨_, .rdS hX.tab rfl rfl rfl rfl rfl rfl rfl rfl (beq_len (by assumption)) rfl rfl rfl, ?_⟩ | refine ⟨_, .comp rfl, ?_⟩) <;> ((refine .cons rfl (q hX rfl ?_)) <;> refine ⟨_, .comp rfl, ?_⟩) <;> (first | (refine .cons rfl (q hX rfl ?_)) <;> refine ⟨_, .comp rfl, ?_⟩ | (refine .cons rfl (qc rfl ?_ ?_)) <;> intro _ <;> refine ⟨_, .comp rfl, ?_⟩) <;> ((refine .cons rfl (q hX rfl ?_)) <;> refine ⟨_, .comp rfl, ?_⟩) <;> (refine .nil ⟨?_, .intro rfl ?_⟩ <;> (repeat' (first | exact trivial | exact .inl rfl | exact .inr ⟨_, _, _, _, rfl, rfl, rfl⟩ | refine ⟨?_, ?_⟩))))
      | (refine WCX.region (id := 2) ?_; (iterate 4 (refine .cons (q hX rfl ?_))) <;> (refine .nil (.intro rfl ?_)))
      | (refine WCX.region (id := 3) ?_; ((refine .cons (q hX rfl ?_))) <;> (refine .nil (.intro rfl ?_)))
      | (refine WCX.region (id := 4) ?_; (iterate 4 (refine .cons (q hX rfl ?_))) <;> ((refine .cons (qa rfl rfl rfl rfl rfl (wrapF_i64 (by first | omega | (simp only [Int.ofNat_eq_natCast]; omega)) (by first | omega | (simp only [Int.ofNat_eq_natCast]; omega))) rfl rfl ?_))) <;> (iterate 3 (refine .cons (q hX rfl ?_))) <;> (refine .nil (.intro rfl ?_)))
      | (refine WCX.draw (id := 5) tab [0, 1, 2, 3, 4, 5, 6, 7, 8, 9, 10, 11, 12] #[0, 1, 3, 7, 0, 16, 48, 112, 240, 511, 1023, 2047, 4095] (by kernel_rfl) (by kernel_rfl) (by kernel_rfl) ?_; (iterate 3 ((refine .cons rfl (q hX rfl ?_)) <;> refine ⟨_, .comp rfl, ?_⟩)) <;> ((refine .cons rfl (q hX rfl ?_)) <;> first | refine ⟨_, .rdB hX.tab rfl rfl rfl rfl rfl rfl rfl rfl (sureV_beq rfl) rfl rfl rfl, ?_⟩ | refine ⟨_, .rdB hX.tab rfl rfl rfl rfl rfl rfl rfl rfl (beq_len (by assumption)) rfl rfl rfl, ?_⟩ | refine ⟨_, .rdS hX.tab rfl rfl rfl rfl rfl rfl rfl rfl (sureV_beq rfl) rfl rfl rfl, ?_⟩ | refine ⟨_, .rdS hX.tab rfl rfl rfl rfl rfl rfl rfl rfl (beq_len (by assumption)) rfl rfl rfl, ?_⟩ | refine ⟨_, .comp rfl, ?_⟩) <;> (iterate 3 ((refine .cons rfl (q hX rfl ?_)) <;> refine ⟨_, .comp rfl, ?_⟩)) <;> ((refine .cons rfl (q hX rfl ?_)) <;> first | refine ⟨_, .rdB hX.tab rfl rfl rfl rfl rfl rfl rfl rfl (sureV_beq rfl) rfl rfl rfl, ?_⟩ | refine ⟨_, .rdB hX.tab rfl rfl rfl rfl rfl rfl rfl rfl (beq_len (by assumption)) rfl rfl rfl, ?_⟩ | refine ⟨_, .rdS hX.tab rfl rfl rfl rfl rfl rfl rfl rfl (sureV_beq rfl) rfl rfl rfl, ?_⟩ | refine ⟨_, .rdS hX.tab rfl rfl rfl rfl rfl rfl rfl rfl (beq_len (by assumption)) rfl rfl rfl, ?_⟩ | refine ⟨_, .comp rfl, ?_⟩) <;> ((refine .cons rfl (qa (d := (i : Int)) rfl rfl rfl rfl rfl (by rw [wrapF_i64 (by omega) (by omega)]; omega) rfl rfl ?_)) <;> refine ⟨_, .comp rfl, ?_⟩) <;> ((refine .cons rfl (qidx hX rfl rfl rfl rfl rfl ro.frd (row_i (0 : Nat) (by omega)) rfl rfl rfl ?_)) <;> refine ⟨_, .comp rfl, ?_⟩) <;> ((refine .cons rfl (q hX rfl ?_)) <;> first | refine ⟨_, .rdB hX.tab rfl rfl rfl rfl rfl rfl rfl rfl (sureV_beq rfl) rfl rfl rfl, ?_⟩ | refine ⟨_, .rdB hX.tab rfl rfl rfl rfl rfl rfl rfl rfl (beq_len (by assumption)) rfl rfl rfl, ?_⟩ | refine ⟨_, .rdS hX.tab rfl rfl rfl rfl rfl rfl rfl rfl (sureV_beq rfl) rfl rfl rfl, ?_⟩ | refine ⟨_, .rdS hX.tab rfl rfl rfl rfl rfl rfl rfl rfl (beq_len (by assumption)) rfl rfl rfl, ?_⟩ | refine ⟨_, .comp rfl, ?_⟩) <;> ((refine .cons rfl (qw hX rfl rfl rfl rfl (wrapF_i64_nat (by omega)) rfl rfl ?_)) <;> refine ⟨_, .comp rfl, ?_⟩) <;> ((refine .cons rfl (q hX rfl ?_)) <;> refine ⟨_, .comp rfl, ?_⟩) <;> (refine .nil ⟨?_, .intro rfl ?_⟩ <;> (repeat' (first | exact trivial | exact .inl rfl | exact .inr ⟨_, _, _, _, rfl, rfl, rfl⟩ | refine ⟨?_, ?_⟩))))
      | refine WCX.ret ?_
      | refine ToX.ret_seq ?_
      | refine WCX.cond_true rfl ?_
      | refine WCX.cond_false rfl ?_
      | refine WCX.skip ?_
      | refine ToX.fn_ret hX rfl ?_)
    · rename_i e
      have e := wordR_end (l := l) (i := i) (by omega) most
      exact fun h f => ⟨_, _, f.chgP, by rw [e]; rfl, ⟨i, by rw [e], by rw [e]⟩, rfl⟩
    · rename_i e0 e1
      have e := wordR_drop (l := l) (i := i) (by omega) most
      rw [if_pos (by omega)] at e
      exact fun h f => ⟨_, _, f.chgP, by rw [e]; rfl, ⟨i, by rw [e], by rw [e]⟩, rfl⟩
    · rename_i e0 e1
      have e := wordR_drop (l := l) (i := i) (by omega) most
      rw [if_neg (by omega)] at e
      exact fun h f => ⟨_, _, f.chgP, by rw [e]; rfl, ⟨i + 1, by rw [e]; rfl, by rw [e]⟩, rfl⟩
end Em
end Go.HL
namespace Go.HL
open Go Go.Proofs
namespace Em
set_option maxRecDepth 10000
variable {K : CallFn} {base : List (Nat × HObj)}
theorem wordR_le (most : Nat) (s : S) : (wordR most s).1 ≤ most := wordR_bounded most s
structure NJ where
  i : Nat
  bad : Bool
  b : List Nat
  bv : HVal
structure NameJ (l : List Nat) (s : S) (N : Nat) (a : NJ) : Prop where
  rest : nameD wordR s = nameL (wordR 4294967295) N a.b (l.drop a.i, a.bad)
  len : a.b.length ≤ N
  bytes : ∀ y ∈ a.b, y < 256
  loose : ∀ k, a.bv ≠ .rest k
theorem rname_run (hK : KN base K) (k : Nat) (v : HVal) (l : List Nat) (i : Nat) (b : Bool) (h : Heap) (w : Wf h) (hp : (pts k (rcells v i b) 95 false).holds h) (ro0 : Ro [pts k (rcells v i b) 95 false] h (words v l)) (hw : ∀ x ∈ l, x < 4294967296) (hll : l.length ≤ 4611686018427387904) :
    Sp P K 44 [.ptr k 0] h (ReadsR strB (nameD wordR) l k v i b h) := by
  have hle := wordR_le 16 (l.drop i, b)
  have e0 : nameD wordR (l.drop i, b) = nameL (wordR 4294967295) (wordR 16 (l.drop i, b)).1 [] (wordR 16 (l.drop i, b)).2 := rfl
  refine Sp.startP (m := 1074266237) (n := 43) w hp (hK.none 44 rfl rfl _ _) Tryz.func44 rfl rfl mask44 rfl rfl ?_
  repeat' (first
    | refine ToX.nrm_seq ?_
    | refine WCX.seq ?_
    | (refine WCX.region (id := 0) ?_; ((refine .cons (q hX rfl ?_))) <;> (refine .nil (.intro rfl ?_)))
    | (refine WCX.region (id := 1) ?_; ((refine .cons (q hX rfl ?_))) <;> ((refine .cons (qcallP rfl rfl rfl rfl rfl rfl rfl ca45 rfl rfl (fun k h f hp ro => rword_run hK k 16 v l i b h f.wf hp (ro _ ro0) (by omega) hw hll) (fun _ => rfl) ?_)) <;> (rintro v l' C' B' ⟨rfl, ⟨i1, rfl, hi1⟩, rfl⟩ hB; cases hB)) <;> ((refine .cons (q hX rfl ?_))) <;> (refine .nil (.intro rfl ?_)))
    | (refine WCX.region (id := 2) ?_; ((refine .cons (q hX rfl ?_))) <;> (refine .nil (.intro rfl ?_)))
    | refine WCX.block ?_)
  generalize wordR 16 (l.drop i, b) = r1 at hle e0 hi1 ⊢
  obtain ⟨N, s1, b1⟩ := r1
  simp only at hle e0 hi1 ⊢
  subst hi1
  refine WCX.nil 5 1 ?_
  refine WCX.loop (ι := NJ) (fun a => [(4, .ext a.bv), (3, .ext (i64 N)), (0, .ptr 0 0)]) (fun a => [.own (rcells v a.i a.bad) 95 false]) (fun a => [ownS 5 1 a.bv (a.b.map bcell)]) (NameJ l (l.drop i, b) N) (fun a => N - a.b.length) ⟨i1, b1, [], .nils⟩ ⟨⟨rfl, rfl, rfl, trivial⟩, ⟨_, rfl⟩, ⟨_, .cons .h .nil⟩⟩ ⟨e0, by simp, by simp, by simp⟩ (fun _ => rfl) (fun _ => rfl) (fun _ => rfl) ?_
  rintro ⟨i2, b2, bs, bv⟩ ⟨hr, hl, hb, hbv⟩ next
  simp only at hr hl hb hbv next ⊢
  refine WCX.fact (p := lenV bv = some bs.length) (fun h f => by have := (ownS.rd (f.pick .h)).slice.len; simpa using this) fun hlb => ?_
  have hle2 := wordR_le 4294967295 (l.drop i2, b2)
  repeat' (first
    | refine ToX.nrm_seq ?_
    | refine WCX.seq ?_
    | (refine WCX.region (id := 3) ?_; ((refine .cons (q hX rfl ?_))) <;> ((refine .cons (ql hX rfl rfl rfl rfl rfl rfl (by assumption) rfl rfl ?_))) <;> ((refine .cons (q hX rfl ?_))) <;> ((refine .cons (qc rfl ?_ ?_)) <;> intro _) <;> (iterate 4 (refine .cons (q hX rfl ?_))) <;> (first | (refine .cons (qb hX rfl ?_ ?_)) <;> (intro hbl; (first | (cases hbl; done) | skip)) | (refine .cons (q hX rfl ?_))) <;> (iterate 2 (refine .cons (q hX rfl ?_))) <;> (refine .nil (.intro rfl ?_)))
    | (refine WCX.region (id := 4) ?_; ((refine .cons (q hX rfl ?_))) <;> ((refine .cons (qcallP rfl rfl rfl rfl rfl rfl rfl ca45 rfl rfl (fun k h f hp ro => rword_run hK k 4294967295 v l i2 b2 h f.wf hp (ro _ ro0) (by omega) hw hll) (fun _ => rfl) ?_)) <;> (rintro v l' C' B' ⟨rfl, ⟨i3, rfl, hi3⟩, rfl⟩ hB; cases hB)) <;> ((refine .cons (qw hX rfl rfl rfl rfl (wrapF_u32_nat (by omega)) rfl rfl ?_))) <;> ((refine .cons (q hX rfl ?_))) <;> (refine .nil (.intro rfl ?_)))
    | (refine WCX.region (id := 5) ?_; ((refine .cons (q hX rfl ?_))) <;> (refine .nil (.intro rfl ?_)))
    | (refine WCX.region (id := 10) ?_; ((refine .cons (q hX rfl ?_))) <;> ((refine .cons (qstr hX rfl rfl rfl rfl rfl .h hbv hb rfl rfl ?_))) <;> ((refine .cons (q hX rfl ?_))) <;> (refine .nil (.intro rfl ?_)))
    | refine WCX.ret ?_
    | refine WCX.cond_true rfl ?_
    | refine WCX.cond_false rfl ?_
    | refine WCX.skip ?_
    | refine WCX.block ?_
    | refine WCX.exit ?_
    | refine ToX.exit_seq ?_
    | refine ToX.exit_block ?_
    | refine ToX.fn_ret hX rfl ?_)
  · have er : nameD wordR (l.drop i, b) = (bs, (l.drop i2, b2)) := by rw [hr, nameL, dif_neg (by simp [hbl])]
    exact fun h f => ⟨_, _, f.chgP.picks (.cons .h .nil), by rw [er]; rfl, ⟨i2, by rw [er], by rw [er]⟩, rfl⟩
  · have hb2 : b2 = false := hbl
    subst hb2
    generalize hs3 : wordR 4294967295 (l.drop i2, false) = r3 at hle2 hi3 ⊢
    obtain ⟨wd, s3, b3⟩ := r3
    simp only at hle2 hi3 ⊢
    subst hi3
    have hr3 : nameD wordR (l.drop i, b) = nameL (wordR 4294967295) N (bs ++ bytesOf (min 4 (N - bs.length)) wd) (l.drop i3, b3) := by rw [hr, nameL, dif_pos ⟨by omega, rfl⟩, hs3]
    refine WCX.loop (ι := Nat × Nat × HVal) (fun a => [(6, .ext (i64 a.1)), (5, .ext (u32 a.2.1)), (4, .ext a.2.2), (3, .ext (i64 N)), (0, .ptr 0 0)]) (fun a => [.own (rcells v i3 b3) 95 false]) (fun a => [ownS 5 1 a.2.2 ((bs ++ bytesOf a.1 wd).map bcell)]) (fun a => a.1 ≤ min 4 (N - bs.length) ∧ a.2.1 = wd / 256 ^ a.1 ∧ ∀ k, a.2.2 ≠ .rest k) (fun a => min 4 (N - bs.length) - a.1) (0, wd, bv) ⟨⟨rfl, rfl, rfl, rfl, rfl, trivial⟩, ⟨_, rfl⟩, ⟨_, by simp only [bytesOf, List.append_nil]; exact .cons .h .nil⟩⟩ ⟨Nat.zero_le _, by simp, hbv⟩ (fun _ => rfl) (fun _ => rfl) (fun _ => rfl) ?_
    rintro ⟨m, wm, bv2⟩ ⟨hm, hwm, hbv2⟩ next2
    simp only at hm hwm hbv2 next2 ⊢
    have hlen2 : (bs ++ bytesOf m wd).length = bs.length + m := by rw [List.length_append, bytesOf_length]
    have hwl : wm < 4294967296 := by rw [hwm]; exact Nat.lt_of_le_of_lt (Nat.div_le_self _ _) (by omega)
    refine WCX.fact (p := lenV bv2 = some (bs.length + m)) (fun h f => by have := (ownS.rd (f.pick .h)).slice.len; simpa [bytesOf_length] using this) fun hlb2 => ?_
    repeat' (first
      | refine ToX.nrm_seq ?_
      | refine WCX.seq ?_
      | (refine WCX.region (id := 6) ?_; ((refine .cons (q hX rfl ?_))) <;> ((refine .cons (qc rfl ?_ ?_)) <;> intro _) <;> (iterate 2 (refine .cons (q hX rfl ?_))) <;> (first | (refine .cons (q hX rfl ?_)) | (refine .cons (ql hX rfl rfl rfl rfl rfl rfl (by assumption) rfl rfl ?_))) <;> ((refine .cons (q hX rfl ?_))) <;> (first | (refine .cons (q hX rfl ?_)) | (refine .cons (qc rfl ?_ ?_)) <;> intro _) <;> ((refine .cons (q hX rfl ?_))) <;> (refine .nil (.intro rfl ?_)))
      | (refine WCX.region (id := 8) ?_; (iterate 2 (refine .cons (q hX rfl ?_))) <;> ((refine .cons (qn rfl rfl rfl (bin_rem (b := 256) (by decide)) rfl rfl ?_))) <;> ((refine .cons (qw hX rfl rfl rfl rfl wrapF_u8_nat rfl rfl ?_))) <;> ((refine .cons (q hX rfl ?_))) <;> ((refine .cons (qapp hX rfl rfl rfl rfl rfl rfl rfl rfl rfl rfl rfl rfl b5 rfl rfl rfl rfl rfl (by first | exact .h | exact .t .h | exact .t (.t .h) | exact .t (.t (.t .h))) rfl (by simp only [List.length_map]; omega) rfl rfl ?_)) <;> intro kp) <;> ((refine .cons (q hX rfl ?_))) <;> (refine .nil (.intro rfl ?_)))
      | (refine WCX.region (id := 9) ?_; ((refine .cons (q hX rfl ?_))) <;> ((refine .cons (qn rfl rfl rfl (bin_quo32 (b := 256) (by omega) (by decide)) rfl rfl ?_))) <;> ((refine .cons (q hX rfl ?_))) <;> (refine .nil (.intro rfl ?_)))
      | (refine WCX.region (id := 7) ?_; ((refine .cons (q hX rfl ?_))) <;> ((refine .cons (qa rfl rfl rfl rfl rfl (wrapF_i64 (by first | omega | (simp only [Int.ofNat_eq_natCast]; omega)) (by first | omega | (simp only [Int.ofNat_eq_natCast]; omega))) rfl rfl ?_))) <;> ((refine .cons (q hX rfl ?_))) <;> (refine .nil (.intro rfl ?_)))
      | refine WCX.cond_true rfl ?_
      | refine WCX.cond_false rfl ?_
      | refine WCX.skip ?_
      | refine WCX.block ?_
      | refine WCX.exit ?_
      | refine ToX.exit_seq ?_
      | refine ToX.exit_block ?_
      | refine ToX.nrm_block ?_)
    · refine next2 (m + 1, wm / 256, _) _ _ _ (by simp only; omega) ⟨⟨rfl, rfl, rfl, rfl, rfl, trivial⟩, ⟨_, rfl⟩, ⟨_, .cons (.he ?_) .nil⟩⟩ ⟨by simp only; omega, ?_, by simp⟩
      · simp only [bytesOf_snoc, ← List.append_assoc, List.map_append (l₂ := [_]), ← hwm, Nat.mod_mod]
        rfl
      · simp only; rw [hwm, Nat.div_div_eq_div_mul, Nat.pow_succ]
    all_goals
      clear next2
      have hm4 : m = min 4 (N - bs.length) := by omega
      subst hm4
      refine next ⟨i3, b3, _, bv2⟩ _ _ _ (by simp only [hlen2]; omega) ⟨⟨rfl, rfl, rfl, trivial⟩, ⟨_, rfl⟩, ⟨_, .cons .h .nil⟩⟩ ⟨hr3, by simp only [hlen2]; omega, ?_, hbv2⟩
      intro y hy
      rcases List.mem_append.1 hy with hy | hy
      · exact hb y hy
      · exact bytesOf_lt _ _ y hy
  · have er : nameD wordR (l.drop i, b) = (bs, (l.drop i2, b2)) := by rw [hr, nameL, dif_neg (by omega)]
    exact fun h f => ⟨_, _, f.chgP.picks (.cons .h .nil), by rw [er]; rfl, ⟨i2, by rw [er], by rw [er]⟩, rfl⟩
end Em
end Go.HL
namespace Go.HL
open Go Go.Proofs
namespace Em
set_option maxRecDepth 10000
variable {K : CallFn} {base : List (Nat × HObj)}
theorem take_same {α : Type} {l1 l2 : List α} {i : Nat} (d : α) (h1 : i < l1.length) (h2 : i < l2.length) (ht : l1.take i = l2.take i) (hx : l1.getD i d = l2.getD i d) : l1.take (i + 1) = l2.take (i + 1) := by
  rw [take_succ h1 d, take_succ h2 d, ht, hx]
theorem take_all {α : Type} {l1 l2 : List α} {i : Nat} (h1 : i = l1.length) (h2 : l1.length = l2.length) (ht : l1.take i = l2.take i) : l1 = l2 := by
  rwa [h1, List.take_length, h2, List.take_length] at ht
theorem sameWords_run (hK : KN base K) (v1 v2 : HVal) (l1 l2 : List Nat) (h : Heap) (w : Wf h) (r1 : (rd v1 1 (l1.map wcell)).holds h) (r2 : (rd v2 1 (l2.map wcell)).holds h) (hb : l1.length ≤ 4611686018427387904) :
    Sp P K 15 [v1, v2] h (Val (.bool (decide (l1 = l2))) h) := by
  have hlen1 := rd_len r1
  have hlen2 := rd_len r2
  refine Sp.start (m := 33571891) (n := 26) w (hK.none 15 rfl rfl _ _) Tryz.func15 rfl rfl mask15 rfl rfl ?_
  repeat' (first
    | refine ToX.nrm_seq ?_
    | refine WCX.seq ?_
    | (refine WCX.region (id := 0) ?_; ((refine .cons (q hX rfl ?_))) <;> (refine .nil (.intro rfl ?_)))
    | (refine WCX.region (id := 1) ?_; ((refine .cons (q hX rfl ?_))) <;> ((refine .cons (ql hX rfl rfl rfl rfl rfl rfl (by assumption) rfl rfl ?_))) <;> ((refine .cons (q hX rfl ?_))) <;> ((refine .cons (ql hX rfl rfl rfl rfl rfl rfl (by assumption) rfl rfl ?_))) <;> ((refine .cons (qc rfl ?_ ?_)) <;> intro _) <;> (refine .nil (.intro rfl ?_)))
    | (refine WCX.region (id := 2) ?_; ((refine .cons (q hX rfl ?_))) <;> (refine .nil (.intro rfl ?_)))
    | (refine WCX.region (id := 3) ?_; ((refine .cons (q hX rfl ?_))) <;> (refine .nil (.intro rfl ?_)))
    | refine WCX.ret ?_
    | refine ToX.ret_seq ?_
    | refine WCX.cond_true rfl ?_
    | refine WCX.cond_false rfl ?_
    | refine WCX.skip ?_
    | refine WCX.block ?_
    | refine ToX.fn_ret hX rfl ?_)
  · rename_i e
    have hne : ¬ l1 = l2 := fun he => e (by rw [he])
    exact fun h f => ⟨by rw [decide_eq_false hne]; rfl, f.chg⟩
  rename_i e
  have el : l1.length = l2.length := by omega
  refine WCX.loop (ι := Nat) (fun a => [(5, .ext (i64 a)), (0, .ext v1), (1, .ext v2)]) (fun _ => []) (fun _ => []) (fun a => a ≤ l1.length ∧ l1.take a = l2.take a) (fun a => l1.length - a) 0 ⟨⟨rfl, rfl, rfl, trivial⟩, ⟨_, rfl⟩, ⟨_, .nil⟩⟩ ⟨Nat.zero_le _, by simp⟩ (fun _ => rfl) (fun _ => rfl) (fun _ => rfl) ?_
  rintro i ⟨hi, ht⟩ next
  repeat' (first
    | refine ToX.nrm_seq ?_
    | refine WCX.seq ?_
    | (refine WCX.region (id := 4) ?_; (iterate 2 (refine .cons (q hX rfl ?_))) <;> ((refine .cons (ql hX rfl rfl rfl rfl rfl rfl (by assumption) rfl rfl ?_))) <;> ((refine .cons (qc rfl ?_ ?_)) <;> intro _) <;> (refine .nil (.intro rfl ?_)))
    | (refine WCX.draw (id := 6) tab [0, 1, 2, 3, 4, 5, 6, 7, 8] #[0, 0, 3, 7, 0, 0, 48, 112, 255] (by kernel_rfl) (by kernel_rfl) (by kernel_rfl) ?_; (iterate 2 ((refine .cons rfl (q hX rfl ?_)) <;> refine ⟨_, .comp rfl, ?_⟩)) <;> ((refine .cons rfl (qidx hX rfl rfl rfl rfl rfl (.of r1) (row_i (0 : Nat) (by omega)) rfl rfl rfl ?_)) <;> refine ⟨_, .comp rfl, ?_⟩) <;> ((refine .cons rfl (q hX rfl ?_)) <;> first | refine ⟨_, .rdB hX.tab rfl rfl rfl rfl rfl rfl rfl rfl (sureV_beq rfl) rfl rfl rfl, ?_⟩ | refine ⟨_, .rdB hX.tab rfl rfl rfl rfl rfl rfl rfl rfl (beq_len (by assumption)) rfl rfl rfl, ?_⟩ | refine ⟨_, .rdS hX.tab rfl rfl rfl rfl rfl rfl rfl rfl (sureV_beq rfl) rfl rfl rfl, ?_⟩ | refine ⟨_, .rdS hX.tab rfl rfl rfl rfl rfl rfl rfl rfl (beq_len (by assumption)) rfl rfl rfl, ?_⟩ | refine ⟨_, .comp rfl, ?_⟩) <;> (iterate 2 ((refine .cons rfl (q hX rfl ?_)) <;> refine ⟨_, .comp rfl, ?_⟩)) <;> ((refine .cons rfl (qidx hX rfl rfl rfl rfl rfl (.of r2) (row_i (0 : Nat) (by omega)) rfl rfl rfl ?_)) <;> refine ⟨_, .comp rfl, ?_⟩) <;> ((refine .cons rfl (q hX rfl ?_)) <;> first | refine ⟨_, .rdB hX.tab rfl rfl rfl rfl rfl rfl rfl rfl (sureV_beq rfl) rfl rfl rfl, ?_⟩ | refine ⟨_, .rdB hX.tab rfl rfl rfl rfl rfl rfl rfl rfl (beq_len (by assumption)) rfl rfl rfl, ?_⟩ | refine ⟨_, .rdS hX.tab rfl rfl rfl rfl rfl rfl rfl rfl (sureV_beq rfl) rfl rfl rfl, ?_⟩ | refine ⟨_, .rdS hX.tab rfl rfl rfl rfl rfl rfl rfl rfl (beq_len (by assumption)) rfl rfl rfl, ?_⟩ | refine ⟨_, .comp rfl, ?_⟩) <;> ((refine .cons rfl (qc rfl ?_ ?_)) <;> intro _ <;> refine ⟨_, .comp rfl, ?_⟩) <;> (refine .nil ⟨?_, .intro rfl ?_⟩ <;> (repeat' (first | exact trivial | exact .inl rfl | exact .inr ⟨_, _, _, _, rfl, rfl, rfl⟩ | refine ⟨?_, ?_⟩))))
    | (refine WCX.region (id := 7) ?_; ((refine .cons (q hX rfl ?_))) <;> (refine .nil (.intro rfl ?_)))
    | (refine WCX.region (id := 5) ?_; ((refine .cons (q hX rfl ?_))) <;> ((refine .cons (qa rfl rfl rfl rfl rfl (wrapF_i64 (by first | omega | (simp only [Int.ofNat_eq_natCast]; omega)) (by first | omega | (simp only [Int.ofNat_eq_natCast]; omega))) rfl rfl ?_))) <;> ((refine .cons (q hX rfl ?_))) <;> (refine .nil (.intro rfl ?_)))
    | (refine WCX.region (id := 8) ?_; ((refine .cons (q hX rfl ?_))) <;> (refine .nil (.intro rfl ?_)))
    | refine WCX.ret ?_
    | refine ToX.ret_seq ?_
    | refine ToX.ret_block ?_
    | refine WCX.cond_true rfl ?_
    | refine WCX.cond_false rfl ?_
    | refine WCX.skip ?_
    | refine WCX.block ?_
    | refine WCX.exit ?_
    | refine ToX.exit_seq ?_
    | refine ToX.exit_block ?_
    | refine ToX.nrm_block ?_
    | refine ToX.fn_ret hX rfl ?_)
  · rename_i e0 e1
    have hne : ¬ l1 = l2 := fun he => e1 (by rw [he])
    exact fun h f => ⟨by rw [decide_eq_false hne]; rfl, f.chg⟩
  · rename_i e0 e1
    exact next (i + 1) _ _ _ (by omega) ⟨⟨rfl, rfl, rfl, trivial⟩, ⟨_, rfl⟩, ⟨_, .nil⟩⟩ ⟨by omega, take_same 0 (by omega) (by omega) ht (by omega)⟩
  · have he : l1 = l2 := take_all (by omega) el ht
    exact fun h f => ⟨by rw [decide_eq_true he]; rfl, f.chg⟩
end Em
end Go.HL
namespace Go.HL
open Go Go.Proofs
namespace Em
set_option maxRecDepth 10000
variable {K : CallFn} {base : List (Nat × HObj)}
structure LJ (α : Type) where
  n : Nat
  i : Nat
  b : Bool
  done : List α
  dv : HVal
structure ManyJ {α : Type} (one : S → α × S) (N : Nat) (s1 : S) (l : List Nat) (a : LJ α) : Prop where
  rest : manyL one N s1 = (a.done ++ (manyL one a.n (l.drop a.i, a.b)).1, (manyL one a.n (l.drop a.i, a.b)).2)
  len : a.done.length + a.n ≤ N
theorem ManyJ.end {α : Type} {one : S → α × S} {N : Nat} {s1 : S} {l : List Nat} {a : LJ α} (i : ManyJ one N s1 l a) (h : a.n = 0 ∨ a.b = true) : manyL one N s1 = (a.done, (l.drop a.i, a.b)) := by
  rw [i.rest, manyL_end one h, List.append_nil]
theorem ManyJ.step {α : Type} {one : S → α × S} {N n i2 i3 : Nat} {b3 : Bool} {s1 : S} {l : List Nat} {dv dv' : HVal} {done : List α} {x : α} (i : ManyJ one N s1 l ⟨n, i2, false, done, dv⟩) (hn : 0 < n) (e : one (l.drop i2, false) = (x, (l.drop i3, b3))) : ManyJ one N s1 l ⟨n - 1, i3, b3, done ++ [x], dv'⟩ := by
  obtain ⟨n, rfl⟩ : ∃ m, n = m + 1 := ⟨n - 1, by omega⟩
  refine ⟨?_, ?_⟩
  · have := i.rest
    simp only [Nat.add_sub_cancel] at this ⊢
    rw [this, manyL, if_neg (by simp), e]
    simp
  · have := i.len
    simp only [List.length_append, List.length_singleton] at this ⊢
    omega
theorem bin_quo64 {t a b : Nat} (ha : a < 4294967296) (hb : b ≠ 0) : binH P .quo t (.int .i64 (a : Int)) (.int .i64 (b : Int)) = some (.int .i64 ((a / b : Nat) : Int)) := by
  have := Nat.div_le_self a b
  rw [bin_quo hb, wrapF_i64_nat (by omega)]
theorem flatMap_len {α : Type} {g : α → List Nat} {k : Nat} : ∀ {l : List α}, (∀ a ∈ l, (g a).length ≤ k) → (l.flatMap g).length ≤ k * l.length
  | [], _ => by simp
  | a :: l, h => by
    have h1 := h a (by simp)
    have h2 := flatMap_len (l := l) (k := k) fun b hb => h b (by simp [hb])
    rw [List.flatMap_cons, List.length_append, List.length_cons, Nat.mul_add]
    omega
theorem wholeE_len {c : CodeB} (hc : CodeFine c) : (wholeE c).length ≤ 4611686018427387904 := by
  have b1 := hc.params
  have b2 := hc.shared
  have b3 := hc.insns
  have bn := nameE_len hc.name
  have f1 := flatMap_len (g := paramE) (k := 18) (l := c.params) fun p hp => by
    have := nameE_len (hc.pname p hp)
    simp only [paramE, List.length_append, List.length_singleton]; omega
  have f2 := flatMap_len (g := arrayE) (k := 18) (l := c.shared) fun p hp => by
    have := nameE_len (hc.sname p hp).1
    simp only [arrayE, List.length_append, List.length_singleton]; omega
  have f3 := flatMap_len (g := insnE) (k := 6) (l := c.insns) fun p hp => Nat.le_of_eq rfl
  simp only [wholeE, openE, codeE, List.length_append, List.length_cons, List.length_nil]
  omega
theorem pr {x : Nat × S} {t : List Nat} (h : x.2.1 = t) : x = (x.1, (t, x.2.2)) := by rw [← h]
theorem insnD_at {rd : Nat → S → Nat × S} {l1 l2 : Nat} {s sA sB sC sD sE sF : S} {k r m to jn z : Nat} (hA : rd l1 s = (k, sA)) (hB : rd l2 sA = (r, sB)) (hC : rd 4294967295 sB = (m, sC)) (hD : rd 2000 sC = (to, sD)) (hE : rd 2000 sD = (jn, sE)) (hF : rd 0 sE = (z, sF)) : insnD rd l1 l2 s = (⟨(k % 256 : Nat), (k / 256 : Nat), (r % 256 : Nat), (r / 256 % 256 : Nat), (r / 65536 : Nat), signed m, to, jn⟩, sF) := by
  simp only [insnD, andThen, hA, hB, hC, hD, hE, hF, give]
theorem refDecode_run (hK : KN base K) (v : HVal) (l : List Nat) (h : Heap) (w : Wf h) (hr : (words v l).holds h) (hw : ∀ x ∈ l, x < 4294967296) (hll : l.length ≤ 4611686018427387904) :
    Sp P K 17 [v] h (Tr (fun x C' => match ansR V l with
      | some c => ∃ pv sv iv, x = .tuple [codeV c pv sv iv, i64 0] ∧ C' = codeParts c pv sv iv
      | none => x = .tuple [.agg z26c, i64 8] ∧ C' = []) h) := by
  have hc := words_cells hr
  have hlen := words_len hr
  refine Sp.start (m := 2787763290999788439294949214951408700293117) (n := 144) w (hK.none 17 rfl rfl _ _) Tryz.func17 rfl rfl mask17 rfl rfl ?_
  repeat' (first
    | refine ToX.nrm_seq ?_
    | refine WCX.seq ?_
    | (refine WCX.region (id := 0) ?_; (iterate 2 (refine .cons (q hX rfl ?_))) <;> (refine .nil (.intro rfl ?_)))
    | (refine WCX.region (id := 1) ?_; ((refine .cons (q hX rfl ?_))) <;> ((refine .cons (qbuild hX rfl rfl rfl rfl rfl (by simp only [fillH, hc, ob_some]; rfl) rfl rfl ?_))) <;> (iterate 2 (refine .cons (q hX rfl ?_))) <;> (refine .nil (.intro rfl ?_)))
    | (refine WCX.region (id := 2) ?_; ((refine .cons (q hX rfl ?_))) <;> ((refine .cons (qcallP rfl rfl rfl rfl rfl rfl rfl ca44 rfl rfl (fun k h f hp ro => rname_run hK k v l 2 false h f.wf hp (ro _ (.of hr)) hw hll) (fun _ => rfl) ?_)) <;> (rintro v l' C' B' ⟨rfl, ⟨i1, rfl, hi1⟩, rfl⟩ hB; cases hB)) <;> ((refine .cons (qbuild hX rfl rfl rfl rfl rfl (by simp only [fillH, hc, ob_some]; rfl) rfl rfl ?_))) <;> (iterate 2 (refine .cons (q hX rfl ?_))) <;> (refine .nil (.intro rfl ?_)))
    | (refine WCX.region (id := 3) ?_; ((refine .cons (q hX rfl ?_))) <;> ((refine .cons (qcallP rfl rfl rfl rfl rfl rfl rfl ca45 rfl rfl (fun k h f hp ro => rword_run hK k 6 v l i1 _ h f.wf hp (ro _ (.of hr)) (by omega) hw hll) (fun _ => rfl) ?_)) <;> (rintro v l' C' B' ⟨rfl, ⟨i2, rfl, hi2⟩, rfl⟩ hB; cases hB)) <;> ((refine .cons (q hX rfl ?_))) <;> (refine .nil (.intro rfl ?_)))
    | refine WCX.block ?_)
  generalize hA : nameD wordR (l.drop 2, false) = rA at hi1 hi2 ⊢
  obtain ⟨nm, sA, bA⟩ := rA
  simp only at hi1 hi2 ⊢
  subst hi1
  have hnp := wordR_le 6 (l.drop i1, bA)
  generalize hB : wordR 6 (l.drop i1, bA) = rB at hi2 hnp ⊢
  obtain ⟨np, sB, bB⟩ := rB
  simp only at hi2 hnp ⊢
  subst hi2
  refine WCX.nil 70 2 ?_
  refine WCX.while (c2 := ?_) (Q2 := ?_) (ι := LJ (List Nat × Bool)) (fun a => [(6, .ext (i64 a.n)), (5, .ptr 2 0), (4, .ptr 1 0), (2, .ptr 0 0), (0, .ext v)]) (fun a => [.own z26c 26 false, .own (rcells v a.i a.b) 95 false, .own [strB nm, a.dv, .nils, .int .i64 0, .nils] 26 false]) (fun a => [ownS 70 2 a.dv (a.done.map pcell)]) (ManyJ (paramD wordR) np (l.drop i2, bB) l) (fun a => a.n = 0 ∨ a.b = true) (fun a => a.n) ⟨np, i2, bB, [], .nils⟩ ⟨⟨rfl, rfl, rfl, rfl, rfl, trivial⟩, ⟨_, rfl⟩, ⟨_, .cons .h .nil⟩⟩ ⟨by simp, by simp⟩ (fun _ => rfl) (fun _ => rfl) (fun _ => rfl) ?s1 ?d1
  case s1 =>
    rintro ⟨n, j, b, done, dv⟩ hI next ex
    have hlen := hI.len
    simp only at hlen next ex ⊢
    repeat' (first
      | refine ToX.nrm_seq ?_
      | refine WCX.seq ?_
      | (refine WCX.region (id := 4) ?_; ((refine .cons (q hX rfl ?_))) <;> ((refine .cons (qc rfl ?_ ?_)) <;> intro _) <;> (iterate 4 (refine .cons (q hX rfl ?_))) <;> (first | (refine .cons (qb hX rfl ?_ ?_)) <;> (intro hbl; (first | (cases hbl; done) | skip)) | (refine .cons (q hX rfl ?_))) <;> (iterate 2 (refine .cons (q hX rfl ?_))) <;> (refine .nil (.intro rfl ?_)))
      | (refine WCX.region (id := 6) ?_; ((refine .cons (q hX rfl ?_))) <;> ((refine .cons (qcallP rfl rfl rfl rfl rfl rfl rfl ca44 rfl rfl (fun k h f hp ro => rname_run hK k v l j b h f.wf hp (ro _ (.of hr)) hw hll) (fun _ => rfl) ?_)) <;> (rintro v l' C' B' ⟨rfl, ⟨j1, rfl, hj1⟩, rfl⟩ hB; cases hB)) <;> (iterate 3 (refine .cons (q hX rfl ?_))) <;> (refine .nil (.intro rfl ?_)))
      | (refine WCX.region (id := 7) ?_; ((refine .cons (q hX rfl ?_))) <;> ((refine .cons (qcallP rfl rfl rfl rfl rfl rfl rfl ca45 rfl rfl (fun k h f hp ro => rword_run hK k 1 v l j1 _ h f.wf hp (ro _ (.of hr)) (by omega) hw hll) (fun _ => rfl) ?_)) <;> (rintro v l' C' B' ⟨rfl, ⟨j2, rfl, hj2⟩, rfl⟩ hB; cases hB)) <;> ((refine .cons (qc rfl ?_ ?_)) <;> intro _) <;> (iterate 2 (refine .cons (q hX rfl ?_))) <;> (refine .nil (.intro rfl ?_)))
      | (refine WCX.region (id := 8) ?_; (iterate 4 (refine .cons (q hX rfl ?_))) <;> ((refine .cons (qapp hX rfl rfl rfl rfl rfl rfl rfl rfl rfl rfl rfl rfl b70 rfl rfl rfl rfl rfl (by first | exact .h | exact .t .h | exact .t (.t .h) | exact .t (.t (.t .h))) rfl (by simp only [List.length_map]; omega) rfl rfl ?_)) <;> intro kp) <;> (iterate 2 (refine .cons (q hX rfl ?_))) <;> (refine .nil (.intro rfl ?_)))
      | (refine WCX.region (id := 5) ?_; ((refine .cons (q hX rfl ?_))) <;> ((refine .cons (qa (d := ((n - 1 : Nat) : Int)) rfl rfl rfl rfl rfl (wrap_sub (i := 1) (by omega) (by omega)) rfl rfl ?_))) <;> ((refine .cons (q hX rfl ?_))) <;> (refine .nil (.intro rfl ?_)))
      | refine WCX.cond_true rfl ?_
      | refine WCX.cond_false rfl ?_
      | refine WCX.skip ?_
      | refine WCX.block ?_
      | refine WCX.exit ?_
      | refine ToX.exit_seq ?_
      | refine ToX.exit_block ?_
      | refine ToX.nrm_block ?_)
    · refine ex _ _ _ ?_ (.inr hbl); exact ⟨⟨rfl, rfl, rfl, rfl, rfl, trivial⟩, ⟨_, rfl⟩, ⟨_, .cons .h .nil⟩⟩
    · have hb2 : b = false := hbl
      subst hb2
      refine next ⟨n - 1, j2, _, done ++ [((nameD wordR (l.drop j, false)).1, true)], _⟩ _ _ _ (by simp only; omega) ⟨⟨rfl, rfl, rfl, rfl, rfl, trivial⟩, ⟨_, rfl⟩, ⟨_, by rw [List.map_append]; exact .cons .h .nil⟩⟩ (hI.step (by omega) ?_)
      have h1 : (wordR 1 (l.drop j1, (nameD wordR (l.drop j, false)).2.2)).1 = 1 := by omega
      rw [← hj2, ← hj1] at *
      simp [paramD, andThen, give, h1]
    · have hb2 : b = false := hbl
      subst hb2
      refine next ⟨n - 1, j2, _, done ++ [((nameD wordR (l.drop j, false)).1, false)], _⟩ _ _ _ (by simp only; omega) ⟨⟨rfl, rfl, rfl, rfl, rfl, trivial⟩, ⟨_, rfl⟩, ⟨_, by rw [List.map_append]; exact .cons .h .nil⟩⟩ (hI.step (by omega) ?_)
      have h1 : ¬ (wordR 1 (l.drop j1, (nameD wordR (l.drop j, false)).2.2)).1 = 1 := by omega
      rw [← hj2, ← hj1] at *
      simp [paramD, andThen, give, h1]
    · refine ex _ _ _ ?_ (.inl (by omega)); exact ⟨⟨rfl, rfl, rfl, rfl, rfl, trivial⟩, ⟨_, rfl⟩, ⟨_, .cons .h .nil⟩⟩
  case d1 =>
    rintro ⟨n, i3, bC, ps, pv⟩ hI hJ
    have hC := hI.end hJ
    simp only at hC ⊢
    repeat' (first
      | refine ToX.nrm_seq ?_
      | (refine WCX.region (id := 9) ?_; ((refine .cons (q hX rfl ?_))) <;> ((refine .cons (qcallP rfl rfl rfl rfl rfl rfl rfl ca45 rfl rfl (fun k h f hp ro => rword_run hK k 4 v l i3 bC h f.wf hp (ro _ (.of hr)) (by omega) hw hll) (fun _ => rfl) ?_)) <;> (rintro v l' C' B' ⟨rfl, ⟨i4, rfl, hi4⟩, rfl⟩ hB; cases hB)) <;> ((refine .cons (q hX rfl ?_))) <;> (refine .nil (.intro rfl ?_)))
      | refine WCX.block ?_)
    have hna := wordR_le 4 (l.drop i3, bC)
    generalize hD : wordR 4 (l.drop i3, bC) = rD at hi4 hna ⊢
    obtain ⟨na, sD, bD⟩ := rD
    simp only at hi4 hna ⊢
    subst hi4
    refine WCX.nil 72 2 ?_
    refine WCX.while (c2 := ?_) (Q2 := ?_) (ι := LJ (List Nat × Nat)) (fun a => [(8, .ext (i64 a.n)), (5, .ptr 2 0), (4, .ptr 1 0), (2, .ptr 0 0), (0, .ext v)]) (fun a => [.own z26c 26 false, .own (rcells v a.i a.b) 95 false, .own [strB nm, pv, a.dv, .int .i64 0, .nils] 26 false]) (fun a => [ownS 72 2 a.dv (a.done.map acell), ownS 70 2 pv (ps.map pcell)]) (ManyJ (arrayD wordR) na (l.drop i4, bD) l) (fun a => a.n = 0 ∨ a.b = true) (fun a => a.n) ⟨na, i4, bD, [], .nils⟩ ⟨⟨rfl, rfl, rfl, rfl, rfl, trivial⟩, ⟨_, rfl⟩, ⟨_, .cons .h (.cons .h .nil)⟩⟩ ⟨by simp, by simp⟩ (fun _ => rfl) (fun _ => rfl) (fun _ => rfl) ?s2 ?d2
    case s2 =>
      rintro ⟨n, j, b, done, dv⟩ hI next ex
      have hlen := hI.len
      simp only at hlen next ex ⊢
      repeat' (first
        | refine ToX.nrm_seq ?_
        | refine WCX.seq ?_
        | (refine WCX.region (id := 10) ?_; ((refine .cons (q hX rfl ?_))) <;> ((refine .cons (qc rfl ?_ ?_)) <;> intro _) <;> (iterate 4 (refine .cons (q hX rfl ?_))) <;> (first | (refine .cons (qb hX rfl ?_ ?_)) <;> (intro hbl; (first | (cases hbl; done) | skip)) | (refine .cons (q hX rfl ?_))) <;> (iterate 2 (refine .cons (q hX rfl ?_))) <;> (refine .nil (.intro rfl ?_)))
        | (refine WCX.region (id := 12) ?_; ((refine .cons (q hX rfl ?_))) <;> ((refine .cons (qcallP rfl rfl rfl rfl rfl rfl rfl ca44 rfl rfl (fun k h f hp ro => rname_run hK k v l j b h f.wf hp (ro _ (.of hr)) hw hll) (fun _ => rfl) ?_)) <;> (rintro v l' C' B' ⟨rfl, ⟨j1, rfl, hj1⟩, rfl⟩ hB; cases hB)) <;> (iterate 3 (refine .cons (q hX rfl ?_))) <;> (refine .nil (.intro rfl ?_)))
        | (refine WCX.region (id := 13) ?_; ((refine .cons (q hX rfl ?_))) <;> ((refine .cons (qcallP rfl rfl rfl rfl rfl rfl rfl ca45 rfl rfl (fun k h f hp ro => rword_run hK k 64 v l j1 _ h f.wf hp (ro _ (.of hr)) (by omega) hw hll) (fun _ => rfl) ?_)) <;> (rintro v l' C' B' ⟨rfl, ⟨j2, rfl, hj2⟩, rfl⟩ hB; cases hB)) <;> (iterate 2 (refine .cons (q hX rfl ?_))) <;> (refine .nil (.intro rfl ?_)))
        | (refine WCX.region (id := 14) ?_; (iterate 4 (refine .cons (q hX rfl ?_))) <;> ((refine .cons (qapp hX rfl rfl rfl rfl rfl rfl rfl rfl rfl rfl rfl rfl b72 rfl rfl rfl rfl rfl (by first | exact .h | exact .t .h | exact .t (.t .h) | exact .t (.t (.t .h))) rfl (by simp only [List.length_map]; omega) rfl rfl ?_)) <;> intro kp) <;> (iterate 2 (refine .cons (q hX rfl ?_))) <;> (refine .nil (.intro rfl ?_)))
        | (refine WCX.region (id := 11) ?_; ((refine .cons (q hX rfl ?_))) <;> ((refine .cons (qa (d := ((n - 1 : Nat) : Int)) rfl rfl rfl rfl rfl (wrap_sub (i := 1) (by omega) (by omega)) rfl rfl ?_))) <;> ((refine .cons (q hX rfl ?_))) <;> (refine .nil (.intro rfl ?_)))
        | refine WCX.cond_true rfl ?_
        | refine WCX.cond_false rfl ?_
        | refine WCX.skip ?_
        | refine WCX.block ?_
        | refine WCX.exit ?_
        | refine ToX.exit_seq ?_
        | refine ToX.exit_block ?_
        | refine ToX.nrm_block ?_)
      · refine ex _ _ _ ?_ (.inr hbl); exact ⟨⟨rfl, rfl, rfl, rfl, rfl, trivial⟩, ⟨_, rfl⟩, ⟨_, .cons .h (.cons .h .nil)⟩⟩
      · have hb2 : b = false := hbl
        subst hb2
        refine next ⟨n - 1, j2, _, done ++ [((nameD wordR (l.drop j, false)).1, _)], _⟩ _ _ _ (by simp only; omega) ⟨⟨rfl, rfl, rfl, rfl, rfl, trivial⟩, ⟨_, rfl⟩, ⟨_, by rw [List.map_append]; exact .cons .h (.cons .h .nil)⟩⟩ (hI.step (by omega) ?_)
        rw [← hj2, ← hj1]
        rfl
      · refine ex _ _ _ ?_ (.inl (by omega)); exact ⟨⟨rfl, rfl, rfl, rfl, rfl, trivial⟩, ⟨_, rfl⟩, ⟨_, .cons .h (.cons .h .nil)⟩⟩
    case d2 =>
      rintro ⟨n, i5, bE, ar, sv⟩ hI hJ
      have hE := hI.end hJ
      simp only at hE ⊢
      repeat' (first
        | refine ToX.nrm_seq ?_
        | refine WCX.seq ?_
        | (refine WCX.region (id := 15) ?_; ((refine .cons (q hX rfl ?_))) <;> ((refine .cons (qcallP rfl rfl rfl rfl rfl rfl rfl ca45 rfl rfl (fun k h f hp ro => rword_run hK k 64 v l i5 bE h f.wf hp (ro _ (.of hr)) (by omega) hw hll) (fun _ => rfl) ?_)) <;> (rintro v l' C' B' ⟨rfl, ⟨i6, rfl, hi6⟩, rfl⟩ hB; cases hB)) <;> (iterate 2 (refine .cons (q hX rfl ?_))) <;> (refine .nil (.intro rfl ?_)))
        | (refine WCX.region (id := 16) ?_; ((refine .cons (q hX rfl ?_))) <;> ((refine .cons (qcallP rfl rfl rfl rfl rfl rfl rfl ca45 rfl rfl (fun k h f hp ro => rword_run hK k 2000 v l i6 _ h f.wf hp (ro _ (.of hr)) (by omega) hw hll) (fun _ => rfl) ?_)) <;> (rintro v l' C' B' ⟨rfl, ⟨i7, rfl, hi7⟩, rfl⟩ hB; cases hB)) <;> ((refine .cons (q hX rfl ?_))) <;> (refine .nil (.intro rfl ?_)))
        | refine WCX.block ?_)
      generalize hF : wordR 64 (l.drop i5, bE) = rF at hi6 hi7 ⊢
      obtain ⟨lo, sF, bF⟩ := rF
      simp only at hi6 hi7 ⊢
      subst hi6
      have hni := wordR_le 2000 (l.drop i6, bF)
      generalize hG : wordR 2000 (l.drop i6, bF) = rG at hi7 hni ⊢
      obtain ⟨ni, sG, bG⟩ := rG
      simp only at hi7 hni ⊢
      subst hi7
      refine WCX.nil 74 8 ?_
      refine WCX.while (c2 := ?_) (Q2 := ?_) (ι := LJ InsnD) (fun a => [(10, .ext (i64 a.n)), (5, .ptr 2 0), (4, .ptr 1 0), (2, .ptr 0 0), (0, .ext v)]) (fun a => [.own z26c 26 false, .own (rcells v a.i a.b) 95 false, .own [strB nm, pv, sv, i64 lo, a.dv] 26 false]) (fun a => [ownS 74 8 a.dv (a.done.map icell), ownS 72 2 sv (ar.map acell), ownS 70 2 pv (ps.map pcell)]) (ManyJ (insnD wordR 65535 16777215) ni (l.drop i7, bG) l) (fun a => a.n = 0 ∨ a.b = true) (fun a => a.n) ⟨ni, i7, bG, [], .nils⟩ ⟨⟨rfl, rfl, rfl, rfl, rfl, trivial⟩, ⟨_, rfl⟩, ⟨_, .cons .h (.cons .h (.cons .h .nil))⟩⟩ ⟨by simp, by simp⟩ (fun _ => rfl) (fun _ => rfl) (fun _ => rfl) ?s3 ?d3
      case s3 =>
        rintro ⟨n, j, b, done, dv⟩ hI next ex
        have hlen := hI.len
        simp only at hlen next ex ⊢
        repeat' (first
          | refine ToX.nrm_seq ?_
          | refine WCX.seq ?_
          | (refine WCX.region (id := 17) ?_; ((refine .cons (q hX rfl ?_))) <;> ((refine .cons (qc rfl ?_ ?_)) <;> intro _) <;> (iterate 4 (refine .cons (q hX rfl ?_))) <;> (first | (refine .cons (qb hX rfl ?_ ?_)) <;> (intro hbl; (first | (cases hbl; done) | skip)) | (refine .cons (q hX rfl ?_))) <;> (iterate 2 (refine .cons (q hX rfl ?_))) <;> (refine .nil (.intro rfl ?_)))
          | (refine WCX.region (id := 19) ?_; ((refine .cons (q hX rfl ?_))) <;> ((refine .cons (qcallP rfl rfl rfl rfl rfl rfl rfl ca45 rfl rfl (fun k h f hp ro => rword_run hK k 65535 v l j b h f.wf hp (ro _ (.of hr)) (by omega) hw hll) (fun _ => rfl) ?_)) <;> (rintro v l' C' B' ⟨rfl, ⟨j1, rfl, hj1⟩, rfl⟩ hB; cases hB)) <;> ((refine .cons (q hX rfl ?_))) <;> ((refine .cons (qcallP rfl rfl rfl rfl rfl rfl rfl ca45 rfl rfl (fun k h f hp ro => rword_run hK k 16777215 v l j1 _ h f.wf hp (ro _ (.of hr)) (by omega) hw hll) (fun _ => rfl) ?_)) <;> (rintro v l' C' B' ⟨rfl, ⟨j2, rfl, hj2⟩, rfl⟩ hB; cases hB)) <;> (iterate 2 (refine .cons (q hX rfl ?_))) <;> (refine .nil (.intro rfl ?_)))
          | (refine WCX.region (id := 20) ?_; ((refine .cons (q hX rfl ?_))) <;> ((refine .cons (qn rfl rfl rfl (bin_rem (b := 256) (by decide)) rfl rfl ?_))) <;> ((refine .cons (q hX rfl ?_))) <;> ((refine .cons (qn rfl rfl rfl (bin_quo64 (b := 256) (Nat.lt_of_le_of_lt (wordR_le _ _) (by decide)) (by decide)) rfl rfl ?_))) <;> ((refine .cons (q hX rfl ?_))) <;> ((refine .cons (qn rfl rfl rfl (bin_rem (b := 256) (by decide)) rfl rfl ?_))) <;> ((refine .cons (q hX rfl ?_))) <;> ((refine .cons (qn rfl rfl rfl (bin_quo64 (b := 256) (Nat.lt_of_le_of_lt (wordR_le _ _) (by decide)) (by decide)) rfl rfl ?_))) <;> ((refine .cons (qn rfl rfl rfl (bin_rem (b := 256) (by decide)) rfl rfl ?_))) <;> ((refine .cons (q hX rfl ?_))) <;> ((refine .cons (qn rfl rfl rfl (bin_quo64 (b := 65536) (Nat.lt_of_le_of_lt (wordR_le _ _) (by decide)) (by decide)) rfl rfl ?_))) <;> (iterate 3 (refine .cons (q hX rfl ?_))) <;> (refine .nil (.intro rfl ?_)))
          | (refine WCX.region (id := 21) ?_; ((refine .cons (q hX rfl ?_))) <;> ((refine .cons (qcallP rfl rfl rfl rfl rfl rfl rfl ca45 rfl rfl (fun k h f hp ro => rword_run hK k 4294967295 v l j2 _ h f.wf hp (ro _ (.of hr)) (by omega) hw hll) (fun _ => rfl) ?_)) <;> (rintro v l' C' B' ⟨rfl, ⟨j3, rfl, hj3⟩, rfl⟩ hB; cases hB)) <;> ((refine .cons (qw hX rfl rfl rfl rfl (wrapF_u32_nat (Nat.lt_of_le_of_lt (wordR_le _ _) (by decide))) rfl rfl ?_))) <;> ((refine .cons (qw hX rfl rfl rfl rfl (wrapF_i32_signed (Nat.lt_of_le_of_lt (wordR_le _ _) (by decide))) rfl rfl ?_))) <;> (iterate 2 (refine .cons (q hX rfl ?_))) <;> (refine .nil (.intro rfl ?_)))
          | (refine WCX.region (id := 22) ?_; ((refine .cons (q hX rfl ?_))) <;> ((refine .cons (qcallP rfl rfl rfl rfl rfl rfl rfl ca45 rfl rfl (fun k h f hp ro => rword_run hK k 2000 v l j3 _ h f.wf hp (ro _ (.of hr)) (by omega) hw hll) (fun _ => rfl) ?_)) <;> (rintro v l' C' B' ⟨rfl, ⟨j4, rfl, hj4⟩, rfl⟩ hB; cases hB)) <;> ((refine .cons (q hX rfl ?_))) <;> ((refine .cons (qcallP rfl rfl rfl rfl rfl rfl rfl ca45 rfl rfl (fun k h f hp ro => rword_run hK k 2000 v l j4 _ h f.wf hp (ro _ (.of hr)) (by omega) hw hll) (fun _ => rfl) ?_)) <;> (rintro v l' C' B' ⟨rfl, ⟨j5, rfl, hj5⟩, rfl⟩ hB; cases hB)) <;> (iterate 4 (refine .cons (q hX rfl ?_))) <;> (refine .nil (.intro rfl ?_)))
          | (refine WCX.region (id := 23) ?_; ((refine .cons (q hX rfl ?_))) <;> ((refine .cons (qcallP rfl rfl rfl rfl rfl rfl rfl ca45 rfl rfl (fun k h f hp ro => rword_run hK k 0 v l j5 _ h f.wf hp (ro _ (.of hr)) (by omega) hw hll) (fun _ => rfl) ?_)) <;> (rintro v l' C' B' ⟨rfl, ⟨j6, rfl, hj6⟩, rfl⟩ hB; cases hB)) <;> (refine .nil (.intro rfl ?_)))
          | (refine WCX.region (id := 24) ?_; (iterate 4 (refine .cons (q hX rfl ?_))) <;> ((refine .cons (qapp hX rfl rfl rfl rfl rfl rfl rfl rfl rfl rfl rfl rfl b74 rfl rfl rfl rfl rfl (by first | exact .h | exact .t .h | exact .t (.t .h) | exact .t (.t (.t .h))) rfl (by simp only [List.length_map]; omega) rfl rfl ?_)) <;> intro kp) <;> (iterate 2 (refine .cons (q hX rfl ?_))) <;> (refine .nil (.intro rfl ?_)))
          | (refine WCX.region (id := 18) ?_; ((refine .cons (q hX rfl ?_))) <;> ((refine .cons (qa (d := ((n - 1 : Nat) : Int)) rfl rfl rfl rfl rfl (wrap_sub (i := 1) (by omega) (by omega)) rfl rfl ?_))) <;> ((refine .cons (q hX rfl ?_))) <;> (refine .nil (.intro rfl ?_)))
          | refine WCX.cond_true rfl ?_
          | refine WCX.cond_false rfl ?_
          | refine WCX.skip ?_
          | refine WCX.block ?_
          | refine WCX.exit ?_
          | refine ToX.exit_seq ?_
          | refine ToX.exit_block ?_
          | refine ToX.nrm_block ?_)
        · refine ex _ _ _ ?_ (.inr hbl); exact ⟨⟨rfl, rfl, rfl, rfl, rfl, trivial⟩, ⟨_, rfl⟩, ⟨_, .cons .h (.cons .h (.cons .h .nil))⟩⟩
        · have hb2 : b = false := hbl
          subst hb2
          exact next ⟨n - 1, j6, _, done ++ [_], _⟩ _ _ _ (by simp only; omega) ⟨⟨rfl, rfl, rfl, rfl, rfl, trivial⟩, ⟨_, rfl⟩, ⟨_, by rw [List.map_append]; exact .cons .h (.cons .h (.cons .h .nil))⟩⟩ (hI.step (by omega) (insnD_at (pr hj1) (pr hj2) (pr hj3) (pr hj4) (pr hj5) (pr hj6)))
        · refine ex _ _ _ ?_ (.inl (by omega)); exact ⟨⟨rfl, rfl, rfl, rfl, rfl, trivial⟩, ⟨_, rfl⟩, ⟨_, .cons .h (.cons .h (.cons .h .nil))⟩⟩
      case d3 =>
        rintro ⟨n, i8, bH, is, iv⟩ hI hJ
        have hH := hI.end hJ
        simp only at hH ⊢
        have e := codeD_at hA hB hC hD hE hF hG hH
        have hfair := codeD_fair wordR_bounded 65535 16777215 (l.drop 2, false)
        rw [e] at hfair
        simp only at hfair
        repeat' (first
          | refine ToX.nrm_seq ?_
          | refine WCX.seq ?_
          | (refine WCX.region (id := 25) ?_; (iterate 3 (refine .cons (q hX rfl ?_))) <;> ((refine .cons (qb hX rfl ?_ ?_)) <;> (intro hbl; (first | (cases hbl; done) | skip))) <;> (refine .nil (.intro rfl ?_)))
          | (refine WCX.region (id := 26) ?_; (iterate 3 (refine .cons (q hX rfl ?_))) <;> (refine .nil (.intro rfl ?_)))
          | (refine WCX.region (id := 27) ?_; ((refine .cons (q hX rfl ?_))) <;> ((refine .cons (qcall rfl rfl rfl rfl ca10 rfl rfl (fun h f => refEncode_run hK ⟨nm, ps, ar, lo, is⟩ pv sv iv h f.wf hfair ⟨ownS.rd (f.pick (.t (.t .h))), ownS.rd (f.pick (.t .h)), ownS.rd (f.pick .h)⟩) ?_)) <;> (rintro v C' (⟨hVt, x, rfl, rfl⟩ | ⟨hVf, rfl, rfl⟩))) <;> (iterate 5 (refine .cons (q hX rfl ?_))) <;> (refine .nil (.intro rfl ?_)))
          | refine WCX.ret ?_
          | refine ToX.ret_seq ?_
          | refine WCX.cond_true rfl ?_
          | refine WCX.cond_false rfl ?_
          | refine WCX.skip ?_
          | refine ToX.fn_ret hX rfl ?_)
        · rename_i hbl
          have en : ansR V l = none := by unfold ansR; rw [e, if_pos hbl]
          exact fun h f => ⟨[], f.chg.picks .nil, by rw [en]; exact ⟨rfl, rfl⟩⟩
        · have hwl := wholeE_len (V_fine hVt)
          repeat' (first
            | refine ToX.nrm_seq ?_
            | refine WCX.seq ?_
            | (refine WCX.region (id := 28) ?_; (iterate 5 (refine .cons (q hX rfl ?_))) <;> ((refine .cons (qcallB rfl rfl rfl rfl ca15 rfl rfl (fun h f => sameWords_run hK x v (wholeE ⟨nm, ps, ar, lo, is⟩) l h f.wf (ownS.rd (f.pick .h)) (f.ro (.of hr)).2 hwl) ?_ ?_)) <;> intro _) <;> (iterate 2 (refine .cons (q hX rfl ?_))) <;> (refine .nil (.intro rfl ?_)))
            | (refine WCX.region (id := 29) ?_; (iterate 3 (refine .cons (q hX rfl ?_))) <;> (refine .nil (.intro rfl ?_)))
            | (refine WCX.region (id := 30) ?_; (iterate 3 (refine .cons (q hX rfl ?_))) <;> (refine .nil (.intro rfl ?_)))
            | refine WCX.ret ?_
            | refine ToX.ret_seq ?_
            | refine WCX.cond_true rfl ?_
            | refine WCX.cond_false rfl ?_
            | refine WCX.skip ?_
            | refine ToX.fn_ret hX rfl ?_)
          · rename_i hs
            have en : ansR V l = some ⟨nm, ps, ar, lo, is⟩ := by
              unfold ansR; rw [e, if_neg (by simp_all), if_pos ⟨hVt, of_decide_eq_true hs⟩]
            exact fun h f => ⟨_, f.chg.picks (.cons (.t (.t (.t .h))) (.cons (.t (.t .h)) (.cons (.t .h) .nil))), by rw [en]; exact ⟨_, _, _, rfl, rfl⟩⟩
          · rename_i hs
            have en : ansR V l = none := by unfold ansR; rw [e, if_neg (by simp_all), if_neg (by simp_all)]
            exact fun h f => ⟨[], f.chg.picks .nil, by rw [en]; exact ⟨rfl, rfl⟩⟩
        · repeat' (first
            | refine ToX.nrm_seq ?_
            | refine WCX.seq ?_
            | (refine WCX.region (id := 28) ?_; (iterate 8 (refine .cons (q hX rfl ?_))) <;> (refine .nil (.intro rfl ?_)))
            | (refine WCX.region (id := 29) ?_; (iterate 3 (refine .cons (q hX rfl ?_))) <;> (refine .nil (.intro rfl ?_)))
            | refine WCX.ret ?_
            | refine ToX.ret_seq ?_
            | refine WCX.cond_true rfl ?_
            | refine ToX.fn_ret hX rfl ?_)
          have en : ansR V l = none := by unfold ansR; rw [e, if_neg (by simp_all), if_neg (by simp [hVf])]
          exact fun h f => ⟨[], f.chg.picks .nil, by rw [en]; exact ⟨rfl, rfl⟩⟩
end Em
end Go.HL
