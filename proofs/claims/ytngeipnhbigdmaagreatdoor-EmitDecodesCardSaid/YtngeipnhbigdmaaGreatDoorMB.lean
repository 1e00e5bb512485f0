/- The walk: the program reads code. No statement of the seat stands here. -/
import Derived.Test.YtngeipnhbigdmaaGreatDoorMA
set_option linter.unusedVariables false
set_option linter.unusedSimpArgs false
namespace Go.HL
open Go Go.Proofs
namespace Em
set_option maxRecDepth 10000
variable {K : CallFn} {base : List (Nat × HObj)}
theorem words_cells {v : HVal} {l : List Nat} {h : Heap} (f : (words v l).holds h) : v.cells = some [v] := by
  cases f.1 <;> rfl
theorem words_len {v : HVal} {l : List Nat} {h : Heap} (f : (words v l).holds h) : lenV v = some l.length := by
  have := f.2.slice.len; rwa [List.length_map] at this
/-- the slice that is left -/
def nextV (lim : Nat) (v : HVal) : S → HVal
  | ([], _) => v
  | (w :: _, _) => if lim < w then v else dropV v 1 1
theorem nextV_words {C : List Part} {h : Heap} {lim : Nat} {v : HVal} {s : S} (r : Ro C h (words v s.1)) : Ro C h (words (nextV lim v s) (nextP lim s).2.1) := by
  obtain ⟨l, b⟩ := s
  cases l with
  | nil => exact r
  | cons w l =>
    unfold nextV nextP
    simp only
    split
    · exact r
    · have := r.drop (j := 1) (by simp)
      exact this
theorem next_run (hK : KN base K) (k lim : Nat) (v : HVal) (s : S) (h : Heap) (w : Wf h) (hp : (pts k [v, .bool s.2] 92 false).holds h) (ro : Ro [pts k [v, .bool s.2] 92 false] h (words v s.1)) (hl : lim ≤ 4294967295) (hw : ∀ x ∈ s.1, x < 4294967296) :
    Sp P K 87 [.ptr k 0, .int .i64 (lim : Int)] h (TrP k [v, .bool s.2] 92 false (fun x l' C' => x = .int .i64 (((nextP lim s).1 : Nat) : Int) ∧ l' = [nextV lim v s, .bool (nextP lim s).2.2] ∧ C' = []) h) := by
  obtain ⟨ws, b⟩ := s
  have hlen := words_len ro.holds
  cases ws with
  | nil =>
    refine Sp.startP (m := 8388659) (n := 43) w hp (hK.none 87 rfl rfl _ _) Tryz.func87 rfl rfl mask87 rfl rfl ?_
    repeat' (first
      | refine ToX.nrm_seq ?_
      | refine WCX.seq ?_
      | (refine WCX.region (id := 0) ?_; ((refine .cons (q hX rfl ?_))) <;> (refine .nil (.intro rfl ?_)))
      | (refine WCX.region (id := 1) ?_; (iterate 4 (refine .cons (q hX rfl ?_))) <;> ((refine .cons (ql hX rfl rfl rfl rfl rfl rfl (by assumption) rfl rfl ?_))) <;> ((refine .cons (qc rfl ?_ ?_)) <;> intro _) <;> (iterate 5 (refine .cons (q hX rfl ?_))) <;> (first | (refine .cons (q hX rfl ?_)) | (exfalso; exact absurd rfl ‹¬ ((([] : List Nat).length : Nat) : Int) = 0›)) <;> (iterate 6 (refine .cons (q hX rfl ?_))) <;> (refine .nil (.intro rfl ?_)))
      | (refine WCX.region (id := 2) ?_; (iterate 4 (refine .cons (q hX rfl ?_))) <;> (refine .nil (.intro rfl ?_)))
      | (refine WCX.region (id := 3) ?_; ((refine .cons (q hX rfl ?_))) <;> (refine .nil (.intro rfl ?_)))
      | refine WCX.ret ?_
      | refine ToX.ret_seq ?_
      | refine WCX.cond_true rfl ?_
      | refine ToX.fn_ret hX rfl ?_)
    exact fun h f => ⟨_, _, f.chgP, rfl, rfl, rfl⟩
  | cons x ws =>
    have hx : x < 4294967296 := hw x (by simp)
    refine Sp.startP (m := 8388659) (n := 43) w hp (hK.none 87 rfl rfl _ _) Tryz.func87 rfl rfl mask87 rfl rfl ?_
    repeat' (first
      | refine ToX.nrm_seq ?_
      | refine WCX.seq ?_
      | (refine WCX.region (id := 0) ?_; ((refine .cons (q hX rfl ?_))) <;> (refine .nil (.intro rfl ?_)))
      | (refine WCX.region (id := 1) ?_; (iterate 4 (refine .cons (q hX rfl ?_))) <;> ((refine .cons (ql hX rfl rfl rfl rfl rfl rfl (by assumption) rfl rfl ?_))) <;> ((refine .cons (qc rfl ?_ ?_)) <;> intro _) <;> (iterate 5 (refine .cons (q hX rfl ?_))) <;> (first | (refine .cons (q hX rfl ?_)) | (refine .cons (qidx hX rfl rfl rfl rfl rfl ro.frd rfl rfl rfl rfl ?_))) <;> ((refine .cons (q hX rfl ?_))) <;> (first | (refine .cons (q hX rfl ?_)) | (refine .cons (qw hX rfl rfl rfl rfl (wrapF_u64_nat (by omega)) rfl rfl ?_))) <;> ((refine .cons (q hX rfl ?_))) <;> (first | (refine .cons (q hX rfl ?_)) | (refine .cons (qw hX rfl rfl rfl rfl (wrapF_u64_nat (by omega)) rfl rfl ?_))) <;> (first | (refine .cons (q hX rfl ?_)) | (refine .cons (qc rfl ?_ ?_)) <;> intro _) <;> ((refine .cons (q hX rfl ?_))) <;> (refine .nil (.intro rfl ?_)))
      | (refine WCX.region (id := 2) ?_; (iterate 4 (refine .cons (q hX rfl ?_))) <;> (refine .nil (.intro rfl ?_)))
      | (refine WCX.region (id := 3) ?_; ((refine .cons (q hX rfl ?_))) <;> (refine .nil (.intro rfl ?_)))
      | (refine WCX.region (id := 4) ?_; (iterate 4 (refine .cons (q hX rfl ?_))) <;> ((refine .cons (qidx hX rfl rfl rfl rfl rfl ro.frd rfl rfl rfl rfl ?_))) <;> ((refine .cons (q hX rfl ?_))) <;> ((refine .cons (qw hX rfl rfl rfl rfl (wrapF_i64_nat (by omega)) rfl rfl ?_))) <;> ((refine .cons (q hX rfl ?_))) <;> (refine .nil (.intro rfl ?_)))
      | (refine WCX.region (id := 5) ?_; (iterate 5 (refine .cons (q hX rfl ?_))) <;> ((refine .cons (qdrop hX rfl rfl rfl rfl rfl rfl ro (by simp) (by simp) rfl rfl ?_))) <;> (iterate 2 (refine .cons (q hX rfl ?_))) <;> ((refine .cons (qst hX rfl rfl rfl rfl rfl (words_cells (ro.drop (j := 1) (by simp)).holds) rfl rfl rfl rfl rfl ?_))) <;> (refine .nil (.intro rfl ?_)))
      | (refine WCX.region (id := 6) ?_; (iterate 2 (refine .cons (q hX rfl ?_))) <;> (refine .nil (.intro rfl ?_)))
      | refine WCX.ret ?_
      | refine ToX.ret_seq ?_
      | refine WCX.cond_true rfl ?_
      | refine WCX.cond_false rfl ?_
      | refine WCX.skip ?_
      | refine ToX.fn_ret hX rfl ?_)
    · rename_i e; exact fun h f => absurd e (by simp; omega)
    · rename_i e
      have e : lim < x := by omega
      exact fun h f => ⟨_, _, f.chgP, by simp [nextP, e, resV], by simp [nextP, nextV, e], rfl⟩
    · rename_i e
      have e : ¬ lim < x := by omega
      exact fun h f => ⟨_, _, f.chgP, by simp [nextP, e, resV], by simp [nextP, nextV, e], rfl⟩
end Em
end Go.HL
namespace Go.HL
open Go Go.Proofs
namespace Em
set_option maxRecDepth 10000
variable {K : CallFn} {base : List (Nat × HObj)}
/-- the reader behind a call -/
def Rdd (s s' : S) (v : HVal) (l' : List HVal) : Prop := ∃ v', l' = [v', .bool s'.2] ∧ (∀ C h, Ro C h (words v s.1) → Ro C h (words v' s'.1)) ∧ ∀ y ∈ s'.1, y < 4294967296
/-- what a method of the reader does -/
def ReadsP {α : Type} (val : α → HVal) (f : S → α × S) (k : Nat) (v : HVal) (s : S) (h : Heap) : HVal → Heap → Prop :=
  TrP k [v, .bool s.2] 92 false (fun x l' C' => x = val (f s).1 ∧ Rdd s (f s).2 v l' ∧ C' = []) h
abbrev i64 (n : Nat) : HVal := .int .i64 (n : Int)
abbrev u32 (n : Nat) : HVal := .int .u32 (n : Int)
/-- bytes as a string -/
abbrev strB (l : List Nat) : HVal := .str l.length (codeN l 0)
theorem nextP_le (lim : Nat) (s : S) : (nextP lim s).1 ≤ lim := by
  unfold nextP; split
  · exact Nat.zero_le _
  · split
    · exact Nat.zero_le _
    · show _ ≤ lim; omega
theorem nextP_lt {lim : Nat} {s : S} (hw : ∀ x ∈ s.1, x < 4294967296) : ∀ x ∈ (nextP lim s).2.1, x < 4294967296 := by
  unfold nextP; split
  · exact fun x hx => by simp at hx
  · split
    · exact hw
    · exact fun x hx => hw x (by simp [hx])
theorem next_reads (hK : KN base K) (k lim : Nat) (v : HVal) (s : S) (h : Heap) (w : Wf h) (hp : (pts k [v, .bool s.2] 92 false).holds h) (ro : Ro [pts k [v, .bool s.2] 92 false] h (words v s.1)) (hl : lim ≤ 4294967295) (hw : ∀ x ∈ s.1, x < 4294967296) :
    Sp P K 87 [.ptr k 0, .int .i64 (lim : Int)] h (ReadsP i64 (nextP lim) k v s h) :=
  (next_run hK k lim v s h w hp ro hl hw).mono fun _ _ t => t.mono fun _ _ _ p => ⟨p.1, ⟨_, p.2.1, fun _ _ r => nextV_words r, nextP_lt hw⟩, p.2.2⟩
theorem word_run (hK : KN base K) (k : Nat) (v : HVal) (s : S) (h : Heap) (w : Wf h) (hp : (pts k [v, .bool s.2] 92 false).holds h) (ro0 : Ro [pts k [v, .bool s.2] 92 false] h (words v s.1)) (hw : ∀ x ∈ s.1, x < 4294967296) :
    Sp P K 88 [.ptr k 0] h (ReadsP u32 (nextP 4294967295) k v s h) := by
  have hle := nextP_le 4294967295 s
  refine Sp.startP (m := 5) (n := 6) w hp (hK.none 88 rfl rfl _ _) Tryz.func88 rfl rfl mask88 rfl rfl ?_
  repeat' (first
    | refine ToX.nrm_seq ?_
    | refine WCX.seq ?_
    | (refine WCX.region (id := 0) ?_; ((refine .cons (q hX rfl ?_))) <;> (refine .nil (.intro rfl ?_)))
    | (refine WCX.region (id := 1) ?_; ((refine .cons (q hX rfl ?_))) <;> ((refine .cons (qcallP rfl rfl rfl rfl rfl rfl rfl ca87 rfl rfl (fun k h f hp ro => next_reads hK k 4294967295 v s h f.wf hp (ro _ ro0) (by omega) hw) (fun _ => rfl) ?_)) <;> (rintro v l' C' B' ⟨rfl, ⟨v', rfl, hv', hlt'⟩, rfl⟩ hB; cases hB)) <;> ((refine .cons (qw hX rfl rfl rfl rfl (wrapF_u32_nat (by omega)) rfl rfl ?_))) <;> ((refine .cons (q hX rfl ?_))) <;> (refine .nil (.intro rfl ?_)))
    | refine WCX.ret ?_
    | refine ToX.fn_ret hX rfl ?_)
  exact fun h f => ⟨_, _, f.chgP, rfl, ⟨v', rfl, hv', hlt'⟩, rfl⟩
theorem bytesOf_snoc : ∀ (m w : Nat), bytesOf (m + 1) w = bytesOf m w ++ [w / 256 ^ m % 256]
  | 0, w => by simp [bytesOf]
  | m + 1, w => by
    show w % 256 :: bytesOf (m + 1) (w / 256) = _
    rw [bytesOf_snoc m (w / 256), Nat.div_div_eq_div_mul]
    simp [bytesOf, Nat.pow_succ, Nat.mul_comm]
theorem shr_byte {w m : Nat} (h : m ≤ 3) : w / 2 ^ min (8 * m) 32 % 256 = w / 256 ^ m % 256 := by
  rw [Nat.min_eq_left (by omega), Nat.pow_mul]
structure NI where
  i : Nat
  s : S
  v : HVal
  b : List Nat
  bv : HVal
structure NameI (v0 : HVal) (s0 : S) (N : Nat) (a : NI) : Prop where
  rest : nameD nextP s0 = nameL (nextP 4294967295) N a.b a.s
  len : a.b.length = min a.i N
  lt : ∀ y ∈ a.s.1, y < 4294967296
  ro : ∀ C h, Ro C h (words v0 s0.1) → Ro C h (words a.v a.s.1)
  bytes : ∀ y ∈ a.b, y < 256
  loose : ∀ k, a.bv ≠ .rest k
theorem name_run (hK : KN base K) (k : Nat) (v : HVal) (s : S) (h : Heap) (w : Wf h) (hp : (pts k [v, .bool s.2] 92 false).holds h) (ro0 : Ro [pts k [v, .bool s.2] 92 false] h (words v s.1)) (hw : ∀ x ∈ s.1, x < 4294967296) :
    Sp P K 86 [.ptr k 0] h (ReadsP strB (nameD nextP) k v s h) := by
  have hle := nextP_le 16 s
  have hlt := nextP_lt (lim := 16) hw
  have e0 : nameD nextP s = nameL (nextP 4294967295) (nextP 16 s).1 [] (nextP 16 s).2 := rfl
  refine Sp.startP (m := 8590459133) (n := 49) w hp (hK.none 86 rfl rfl _ _) Tryz.func86 rfl rfl mask86 rfl rfl ?_
  repeat' (first
    | refine ToX.nrm_seq ?_
    | refine WCX.seq ?_
    | (refine WCX.region (id := 0) ?_; ((refine .cons (q hX rfl ?_))) <;> (refine .nil (.intro rfl ?_)))
    | (refine WCX.region (id := 1) ?_; ((refine .cons (q hX rfl ?_))) <;> ((refine .cons (qcallP rfl rfl rfl rfl rfl rfl rfl ca87 rfl rfl (fun k h f hp ro => next_reads hK k 16 v s h f.wf hp (ro _ ro0) (by omega) hw) (fun _ => rfl) ?_)) <;> (rintro v l' C' B' ⟨rfl, ⟨v', rfl, hv', hlt'⟩, rfl⟩ hB; cases hB)) <;> ((refine .cons (q hX rfl ?_))) <;> (refine .nil (.intro rfl ?_)))
    | (refine WCX.region (id := 2) ?_; ((refine .cons (q hX rfl ?_))) <;> (refine .nil (.intro rfl ?_)))
    | (refine WCX.region (id := 3) ?_; ((refine .cons (q hX rfl ?_))) <;> (refine .nil (.intro rfl ?_)))
    | refine WCX.block ?_)
  generalize (nextP 16 s).1 = N at hle e0
  generalize hs1 : (nextP 16 s).2 = s1 at hlt e0 hv'
  refine WCX.nil 5 1 ?_
  refine WCX.loop (ι := NI) (fun a => [(5, .ext (i64 a.i)), (4, .ext a.bv), (3, .ext (i64 N)), (0, .ptr 0 0)]) (fun a => [.own [a.v, .bool a.s.2] 92 false]) (fun a => [ownS 5 1 a.bv (a.b.map bcell)]) (NameI v s N) (fun a => N - a.i) ⟨0, s1, v', [], .nils⟩ ⟨⟨rfl, rfl, rfl, rfl, trivial⟩, ⟨_, rfl⟩, ⟨_, .cons .h .nil⟩⟩ ⟨e0, by simp, hlt, hv', by simp, by simp⟩ (fun _ => rfl) (fun _ => rfl) (fun _ => rfl) ?_
  rintro ⟨i, s', v2, b, bv⟩ ⟨hr, hl, hlt2, hro, hb, hbv⟩ next
  simp only at hr hl hlt2 hro hb hbv next ⊢
  repeat' (first
    | refine ToX.nrm_seq ?_
    | refine WCX.seq ?_
    | (refine WCX.region (id := 4) ?_; (iterate 2 (refine .cons (q hX rfl ?_))) <;> ((refine .cons (qc rfl ?_ ?_)) <;> intro _) <;> (iterate 4 (refine .cons (q hX rfl ?_))) <;> (first | (refine .cons (qb hX rfl ?_ ?_)) <;> (intro hbl; (first | (cases hbl; done) | skip)) | (refine .cons (q hX rfl ?_))) <;> (iterate 2 (refine .cons (q hX rfl ?_))) <;> (refine .nil (.intro rfl ?_)))
    | (refine WCX.region (id := 6) ?_; ((refine .cons (q hX rfl ?_))) <;> ((refine .cons (qcallP rfl rfl rfl rfl rfl rfl rfl ca88 rfl rfl (fun k h f hp ro => word_run hK k v2 s' h f.wf hp (ro _ (hro _ _ ro0)) hlt2) (fun _ => rfl) ?_)) <;> (rintro v l' C' B' ⟨rfl, ⟨v3, rfl, hv3, hlt3⟩, rfl⟩ hB; cases hB)) <;> ((refine .cons (q hX rfl ?_))) <;> (refine .nil (.intro rfl ?_)))
    | (refine WCX.region (id := 7) ?_; (iterate 2 (refine .cons (q hX rfl ?_))) <;> (refine .nil (.intro rfl ?_)))
    | (refine WCX.region (id := 11) ?_; ((refine .cons (q hX rfl ?_))) <;> ((refine .cons (qstr hX rfl rfl rfl rfl rfl .h hbv hb rfl rfl ?_))) <;> ((refine .cons (q hX rfl ?_))) <;> (refine .nil (.intro rfl ?_)))
    | refine WCX.ret ?_
    | refine WCX.cond_true rfl ?_
    | refine WCX.cond_false rfl ?_
    | refine WCX.skip ?_
    | refine WCX.block ?_
    | refine WCX.exit ?_
    | refine ToX.exit_seq ?_
    | refine ToX.exit_block ?_
    | refine ToX.fn_ret hX rfl ?_)
  · clear next
    have er : nameD nextP s = (b, s') := by rw [hr, nameL, dif_neg (by simp [hbl])]
    exact fun h f => ⟨_, _, f.chgP.picks (.cons .h .nil), by rw [er]; rfl, ⟨v2, by rw [er], by rw [er]; exact hro, by rw [er]; exact hlt2⟩, rfl⟩
  · have hiN : i < N := by omega
    have hbi : b.length = i := by omega
    generalize hs3 : nextP 4294967295 s' = r3 at hlt3 hv3
    obtain ⟨wd, s3⟩ := r3
    have hr3 : nameD nextP s = nameL (nextP 4294967295) N (b ++ bytesOf (min 4 (N - i)) wd) s3 := by rw [hr, nameL, dif_pos ⟨by omega, hbl⟩, hs3, hbi]
    simp only at hlt3 hv3 ⊢
    refine WCX.loop (ι := Nat × HVal) (fun a => [(7, .ext (i64 (i + a.1))), (6, .ext (u32 wd)), (5, .ext (i64 i)), (4, .ext a.2), (3, .ext (i64 N)), (0, .ptr 0 0)]) (fun a => [.own [v3, .bool s3.2] 92 false]) (fun a => [ownS 5 1 a.2 ((b ++ bytesOf a.1 wd).map bcell)]) (fun a => a.1 ≤ min 4 (N - i) ∧ ∀ k, a.2 ≠ .rest k) (fun a => min 4 (N - i) - a.1) (0, bv) ⟨⟨rfl, rfl, rfl, rfl, rfl, rfl, trivial⟩, ⟨_, rfl⟩, ⟨_, by simp only [bytesOf, List.append_nil]; exact .cons .h .nil⟩⟩ ⟨Nat.zero_le _, hbv⟩ (fun _ => rfl) (fun _ => rfl) (fun _ => rfl) ?_
    rintro ⟨m, bv2⟩ ⟨hm, hbv2⟩ next2
    simp only at hm hbv2 next2 ⊢
    have hlen2 : (b ++ bytesOf m wd).length ≤ 2016 := by rw [List.length_append, bytesOf_length]; omega
    repeat' (first
      | refine ToX.nrm_seq ?_
      | refine WCX.seq ?_
      | (refine WCX.region (id := 8) ?_; (iterate 2 (refine .cons (q hX rfl ?_))) <;> ((refine .cons (qc rfl ?_ ?_)) <;> intro _) <;> (iterate 3 (refine .cons (q hX rfl ?_))) <;> (first | (refine .cons (q hX rfl ?_)) | (refine .cons (qa rfl rfl rfl rfl rfl (wrapF_i64 (by first | omega | (simp only [Int.ofNat_eq_natCast]; omega)) (by first | omega | (simp only [Int.ofNat_eq_natCast]; omega))) rfl rfl ?_))) <;> (first | (refine .cons (q hX rfl ?_)) | (refine .cons (qc rfl ?_ ?_)) <;> intro _) <;> ((refine .cons (q hX rfl ?_))) <;> (refine .nil (.intro rfl ?_)))
      | (refine WCX.region (id := 10) ?_; (iterate 4 (refine .cons (q hX rfl ?_))) <;> ((refine .cons (qa (d := (m : Int)) rfl rfl rfl rfl rfl (by rw [wrapF_i64 (by omega) (by omega)]; omega) rfl rfl ?_))) <;> ((refine .cons (qw hX rfl rfl rfl rfl (wrapF_u64_nat (by omega)) rfl rfl ?_))) <;> ((refine .cons (qa (d := ((8 * m : Nat) : Int)) rfl rfl rfl rfl rfl (wrap_mul64 (a := 8) (by omega)) rfl rfl ?_))) <;> ((refine .cons (qn rfl rfl rfl bin_shr rfl rfl ?_))) <;> ((refine .cons (qw hX rfl rfl rfl rfl wrapF_u8_nat rfl rfl ?_))) <;> ((refine .cons (q hX rfl ?_))) <;> ((refine .cons (qapp hX rfl rfl rfl rfl rfl rfl rfl rfl rfl rfl rfl rfl b5 rfl rfl rfl rfl rfl (by first | exact .h | exact .t .h | exact .t (.t .h) | exact .t (.t (.t .h))) rfl (by simp only [List.length_map]; omega) rfl rfl ?_)) <;> intro kp) <;> ((refine .cons (q hX rfl ?_))) <;> (refine .nil (.intro rfl ?_)))
      | (refine WCX.region (id := 9) ?_; ((refine .cons (q hX rfl ?_))) <;> ((refine .cons (qa rfl rfl rfl rfl rfl (wrapF_i64 (by first | omega | (simp only [Int.ofNat_eq_natCast]; omega)) (by first | omega | (simp only [Int.ofNat_eq_natCast]; omega))) rfl rfl ?_))) <;> ((refine .cons (q hX rfl ?_))) <;> (refine .nil (.intro rfl ?_)))
      | (refine WCX.region (id := 5) ?_; ((refine .cons (q hX rfl ?_))) <;> ((refine .cons (qa rfl rfl rfl rfl rfl (wrapF_i64 (by first | omega | (simp only [Int.ofNat_eq_natCast]; omega)) (by first | omega | (simp only [Int.ofNat_eq_natCast]; omega))) rfl rfl ?_))) <;> ((refine .cons (q hX rfl ?_))) <;> (refine .nil (.intro rfl ?_)))
      | refine WCX.cond_true rfl ?_
      | refine WCX.cond_false rfl ?_
      | refine WCX.skip ?_
      | refine WCX.block ?_
      | refine WCX.exit ?_
      | refine ToX.exit_seq ?_
      | refine ToX.exit_block ?_
      | refine ToX.nrm_block ?_)
    · refine next2 (m + 1, _) _ _ _ (by simp only; omega) ⟨⟨rfl, rfl, rfl, rfl, rfl, rfl, trivial⟩, ⟨_, rfl⟩, ⟨_, by simp only [bytesOf_snoc, ← List.append_assoc, List.map_append (l₂ := [_]), ← shr_byte (w := wd) (m := m) (by omega)]; exact .cons .h .nil⟩⟩ ⟨by simp only; omega, by simp⟩
    · clear next2
      have hm4 : m = min 4 (N - i) := by omega
      subst hm4
      refine next ⟨i + 4, s3, v3, _, bv2⟩ _ _ _ (by simp only; omega) ⟨⟨rfl, rfl, rfl, rfl, trivial⟩, ⟨_, rfl⟩, ⟨_, .cons .h .nil⟩⟩ ⟨hr3, by simp only [List.length_append, bytesOf_length]; omega, hlt3, fun C h r => hv3 C h (hro C h r), ?_, hbv2⟩
      intro y hy
      rcases List.mem_append.1 hy with hy | hy
      · exact hb y hy
      · exact bytesOf_lt _ _ y hy
    · clear next2
      have hm4 : m = min 4 (N - i) := by omega
      subst hm4
      refine next ⟨i + 4, s3, v3, _, bv2⟩ _ _ _ (by simp only; omega) ⟨⟨rfl, rfl, rfl, rfl, trivial⟩, ⟨_, rfl⟩, ⟨_, .cons .h .nil⟩⟩ ⟨hr3, by simp only [List.length_append, bytesOf_length]; omega, hlt3, fun C h r => hv3 C h (hro C h r), ?_, hbv2⟩
      intro y hy
      rcases List.mem_append.1 hy with hy | hy
      · exact hb y hy
      · exact bytesOf_lt _ _ y hy
  · clear next
    have er : nameD nextP s = (b, s') := by rw [hr, nameL, dif_neg (by omega)]
    exact fun h f => ⟨_, _, f.chgP.picks (.cons .h .nil), by rw [er]; rfl, ⟨v2, by rw [er], by rw [er]; exact hro, by rw [er]; exact hlt2⟩, rfl⟩
end Em
end Go.HL
namespace Go.HL
open Go Go.Proofs
namespace Em
set_option maxRecDepth 10000
variable {K : CallFn} {base : List (Nat × HObj)}
abbrev pcell (p : List Nat × Bool) : List HVal := [strB p.1, .bool p.2]
abbrev acell (p : List Nat × Nat) : List HVal := [strB p.1, i64 p.2]
abbrev icell (x : InsnD) : List HVal := [.int .i64 x.kind, .int .i64 x.op, .int .i64 x.d, .int .i64 x.a, .int .i64 x.b, .int .i32 x.imm, .int .i64 x.to, .int .i64 x.join]
structure LI (α : Type) where
  n : Nat
  s : S
  v : HVal
  done : List α
  dv : HVal
structure ManyI {α : Type} (one : S → α × S) (N : Nat) (s1 : S) (v0 : HVal) (s0 : S) (a : LI α) : Prop where
  rest : manyL one N s1 = (a.done ++ (manyL one a.n a.s).1, (manyL one a.n a.s).2)
  len : a.done.length + a.n ≤ N
  lt : ∀ y ∈ a.s.1, y < 4294967296
  ro : ∀ C h, Ro C h (words v0 s0.1) → Ro C h (words a.v a.s.1)
theorem manyL_end {α : Type} (one : S → α × S) {n : Nat} {s : S} (h : n = 0 ∨ s.2 = true) : manyL one n s = ([], s) := by
  cases n with
  | zero => rfl
  | succ n => rcases h with h | h
              · cases h
              · rw [manyL, if_pos h]
theorem ManyI.end {α : Type} {one : S → α × S} {N : Nat} {s1 : S} {v0 : HVal} {s0 : S} {a : LI α} (i : ManyI one N s1 v0 s0 a) (h : a.n = 0 ∨ a.s.2 = true) : manyL one N s1 = (a.done, a.s) := by
  rw [i.rest, manyL_end one h, List.append_nil]
theorem ManyI.step {α : Type} {one : S → α × S} {N n : Nat} {s1 s2 s' : S} {v0 v2 v' dv dv' : HVal} {s0 : S} {done : List α} {x : α} (i : ManyI one N s1 v0 s0 ⟨n, s2, v2, done, dv⟩) (hn : 0 < n) (h : s2.2 = false) (e : one s2 = (x, s')) (lt : ∀ y ∈ s'.1, y < 4294967296) (ro : ∀ C h, Ro C h (words v0 s0.1) → Ro C h (words v' s'.1)) : ManyI one N s1 v0 s0 ⟨n - 1, s', v', done ++ [x], dv'⟩ := by
  obtain ⟨n, rfl⟩ : ∃ m, n = m + 1 := ⟨n - 1, by omega⟩
  refine ⟨?_, ?_, lt, ro⟩
  · have := i.rest
    simp only [Nat.add_sub_cancel] at this ⊢
    rw [this, manyL, if_neg (by simp [h]), e]
    simp
  · have := i.len
    simp only [List.length_append, List.length_singleton] at this ⊢
    omega
theorem codeD_at {rd : Nat → S → Nat × S} {l1 l2 : Nat} {s sA sB sC sD sE sF sG sH : S} {nm : List Nat} {np na lo ni : Nat} {ps : List (List Nat × Bool)} {ar : List (List Nat × Nat)} {is : List InsnD} (hA : nameD rd s = (nm, sA)) (hB : rd 6 sA = (np, sB)) (hC : manyL (paramD rd) np sB = (ps, sC)) (hD : rd 4 sC = (na, sD)) (hE : manyL (arrayD rd) na sD = (ar, sE)) (hF : rd 64 sE = (lo, sF)) (hG : rd 2000 sF = (ni, sG)) (hH : manyL (insnD rd l1 l2) ni sG = (is, sH)) : codeD rd l1 l2 s = (⟨nm, ps, ar, lo, is⟩, sH) := by
  simp only [codeD, andThen, hA, hB, hC, hD, hE, hF, hG, hH, give]
abbrev z26c : List HVal := [.str 0 0, .nils, .nils, .int .i64 0, .nils]
theorem bin_quo32 {t a b : Nat} (ha : a < 4294967296) (hb : b ≠ 0) : binH P .quo t (.int .u32 (a : Int)) (.int .u32 (b : Int)) = some (.int .u32 ((a / b : Nat) : Int)) := by
  rw [bin_quo hb, wrapF_u32_nat (Nat.lt_of_le_of_lt (Nat.div_le_self a b) ha)]
theorem wrapF_i32_signed {n : Nat} (h : n < 4294967296) : wrapF .i32 (n : Int) = signed n := by
  have e : (n : Int) % 4294967296 = n := by omega
  rw [wrapF_eq]
  unfold signed
  simp [IntKind.wrap, IntKind.bits, IntKind.signed, e]
  by_cases hn : n < 2147483648
  · rw [if_pos hn, if_neg (by omega)]
  · rw [if_neg hn, if_pos (by omega)]
/-- code as a value -/
abbrev codeV (c : CodeB) (pv sv iv : HVal) : HVal := .agg [strB c.name, pv, sv, i64 c.local, iv]
/-- .. and its parts -/
def codeParts (c : CodeB) (pv sv iv : HVal) : List Part := [ownS 70 2 pv (c.params.map pcell), ownS 72 2 sv (c.shared.map acell), ownS 74 8 iv (c.insns.map icell)]
theorem code_run (hK : KN base K) (k : Nat) (v : HVal) (s : S) (h : Heap) (w : Wf h) (hp : (pts k [v, .bool s.2] 92 false).holds h) (ro0 : Ro [pts k [v, .bool s.2] 92 false] h (words v s.1)) (hw : ∀ x ∈ s.1, x < 4294967296) :
    Sp P K 43 [.ptr k 0] h (TrP k [v, .bool s.2] 92 false (fun x l' C' => ∃ pv sv iv, x = codeV (codeD nextP 4294967295 4294967295 s).1 pv sv iv ∧ Rdd s (codeD nextP 4294967295 4294967295 s).2 v l' ∧ C' = codeParts (codeD nextP 4294967295 4294967295 s).1 pv sv iv) h) := by
  refine Sp.startP (m := 1208925824118228869193725) (n := 123) w hp (hK.none 43 rfl rfl _ _) Tryz.func43 rfl rfl mask43 rfl rfl ?_
  repeat' (first
    | refine ToX.nrm_seq ?_
    | refine WCX.seq ?_
    | (refine WCX.region (id := 0) ?_; ((refine .cons (q hX rfl ?_))) <;> (refine .nil (.intro rfl ?_)))
    | (refine WCX.region (id := 1) ?_; ((refine .cons (q hX rfl ?_))) <;> ((refine .cons (qcallP rfl rfl rfl rfl rfl rfl rfl ca86 rfl rfl (fun k h f hp ro => name_run hK k v s h f.wf hp (ro _ ro0) hw) (fun _ => rfl) ?_)) <;> (rintro v l' C' B' ⟨rfl, ⟨v1, rfl, hv1, hlt1⟩, rfl⟩ hB; cases hB)) <;> (iterate 3 (refine .cons (q hX rfl ?_))) <;> (refine .nil (.intro rfl ?_)))
    | (refine WCX.region (id := 2) ?_; ((refine .cons (q hX rfl ?_))) <;> ((refine .cons (qcallP rfl rfl rfl rfl rfl rfl rfl ca87 rfl rfl (fun k h f hp ro => next_reads hK k 6 v1 _ h f.wf hp (ro _ (hv1 _ _ ro0)) (by omega) hlt1) (fun _ => rfl) ?_)) <;> (rintro v l' C' B' ⟨rfl, ⟨v2, rfl, hv2, hlt2⟩, rfl⟩ hB; cases hB)) <;> ((refine .cons (q hX rfl ?_))) <;> (refine .nil (.intro rfl ?_)))
    | refine WCX.block ?_)
  generalize hA : nameD nextP s = rA at hv1 hlt1 hv2 hlt2 ⊢
  obtain ⟨nm, sA⟩ := rA
  have hnp := nextP_le 6 sA
  generalize hB : nextP 6 sA = rB at hv2 hlt2 hnp ⊢
  obtain ⟨np, sB⟩ := rB
  simp only at hv1 hlt1 hv2 hlt2 hnp ⊢
  refine WCX.nil 70 2 ?_
  refine WCX.while (c2 := ?_) (Q2 := ?_) (ι := LI (List Nat × Bool)) (fun a => [(4, .ext (i64 a.n)), (3, .ptr 2 0), (2, .ptr 1 0), (0, .ptr 0 0)]) (fun a => [.own [a.v, .bool a.s.2] 92 false, .own z26c 26 false, .own [strB nm, a.dv, .nils, .int .i64 0, .nils] 26 false]) (fun a => [ownS 70 2 a.dv (a.done.map pcell)]) (ManyI (paramD nextP) np sB v s) (fun a => a.n = 0 ∨ a.s.2 = true) (fun a => a.n) ⟨np, sB, v2, [], .nils⟩ ⟨⟨rfl, rfl, rfl, rfl, trivial⟩, ⟨_, rfl⟩, ⟨_, .cons .h .nil⟩⟩ ⟨by simp, by simp, hlt2, fun C h r => hv2 C h (hv1 C h r)⟩ (fun _ => rfl) (fun _ => rfl) (fun _ => rfl) ?s1 ?d1
  case s1 =>
    rintro ⟨n, s2, v2, done, dv⟩ hI next ex
    have hlt2 := hI.lt
    have hro2 := hI.ro
    have hlen := hI.len
    simp only at hlt2 hro2 hlen next ex ⊢
    repeat' (first
      | refine ToX.nrm_seq ?_
      | refine WCX.seq ?_
      | (refine WCX.region (id := 3) ?_; ((refine .cons (q hX rfl ?_))) <;> ((refine .cons (qc rfl ?_ ?_)) <;> intro _) <;> (iterate 4 (refine .cons (q hX rfl ?_))) <;> (first | (refine .cons (qb hX rfl ?_ ?_)) <;> (intro hbl; (first | (cases hbl; done) | skip)) | (refine .cons (q hX rfl ?_))) <;> (iterate 2 (refine .cons (q hX rfl ?_))) <;> (refine .nil (.intro rfl ?_)))
      | (refine WCX.region (id := 5) ?_; ((refine .cons (q hX rfl ?_))) <;> ((refine .cons (qcallP rfl rfl rfl rfl rfl rfl rfl ca86 rfl rfl (fun k h f hp ro => name_run hK k v2 s2 h f.wf hp (ro _ (hro2 _ _ ro0)) hlt2) (fun _ => rfl) ?_)) <;> (rintro v l' C' B' ⟨rfl, ⟨v1, rfl, hv1, hlt1⟩, rfl⟩ hB; cases hB)) <;> (iterate 3 (refine .cons (q hX rfl ?_))) <;> (refine .nil (.intro rfl ?_)))
      | (refine WCX.region (id := 6) ?_; ((refine .cons (q hX rfl ?_))) <;> ((refine .cons (qcallP rfl rfl rfl rfl rfl rfl rfl ca87 rfl rfl (fun k h f hp ro => next_reads hK k 1 v1 _ h f.wf hp (ro _ (hv1 _ _ (hro2 _ _ ro0))) (by omega) hlt1) (fun _ => rfl) ?_)) <;> (rintro v l' C' B' ⟨rfl, ⟨v3, rfl, hv3, hlt3⟩, rfl⟩ hB; cases hB)) <;> ((refine .cons (qc rfl ?_ ?_)) <;> intro _) <;> (iterate 2 (refine .cons (q hX rfl ?_))) <;> (refine .nil (.intro rfl ?_)))
      | (refine WCX.region (id := 7) ?_; (iterate 4 (refine .cons (q hX rfl ?_))) <;> ((refine .cons (qapp hX rfl rfl rfl rfl rfl rfl rfl rfl rfl rfl rfl rfl b70 rfl rfl rfl rfl rfl (by first | exact .h | exact .t .h | exact .t (.t .h) | exact .t (.t (.t .h))) rfl (by simp only [List.length_map]; omega) rfl rfl ?_)) <;> intro kp) <;> (iterate 2 (refine .cons (q hX rfl ?_))) <;> (refine .nil (.intro rfl ?_)))
      | (refine WCX.region (id := 4) ?_; ((refine .cons (q hX rfl ?_))) <;> ((refine .cons (qa (d := ((n - 1 : Nat) : Int)) rfl rfl rfl rfl rfl (wrap_sub (i := 1) (by omega) (by omega)) rfl rfl ?_))) <;> ((refine .cons (q hX rfl ?_))) <;> (refine .nil (.intro rfl ?_)))
      | refine WCX.cond_true rfl ?_
      | refine WCX.cond_false rfl ?_
      | refine WCX.skip ?_
      | refine WCX.block ?_
      | refine WCX.exit ?_
      | refine ToX.exit_seq ?_
      | refine ToX.exit_block ?_
      | refine ToX.nrm_block ?_)
    · refine ex _ _ _ ?_ (.inr hbl); exact ⟨⟨rfl, rfl, rfl, rfl, trivial⟩, ⟨_, rfl⟩, ⟨_, .cons .h .nil⟩⟩
    · rename_i h0 h1
      refine next ⟨n - 1, _, v3, done ++ [((nameD nextP s2).1, true)], _⟩ _ _ _ (by simp only; omega) ⟨⟨rfl, rfl, rfl, rfl, trivial⟩, ⟨_, rfl⟩, ⟨_, by rw [List.map_append]; exact .cons .h .nil⟩⟩ (hI.step (by omega) hbl ?_ hlt3 fun C h r => hv3 C h (hv1 C h (hro2 C h r)))
      have h1 : (nextP 1 (nameD nextP s2).2).1 = 1 := by omega
      simp [paramD, andThen, give, h1]
    · rename_i h0 h1
      refine next ⟨n - 1, _, v3, done ++ [((nameD nextP s2).1, false)], _⟩ _ _ _ (by simp only; omega) ⟨⟨rfl, rfl, rfl, rfl, trivial⟩, ⟨_, rfl⟩, ⟨_, by rw [List.map_append]; exact .cons .h .nil⟩⟩ (hI.step (by omega) hbl ?_ hlt3 fun C h r => hv3 C h (hv1 C h (hro2 C h r)))
      have h1 : ¬ (nextP 1 (nameD nextP s2).2).1 = 1 := by omega
      simp [paramD, andThen, give, h1]
    · refine ex _ _ _ ?_ (.inl (by omega)); exact ⟨⟨rfl, rfl, rfl, rfl, trivial⟩, ⟨_, rfl⟩, ⟨_, .cons .h .nil⟩⟩
  case d1 =>
    rintro ⟨n, sC, v2, ps, pv⟩ hI hJ
    have hlt2 := hI.lt
    have hro2 := hI.ro
    have hC := hI.end hJ
    simp only at hlt2 hro2 hC ⊢
    repeat' (first
      | refine ToX.nrm_seq ?_
      | (refine WCX.region (id := 8) ?_; ((refine .cons (q hX rfl ?_))) <;> ((refine .cons (qcallP rfl rfl rfl rfl rfl rfl rfl ca87 rfl rfl (fun k h f hp ro => next_reads hK k 4 v2 sC h f.wf hp (ro _ (hro2 _ _ ro0)) (by omega) hlt2) (fun _ => rfl) ?_)) <;> (rintro v l' C' B' ⟨rfl, ⟨v3, rfl, hv3, hlt3⟩, rfl⟩ hB; cases hB)) <;> ((refine .cons (q hX rfl ?_))) <;> (refine .nil (.intro rfl ?_)))
      | refine WCX.block ?_)
    have hna := nextP_le 4 sC
    generalize hD : nextP 4 sC = rD at hv3 hlt3 hna ⊢
    obtain ⟨na, sD⟩ := rD
    simp only at hv3 hlt3 hna ⊢
    refine WCX.nil 72 2 ?_
    refine WCX.while (c2 := ?_) (Q2 := ?_) (ι := LI (List Nat × Nat)) (fun a => [(6, .ext (i64 a.n)), (3, .ptr 2 0), (2, .ptr 1 0), (0, .ptr 0 0)]) (fun a => [.own [a.v, .bool a.s.2] 92 false, .own z26c 26 false, .own [strB nm, pv, a.dv, .int .i64 0, .nils] 26 false]) (fun a => [ownS 72 2 a.dv (a.done.map acell), ownS 70 2 pv (ps.map pcell)]) (ManyI (arrayD nextP) na sD v s) (fun a => a.n = 0 ∨ a.s.2 = true) (fun a => a.n) ⟨na, sD, v3, [], .nils⟩ ⟨⟨rfl, rfl, rfl, rfl, trivial⟩, ⟨_, rfl⟩, ⟨_, .cons .h (.cons .h .nil)⟩⟩ ⟨by simp, by simp, hlt3, fun C h r => hv3 C h (hro2 C h r)⟩ (fun _ => rfl) (fun _ => rfl) (fun _ => rfl) ?s2 ?d2
    case s2 =>
      rintro ⟨n, s2, v2, done, dv⟩ hI next ex
      have hlt2 := hI.lt
      have hro2 := hI.ro
      have hlen := hI.len
      simp only at hlt2 hro2 hlen next ex ⊢
      repeat' (first
        | refine ToX.nrm_seq ?_
        | refine WCX.seq ?_
        | (refine WCX.region (id := 9) ?_; ((refine .cons (q hX rfl ?_))) <;> ((refine .cons (qc rfl ?_ ?_)) <;> intro _) <;> (iterate 4 (refine .cons (q hX rfl ?_))) <;> (first | (refine .cons (qb hX rfl ?_ ?_)) <;> (intro hbl; (first | (cases hbl; done) | skip)) | (refine .cons (q hX rfl ?_))) <;> (iterate 2 (refine .cons (q hX rfl ?_))) <;> (refine .nil (.intro rfl ?_)))
        | (refine WCX.region (id := 11) ?_; ((refine .cons (q hX rfl ?_))) <;> ((refine .cons (qcallP rfl rfl rfl rfl rfl rfl rfl ca86 rfl rfl (fun k h f hp ro => name_run hK k v2 s2 h f.wf hp (ro _ (hro2 _ _ ro0)) hlt2) (fun _ => rfl) ?_)) <;> (rintro v l' C' B' ⟨rfl, ⟨v1, rfl, hv1, hlt1⟩, rfl⟩ hB; cases hB)) <;> (iterate 3 (refine .cons (q hX rfl ?_))) <;> (refine .nil (.intro rfl ?_)))
        | (refine WCX.region (id := 12) ?_; ((refine .cons (q hX rfl ?_))) <;> ((refine .cons (qcallP rfl rfl rfl rfl rfl rfl rfl ca87 rfl rfl (fun k h f hp ro => next_reads hK k 64 v1 _ h f.wf hp (ro _ (hv1 _ _ (hro2 _ _ ro0))) (by omega) hlt1) (fun _ => rfl) ?_)) <;> (rintro v l' C' B' ⟨rfl, ⟨v3, rfl, hv3, hlt3⟩, rfl⟩ hB; cases hB)) <;> (iterate 2 (refine .cons (q hX rfl ?_))) <;> (refine .nil (.intro rfl ?_)))
        | (refine WCX.region (id := 13) ?_; (iterate 4 (refine .cons (q hX rfl ?_))) <;> ((refine .cons (qapp hX rfl rfl rfl rfl rfl rfl rfl rfl rfl rfl rfl rfl b72 rfl rfl rfl rfl rfl (by first | exact .h | exact .t .h | exact .t (.t .h) | exact .t (.t (.t .h))) rfl (by simp only [List.length_map]; omega) rfl rfl ?_)) <;> intro kp) <;> (iterate 2 (refine .cons (q hX rfl ?_))) <;> (refine .nil (.intro rfl ?_)))
        | (refine WCX.region (id := 10) ?_; ((refine .cons (q hX rfl ?_))) <;> ((refine .cons (qa (d := ((n - 1 : Nat) : Int)) rfl rfl rfl rfl rfl (wrap_sub (i := 1) (by omega) (by omega)) rfl rfl ?_))) <;> ((refine .cons (q hX rfl ?_))) <;> (refine .nil (.intro rfl ?_)))
        | refine WCX.cond_true rfl ?_
        | refine WCX.cond_false rfl ?_
        | refine WCX.skip ?_
        | refine WCX.block ?_
        | refine WCX.exit ?_
        | refine ToX.exit_seq ?_
        | refine ToX.exit_block ?_
        | refine ToX.nrm_block ?_)
      · refine ex _ _ _ ?_ (.inr hbl); exact ⟨⟨rfl, rfl, rfl, rfl, trivial⟩, ⟨_, rfl⟩, ⟨_, .cons .h (.cons .h .nil)⟩⟩
      · refine next ⟨n - 1, _, v3, done ++ [((nameD nextP s2).1, _)], _⟩ _ _ _ (by simp only; omega) ⟨⟨rfl, rfl, rfl, rfl, trivial⟩, ⟨_, rfl⟩, ⟨_, by rw [List.map_append]; exact .cons .h (.cons .h .nil)⟩⟩ (hI.step (by omega) hbl rfl hlt3 fun C h r => hv3 C h (hv1 C h (hro2 C h r)))
      · refine ex _ _ _ ?_ (.inl (by omega)); exact ⟨⟨rfl, rfl, rfl, rfl, trivial⟩, ⟨_, rfl⟩, ⟨_, .cons .h (.cons .h .nil)⟩⟩
    case d2 =>
      rintro ⟨n, sE, v2, ar, sv⟩ hI hJ
      have hlt2 := hI.lt
      have hro2 := hI.ro
      have hE := hI.end hJ
      simp only at hlt2 hro2 hE ⊢
      repeat' (first
        | refine ToX.nrm_seq ?_
        | refine WCX.seq ?_
        | (refine WCX.region (id := 14) ?_; ((refine .cons (q hX rfl ?_))) <;> ((refine .cons (qcallP rfl rfl rfl rfl rfl rfl rfl ca87 rfl rfl (fun k h f hp ro => next_reads hK k 64 v2 sE h f.wf hp (ro _ (hro2 _ _ ro0)) (by omega) hlt2) (fun _ => rfl) ?_)) <;> (rintro v l' C' B' ⟨rfl, ⟨v3, rfl, hv3, hlt3⟩, rfl⟩ hB; cases hB)) <;> (iterate 2 (refine .cons (q hX rfl ?_))) <;> (refine .nil (.intro rfl ?_)))
        | (refine WCX.region (id := 15) ?_; ((refine .cons (q hX rfl ?_))) <;> ((refine .cons (qcallP rfl rfl rfl rfl rfl rfl rfl ca87 rfl rfl (fun k h f hp ro => next_reads hK k 2000 v3 _ h f.wf hp (ro _ (hv3 _ _ (hro2 _ _ ro0))) (by omega) hlt3) (fun _ => rfl) ?_)) <;> (rintro v l' C' B' ⟨rfl, ⟨v4, rfl, hv4, hlt4⟩, rfl⟩ hB; cases hB)) <;> ((refine .cons (q hX rfl ?_))) <;> (refine .nil (.intro rfl ?_)))
        | refine WCX.block ?_)
      generalize hF : nextP 64 sE = rF at hv3 hlt3 hv4 hlt4 ⊢
      obtain ⟨lo, sF⟩ := rF
      simp only at hv3 hlt3 hv4 hlt4 ⊢
      have hni := nextP_le 2000 sF
      generalize hG : nextP 2000 sF = rG at hv4 hlt4 hni ⊢
      obtain ⟨ni, sG⟩ := rG
      simp only at hv4 hlt4 hni ⊢
      refine WCX.nil 74 8 ?_
      refine WCX.loop (ι := LI InsnD) (fun a => [(8, .ext (i64 a.n)), (3, .ptr 2 0), (2, .ptr 1 0), (0, .ptr 0 0)]) (fun a => [.own [a.v, .bool a.s.2] 92 false, .own z26c 26 false, .own [strB nm, pv, sv, i64 lo, a.dv] 26 false]) (fun a => [ownS 74 8 a.dv (a.done.map icell), ownS 72 2 sv (ar.map acell), ownS 70 2 pv (ps.map pcell)]) (ManyI (insnD nextP 4294967295 4294967295) ni sG v s) (fun a => a.n) ⟨ni, sG, v4, [], .nils⟩ ⟨⟨rfl, rfl, rfl, rfl, trivial⟩, ⟨_, rfl⟩, ⟨_, .cons .h (.cons .h (.cons .h .nil))⟩⟩ ⟨by simp, by simp, hlt4, fun C h r => hv4 C h (hv3 C h (hro2 C h r))⟩ (fun _ => rfl) (fun _ => rfl) (fun _ => rfl) ?_
      rintro ⟨n, s2, v2, done, dv⟩ hI next
      have hlt2 := hI.lt
      have hro2 := hI.ro
      have hlen := hI.len
      simp only at hlt2 hro2 hlen next ⊢
      have hle1 := nextP_le 4294967295 s2
      have hle2 := nextP_le 4294967295 (nextP 4294967295 s2).2
      have hle3 := nextP_le 4294967295 (nextP 4294967295 (nextP 4294967295 s2).2).2
      repeat' (first
        | refine ToX.nrm_seq ?_
        | refine WCX.seq ?_
        | (refine WCX.region (id := 16) ?_; ((refine .cons (q hX rfl ?_))) <;> ((refine .cons (qc rfl ?_ ?_)) <;> intro _) <;> (iterate 4 (refine .cons (q hX rfl ?_))) <;> (first | (refine .cons (qb hX rfl ?_ ?_)) <;> (intro hbl; (first | (cases hbl; done) | skip)) | (refine .cons (q hX rfl ?_))) <;> (iterate 2 (refine .cons (q hX rfl ?_))) <;> (refine .nil (.intro rfl ?_)))
        | (refine WCX.region (id := 18) ?_; ((refine .cons (q hX rfl ?_))) <;> ((refine .cons (qcallP rfl rfl rfl rfl rfl rfl rfl ca88 rfl rfl (fun k h f hp ro => word_run hK k v2 s2 h f.wf hp (ro _ (hro2 _ _ ro0)) hlt2) (fun _ => rfl) ?_)) <;> (rintro v l' C' B' ⟨rfl, ⟨va, rfl, hva, hlta⟩, rfl⟩ hB; cases hB)) <;> ((refine .cons (q hX rfl ?_))) <;> ((refine .cons (qcallP rfl rfl rfl rfl rfl rfl rfl ca88 rfl rfl (fun k h f hp ro => word_run hK k va _ h f.wf hp (ro _ (hva _ _ (hro2 _ _ ro0))) hlta) (fun _ => rfl) ?_)) <;> (rintro v l' C' B' ⟨rfl, ⟨vb, rfl, hvb, hltb⟩, rfl⟩ hB; cases hB)) <;> ((refine .cons (q hX rfl ?_))) <;> ((refine .cons (qcallP rfl rfl rfl rfl rfl rfl rfl ca88 rfl rfl (fun k h f hp ro => word_run hK k vb _ h f.wf hp (ro _ (hvb _ _ (hva _ _ (hro2 _ _ ro0)))) hltb) (fun _ => rfl) ?_)) <;> (rintro v l' C' B' ⟨rfl, ⟨vc, rfl, hvc, hltc⟩, rfl⟩ hB; cases hB)) <;> (iterate 3 (refine .cons (q hX rfl ?_))) <;> (refine .nil (.intro rfl ?_)))
        | (refine WCX.region (id := 19) ?_; ((refine .cons (q hX rfl ?_))) <;> ((refine .cons (qn rfl rfl rfl (bin_rem (b := 256) (by decide)) rfl rfl ?_))) <;> ((refine .cons (qw hX rfl rfl rfl rfl (wrapF_i64_nat (by omega)) rfl rfl ?_))) <;> ((refine .cons (q hX rfl ?_))) <;> ((refine .cons (qn rfl rfl rfl (bin_quo32 (b := 256) (by omega) (by decide)) rfl rfl ?_))) <;> ((refine .cons (qw hX rfl rfl rfl rfl (wrapF_i64_nat (by omega)) rfl rfl ?_))) <;> ((refine .cons (q hX rfl ?_))) <;> ((refine .cons (qn rfl rfl rfl (bin_rem (b := 256) (by decide)) rfl rfl ?_))) <;> ((refine .cons (qw hX rfl rfl rfl rfl (wrapF_i64_nat (by omega)) rfl rfl ?_))) <;> ((refine .cons (q hX rfl ?_))) <;> ((refine .cons (qn rfl rfl rfl (bin_quo32 (b := 256) (by omega) (by decide)) rfl rfl ?_))) <;> ((refine .cons (qn rfl rfl rfl (bin_rem (b := 256) (by decide)) rfl rfl ?_))) <;> ((refine .cons (qw hX rfl rfl rfl rfl (wrapF_i64_nat (by omega)) rfl rfl ?_))) <;> ((refine .cons (q hX rfl ?_))) <;> ((refine .cons (qn rfl rfl rfl (bin_quo32 (b := 65536) (by omega) (by decide)) rfl rfl ?_))) <;> ((refine .cons (qw hX rfl rfl rfl rfl (wrapF_i64_nat (by omega)) rfl rfl ?_))) <;> ((refine .cons (q hX rfl ?_))) <;> ((refine .cons (qw hX rfl rfl rfl rfl (wrapF_i32_signed (by omega)) rfl rfl ?_))) <;> (iterate 3 (refine .cons (q hX rfl ?_))) <;> (refine .nil (.intro rfl ?_)))
        | (refine WCX.region (id := 20) ?_; ((refine .cons (q hX rfl ?_))) <;> ((refine .cons (qcallP rfl rfl rfl rfl rfl rfl rfl ca87 rfl rfl (fun k h f hp ro => next_reads hK k 2000 vc _ h f.wf hp (ro _ (hvc _ _ (hvb _ _ (hva _ _ (hro2 _ _ ro0))))) (by omega) hltc) (fun _ => rfl) ?_)) <;> (rintro v l' C' B' ⟨rfl, ⟨vd, rfl, hvd, hltd⟩, rfl⟩ hB; cases hB)) <;> (iterate 2 (refine .cons (q hX rfl ?_))) <;> (refine .nil (.intro rfl ?_)))
        | (refine WCX.region (id := 21) ?_; ((refine .cons (q hX rfl ?_))) <;> ((refine .cons (qcallP rfl rfl rfl rfl rfl rfl rfl ca87 rfl rfl (fun k h f hp ro => next_reads hK k 2000 vd _ h f.wf hp (ro _ (hvd _ _ (hvc _ _ (hvb _ _ (hva _ _ (hro2 _ _ ro0)))))) (by omega) hltd) (fun _ => rfl) ?_)) <;> (rintro v l' C' B' ⟨rfl, ⟨ve, rfl, hve, hlte⟩, rfl⟩ hB; cases hB)) <;> (iterate 2 (refine .cons (q hX rfl ?_))) <;> (refine .nil (.intro rfl ?_)))
        | (refine WCX.region (id := 22) ?_; ((refine .cons (q hX rfl ?_))) <;> ((refine .cons (qcallP rfl rfl rfl rfl rfl rfl rfl ca87 rfl rfl (fun k h f hp ro => next_reads hK k 0 ve _ h f.wf hp (ro _ (hve _ _ (hvd _ _ (hvc _ _ (hvb _ _ (hva _ _ (hro2 _ _ ro0))))))) (by omega) hlte) (fun _ => rfl) ?_)) <;> (rintro v l' C' B' ⟨rfl, ⟨vf, rfl, hvf, hltf⟩, rfl⟩ hB; cases hB)) <;> (refine .nil (.intro rfl ?_)))
        | (refine WCX.region (id := 23) ?_; (iterate 4 (refine .cons (q hX rfl ?_))) <;> ((refine .cons (qapp hX rfl rfl rfl rfl rfl rfl rfl rfl rfl rfl rfl rfl b74 rfl rfl rfl rfl rfl (by first | exact .h | exact .t .h | exact .t (.t .h) | exact .t (.t (.t .h))) rfl (by simp only [List.length_map]; omega) rfl rfl ?_)) <;> intro kp) <;> (iterate 2 (refine .cons (q hX rfl ?_))) <;> (refine .nil (.intro rfl ?_)))
        | (refine WCX.region (id := 17) ?_; ((refine .cons (q hX rfl ?_))) <;> ((refine .cons (qa (d := ((n - 1 : Nat) : Int)) rfl rfl rfl rfl rfl (wrap_sub (i := 1) (by omega) (by omega)) rfl rfl ?_))) <;> ((refine .cons (q hX rfl ?_))) <;> (refine .nil (.intro rfl ?_)))
        | (refine WCX.region (id := 24) ?_; (iterate 2 (refine .cons (q hX rfl ?_))) <;> (refine .nil (.intro rfl ?_)))
        | refine WCX.ret ?_
        | refine WCX.cond_true rfl ?_
        | refine WCX.cond_false rfl ?_
        | refine WCX.skip ?_
        | refine WCX.block ?_
        | refine WCX.exit ?_
        | refine ToX.exit_seq ?_
        | refine ToX.exit_block ?_
        | refine ToX.nrm_block ?_
        | refine ToX.fn_ret hX rfl ?_)
      · have e := codeD_at hA hB hC hD hE hF hG (hI.end (.inr hbl))
        refine fun h f => ⟨_, _, f.chgP.picks (.cons .h (.cons (.t (.t .h)) (.cons (.t .h) (.cons .h .nil)))), pv, sv, dv, ?_, ⟨v2, ?_, ?_, ?_⟩, ?_⟩ <;> rw [e]
        · rfl
        · exact hro2
        · exact hlt2
        · rfl
      · refine next ⟨n - 1, _, vf, done ++ [_], _⟩ _ _ _ (by simp only; omega) ⟨⟨rfl, rfl, rfl, rfl, trivial⟩, ⟨_, rfl⟩, ⟨_, by rw [List.map_append]; exact .cons .h (.cons .h (.cons .h .nil))⟩⟩ (hI.step (by omega) hbl rfl hltf fun C h r => hvf C h (hve C h (hvd C h (hvc C h (hvb C h (hva C h (hro2 C h r)))))))
      · have e := codeD_at hA hB hC hD hE hF hG (hI.end (.inl (show n = 0 by omega)))
        refine fun h f => ⟨_, _, f.chgP.picks (.cons .h (.cons (.t (.t .h)) (.cons (.t .h) (.cons .h .nil)))), pv, sv, dv, ?_, ⟨v2, ?_, ?_, ?_⟩, ?_⟩ <;> rw [e]
        · rfl
        · exact hro2
        · exact hlt2
        · rfl
end Em
end Go.HL
