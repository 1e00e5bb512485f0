/- The walk: the reference writes code. No statement of the seat stands here. -/
import Derived.Test.YtngeipnhbigdmaaGreatDoorMF
set_option linter.unusedVariables false
set_option linter.unusedSimpArgs false
namespace Go.HL
open Go Go.Proofs
namespace Em
set_option maxRecDepth 10000
variable {K : CallFn} {base : List (Nat × HObj)}
theorem sum_run (hK : KN base K) (v : HVal) (l : List Nat) (h : Heap) (w : Wf h) (ro : (rd v 1 (l.map wcell)).holds h) (hb : l.length ≤ 17592186044416) (hw : ∀ x ∈ l, x < 4294967296) :
    Sp P K 30 [v] h (Val (u32 (sumOf l)) h) := by
  have ll := rd_len ro
  refine Sp.start (m := 285) (n := 19) w (hK.none 30 rfl rfl _ _) Tryz.func30 rfl rfl mask30 rfl rfl ?_
  repeat' (first
    | refine ToX.nrm_seq ?_
    | refine WCX.seq ?_
    | (refine WCX.region (id := 0) ?_; ((refine .cons (q hX rfl ?_))) <;> (refine .nil (.intro rfl ?_)))
    | (refine WCX.region (id := 1) ?_; ((refine .cons (q hX rfl ?_))) <;> (refine .nil (.intro rfl ?_)))
    | (refine WCX.region (id := 2) ?_; ((refine .cons (q hX rfl ?_))) <;> (refine .nil (.intro rfl ?_)))
    | refine WCX.block ?_)
  refine WCX.loop (ι := Nat × Nat) (fun a => [(4, .ext (i64 a.1)), (0, .ext v), (3, .ext (u32 a.2))]) (fun _ => []) (fun _ => []) (fun a => a.1 ≤ l.length ∧ a.2 < 4294967296 ∧ sumOf l = (l.drop a.1).foldl (fun n w => (31 * n + w) % 4294967296) a.2) (fun a => l.length - a.1) (0, 7) ⟨⟨rfl, rfl, rfl, trivial⟩, ⟨_, rfl⟩, ⟨_, .nil⟩⟩ ⟨Nat.zero_le _, by decide, rfl⟩ (fun _ => rfl) (fun _ => rfl) (fun _ => rfl) ?_
  rintro ⟨i, s⟩ ⟨hi, hs, he⟩ next
  simp only at hi hs he next ⊢
  have hx : i < l.length → l.getD i 0 < 4294967296 := fun hlt => hw _ (getD_mem _ hlt)
  repeat' (first
    | refine ToX.nrm_seq ?_
    | refine WCX.seq ?_
    | (refine WCX.region (id := 3) ?_; (iterate 2 (refine .cons (q hX rfl ?_))) <;> ((refine .cons (ql hX rfl rfl rfl rfl rfl rfl (by assumption) rfl rfl ?_))) <;> ((refine .cons (qc rfl ?_ ?_)) <;> intro _) <;> (refine .nil (.intro rfl ?_)))
    | (refine WCX.region (id := 5) ?_; ((refine .cons (q hX rfl ?_))) <;> ((refine .cons (qa (d := ((31 * s % 4294967296 : Nat) : Int)) rfl rfl rfl rfl rfl (by rw [wrapF_u32]; omega) rfl rfl ?_))) <;> (iterate 2 (refine .cons (q hX rfl ?_))) <;> ((refine .cons (qidx hX rfl rfl rfl rfl rfl (.of ro) (row_i (0 : Nat) (by omega)) rfl rfl rfl ?_))) <;> ((refine .cons (q hX rfl ?_))) <;> ((refine .cons (qa (d := (((31 * s + l.getD i 0) % 4294967296 : Nat) : Int)) rfl rfl rfl rfl rfl (by rw [wrapF_u32]; omega) rfl rfl ?_))) <;> ((refine .cons (q hX rfl ?_))) <;> (refine .nil (.intro rfl ?_)))
    | (refine WCX.region (id := 4) ?_; ((refine .cons (q hX rfl ?_))) <;> ((refine .cons (qa rfl rfl rfl rfl rfl (wrapF_i64 (by first | omega | (simp only [Int.ofNat_eq_natCast]; omega)) (by first | omega | (simp only [Int.ofNat_eq_natCast]; omega))) rfl rfl ?_))) <;> ((refine .cons (q hX rfl ?_))) <;> (refine .nil (.intro rfl ?_)))
    | (refine WCX.region (id := 6) ?_; (iterate 2 (refine .cons (q hX rfl ?_))) <;> (refine .nil (.intro rfl ?_)))
    | refine WCX.ret ?_
    | refine WCX.cond_true rfl ?_
    | refine WCX.cond_false rfl ?_
    | refine WCX.skip ?_
    | refine WCX.block ?_
    | refine WCX.exit ?_
    | refine ToX.exit_seq ?_
    | refine ToX.exit_block ?_
    | refine ToX.nrm_block ?_
    | refine ToX.fn_ret hX rfl ?_)
  · refine next (i + 1, _) _ _ _ (by simp only; omega) ⟨⟨rfl, rfl, rfl, trivial⟩, ⟨_, rfl⟩, ⟨_, .nil⟩⟩ ⟨by simp only; omega, Nat.mod_lt _ (by decide), ?_⟩
    rw [he, drop_cons (by omega) 0]; rfl
  · have hi2 : i = l.length := by omega
    subst hi2
    exact fun h f => ⟨by rw [he, List.drop_length]; rfl, f.chg⟩
theorem shl_mul {x m : Nat} (hx : x < 256) (hm : m ≤ 3) : 256 ^ m * x < 4294967296 := by
  have := shl_lt hx hm
  rwa [Nat.pow_mul] at this
theorem shl_mul_add {x m a : Nat} (hx : x < 256) (hm : m ≤ 3) (ha : a < 256 ^ m) : a + 256 ^ m * x < 4294967296 := by
  have := shl_add_lt hx hm (a := a) (by rw [Nat.pow_mul]; exact ha)
  rw [Nat.pow_mul] at this
  rw [Nat.add_comm]; exact this
theorem pow_step {m : Nat} (hm : m ≤ 3) : 256 ^ m * 256 % 4294967296 = 256 ^ (m + 1) % 4294967296 := by rw [Nat.pow_succ]
theorem pow_small {m : Nat} (hm : m ≤ 3) : 256 ^ m % 4294967296 = 256 ^ m := by
  obtain rfl | rfl | rfl | rfl : m = 0 ∨ m = 1 ∨ m = 2 ∨ m = 3 := by omega
  all_goals rfl
theorem refName12_run (hK : KN base K) (b : List Nat) (h : Heap) (w : Wf h) (hb : NameFine b) :
    Sp P K 29 [strB b] h (Tr (fun x C' => C' = [wordsO x (nameE b)] ∧ ∀ k, x ≠ .rest k) h) := by
  have hlen := hb.1
  have hbytes := hb.2
  refine Sp.start (m := 268468477) (n := 46) w (hK.none 29 rfl rfl _ _) Tryz.func29 rfl rfl mask29 rfl rfl ?_
  repeat' (first
    | refine ToX.nrm_seq ?_
    | refine WCX.seq ?_
    | (refine WCX.region (id := 0) ?_; ((refine .cons (q hX rfl ?_))) <;> (refine .nil (.intro rfl ?_)))
    | (refine WCX.region (id := 1) ?_; (iterate 2 (refine .cons (q hX rfl ?_))) <;> ((refine .cons (qw hX rfl rfl rfl rfl (wrapF_u32_nat (by omega)) rfl rfl ?_))) <;> (iterate 2 (refine .cons (q hX rfl ?_))) <;> (refine .nil (.intro rfl ?_)))
    | (refine WCX.region (id := 2) ?_; ((refine .cons (q hX rfl ?_))) <;> (refine .nil (.intro rfl ?_)))
    | refine WCX.block ?_)
  refine WCX.leak 0 (fun k => wordsO (.slice k 0 1 (some 1)) [b.length]) rfl (fun k => .own rfl (by simp [wcell]) rfl) (fun _ => rfl) rfl fun k0 => ?_
  refine WCX.loop (ι := Nat × List Nat × HVal) (fun a => [(4, .ext (i64 a.1)), (0, .ext (strB b)), (3, .ext a.2.2)]) (fun _ => []) (fun a => [wordsO a.2.2 a.2.1]) (fun a => nameE b = a.2.1 ++ packs (b.drop a.1) ∧ a.2.1.length ≤ 1 + a.1 ∧ a.1 ≤ 20 ∧ ∀ k, a.2.2 ≠ .rest k) (fun a => b.length - a.1) (0, [b.length], _) ⟨⟨rfl, rfl, rfl, trivial⟩, ⟨_, rfl⟩, ⟨_, .cons .h .nil⟩⟩ ⟨by simp [nameE], by simp, by simp, by simp⟩ (fun _ => rfl) (fun _ => rfl) (fun _ => rfl) ?_
  rintro ⟨i, acc, v2⟩ ⟨he, hacc, hi, hfr⟩ next
  simp only at he hacc hi hfr next ⊢
  have hdl : (b.drop i).length = b.length - i := List.length_drop
  repeat' (first
    | refine ToX.nrm_seq ?_
    | refine WCX.seq ?_
    | (refine WCX.region (id := 3) ?_; (iterate 3 (refine .cons (q hX rfl ?_))) <;> ((refine .cons (qc rfl ?_ ?_)) <;> intro _) <;> (refine .nil (.intro rfl ?_)))
    | (refine WCX.region (id := 5) ?_; (iterate 2 (refine .cons (q hX rfl ?_))) <;> (refine .nil (.intro rfl ?_)))
    | (refine WCX.region (id := 6) ?_; (iterate 2 (refine .cons (q hX rfl ?_))) <;> (refine .nil (.intro rfl ?_)))
    | (refine WCX.region (id := 12) ?_; (iterate 2 (refine .cons (q hX rfl ?_))) <;> (refine .nil (.intro rfl ?_)))
    | refine WCX.ret ?_
    | refine WCX.cond_true rfl ?_
    | refine WCX.cond_false rfl ?_
    | refine WCX.skip ?_
    | refine WCX.block ?_
    | refine WCX.exit ?_
    | refine ToX.exit_seq ?_
    | refine ToX.exit_block ?_
    | refine ToX.fn_ret hX rfl ?_)
  · refine WCX.loop (ι := Nat × Nat) (fun a => [(7, .ext (i64 (i + a.1))), (5, .ext (u32 a.2)), (6, .ext (u32 (256 ^ a.1 % 4294967296))), (4, .ext (i64 i)), (0, .ext (strB b)), (3, .ext v2)]) (fun _ => []) (fun _ => [wordsO v2 acc]) (fun a => a.1 ≤ min 4 (b.length - i) ∧ a.2 = wordOf ((b.drop i).take a.1)) (fun a => min 4 (b.length - i) - a.1) (0, 0) ⟨⟨rfl, rfl, rfl, rfl, rfl, rfl, trivial⟩, ⟨_, rfl⟩, ⟨_, .cons .h .nil⟩⟩ ⟨Nat.zero_le _, rfl⟩ (fun _ => rfl) (fun _ => rfl) (fun _ => rfl) ?_
    rintro ⟨m, wd⟩ ⟨hm, hwd⟩ next2
    simp only at hm hwd next2 ⊢
    have hsx : i + m < b.length → sIndex b.length (codeN b 0) (i + m) = b.getD (i + m) 0 ∧ b.getD (i + m) 0 < 256 := fun hlt => ⟨sIndex_code hbytes hlt, hbytes _ (getD_mem 0 hlt)⟩
    have hwl : wd < 256 ^ m := by
      have := wordOf_lt (l := (b.drop i).take m) fun x hx => hbytes x (List.mem_of_mem_drop (List.mem_of_mem_take hx))
      rw [List.length_take, hdl, Nat.min_eq_left (by omega)] at this
      rw [hwd]; exact this
    repeat' (first
      | refine ToX.nrm_seq ?_
      | refine WCX.seq ?_
      | (refine WCX.region (id := 7) ?_; (iterate 2 (refine .cons (q hX rfl ?_))) <;> ((refine .cons (qa rfl rfl rfl rfl rfl (wrapF_i64 (by first | omega | (simp only [Int.ofNat_eq_natCast]; omega)) (by first | omega | (simp only [Int.ofNat_eq_natCast]; omega))) rfl rfl ?_))) <;> ((refine .cons (qc rfl ?_ ?_)) <;> intro _) <;> (iterate 4 (refine .cons (q hX rfl ?_))) <;> (first | (refine .cons (q hX rfl ?_)) | (refine .cons (qc rfl ?_ ?_)) <;> intro _) <;> ((refine .cons (q hX rfl ?_))) <;> (refine .nil (.intro rfl ?_)))
      | (refine WCX.region (id := 9) ?_; (iterate 4 (refine .cons (q hX rfl ?_))) <;> ((refine .cons (qs hX rfl rfl rfl rfl (by first | omega | (simp only [Int.ofNat_eq_natCast]; omega)) rfl rfl ?_))) <;> ((refine .cons (qw (b := ((b.getD (i + m) 0 : Nat) : Int)) hX rfl rfl rfl rfl (by rw [(hsx (by omega)).1, Int.ofNat_eq_natCast]; exact wrapF_u32_nat (by have := (hsx (by omega)).2; omega)) rfl rfl ?_))) <;> ((refine .cons (qa (d := ((256 ^ m * b.getD (i + m) 0 : Nat) : Int)) rfl rfl rfl rfl rfl (by rw [pow_small (by omega), ← Int.natCast_mul]; exact wrapF_u32_nat (shl_mul (hsx (by omega)).2 (by omega))) rfl rfl ?_))) <;> ((refine .cons (qa (d := ((wd + 256 ^ m * b.getD (i + m) 0 : Nat) : Int)) rfl rfl rfl rfl rfl (by rw [← Int.natCast_add]; exact wrapF_u32_nat (shl_mul_add (hsx (by omega)).2 (by omega) hwl)) rfl rfl ?_))) <;> ((refine .cons (q hX rfl ?_))) <;> (refine .nil (.intro rfl ?_)))
      | (refine WCX.region (id := 10) ?_; ((refine .cons (q hX rfl ?_))) <;> ((refine .cons (qa (d := ((256 ^ (m + 1) % 4294967296 : Nat) : Int)) rfl rfl rfl rfl rfl (by rw [← pow_step (by omega), pow_small (by omega), wrapF_u32]; omega) rfl rfl ?_))) <;> ((refine .cons (q hX rfl ?_))) <;> (refine .nil (.intro rfl ?_)))
      | (refine WCX.region (id := 8) ?_; ((refine .cons (q hX rfl ?_))) <;> ((refine .cons (qa rfl rfl rfl rfl rfl (wrapF_i64 (by first | omega | (simp only [Int.ofNat_eq_natCast]; omega)) (by first | omega | (simp only [Int.ofNat_eq_natCast]; omega))) rfl rfl ?_))) <;> ((refine .cons (q hX rfl ?_))) <;> (refine .nil (.intro rfl ?_)))
      | (refine WCX.region (id := 11) ?_; (iterate 3 (refine .cons (q hX rfl ?_))) <;> ((refine .cons (qapp hX rfl rfl rfl rfl rfl rfl rfl rfl rfl rfl rfl rfl b42 rfl rfl rfl rfl rfl (by first | exact .h | exact .t .h | exact .t (.t .h) | exact .t (.t (.t .h))) rfl (by simp only [List.length_map]; omega) rfl rfl ?_)) <;> intro kp) <;> ((refine .cons (q hX rfl ?_))) <;> (refine .nil (.intro rfl ?_)))
      | (refine WCX.region (id := 4) ?_; ((refine .cons (q hX rfl ?_))) <;> ((refine .cons (qa rfl rfl rfl rfl rfl (wrapF_i64 (by first | omega | (simp only [Int.ofNat_eq_natCast]; omega)) (by first | omega | (simp only [Int.ofNat_eq_natCast]; omega))) rfl rfl ?_))) <;> ((refine .cons (q hX rfl ?_))) <;> (refine .nil (.intro rfl ?_)))
      | refine WCX.cond_true rfl ?_
      | refine WCX.cond_false rfl ?_
      | refine WCX.skip ?_
      | refine WCX.block ?_
      | refine WCX.exit ?_
      | refine ToX.exit_seq ?_
      | refine ToX.exit_block ?_
      | refine ToX.nrm_block ?_)
    · refine next2 (m + 1, _) _ _ _ (by simp only; omega) ⟨⟨rfl, rfl, rfl, rfl, rfl, rfl, trivial⟩, ⟨_, rfl⟩, ⟨_, .cons .h .nil⟩⟩ ⟨by simp only; omega, ?_⟩
      have hlt : m < (b.drop i).length := by omega
      simp only
      rw [take_succ hlt 0, wordOf_snoc, hwd, List.length_take, Nat.min_eq_left (by omega), show (b.drop i).getD m 0 = b.getD (i + m) 0 by simp [List.getD, List.getElem?_drop]]
    all_goals
      clear next2
      have hm4 : m = min 4 (b.length - i) := by omega
      have hwd4 : wd = wordOf ((b.drop i).take 4) := by
        rw [hwd, hm4]
        congr 1
        by_cases h4 : 4 ≤ b.length - i
        · rw [Nat.min_eq_left h4]
        · rw [Nat.min_eq_right (by omega), List.take_of_length_le (by omega), List.take_of_length_le (by omega)]
      refine next (i + 4, acc ++ [wd], _) _ _ _ (by simp only; omega) ⟨⟨rfl, rfl, rfl, trivial⟩, ⟨_, rfl⟩, ⟨_, .cons (.he (ownS_snoc (x := wd) rfl)) .nil⟩⟩ ⟨?_, by simp only [List.length_append, List.length_singleton]; omega, by simp only; omega, by simp⟩
      simp only
      rw [he, packs_step (by omega), List.drop_drop, hwd4, List.append_assoc]
      rfl
  · have hn : b.drop i = [] := List.drop_of_length_le (by omega)
    rw [hn, packs_nil, List.append_nil] at he
    exact fun h f => ⟨_, f.chg, by rw [he]; rfl, hfr⟩
end Em
end Go.HL
namespace Go.HL
open Go
namespace Em
def CodeB.toP (c : CodeB) : CodeP := ⟨c.name.length, codeN c.name 0, c.params.map fun p => (p.1.length, codeN p.1 0, p.2), c.shared.map fun a => (a.1.length, codeN a.1 0, (a.2 : Int)), (c.local : Int), c.insns⟩
/-- what a reader's code is like, be it valid or not -/
structure CodeFair (c : CodeB) : Prop where
  name : NameFine c.name
  params : c.params.length ≤ 6
  pname : ∀ p ∈ c.params, NameFine p.1
  shared : c.shared.length ≤ 4
  sname : ∀ p ∈ c.shared, NameFine p.1 ∧ p.2 ≤ 64
  «local» : c.local ≤ 64
  insns : c.insns.length ≤ 2000
  each : ∀ x ∈ c.insns, -2147483648 ≤ x.imm ∧ x.imm ≤ 2147483647
theorem nameOk_of {b : List Nat} (h : NameFine b) : NameOk (b.length, codeN b 0) := by
  refine ⟨Nat.le_trans h.1 (by decide), ?_⟩
  cases b with
  | nil => exact .inr rfl
  | cons x b => exact .inl (Nat.succ_pos _)
theorem CodeFair.ok {c : CodeB} (f : CodeFair c) : CodeOk c.toP := by
  refine ⟨nameOk_of f.name, ?_, ?_, ?_, ?_, ?_, f.each⟩
  · have := f.params; simp only [CodeB.toP, List.length_map]; omega
  · intro p hp
    obtain ⟨q, hq, rfl⟩ := List.mem_map.1 hp
    exact nameOk_of (f.pname q hq)
  · have := f.shared; simp only [CodeB.toP, List.length_map]; omega
  · intro p hp
    obtain ⟨q, hq, rfl⟩ := List.mem_map.1 hp
    exact nameOk_of (f.sname q hq).1
  · have := f.insns; simp only [CodeB.toP]; omega
theorem codeRB_P {c : CodeB} {pv sv iv : HVal} {h : Heap} (r : (codeRB c pv sv iv).holds h) : (codeR c.toP pv sv iv).holds h := by
  refine ⟨?_, ?_, r.2.2⟩
  · have := r.1
    unfold CodeB.toP
    simp only [List.map_map]
    exact this
  · have := r.2.1
    unfold CodeB.toP
    simp only [List.map_map]
    exact this
theorem withinM_lt {b : Bool} {n lim : Int} (h : withinM b n lim = true) (hl : 0 < lim) : 0 ≤ n ∧ n < lim := by
  unfold withinM at h
  cases b
  · simp at h; omega
  · simpa using h
theorem foldsM_lt {op : Int} (h : foldsM op = true) : 0 ≤ op ∧ op < 20 := by
  unfold foldsM neutM at h
  split at h
  · omega
  · split at h
    · omega
    · split at h
      · omega
      · split at h
        · omega
        · cases h
theorem U_ops {k : Nat} (h : k < 16) : 0 ≤ (U k).ops ∧ (U k).ops ≤ 20 := by
  have : k = 0 ∨ k = 1 ∨ k = 2 ∨ k = 3 ∨ k = 4 ∨ k = 5 ∨ k = 6 ∨ k = 7 ∨ k = 8 ∨ k = 9 ∨ k = 10 ∨ k = 11 ∨ k = 12 ∨ k = 13 ∨ k = 14 ∨ k = 15 := by omega
  rcases this with rfl | rfl | rfl | rfl | rfl | rfl | rfl | rfl | rfl | rfl | rfl | rfl | rfl | rfl | rfl | rfl <;> decide
theorem insnM_fine {f : CodeP} {x : InsnD} (h : f.insnM x = true) (hn : 1 ≤ f.insns.length ∧ f.insns.length ≤ 2000) (hi : -2147483648 ≤ x.imm ∧ x.imm ≤ 2147483647) : InsnFine x := by
  unfold CodeP.insnM at h
  simp only [Bool.and_eq_true, decide_eq_true_eq] at h
  obtain ⟨⟨⟨⟨⟨⟨⟨hk, ho⟩, hd⟩, ha⟩, hb⟩, _⟩, ht⟩, hj⟩ := h
  have h1 := withinM_lt hd (by decide)
  have h2 := withinM_lt ha (by decide)
  have h3 := withinM_lt hb (by decide)
  have h4 := withinM_lt ht (by omega)
  have h5 := withinM_lt hj (by omega)
  have h6 : 0 ≤ x.op ∧ x.op < 256 := by
    split at ho
    · have := foldsM_lt ho; omega
    · have hu := U_ops (k := x.kind.toNat) (by omega)
      unfold withinM at ho
      split at ho
      · simp at ho; omega
      · simp at ho; omega
  exact ⟨by omega, h6, by omega, by omega, by omega, hi, by omega, by omega⟩
theorem nameM_len {b : List Nat} (h : nameM (b.length, codeN b 0) = true) : b.length ≤ 16 := by
  unfold nameM at h
  simp at h
  exact h.1.2
def bytesB (b : List Nat) : Bool := b.all fun x => decide (x < 256)
/-- valid code, its names bytes, its numbers those of words -/
def V (c : CodeB) : Bool := bytesB c.name && c.params.all (fun p => bytesB p.1) && c.shared.all (fun p => bytesB p.1) && c.insns.all (fun x => decide (-2147483648 ≤ x.imm ∧ x.imm ≤ 2147483647)) && c.toP.validM
theorem bytesB_iff {b : List Nat} : bytesB b = true ↔ ∀ x ∈ b, x < 256 := by simp [bytesB]
theorem V_fine {c : CodeB} (h : V c = true) : CodeFine c := by
  unfold V at h
  simp only [Bool.and_eq_true, List.all_eq_true, decide_eq_true_eq, bytesB_iff] at h
  obtain ⟨⟨⟨⟨hb, hp⟩, hs⟩, hi⟩, hv⟩ := h
  unfold CodeP.validM CodeP.headM CodeP.headsM CodeP.refHeadM at hv
  simp only [Bool.and_eq_true, decide_eq_true_eq, List.all_eq_true] at hv
  obtain ⟨⟨⟨⟨⟨⟨⟨⟨⟨h1, h2⟩, h3⟩, h4⟩, h5⟩, _⟩, h6⟩, h7⟩, _⟩, h8⟩ := hv
  simp only [CodeB.toP, List.length_map] at h2 h3 h6 h7
  refine ⟨⟨nameM_len h1, hb⟩, h2, fun p hpm => ⟨?_, hp p hpm⟩, h3, fun p hpm => ?_, by omega, h7.2, fun x hx => insnM_fine (h8 x hx) h7 (hi x hx)⟩
  · have := h4 _ (List.mem_map.2 ⟨p, hpm, rfl⟩)
    exact nameM_len this
  · have := h5 _ (List.mem_map.2 ⟨p, hpm, rfl⟩)
    unfold arrayOk at this
    simp only [Bool.and_eq_true, decide_eq_true_eq] at this
    exact ⟨⟨nameM_len this.1.1, hs p hpm⟩, by omega⟩
theorem V_fair {c : CodeB} (f : CodeFair c) : V c = c.toP.validM := by
  have e1 : bytesB c.name = true := bytesB_iff.2 f.name.2
  have e2 : c.params.all (fun p => bytesB p.1) = true := List.all_eq_true.2 fun p hp => bytesB_iff.2 (f.pname p hp).2
  have e3 : c.shared.all (fun p => bytesB p.1) = true := List.all_eq_true.2 fun p hp => bytesB_iff.2 (f.sname p hp).1.2
  have e4 : c.insns.all (fun x => decide (-2147483648 ≤ x.imm ∧ x.imm ≤ 2147483647)) = true := List.all_eq_true.2 fun x hx => decide_eq_true (f.each x hx)
  unfold V
  rw [e1, e2, e3, e4]; rfl
/-! ## What was read is fair -/
def Bounded (rd : Nat → S → Nat × S) : Prop := ∀ lim s, (rd lim s).1 ≤ lim
theorem nextP_bounded : Bounded nextP := nextP_le
theorem wordR_bounded : Bounded wordR := by
  intro lim s
  obtain ⟨l, b⟩ := s
  cases l with
  | nil => cases b <;> exact Nat.zero_le _
  | cons w t =>
    cases b with
    | true => exact Nat.zero_le _
    | false =>
      unfold wordR
      simp only
      split
      · exact Nat.zero_le _
      · show w ≤ lim; omega
theorem nameL_len {rd : S → Nat × S} {n : Nat} : ∀ (k : Nat) (b : List Nat) (s : S), n - b.length = k → b.length ≤ n → (∀ x ∈ b, x < 256) → (nameL rd n b s).1.length ≤ n ∧ ∀ x ∈ (nameL rd n b s).1, x < 256 := by
  intro k
  induction k using Nat.strongRecOn with
  | _ k ih =>
    intro b s hk hb hx
    rw [nameL]
    split
    · rename_i hc
      have hl : (b ++ bytesOf (min 4 (n - b.length)) (rd s).1).length = b.length + min 4 (n - b.length) := by rw [List.length_append, bytesOf_length]
      refine ih (n - (b ++ bytesOf (min 4 (n - b.length)) (rd s).1).length) (by rw [hl]; omega) _ _ rfl (by rw [hl]; omega) ?_
      intro x h
      rcases List.mem_append.1 h with h | h
      · exact hx x h
      · exact bytesOf_lt _ _ x h
    · exact ⟨hb, hx⟩
theorem nameD_fine {rd : Nat → S → Nat × S} (hb : Bounded rd) (s : S) : NameFine (nameD rd s).1 := by
  have h1 := hb 16 s
  have h2 := nameL_len (rd := rd 4294967295) (n := (rd 16 s).1) _ [] (rd 16 s).2 rfl (Nat.zero_le _) (fun x h => by simp at h)
  exact ⟨Nat.le_trans h2.1 h1, h2.2⟩
theorem manyL_len {α : Type} {one : S → α × S} : ∀ (n : Nat) (s : S), (manyL one n s).1.length ≤ n
  | 0, s => Nat.le_refl _
  | n + 1, s => by
    rw [manyL]
    split
    · exact Nat.zero_le _
    · have := manyL_len (one := one) n (one s).2
      simp only [List.length_cons]; omega
theorem manyL_all {α : Type} {one : S → α × S} {p : α → Prop} (h : ∀ s, p (one s).1) : ∀ (n : Nat) (s : S), ∀ a ∈ (manyL one n s).1, p a
  | 0, s, a, ha => by simp [manyL] at ha
  | n + 1, s, a, ha => by
    rw [manyL] at ha
    split at ha
    · simp at ha
    · rcases List.mem_cons.1 ha with rfl | ha
      · exact h s
      · exact manyL_all h n _ a ha
theorem signed_range {n : Nat} (h : n ≤ 4294967295) : -2147483648 ≤ signed n ∧ signed n ≤ 2147483647 := by
  unfold signed
  split <;> omega
theorem codeD_fair {rd : Nat → S → Nat × S} (hb : Bounded rd) (l1 l2 : Nat) (s : S) : CodeFair (codeD rd l1 l2 s).1 := by
  refine ⟨nameD_fine hb s, ?_, ?_, ?_, ?_, hb 64 _, ?_, ?_⟩
  · exact Nat.le_trans (manyL_len _ _) (hb 6 _)
  · exact manyL_all (p := fun p : List Nat × Bool => NameFine p.1) (fun s => nameD_fine hb s) _ _
  · exact Nat.le_trans (manyL_len _ _) (hb 4 _)
  · exact manyL_all (p := fun p : List Nat × Nat => NameFine p.1 ∧ p.2 ≤ 64) (fun s => ⟨nameD_fine hb s, hb 64 _⟩) _ _
  · exact Nat.le_trans (manyL_len _ _) (hb 2000 _)
  · exact manyL_all (p := fun x : InsnD => -2147483648 ≤ x.imm ∧ x.imm ≤ 2147483647) (fun s => signed_range (hb 4294967295 _)) _ _
end Em
end Go.HL
namespace Go.HL
open Go Go.Proofs
namespace Em
set_option maxRecDepth 10000
set_option maxHeartbeats 4000000
variable {K : CallFn} {base : List (Nat × HObj)}
theorem len_words (l : List Nat) : (l.map wcell).length = l.length := List.length_map ..
theorem refEncode_run (hK : KN base K) (c : CodeB) (pv sv iv : HVal) (h : Heap) (w : Wf h) (hc0 : CodeFair c) (hr : (codeRB c pv sv iv).holds h) :
    Sp P K 10 [codeV c pv sv iv] h (Tr (fun v C' => V c = true ∧ (∃ x, v = .tuple [x, i64 0] ∧ C' = [wordsO x (wholeE c)]) ∨ V c = false ∧ v = .tuple [.nils, i64 1] ∧ C' = []) h) := by
  have hp := hr.1
  have hs := hr.2.1
  have hi := hr.2.2
  have lp := rd_len hp
  have ls := rd_len hs
  have li := rd_len hi
  have hV := V_fair hc0
  rw [validM_same] at hV
  refine Sp.start (m := 158456325033140378797835555839) (n := 146) w (hK.none 10 rfl rfl _ _) Tryz.func10 rfl rfl mask10 rfl rfl ?_
  repeat' (first
    | refine ToX.nrm_seq ?_
    | refine WCX.seq ?_
    | (refine WCX.region (id := 0) ?_; (iterate 3 (refine .cons (q hX rfl ?_))) <;> (refine .nil (.intro rfl ?_)))
    | (refine WCX.region (id := 1) ?_; ((refine .cons (q hX rfl ?_))) <;> ((refine .cons (qcallB rfl rfl rfl rfl ca14 rfl rfl (fun h f => refValid_run hK c.toP pv sv iv h f.wf hc0.ok (f.ro (.of (codeRB_P hr)))) ?_ ?_)) <;> intro _) <;> ((refine .cons (q hX rfl ?_))) <;> (refine .nil (.intro rfl ?_)))
    | (refine WCX.region (id := 2) ?_; (iterate 2 (refine .cons (q hX rfl ?_))) <;> (refine .nil (.intro rfl ?_)))
    | refine WCX.ret ?_
    | refine ToX.ret_seq ?_
    | refine WCX.cond_true rfl ?_
    | refine WCX.cond_false rfl ?_
    | refine WCX.skip ?_
    | refine ToX.fn_ret hX rfl ?_)
  rotate_left
  · exact fun h f => ⟨[], f.chg, .inr ⟨by simp_all, rfl, rfl⟩⟩
  have hVt : V c = true := by simp_all
  have hc := V_fine hVt
  have b1 := hc.params
  have b2 := hc.shared
  have b3 := hc.insns
  have b4 := hc.local
  have bn := nameE_len hc.name
  have e0 := len_words
  repeat' (first
    | refine ToX.nrm_seq ?_
    | refine WCX.seq ?_
    | (refine WCX.region (id := 3) ?_; (iterate 2 (refine .cons (q hX rfl ?_))) <;> ((refine .cons (qcall rfl rfl rfl rfl ca29 rfl rfl (fun h f => refName12_run hK c.name h f.wf hc.name) ?_)) <;> (rintro v C' ⟨rfl, hnr⟩)) <;> ((refine .cons (q hX rfl ?_))) <;> (refine .nil (.intro rfl ?_)))
    | (refine WCX.region (id := 4) ?_; (iterate 3 (refine .cons (q hX rfl ?_))) <;> ((refine .cons (ql hX rfl rfl rfl rfl rfl rfl (by assumption) rfl rfl ?_))) <;> ((refine .cons (qw hX rfl rfl rfl rfl (wrapF_u32_nat (by omega)) rfl rfl ?_))) <;> ((refine .cons (q hX rfl ?_))) <;> ((refine .cons (qapp hX rfl rfl rfl rfl rfl rfl rfl rfl rfl rfl rfl rfl b42 rfl rfl rfl rfl rfl (by first | exact .h | exact .t .h | exact .t (.t .h) | exact .t (.t (.t .h))) rfl (by rw [e0]; omega) rfl rfl ?_)) <;> intro kp) <;> ((refine .cons (q hX rfl ?_))) <;> (refine .nil (.intro rfl ?_)))
    | (refine WCX.region (id := 5) ?_; ((refine .cons (q hX rfl ?_))) <;> (refine .nil (.intro rfl ?_)))
    | refine WCX.block ?_)
  refine WCX.loop (ι := Nat × List Nat × HVal) (fun a => [(5, .ext (i64 a.1)), (4, .ext a.2.2), (3, .ext (i64 0)), (1, .ptr 0 0)]) (fun _ => [.own [strB c.name, pv, sv, i64 c.local, iv] 26 false]) (fun a => [wordsO a.2.2 a.2.1]) (fun a => a.1 ≤ c.params.length ∧ a.2.1 = nameE c.name ++ [c.params.length] ++ (c.params.take a.1).flatMap paramE ∧ a.2.1.length ≤ 100 + 30 * a.1) (fun a => c.params.length - a.1) (0, nameE c.name ++ [c.params.length], _) ⟨⟨rfl, rfl, rfl, rfl, trivial⟩, ⟨_, rfl⟩, ⟨_, .cons (.he (by simp only [wordsO, List.map_append]; rfl)) .nil⟩⟩ ⟨Nat.zero_le _, by simp, by simp; omega⟩ (fun _ => rfl) (fun _ => rfl) (fun _ => rfl) ?_
  rintro ⟨i, acc, v2⟩ ⟨hi2, hacc, hal⟩ next
  simp only at hi2 hacc hal next ⊢
  have hnm : i < c.params.length → NameFine (c.params.getD i noPB).1 := fun hlt => hc.pname _ (getD_mem _ hlt)
  have hnl : i < c.params.length → (nameE (c.params.getD i noPB).1).length ≤ 17 := fun hlt => nameE_len (hnm hlt)
  repeat' (first
    | refine ToX.nrm_seq ?_
    | refine WCX.seq ?_
    | (refine WCX.region (id := 6) ?_; (iterate 3 (refine .cons (q hX rfl ?_))) <;> ((refine .cons (ql hX rfl rfl rfl rfl rfl rfl (by assumption) rfl rfl ?_))) <;> ((refine .cons (qc rfl ?_ ?_)) <;> intro _) <;> (refine .nil (.intro rfl ?_)))
    | (refine WCX.region (id := 8) ?_; (iterate 4 (refine .cons (q hX rfl ?_))) <;> ((refine .cons (qidx hX rfl rfl rfl rfl rfl (.of hp) (row_i noPB (by omega)) rfl rfl rfl ?_))) <;> (iterate 2 (refine .cons (q hX rfl ?_))) <;> ((refine .cons (qcall rfl rfl rfl rfl ca29 rfl rfl (fun h f => refName12_run hK (c.params.getD i noPB).1 h f.wf (hnm (by omega))) ?_)) <;> (rintro v C' ⟨rfl, hnr⟩)) <;> ((refine .cons (qappS hX rfl rfl rfl rfl rfl rfl rfl rfl rfl rfl rfl rfl b42 rfl rfl rfl (by first | exact .h | exact .t .h | exact .t (.t .h) | exact .t (.t (.t .h))) (by first | exact .h | exact .t .h | exact .t (.t .h) | exact .t (.t (.t .h))) (by simp [nameE]) hnr rfl (by rw [e0, e0]; omega) rfl rfl ?_)) <;> intro kp) <;> ((refine .cons (q hX rfl ?_))) <;> (refine .nil (.intro rfl ?_)))
    | (refine WCX.region (id := 9) ?_; (iterate 3 (refine .cons (q hX rfl ?_))) <;> ((refine .cons (qidx hX rfl rfl rfl rfl rfl (.of hp) (row_i noPB (by omega)) rfl rfl rfl ?_))) <;> ((refine .cons (q hX rfl ?_))) <;> ((refine .cons (qb hX rfl ?_ ?_)) <;> (intro hbl; (first | (cases hbl; done) | skip))) <;> (refine .nil (.intro rfl ?_)))
    | (refine WCX.region (id := 10) ?_; (iterate 2 (refine .cons (q hX rfl ?_))) <;> ((refine .cons (qapp hX rfl rfl rfl rfl rfl rfl rfl rfl rfl rfl rfl rfl b42 rfl rfl rfl rfl rfl (by first | exact .h | exact .t .h | exact .t (.t .h) | exact .t (.t (.t .h))) rfl (by rw [List.length_append, e0, e0]; omega) rfl rfl ?_)) <;> intro kp) <;> ((refine .cons (q hX rfl ?_))) <;> (refine .nil (.intro rfl ?_)))
    | (refine WCX.region (id := 11) ?_; (iterate 2 (refine .cons (q hX rfl ?_))) <;> ((refine .cons (qapp hX rfl rfl rfl rfl rfl rfl rfl rfl rfl rfl rfl rfl b42 rfl rfl rfl rfl rfl (by first | exact .h | exact .t .h | exact .t (.t .h) | exact .t (.t (.t .h))) rfl (by rw [List.length_append, e0, e0]; omega) rfl rfl ?_)) <;> intro kp) <;> ((refine .cons (q hX rfl ?_))) <;> (refine .nil (.intro rfl ?_)))
    | (refine WCX.region (id := 7) ?_; ((refine .cons (q hX rfl ?_))) <;> ((refine .cons (qa rfl rfl rfl rfl rfl (wrapF_i64 (by first | omega | (simp only [Int.ofNat_eq_natCast]; omega)) (by first | omega | (simp only [Int.ofNat_eq_natCast]; omega))) rfl rfl ?_))) <;> ((refine .cons (q hX rfl ?_))) <;> (refine .nil (.intro rfl ?_)))
    | refine WCX.cond_true rfl ?_
    | refine WCX.cond_false rfl ?_
    | refine WCX.skip ?_
    | refine WCX.block ?_
    | refine WCX.exit ?_
    | refine ToX.exit_seq ?_
    | refine ToX.exit_block ?_
    | refine ToX.nrm_block ?_)
  · refine next (i + 1, acc ++ nameE (c.params.getD i noPB).1 ++ [1], _) _ _ _ (by simp only; omega) ⟨⟨rfl, rfl, rfl, rfl, trivial⟩, ⟨_, rfl⟩, ⟨_, .cons (.he (by simp only [wordsO, List.map_append]; rfl)) .nil⟩⟩ ⟨by simp only; omega, ?_, ?_⟩
    · simp only
      rw [hacc, flatMap_step (by omega) noPB]
      simp only [paramE, hbl, if_true, List.append_assoc]
    · have := hnl (by omega)
      simp only [List.length_append, List.length_cons, List.length_nil]; omega
  · refine next (i + 1, acc ++ nameE (c.params.getD i noPB).1 ++ [0], _) _ _ _ (by simp only; omega) ⟨⟨rfl, rfl, rfl, rfl, trivial⟩, ⟨_, rfl⟩, ⟨_, .cons (.he (by simp only [wordsO, List.map_append]; rfl)) .nil⟩⟩ ⟨by simp only; omega, ?_, ?_⟩
    · simp only
      rw [hacc, flatMap_step (by omega) noPB]
      simp only [paramE, hbl, List.append_assoc]; rfl
    · have := hnl (by omega)
      simp only [List.length_append, List.length_cons, List.length_nil]; omega
  clear next
  have hi3 : i = c.params.length := by omega
  subst hi3
  rw [List.take_length] at hacc
  have h17 : acc.length ≤ 280 := by omega
  repeat' (first
    | refine ToX.nrm_seq ?_
    | refine WCX.seq ?_
    | (refine WCX.region (id := 12) ?_; (iterate 3 (refine .cons (q hX rfl ?_))) <;> ((refine .cons (ql hX rfl rfl rfl rfl rfl rfl (by assumption) rfl rfl ?_))) <;> ((refine .cons (qw hX rfl rfl rfl rfl (wrapF_u32_nat (by omega)) rfl rfl ?_))) <;> ((refine .cons (q hX rfl ?_))) <;> ((refine .cons (qapp hX rfl rfl rfl rfl rfl rfl rfl rfl rfl rfl rfl rfl b42 rfl rfl rfl rfl rfl (by first | exact .h | exact .t .h | exact .t (.t .h) | exact .t (.t (.t .h))) rfl (by rw [e0]; omega) rfl rfl ?_)) <;> intro kp) <;> ((refine .cons (q hX rfl ?_))) <;> (refine .nil (.intro rfl ?_)))
    | (refine WCX.region (id := 13) ?_; ((refine .cons (q hX rfl ?_))) <;> (refine .nil (.intro rfl ?_)))
    | refine WCX.block ?_)
  refine WCX.loop (ι := Nat × List Nat × HVal) (fun a => [(6, .ext (i64 a.1)), (4, .ext a.2.2), (3, .ext (i64 0)), (1, .ptr 0 0)]) (fun _ => [.own [strB c.name, pv, sv, i64 c.local, iv] 26 false]) (fun a => [wordsO a.2.2 a.2.1]) (fun a => a.1 ≤ c.shared.length ∧ a.2.1 = acc ++ [c.shared.length] ++ (c.shared.take a.1).flatMap arrayE ∧ a.2.1.length ≤ 300 + 30 * a.1) (fun a => c.shared.length - a.1) (0, acc ++ [c.shared.length], _) ⟨⟨rfl, rfl, rfl, rfl, trivial⟩, ⟨_, rfl⟩, ⟨_, .cons (.he (by simp only [wordsO, List.map_append]; rfl)) .nil⟩⟩ ⟨Nat.zero_le _, by simp, by simp; omega⟩ (fun _ => rfl) (fun _ => rfl) (fun _ => rfl) ?_
  rintro ⟨i, acc2, v3⟩ ⟨hi2, hacc2, hal2⟩ next
  simp only at hi2 hacc2 hal2 next ⊢
  have hnm : i < c.shared.length → NameFine (c.shared.getD i noAB).1 ∧ (c.shared.getD i noAB).2 ≤ 64 := fun hlt => hc.sname _ (getD_mem _ hlt)
  have hnl : i < c.shared.length → (nameE (c.shared.getD i noAB).1).length ≤ 17 := fun hlt => nameE_len (hnm hlt).1
  repeat' (first
    | refine ToX.nrm_seq ?_
    | refine WCX.seq ?_
    | (refine WCX.region (id := 14) ?_; (iterate 3 (refine .cons (q hX rfl ?_))) <;> ((refine .cons (ql hX rfl rfl rfl rfl rfl rfl (by assumption) rfl rfl ?_))) <;> ((refine .cons (qc rfl ?_ ?_)) <;> intro _) <;> (refine .nil (.intro rfl ?_)))
    | (refine WCX.draw (id := 16) tab [0, 1, 2, 3, 4, 5, 6, 9, 10, 11, 12, 13, 14, 15, 16, 7, 8, 17, 18] #[0, 0, 2, 0, 14, 30, 62, 126, 255, 0, 512, 0, 3584, 7680, 15872, 32256, 65024, 131071, 262143] (by kernel_rfl) (by kernel_rfl) (by kernel_rfl) ?_; (iterate 2 ((refine .cons rfl (q hX rfl ?_)) <;> refine ⟨_, .comp rfl, ?_⟩)) <;> ((refine .cons rfl (q hX rfl ?_)) <;> first | refine ⟨_, .rdB hX.tab rfl rfl rfl rfl rfl rfl rfl rfl (sureV_beq rfl) rfl rfl rfl, ?_⟩ | refine ⟨_, .rdB hX.tab rfl rfl rfl rfl rfl rfl rfl rfl (beq_len (by assumption)) rfl rfl rfl, ?_⟩ | refine ⟨_, .rdS hX.tab rfl rfl rfl rfl rfl rfl rfl rfl (sureV_beq rfl) rfl rfl rfl, ?_⟩ | refine ⟨_, .rdS hX.tab rfl rfl rfl rfl rfl rfl rfl rfl (beq_len (by assumption)) rfl rfl rfl, ?_⟩ | refine ⟨_, .comp rfl, ?_⟩) <;> ((refine .cons rfl (q hX rfl ?_)) <;> refine ⟨_, .comp rfl, ?_⟩) <;> ((refine .cons rfl (qidx hX rfl rfl rfl rfl rfl (.of hs) (row_i noAB (by omega)) rfl rfl rfl ?_)) <;> refine ⟨_, .comp rfl, ?_⟩) <;> ((refine .cons rfl (q hX rfl ?_)) <;> refine ⟨_, .comp rfl, ?_⟩) <;> ((refine .cons rfl (q hX rfl ?_)) <;> first | refine ⟨_, .rdB hX.tab rfl rfl rfl rfl rfl rfl rfl rfl (sureV_beq rfl) rfl rfl rfl, ?_⟩ | refine ⟨_, .rdB hX.tab rfl rfl rfl rfl rfl rfl rfl rfl (beq_len (by assumption)) rfl rfl rfl, ?_⟩ | refine ⟨_, .rdS hX.tab rfl rfl rfl rfl rfl rfl rfl rfl (sureV_beq rfl) rfl rfl rfl, ?_⟩ | refine ⟨_, .rdS hX.tab rfl rfl rfl rfl rfl rfl rfl rfl (beq_len (by assumption)) rfl rfl rfl, ?_⟩ | refine ⟨_, .comp rfl, ?_⟩) <;> ((refine .cons rfl (q hX rfl ?_)) <;> refine ⟨_, .comp rfl, ?_⟩) <;> ((refine .cons rfl (q hX rfl ?_)) <;> first | refine ⟨_, .rdB hX.tab rfl rfl rfl rfl rfl rfl rfl rfl (sureV_beq rfl) rfl rfl rfl, ?_⟩ | refine ⟨_, .rdB hX.tab rfl rfl rfl rfl rfl rfl rfl rfl (beq_len (by assumption)) rfl rfl rfl, ?_⟩ | refine ⟨_, .rdS hX.tab rfl rfl rfl rfl rfl rfl rfl rfl (sureV_beq rfl) rfl rfl rfl, ?_⟩ | refine ⟨_, .rdS hX.tab rfl rfl rfl rfl rfl rfl rfl rfl (beq_len (by assumption)) rfl rfl rfl, ?_⟩ | refine ⟨_, .comp rfl, ?_⟩) <;> ((refine .cons rfl (q hX rfl ?_)) <;> refine ⟨_, .comp rfl, ?_⟩) <;> ((refine .cons rfl (qidx hX rfl rfl rfl rfl rfl (.of hs) (row_i noAB (by omega)) rfl rfl rfl ?_)) <;> refine ⟨_, .comp rfl, ?_⟩) <;> ((refine .cons rfl (q hX rfl ?_)) <;> refine ⟨_, .comp rfl, ?_⟩) <;> ((refine .cons rfl (q hX rfl ?_)) <;> first | refine ⟨_, .rdB hX.tab rfl rfl rfl rfl rfl rfl rfl rfl (sureV_beq rfl) rfl rfl rfl, ?_⟩ | refine ⟨_, .rdB hX.tab rfl rfl rfl rfl rfl rfl rfl rfl (beq_len (by assumption)) rfl rfl rfl, ?_⟩ | refine ⟨_, .rdS hX.tab rfl rfl rfl rfl rfl rfl rfl rfl (sureV_beq rfl) rfl rfl rfl, ?_⟩ | refine ⟨_, .rdS hX.tab rfl rfl rfl rfl rfl rfl rfl rfl (beq_len (by assumption)) rfl rfl rfl, ?_⟩ | refine ⟨_, .comp rfl, ?_⟩) <;> ((refine .cons rfl (qw hX rfl rfl rfl rfl (wrapF_u32_nat (by omega)) rfl rfl ?_)) <;> refine ⟨_, .comp rfl, ?_⟩) <;> ((refine .cons rfl (q hX rfl ?_)) <;> refine ⟨_, .comp rfl, ?_⟩) <;> ((refine .cons rfl (qcall rfl rfl rfl rfl ca29 rfl rfl (fun h f => refName12_run hK (c.shared.getD i noAB).1 h f.wf (hnm (by omega)).1) ?_)) <;> (rintro v C' ⟨rfl, hnr⟩) <;> refine ⟨_, .comp rfl, ?_⟩) <;> ((refine .cons rfl (qappS hX rfl rfl rfl rfl rfl rfl rfl rfl rfl rfl rfl rfl b42 rfl rfl rfl (by first | exact .h | exact .t .h | exact .t (.t .h) | exact .t (.t (.t .h))) (by first | exact .h | exact .t .h | exact .t (.t .h) | exact .t (.t (.t .h))) (by simp [nameE]) hnr rfl (by rw [e0, e0]; omega) rfl rfl ?_)) <;> intro kp <;> refine ⟨_, .comp rfl, ?_⟩) <;> ((refine .cons rfl (qapp hX rfl rfl rfl rfl rfl rfl rfl rfl rfl rfl rfl rfl b42 rfl rfl rfl rfl rfl (by first | exact .h | exact .t .h | exact .t (.t .h) | exact .t (.t (.t .h))) rfl (by rw [List.length_append, e0, e0]; omega) rfl rfl ?_)) <;> intro kp <;> refine ⟨_, .comp rfl, ?_⟩) <;> ((refine .cons rfl (q hX rfl ?_)) <;> refine ⟨_, .comp rfl, ?_⟩) <;> (refine .nil ⟨?_, .intro rfl ?_⟩ <;> (repeat' (first | exact trivial | exact .inl rfl | exact .inr ⟨_, _, _, _, rfl, rfl, rfl⟩ | refine ⟨?_, ?_⟩))))
    | (refine WCX.region (id := 15) ?_; ((refine .cons (q hX rfl ?_))) <;> ((refine .cons (qa rfl rfl rfl rfl rfl (wrapF_i64 (by first | omega | (simp only [Int.ofNat_eq_natCast]; omega)) (by first | omega | (simp only [Int.ofNat_eq_natCast]; omega))) rfl rfl ?_))) <;> ((refine .cons (q hX rfl ?_))) <;> (refine .nil (.intro rfl ?_)))
    | refine WCX.cond_true rfl ?_
    | refine WCX.cond_false rfl ?_
    | refine WCX.skip ?_
    | refine WCX.block ?_
    | refine WCX.exit ?_
    | refine ToX.exit_seq ?_
    | refine ToX.exit_block ?_
    | refine ToX.nrm_block ?_)
  · refine next (i + 1, acc2 ++ nameE (c.shared.getD i noAB).1 ++ [(c.shared.getD i noAB).2], _) _ _ _ (by simp only; omega) ⟨⟨rfl, rfl, rfl, rfl, trivial⟩, ⟨_, rfl⟩, ⟨_, .cons (.he (by simp only [wordsO, List.map_append]; rfl)) .nil⟩⟩ ⟨by simp only; omega, ?_, ?_⟩
    · simp only
      rw [hacc2, flatMap_step (by omega) noAB]
      simp only [arrayE, List.append_assoc]
    · have := hnl (by omega)
      simp only [List.length_append, List.length_cons, List.length_nil]; omega
  clear next
  have hi3 : i = c.shared.length := by omega
  subst hi3
  rw [List.take_length] at hacc2
  have h18 : acc2.length ≤ 420 := by omega
  repeat' (first
    | refine ToX.nrm_seq ?_
    | refine WCX.seq ?_
    | (refine WCX.region (id := 17) ?_; (iterate 3 (refine .cons (q hX rfl ?_))) <;> ((refine .cons (qw hX rfl rfl rfl rfl (wrapF_u32_nat (by omega)) rfl rfl ?_))) <;> (iterate 2 (refine .cons (q hX rfl ?_))) <;> ((refine .cons (ql hX rfl rfl rfl rfl rfl rfl (by assumption) rfl rfl ?_))) <;> ((refine .cons (qw hX rfl rfl rfl rfl (wrapF_u32_nat (by omega)) rfl rfl ?_))) <;> ((refine .cons (q hX rfl ?_))) <;> ((refine .cons (qappN [[.int .u32 c.local], [.int .u32 c.insns.length]] hX rfl rfl rfl rfl rfl rfl rfl rfl rfl rfl rfl rfl b42 rfl rfl rfl rfl rfl (by simp) rfl (by decide) (by first | exact .h | exact .t .h | exact .t (.t .h) | exact .t (.t (.t .h))) rfl (by rw [e0]; simp; omega) rfl rfl ?_)) <;> intro kp) <;> ((refine .cons (q hX rfl ?_))) <;> (refine .nil (.intro rfl ?_)))
    | (refine WCX.region (id := 18) ?_; ((refine .cons (q hX rfl ?_))) <;> (refine .nil (.intro rfl ?_)))
    | refine WCX.block ?_)
  refine WCX.loop (ι := Nat × List Nat × HVal) (fun a => [(7, .ext (i64 a.1)), (4, .ext a.2.2), (3, .ext (i64 0)), (1, .ptr 0 0)]) (fun _ => [.own [strB c.name, pv, sv, i64 c.local, iv] 26 false]) (fun a => [wordsO a.2.2 a.2.1]) (fun a => a.1 ≤ c.insns.length ∧ a.2.1 = acc2 ++ [c.local, c.insns.length] ++ (c.insns.take a.1).flatMap insnE ∧ a.2.1.length ≤ 500 + 6 * a.1 ∧ ∀ k, a.2.2 ≠ .rest k) (fun a => c.insns.length - a.1) (0, acc2 ++ [c.local, c.insns.length], _) ⟨⟨rfl, rfl, rfl, rfl, trivial⟩, ⟨_, rfl⟩, ⟨_, .cons (.he (by simp only [wordsO, List.map_append]; rfl)) .nil⟩⟩ ⟨Nat.zero_le _, by simp, by simp; omega, by simp⟩ (fun _ => rfl) (fun _ => rfl) (fun _ => rfl) ?_
  rintro ⟨i, acc3, v3⟩ ⟨hi2, hacc3, hal3, hnr3⟩ next
  simp only at hi2 hacc3 hal3 hnr3 next ⊢
  have hx : i < c.insns.length → InsnFine (c.insns.getD i noInsn) := fun hlt => hc.each _ (getD_mem _ hlt)
  have hk1 : i < c.insns.length → 0 ≤ (c.insns.getD i noInsn).kind ∧ (c.insns.getD i noInsn).kind < 256 := fun hlt => (hx hlt).kind
  have hk2 : i < c.insns.length → 0 ≤ (c.insns.getD i noInsn).op ∧ (c.insns.getD i noInsn).op < 256 := fun hlt => (hx hlt).op
  have hk3 : i < c.insns.length → 0 ≤ (c.insns.getD i noInsn).d ∧ (c.insns.getD i noInsn).d < 256 := fun hlt => (hx hlt).d
  have hk4 : i < c.insns.length → 0 ≤ (c.insns.getD i noInsn).a ∧ (c.insns.getD i noInsn).a < 256 := fun hlt => (hx hlt).a
  have hk5 : i < c.insns.length → 0 ≤ (c.insns.getD i noInsn).b ∧ (c.insns.getD i noInsn).b < 256 := fun hlt => (hx hlt).b
  repeat' (first
    | refine ToX.nrm_seq ?_
    | refine WCX.seq ?_
    | (refine WCX.region (id := 19) ?_; (iterate 3 (refine .cons (q hX rfl ?_))) <;> ((refine .cons (ql hX rfl rfl rfl rfl rfl rfl (by assumption) rfl rfl ?_))) <;> ((refine .cons (qc rfl ?_ ?_)) <;> intro _) <;> (refine .nil (.intro rfl ?_)))
    | (refine WCX.region (id := 21) ?_; (iterate 3 (refine .cons (q hX rfl ?_))) <;> ((refine .cons (qidx hX rfl rfl rfl rfl rfl (.of hi) (row_i noInsn (by omega)) rfl rfl rfl ?_))) <;> (iterate 3 (refine .cons (q hX rfl ?_))) <;> (refine .nil (.intro rfl ?_)))
    | (refine WCX.region (id := 22) ?_; (iterate 5 (refine .cons (q hX rfl ?_))) <;> ((refine .cons (qa rfl rfl rfl rfl rfl (wrapF_i64 (by omega) (by omega)) rfl rfl ?_))) <;> ((refine .cons (qa rfl rfl rfl rfl rfl (wrapF_i64 (by omega) (by omega)) rfl rfl ?_))) <;> ((refine .cons (qw hX rfl rfl rfl rfl (wrap_wordI _) rfl rfl ?_))) <;> (iterate 4 (refine .cons (q hX rfl ?_))) <;> ((refine .cons (qa rfl rfl rfl rfl rfl (wrapF_i64 (by omega) (by omega)) rfl rfl ?_))) <;> ((refine .cons (qa rfl rfl rfl rfl rfl (wrapF_i64 (by omega) (by omega)) rfl rfl ?_))) <;> (iterate 2 (refine .cons (q hX rfl ?_))) <;> ((refine .cons (qa rfl rfl rfl rfl rfl (wrapF_i64 (by omega) (by omega)) rfl rfl ?_))) <;> ((refine .cons (qa rfl rfl rfl rfl rfl (wrapF_i64 (by omega) (by omega)) rfl rfl ?_))) <;> ((refine .cons (qw hX rfl rfl rfl rfl (wrap_wordI _) rfl rfl ?_))) <;> (iterate 2 (refine .cons (q hX rfl ?_))) <;> ((refine .cons (qw hX rfl rfl rfl rfl (wrap_wordI _) rfl rfl ?_))) <;> (iterate 2 (refine .cons (q hX rfl ?_))) <;> ((refine .cons (qw hX rfl rfl rfl rfl (wrap_wordI _) rfl rfl ?_))) <;> (iterate 2 (refine .cons (q hX rfl ?_))) <;> ((refine .cons (qw hX rfl rfl rfl rfl (wrap_wordI _) rfl rfl ?_))) <;> ((refine .cons (q hX rfl ?_))) <;> ((refine .cons (qappN [[.int .u32 (wordI _)], [.int .u32 (wordI _)], [.int .u32 (wordI _)], [.int .u32 (wordI _)], [.int .u32 (wordI _)], [.int .u32 0]] hX rfl rfl rfl rfl rfl rfl rfl rfl rfl rfl rfl rfl b42 rfl rfl rfl rfl rfl (by simp) rfl (by decide) (by first | exact .h | exact .t .h | exact .t (.t .h) | exact .t (.t (.t .h))) rfl (by rw [e0]; simp; omega) rfl rfl ?_)) <;> intro kp) <;> ((refine .cons (q hX rfl ?_))) <;> (refine .nil (.intro rfl ?_)))
    | (refine WCX.region (id := 20) ?_; ((refine .cons (q hX rfl ?_))) <;> ((refine .cons (qa rfl rfl rfl rfl rfl (wrapF_i64 (by omega) (by omega)) rfl rfl ?_))) <;> ((refine .cons (q hX rfl ?_))) <;> (refine .nil (.intro rfl ?_)))
    | refine WCX.cond_true rfl ?_
    | refine WCX.cond_false rfl ?_
    | refine WCX.skip ?_
    | refine WCX.block ?_
    | refine WCX.exit ?_
    | refine ToX.exit_seq ?_
    | refine ToX.exit_block ?_
    | refine ToX.nrm_block ?_)
  · refine next (i + 1, acc3 ++ insnE (c.insns.getD i noInsn), _) _ _ _ (by simp only; omega) ⟨⟨rfl, rfl, rfl, rfl, trivial⟩, ⟨_, rfl⟩, ⟨_, .cons (.he ?_) .nil⟩⟩ ⟨by simp only; omega, ?_, ?_, by simp⟩
    · have h1 := hk1 (by omega)
      have h2 := hk2 (by omega)
      have h3 := hk3 (by omega)
      have h4 := hk4 (by omega)
      have h5 := hk5 (by omega)
      have h6 := (hx (by omega)).to
      have h7 := (hx (by omega)).join
      simp only [wordsO, List.map_append, insnE]
      congr 2
      simp only [List.map_cons, List.map_nil, wcell]
      have e1 : wordI ((c.insns.getD i noInsn).kind + 256 * (c.insns.getD i noInsn).op) = ((c.insns.getD i noInsn).kind + 256 * (c.insns.getD i noInsn).op).toNat := by unfold wordI; omega
      have e2 : wordI ((c.insns.getD i noInsn).d + 256 * (c.insns.getD i noInsn).a + 65536 * (c.insns.getD i noInsn).b) = ((c.insns.getD i noInsn).d + 256 * (c.insns.getD i noInsn).a + 65536 * (c.insns.getD i noInsn).b).toNat := by unfold wordI; omega
      have e3 : wordI (c.insns.getD i noInsn).to = (c.insns.getD i noInsn).to.toNat := by unfold wordI; omega
      have e4 : wordI (c.insns.getD i noInsn).join = (c.insns.getD i noInsn).join.toNat := by unfold wordI; omega
      rw [e1, e2, e3, e4]
      rfl
    · simp only
      rw [hacc3, flatMap_step (by omega) noInsn, List.append_assoc]
    · simp only [List.length_append]
      have : (insnE (c.insns.getD i noInsn)).length = 6 := rfl
      omega
  clear next
  have hi3 : i = c.insns.length := by omega
  subst hi3
  rw [List.take_length] at hacc3
  have hform : openE c = 65585 :: acc3.length :: acc3 := by
    rw [openE, show codeE c = acc3 by rw [hacc3, hacc2, hacc]; simp [codeE, List.append_assoc]]
  have hop : [65585, acc3.length].map wcell ++ acc3.map wcell = (openE c).map wcell := by rw [hform]; rfl
  have hopw : ∀ x ∈ openE c, x < 4294967296 := by
    intro x hx
    rw [hform] at hx
    rcases List.mem_cons.1 hx with rfl | hx
    · decide
    · rcases List.mem_cons.1 hx with rfl | hx
      · omega
      · exact codeE_lt hc x (by rw [show codeE c = acc3 by rw [hacc3, hacc2, hacc]; simp [codeE, List.append_assoc]]; exact hx)
  have hp0 : 0 < acc3.length := by rw [hacc3, hacc2]; simp only [List.length_append, List.length_cons]; omega
  have hol : (openE c).length = acc3.length + 2 := by rw [hform]; rfl
  refine WCX.fact (p := lenV v3 = some acc3.length) (fun h f => by have := (ownS.rd (f.pick .h)).slice.len; simpa using this) fun hl3 => ?_
  repeat' (first
    | refine ToX.nrm_seq ?_
    | refine WCX.seq ?_
    | (refine WCX.region (id := 23) ?_; ((refine .cons (q hX rfl ?_))) <;> ((refine .cons (ql hX rfl rfl rfl rfl rfl rfl (by assumption) rfl rfl ?_))) <;> ((refine .cons (qw hX rfl rfl rfl rfl (wrapF_u32_nat (by omega)) rfl rfl ?_))) <;> (iterate 2 (refine .cons (q hX rfl ?_))) <;> (((refine WOX.leak 1 (fun k => wordsO (.slice k 0 2 (some 2)) [65585, acc3.length]) rfl (fun k => .own rfl (by simp [wcell]) rfl) (fun _ => rfl) rfl fun k0 => ?_); (refine .cons (qappS hX rfl rfl rfl rfl rfl rfl rfl rfl rfl rfl rfl rfl b42 rfl rfl rfl (by first | exact .h | exact .t .h) (by first | exact .h | exact .t .h) (by simp; exact hp0) hnr3 rfl (by simp [wcell]; omega) rfl rfl ?_)); intro kp)) <;> ((refine .cons (q hX rfl ?_))) <;> (refine .nil (.intro rfl ?_)))
    | (refine WCX.region (id := 24) ?_; (iterate 2 (refine .cons (q hX rfl ?_))) <;> ((refine .cons (qcallV rfl rfl rfl rfl ca30 rfl rfl (fun h f => sum_run hK _ (openE c) h f.wf (by rw [← hop]; exact ownS.rd (f.pick .h)) (by omega) hopw) ?_))) <;> ((refine .cons (q hX rfl ?_))) <;> ((refine .cons (qapp hX rfl rfl rfl rfl rfl rfl rfl rfl rfl rfl rfl rfl b42 rfl rfl rfl rfl rfl (by first | exact .h | exact .t .h | exact .t (.t .h) | exact .t (.t (.t .h))) rfl (by simp; omega) rfl rfl ?_)) <;> intro kp) <;> (iterate 2 (refine .cons (q hX rfl ?_))) <;> (refine .nil (.intro rfl ?_)))
    | refine WCX.ret ?_
    | refine ToX.fn_ret hX rfl ?_)
  refine fun h f => ⟨_, f.chg.picks (.cons (.he ?_) .nil), .inl ⟨hVt, _, rfl, rfl⟩⟩
  have e1 := hop
  rw [show List.map wcell [65585, acc3.length] ++ List.map wcell acc3 = (openE c).map wcell from hop]
  exact ownS_snoc (x := sumOf (openE c)) rfl
end Em
end Go.HL
