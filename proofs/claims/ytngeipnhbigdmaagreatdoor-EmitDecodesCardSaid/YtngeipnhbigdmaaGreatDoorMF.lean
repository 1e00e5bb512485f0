/- The walk: the program writes code. No statement of the seat stands here. -/
import Derived.Test.YtngeipnhbigdmaaGreatDoorME
set_option linter.unusedVariables false
set_option linter.unusedSimpArgs false
namespace Go.HL
open Go Go.Proofs
namespace Em
set_option maxRecDepth 10000
variable {K : CallFn} {base : List (Nat × HObj)}
/-- words of one's own -/
abbrev wordsO (v : HVal) (l : List Nat) : Part := ownS 42 1 v (l.map wcell)
/-- a slice that was appended to -/
def Fresh (v : HVal) : Prop := ∃ k n, v = .slice k 0 n none
/-- a number as a word -/
def wordI (n : Int) : Nat := (n % 4294967296).toNat
theorem wrap_wordI (n : Int) : wrapF .u32 n = (wordI n : Int) := by rw [wrapF_u32, wordI]; omega
abbrev icells (n : Int) : List HVal := [.int .i64 n]
abbrev jcells (n : Int) : List HVal := [.int .i32 n]
theorem add_run (hK : KN base K) (v nv : HVal) (l : List Nat) (ns : List Int) (h : Heap) (w : Wf h) (hg : (wordsO v l).holds h) (ro : Ro [wordsO v l] h (rd nv 1 (ns.map icells))) (hb : l.length + ns.length ≤ 17592186044416) :
    Sp P K 65 [v, nv] h (TrG (wordsO v l) (fun x C' => C' = [wordsO x (l ++ ns.map wordI)] ∧ (0 < ns.length → Fresh x)) h) := by
  have ll := rd_len ro.holds
  refine Sp.startG (m := 2003) (n := 20) w hg (hK.none 65 rfl rfl _ _) Tryz.func65 rfl rfl mask65 rfl rfl ?_
  repeat' (first
    | refine ToX.nrm_seq ?_
    | refine WCX.seq ?_
    | (refine WCX.region (id := 0) ?_; ((refine .cons (q hX rfl ?_))) <;> (refine .nil (.intro rfl ?_)))
    | (refine WCX.region (id := 1) ?_; ((refine .cons (q hX rfl ?_))) <;> ((refine .cons (ql hX rfl rfl rfl rfl rfl rfl (by assumption) rfl rfl ?_))) <;> ((refine .cons (q hX rfl ?_))) <;> (refine .nil (.intro rfl ?_)))
    | refine WCX.block ?_)
  refine WCX.loop (ι := Nat × HVal) (fun a => [(9, .ext (i64 a.1)), (8, .ext (i64 ns.length)), (7, .ext nv), (0, .ext a.2)]) (fun _ => []) (fun a => [wordsO a.2 (l ++ (ns.take a.1).map wordI)]) (fun a => a.1 ≤ ns.length ∧ (0 < a.1 → Fresh a.2)) (fun a => ns.length - a.1) (0, v) ⟨⟨rfl, rfl, rfl, rfl, trivial⟩, ⟨_, rfl⟩, ⟨_, by simp only [List.take_zero, List.map_nil, List.append_nil]; exact .cons .h .nil⟩⟩ ⟨Nat.zero_le _, fun h => absurd h (by simp)⟩ (fun _ => rfl) (fun _ => rfl) (fun _ => rfl) ?_
  rintro ⟨i, v2⟩ ⟨hi, hfr⟩ next
  simp only at hi hfr next ⊢
  repeat' (first
    | refine ToX.nrm_seq ?_
    | refine WCX.seq ?_
    | (refine WCX.region (id := 2) ?_; ((refine .cons (qc rfl ?_ ?_)) <;> intro _) <;> (refine .nil (.intro rfl ?_)))
    | (refine WCX.region (id := 3) ?_; ((refine .cons (qidx hX rfl rfl rfl rfl rfl ro (row_i (0 : Int) (by omega)) rfl rfl rfl ?_))) <;> (iterate 2 (refine .cons (q hX rfl ?_))) <;> (refine .nil (.intro rfl ?_)))
    | (refine WCX.region (id := 4) ?_; (iterate 2 (refine .cons (q hX rfl ?_))) <;> ((refine .cons (qw hX rfl rfl rfl rfl (wrap_wordI _) rfl rfl ?_))) <;> ((refine .cons (q hX rfl ?_))) <;> ((refine .cons (qapp hX rfl rfl rfl rfl rfl rfl rfl rfl rfl rfl rfl rfl b42 rfl rfl rfl rfl rfl (by first | exact .h | exact .t .h | exact .t (.t .h) | exact .t (.t (.t .h))) rfl (by simp only [List.length_map, List.length_append, List.length_take]; omega) rfl rfl ?_)) <;> intro kp) <;> ((refine .cons (q hX rfl ?_))) <;> (refine .nil (.intro rfl ?_)))
    | (refine WCX.region (id := 5) ?_; ((refine .cons (qa rfl rfl rfl rfl rfl (wrapF_i64 (by first | omega | (simp only [Int.ofNat_eq_natCast]; omega)) (by first | omega | (simp only [Int.ofNat_eq_natCast]; omega))) rfl rfl ?_))) <;> ((refine .cons (q hX rfl ?_))) <;> (refine .nil (.intro rfl ?_)))
    | (refine WCX.region (id := 6) ?_; (iterate 2 (refine .cons (q hX rfl ?_))) <;> (refine .nil (.intro rfl ?_)))
    | refine WCX.ret ?_
    | refine WCX.cond_true rfl ?_
    | refine WCX.cond_false rfl ?_
    | refine WCX.skip ?_
    | refine WCX.block ?_
    | refine WCX.exit ?_
    | refine ToX.exit_seq ?_
    | refine ToX.exit_block ?_
    | refine ToX.nrm_block ?_
    | refine ToX.fn_ret hX rfl ?_)
  · refine next (i + 1, _) _ _ _ (by simp only; omega) ⟨⟨rfl, rfl, rfl, rfl, trivial⟩, ⟨_, rfl⟩, ⟨_, .cons (.he (ownS_snoc (x := wordI (ns.getD i 0)) (by simp only; rw [take_succ (by omega) (0 : Int), List.map_append, ← List.append_assoc]; rfl))) .nil⟩⟩ ⟨by simp only; omega, fun _ => ⟨_, _, rfl⟩⟩
  · have hi2 : i = ns.length := by omega
    subst hi2
    exact fun h f => ⟨_, f.chg, by simp only [List.take_length]; rfl, hfr⟩
theorem add32_run (hK : KN base K) (v nv : HVal) (l : List Nat) (ns : List Int) (h : Heap) (w : Wf h) (hg : (wordsO v l).holds h) (ro : Ro [wordsO v l] h (rd nv 1 (ns.map jcells))) (hb : l.length + ns.length ≤ 17592186044416) :
    Sp P K 66 [v, nv] h (TrG (wordsO v l) (fun x C' => C' = [wordsO x (l ++ ns.map wordI)] ∧ (0 < ns.length → Fresh x)) h) := by
  have ll := rd_len ro.holds
  refine Sp.startG (m := 2003) (n := 20) w hg (hK.none 66 rfl rfl _ _) Tryz.func66 rfl rfl mask66 rfl rfl ?_
  repeat' (first
    | refine ToX.nrm_seq ?_
    | refine WCX.seq ?_
    | (refine WCX.region (id := 0) ?_; ((refine .cons (q hX rfl ?_))) <;> (refine .nil (.intro rfl ?_)))
    | (refine WCX.region (id := 1) ?_; ((refine .cons (q hX rfl ?_))) <;> ((refine .cons (ql hX rfl rfl rfl rfl rfl rfl (by assumption) rfl rfl ?_))) <;> ((refine .cons (q hX rfl ?_))) <;> (refine .nil (.intro rfl ?_)))
    | refine WCX.block ?_)
  refine WCX.loop (ι := Nat × HVal) (fun a => [(9, .ext (i64 a.1)), (8, .ext (i64 ns.length)), (7, .ext nv), (0, .ext a.2)]) (fun _ => []) (fun a => [wordsO a.2 (l ++ (ns.take a.1).map wordI)]) (fun a => a.1 ≤ ns.length ∧ (0 < a.1 → Fresh a.2)) (fun a => ns.length - a.1) (0, v) ⟨⟨rfl, rfl, rfl, rfl, trivial⟩, ⟨_, rfl⟩, ⟨_, by simp only [List.take_zero, List.map_nil, List.append_nil]; exact .cons .h .nil⟩⟩ ⟨Nat.zero_le _, fun h => absurd h (by simp)⟩ (fun _ => rfl) (fun _ => rfl) (fun _ => rfl) ?_
  rintro ⟨i, v2⟩ ⟨hi, hfr⟩ next
  simp only at hi hfr next ⊢
  repeat' (first
    | refine ToX.nrm_seq ?_
    | refine WCX.seq ?_
    | (refine WCX.region (id := 2) ?_; ((refine .cons (qc rfl ?_ ?_)) <;> intro _) <;> (refine .nil (.intro rfl ?_)))
    | (refine WCX.region (id := 3) ?_; ((refine .cons (qidx hX rfl rfl rfl rfl rfl ro (row_i (0 : Int) (by omega)) rfl rfl rfl ?_))) <;> (iterate 2 (refine .cons (q hX rfl ?_))) <;> (refine .nil (.intro rfl ?_)))
    | (refine WCX.region (id := 4) ?_; (iterate 2 (refine .cons (q hX rfl ?_))) <;> ((refine .cons (qw hX rfl rfl rfl rfl (wrap_wordI _) rfl rfl ?_))) <;> ((refine .cons (q hX rfl ?_))) <;> ((refine .cons (qapp hX rfl rfl rfl rfl rfl rfl rfl rfl rfl rfl rfl rfl b42 rfl rfl rfl rfl rfl (by first | exact .h | exact .t .h | exact .t (.t .h) | exact .t (.t (.t .h))) rfl (by simp only [List.length_map, List.length_append, List.length_take]; omega) rfl rfl ?_)) <;> intro kp) <;> ((refine .cons (q hX rfl ?_))) <;> (refine .nil (.intro rfl ?_)))
    | (refine WCX.region (id := 5) ?_; ((refine .cons (qa rfl rfl rfl rfl rfl (wrapF_i64 (by first | omega | (simp only [Int.ofNat_eq_natCast]; omega)) (by first | omega | (simp only [Int.ofNat_eq_natCast]; omega))) rfl rfl ?_))) <;> ((refine .cons (q hX rfl ?_))) <;> (refine .nil (.intro rfl ?_)))
    | (refine WCX.region (id := 6) ?_; (iterate 2 (refine .cons (q hX rfl ?_))) <;> (refine .nil (.intro rfl ?_)))
    | refine WCX.ret ?_
    | refine WCX.cond_true rfl ?_
    | refine WCX.cond_false rfl ?_
    | refine WCX.skip ?_
    | refine WCX.block ?_
    | refine WCX.exit ?_
    | refine ToX.exit_seq ?_
    | refine ToX.exit_block ?_
    | refine ToX.nrm_block ?_
    | refine ToX.fn_ret hX rfl ?_)
  · refine next (i + 1, _) _ _ _ (by simp only; omega) ⟨⟨rfl, rfl, rfl, rfl, trivial⟩, ⟨_, rfl⟩, ⟨_, .cons (.he (ownS_snoc (x := wordI (ns.getD i 0)) (by simp only; rw [take_succ (by omega) (0 : Int), List.map_append, ← List.append_assoc]; rfl))) .nil⟩⟩ ⟨by simp only; omega, fun _ => ⟨_, _, rfl⟩⟩
  · have hi2 : i = ns.length := by omega
    subst hi2
    exact fun h f => ⟨_, f.chg, by simp only [List.take_length]; rfl, hfr⟩
theorem check_run (hK : KN base K) (v : HVal) (l : List Nat) (h : Heap) (w : Wf h) (ro : (rd v 1 (l.map wcell)).holds h) (hb : l.length ≤ 17592186044416) (hw : ∀ x ∈ l, x < 4294967296) :
    Sp P K 67 [v] h (Val (u32 (sumOf l)) h) := by
  have ll := rd_len ro
  refine Sp.start (m := 1005) (n := 18) w (hK.none 67 rfl rfl _ _) Tryz.func67 rfl rfl mask67 rfl rfl ?_
  repeat' (first
    | refine ToX.nrm_seq ?_
    | refine WCX.seq ?_
    | (refine WCX.region (id := 0) ?_; ((refine .cons (q hX rfl ?_))) <;> (refine .nil (.intro rfl ?_)))
    | (refine WCX.region (id := 1) ?_; ((refine .cons (q hX rfl ?_))) <;> (refine .nil (.intro rfl ?_)))
    | (refine WCX.region (id := 2) ?_; ((refine .cons (q hX rfl ?_))) <;> ((refine .cons (ql hX rfl rfl rfl rfl rfl rfl (by assumption) rfl rfl ?_))) <;> ((refine .cons (q hX rfl ?_))) <;> (refine .nil (.intro rfl ?_)))
    | refine WCX.block ?_)
  refine WCX.loop (ι := Nat × Nat) (fun a => [(8, .ext (i64 a.1)), (7, .ext (i64 l.length)), (6, .ext v), (3, .ext (u32 a.2))]) (fun _ => []) (fun _ => []) (fun a => a.1 ≤ l.length ∧ a.2 < 4294967296 ∧ sumOf l = (l.drop a.1).foldl (fun n w => (31 * n + w) % 4294967296) a.2) (fun a => l.length - a.1) (0, 7) ⟨⟨rfl, rfl, rfl, rfl, trivial⟩, ⟨_, rfl⟩, ⟨_, .nil⟩⟩ ⟨Nat.zero_le _, by decide, rfl⟩ (fun _ => rfl) (fun _ => rfl) (fun _ => rfl) ?_
  rintro ⟨i, s⟩ ⟨hi, hs, he⟩ next
  simp only at hi hs he next ⊢
  have hx : i < l.length → l.getD i 0 < 4294967296 := fun hlt => hw _ (getD_mem _ hlt)
  repeat' (first
    | refine ToX.nrm_seq ?_
    | refine WCX.seq ?_
    | (refine WCX.region (id := 3) ?_; ((refine .cons (qc rfl ?_ ?_)) <;> intro _) <;> (refine .nil (.intro rfl ?_)))
    | (refine WCX.region (id := 4) ?_; ((refine .cons (qidx hX rfl rfl rfl rfl rfl (.of ro) (row_i (0 : Nat) (by omega)) rfl rfl rfl ?_))) <;> (iterate 2 (refine .cons (q hX rfl ?_))) <;> (refine .nil (.intro rfl ?_)))
    | (refine WCX.region (id := 5) ?_; ((refine .cons (q hX rfl ?_))) <;> ((refine .cons (qa (d := ((s * 31 % 4294967296 : Nat) : Int)) rfl rfl rfl rfl rfl (by rw [wrapF_u32]; omega) rfl rfl ?_))) <;> ((refine .cons (q hX rfl ?_))) <;> ((refine .cons (qa (d := (((31 * s + l.getD i 0) % 4294967296 : Nat) : Int)) rfl rfl rfl rfl rfl (by rw [wrapF_u32]; omega) rfl rfl ?_))) <;> ((refine .cons (q hX rfl ?_))) <;> (refine .nil (.intro rfl ?_)))
    | (refine WCX.region (id := 6) ?_; ((refine .cons (qa rfl rfl rfl rfl rfl (wrapF_i64 (by first | omega | (simp only [Int.ofNat_eq_natCast]; omega)) (by first | omega | (simp only [Int.ofNat_eq_natCast]; omega))) rfl rfl ?_))) <;> ((refine .cons (q hX rfl ?_))) <;> (refine .nil (.intro rfl ?_)))
    | (refine WCX.region (id := 7) ?_; (iterate 2 (refine .cons (q hX rfl ?_))) <;> (refine .nil (.intro rfl ?_)))
    | refine WCX.ret ?_
    | refine WCX.cond_true rfl ?_
    | refine WCX.cond_false rfl ?_
    | refine WCX.skip ?_
    | refine WCX.block ?_
    | refine WCX.exit ?_
    | refine ToX.exit_seq ?_
    | refine ToX.exit_block ?_
    | refine ToX.nrm_block ?_
    | refine ToX.fn_ret hX rfl ?_)
  · refine next (i + 1, _) _ _ _ (by simp only; omega) ⟨⟨rfl, rfl, rfl, rfl, trivial⟩, ⟨_, rfl⟩, ⟨_, .nil⟩⟩ ⟨by simp only; omega, Nat.mod_lt _ (by decide), ?_⟩
    rw [he, drop_cons (by omega) 0]; rfl
  · have hi2 : i = l.length := by omega
    subst hi2
    exact fun h f => ⟨by rw [he, List.drop_length]; rfl, f.chg⟩
end Em
end Go.HL
namespace Go.HL
open Go Go.Proofs
namespace Em
set_option maxRecDepth 10000
variable {K : CallFn} {base : List (Nat × HObj)}
/-! ## Bytes of a string -/
theorem codeN_append (l m : List Nat) (a : Nat) : codeN (l ++ m) a = codeN m (codeN l a) := List.foldl_append
theorem codeN_div : ∀ {l : List Nat}, (∀ x ∈ l, x < 256) → ∀ (a : Nat), codeN l a / 256 ^ l.length = a
  | [], _, a => by simp [codeN]
  | x :: l, h, a => by
    have hx := h x (by simp)
    have ih := codeN_div (l := l) (fun y hy => h y (by simp [hy])) (a * 256 + x)
    show codeN l (a * 256 + x) / 256 ^ (l.length + 1) = a
    rw [Nat.pow_succ, ← Nat.div_div_eq_div_mul, ih]
    omega
theorem sIndex_code {b : List Nat} (h : ∀ x ∈ b, x < 256) {j : Nat} (hj : j < b.length) : sIndex b.length (codeN b 0) j = b.getD j 0 := by
  have e1 : b = b.take (j + 1) ++ b.drop (j + 1) := (List.take_append_drop _ _).symm
  have e2 := codeN_div (l := b.drop (j + 1)) (fun y hy => h y (List.mem_of_mem_drop hy)) (codeN (b.take (j + 1)) 0)
  rw [← codeN_append, ← e1, List.length_drop] at e2
  unfold sIndex
  show codeN b 0 / 2 ^ (8 * (b.length - (j + 1))) % 256 = _
  rw [Nat.pow_mul, show (2 : Nat) ^ 8 = 256 by decide, e2, take_succ hj 0, codeN_append]
  have := h _ (getD_mem 0 hj)
  show (codeN (b.take j) 0 * 256 + b.getD j 0) % 256 = _
  omega
theorem wordOf_snoc (x : Nat) : ∀ (l : List Nat), wordOf (l ++ [x]) = wordOf l + 256 ^ l.length * x
  | [] => by simp [wordOf]
  | y :: l => by
    show y + 256 * wordOf (l ++ [x]) = y + 256 * wordOf l + 256 ^ (l.length + 1) * x
    rw [wordOf_snoc x l, Nat.pow_succ, Nat.mul_add, Nat.mul_comm (256 ^ l.length) 256, Nat.mul_assoc, Nat.add_assoc]
theorem shl_lt {x m : Nat} (hx : x < 256) (hm : m ≤ 3) : 2 ^ (8 * m) * x < 4294967296 := by
  obtain rfl | rfl | rfl | rfl : m = 0 ∨ m = 1 ∨ m = 2 ∨ m = 3 := by omega
  all_goals simp; omega
theorem shl_add_lt {x m a : Nat} (hx : x < 256) (hm : m ≤ 3) (ha : a < 2 ^ (8 * m)) : 2 ^ (8 * m) * x + a < 4294967296 := by
  obtain rfl | rfl | rfl | rfl : m = 0 ∨ m = 1 ∨ m = 2 ∨ m = 3 := by omega
  all_goals simp at ha ⊢; omega
theorem bin_shl32 {t x m : Nat} (hx : x < 256) (hm : m ≤ 3) : binH P .shl t (.int .u32 (x : Int)) (.int .u64 ((8 * m : Nat) : Int)) = some (.int .u32 ((2 ^ (8 * m) * x : Nat) : Int)) := by
  rw [bin_shl, show min (8 * m) (IntKind.u32.bits) = 8 * m from Nat.min_eq_left (show 8 * m ≤ 32 by omega), ← Int.natCast_mul, Nat.mul_comm, wrapF_u32_nat (shl_lt hx hm)]
theorem packs_nil : packs [] = [] := by rw [packs, dif_neg (by simp)]
theorem packs_step {l : List Nat} (h : 0 < l.length) : packs l = wordOf (l.take 4) :: packs (l.drop 4) := by rw [packs, dif_pos h]
theorem addName_run (hK : KN base K) (v : HVal) (l b : List Nat) (h : Heap) (w : Wf h) (hg : (wordsO v l).holds h) (hb : NameFine b) (hl : l.length ≤ 1000000) :
    Sp P K 64 [v, strB b] h (TrG (wordsO v l) (fun x C' => C' = [wordsO x (l ++ nameE b)] ∧ Fresh x) h) := by
  have hlen := hb.1
  have hbytes := hb.2
  refine Sp.startG (m := 1073873139) (n := 50) w hg (hK.none 64 rfl rfl _ _) Tryz.func64 rfl rfl mask64 rfl rfl ?_
  repeat' (first
    | refine ToX.nrm_seq ?_
    | refine WCX.seq ?_
    | (refine WCX.region (id := 0) ?_; ((refine .cons (q hX rfl ?_))) <;> (refine .nil (.intro rfl ?_)))
    | (refine WCX.region (id := 1) ?_; (iterate 3 (refine .cons (q hX rfl ?_))) <;> ((refine .cons (qw hX rfl rfl rfl rfl (wrapF_u32_nat (by omega)) rfl rfl ?_))) <;> ((refine .cons (q hX rfl ?_))) <;> ((refine .cons (qapp hX rfl rfl rfl rfl rfl rfl rfl rfl rfl rfl rfl rfl b42 rfl rfl rfl rfl rfl (by first | exact .h | exact .t .h | exact .t (.t .h) | exact .t (.t (.t .h))) rfl (by simp only [List.length_map]; omega) rfl rfl ?_)) <;> intro kp) <;> ((refine .cons (q hX rfl ?_))) <;> (refine .nil (.intro rfl ?_)))
    | (refine WCX.region (id := 2) ?_; ((refine .cons (q hX rfl ?_))) <;> (refine .nil (.intro rfl ?_)))
    | refine WCX.block ?_)
  refine WCX.loop (ι := Nat × List Nat × HVal) (fun a => [(5, .ext (i64 a.1)), (1, .ext (strB b)), (0, .ext a.2.2)]) (fun _ => []) (fun a => [wordsO a.2.2 a.2.1]) (fun a => l ++ nameE b = a.2.1 ++ packs (b.drop a.1) ∧ a.2.1.length ≤ l.length + 1 + a.1 ∧ a.1 ≤ 20 ∧ Fresh a.2.2) (fun a => b.length - a.1) (0, l ++ [b.length], _) ⟨⟨rfl, rfl, rfl, trivial⟩, ⟨_, rfl⟩, ⟨_, .cons (.he (ownS_snoc (x := b.length) rfl)) .nil⟩⟩ ⟨by simp [nameE], by simp, by simp, _, _, rfl⟩ (fun _ => rfl) (fun _ => rfl) (fun _ => rfl) ?_
  rintro ⟨i, acc, v2⟩ ⟨he, hacc, hi, hfr⟩ next
  simp only at he hacc hi hfr next ⊢
  have hdl : (b.drop i).length = b.length - i := List.length_drop
  repeat' (first
    | refine ToX.nrm_seq ?_
    | refine WCX.seq ?_
    | (refine WCX.region (id := 3) ?_; (iterate 3 (refine .cons (q hX rfl ?_))) <;> ((refine .cons (qc rfl ?_ ?_)) <;> intro _) <;> (refine .nil (.intro rfl ?_)))
    | (refine WCX.region (id := 5) ?_; ((refine .cons (q hX rfl ?_))) <;> (refine .nil (.intro rfl ?_)))
    | (refine WCX.region (id := 6) ?_; (iterate 2 (refine .cons (q hX rfl ?_))) <;> (refine .nil (.intro rfl ?_)))
    | (refine WCX.region (id := 11) ?_; (iterate 2 (refine .cons (q hX rfl ?_))) <;> (refine .nil (.intro rfl ?_)))
    | refine WCX.ret ?_
    | refine WCX.cond_true rfl ?_
    | refine WCX.cond_false rfl ?_
    | refine WCX.skip ?_
    | refine WCX.block ?_
    | refine WCX.exit ?_
    | refine ToX.exit_seq ?_
    | refine ToX.exit_block ?_
    | refine ToX.fn_ret hX rfl ?_)
  · refine WCX.loop (ι := Nat × Nat) (fun a => [(7, .ext (i64 (i + a.1))), (6, .ext (u32 a.2)), (5, .ext (i64 i)), (1, .ext (strB b)), (0, .ext v2)]) (fun _ => []) (fun _ => [wordsO v2 acc]) (fun a => a.1 ≤ min 4 (b.length - i) ∧ a.2 = wordOf ((b.drop i).take a.1)) (fun a => min 4 (b.length - i) - a.1) (0, 0) ⟨⟨rfl, rfl, rfl, rfl, rfl, trivial⟩, ⟨_, rfl⟩, ⟨_, .cons .h .nil⟩⟩ ⟨Nat.zero_le _, rfl⟩ (fun _ => rfl) (fun _ => rfl) (fun _ => rfl) ?_
    rintro ⟨m, wd⟩ ⟨hm, hwd⟩ next2
    simp only at hm hwd next2 ⊢
    have hsx : i + m < b.length → sIndex b.length (codeN b 0) (i + m) = b.getD (i + m) 0 ∧ b.getD (i + m) 0 < 256 := fun hlt => ⟨sIndex_code hbytes hlt, hbytes _ (getD_mem 0 hlt)⟩
    have hwl : wd < 2 ^ (8 * m) := by
      have := wordOf_lt (l := (b.drop i).take m) fun x hx => hbytes x (List.mem_of_mem_drop (List.mem_of_mem_take hx))
      rw [List.length_take, hdl, Nat.min_eq_left (by omega)] at this
      rw [Nat.pow_mul, hwd]; exact this
    have hp8 : m ≤ 3 → 2 ^ (8 * m) ≤ 16777216 := fun h3 => by
      have : 2 ^ (8 * m) ≤ 2 ^ 24 := Nat.pow_le_pow_right (by decide) (by omega)
      exact this
    repeat' (first
      | refine ToX.nrm_seq ?_
      | refine WCX.seq ?_
      | (refine WCX.region (id := 7) ?_; (iterate 3 (refine .cons (q hX rfl ?_))) <;> ((refine .cons (qc rfl ?_ ?_)) <;> intro _) <;> (iterate 3 (refine .cons (q hX rfl ?_))) <;> (first | (refine .cons (q hX rfl ?_)) | (refine .cons (qa rfl rfl rfl rfl rfl (wrapF_i64 (by first | omega | (simp only [Int.ofNat_eq_natCast]; omega)) (by first | omega | (simp only [Int.ofNat_eq_natCast]; omega))) rfl rfl ?_))) <;> (first | (refine .cons (q hX rfl ?_)) | (refine .cons (qc rfl ?_ ?_)) <;> intro _) <;> ((refine .cons (q hX rfl ?_))) <;> (refine .nil (.intro rfl ?_)))
      | (refine WCX.region (id := 9) ?_; (iterate 3 (refine .cons (q hX rfl ?_))) <;> ((refine .cons (qs hX rfl rfl rfl rfl (by first | omega | (simp only [Int.ofNat_eq_natCast]; omega)) rfl rfl ?_))) <;> ((refine .cons (qw (b := ((b.getD (i + m) 0 : Nat) : Int)) hX rfl rfl rfl rfl (by rw [(hsx (by omega)).1, Int.ofNat_eq_natCast]; exact wrapF_u32_nat (by have := (hsx (by omega)).2; omega)) rfl rfl ?_))) <;> (iterate 2 (refine .cons (q hX rfl ?_))) <;> ((refine .cons (qa (d := (m : Int)) rfl rfl rfl rfl rfl (by rw [wrapF_i64 (by omega) (by omega)]; omega) rfl rfl ?_))) <;> ((refine .cons (qw hX rfl rfl rfl rfl (wrapF_u64_nat (by omega)) rfl rfl ?_))) <;> ((refine .cons (qa (d := ((8 * m : Nat) : Int)) rfl rfl rfl rfl rfl (wrap_mul64 (a := 8) (by omega)) rfl rfl ?_))) <;> ((refine .cons (qn rfl rfl rfl (bin_shl32 (hsx (by omega)).2 (by omega)) rfl rfl ?_))) <;> ((refine .cons (qn rfl rfl rfl (bin_or32 hwl (shl_lt (hsx (by omega)).2 (by omega)) (shl_add_lt (hsx (by omega)).2 (by omega) hwl)) rfl rfl ?_))) <;> ((refine .cons (q hX rfl ?_))) <;> (refine .nil (.intro rfl ?_)))
      | (refine WCX.region (id := 8) ?_; ((refine .cons (q hX rfl ?_))) <;> ((refine .cons (qa rfl rfl rfl rfl rfl (wrapF_i64 (by first | omega | (simp only [Int.ofNat_eq_natCast]; omega)) (by first | omega | (simp only [Int.ofNat_eq_natCast]; omega))) rfl rfl ?_))) <;> ((refine .cons (q hX rfl ?_))) <;> (refine .nil (.intro rfl ?_)))
      | (refine WCX.region (id := 10) ?_; (iterate 3 (refine .cons (q hX rfl ?_))) <;> ((refine .cons (qapp hX rfl rfl rfl rfl rfl rfl rfl rfl rfl rfl rfl rfl b42 rfl rfl rfl rfl rfl (by first | exact .h | exact .t .h | exact .t (.t .h) | exact .t (.t (.t .h))) rfl (by simp only [List.length_map]; omega) rfl rfl ?_)) <;> intro kp) <;> ((refine .cons (q hX rfl ?_))) <;> (refine .nil (.intro rfl ?_)))
      | (refine WCX.region (id := 4) ?_; ((refine .cons (q hX rfl ?_))) <;> ((refine .cons (qa rfl rfl rfl rfl rfl (wrapF_i64 (by first | omega | (simp only [Int.ofNat_eq_natCast]; omega)) (by first | omega | (simp only [Int.ofNat_eq_natCast]; omega))) rfl rfl ?_))) <;> ((refine .cons (q hX rfl ?_))) <;> (refine .nil (.intro rfl ?_)))
      | refine WCX.cond_true rfl ?_
      | refine WCX.cond_false rfl ?_
      | refine WCX.skip ?_
      | refine WCX.block ?_
      | refine WCX.exit ?_
      | refine ToX.exit_seq ?_
      | refine ToX.exit_block ?_
      | refine ToX.nrm_block ?_)
    · refine next2 (m + 1, _) _ _ _ (by simp only; omega) ⟨⟨rfl, rfl, rfl, rfl, rfl, trivial⟩, ⟨_, rfl⟩, ⟨_, .cons .h .nil⟩⟩ ⟨by simp only; omega, ?_⟩
      have hlt : m < (b.drop i).length := by omega
      simp only
      rw [take_succ hlt 0, wordOf_snoc, hwd, List.length_take, Nat.min_eq_left (by omega), show (b.drop i).getD m 0 = b.getD (i + m) 0 by simp [List.getD, List.getElem?_drop], Nat.pow_mul, Nat.add_comm]
    all_goals
      clear next2
      have hm4 : m = min 4 (b.length - i) := by omega
      have hwd4 : wd = wordOf ((b.drop i).take 4) := by
        rw [hwd, hm4]
        congr 1
        by_cases h4 : 4 ≤ b.length - i
        · rw [Nat.min_eq_left h4]
        · rw [Nat.min_eq_right (by omega), List.take_of_length_le (by omega), List.take_of_length_le (by omega)]
      refine next (i + 4, acc ++ [wd], _) _ _ _ (by simp only; omega) ⟨⟨rfl, rfl, rfl, trivial⟩, ⟨_, rfl⟩, ⟨_, .cons (.he (ownS_snoc (x := wd) rfl)) .nil⟩⟩ ⟨?_, by simp only [List.length_append, List.length_singleton]; omega, by simp only; omega, _, _, rfl⟩
      simp only
      rw [he, packs_step (by omega), List.drop_drop, hwd4, List.append_assoc]
      rfl
  · have hn : b.drop i = [] := List.drop_of_length_le (by omega)
    rw [hn, packs_nil, List.append_nil] at he
    exact fun h f => ⟨_, f.chg, by rw [he]; rfl, hfr⟩
end Em
end Go.HL
namespace Go.HL
open Go Go.Proofs
namespace Em
set_option maxRecDepth 10000
set_option maxHeartbeats 4000000
variable {K : CallFn} {base : List (Nat × HObj)}
/-- code in the memory, its names bytes -/
def codeRB (c : CodeB) (pv sv iv : HVal) : Part := (rd pv 2 (c.params.map pcell)).both ((rd sv 2 (c.shared.map acell)).both (rd iv 8 (c.insns.map icell)))
def noPB : List Nat × Bool := ([], false)
def noAB : List Nat × Nat := ([], 0)
theorem packs_len : ∀ (k : Nat) (l : List Nat), l.length = k → (packs l).length ≤ k := by
  intro k
  induction k using Nat.strongRecOn with
  | _ k ih =>
    intro l hl
    by_cases h0 : 0 < l.length
    · rw [packs_step h0]
      have := ih (l.drop 4).length (by rw [List.length_drop]; omega) (l.drop 4) rfl
      rw [List.length_drop] at this
      simp only [List.length_cons]
      omega
    · rw [show l = [] from List.eq_nil_of_length_eq_zero (by omega), packs_nil]; simp
theorem nameE_len {b : List Nat} (h : NameFine b) : (nameE b).length ≤ 17 := by
  have := packs_len _ b rfl
  have := h.1
  simp only [nameE, List.length_cons]; omega
theorem flatMap_step {α : Type} {l : List α} {g : α → List Nat} {i : Nat} (hi : i < l.length) (d : α) : (l.take (i + 1)).flatMap g = (l.take i).flatMap g ++ g (l.getD i d) := by
  rw [take_succ hi d, List.flatMap_append]; simp
theorem wordI_nat {n : Nat} (h : n < 4294967296) : wordI (n : Int) = n := by unfold wordI; omega
def pre1 (c : CodeB) : List Nat := [65585, 0] ++ nameE c.name ++ [c.params.length]
theorem packs_lt : ∀ (k : Nat) (l : List Nat), l.length = k → (∀ x ∈ l, x < 256) → ∀ x ∈ packs l, x < 4294967296 := by
  intro k
  induction k using Nat.strongRecOn with
  | _ k ih =>
    intro l hl hb x hx
    by_cases h0 : 0 < l.length
    · rw [packs_step h0] at hx
      rcases List.mem_cons.1 hx with rfl | hx
      · exact wordOf_take hb
      · exact ih (l.drop 4).length (by rw [List.length_drop]; omega) (l.drop 4) rfl (fun y hy => hb y (List.mem_of_mem_drop hy)) x hx
    · rw [show l = [] from List.eq_nil_of_length_eq_zero (by omega), packs_nil] at hx; simp at hx
theorem nameE_lt {b : List Nat} (h : NameFine b) : ∀ x ∈ nameE b, x < 4294967296 := by
  intro x hx
  have := h.1
  rcases List.mem_cons.1 hx with rfl | hx
  · omega
  · exact packs_lt _ b rfl h.2 x hx
theorem codeE_lt {c : CodeB} (hc : CodeFine c) : ∀ x ∈ codeE c, x < 4294967296 := by
  have b1 := hc.params
  have b2 := hc.shared
  have b3 := hc.insns
  have b4 := hc.local
  intro x hx
  simp only [codeE, List.mem_append, List.mem_flatMap, List.mem_singleton, List.not_mem_nil, or_false] at hx
  rcases hx with hx | hx | ⟨p, hp, hx⟩ | hx | ⟨p, hp, hx⟩ | hx | hx | ⟨y, hy, hx⟩
  · exact nameE_lt hc.name x hx
  · omega
  · simp only [paramE, List.mem_append, List.mem_singleton] at hx
    rcases hx with hx | hx
    · exact nameE_lt (hc.pname p hp) x hx
    · subst hx; split <;> omega
  · omega
  · simp only [arrayE, List.mem_append, List.mem_singleton] at hx
    have hs := hc.sname p hp
    rcases hx with hx | hx
    · exact nameE_lt hs.1 x hx
    · omega
  · omega
  · omega
  · have h := hc.each y hy
    have h1 := h.kind
    have h2 := h.op
    have h3 := h.d
    have h4 := h.a
    have h5 := h.b
    have h6 := h.to
    have h7 := h.join
    simp only [insnE, List.mem_cons, List.not_mem_nil, or_false] at hx
    omega
theorem encode_run (hK : KN base K) (c : CodeB) (pv sv iv : HVal) (h : Heap) (w : Wf h) (hc : CodeFine c) (hr : (codeRB c pv sv iv).holds h) :
    Sp P K 28 [codeV c pv sv iv] h (Tr (fun v C' => C' = [wordsO v (wholeE c)]) h) := by
  have hp := hr.1
  have hs := hr.2.1
  have hi := hr.2.2
  have lp := rd_len hp
  have ls := rd_len hs
  have li := rd_len hi
  have b1 := hc.params
  have b2 := hc.shared
  have b3 := hc.insns
  have b4 := hc.local
  have bn := nameE_len hc.name
  refine Sp.start (m := 70835501465177981715119) (n := 121) w (hK.none 28 rfl rfl _ _) Tryz.func28 rfl rfl mask28 rfl rfl ?_
  repeat' (first
    | refine ToX.nrm_seq ?_
    | refine WCX.seq ?_
    | (refine WCX.region (id := 0) ?_; (iterate 2 (refine .cons (q hX rfl ?_))) <;> (refine .nil (.intro rfl ?_)))
    | (refine WCX.region (id := 1) ?_; (iterate 2 (refine .cons (q hX rfl ?_))) <;> (refine .nil (.intro rfl ?_))))
  refine WCX.leak 1 (fun k => wordsO (.slice k 0 2 (some 2)) [65585, 0]) rfl (fun k => .own rfl (by simp [wcell]) rfl) (fun _ => rfl) rfl fun k0 => ?_
  repeat' (first
    | refine ToX.nrm_seq ?_
    | refine WCX.seq ?_
    | (refine WCX.region (id := 2) ?_; (iterate 3 (refine .cons (q hX rfl ?_))) <;> ((refine .cons (qcallG rfl rfl rfl rfl ca64 rfl rfl (by first | exact .h | exact .t .h | exact .t (.t .h) | exact .t (.t (.t .h))) rfl (fun h f hg ro rg => addName_run hK _ _ c.name h f.wf hg hc.name (by decide)) ?_)) <;> (rintro v C' ⟨rfl, hfv⟩)) <;> ((refine .cons (q hX rfl ?_))) <;> (refine .nil (.intro rfl ?_)))
    | (refine WCX.region (id := 3) ?_; (iterate 3 (refine .cons (q hX rfl ?_))) <;> ((refine .cons (ql hX rfl rfl rfl rfl rfl rfl (by assumption) rfl rfl ?_))) <;> ((refine .cons (q hX rfl ?_))) <;> ((refine .cons (qcallGS rfl rfl rfl rfl rfl rfl rfl ca65 rfl rfl (by first | exact .h | exact .t .h | exact .t (.t .h) | exact .t (.t (.t .h))) rfl (fun k h f hg rs => add_run hK _ _ _ [(c.params.length : Int)] h f.wf hg (rs.sl (rows := [icells c.params.length]) rfl (by simp) rfl) (by simp; omega)) ?_)) <;> (rintro v C' ⟨rfl, hfv⟩)) <;> ((refine .cons (q hX rfl ?_))) <;> (refine .nil (.intro rfl ?_)))
    | (refine WCX.region (id := 4) ?_; (iterate 2 (refine .cons (q hX rfl ?_))) <;> ((refine .cons (ql hX rfl rfl rfl rfl rfl rfl (by assumption) rfl rfl ?_))) <;> ((refine .cons (q hX rfl ?_))) <;> (refine .nil (.intro rfl ?_)))
    | refine WCX.block ?_)
  refine WCX.loop (ι := Nat × List Nat × HVal) (fun a => [(24, .ext (i64 a.1)), (23, .ext (i64 c.params.length)), (22, .ext pv), (3, .ext a.2.2), (1, .ptr 0 0)]) (fun _ => [.own [strB c.name, pv, sv, i64 c.local, iv] 26 false, .gone]) (fun a => [wordsO a.2.2 a.2.1]) (fun a => a.1 ≤ c.params.length ∧ a.2.1 = pre1 c ++ (c.params.take a.1).flatMap paramE ∧ a.2.1.length ≤ 100 + 30 * a.1) (fun a => c.params.length - a.1) (0, _, _) ⟨⟨rfl, rfl, rfl, rfl, rfl, trivial⟩, ⟨_, rfl⟩, ⟨_, .cons .h .nil⟩⟩ ⟨Nat.zero_le _, by simp only [List.map_cons, List.map_nil, wordI_nat (show c.params.length < 4294967296 by omega), pre1, List.take_zero, List.flatMap_nil, List.append_nil], by simp; omega⟩ (fun _ => rfl) (fun _ => rfl) (fun _ => rfl) ?_
  rintro ⟨i, acc, v2⟩ ⟨hi2, hacc, hal⟩ next
  simp only at hi2 hacc hal next ⊢
  have hnm : i < c.params.length → NameFine (c.params.getD i noPB).1 := fun hlt => hc.pname _ (getD_mem _ hlt)
  have hnl : i < c.params.length → (nameE (c.params.getD i noPB).1).length ≤ 17 := fun hlt => nameE_len (hnm hlt)
  repeat' (first
    | refine ToX.nrm_seq ?_
    | refine WCX.seq ?_
    | (refine WCX.region (id := 5) ?_; ((refine .cons (qc rfl ?_ ?_)) <;> intro _) <;> (refine .nil (.intro rfl ?_)))
    | (refine WCX.region (id := 6) ?_; ((refine .cons (qidx hX rfl rfl rfl rfl rfl (.of hp) (row_i noPB (by omega)) rfl rfl rfl ?_))) <;> (iterate 3 (refine .cons (q hX rfl ?_))) <;> (refine .nil (.intro rfl ?_)))
    | (refine WCX.region (id := 7) ?_; (iterate 3 (refine .cons (q hX rfl ?_))) <;> ((refine .cons (qcallG rfl rfl rfl rfl ca64 rfl rfl (by first | exact .h | exact .t .h | exact .t (.t .h) | exact .t (.t (.t .h))) rfl (fun h f hg ro rg => addName_run hK _ _ (c.params.getD i noPB).1 h f.wf hg (hnm (by omega)) (by omega)) ?_)) <;> (rintro v C' ⟨rfl, hfv⟩)) <;> ((refine .cons (q hX rfl ?_))) <;> (refine .nil (.intro rfl ?_)))
    | (refine WCX.region (id := 8) ?_; ((refine .cons (q hX rfl ?_))) <;> ((refine .cons (qb hX rfl ?_ ?_)) <;> (intro hbl; (first | (cases hbl; done) | skip))) <;> (refine .nil (.intro rfl ?_)))
    | (refine WCX.region (id := 9) ?_; (iterate 2 (refine .cons (q hX rfl ?_))) <;> ((refine .cons (qcallGS rfl rfl rfl rfl rfl rfl rfl ca65 rfl rfl (by first | exact .h | exact .t .h | exact .t (.t .h) | exact .t (.t (.t .h))) rfl (fun k h f hg rs => add_run hK _ _ _ [1] h f.wf hg (rs.sl (rows := [icells 1]) rfl (by simp) rfl) (by simp only [List.length_append, List.length_cons, List.length_nil]; omega)) ?_)) <;> (rintro v C' ⟨rfl, hfv⟩)) <;> ((refine .cons (q hX rfl ?_))) <;> (refine .nil (.intro rfl ?_)))
    | (refine WCX.region (id := 10) ?_; (iterate 2 (refine .cons (q hX rfl ?_))) <;> ((refine .cons (qcallGS rfl rfl rfl rfl rfl rfl rfl ca65 rfl rfl (by first | exact .h | exact .t .h | exact .t (.t .h) | exact .t (.t (.t .h))) rfl (fun k h f hg rs => add_run hK _ _ _ [0] h f.wf hg (rs.sl (rows := [icells 0]) rfl (by simp) rfl) (by simp only [List.length_append, List.length_cons, List.length_nil]; omega)) ?_)) <;> (rintro v C' ⟨rfl, hfv⟩)) <;> ((refine .cons (q hX rfl ?_))) <;> (refine .nil (.intro rfl ?_)))
    | (refine WCX.region (id := 11) ?_; ((refine .cons (qa rfl rfl rfl rfl rfl (wrapF_i64 (by first | omega | (simp only [Int.ofNat_eq_natCast]; omega)) (by first | omega | (simp only [Int.ofNat_eq_natCast]; omega))) rfl rfl ?_))) <;> ((refine .cons (q hX rfl ?_))) <;> (refine .nil (.intro rfl ?_)))
    | refine WCX.cond_true rfl ?_
    | refine WCX.cond_false rfl ?_
    | refine WCX.skip ?_
    | refine WCX.block ?_
    | refine WCX.exit ?_
    | refine ToX.exit_seq ?_
    | refine ToX.exit_block ?_
    | refine ToX.nrm_block ?_)
  · refine next (i + 1, _, _) _ _ _ (by simp only; omega) ⟨⟨rfl, rfl, rfl, rfl, rfl, trivial⟩, ⟨_, rfl⟩, ⟨_, .cons .h .nil⟩⟩ ⟨by simp only; omega, ?_, ?_⟩
    · simp only
      rw [hacc, flatMap_step (by omega) noPB, List.append_assoc, List.append_assoc]
      congr 2
      simp only [paramE, hbl, if_true]; rfl
    · have := hnl (by omega)
      simp only [List.length_append, List.length_map, List.length_cons, List.length_nil]; omega
  · refine next (i + 1, _, _) _ _ _ (by simp only; omega) ⟨⟨rfl, rfl, rfl, rfl, rfl, trivial⟩, ⟨_, rfl⟩, ⟨_, .cons .h .nil⟩⟩ ⟨by simp only; omega, ?_, ?_⟩
    · simp only
      rw [hacc, flatMap_step (by omega) noPB, List.append_assoc, List.append_assoc]
      congr 2
      simp only [paramE, hbl]; rfl
    · have := hnl (by omega)
      simp only [List.length_append, List.length_map, List.length_cons, List.length_nil]; omega
  clear next
  have hi3 : i = c.params.length := by omega
  subst hi3
  rw [List.take_length] at hacc
  have h17 : acc.length ≤ 280 := by omega
  repeat' (first
    | refine ToX.nrm_seq ?_
    | refine WCX.seq ?_
    | (refine WCX.region (id := 12) ?_; (iterate 3 (refine .cons (q hX rfl ?_))) <;> ((refine .cons (ql hX rfl rfl rfl rfl rfl rfl (by assumption) rfl rfl ?_))) <;> ((refine .cons (q hX rfl ?_))) <;> ((refine .cons (qcallGS rfl rfl rfl rfl rfl rfl rfl ca65 rfl rfl (by first | exact .h | exact .t .h | exact .t (.t .h) | exact .t (.t (.t .h))) rfl (fun k h f hg rs => add_run hK _ _ _ [(c.shared.length : Int)] h f.wf hg (rs.sl (rows := [icells c.shared.length]) rfl (by simp) rfl) (by simp; omega)) ?_)) <;> (rintro v C' ⟨rfl, hfv⟩)) <;> ((refine .cons (q hX rfl ?_))) <;> (refine .nil (.intro rfl ?_)))
    | (refine WCX.region (id := 13) ?_; (iterate 2 (refine .cons (q hX rfl ?_))) <;> ((refine .cons (ql hX rfl rfl rfl rfl rfl rfl (by assumption) rfl rfl ?_))) <;> ((refine .cons (q hX rfl ?_))) <;> (refine .nil (.intro rfl ?_)))
    | refine WCX.block ?_)
  refine WCX.loop (ι := Nat × List Nat × HVal) (fun a => [(50, .ext (i64 a.1)), (49, .ext (i64 c.shared.length)), (48, .ext sv), (3, .ext a.2.2), (1, .ptr 0 0)]) (fun _ => [.own [strB c.name, pv, sv, i64 c.local, iv] 26 false, .gone]) (fun a => [wordsO a.2.2 a.2.1]) (fun a => a.1 ≤ c.shared.length ∧ a.2.1 = acc ++ [c.shared.length] ++ (c.shared.take a.1).flatMap arrayE ∧ a.2.1.length ≤ 300 + 30 * a.1) (fun a => c.shared.length - a.1) (0, _, _) ⟨⟨rfl, rfl, rfl, rfl, rfl, trivial⟩, ⟨_, rfl⟩, ⟨_, .cons .h .nil⟩⟩ ⟨Nat.zero_le _, by simp only [List.map_cons, List.map_nil, wordI_nat (show c.shared.length < 4294967296 by omega), List.take_zero, List.flatMap_nil, List.append_nil], by simp; omega⟩ (fun _ => rfl) (fun _ => rfl) (fun _ => rfl) ?_
  rintro ⟨i, acc2, v3⟩ ⟨hi2, hacc2, hal2⟩ next
  simp only at hi2 hacc2 hal2 next ⊢
  have hnm : i < c.shared.length → NameFine (c.shared.getD i noAB).1 ∧ (c.shared.getD i noAB).2 ≤ 64 := fun hlt => hc.sname _ (getD_mem _ hlt)
  have hnl : i < c.shared.length → (nameE (c.shared.getD i noAB).1).length ≤ 17 := fun hlt => nameE_len (hnm hlt).1
  repeat' (first
    | refine ToX.nrm_seq ?_
    | refine WCX.seq ?_
    | (refine WCX.region (id := 14) ?_; ((refine .cons (qc rfl ?_ ?_)) <;> intro _) <;> (refine .nil (.intro rfl ?_)))
    | (refine WCX.region (id := 15) ?_; ((refine .cons (qidx hX rfl rfl rfl rfl rfl (.of hs) (row_i noAB (by omega)) rfl rfl rfl ?_))) <;> (iterate 3 (refine .cons (q hX rfl ?_))) <;> (refine .nil (.intro rfl ?_)))
    | (refine WCX.draw (id := 16) tab [0, 1, 2, 4, 5, 6, 3, 7, 8] #[0, 0, 2, 7, 0, 16, 48, 127, 255] (by kernel_rfl) (by kernel_rfl) (by kernel_rfl) ?_; (iterate 2 ((refine .cons rfl (q hX rfl ?_)) <;> refine ⟨_, .comp rfl, ?_⟩)) <;> ((refine .cons rfl (q hX rfl ?_)) <;> first | refine ⟨_, .rdB hX.tab rfl rfl rfl rfl rfl rfl rfl rfl (sureV_beq rfl) rfl rfl rfl, ?_⟩ | refine ⟨_, .rdB hX.tab rfl rfl rfl rfl rfl rfl rfl rfl (beq_len (by assumption)) rfl rfl rfl, ?_⟩ | refine ⟨_, .rdS hX.tab rfl rfl rfl rfl rfl rfl rfl rfl (sureV_beq rfl) rfl rfl rfl, ?_⟩ | refine ⟨_, .rdS hX.tab rfl rfl rfl rfl rfl rfl rfl rfl (beq_len (by assumption)) rfl rfl rfl, ?_⟩ | refine ⟨_, .comp rfl, ?_⟩) <;> ((refine .cons rfl (q hX rfl ?_)) <;> refine ⟨_, .comp rfl, ?_⟩) <;> ((refine .cons rfl (q hX rfl ?_)) <;> first | refine ⟨_, .rdB hX.tab rfl rfl rfl rfl rfl rfl rfl rfl (sureV_beq rfl) rfl rfl rfl, ?_⟩ | refine ⟨_, .rdB hX.tab rfl rfl rfl rfl rfl rfl rfl rfl (beq_len (by assumption)) rfl rfl rfl, ?_⟩ | refine ⟨_, .rdS hX.tab rfl rfl rfl rfl rfl rfl rfl rfl (sureV_beq rfl) rfl rfl rfl, ?_⟩ | refine ⟨_, .rdS hX.tab rfl rfl rfl rfl rfl rfl rfl rfl (beq_len (by assumption)) rfl rfl rfl, ?_⟩ | refine ⟨_, .comp rfl, ?_⟩) <;> ((refine .cons rfl (q hX rfl ?_)) <;> refine ⟨_, .comp rfl, ?_⟩) <;> ((refine .cons rfl (qcallG rfl rfl rfl rfl ca64 rfl rfl (by first | exact .h | exact .t .h | exact .t (.t .h) | exact .t (.t (.t .h))) rfl (fun h f hg ro rg => addName_run hK _ _ (c.shared.getD i noAB).1 h f.wf hg (hnm (by omega)).1 (by omega)) ?_)) <;> (rintro v C' ⟨rfl, hfv⟩) <;> refine ⟨_, .comp rfl, ?_⟩) <;> ((refine .cons rfl (qcallGS rfl rfl rfl rfl rfl rfl rfl ca65 rfl rfl (by first | exact .h | exact .t .h | exact .t (.t .h) | exact .t (.t (.t .h))) rfl (fun k h f hg rs => add_run hK _ _ _ [((c.shared.getD i noAB).2 : Int)] h f.wf hg (rs.sl (rows := [icells (c.shared.getD i noAB).2]) rfl (by simp) rfl) (by simp only [List.length_append, List.length_cons, List.length_nil]; omega)) ?_)) <;> (rintro v C' ⟨rfl, hfv⟩) <;> refine ⟨_, .comp rfl, ?_⟩) <;> ((refine .cons rfl (q hX rfl ?_)) <;> refine ⟨_, .comp rfl, ?_⟩) <;> (refine .nil ⟨?_, .intro rfl ?_⟩ <;> (repeat' (first | exact trivial | exact .inl rfl | exact .inr ⟨_, _, _, _, rfl, rfl, rfl⟩ | refine ⟨?_, ?_⟩))))
    | (refine WCX.region (id := 17) ?_; ((refine .cons (qa rfl rfl rfl rfl rfl (wrapF_i64 (by first | omega | (simp only [Int.ofNat_eq_natCast]; omega)) (by first | omega | (simp only [Int.ofNat_eq_natCast]; omega))) rfl rfl ?_))) <;> ((refine .cons (q hX rfl ?_))) <;> (refine .nil (.intro rfl ?_)))
    | refine WCX.cond_true rfl ?_
    | refine WCX.cond_false rfl ?_
    | refine WCX.skip ?_
    | refine WCX.block ?_
    | refine WCX.exit ?_
    | refine ToX.exit_seq ?_
    | refine ToX.exit_block ?_
    | refine ToX.nrm_block ?_)
  · refine next (i + 1, _, _) _ _ _ (by simp only; omega) ⟨⟨rfl, rfl, rfl, rfl, rfl, trivial⟩, ⟨_, rfl⟩, ⟨_, .cons .h .nil⟩⟩ ⟨by simp only; omega, ?_, ?_⟩
    · have := (hnm (by omega)).2
      simp only
      rw [hacc2, flatMap_step (by omega) noAB, List.map_cons, List.map_nil, wordI_nat (by omega)]
      simp only [List.append_assoc]; rfl
    · have := hnl (by omega)
      simp only [List.length_append, List.length_map, List.length_cons, List.length_nil]; omega
  clear next
  have hi3 : i = c.shared.length := by omega
  subst hi3
  rw [List.take_length] at hacc2
  have h18 : acc2.length ≤ 420 := by omega
  repeat' (first
    | refine ToX.nrm_seq ?_
    | refine WCX.seq ?_
    | (refine WCX.region (id := 18) ?_; (iterate 5 (refine .cons (q hX rfl ?_))) <;> ((refine .cons (ql hX rfl rfl rfl rfl rfl rfl (by assumption) rfl rfl ?_))) <;> ((refine .cons (q hX rfl ?_))) <;> ((refine .cons (qcallGS rfl rfl rfl rfl rfl rfl rfl ca65 rfl rfl (by first | exact .h | exact .t .h | exact .t (.t .h) | exact .t (.t (.t .h))) rfl (fun k h f hg rs => add_run hK _ _ _ [(c.local : Int), (c.insns.length : Int)] h f.wf hg (rs.sl (rows := [icells c.local, icells c.insns.length]) rfl (by simp) rfl) (by simp; omega)) ?_)) <;> (rintro v C' ⟨rfl, hfv⟩)) <;> ((refine .cons (q hX rfl ?_))) <;> (refine .nil (.intro rfl ?_)))
    | (refine WCX.region (id := 19) ?_; (iterate 2 (refine .cons (q hX rfl ?_))) <;> ((refine .cons (ql hX rfl rfl rfl rfl rfl rfl (by assumption) rfl rfl ?_))) <;> ((refine .cons (q hX rfl ?_))) <;> (refine .nil (.intro rfl ?_)))
    | refine WCX.block ?_)
  refine WCX.loop (ι := Nat × List Nat × HVal) (fun a => [(74, .ext (i64 a.1)), (73, .ext (i64 c.insns.length)), (72, .ext iv), (3, .ext a.2.2), (1, .ptr 0 0)]) (fun _ => [.own [strB c.name, pv, sv, i64 c.local, iv] 26 false, .gone]) (fun a => [wordsO a.2.2 a.2.1]) (fun a => a.1 ≤ c.insns.length ∧ a.2.1 = acc2 ++ [c.local, c.insns.length] ++ (c.insns.take a.1).flatMap insnE ∧ a.2.1.length ≤ 500 + 6 * a.1 ∧ Fresh a.2.2) (fun a => c.insns.length - a.1) (0, _, _) ⟨⟨rfl, rfl, rfl, rfl, rfl, trivial⟩, ⟨_, rfl⟩, ⟨_, .cons .h .nil⟩⟩ ⟨Nat.zero_le _, by simp only [List.map_cons, List.map_nil, wordI_nat (show c.insns.length < 4294967296 by omega), wordI_nat (show c.local < 4294967296 by omega), List.take_zero, List.flatMap_nil, List.append_nil], by simp; omega, hfv (by simp)⟩ (fun _ => rfl) (fun _ => rfl) (fun _ => rfl) ?_
  rintro ⟨i, acc3, v3⟩ ⟨hi2, hacc3, hal3, hfr3⟩ next
  simp only at hi2 hacc3 hal3 hfr3 next ⊢
  have hx : i < c.insns.length → InsnFine (c.insns.getD i noInsn) := fun hlt => hc.each _ (getD_mem _ hlt)
  have hk1 : i < c.insns.length → 0 ≤ (c.insns.getD i noInsn).kind ∧ (c.insns.getD i noInsn).kind < 256 := fun hlt => (hx hlt).kind
  have hk2 : i < c.insns.length → 0 ≤ (c.insns.getD i noInsn).op ∧ (c.insns.getD i noInsn).op < 256 := fun hlt => (hx hlt).op
  have hk3 : i < c.insns.length → 0 ≤ (c.insns.getD i noInsn).d ∧ (c.insns.getD i noInsn).d < 256 := fun hlt => (hx hlt).d
  have hk4 : i < c.insns.length → 0 ≤ (c.insns.getD i noInsn).a ∧ (c.insns.getD i noInsn).a < 256 := fun hlt => (hx hlt).a
  have hk5 : i < c.insns.length → 0 ≤ (c.insns.getD i noInsn).b ∧ (c.insns.getD i noInsn).b < 256 := fun hlt => (hx hlt).b
  repeat' (first
    | refine ToX.nrm_seq ?_
    | refine WCX.seq ?_
    | (refine WCX.region (id := 20) ?_; ((refine .cons (qc rfl ?_ ?_)) <;> intro _) <;> (refine .nil (.intro rfl ?_)))
    | (refine WCX.region (id := 21) ?_; ((refine .cons (qidx hX rfl rfl rfl rfl rfl (.of hi) (row_i noInsn (by omega)) rfl rfl rfl ?_))) <;> (iterate 3 (refine .cons (q hX rfl ?_))) <;> (refine .nil (.intro rfl ?_)))
    | (refine WCX.region (id := 22) ?_; (iterate 5 (refine .cons (q hX rfl ?_))) <;> ((refine .cons (qa rfl rfl rfl rfl rfl (wrapF_i64 (by omega) (by omega)) rfl rfl ?_))) <;> ((refine .cons (qa rfl rfl rfl rfl rfl (wrapF_i64 (by first | omega | (simp only [Int.ofNat_eq_natCast]; omega)) (by first | omega | (simp only [Int.ofNat_eq_natCast]; omega))) rfl rfl ?_))) <;> (iterate 4 (refine .cons (q hX rfl ?_))) <;> ((refine .cons (qa rfl rfl rfl rfl rfl (wrapF_i64 (by omega) (by omega)) rfl rfl ?_))) <;> ((refine .cons (qa rfl rfl rfl rfl rfl (wrapF_i64 (by first | omega | (simp only [Int.ofNat_eq_natCast]; omega)) (by first | omega | (simp only [Int.ofNat_eq_natCast]; omega))) rfl rfl ?_))) <;> (iterate 2 (refine .cons (q hX rfl ?_))) <;> ((refine .cons (qa rfl rfl rfl rfl rfl (wrapF_i64 (by omega) (by omega)) rfl rfl ?_))) <;> ((refine .cons (qa rfl rfl rfl rfl rfl (wrapF_i64 (by first | omega | (simp only [Int.ofNat_eq_natCast]; omega)) (by first | omega | (simp only [Int.ofNat_eq_natCast]; omega))) rfl rfl ?_))) <;> ((refine .cons (q hX rfl ?_))) <;> ((refine .cons (qcallGS rfl rfl rfl rfl rfl rfl rfl ca65 rfl rfl (by first | exact .h | exact .t .h | exact .t (.t .h) | exact .t (.t (.t .h))) rfl (fun k h f hg rs => add_run hK _ _ _ [(c.insns.getD i noInsn).kind + 256 * (c.insns.getD i noInsn).op, (c.insns.getD i noInsn).d + 256 * (c.insns.getD i noInsn).a + 65536 * (c.insns.getD i noInsn).b] h f.wf hg (rs.sl (rows := [icells _, icells _]) rfl (by simp) rfl) (by simp only [List.length_append, List.length_cons, List.length_nil]; omega)) ?_)) <;> (rintro v C' ⟨rfl, hfv⟩)) <;> ((refine .cons (q hX rfl ?_))) <;> (refine .nil (.intro rfl ?_)))
    | (refine WCX.region (id := 23) ?_; (iterate 4 (refine .cons (q hX rfl ?_))) <;> ((refine .cons (qcallGS rfl rfl rfl rfl rfl rfl rfl ca66 rfl rfl (by first | exact .h | exact .t .h | exact .t (.t .h) | exact .t (.t (.t .h))) rfl (fun k h f hg rs => add32_run hK _ _ _ [(c.insns.getD i noInsn).imm] h f.wf hg (rs.sl (rows := [jcells _]) rfl (by simp) rfl) (by simp only [List.length_append, List.length_map, List.length_cons, List.length_nil]; omega)) ?_)) <;> (rintro v C' ⟨rfl, hfv⟩)) <;> ((refine .cons (q hX rfl ?_))) <;> (refine .nil (.intro rfl ?_)))
    | (refine WCX.region (id := 24) ?_; (iterate 6 (refine .cons (q hX rfl ?_))) <;> ((refine .cons (qcallGS rfl rfl rfl rfl rfl rfl rfl ca65 rfl rfl (by first | exact .h | exact .t .h | exact .t (.t .h) | exact .t (.t (.t .h))) rfl (fun k h f hg rs => add_run hK _ _ _ [(c.insns.getD i noInsn).to, (c.insns.getD i noInsn).join, 0] h f.wf hg (rs.sl (rows := [icells _, icells _, icells 0]) rfl (by simp) rfl) (by simp only [List.length_append, List.length_map, List.length_cons, List.length_nil]; omega)) ?_)) <;> (rintro v C' ⟨rfl, hfv⟩)) <;> ((refine .cons (q hX rfl ?_))) <;> (refine .nil (.intro rfl ?_)))
    | (refine WCX.region (id := 25) ?_; ((refine .cons (qa rfl rfl rfl rfl rfl (wrapF_i64 (by first | omega | (simp only [Int.ofNat_eq_natCast]; omega)) (by first | omega | (simp only [Int.ofNat_eq_natCast]; omega))) rfl rfl ?_))) <;> ((refine .cons (q hX rfl ?_))) <;> (refine .nil (.intro rfl ?_)))
    | refine WCX.cond_true rfl ?_
    | refine WCX.cond_false rfl ?_
    | refine WCX.skip ?_
    | refine WCX.block ?_
    | refine WCX.exit ?_
    | refine ToX.exit_seq ?_
    | refine ToX.exit_block ?_
    | refine ToX.nrm_block ?_)
  · refine next (i + 1, _, _) _ _ _ (by simp only; omega) ⟨⟨rfl, rfl, rfl, rfl, rfl, trivial⟩, ⟨_, rfl⟩, ⟨_, .cons .h .nil⟩⟩ ⟨by simp only; omega, ?_, ?_, hfv (by simp)⟩
    · have h1 := hk1 (by omega)
      have h2 := hk2 (by omega)
      have h3 := hk3 (by omega)
      have h4 := hk4 (by omega)
      have h5 := hk5 (by omega)
      have h6 := (hx (by omega)).to
      have h7 := (hx (by omega)).join
      simp only
      rw [hacc3, flatMap_step (by omega) noInsn]
      simp only [List.append_assoc, List.map_cons, List.map_nil, insnE, wordI]
      congr 4
      simp only [List.cons_append, List.nil_append]
      congr 1
      · omega
      · congr 1
        · omega
        · congr 1
          congr 1
          · omega
          · congr 1
            omega
    · simp only [List.length_append, List.length_map, List.length_cons, List.length_nil]; omega
  clear next
  have hi3 : i = c.insns.length := by omega
  subst hi3
  rw [List.take_length] at hacc3
  obtain ⟨ks, n, rfl⟩ := hfr3
  refine WCX.fact (p := n = acc3.length) (fun h f => ownS.len_eq (f.pick .h)) fun hn => ?_
  subst hn
  have hform : acc3 = 65585 :: 0 :: codeE c := by
    rw [hacc3, hacc2, hacc, pre1]
    simp [codeE, List.append_assoc]
  have hml : (acc3.map wcell).length = acc3.length := List.length_map ..
  have hop : ((acc3.map wcell).set 1 (wcell (acc3.length - 2))) = (openE c).map wcell := by
    rw [hform]; rfl
  have hopw : ∀ x ∈ openE c, x < 4294967296 := by
    have hl2 : (codeE c).length < 4294967296 := by
      have : acc3.length = (codeE c).length + 2 := by rw [hform]; rfl
      omega
    intro x hx
    rcases List.mem_cons.1 hx with rfl | hx
    · decide
    · rcases List.mem_cons.1 hx with rfl | hx
      · exact hl2
      · exact codeE_lt hc x hx
  have h2l : acc3.length = (codeE c).length + 2 := by rw [hform]; rfl
  repeat' (first
    | refine ToX.nrm_seq ?_
    | refine WCX.seq ?_
    | (refine WCX.region (id := 26) ?_; (iterate 3 (refine .cons (q hX rfl ?_))) <;> ((refine .cons (qa (d := ((acc3.length - 2 : Nat) : Int)) rfl rfl rfl rfl rfl (wrap_sub (i := 2) (by omega) (by omega)) rfl rfl ?_))) <;> ((refine .cons (qw hX rfl rfl rfl rfl (wrapF_u32_nat (by omega)) rfl rfl ?_))) <;> ((refine .cons (qidxW hX rfl rfl rfl rfl rfl (show 1 < acc3.length by omega) rfl rfl ?_))) <;> ((refine .cons (qstW hX rfl rfl rfl rfl rfl .h (show 1 < (acc3.map wcell).length by omega) rfl rfl rfl ?_))) <;> (refine .nil (.intro rfl ?_)))
    | (refine WCX.region (id := 27) ?_; (iterate 2 (refine .cons (q hX rfl ?_))) <;> ((refine .cons (qcallV rfl rfl rfl rfl ca67 rfl rfl (fun h f => check_run hK _ (openE c) h f.wf (by rw [← hop]; exact ownS.rd (f.pick .h)) (by simp [openE]; omega) hopw) ?_))) <;> ((refine .cons (q hX rfl ?_))) <;> ((refine .cons (qapp hX rfl rfl rfl rfl rfl rfl rfl rfl rfl rfl rfl rfl b42 rfl rfl rfl rfl rfl (by first | exact .h | exact .t .h | exact .t (.t .h) | exact .t (.t (.t .h))) rfl (by simp only [List.length_set]; omega) rfl rfl ?_)) <;> intro kp) <;> ((refine .cons (q hX rfl ?_))) <;> (refine .nil (.intro rfl ?_)))
    | refine WCX.ret ?_
    | refine ToX.fn_ret hX rfl ?_)
  refine fun h f => ⟨_, f.chg.picks (.cons (.he ?_) .nil), rfl⟩
  have e1 : (acc3.map wcell).set 1 [HVal.int .u32 ((acc3.length - 2 : Nat) : Int)] = (openE c).map wcell := hop
  rw [e1]
  exact ownS_snoc (x := sumOf (openE c)) rfl
end Em
end Go.HL
