/- The walk: code as words, by both sides. No statement of the seat stands here. -/
import Derived.Test.YtngeipnhbigdmaaGreatDoorMC
set_option linter.unusedVariables false
set_option linter.unusedSimpArgs false
namespace Go.HL
open Go Go.Proofs
namespace Em
set_option maxRecDepth 10000
variable {K : CallFn} {base : List (Nat × HObj)}
/-! ## Bytes of a string -/
theorem codeN_append (l m : List Nat) (a : Nat) : codeN (l ++ m) a = codeN m (codeN l a) := List.foldl_append
theorem codeN_div : ∀ {l : List Nat}, (∀ x ∈ l, x < 256) → ∀ (a : Nat), codeN l a / 256 ^ l.length = a
 | [], _, a => by simp [codeN]
 | x :: l, h, a => by
  have hx := h x (by simp)
  have ih := codeN_div (l := l) (fun y hy => h y (by simp [hy])) (a * 256 + x)
  show codeN l (a * 256 + x) / 256 ^ (l.length + 1) = a
  rw [Nat.pow_succ, ← Nat.div_div_eq_div_mul, ih]
  omega
theorem sIndex_code {b : List Nat} (h : ∀ x ∈ b, x < 256) {j : Nat} (hj : j < b.length) : sIndex b.length (codeN b 0) j = b.getD j 0 := by
 have e1 : b = b.take (j + 1) ++ b.drop (j + 1) := (List.take_append_drop _ _).symm
 have e2 := codeN_div (l := b.drop (j + 1)) (fun y hy => h y (List.mem_of_mem_drop hy)) (codeN (b.take (j + 1)) 0)
 rw [← codeN_append, ← e1, List.length_drop] at e2
 unfold sIndex
 show codeN b 0 / 2 ^ (8 * (b.length - (j + 1))) % 256 = _
 rw [Nat.pow_mul, show (2 : Nat) ^ 8 = 256 by decide, e2, take_succ hj 0, codeN_append]
 have := h _ (getD_mem 0 hj)
 show (codeN (b.take j) 0 * 256 + b.getD j 0) % 256 = _
 omega
theorem wordOf_snoc (x : Nat) : ∀ (l : List Nat), wordOf (l ++ [x]) = wordOf l + 256 ^ l.length * x
 | [] => by simp [wordOf]
 | y :: l => by
  show y + 256 * wordOf (l ++ [x]) = y + 256 * wordOf l + 256 ^ (l.length + 1) * x
  rw [wordOf_snoc x l, Nat.pow_succ, Nat.mul_add, Nat.mul_comm (256 ^ l.length) 256, Nat.mul_assoc, Nat.add_assoc]
theorem shl_lt {x m : Nat} (hx : x < 256) (hm : m ≤ 3) : 2 ^ (8 * m) * x < 4294967296 := by
 obtain rfl | rfl | rfl | rfl : m = 0 ∨ m = 1 ∨ m = 2 ∨ m = 3 := by omega
 all_goals simp; omega
theorem shl_add_lt {x m a : Nat} (hx : x < 256) (hm : m ≤ 3) (ha : a < 2 ^ (8 * m)) : 2 ^ (8 * m) * x + a < 4294967296 := by
 obtain rfl | rfl | rfl | rfl : m = 0 ∨ m = 1 ∨ m = 2 ∨ m = 3 := by omega
 all_goals simp at ha ⊢; omega
theorem bin_shl32 {t x m : Nat} (hx : x < 256) (hm : m ≤ 3) : binH P .shl t (.int .u32 (x : Int)) (.int .u64 ((8 * m : Nat) : Int)) = some (.int .u32 ((2 ^ (8 * m) * x : Nat) : Int)) := by
 rw [bin_shl, show min (8 * m) (IntKind.u32.bits) = 8 * m from Nat.min_eq_left (show 8 * m ≤ 32 by omega), ← Int.natCast_mul, Nat.mul_comm, wU (shl_lt hx hm)]
theorem packs_nil : packs [] = [] := by rw [packs, dif_neg (by simp)]
theorem packs_step {l : List Nat} (h : 0 < l.length) : packs l = wordOf (l.take 4) :: packs (l.drop 4) := by rw [packs, dif_pos h]
theorem addName_run (hK : KN base K) (v : HVal) (l b : List Nat) (h : Heap) (w : Wf h) (hg : (wordsO v l).holds h) (hb : NameFine b) (hl : l.length ≤ 1000000) :
  Sp P K 64 [v, strB b] h (TrG (wordsO v l) (fun x C' => C' = [wordsO x (l ++ nameE b)] ∧ Fresh x) h) := by
 have hlen := hb.1
 have hbytes := hb.2
 refine Sp.startG (m := 1073873139) (n := 50) w hg (hK.none 64 rfl rfl _ _) Tryz.func64 rfl rfl mask64 rfl rfl ?_
 repeat' (first
  | refine ToX.a_ ?_
  | refine WCX.s_ ?_
  | (refine WCX.g_ (id := 0) ?_; (refine .cons (q hX rfl ?_)) <;> (refine .nil (.intro rfl ?_)))
  | (refine WCX.g_ (id := 1) ?_; (iterate 3 refine .cons (q hX rfl ?_)) <;> ((refine .cons (qw hX rfl rfl rfl rfl (wU (by omega)) rfl rfl ?_))) <;> (refine .cons (q hX rfl ?_)) <;> ((refine .cons (qapp hX rfl rfl rfl rfl rfl rfl rfl rfl rfl rfl rfl rfl b42 rfl rfl rfl rfl rfl (by repeat (first | exact .h | apply Pick.t)) rfl (by simp only [List.length_map]; omega) rfl rfl ?_)) <;> intro kp) <;> (refine .cons (q hX rfl ?_)) <;> (refine .nil (.intro rfl ?_)))
  | (refine WCX.g_ (id := 2) ?_; (refine .cons (q hX rfl ?_)) <;> (refine .nil (.intro rfl ?_)))
  | refine WCX.b_ ?_)
 refine WCX.loop (ι := Nat × List Nat × HVal) (fun a => [(5, .ext (i64 a.1)), (1, .ext (strB b)), (0, .ext a.2.2)]) (fun _ => []) (fun a => [wordsO a.2.2 a.2.1]) (fun a => l ++ nameE b = a.2.1 ++ packs (b.drop a.1) ∧ a.2.1.length ≤ l.length + 1 + a.1 ∧ a.1 ≤ 20 ∧ Fresh a.2.2) (fun a => b.length - a.1) (0, l ++ [b.length], _) ⟨⟨rfl, rfl, rfl, trivial⟩, ⟨_, rfl⟩, ⟨_, .cons (.he (ownS_snoc (x := b.length) rfl)) .nil⟩⟩ ⟨by simp [nameE], by simp, by simp, _, _, rfl⟩ (fun _ => rfl) (fun _ => rfl) (fun _ => rfl) ?_
 rintro ⟨i, acc, v2⟩ ⟨he, hacc, hi, hfr⟩ next
 simp only at he hacc hi hfr next ⊢
 have hdl : (b.drop i).length = b.length - i := List.length_drop
 repeat' (first
  | refine ToX.a_ ?_
  | refine WCX.s_ ?_
  | (refine WCX.g_ (id := 3) ?_; (iterate 3 refine .cons (q hX rfl ?_)) <;> ((refine .cons (qc rfl ?_ ?_)) <;> intro _) <;> (refine .nil (.intro rfl ?_)))
  | (refine WCX.g_ (id := 5) ?_; (refine .cons (q hX rfl ?_)) <;> (refine .nil (.intro rfl ?_)))
  | (refine WCX.g_ (id := 6) ?_; (iterate 2 refine .cons (q hX rfl ?_)) <;> (refine .nil (.intro rfl ?_)))
  | (refine WCX.g_ (id := 11) ?_; (iterate 2 refine .cons (q hX rfl ?_)) <;> (refine .nil (.intro rfl ?_)))
  | refine WCX.r_ ?_
  | refine WCX.t_ rfl ?_
  | refine WCX.f_ rfl ?_
  | refine WCX.k_ ?_
  | refine WCX.b_ ?_
  | refine WCX.e_ ?_
  | refine ToX.e_ ?_
  | refine ToX.c_ ?_
  | refine ToX.r_ hX rfl ?_)
 ·refine WCX.loop (ι := Nat × Nat) (fun a => [(7, .ext (i64 (i + a.1))), (6, .ext (u32 a.2)), (5, .ext (i64 i)), (1, .ext (strB b)), (0, .ext v2)]) (fun _ => []) (fun _ => [wordsO v2 acc]) (fun a => a.1 ≤ min 4 (b.length - i) ∧ a.2 = wordOf ((b.drop i).take a.1)) (fun a => min 4 (b.length - i) - a.1) (0, 0) ⟨⟨rfl, rfl, rfl, rfl, rfl, trivial⟩, ⟨_, rfl⟩, ⟨_, .cons .h .nil⟩⟩ ⟨Nat.zero_le _, rfl⟩ (fun _ => rfl) (fun _ => rfl) (fun _ => rfl) ?_
  rintro ⟨m, wd⟩ ⟨hm, hwd⟩ next2
  simp only at hm hwd next2 ⊢
  have hsx : i + m < b.length → sIndex b.length (codeN b 0) (i + m) = b.getD (i + m) 0 ∧ b.getD (i + m) 0 < 256 := fun hlt => ⟨sIndex_code hbytes hlt, hbytes _ (getD_mem 0 hlt)⟩
  have hwl : wd < 2 ^ (8 * m) := by
   have := wordOf_lt (l := (b.drop i).take m) fun x hx => hbytes x (List.mem_of_mem_drop (List.mem_of_mem_take hx))
   rw [List.length_take, hdl, Nat.min_eq_left (by omega)] at this
   rw [Nat.pow_mul, hwd]; exact this
  have hp8 : m ≤ 3 → 2 ^ (8 * m) ≤ 16777216 := fun h3 => by
   have : 2 ^ (8 * m) ≤ 2 ^ 24 := Nat.pow_le_pow_right (by decide) (by omega)
   exact this
  repeat' (first
   | refine ToX.a_ ?_
   | refine WCX.s_ ?_
   | (refine WCX.g_ (id := 7) ?_; (iterate 3 refine .cons (q hX rfl ?_)) <;> ((refine .cons (qc rfl ?_ ?_)) <;> intro _) <;> (iterate 3 refine .cons (q hX rfl ?_)) <;> (first | (refine .cons (q hX rfl ?_)) | (refine .cons (qa rfl rfl rfl rfl rfl (wI (by first | omega | (simp only [Int.ofNat_eq_natCast]; omega)) (by first | omega | (simp only [Int.ofNat_eq_natCast]; omega))) rfl rfl ?_))) <;> (first | (refine .cons (q hX rfl ?_)) | (refine .cons (qc rfl ?_ ?_)) <;> intro _) <;> (refine .cons (q hX rfl ?_)) <;> (refine .nil (.intro rfl ?_)))
   | (refine WCX.g_ (id := 9) ?_; (iterate 3 refine .cons (q hX rfl ?_)) <;> ((refine .cons (qs hX rfl rfl rfl rfl (by first | omega | (simp only [Int.ofNat_eq_natCast]; omega)) rfl rfl ?_))) <;> ((refine .cons (qw (b := ((b.getD (i + m) 0 : Nat) : Int)) hX rfl rfl rfl rfl (by rw [(hsx (by omega)).1, Int.ofNat_eq_natCast]; exact wU (by have := (hsx (by omega)).2; omega)) rfl rfl ?_))) <;> (iterate 2 refine .cons (q hX rfl ?_)) <;> ((refine .cons (qa (d := (m : Int)) rfl rfl rfl rfl rfl (by rw [wI (by omega) (by omega)]; omega) rfl rfl ?_))) <;> ((refine .cons (qw hX rfl rfl rfl rfl (wrapF_u64_nat (by omega)) rfl rfl ?_))) <;> ((refine .cons (qa (d := ((8 * m : Nat) : Int)) rfl rfl rfl rfl rfl (wrap_mul64 (a := 8) (by omega)) rfl rfl ?_))) <;> ((refine .cons (qn rfl rfl rfl (bin_shl32 (hsx (by omega)).2 (by omega)) rfl rfl ?_))) <;> ((refine .cons (qn rfl rfl rfl (bin_or32 hwl (shl_lt (hsx (by omega)).2 (by omega)) (shl_add_lt (hsx (by omega)).2 (by omega) hwl)) rfl rfl ?_))) <;> (refine .cons (q hX rfl ?_)) <;> (refine .nil (.intro rfl ?_)))
   | (refine WCX.g_ (id := 8) ?_; (refine .cons (q hX rfl ?_)) <;> ((refine .cons (qa rfl rfl rfl rfl rfl (wI (by first | omega | (simp only [Int.ofNat_eq_natCast]; omega)) (by first | omega | (simp only [Int.ofNat_eq_natCast]; omega))) rfl rfl ?_))) <;> (refine .cons (q hX rfl ?_)) <;> (refine .nil (.intro rfl ?_)))
   | (refine WCX.g_ (id := 10) ?_; (iterate 3 refine .cons (q hX rfl ?_)) <;> ((refine .cons (qapp hX rfl rfl rfl rfl rfl rfl rfl rfl rfl rfl rfl rfl b42 rfl rfl rfl rfl rfl (by repeat (first | exact .h | apply Pick.t)) rfl (by simp only [List.length_map]; omega) rfl rfl ?_)) <;> intro kp) <;> (refine .cons (q hX rfl ?_)) <;> (refine .nil (.intro rfl ?_)))
   | (refine WCX.g_ (id := 4) ?_; (refine .cons (q hX rfl ?_)) <;> ((refine .cons (qa rfl rfl rfl rfl rfl (wI (by first | omega | (simp only [Int.ofNat_eq_natCast]; omega)) (by first | omega | (simp only [Int.ofNat_eq_natCast]; omega))) rfl rfl ?_))) <;> (refine .cons (q hX rfl ?_)) <;> (refine .nil (.intro rfl ?_)))
   | refine WCX.t_ rfl ?_
   | refine WCX.f_ rfl ?_
   | refine WCX.k_ ?_
   | refine WCX.b_ ?_
   | refine WCX.e_ ?_
   | refine ToX.e_ ?_
   | refine ToX.c_ ?_
   | refine ToX.b_ ?_)
  ·refine next2 (m + 1, _) _ _ _ (by simp only; omega) ⟨⟨rfl, rfl, rfl, rfl, rfl, trivial⟩, ⟨_, rfl⟩, ⟨_, .cons .h .nil⟩⟩ ⟨by simp only; omega, ?_⟩
   have hlt : m < (b.drop i).length := by omega
   simp only
   rw [take_succ hlt 0, wordOf_snoc, hwd, List.length_take, Nat.min_eq_left (by omega), show (b.drop i).getD m 0 = b.getD (i + m) 0 by simp [List.getD, List.getElem?_drop], Nat.pow_mul, Nat.add_comm]
  all_goals
   clear next2
   have hm4 : m = min 4 (b.length - i) := by omega
   have hwd4 : wd = wordOf ((b.drop i).take 4) := by
    rw [hwd, hm4]
    congr 1
    by_cases h4 : 4 ≤ b.length - i
    ·rw [Nat.min_eq_left h4]
    ·rw [Nat.min_eq_right (by omega), List.take_of_length_le (by omega), List.take_of_length_le (by omega)]
   refine next (i + 4, acc ++ [wd], _) _ _ _ (by simp only; omega) ⟨⟨rfl, rfl, rfl, trivial⟩, ⟨_, rfl⟩, ⟨_, .cons (.he (ownS_snoc (x := wd) rfl)) .nil⟩⟩ ⟨?_, by simp only [List.length_append, List.length_singleton]; omega, by simp only; omega, _, _, rfl⟩
   simp only
   rw [he, packs_step (by omega), List.drop_drop, hwd4, List.append_assoc]
   rfl
 ·have hn : b.drop i = [] := List.drop_of_length_le (by omega)
  rw [hn, packs_nil, List.append_nil] at he
  exact fun h f => ⟨_, f.chg, by rw [he]; rfl, hfr⟩
end Em
end Go.HL
namespace Go.HL
open Go Go.Proofs
namespace Em
set_option maxRecDepth 10000
set_option maxHeartbeats 4000000
variable {K : CallFn} {base : List (Nat × HObj)}
def codeRB (c : CodeB) (pv sv iv : HVal) : Part := (rd pv 2 (c.params.map pcell)).both ((rd sv 2 (c.shared.map acell)).both (rd iv 8 (c.insns.map icell)))
def noPB : List Nat × Bool := ([], false)
def noAB : List Nat × Nat := ([], 0)
theorem packs_len : ∀ (k : Nat) (l : List Nat), l.length = k → (packs l).length ≤ k := by
 intro k
 induction k using Nat.strongRecOn with
 | _ k ih =>
  intro l hl
  by_cases h0 : 0 < l.length
  ·rw [packs_step h0]
   have := ih (l.drop 4).length (by rw [List.length_drop]; omega) (l.drop 4) rfl
   rw [List.length_drop] at this
   simp only [List.length_cons]
   omega
  ·rw [show l = [] from List.eq_nil_of_length_eq_zero (by omega), packs_nil]; simp
theorem nameE_len {b : List Nat} (h : NameFine b) : (nameE b).length ≤ 17 := by
 have := packs_len _ b rfl
 have := h.1
 simp only [nameE, List.length_cons]; omega
theorem flatMap_step {α : Type} {l : List α} {g : α → List Nat} {i : Nat} (hi : i < l.length) (d : α) : (l.take (i + 1)).flatMap g = (l.take i).flatMap g ++ g (l.getD i d) := by
 rw [take_succ hi d, List.flatMap_append]; simp
theorem wordI_nat {n : Nat} (h : n < 4294967296) : wordI (n : Int) = n := by unfold wordI; omega
def pre1 (c : CodeB) : List Nat := [65585, 0] ++ nameE c.name ++ [c.params.length]
theorem packs_lt : ∀ (k : Nat) (l : List Nat), l.length = k → (∀ x ∈ l, x < 256) → ∀ x ∈ packs l, x < 4294967296 := by
 intro k
 induction k using Nat.strongRecOn with
 | _ k ih =>
  intro l hl hb x hx
  by_cases h0 : 0 < l.length
  ·rw [packs_step h0] at hx
   rcases List.mem_cons.1 hx with rfl | hx
   ·exact wordOf_take hb
   ·exact ih (l.drop 4).length (by rw [List.length_drop]; omega) (l.drop 4) rfl (fun y hy => hb y (List.mem_of_mem_drop hy)) x hx
  ·rw [show l = [] from List.eq_nil_of_length_eq_zero (by omega), packs_nil] at hx; simp at hx
theorem nameE_lt {b : List Nat} (h : NameFine b) : ∀ x ∈ nameE b, x < 4294967296 := by
 intro x hx
 have := h.1
 rcases List.mem_cons.1 hx with rfl | hx
 ·omega
 ·exact packs_lt _ b rfl h.2 x hx
theorem codeE_lt {c : CodeB} (hc : CodeFine c) : ∀ x ∈ codeE c, x < 4294967296 := by
 have b1 := hc.params
 have b2 := hc.shared
 have b3 := hc.insns
 have b4 := hc.local
 intro x hx
 simp only [codeE, List.mem_append, List.mem_flatMap, List.mem_singleton, List.not_mem_nil, or_false] at hx
 rcases hx with hx | hx | ⟨p, hp, hx⟩ | hx | ⟨p, hp, hx⟩ | hx | hx | ⟨y, hy, hx⟩
 ·exact nameE_lt hc.name x hx
 ·omega
 ·simp only [paramE, List.mem_append, List.mem_singleton] at hx
  rcases hx with hx | hx
  ·exact nameE_lt (hc.pname p hp) x hx
  ·subst hx; split <;> omega
 ·omega
 ·simp only [arrayE, List.mem_append, List.mem_singleton] at hx
  have hs := hc.sname p hp
  rcases hx with hx | hx
  ·exact nameE_lt hs.1 x hx
  ·omega
 ·omega
 ·omega
 ·have h := hc.each y hy
  have h1 := h.kind
  have h2 := h.op
  have h3 := h.d
  have h4 := h.a
  have h5 := h.b
  have h6 := h.to
  have h7 := h.join
  simp only [insnE, List.mem_cons, List.not_mem_nil, or_false] at hx
  omega
theorem encode_run (hK : KN base K) (c : CodeB) (pv sv iv : HVal) (h : Heap) (w : Wf h) (hc : CodeFine c) (hr : (codeRB c pv sv iv).holds h) :
  Sp P K 28 [codeV c pv sv iv] h (Tr (fun v C' => C' = [wordsO v (wholeE c)]) h) := by
 have hp := hr.1
 have hs := hr.2.1
 have hi := hr.2.2
 have lp := rd_len hp
 have ls := rd_len hs
 have li := rd_len hi
 have b1 := hc.params
 have b2 := hc.shared
 have b3 := hc.insns
 have b4 := hc.local
 have bn := nameE_len hc.name
 refine Sp.start (m := 70835501465177981715119) (n := 121) w (hK.none 28 rfl rfl _ _) Tryz.func28 rfl rfl mask28 rfl rfl ?_
 repeat' (first
  | refine ToX.a_ ?_
  | refine WCX.s_ ?_
  | (refine WCX.g_ (id := 0) ?_; (iterate 2 refine .cons (q hX rfl ?_)) <;> (refine .nil (.intro rfl ?_)))
  | (refine WCX.g_ (id := 1) ?_; (iterate 2 refine .cons (q hX rfl ?_)) <;> (refine .nil (.intro rfl ?_))))
 refine WCX.leak 1 (fun k => wordsO (.slice k 0 2 (some 2)) [65585, 0]) rfl (fun k => .own rfl (by simp [wcell]) rfl) (fun _ => rfl) rfl fun k0 => ?_
 repeat' (first
  | refine ToX.a_ ?_
  | refine WCX.s_ ?_
  | (refine WCX.g_ (id := 2) ?_; (iterate 3 refine .cons (q hX rfl ?_)) <;> ((refine .cons (qcallG rfl rfl rfl rfl ca64 rfl rfl (by repeat (first | exact .h | apply Pick.t)) rfl (fun h f hg ro rg => addName_run hK _ _ c.name h f.wf hg hc.name (by decide)) ?_)) <;> (rintro v C' ⟨rfl, hfv⟩)) <;> (refine .cons (q hX rfl ?_)) <;> (refine .nil (.intro rfl ?_)))
  | (refine WCX.g_ (id := 3) ?_; (iterate 3 refine .cons (q hX rfl ?_)) <;> ((refine .cons (ql hX rfl rfl rfl rfl rfl rfl (by assumption) rfl rfl ?_))) <;> (refine .cons (q hX rfl ?_)) <;> ((refine .cons (qcallGS rfl rfl rfl rfl rfl rfl rfl ca65 rfl rfl (by repeat (first | exact .h | apply Pick.t)) rfl (fun k h f hg rs => add_run hK _ _ _ [(c.params.length : Int)] h f.wf hg (rs.sl (rows := [icells c.params.length]) rfl (by simp) rfl) (by simp; omega)) ?_)) <;> (rintro v C' ⟨rfl, hfv⟩)) <;> (refine .cons (q hX rfl ?_)) <;> (refine .nil (.intro rfl ?_)))
  | (refine WCX.g_ (id := 4) ?_; (iterate 2 refine .cons (q hX rfl ?_)) <;> ((refine .cons (ql hX rfl rfl rfl rfl rfl rfl (by assumption) rfl rfl ?_))) <;> (refine .cons (q hX rfl ?_)) <;> (refine .nil (.intro rfl ?_)))
  | refine WCX.b_ ?_)
 refine WCX.loop (ι := Nat × List Nat × HVal) (fun a => [(24, .ext (i64 a.1)), (23, .ext (i64 c.params.length)), (22, .ext pv), (3, .ext a.2.2), (1, .ptr 0 0)]) (fun _ => [.own [strB c.name, pv, sv, i64 c.local, iv] 26 false, .gone]) (fun a => [wordsO a.2.2 a.2.1]) (fun a => a.1 ≤ c.params.length ∧ a.2.1 = pre1 c ++ (c.params.take a.1).flatMap paramE ∧ a.2.1.length ≤ 100 + 30 * a.1) (fun a => c.params.length - a.1) (0, _, _) ⟨⟨rfl, rfl, rfl, rfl, rfl, trivial⟩, ⟨_, rfl⟩, ⟨_, .cons .h .nil⟩⟩ ⟨Nat.zero_le _, by simp only [List.map_cons, List.map_nil, wordI_nat (show c.params.length < 4294967296 by omega), pre1, List.take_zero, List.flatMap_nil, List.append_nil], by simp; omega⟩ (fun _ => rfl) (fun _ => rfl) (fun _ => rfl) ?_
 rintro ⟨i, acc, v2⟩ ⟨hi2, hacc, hal⟩ next
 simp only at hi2 hacc hal next ⊢
 have hnm : i < c.params.length → NameFine (c.params.getD i noPB).1 := fun hlt => hc.pname _ (getD_mem _ hlt)
 have hnl : i < c.params.length → (nameE (c.params.getD i noPB).1).length ≤ 17 := fun hlt => nameE_len (hnm hlt)
 repeat' (first
  | refine ToX.a_ ?_
  | refine WCX.s_ ?_
  | (refine WCX.g_ (id := 5) ?_; ((refine .cons (qc rfl ?_ ?_)) <;> intro _) <;> (refine .nil (.intro rfl ?_)))
  | (refine WCX.g_ (id := 6) ?_; ((refine .cons (qidx hX rfl rfl rfl rfl rfl (.of hp) (row_i noPB (by omega)) rfl rfl rfl ?_))) <;> (iterate 3 refine .cons (q hX rfl ?_)) <;> (refine .nil (.intro rfl ?_)))
  | (refine WCX.g_ (id := 7) ?_; (iterate 3 refine .cons (q hX rfl ?_)) <;> ((refine .cons (qcallG rfl rfl rfl rfl ca64 rfl rfl (by repeat (first | exact .h | apply Pick.t)) rfl (fun h f hg ro rg => addName_run hK _ _ (c.params.getD i noPB).1 h f.wf hg (hnm (by omega)) (by omega)) ?_)) <;> (rintro v C' ⟨rfl, hfv⟩)) <;> (refine .cons (q hX rfl ?_)) <;> (refine .nil (.intro rfl ?_)))
  | (refine WCX.g_ (id := 8) ?_; (refine .cons (q hX rfl ?_)) <;> ((refine .cons (qb hX rfl ?_ ?_)) <;> (intro hbl; (first | (cases hbl; done) | skip))) <;> (refine .nil (.intro rfl ?_)))
  | (refine WCX.g_ (id := 9) ?_; (iterate 2 refine .cons (q hX rfl ?_)) <;> ((refine .cons (qcallGS rfl rfl rfl rfl rfl rfl rfl ca65 rfl rfl (by repeat (first | exact .h | apply Pick.t)) rfl (fun k h f hg rs => add_run hK _ _ _ [1] h f.wf hg (rs.sl (rows := [icells 1]) rfl (by simp) rfl) (by simp only [List.length_append, List.length_cons, List.length_nil]; omega)) ?_)) <;> (rintro v C' ⟨rfl, hfv⟩)) <;> (refine .cons (q hX rfl ?_)) <;> (refine .nil (.intro rfl ?_)))
  | (refine WCX.g_ (id := 10) ?_; (iterate 2 refine .cons (q hX rfl ?_)) <;> ((refine .cons (qcallGS rfl rfl rfl rfl rfl rfl rfl ca65 rfl rfl (by repeat (first | exact .h | apply Pick.t)) rfl (fun k h f hg rs => add_run hK _ _ _ [0] h f.wf hg (rs.sl (rows := [icells 0]) rfl (by simp) rfl) (by simp only [List.length_append, List.length_cons, List.length_nil]; omega)) ?_)) <;> (rintro v C' ⟨rfl, hfv⟩)) <;> (refine .cons (q hX rfl ?_)) <;> (refine .nil (.intro rfl ?_)))
  | (refine WCX.g_ (id := 11) ?_; ((refine .cons (qa rfl rfl rfl rfl rfl (wI (by first | omega | (simp only [Int.ofNat_eq_natCast]; omega)) (by first | omega | (simp only [Int.ofNat_eq_natCast]; omega))) rfl rfl ?_))) <;> (refine .cons (q hX rfl ?_)) <;> (refine .nil (.intro rfl ?_)))
  | refine WCX.t_ rfl ?_
  | refine WCX.f_ rfl ?_
  | refine WCX.k_ ?_
  | refine WCX.b_ ?_
  | refine WCX.e_ ?_
  | refine ToX.e_ ?_
  | refine ToX.c_ ?_
  | refine ToX.b_ ?_)
 ·refine next (i + 1, _, _) _ _ _ (by simp only; omega) ⟨⟨rfl, rfl, rfl, rfl, rfl, trivial⟩, ⟨_, rfl⟩, ⟨_, .cons .h .nil⟩⟩ ⟨by simp only; omega, ?_, ?_⟩
  ·simp only
   rw [hacc, flatMap_step (by omega) noPB, List.append_assoc, List.append_assoc]
   congr 2
   simp only [paramE, hbl, if_true]; rfl
  ·have := hnl (by omega)
   simp only [List.length_append, List.length_map, List.length_cons, List.length_nil]; omega
 ·refine next (i + 1, _, _) _ _ _ (by simp only; omega) ⟨⟨rfl, rfl, rfl, rfl, rfl, trivial⟩, ⟨_, rfl⟩, ⟨_, .cons .h .nil⟩⟩ ⟨by simp only; omega, ?_, ?_⟩
  ·simp only
   rw [hacc, flatMap_step (by omega) noPB, List.append_assoc, List.append_assoc]
   congr 2
   simp only [paramE, hbl]; rfl
  ·have := hnl (by omega)
   simp only [List.length_append, List.length_map, List.length_cons, List.length_nil]; omega
 clear next
 have hi3 : i = c.params.length := by omega
 subst hi3
 rw [List.take_length] at hacc
 have h17 : acc.length ≤ 280 := by omega
 repeat' (first
  | refine ToX.a_ ?_
  | refine WCX.s_ ?_
  | (refine WCX.g_ (id := 12) ?_; (iterate 3 refine .cons (q hX rfl ?_)) <;> ((refine .cons (ql hX rfl rfl rfl rfl rfl rfl (by assumption) rfl rfl ?_))) <;> (refine .cons (q hX rfl ?_)) <;> ((refine .cons (qcallGS rfl rfl rfl rfl rfl rfl rfl ca65 rfl rfl (by repeat (first | exact .h | apply Pick.t)) rfl (fun k h f hg rs => add_run hK _ _ _ [(c.shared.length : Int)] h f.wf hg (rs.sl (rows := [icells c.shared.length]) rfl (by simp) rfl) (by simp; omega)) ?_)) <;> (rintro v C' ⟨rfl, hfv⟩)) <;> (refine .cons (q hX rfl ?_)) <;> (refine .nil (.intro rfl ?_)))
  | (refine WCX.g_ (id := 13) ?_; (iterate 2 refine .cons (q hX rfl ?_)) <;> ((refine .cons (ql hX rfl rfl rfl rfl rfl rfl (by assumption) rfl rfl ?_))) <;> (refine .cons (q hX rfl ?_)) <;> (refine .nil (.intro rfl ?_)))
  | refine WCX.b_ ?_)
 refine WCX.loop (ι := Nat × List Nat × HVal) (fun a => [(50, .ext (i64 a.1)), (49, .ext (i64 c.shared.length)), (48, .ext sv), (3, .ext a.2.2), (1, .ptr 0 0)]) (fun _ => [.own [strB c.name, pv, sv, i64 c.local, iv] 26 false, .gone]) (fun a => [wordsO a.2.2 a.2.1]) (fun a => a.1 ≤ c.shared.length ∧ a.2.1 = acc ++ [c.shared.length] ++ (c.shared.take a.1).flatMap arrayE ∧ a.2.1.length ≤ 300 + 30 * a.1) (fun a => c.shared.length - a.1) (0, _, _) ⟨⟨rfl, rfl, rfl, rfl, rfl, trivial⟩, ⟨_, rfl⟩, ⟨_, .cons .h .nil⟩⟩ ⟨Nat.zero_le _, by simp only [List.map_cons, List.map_nil, wordI_nat (show c.shared.length < 4294967296 by omega), List.take_zero, List.flatMap_nil, List.append_nil], by simp; omega⟩ (fun _ => rfl) (fun _ => rfl) (fun _ => rfl) ?_
 rintro ⟨i, acc2, v3⟩ ⟨hi2, hacc2, hal2⟩ next
 simp only at hi2 hacc2 hal2 next ⊢
 have hnm : i < c.shared.length → NameFine (c.shared.getD i noAB).1 ∧ (c.shared.getD i noAB).2 ≤ 64 := fun hlt => hc.sname _ (getD_mem _ hlt)
 have hnl : i < c.shared.length → (nameE (c.shared.getD i noAB).1).length ≤ 17 := fun hlt => nameE_len (hnm hlt).1
 repeat' (first
  | refine ToX.a_ ?_
  | refine WCX.s_ ?_
  | (refine WCX.g_ (id := 14) ?_; ((refine .cons (qc rfl ?_ ?_)) <;> intro _) <;> (refine .nil (.intro rfl ?_)))
  | (refine WCX.g_ (id := 15) ?_; ((refine .cons (qidx hX rfl rfl rfl rfl rfl (.of hs) (row_i noAB (by omega)) rfl rfl rfl ?_))) <;> (iterate 3 refine .cons (q hX rfl ?_)) <;> (refine .nil (.intro rfl ?_)))
  | (refine WCX.draw (id := 16) tab [0, 1, 2, 4, 5, 6, 3, 7, 8] #[0, 0, 2, 7, 0, 16, 48, 127, 255] (by kernel_rfl) (by kernel_rfl) (by kernel_rfl) ?_; (iterate 2 refine .cq hX rfl rfl rfl ?_) <;> ((refine .cons rfl (q hX rfl ?_)) <;> refine ⟨_, .rdB hX.tab rfl rfl rfl rfl rfl rfl rfl rfl (suB rfl) rfl rfl rfl, ?_⟩) <;> (refine .cq hX rfl rfl rfl ?_) <;> ((refine .cons rfl (q hX rfl ?_)) <;> refine ⟨_, .rdB hX.tab rfl rfl rfl rfl rfl rfl rfl rfl (suB rfl) rfl rfl rfl, ?_⟩) <;> (refine .cq hX rfl rfl rfl ?_) <;> ((refine .cons rfl (qcallG rfl rfl rfl rfl ca64 rfl rfl (by repeat (first | exact .h | apply Pick.t)) rfl (fun h f hg ro rg => addName_run hK _ _ (c.shared.getD i noAB).1 h f.wf hg (hnm (by omega)).1 (by omega)) ?_)) <;> (rintro v C' ⟨rfl, hfv⟩) <;> refine ⟨_, .comp rfl, ?_⟩) <;> ((refine .cons rfl (qcallGS rfl rfl rfl rfl rfl rfl rfl ca65 rfl rfl (by repeat (first | exact .h | apply Pick.t)) rfl (fun k h f hg rs => add_run hK _ _ _ [((c.shared.getD i noAB).2 : Int)] h f.wf hg (rs.sl (rows := [icells (c.shared.getD i noAB).2]) rfl (by simp) rfl) (by simp only [List.length_append, List.length_cons, List.length_nil]; omega)) ?_)) <;> (rintro v C' ⟨rfl, hfv⟩) <;> refine ⟨_, .comp rfl, ?_⟩) <;> (refine .cq hX rfl rfl rfl ?_) <;> (refine .nil ⟨?_, .intro rfl ?_⟩ <;> (repeat' (first | exact trivial | exact .inl rfl | exact .inr (.inl ⟨_, _, _, _, rfl, rfl, rfl⟩) | refine ⟨?_, ?_⟩))))
  | (refine WCX.g_ (id := 17) ?_; ((refine .cons (qa rfl rfl rfl rfl rfl (wI (by first | omega | (simp only [Int.ofNat_eq_natCast]; omega)) (by first | omega | (simp only [Int.ofNat_eq_natCast]; omega))) rfl rfl ?_))) <;> (refine .cons (q hX rfl ?_)) <;> (refine .nil (.intro rfl ?_)))
  | refine WCX.t_ rfl ?_
  | refine WCX.f_ rfl ?_
  | refine WCX.k_ ?_
  | refine WCX.b_ ?_
  | refine WCX.e_ ?_
  | refine ToX.e_ ?_
  | refine ToX.c_ ?_
  | refine ToX.b_ ?_)
 ·refine next (i + 1, _, _) _ _ _ (by simp only; omega) ⟨⟨rfl, rfl, rfl, rfl, rfl, trivial⟩, ⟨_, rfl⟩, ⟨_, .cons .h .nil⟩⟩ ⟨by simp only; omega, ?_, ?_⟩
  ·have := (hnm (by omega)).2
   simp only
   rw [hacc2, flatMap_step (by omega) noAB, List.map_cons, List.map_nil, wordI_nat (by omega)]
   simp only [List.append_assoc]; rfl
  ·have := hnl (by omega)
   simp only [List.length_append, List.length_map, List.length_cons, List.length_nil]; omega
 clear next
 have hi3 : i = c.shared.length := by omega
 subst hi3
 rw [List.take_length] at hacc2
 have h18 : acc2.length ≤ 420 := by omega
 repeat' (first
  | refine ToX.a_ ?_
  | refine WCX.s_ ?_
  | (refine WCX.g_ (id := 18) ?_; (iterate 5 refine .cons (q hX rfl ?_)) <;> ((refine .cons (ql hX rfl rfl rfl rfl rfl rfl (by assumption) rfl rfl ?_))) <;> (refine .cons (q hX rfl ?_)) <;> ((refine .cons (qcallGS rfl rfl rfl rfl rfl rfl rfl ca65 rfl rfl (by repeat (first | exact .h | apply Pick.t)) rfl (fun k h f hg rs => add_run hK _ _ _ [(c.local : Int), (c.insns.length : Int)] h f.wf hg (rs.sl (rows := [icells c.local, icells c.insns.length]) rfl (by simp) rfl) (by simp; omega)) ?_)) <;> (rintro v C' ⟨rfl, hfv⟩)) <;> (refine .cons (q hX rfl ?_)) <;> (refine .nil (.intro rfl ?_)))
  | (refine WCX.g_ (id := 19) ?_; (iterate 2 refine .cons (q hX rfl ?_)) <;> ((refine .cons (ql hX rfl rfl rfl rfl rfl rfl (by assumption) rfl rfl ?_))) <;> (refine .cons (q hX rfl ?_)) <;> (refine .nil (.intro rfl ?_)))
  | refine WCX.b_ ?_)
 refine WCX.loop (ι := Nat × List Nat × HVal) (fun a => [(74, .ext (i64 a.1)), (73, .ext (i64 c.insns.length)), (72, .ext iv), (3, .ext a.2.2), (1, .ptr 0 0)]) (fun _ => [.own [strB c.name, pv, sv, i64 c.local, iv] 26 false, .gone]) (fun a => [wordsO a.2.2 a.2.1]) (fun a => a.1 ≤ c.insns.length ∧ a.2.1 = acc2 ++ [c.local, c.insns.length] ++ (c.insns.take a.1).flatMap insnE ∧ a.2.1.length ≤ 500 + 6 * a.1 ∧ Fresh a.2.2) (fun a => c.insns.length - a.1) (0, _, _) ⟨⟨rfl, rfl, rfl, rfl, rfl, trivial⟩, ⟨_, rfl⟩, ⟨_, .cons .h .nil⟩⟩ ⟨Nat.zero_le _, by simp only [List.map_cons, List.map_nil, wordI_nat (show c.insns.length < 4294967296 by omega), wordI_nat (show c.local < 4294967296 by omega), List.take_zero, List.flatMap_nil, List.append_nil], by simp; omega, hfv (by simp)⟩ (fun _ => rfl) (fun _ => rfl) (fun _ => rfl) ?_
 rintro ⟨i, acc3, v3⟩ ⟨hi2, hacc3, hal3, hfr3⟩ next
 simp only at hi2 hacc3 hal3 hfr3 next ⊢
 have hx : i < c.insns.length → InsnFine (c.insns.getD i noInsn) := fun hlt => hc.each _ (getD_mem _ hlt)
 have hk1 : i < c.insns.length → 0 ≤ (c.insns.getD i noInsn).kind ∧ (c.insns.getD i noInsn).kind < 256 := fun hlt => (hx hlt).kind
 have hk2 : i < c.insns.length → 0 ≤ (c.insns.getD i noInsn).op ∧ (c.insns.getD i noInsn).op < 256 := fun hlt => (hx hlt).op
 have hk3 : i < c.insns.length → 0 ≤ (c.insns.getD i noInsn).d ∧ (c.insns.getD i noInsn).d < 256 := fun hlt => (hx hlt).d
 have hk4 : i < c.insns.length → 0 ≤ (c.insns.getD i noInsn).a ∧ (c.insns.getD i noInsn).a < 256 := fun hlt => (hx hlt).a
 have hk5 : i < c.insns.length → 0 ≤ (c.insns.getD i noInsn).b ∧ (c.insns.getD i noInsn).b < 256 := fun hlt => (hx hlt).b
 repeat' (first
  | refine ToX.a_ ?_
  | refine WCX.s_ ?_
  | (refine WCX.g_ (id := 20) ?_; ((refine .cons (qc rfl ?_ ?_)) <;> intro _) <;> (refine .nil (.intro rfl ?_)))
  | (refine WCX.g_ (id := 21) ?_; ((refine .cons (qidx hX rfl rfl rfl rfl rfl (.of hi) (row_i noInsn (by omega)) rfl rfl rfl ?_))) <;> (iterate 3 refine .cons (q hX rfl ?_)) <;> (refine .nil (.intro rfl ?_)))
  | (refine WCX.g_ (id := 22) ?_; (iterate 5 refine .cons (q hX rfl ?_)) <;> ((refine .cons (qa rfl rfl rfl rfl rfl (wI (by omega) (by omega)) rfl rfl ?_))) <;> ((refine .cons (qa rfl rfl rfl rfl rfl (wI (by first | omega | (simp only [Int.ofNat_eq_natCast]; omega)) (by first | omega | (simp only [Int.ofNat_eq_natCast]; omega))) rfl rfl ?_))) <;> (iterate 4 refine .cons (q hX rfl ?_)) <;> ((refine .cons (qa rfl rfl rfl rfl rfl (wI (by omega) (by omega)) rfl rfl ?_))) <;> ((refine .cons (qa rfl rfl rfl rfl rfl (wI (by first | omega | (simp only [Int.ofNat_eq_natCast]; omega)) (by first | omega | (simp only [Int.ofNat_eq_natCast]; omega))) rfl rfl ?_))) <;> (iterate 2 refine .cons (q hX rfl ?_)) <;> ((refine .cons (qa rfl rfl rfl rfl rfl (wI (by omega) (by omega)) rfl rfl ?_))) <;> ((refine .cons (qa rfl rfl rfl rfl rfl (wI (by first | omega | (simp only [Int.ofNat_eq_natCast]; omega)) (by first | omega | (simp only [Int.ofNat_eq_natCast]; omega))) rfl rfl ?_))) <;> (refine .cons (q hX rfl ?_)) <;> ((refine .cons (qcallGS rfl rfl rfl rfl rfl rfl rfl ca65 rfl rfl (by repeat (first | exact .h | apply Pick.t)) rfl (fun k h f hg rs => add_run hK _ _ _ [(c.insns.getD i noInsn).kind + 256 * (c.insns.getD i noInsn).op, (c.insns.getD i noInsn).d + 256 * (c.insns.getD i noInsn).a + 65536 * (c.insns.getD i noInsn).b] h f.wf hg (rs.sl (rows := [icells _, icells _]) rfl (by simp) rfl) (by simp only [List.length_append, List.length_cons, List.length_nil]; omega)) ?_)) <;> (rintro v C' ⟨rfl, hfv⟩)) <;> (refine .cons (q hX rfl ?_)) <;> (refine .nil (.intro rfl ?_)))
  | (refine WCX.g_ (id := 23) ?_; (iterate 4 refine .cons (q hX rfl ?_)) <;> ((refine .cons (qcallGS rfl rfl rfl rfl rfl rfl rfl ca66 rfl rfl (by repeat (first | exact .h | apply Pick.t)) rfl (fun k h f hg rs => add32_run hK _ _ _ [(c.insns.getD i noInsn).imm] h f.wf hg (rs.sl (rows := [jcells _]) rfl (by simp) rfl) (by simp only [List.length_append, List.length_map, List.length_cons, List.length_nil]; omega)) ?_)) <;> (rintro v C' ⟨rfl, hfv⟩)) <;> (refine .cons (q hX rfl ?_)) <;> (refine .nil (.intro rfl ?_)))
  | (refine WCX.g_ (id := 24) ?_; (iterate 6 refine .cons (q hX rfl ?_)) <;> ((refine .cons (qcallGS rfl rfl rfl rfl rfl rfl rfl ca65 rfl rfl (by repeat (first | exact .h | apply Pick.t)) rfl (fun k h f hg rs => add_run hK _ _ _ [(c.insns.getD i noInsn).to, (c.insns.getD i noInsn).join, 0] h f.wf hg (rs.sl (rows := [icells _, icells _, icells 0]) rfl (by simp) rfl) (by simp only [List.length_append, List.length_map, List.length_cons, List.length_nil]; omega)) ?_)) <;> (rintro v C' ⟨rfl, hfv⟩)) <;> (refine .cons (q hX rfl ?_)) <;> (refine .nil (.intro rfl ?_)))
  | (refine WCX.g_ (id := 25) ?_; ((refine .cons (qa rfl rfl rfl rfl rfl (wI (by first | omega | (simp only [Int.ofNat_eq_natCast]; omega)) (by first | omega | (simp only [Int.ofNat_eq_natCast]; omega))) rfl rfl ?_))) <;> (refine .cons (q hX rfl ?_)) <;> (refine .nil (.intro rfl ?_)))
  | refine WCX.t_ rfl ?_
  | refine WCX.f_ rfl ?_
  | refine WCX.k_ ?_
  | refine WCX.b_ ?_
  | refine WCX.e_ ?_
  | refine ToX.e_ ?_
  | refine ToX.c_ ?_
  | refine ToX.b_ ?_)
 ·refine next (i + 1, _, _) _ _ _ (by simp only; omega) ⟨⟨rfl, rfl, rfl, rfl, rfl, trivial⟩, ⟨_, rfl⟩, ⟨_, .cons .h .nil⟩⟩ ⟨by simp only; omega, ?_, ?_, hfv (by simp)⟩
  ·have h1 := hk1 (by omega)
   have h2 := hk2 (by omega)
   have h3 := hk3 (by omega)
   have h4 := hk4 (by omega)
   have h5 := hk5 (by omega)
   have h6 := (hx (by omega)).to
   have h7 := (hx (by omega)).join
   simp only
   rw [hacc3, flatMap_step (by omega) noInsn]
   simp only [List.append_assoc, List.map_cons, List.map_nil, insnE, wordI]
   congr 4
   simp only [List.cons_append, List.nil_append]
   congr 1
   ·omega
   ·congr 1
    ·omega
    ·congr 1
     congr 1
     ·omega
     ·congr 1
      omega
  ·simp only [List.length_append, List.length_map, List.length_cons, List.length_nil]; omega
 clear next
 have hi3 : i = c.insns.length := by omega
 subst hi3
 rw [List.take_length] at hacc3
 obtain ⟨ks, n, rfl⟩ := hfr3
 refine WCX.fact (p := n = acc3.length) (fun h f => ownS.len_eq (f.pick .h)) fun hn => ?_
 subst hn
 have hform : acc3 = 65585 :: 0 :: codeE c := by
  rw [hacc3, hacc2, hacc, pre1]
  simp [codeE, List.append_assoc]
 have hml : (acc3.map wcell).length = acc3.length := List.length_map ..
 have hop : ((acc3.map wcell).set 1 (wcell (acc3.length - 2))) = (openE c).map wcell := by
  rw [hform]; rfl
 have hopw : ∀ x ∈ openE c, x < 4294967296 := by
  have hl2 : (codeE c).length < 4294967296 := by
   have : acc3.length = (codeE c).length + 2 := by rw [hform]; rfl
   omega
  intro x hx
  rcases List.mem_cons.1 hx with rfl | hx
  ·decide
  ·rcases List.mem_cons.1 hx with rfl | hx
   ·exact hl2
   ·exact codeE_lt hc x hx
 have h2l : acc3.length = (codeE c).length + 2 := by rw [hform]; rfl
 repeat' (first
  | refine ToX.a_ ?_
  | refine WCX.s_ ?_
  | (refine WCX.g_ (id := 26) ?_; (iterate 3 refine .cons (q hX rfl ?_)) <;> ((refine .cons (qa (d := ((acc3.length - 2 : Nat) : Int)) rfl rfl rfl rfl rfl (wrap_sub (i := 2) (by omega) (by omega)) rfl rfl ?_))) <;> ((refine .cons (qw hX rfl rfl rfl rfl (wU (by omega)) rfl rfl ?_))) <;> ((refine .cons (qidxW hX rfl rfl rfl rfl rfl (show 1 < acc3.length by omega) rfl rfl ?_))) <;> ((refine .cons (qstW hX rfl rfl rfl rfl rfl .h (show 1 < (acc3.map wcell).length by omega) rfl rfl rfl ?_))) <;> (refine .nil (.intro rfl ?_)))
  | (refine WCX.g_ (id := 27) ?_; (iterate 2 refine .cons (q hX rfl ?_)) <;> ((refine .cons (qcallV rfl rfl rfl rfl ca67 rfl rfl (fun h f => check_run hK _ (openE c) h f.wf (by rw [← hop]; exact ownS.rd (f.pick .h)) (by simp [openE]; omega) hopw) ?_))) <;> (refine .cons (q hX rfl ?_)) <;> ((refine .cons (qapp hX rfl rfl rfl rfl rfl rfl rfl rfl rfl rfl rfl rfl b42 rfl rfl rfl rfl rfl (by repeat (first | exact .h | apply Pick.t)) rfl (by simp only [List.length_set]; omega) rfl rfl ?_)) <;> intro kp) <;> (refine .cons (q hX rfl ?_)) <;> (refine .nil (.intro rfl ?_)))
  | refine WCX.r_ ?_
  | refine ToX.r_ hX rfl ?_)
 refine fun h f => ⟨_, f.chg.picks (.cons (.he ?_) .nil), rfl⟩
 have e1 : (acc3.map wcell).set 1 [HVal.int .u32 ((acc3.length - 2 : Nat) : Int)] = (openE c).map wcell := hop
 rw [e1]
 exact ownS_snoc (x := sumOf (openE c)) rfl
end Em
end Go.HL
namespace Go.HL
open Go Go.Proofs
namespace Em
set_option maxRecDepth 10000
variable {K : CallFn} {base : List (Nat × HObj)}
theorem sum_run (hK : KN base K) (v : HVal) (l : List Nat) (h : Heap) (w : Wf h) (ro : (rd v 1 (l.map wcell)).holds h) (hb : l.length ≤ 17592186044416) (hw : ∀ x ∈ l, x < 4294967296) :
  Sp P K 30 [v] h (Val (u32 (sumOf l)) h) := by
 have ll := rd_len ro
 refine Sp.start (m := 285) (n := 19) w (hK.none 30 rfl rfl _ _) Tryz.func30 rfl rfl mask30 rfl rfl ?_
 repeat' (first
  | refine ToX.a_ ?_
  | refine WCX.s_ ?_
  | (refine WCX.g_ (id := 0) ?_; (refine .cons (q hX rfl ?_)) <;> (refine .nil (.intro rfl ?_)))
  | (refine WCX.g_ (id := 1) ?_; (refine .cons (q hX rfl ?_)) <;> (refine .nil (.intro rfl ?_)))
  | (refine WCX.g_ (id := 2) ?_; (refine .cons (q hX rfl ?_)) <;> (refine .nil (.intro rfl ?_)))
  | refine WCX.b_ ?_)
 refine WCX.loop (ι := Nat × Nat) (fun a => [(4, .ext (i64 a.1)), (0, .ext v), (3, .ext (u32 a.2))]) (fun _ => []) (fun _ => []) (fun a => a.1 ≤ l.length ∧ a.2 < 4294967296 ∧ sumOf l = (l.drop a.1).foldl (fun n w => (31 * n + w) % 4294967296) a.2) (fun a => l.length - a.1) (0, 7) ⟨⟨rfl, rfl, rfl, trivial⟩, ⟨_, rfl⟩, ⟨_, .nil⟩⟩ ⟨Nat.zero_le _, by decide, rfl⟩ (fun _ => rfl) (fun _ => rfl) (fun _ => rfl) ?_
 rintro ⟨i, s⟩ ⟨hi, hs, he⟩ next
 simp only at hi hs he next ⊢
 have hx : i < l.length → l.getD i 0 < 4294967296 := fun hlt => hw _ (getD_mem _ hlt)
 repeat' (first
  | refine ToX.a_ ?_
  | refine WCX.s_ ?_
  | (refine WCX.g_ (id := 3) ?_; (iterate 2 refine .cons (q hX rfl ?_)) <;> ((refine .cons (ql hX rfl rfl rfl rfl rfl rfl (by assumption) rfl rfl ?_))) <;> ((refine .cons (qc rfl ?_ ?_)) <;> intro _) <;> (refine .nil (.intro rfl ?_)))
  | (refine WCX.g_ (id := 5) ?_; (refine .cons (q hX rfl ?_)) <;> ((refine .cons (qa (d := ((31 * s % 4294967296 : Nat) : Int)) rfl rfl rfl rfl rfl (by rw [wrapF_u32]; omega) rfl rfl ?_))) <;> (iterate 2 refine .cons (q hX rfl ?_)) <;> ((refine .cons (qidx hX rfl rfl rfl rfl rfl (.of ro) (row_i (0 : Nat) (by omega)) rfl rfl rfl ?_))) <;> (refine .cons (q hX rfl ?_)) <;> ((refine .cons (qa (d := (((31 * s + l.getD i 0) % 4294967296 : Nat) : Int)) rfl rfl rfl rfl rfl (by rw [wrapF_u32]; omega) rfl rfl ?_))) <;> (refine .cons (q hX rfl ?_)) <;> (refine .nil (.intro rfl ?_)))
  | (refine WCX.g_ (id := 4) ?_; (refine .cons (q hX rfl ?_)) <;> ((refine .cons (qa rfl rfl rfl rfl rfl (wI (by first | omega | (simp only [Int.ofNat_eq_natCast]; omega)) (by first | omega | (simp only [Int.ofNat_eq_natCast]; omega))) rfl rfl ?_))) <;> (refine .cons (q hX rfl ?_)) <;> (refine .nil (.intro rfl ?_)))
  | (refine WCX.g_ (id := 6) ?_; (iterate 2 refine .cons (q hX rfl ?_)) <;> (refine .nil (.intro rfl ?_)))
  | refine WCX.r_ ?_
  | refine WCX.t_ rfl ?_
  | refine WCX.f_ rfl ?_
  | refine WCX.k_ ?_
  | refine WCX.b_ ?_
  | refine WCX.e_ ?_
  | refine ToX.e_ ?_
  | refine ToX.c_ ?_
  | refine ToX.b_ ?_
  | refine ToX.r_ hX rfl ?_)
 ·refine next (i + 1, _) _ _ _ (by simp only; omega) ⟨⟨rfl, rfl, rfl, trivial⟩, ⟨_, rfl⟩, ⟨_, .nil⟩⟩ ⟨by simp only; omega, Nat.mod_lt _ (by decide), ?_⟩
  rw [he, drop_cons (by omega) 0]; rfl
 ·have hi2 : i = l.length := by omega
  subst hi2
  exact fun h f => ⟨by rw [he, List.drop_length]; rfl, f.chg⟩
theorem shl_mul {x m : Nat} (hx : x < 256) (hm : m ≤ 3) : 256 ^ m * x < 4294967296 := by
 have := shl_lt hx hm
 rwa [Nat.pow_mul] at this
theorem shl_mul_add {x m a : Nat} (hx : x < 256) (hm : m ≤ 3) (ha : a < 256 ^ m) : a + 256 ^ m * x < 4294967296 := by
 have := shl_add_lt hx hm (a := a) (by rw [Nat.pow_mul]; exact ha)
 rw [Nat.pow_mul] at this
 rw [Nat.add_comm]; exact this
theorem pow_step {m : Nat} (hm : m ≤ 3) : 256 ^ m * 256 % 4294967296 = 256 ^ (m + 1) % 4294967296 := by rw [Nat.pow_succ]
theorem pow_small {m : Nat} (hm : m ≤ 3) : 256 ^ m % 4294967296 = 256 ^ m := by
 obtain rfl | rfl | rfl | rfl : m = 0 ∨ m = 1 ∨ m = 2 ∨ m = 3 := by omega
 all_goals rfl
theorem refName12_run (hK : KN base K) (b : List Nat) (h : Heap) (w : Wf h) (hb : NameFine b) :
  Sp P K 29 [strB b] h (Tr (fun x C' => C' = [wordsO x (nameE b)] ∧ ∀ k, x ≠ .rest k) h) := by
 have hlen := hb.1
 have hbytes := hb.2
 refine Sp.start (m := 268468477) (n := 46) w (hK.none 29 rfl rfl _ _) Tryz.func29 rfl rfl mask29 rfl rfl ?_
 repeat' (first
  | refine ToX.a_ ?_
  | refine WCX.s_ ?_
  | (refine WCX.g_ (id := 0) ?_; (refine .cons (q hX rfl ?_)) <;> (refine .nil (.intro rfl ?_)))
  | (refine WCX.g_ (id := 1) ?_; (iterate 2 refine .cons (q hX rfl ?_)) <;> ((refine .cons (qw hX rfl rfl rfl rfl (wU (by omega)) rfl rfl ?_))) <;> (iterate 2 refine .cons (q hX rfl ?_)) <;> (refine .nil (.intro rfl ?_)))
  | (refine WCX.g_ (id := 2) ?_; (refine .cons (q hX rfl ?_)) <;> (refine .nil (.intro rfl ?_)))
  | refine WCX.b_ ?_)
 refine WCX.leak 0 (fun k => wordsO (.slice k 0 1 (some 1)) [b.length]) rfl (fun k => .own rfl (by simp [wcell]) rfl) (fun _ => rfl) rfl fun k0 => ?_
 refine WCX.loop (ι := Nat × List Nat × HVal) (fun a => [(4, .ext (i64 a.1)), (0, .ext (strB b)), (3, .ext a.2.2)]) (fun _ => []) (fun a => [wordsO a.2.2 a.2.1]) (fun a => nameE b = a.2.1 ++ packs (b.drop a.1) ∧ a.2.1.length ≤ 1 + a.1 ∧ a.1 ≤ 20 ∧ ∀ k, a.2.2 ≠ .rest k) (fun a => b.length - a.1) (0, [b.length], _) ⟨⟨rfl, rfl, rfl, trivial⟩, ⟨_, rfl⟩, ⟨_, .cons .h .nil⟩⟩ ⟨by simp [nameE], by simp, by simp, by simp⟩ (fun _ => rfl) (fun _ => rfl) (fun _ => rfl) ?_
 rintro ⟨i, acc, v2⟩ ⟨he, hacc, hi, hfr⟩ next
 simp only at he hacc hi hfr next ⊢
 have hdl : (b.drop i).length = b.length - i := List.length_drop
 repeat' (first
  | refine ToX.a_ ?_
  | refine WCX.s_ ?_
  | (refine WCX.g_ (id := 3) ?_; (iterate 3 refine .cons (q hX rfl ?_)) <;> ((refine .cons (qc rfl ?_ ?_)) <;> intro _) <;> (refine .nil (.intro rfl ?_)))
  | (refine WCX.g_ (id := 5) ?_; (iterate 2 refine .cons (q hX rfl ?_)) <;> (refine .nil (.intro rfl ?_)))
  | (refine WCX.g_ (id := 6) ?_; (iterate 2 refine .cons (q hX rfl ?_)) <;> (refine .nil (.intro rfl ?_)))
  | (refine WCX.g_ (id := 12) ?_; (iterate 2 refine .cons (q hX rfl ?_)) <;> (refine .nil (.intro rfl ?_)))
  | refine WCX.r_ ?_
  | refine WCX.t_ rfl ?_
  | refine WCX.f_ rfl ?_
  | refine WCX.k_ ?_
  | refine WCX.b_ ?_
  | refine WCX.e_ ?_
  | refine ToX.e_ ?_
  | refine ToX.c_ ?_
  | refine ToX.r_ hX rfl ?_)
 ·refine WCX.loop (ι := Nat × Nat) (fun a => [(7, .ext (i64 (i + a.1))), (5, .ext (u32 a.2)), (6, .ext (u32 (256 ^ a.1 % 4294967296))), (4, .ext (i64 i)), (0, .ext (strB b)), (3, .ext v2)]) (fun _ => []) (fun _ => [wordsO v2 acc]) (fun a => a.1 ≤ min 4 (b.length - i) ∧ a.2 = wordOf ((b.drop i).take a.1)) (fun a => min 4 (b.length - i) - a.1) (0, 0) ⟨⟨rfl, rfl, rfl, rfl, rfl, rfl, trivial⟩, ⟨_, rfl⟩, ⟨_, .cons .h .nil⟩⟩ ⟨Nat.zero_le _, rfl⟩ (fun _ => rfl) (fun _ => rfl) (fun _ => rfl) ?_
  rintro ⟨m, wd⟩ ⟨hm, hwd⟩ next2
  simp only at hm hwd next2 ⊢
  have hsx : i + m < b.length → sIndex b.length (codeN b 0) (i + m) = b.getD (i + m) 0 ∧ b.getD (i + m) 0 < 256 := fun hlt => ⟨sIndex_code hbytes hlt, hbytes _ (getD_mem 0 hlt)⟩
  have hwl : wd < 256 ^ m := by
   have := wordOf_lt (l := (b.drop i).take m) fun x hx => hbytes x (List.mem_of_mem_drop (List.mem_of_mem_take hx))
   rw [List.length_take, hdl, Nat.min_eq_left (by omega)] at this
   rw [hwd]; exact this
  repeat' (first
   | refine ToX.a_ ?_
   | refine WCX.s_ ?_
   | (refine WCX.g_ (id := 7) ?_; (iterate 2 refine .cons (q hX rfl ?_)) <;> ((refine .cons (qa rfl rfl rfl rfl rfl (wI (by first | omega | (simp only [Int.ofNat_eq_natCast]; omega)) (by first | omega | (simp only [Int.ofNat_eq_natCast]; omega))) rfl rfl ?_))) <;> ((refine .cons (qc rfl ?_ ?_)) <;> intro _) <;> (iterate 4 refine .cons (q hX rfl ?_)) <;> (first | (refine .cons (q hX rfl ?_)) | (refine .cons (qc rfl ?_ ?_)) <;> intro _) <;> (refine .cons (q hX rfl ?_)) <;> (refine .nil (.intro rfl ?_)))
   | (refine WCX.g_ (id := 9) ?_; (iterate 4 refine .cons (q hX rfl ?_)) <;> ((refine .cons (qs hX rfl rfl rfl rfl (by first | omega | (simp only [Int.ofNat_eq_natCast]; omega)) rfl rfl ?_))) <;> ((refine .cons (qw (b := ((b.getD (i + m) 0 : Nat) : Int)) hX rfl rfl rfl rfl (by rw [(hsx (by omega)).1, Int.ofNat_eq_natCast]; exact wU (by have := (hsx (by omega)).2; omega)) rfl rfl ?_))) <;> ((refine .cons (qa (d := ((256 ^ m * b.getD (i + m) 0 : Nat) : Int)) rfl rfl rfl rfl rfl (by rw [pow_small (by omega), ← Int.natCast_mul]; exact wU (shl_mul (hsx (by omega)).2 (by omega))) rfl rfl ?_))) <;> ((refine .cons (qa (d := ((wd + 256 ^ m * b.getD (i + m) 0 : Nat) : Int)) rfl rfl rfl rfl rfl (by rw [← Int.natCast_add]; exact wU (shl_mul_add (hsx (by omega)).2 (by omega) hwl)) rfl rfl ?_))) <;> (refine .cons (q hX rfl ?_)) <;> (refine .nil (.intro rfl ?_)))
   | (refine WCX.g_ (id := 10) ?_; (refine .cons (q hX rfl ?_)) <;> ((refine .cons (qa (d := ((256 ^ (m + 1) % 4294967296 : Nat) : Int)) rfl rfl rfl rfl rfl (by rw [← pow_step (by omega), pow_small (by omega), wrapF_u32]; omega) rfl rfl ?_))) <;> (refine .cons (q hX rfl ?_)) <;> (refine .nil (.intro rfl ?_)))
   | (refine WCX.g_ (id := 8) ?_; (refine .cons (q hX rfl ?_)) <;> ((refine .cons (qa rfl rfl rfl rfl rfl (wI (by first | omega | (simp only [Int.ofNat_eq_natCast]; omega)) (by first | omega | (simp only [Int.ofNat_eq_natCast]; omega))) rfl rfl ?_))) <;> (refine .cons (q hX rfl ?_)) <;> (refine .nil (.intro rfl ?_)))
   | (refine WCX.g_ (id := 11) ?_; (iterate 3 refine .cons (q hX rfl ?_)) <;> ((refine .cons (qapp hX rfl rfl rfl rfl rfl rfl rfl rfl rfl rfl rfl rfl b42 rfl rfl rfl rfl rfl (by repeat (first | exact .h | apply Pick.t)) rfl (by simp only [List.length_map]; omega) rfl rfl ?_)) <;> intro kp) <;> (refine .cons (q hX rfl ?_)) <;> (refine .nil (.intro rfl ?_)))
   | (refine WCX.g_ (id := 4) ?_; (refine .cons (q hX rfl ?_)) <;> ((refine .cons (qa rfl rfl rfl rfl rfl (wI (by first | omega | (simp only [Int.ofNat_eq_natCast]; omega)) (by first | omega | (simp only [Int.ofNat_eq_natCast]; omega))) rfl rfl ?_))) <;> (refine .cons (q hX rfl ?_)) <;> (refine .nil (.intro rfl ?_)))
   | refine WCX.t_ rfl ?_
   | refine WCX.f_ rfl ?_
   | refine WCX.k_ ?_
   | refine WCX.b_ ?_
   | refine WCX.e_ ?_
   | refine ToX.e_ ?_
   | refine ToX.c_ ?_
   | refine ToX.b_ ?_)
  ·refine next2 (m + 1, _) _ _ _ (by simp only; omega) ⟨⟨rfl, rfl, rfl, rfl, rfl, rfl, trivial⟩, ⟨_, rfl⟩, ⟨_, .cons .h .nil⟩⟩ ⟨by simp only; omega, ?_⟩
   have hlt : m < (b.drop i).length := by omega
   simp only
   rw [take_succ hlt 0, wordOf_snoc, hwd, List.length_take, Nat.min_eq_left (by omega), show (b.drop i).getD m 0 = b.getD (i + m) 0 by simp [List.getD, List.getElem?_drop]]
  all_goals
   clear next2
   have hm4 : m = min 4 (b.length - i) := by omega
   have hwd4 : wd = wordOf ((b.drop i).take 4) := by
    rw [hwd, hm4]
    congr 1
    by_cases h4 : 4 ≤ b.length - i
    ·rw [Nat.min_eq_left h4]
    ·rw [Nat.min_eq_right (by omega), List.take_of_length_le (by omega), List.take_of_length_le (by omega)]
   refine next (i + 4, acc ++ [wd], _) _ _ _ (by simp only; omega) ⟨⟨rfl, rfl, rfl, trivial⟩, ⟨_, rfl⟩, ⟨_, .cons (.he (ownS_snoc (x := wd) rfl)) .nil⟩⟩ ⟨?_, by simp only [List.length_append, List.length_singleton]; omega, by simp only; omega, by simp⟩
   simp only
   rw [he, packs_step (by omega), List.drop_drop, hwd4, List.append_assoc]
   rfl
 ·have hn : b.drop i = [] := List.drop_of_length_le (by omega)
  rw [hn, packs_nil, List.append_nil] at he
  exact fun h f => ⟨_, f.chg, by rw [he]; rfl, hfr⟩
end Em
end Go.HL
namespace Go.HL
open Go
namespace Em
def CodeB.toP (c : CodeB) : CodeP := ⟨c.name.length, codeN c.name 0, c.params.map fun p => (p.1.length, codeN p.1 0, p.2), c.shared.map fun a => (a.1.length, codeN a.1 0, (a.2 : Int)), (c.local : Int), c.insns⟩
structure CodeFair (c : CodeB) : Prop where
 name : NameFine c.name
 params : c.params.length ≤ 6
 pname : ∀ p ∈ c.params, NameFine p.1
 shared : c.shared.length ≤ 4
 sname : ∀ p ∈ c.shared, NameFine p.1 ∧ p.2 ≤ 64
 «local» : c.local ≤ 64
 insns : c.insns.length ≤ 2000
 each : ∀ x ∈ c.insns, -2147483648 ≤ x.imm ∧ x.imm ≤ 2147483647
theorem nameOk_of {b : List Nat} (h : NameFine b) : NameOk (b.length, codeN b 0) := by
 refine ⟨Nat.le_trans h.1 (by decide), ?_⟩
 cases b with
 | nil => exact .inr rfl
 | cons x b => exact .inl (Nat.succ_pos _)
theorem CodeFair.ok {c : CodeB} (f : CodeFair c) : CodeOk c.toP := by
 refine ⟨nameOk_of f.name, ?_, ?_, ?_, ?_, ?_, f.each⟩
 ·have := f.params; simp only [CodeB.toP, List.length_map]; omega
 ·intro p hp
  obtain ⟨q, hq, rfl⟩ := List.mem_map.1 hp
  exact nameOk_of (f.pname q hq)
 ·have := f.shared; simp only [CodeB.toP, List.length_map]; omega
 ·intro p hp
  obtain ⟨q, hq, rfl⟩ := List.mem_map.1 hp
  exact nameOk_of (f.sname q hq).1
 ·have := f.insns; simp only [CodeB.toP]; omega
theorem codeRB_P {c : CodeB} {pv sv iv : HVal} {h : Heap} (r : (codeRB c pv sv iv).holds h) : (codeR c.toP pv sv iv).holds h := by
 refine ⟨?_, ?_, r.2.2⟩
 ·have := r.1
  unfold CodeB.toP
  simp only [List.map_map]
  exact this
 ·have := r.2.1
  unfold CodeB.toP
  simp only [List.map_map]
  exact this
theorem withinM_lt {b : Bool} {n lim : Int} (h : withinM b n lim = true) (hl : 0 < lim) : 0 ≤ n ∧ n < lim := by
 unfold withinM at h
 cases b
 ·simp at h; omega
 ·simpa using h
theorem foldsM_lt {op : Int} (h : foldsM op = true) : 0 ≤ op ∧ op < 20 := by
 unfold foldsM neutM at h
 split at h
 ·omega
 ·split at h
  ·omega
  ·split at h
   ·omega
   ·split at h
    ·omega
    ·cases h
theorem U_ops {k : Nat} (h : k < 16) : 0 ≤ (U k).ops ∧ (U k).ops ≤ 20 := by
 have : k = 0 ∨ k = 1 ∨ k = 2 ∨ k = 3 ∨ k = 4 ∨ k = 5 ∨ k = 6 ∨ k = 7 ∨ k = 8 ∨ k = 9 ∨ k = 10 ∨ k = 11 ∨ k = 12 ∨ k = 13 ∨ k = 14 ∨ k = 15 := by omega
 rcases this with rfl | rfl | rfl | rfl | rfl | rfl | rfl | rfl | rfl | rfl | rfl | rfl | rfl | rfl | rfl | rfl <;> decide
theorem insnM_fine {f : CodeP} {x : InsnD} (h : f.insnM x = true) (hn : 1 ≤ f.insns.length ∧ f.insns.length ≤ 2000) (hi : -2147483648 ≤ x.imm ∧ x.imm ≤ 2147483647) : InsnFine x := by
 unfold CodeP.insnM at h
 simp only [Bool.and_eq_true, decide_eq_true_eq] at h
 obtain ⟨⟨⟨⟨⟨⟨⟨hk, ho⟩, hd⟩, ha⟩, hb⟩, _⟩, ht⟩, hj⟩ := h
 have h1 := withinM_lt hd (by decide)
 have h2 := withinM_lt ha (by decide)
 have h3 := withinM_lt hb (by decide)
 have h4 := withinM_lt ht (by omega)
 have h5 := withinM_lt hj (by omega)
 have h6 : 0 ≤ x.op ∧ x.op < 256 := by
  split at ho
  ·have := foldsM_lt ho; omega
  ·have hu := U_ops (k := x.kind.toNat) (by omega)
   unfold withinM at ho
   split at ho
   ·simp at ho; omega
   ·simp at ho; omega
 exact ⟨by omega, h6, by omega, by omega, by omega, hi, by omega, by omega⟩
theorem nameM_len {b : List Nat} (h : nameM (b.length, codeN b 0) = true) : b.length ≤ 16 := by
 unfold nameM at h
 simp at h
 exact h.1.2
def bytesB (b : List Nat) : Bool := b.all fun x => decide (x < 256)
def V (c : CodeB) : Bool := bytesB c.name && c.params.all (fun p => bytesB p.1) && c.shared.all (fun p => bytesB p.1) && c.insns.all (fun x => decide (-2147483648 ≤ x.imm ∧ x.imm ≤ 2147483647)) && c.toP.validM
theorem bytesB_iff {b : List Nat} : bytesB b = true ↔ ∀ x ∈ b, x < 256 := by simp [bytesB]
theorem V_fine {c : CodeB} (h : V c = true) : CodeFine c := by
 unfold V at h
 simp only [Bool.and_eq_true, List.all_eq_true, decide_eq_true_eq, bytesB_iff] at h
 obtain ⟨⟨⟨⟨hb, hp⟩, hs⟩, hi⟩, hv⟩ := h
 unfold CodeP.validM CodeP.headM CodeP.headsM CodeP.refHeadM at hv
 simp only [Bool.and_eq_true, decide_eq_true_eq, List.all_eq_true] at hv
 obtain ⟨⟨⟨⟨⟨⟨⟨⟨⟨h1, h2⟩, h3⟩, h4⟩, h5⟩, _⟩, h6⟩, h7⟩, _⟩, h8⟩ := hv
 simp only [CodeB.toP, List.length_map] at h2 h3 h6 h7
 refine ⟨⟨nameM_len h1, hb⟩, h2, fun p hpm => ⟨?_, hp p hpm⟩, h3, fun p hpm => ?_, by omega, h7.2, fun x hx => insnM_fine (h8 x hx) h7 (hi x hx)⟩
 ·have := h4 _ (List.mem_map.2 ⟨p, hpm, rfl⟩)
  exact nameM_len this
 ·have := h5 _ (List.mem_map.2 ⟨p, hpm, rfl⟩)
  unfold arrayOk at this
  simp only [Bool.and_eq_true, decide_eq_true_eq] at this
  exact ⟨⟨nameM_len this.1.1, hs p hpm⟩, by omega⟩
theorem V_fair {c : CodeB} (f : CodeFair c) : V c = c.toP.validM := by
 have e1 : bytesB c.name = true := bytesB_iff.2 f.name.2
 have e2 : c.params.all (fun p => bytesB p.1) = true := List.all_eq_true.2 fun p hp => bytesB_iff.2 (f.pname p hp).2
 have e3 : c.shared.all (fun p => bytesB p.1) = true := List.all_eq_true.2 fun p hp => bytesB_iff.2 (f.sname p hp).1.2
 have e4 : c.insns.all (fun x => decide (-2147483648 ≤ x.imm ∧ x.imm ≤ 2147483647)) = true := List.all_eq_true.2 fun x hx => decide_eq_true (f.each x hx)
 unfold V
 rw [e1, e2, e3, e4]; rfl
/-! ## What was read is fair -/
end Em
end Go.HL
namespace Go.HL
open Go Go.Proofs
namespace Em
set_option maxRecDepth 10000
set_option maxHeartbeats 4000000
variable {K : CallFn} {base : List (Nat × HObj)}
theorem len_words (l : List Nat) : (l.map wcell).length = l.length := List.length_map ..
theorem refEncode_run (hK : KN base K) (c : CodeB) (pv sv iv : HVal) (h : Heap) (w : Wf h) (hc0 : CodeFair c) (hr : (codeRB c pv sv iv).holds h) :
  Sp P K 10 [codeV c pv sv iv] h (Tr (fun v C' => V c = true ∧ (∃ x, v = .tuple [x, i64 0] ∧ C' = [wordsO x (wholeE c)]) ∨ V c = false ∧ v = .tuple [.nils, i64 1] ∧ C' = []) h) := by
 have hp := hr.1
 have hs := hr.2.1
 have hi := hr.2.2
 have lp := rd_len hp
 have ls := rd_len hs
 have li := rd_len hi
 have hV := V_fair hc0
 rw [validM_same] at hV
 refine Sp.start (m := 158456325033140378797835555839) (n := 146) w (hK.none 10 rfl rfl _ _) Tryz.func10 rfl rfl mask10 rfl rfl ?_
 repeat' (first
  | refine ToX.a_ ?_
  | refine WCX.s_ ?_
  | (refine WCX.g_ (id := 0) ?_; (iterate 3 refine .cons (q hX rfl ?_)) <;> (refine .nil (.intro rfl ?_)))
  | (refine WCX.g_ (id := 1) ?_; (refine .cons (q hX rfl ?_)) <;> ((refine .cons (qcallB rfl rfl rfl rfl ca14 rfl rfl (fun h f => refValid_run hK c.toP pv sv iv h f.wf hc0.ok (f.ro (.of (codeRB_P hr)))) ?_ ?_)) <;> intro _) <;> (refine .cons (q hX rfl ?_)) <;> (refine .nil (.intro rfl ?_)))
  | (refine WCX.g_ (id := 2) ?_; (iterate 2 refine .cons (q hX rfl ?_)) <;> (refine .nil (.intro rfl ?_)))
  | refine WCX.r_ ?_
  | refine ToX.d_ ?_
  | refine WCX.t_ rfl ?_
  | refine WCX.f_ rfl ?_
  | refine WCX.k_ ?_
  | refine ToX.r_ hX rfl ?_)
 rotate_left
 ·exact fun h f => ⟨[], f.chg, .inr ⟨by simp_all, rfl, rfl⟩⟩
 have hVt : V c = true := by simp_all
 have hc := V_fine hVt
 have b1 := hc.params
 have b2 := hc.shared
 have b3 := hc.insns
 have b4 := hc.local
 have bn := nameE_len hc.name
 have e0 := len_words
 repeat' (first
  | refine ToX.a_ ?_
  | refine WCX.s_ ?_
  | (refine WCX.g_ (id := 3) ?_; (iterate 2 refine .cons (q hX rfl ?_)) <;> ((refine .cons (qcall rfl rfl rfl rfl ca29 rfl rfl (fun h f => refName12_run hK c.name h f.wf hc.name) ?_)) <;> (rintro v C' ⟨rfl, hnr⟩)) <;> (refine .cons (q hX rfl ?_)) <;> (refine .nil (.intro rfl ?_)))
  | (refine WCX.g_ (id := 4) ?_; (iterate 3 refine .cons (q hX rfl ?_)) <;> ((refine .cons (ql hX rfl rfl rfl rfl rfl rfl (by assumption) rfl rfl ?_))) <;> ((refine .cons (qw hX rfl rfl rfl rfl (wU (by omega)) rfl rfl ?_))) <;> (refine .cons (q hX rfl ?_)) <;> ((refine .cons (qapp hX rfl rfl rfl rfl rfl rfl rfl rfl rfl rfl rfl rfl b42 rfl rfl rfl rfl rfl (by repeat (first | exact .h | apply Pick.t)) rfl (by rw [e0]; omega) rfl rfl ?_)) <;> intro kp) <;> (refine .cons (q hX rfl ?_)) <;> (refine .nil (.intro rfl ?_)))
  | (refine WCX.g_ (id := 5) ?_; (refine .cons (q hX rfl ?_)) <;> (refine .nil (.intro rfl ?_)))
  | refine WCX.b_ ?_)
 refine WCX.loop (ι := Nat × List Nat × HVal) (fun a => [(5, .ext (i64 a.1)), (4, .ext a.2.2), (3, .ext (i64 0)), (1, .ptr 0 0)]) (fun _ => [.own [strB c.name, pv, sv, i64 c.local, iv] 26 false]) (fun a => [wordsO a.2.2 a.2.1]) (fun a => a.1 ≤ c.params.length ∧ a.2.1 = nameE c.name ++ [c.params.length] ++ (c.params.take a.1).flatMap paramE ∧ a.2.1.length ≤ 100 + 30 * a.1) (fun a => c.params.length - a.1) (0, nameE c.name ++ [c.params.length], _) ⟨⟨rfl, rfl, rfl, rfl, trivial⟩, ⟨_, rfl⟩, ⟨_, .cons (.he (by simp only [wordsO, List.map_append]; rfl)) .nil⟩⟩ ⟨Nat.zero_le _, by simp, by simp; omega⟩ (fun _ => rfl) (fun _ => rfl) (fun _ => rfl) ?_
 rintro ⟨i, acc, v2⟩ ⟨hi2, hacc, hal⟩ next
 simp only at hi2 hacc hal next ⊢
 have hnm : i < c.params.length → NameFine (c.params.getD i noPB).1 := fun hlt => hc.pname _ (getD_mem _ hlt)
 have hnl : i < c.params.length → (nameE (c.params.getD i noPB).1).length ≤ 17 := fun hlt => nameE_len (hnm hlt)
 repeat' (first
  | refine ToX.a_ ?_
  | refine WCX.s_ ?_
  | (refine WCX.g_ (id := 6) ?_; (iterate 3 refine .cons (q hX rfl ?_)) <;> ((refine .cons (ql hX rfl rfl rfl rfl rfl rfl (by assumption) rfl rfl ?_))) <;> ((refine .cons (qc rfl ?_ ?_)) <;> intro _) <;> (refine .nil (.intro rfl ?_)))
  | (refine WCX.g_ (id := 8) ?_; (iterate 4 refine .cons (q hX rfl ?_)) <;> ((refine .cons (qidx hX rfl rfl rfl rfl rfl (.of hp) (row_i noPB (by omega)) rfl rfl rfl ?_))) <;> (iterate 2 refine .cons (q hX rfl ?_)) <;> ((refine .cons (qcall rfl rfl rfl rfl ca29 rfl rfl (fun h f => refName12_run hK (c.params.getD i noPB).1 h f.wf (hnm (by omega))) ?_)) <;> (rintro v C' ⟨rfl, hnr⟩)) <;> ((refine .cons (qappS hX rfl rfl rfl rfl rfl rfl rfl rfl rfl rfl rfl rfl b42 rfl rfl rfl (by repeat (first | exact .h | apply Pick.t)) (by repeat (first | exact .h | apply Pick.t)) (by simp [nameE]) hnr rfl (by rw [e0, e0]; omega) rfl rfl ?_)) <;> intro kp) <;> (refine .cons (q hX rfl ?_)) <;> (refine .nil (.intro rfl ?_)))
  | (refine WCX.g_ (id := 9) ?_; (iterate 3 refine .cons (q hX rfl ?_)) <;> ((refine .cons (qidx hX rfl rfl rfl rfl rfl (.of hp) (row_i noPB (by omega)) rfl rfl rfl ?_))) <;> (refine .cons (q hX rfl ?_)) <;> ((refine .cons (qb hX rfl ?_ ?_)) <;> (intro hbl; (first | (cases hbl; done) | skip))) <;> (refine .nil (.intro rfl ?_)))
  | (refine WCX.g_ (id := 10) ?_; (iterate 2 refine .cons (q hX rfl ?_)) <;> ((refine .cons (qapp hX rfl rfl rfl rfl rfl rfl rfl rfl rfl rfl rfl rfl b42 rfl rfl rfl rfl rfl (by repeat (first | exact .h | apply Pick.t)) rfl (by rw [List.length_append, e0, e0]; omega) rfl rfl ?_)) <;> intro kp) <;> (refine .cons (q hX rfl ?_)) <;> (refine .nil (.intro rfl ?_)))
  | (refine WCX.g_ (id := 11) ?_; (iterate 2 refine .cons (q hX rfl ?_)) <;> ((refine .cons (qapp hX rfl rfl rfl rfl rfl rfl rfl rfl rfl rfl rfl rfl b42 rfl rfl rfl rfl rfl (by repeat (first | exact .h | apply Pick.t)) rfl (by rw [List.length_append, e0, e0]; omega) rfl rfl ?_)) <;> intro kp) <;> (refine .cons (q hX rfl ?_)) <;> (refine .nil (.intro rfl ?_)))
  | (refine WCX.g_ (id := 7) ?_; (refine .cons (q hX rfl ?_)) <;> ((refine .cons (qa rfl rfl rfl rfl rfl (wI (by first | omega | (simp only [Int.ofNat_eq_natCast]; omega)) (by first | omega | (simp only [Int.ofNat_eq_natCast]; omega))) rfl rfl ?_))) <;> (refine .cons (q hX rfl ?_)) <;> (refine .nil (.intro rfl ?_)))
  | refine WCX.t_ rfl ?_
  | refine WCX.f_ rfl ?_
  | refine WCX.k_ ?_
  | refine WCX.b_ ?_
  | refine WCX.e_ ?_
  | refine ToX.e_ ?_
  | refine ToX.c_ ?_
  | refine ToX.b_ ?_)
 ·refine next (i + 1, acc ++ nameE (c.params.getD i noPB).1 ++ [1], _) _ _ _ (by simp only; omega) ⟨⟨rfl, rfl, rfl, rfl, trivial⟩, ⟨_, rfl⟩, ⟨_, .cons (.he (by simp only [wordsO, List.map_append]; rfl)) .nil⟩⟩ ⟨by simp only; omega, ?_, ?_⟩
  ·simp only
   rw [hacc, flatMap_step (by omega) noPB]
   simp only [paramE, hbl, if_true, List.append_assoc]
  ·have := hnl (by omega)
   simp only [List.length_append, List.length_cons, List.length_nil]; omega
 ·refine next (i + 1, acc ++ nameE (c.params.getD i noPB).1 ++ [0], _) _ _ _ (by simp only; omega) ⟨⟨rfl, rfl, rfl, rfl, trivial⟩, ⟨_, rfl⟩, ⟨_, .cons (.he (by simp only [wordsO, List.map_append]; rfl)) .nil⟩⟩ ⟨by simp only; omega, ?_, ?_⟩
  ·simp only
   rw [hacc, flatMap_step (by omega) noPB]
   simp only [paramE, hbl, List.append_assoc]; rfl
  ·have := hnl (by omega)
   simp only [List.length_append, List.length_cons, List.length_nil]; omega
 clear next
 have hi3 : i = c.params.length := by omega
 subst hi3
 rw [List.take_length] at hacc
 have h17 : acc.length ≤ 280 := by omega
 repeat' (first
  | refine ToX.a_ ?_
  | refine WCX.s_ ?_
  | (refine WCX.g_ (id := 12) ?_; (iterate 3 refine .cons (q hX rfl ?_)) <;> ((refine .cons (ql hX rfl rfl rfl rfl rfl rfl (by assumption) rfl rfl ?_))) <;> ((refine .cons (qw hX rfl rfl rfl rfl (wU (by omega)) rfl rfl ?_))) <;> (refine .cons (q hX rfl ?_)) <;> ((refine .cons (qapp hX rfl rfl rfl rfl rfl rfl rfl rfl rfl rfl rfl rfl b42 rfl rfl rfl rfl rfl (by repeat (first | exact .h | apply Pick.t)) rfl (by rw [e0]; omega) rfl rfl ?_)) <;> intro kp) <;> (refine .cons (q hX rfl ?_)) <;> (refine .nil (.intro rfl ?_)))
  | (refine WCX.g_ (id := 13) ?_; (refine .cons (q hX rfl ?_)) <;> (refine .nil (.intro rfl ?_)))
  | refine WCX.b_ ?_)
 refine WCX.loop (ι := Nat × List Nat × HVal) (fun a => [(6, .ext (i64 a.1)), (4, .ext a.2.2), (3, .ext (i64 0)), (1, .ptr 0 0)]) (fun _ => [.own [strB c.name, pv, sv, i64 c.local, iv] 26 false]) (fun a => [wordsO a.2.2 a.2.1]) (fun a => a.1 ≤ c.shared.length ∧ a.2.1 = acc ++ [c.shared.length] ++ (c.shared.take a.1).flatMap arrayE ∧ a.2.1.length ≤ 300 + 30 * a.1) (fun a => c.shared.length - a.1) (0, acc ++ [c.shared.length], _) ⟨⟨rfl, rfl, rfl, rfl, trivial⟩, ⟨_, rfl⟩, ⟨_, .cons (.he (by simp only [wordsO, List.map_append]; rfl)) .nil⟩⟩ ⟨Nat.zero_le _, by simp, by simp; omega⟩ (fun _ => rfl) (fun _ => rfl) (fun _ => rfl) ?_
 rintro ⟨i, acc2, v3⟩ ⟨hi2, hacc2, hal2⟩ next
 simp only at hi2 hacc2 hal2 next ⊢
 have hnm : i < c.shared.length → NameFine (c.shared.getD i noAB).1 ∧ (c.shared.getD i noAB).2 ≤ 64 := fun hlt => hc.sname _ (getD_mem _ hlt)
 have hnl : i < c.shared.length → (nameE (c.shared.getD i noAB).1).length ≤ 17 := fun hlt => nameE_len (hnm hlt).1
 repeat' (first
  | refine ToX.a_ ?_
  | refine WCX.s_ ?_
  | (refine WCX.g_ (id := 14) ?_; (iterate 3 refine .cons (q hX rfl ?_)) <;> ((refine .cons (ql hX rfl rfl rfl rfl rfl rfl (by assumption) rfl rfl ?_))) <;> ((refine .cons (qc rfl ?_ ?_)) <;> intro _) <;> (refine .nil (.intro rfl ?_)))
  | (refine WCX.draw (id := 16) tab [0, 1, 2, 3, 4, 5, 6, 9, 10, 11, 12, 13, 14, 15, 16, 7, 8, 17, 18] #[0, 0, 2, 0, 14, 30, 62, 126, 255, 0, 512, 0, 3584, 7680, 15872, 32256, 65024, 131071, 262143] (by kernel_rfl) (by kernel_rfl) (by kernel_rfl) ?_; (iterate 2 refine .cq hX rfl rfl rfl ?_) <;> ((refine .cons rfl (q hX rfl ?_)) <;> refine ⟨_, .rdB hX.tab rfl rfl rfl rfl rfl rfl rfl rfl (beL (by assumption)) rfl rfl rfl, ?_⟩) <;> (refine .cq hX rfl rfl rfl ?_) <;> ((refine .cons rfl (qidx hX rfl rfl rfl rfl rfl (.of hs) (row_i noAB (by omega)) rfl rfl rfl ?_)) <;> refine ⟨_, .comp rfl, ?_⟩) <;> (refine .cq hX rfl rfl rfl ?_) <;> ((refine .cons rfl (q hX rfl ?_)) <;> refine ⟨_, .rdS hX.tab rfl rfl rfl rfl rfl rfl rfl rfl (suB rfl) rfl rfl rfl, ?_⟩) <;> (refine .cq hX rfl rfl rfl ?_) <;> ((refine .cons rfl (q hX rfl ?_)) <;> refine ⟨_, .rdB hX.tab rfl rfl rfl rfl rfl rfl rfl rfl (beL (by assumption)) rfl rfl rfl, ?_⟩) <;> (refine .cq hX rfl rfl rfl ?_) <;> ((refine .cons rfl (qidx hX rfl rfl rfl rfl rfl (.of hs) (row_i noAB (by omega)) rfl rfl rfl ?_)) <;> refine ⟨_, .comp rfl, ?_⟩) <;> (refine .cq hX rfl rfl rfl ?_) <;> ((refine .cons rfl (q hX rfl ?_)) <;> refine ⟨_, .rdS hX.tab rfl rfl rfl rfl rfl rfl rfl rfl (suB rfl) rfl rfl rfl, ?_⟩) <;> ((refine .cons rfl (qw hX rfl rfl rfl rfl (wU (by omega)) rfl rfl ?_)) <;> refine ⟨_, .comp rfl, ?_⟩) <;> (refine .cq hX rfl rfl rfl ?_) <;> ((refine .cons rfl (qcall rfl rfl rfl rfl ca29 rfl rfl (fun h f => refName12_run hK (c.shared.getD i noAB).1 h f.wf (hnm (by omega)).1) ?_)) <;> (rintro v C' ⟨rfl, hnr⟩) <;> refine ⟨_, .comp rfl, ?_⟩) <;> ((refine .cons rfl (qappS hX rfl rfl rfl rfl rfl rfl rfl rfl rfl rfl rfl rfl b42 rfl rfl rfl (by repeat (first | exact .h | apply Pick.t)) (by repeat (first | exact .h | apply Pick.t)) (by simp [nameE]) hnr rfl (by rw [e0, e0]; omega) rfl rfl ?_)) <;> intro kp <;> refine ⟨_, .comp rfl, ?_⟩) <;> ((refine .cons rfl (qapp hX rfl rfl rfl rfl rfl rfl rfl rfl rfl rfl rfl rfl b42 rfl rfl rfl rfl rfl (by repeat (first | exact .h | apply Pick.t)) rfl (by rw [List.length_append, e0, e0]; omega) rfl rfl ?_)) <;> intro kp <;> refine ⟨_, .comp rfl, ?_⟩) <;> (refine .cq hX rfl rfl rfl ?_) <;> (refine .nil ⟨?_, .intro rfl ?_⟩ <;> (repeat' (first | exact trivial | exact .inl rfl | exact .inr (.inl ⟨_, _, _, _, rfl, rfl, rfl⟩) | refine ⟨?_, ?_⟩))))
  | (refine WCX.g_ (id := 15) ?_; (refine .cons (q hX rfl ?_)) <;> ((refine .cons (qa rfl rfl rfl rfl rfl (wI (by first | omega | (simp only [Int.ofNat_eq_natCast]; omega)) (by first | omega | (simp only [Int.ofNat_eq_natCast]; omega))) rfl rfl ?_))) <;> (refine .cons (q hX rfl ?_)) <;> (refine .nil (.intro rfl ?_)))
  | refine WCX.t_ rfl ?_
  | refine WCX.f_ rfl ?_
  | refine WCX.k_ ?_
  | refine WCX.b_ ?_
  | refine WCX.e_ ?_
  | refine ToX.e_ ?_
  | refine ToX.c_ ?_
  | refine ToX.b_ ?_)
 ·refine next (i + 1, acc2 ++ nameE (c.shared.getD i noAB).1 ++ [(c.shared.getD i noAB).2], _) _ _ _ (by simp only; omega) ⟨⟨rfl, rfl, rfl, rfl, trivial⟩, ⟨_, rfl⟩, ⟨_, .cons (.he (by simp only [wordsO, List.map_append]; rfl)) .nil⟩⟩ ⟨by simp only; omega, ?_, ?_⟩
  ·simp only
   rw [hacc2, flatMap_step (by omega) noAB]
   simp only [arrayE, List.append_assoc]
  ·have := hnl (by omega)
   simp only [List.length_append, List.length_cons, List.length_nil]; omega
 clear next
 have hi3 : i = c.shared.length := by omega
 subst hi3
 rw [List.take_length] at hacc2
 have h18 : acc2.length ≤ 420 := by omega
 repeat' (first
  | refine ToX.a_ ?_
  | refine WCX.s_ ?_
  | (refine WCX.g_ (id := 17) ?_; (iterate 3 refine .cons (q hX rfl ?_)) <;> ((refine .cons (qw hX rfl rfl rfl rfl (wU (by omega)) rfl rfl ?_))) <;> (iterate 2 refine .cons (q hX rfl ?_)) <;> ((refine .cons (ql hX rfl rfl rfl rfl rfl rfl (by assumption) rfl rfl ?_))) <;> ((refine .cons (qw hX rfl rfl rfl rfl (wU (by omega)) rfl rfl ?_))) <;> (refine .cons (q hX rfl ?_)) <;> ((refine .cons (qappN [[.int .u32 c.local], [.int .u32 c.insns.length]] hX rfl rfl rfl rfl rfl rfl rfl rfl rfl rfl rfl rfl b42 rfl rfl rfl rfl rfl (by simp) rfl (by decide) (by repeat (first | exact .h | apply Pick.t)) rfl (by rw [e0]; simp; omega) rfl rfl ?_)) <;> intro kp) <;> (refine .cons (q hX rfl ?_)) <;> (refine .nil (.intro rfl ?_)))
  | (refine WCX.g_ (id := 18) ?_; (refine .cons (q hX rfl ?_)) <;> (refine .nil (.intro rfl ?_)))
  | refine WCX.b_ ?_)
 refine WCX.loop (ι := Nat × List Nat × HVal) (fun a => [(7, .ext (i64 a.1)), (4, .ext a.2.2), (3, .ext (i64 0)), (1, .ptr 0 0)]) (fun _ => [.own [strB c.name, pv, sv, i64 c.local, iv] 26 false]) (fun a => [wordsO a.2.2 a.2.1]) (fun a => a.1 ≤ c.insns.length ∧ a.2.1 = acc2 ++ [c.local, c.insns.length] ++ (c.insns.take a.1).flatMap insnE ∧ a.2.1.length ≤ 500 + 6 * a.1 ∧ ∀ k, a.2.2 ≠ .rest k) (fun a => c.insns.length - a.1) (0, acc2 ++ [c.local, c.insns.length], _) ⟨⟨rfl, rfl, rfl, rfl, trivial⟩, ⟨_, rfl⟩, ⟨_, .cons (.he (by simp only [wordsO, List.map_append]; rfl)) .nil⟩⟩ ⟨Nat.zero_le _, by simp, by simp; omega, by simp⟩ (fun _ => rfl) (fun _ => rfl) (fun _ => rfl) ?_
 rintro ⟨i, acc3, v3⟩ ⟨hi2, hacc3, hal3, hnr3⟩ next
 simp only at hi2 hacc3 hal3 hnr3 next ⊢
 have hx : i < c.insns.length → InsnFine (c.insns.getD i noInsn) := fun hlt => hc.each _ (getD_mem _ hlt)
 have hk1 : i < c.insns.length → 0 ≤ (c.insns.getD i noInsn).kind ∧ (c.insns.getD i noInsn).kind < 256 := fun hlt => (hx hlt).kind
 have hk2 : i < c.insns.length → 0 ≤ (c.insns.getD i noInsn).op ∧ (c.insns.getD i noInsn).op < 256 := fun hlt => (hx hlt).op
 have hk3 : i < c.insns.length → 0 ≤ (c.insns.getD i noInsn).d ∧ (c.insns.getD i noInsn).d < 256 := fun hlt => (hx hlt).d
 have hk4 : i < c.insns.length → 0 ≤ (c.insns.getD i noInsn).a ∧ (c.insns.getD i noInsn).a < 256 := fun hlt => (hx hlt).a
 have hk5 : i < c.insns.length → 0 ≤ (c.insns.getD i noInsn).b ∧ (c.insns.getD i noInsn).b < 256 := fun hlt => (hx hlt).b
 repeat' (first
  | refine ToX.a_ ?_
  | refine WCX.s_ ?_
  | (refine WCX.g_ (id := 19) ?_; (iterate 3 refine .cons (q hX rfl ?_)) <;> ((refine .cons (ql hX rfl rfl rfl rfl rfl rfl (by assumption) rfl rfl ?_))) <;> ((refine .cons (qc rfl ?_ ?_)) <;> intro _) <;> (refine .nil (.intro rfl ?_)))
  | (refine WCX.g_ (id := 21) ?_; (iterate 3 refine .cons (q hX rfl ?_)) <;> ((refine .cons (qidx hX rfl rfl rfl rfl rfl (.of hi) (row_i noInsn (by omega)) rfl rfl rfl ?_))) <;> (iterate 3 refine .cons (q hX rfl ?_)) <;> (refine .nil (.intro rfl ?_)))
  | (refine WCX.g_ (id := 22) ?_; (iterate 5 refine .cons (q hX rfl ?_)) <;> ((refine .cons (qa rfl rfl rfl rfl rfl (wI (by omega) (by omega)) rfl rfl ?_))) <;> ((refine .cons (qa rfl rfl rfl rfl rfl (wI (by omega) (by omega)) rfl rfl ?_))) <;> ((refine .cons (qw hX rfl rfl rfl rfl (wrap_wordI _) rfl rfl ?_))) <;> (iterate 4 refine .cons (q hX rfl ?_)) <;> ((refine .cons (qa rfl rfl rfl rfl rfl (wI (by omega) (by omega)) rfl rfl ?_))) <;> ((refine .cons (qa rfl rfl rfl rfl rfl (wI (by omega) (by omega)) rfl rfl ?_))) <;> (iterate 2 refine .cons (q hX rfl ?_)) <;> ((refine .cons (qa rfl rfl rfl rfl rfl (wI (by omega) (by omega)) rfl rfl ?_))) <;> ((refine .cons (qa rfl rfl rfl rfl rfl (wI (by omega) (by omega)) rfl rfl ?_))) <;> ((refine .cons (qw hX rfl rfl rfl rfl (wrap_wordI _) rfl rfl ?_))) <;> (iterate 2 refine .cons (q hX rfl ?_)) <;> ((refine .cons (qw hX rfl rfl rfl rfl (wrap_wordI _) rfl rfl ?_))) <;> (iterate 2 refine .cons (q hX rfl ?_)) <;> ((refine .cons (qw hX rfl rfl rfl rfl (wrap_wordI _) rfl rfl ?_))) <;> (iterate 2 refine .cons (q hX rfl ?_)) <;> ((refine .cons (qw hX rfl rfl rfl rfl (wrap_wordI _) rfl rfl ?_))) <;> (refine .cons (q hX rfl ?_)) <;> ((refine .cons (qappN [[.int .u32 (wordI _)], [.int .u32 (wordI _)], [.int .u32 (wordI _)], [.int .u32 (wordI _)], [.int .u32 (wordI _)], [.int .u32 0]] hX rfl rfl rfl rfl rfl rfl rfl rfl rfl rfl rfl rfl b42 rfl rfl rfl rfl rfl (by simp) rfl (by decide) (by repeat (first | exact .h | apply Pick.t)) rfl (by rw [e0]; simp; omega) rfl rfl ?_)) <;> intro kp) <;> (refine .cons (q hX rfl ?_)) <;> (refine .nil (.intro rfl ?_)))
  | (refine WCX.g_ (id := 20) ?_; (refine .cons (q hX rfl ?_)) <;> ((refine .cons (qa rfl rfl rfl rfl rfl (wI (by omega) (by omega)) rfl rfl ?_))) <;> (refine .cons (q hX rfl ?_)) <;> (refine .nil (.intro rfl ?_)))
  | refine WCX.t_ rfl ?_
  | refine WCX.f_ rfl ?_
  | refine WCX.k_ ?_
  | refine WCX.b_ ?_
  | refine WCX.e_ ?_
  | refine ToX.e_ ?_
  | refine ToX.c_ ?_
  | refine ToX.b_ ?_)
 ·refine next (i + 1, acc3 ++ insnE (c.insns.getD i noInsn), _) _ _ _ (by simp only; omega) ⟨⟨rfl, rfl, rfl, rfl, trivial⟩, ⟨_, rfl⟩, ⟨_, .cons (.he ?_) .nil⟩⟩ ⟨by simp only; omega, ?_, ?_, by simp⟩
  ·have h1 := hk1 (by omega)
   have h2 := hk2 (by omega)
   have h3 := hk3 (by omega)
   have h4 := hk4 (by omega)
   have h5 := hk5 (by omega)
   have h6 := (hx (by omega)).to
   have h7 := (hx (by omega)).join
   simp only [wordsO, List.map_append, insnE]
   congr 2
   simp only [List.map_cons, List.map_nil, wcell]
   have e1 : wordI ((c.insns.getD i noInsn).kind + 256 * (c.insns.getD i noInsn).op) = ((c.insns.getD i noInsn).kind + 256 * (c.insns.getD i noInsn).op).toNat := by unfold wordI; omega
   have e2 : wordI ((c.insns.getD i noInsn).d + 256 * (c.insns.getD i noInsn).a + 65536 * (c.insns.getD i noInsn).b) = ((c.insns.getD i noInsn).d + 256 * (c.insns.getD i noInsn).a + 65536 * (c.insns.getD i noInsn).b).toNat := by unfold wordI; omega
   have e3 : wordI (c.insns.getD i noInsn).to = (c.insns.getD i noInsn).to.toNat := by unfold wordI; omega
   have e4 : wordI (c.insns.getD i noInsn).join = (c.insns.getD i noInsn).join.toNat := by unfold wordI; omega
   rw [e1, e2, e3, e4]
   rfl
  ·simp only
   rw [hacc3, flatMap_step (by omega) noInsn, List.append_assoc]
  ·simp only [List.length_append]
   have : (insnE (c.insns.getD i noInsn)).length = 6 := rfl
   omega
 clear next
 have hi3 : i = c.insns.length := by omega
 subst hi3
 rw [List.take_length] at hacc3
 have hform : openE c = 65585 :: acc3.length :: acc3 := by
  rw [openE, show codeE c = acc3 by rw [hacc3, hacc2, hacc]; simp [codeE, List.append_assoc]]
 have hop : [65585, acc3.length].map wcell ++ acc3.map wcell = (openE c).map wcell := by rw [hform]; rfl
 have hopw : ∀ x ∈ openE c, x < 4294967296 := by
  intro x hx
  rw [hform] at hx
  rcases List.mem_cons.1 hx with rfl | hx
  ·decide
  ·rcases List.mem_cons.1 hx with rfl | hx
   ·omega
   ·exact codeE_lt hc x (by rw [show codeE c = acc3 by rw [hacc3, hacc2, hacc]; simp [codeE, List.append_assoc]]; exact hx)
 have hp0 : 0 < acc3.length := by rw [hacc3, hacc2]; simp only [List.length_append, List.length_cons]; omega
 have hol : (openE c).length = acc3.length + 2 := by rw [hform]; rfl
 refine WCX.fact (p := lenV v3 = some acc3.length) (fun h f => by have := (ownS.rd (f.pick .h)).slice.len; simpa using this) fun hl3 => ?_
 repeat' (first
  | refine ToX.a_ ?_
  | refine WCX.s_ ?_
  | (refine WCX.g_ (id := 23) ?_; (refine .cons (q hX rfl ?_)) <;> ((refine .cons (ql hX rfl rfl rfl rfl rfl rfl (by assumption) rfl rfl ?_))) <;> ((refine .cons (qw hX rfl rfl rfl rfl (wU (by omega)) rfl rfl ?_))) <;> (iterate 2 refine .cons (q hX rfl ?_)) <;> (((refine WOX.leak 1 (fun k => wordsO (.slice k 0 2 (some 2)) [65585, acc3.length]) rfl (fun k => .own rfl (by simp [wcell]) rfl) (fun _ => rfl) rfl fun k0 => ?_); (refine .cons (qappS hX rfl rfl rfl rfl rfl rfl rfl rfl rfl rfl rfl rfl b42 rfl rfl rfl (by first | exact .h | exact .t .h) (by first | exact .h | exact .t .h) (by simp; exact hp0) hnr3 rfl (by simp [wcell]; omega) rfl rfl ?_)); intro kp)) <;> (refine .cons (q hX rfl ?_)) <;> (refine .nil (.intro rfl ?_)))
  | (refine WCX.g_ (id := 24) ?_; (iterate 2 refine .cons (q hX rfl ?_)) <;> ((refine .cons (qcallV rfl rfl rfl rfl ca30 rfl rfl (fun h f => sum_run hK _ (openE c) h f.wf (by rw [← hop]; exact ownS.rd (f.pick .h)) (by omega) hopw) ?_))) <;> (refine .cons (q hX rfl ?_)) <;> ((refine .cons (qapp hX rfl rfl rfl rfl rfl rfl rfl rfl rfl rfl rfl rfl b42 rfl rfl rfl rfl rfl (by repeat (first | exact .h | apply Pick.t)) rfl (by simp; omega) rfl rfl ?_)) <;> intro kp) <;> (iterate 2 refine .cons (q hX rfl ?_)) <;> (refine .nil (.intro rfl ?_)))
  | refine WCX.r_ ?_
  | refine ToX.r_ hX rfl ?_)
 refine fun h f => ⟨_, f.chg.picks (.cons (.he ?_) .nil), .inl ⟨hVt, _, rfl, rfl⟩⟩
 have e1 := hop
 rw [show List.map wcell [65585, acc3.length] ++ List.map wcell acc3 = (openE c).map wcell from hop]
 exact ownS_snoc (x := sumOf (openE c)) rfl
end Em
end Go.HL
namespace Go.HL
open Go Go.Proofs
namespace Em
set_option maxRecDepth 10000
variable {K : CallFn} {base : List (Nat × HObj)}
theorem take_same {α : Type} {l1 l2 : List α} {i : Nat} (d : α) (h1 : i < l1.length) (h2 : i < l2.length) (ht : l1.take i = l2.take i) (hx : l1.getD i d = l2.getD i d) : l1.take (i + 1) = l2.take (i + 1) := by
 rw [take_succ h1 d, take_succ h2 d, ht, hx]
theorem take_all {α : Type} {l1 l2 : List α} {i : Nat} (h1 : i = l1.length) (h2 : l1.length = l2.length) (ht : l1.take i = l2.take i) : l1 = l2 := by
 rwa [h1, List.take_length, h2, List.take_length] at ht
theorem sameWords_run (hK : KN base K) (v1 v2 : HVal) (l1 l2 : List Nat) (h : Heap) (w : Wf h) (r1 : (rd v1 1 (l1.map wcell)).holds h) (r2 : (rd v2 1 (l2.map wcell)).holds h) (hb : l1.length ≤ 4611686018427387904) :
  Sp P K 15 [v1, v2] h (Val (.bool (decide (l1 = l2))) h) := by
 have hlen1 := rd_len r1
 have hlen2 := rd_len r2
 refine Sp.start (m := 33571891) (n := 26) w (hK.none 15 rfl rfl _ _) Tryz.func15 rfl rfl mask15 rfl rfl ?_
 repeat' (first
  | refine ToX.a_ ?_
  | refine WCX.s_ ?_
  | (refine WCX.g_ (id := 0) ?_; (refine .cons (q hX rfl ?_)) <;> (refine .nil (.intro rfl ?_)))
  | (refine WCX.g_ (id := 1) ?_; (refine .cons (q hX rfl ?_)) <;> ((refine .cons (ql hX rfl rfl rfl rfl rfl rfl (by assumption) rfl rfl ?_))) <;> (refine .cons (q hX rfl ?_)) <;> ((refine .cons (ql hX rfl rfl rfl rfl rfl rfl (by assumption) rfl rfl ?_))) <;> ((refine .cons (qc rfl ?_ ?_)) <;> intro _) <;> (refine .nil (.intro rfl ?_)))
  | (refine WCX.g_ (id := 2) ?_; (refine .cons (q hX rfl ?_)) <;> (refine .nil (.intro rfl ?_)))
  | (refine WCX.g_ (id := 3) ?_; (refine .cons (q hX rfl ?_)) <;> (refine .nil (.intro rfl ?_)))
  | refine WCX.r_ ?_
  | refine ToX.d_ ?_
  | refine WCX.t_ rfl ?_
  | refine WCX.f_ rfl ?_
  | refine WCX.k_ ?_
  | refine WCX.b_ ?_
  | refine ToX.r_ hX rfl ?_)
 ·rename_i e
  have hne : ¬ l1 = l2 := fun he => e (by rw [he])
  exact fun h f => ⟨by rw [decide_eq_false hne]; rfl, f.chg⟩
 rename_i e
 have el : l1.length = l2.length := by omega
 refine WCX.loop (ι := Nat) (fun a => [(5, .ext (i64 a)), (0, .ext v1), (1, .ext v2)]) (fun _ => []) (fun _ => []) (fun a => a ≤ l1.length ∧ l1.take a = l2.take a) (fun a => l1.length - a) 0 ⟨⟨rfl, rfl, rfl, trivial⟩, ⟨_, rfl⟩, ⟨_, .nil⟩⟩ ⟨Nat.zero_le _, by simp⟩ (fun _ => rfl) (fun _ => rfl) (fun _ => rfl) ?_
 rintro i ⟨hi, ht⟩ next
 repeat' (first
  | refine ToX.a_ ?_
  | refine WCX.s_ ?_
  | (refine WCX.g_ (id := 4) ?_; (iterate 2 refine .cons (q hX rfl ?_)) <;> ((refine .cons (ql hX rfl rfl rfl rfl rfl rfl (by assumption) rfl rfl ?_))) <;> ((refine .cons (qc rfl ?_ ?_)) <;> intro _) <;> (refine .nil (.intro rfl ?_)))
  | (refine WCX.draw (id := 6) tab [0, 1, 2, 3, 4, 5, 6, 7, 8] #[0, 0, 3, 7, 0, 0, 48, 112, 255] (by kernel_rfl) (by kernel_rfl) (by kernel_rfl) ?_; (iterate 2 refine .cq hX rfl rfl rfl ?_) <;> ((refine .cons rfl (qidx hX rfl rfl rfl rfl rfl (.of r1) (row_i (0 : Nat) (by omega)) rfl rfl rfl ?_)) <;> refine ⟨_, .comp rfl, ?_⟩) <;> ((refine .cons rfl (q hX rfl ?_)) <;> refine ⟨_, .rdS hX.tab rfl rfl rfl rfl rfl rfl rfl rfl (suB rfl) rfl rfl rfl, ?_⟩) <;> (iterate 2 refine .cq hX rfl rfl rfl ?_) <;> ((refine .cons rfl (qidx hX rfl rfl rfl rfl rfl (.of r2) (row_i (0 : Nat) (by omega)) rfl rfl rfl ?_)) <;> refine ⟨_, .comp rfl, ?_⟩) <;> ((refine .cons rfl (q hX rfl ?_)) <;> refine ⟨_, .rdS hX.tab rfl rfl rfl rfl rfl rfl rfl rfl (suB rfl) rfl rfl rfl, ?_⟩) <;> ((refine .cons rfl (qc rfl ?_ ?_)) <;> intro _ <;> refine ⟨_, .comp rfl, ?_⟩) <;> (refine .nil ⟨?_, .intro rfl ?_⟩ <;> (repeat' (first | exact trivial | exact .inl rfl | refine ⟨?_, ?_⟩))))
  | (refine WCX.g_ (id := 7) ?_; (refine .cons (q hX rfl ?_)) <;> (refine .nil (.intro rfl ?_)))
  | (refine WCX.g_ (id := 5) ?_; (refine .cons (q hX rfl ?_)) <;> ((refine .cons (qa rfl rfl rfl rfl rfl (wI (by first | omega | (simp only [Int.ofNat_eq_natCast]; omega)) (by first | omega | (simp only [Int.ofNat_eq_natCast]; omega))) rfl rfl ?_))) <;> (refine .cons (q hX rfl ?_)) <;> (refine .nil (.intro rfl ?_)))
  | (refine WCX.g_ (id := 8) ?_; (refine .cons (q hX rfl ?_)) <;> (refine .nil (.intro rfl ?_)))
  | refine WCX.r_ ?_
  | refine ToX.d_ ?_
  | refine ToX.f_ ?_
  | refine WCX.t_ rfl ?_
  | refine WCX.f_ rfl ?_
  | refine WCX.k_ ?_
  | refine WCX.b_ ?_
  | refine WCX.e_ ?_
  | refine ToX.e_ ?_
  | refine ToX.c_ ?_
  | refine ToX.b_ ?_
  | refine ToX.r_ hX rfl ?_)
 ·rename_i e0 e1
  have hne : ¬ l1 = l2 := fun he => e1 (by rw [he])
  exact fun h f => ⟨by rw [decide_eq_false hne]; rfl, f.chg⟩
 ·rename_i e0 e1
  exact next (i + 1) _ _ _ (by omega) ⟨⟨rfl, rfl, rfl, trivial⟩, ⟨_, rfl⟩, ⟨_, .nil⟩⟩ ⟨by omega, take_same 0 (by omega) (by omega) ht (by omega)⟩
 ·have he : l1 = l2 := take_all (by omega) el ht
  exact fun h f => ⟨by rw [decide_eq_true he]; rfl, f.chg⟩
theorem bin_quo64 {t a b : Nat} (ha : a < 4294967296) (hb : b ≠ 0) : binH P .quo t (.int .i64 (a : Int)) (.int .i64 (b : Int)) = some (.int .i64 ((a / b : Nat) : Int)) := by
 have := Nat.div_le_self a b
 rw [bin_quo hb, wrapF_i64_nat (by omega)]
theorem flatMap_len {α : Type} {g : α → List Nat} {k : Nat} : ∀ {l : List α}, (∀ a ∈ l, (g a).length ≤ k) → (l.flatMap g).length ≤ k * l.length
 | [], _ => by simp
 | a :: l, h => by
  have h1 := h a (by simp)
  have h2 := flatMap_len (l := l) (k := k) fun b hb => h b (by simp [hb])
  rw [List.flatMap_cons, List.length_append, List.length_cons, Nat.mul_add]
  omega
theorem wholeE_len {c : CodeB} (hc : CodeFine c) : (wholeE c).length ≤ 4611686018427387904 := by
 have b1 := hc.params
 have b2 := hc.shared
 have b3 := hc.insns
 have bn := nameE_len hc.name
 have f1 := flatMap_len (g := paramE) (k := 18) (l := c.params) fun p hp => by
  have := nameE_len (hc.pname p hp)
  simp only [paramE, List.length_append, List.length_singleton]; omega
 have f2 := flatMap_len (g := arrayE) (k := 18) (l := c.shared) fun p hp => by
  have := nameE_len (hc.sname p hp).1
  simp only [arrayE, List.length_append, List.length_singleton]; omega
 have f3 := flatMap_len (g := insnE) (k := 6) (l := c.insns) fun p hp => Nat.le_of_eq rfl
 simp only [wholeE, openE, codeE, List.length_append, List.length_cons, List.length_nil]
 omega
theorem ca8 : Callable P 8 := ⟨_, _, Go.Proofs.Tryz.func8, rfl, by kernel_rfl, rfl⟩
theorem awake_run (hK : KN base K) (h : Heap) (w : Wf h) (hB : (lies base).holds h) : Sp P K 8 [] h (Val (.bool true) h) := .known (hK.awake h hB) ⟨rfl, Chg.refl w⟩
end Em
end Go.HL
