/- The walk: code as words, by both sides. No statement of the seat stands here. -/
import Derived.Test.YtngeipnhbigdmaaGreatDoorMC
import Derived.Test.YtngeipnhbigdmaaGreatDoorXC
set_option linter.unusedVariables false
set_option linter.unusedSimpArgs false
namespace Go.HL
open Go Go.Proofs
namespace Em
set_option maxRecDepth 10000
variable {K : ah} {base : List (Nat × aG)}
/-! ## Bytes of a string -/
theorem rL (l m : List Nat) (a : Nat) : aO (l ++ m) a = aO m (aO l a) := List.foldl_append
theorem zd : ∀ {l : List Nat}, (∀ x ∈ l, x < 256) → ∀ (a : Nat), aO l a / 256 ^ l.length = a
 | [], _, a => by simp [aO]
 | x :: l, h, a => by
  have hx := h x (by simp)
  have ih := zd (l := l) (fun y hy => h y (by simp [hy])) (a * 256 + x)
  show aO l (a * 256 + x) / 256 ^ (l.length + 1) = a
  rw [Nat.pow_succ, ← Nat.div_div_eq_div_mul, ih]
  omega
theorem tQ {b : List Nat} (h : ∀ x ∈ b, x < 256) {j : Nat} (hj : j < b.length) : gm b.length (aO b 0) j = b.getD j 0 := by
 have e1 : b = b.take (j + 1) ++ b.drop (j + 1) := (List.take_append_drop _ _).symm
 have e2 := zd (l := b.drop (j + 1)) (fun y hy => h y (List.mem_of_mem_drop hy)) (aO (b.take (j + 1)) 0)
 rw [← rL, ← e1, List.length_drop] at e2
 unfold gm
 show aO b 0 / 2 ^ (8 * (b.length - (j + 1))) % 256 = _
 rw [Nat.pow_mul, show (2 : Nat) ^ 8 = 256 by decide, e2, take_succ hj 0, rL]
 have := h _ (bh 0 hj)
 show (aO (b.take j) 0 * 256 + b.getD j 0) % 256 = _
 omega
theorem tI (x : Nat) : ∀ (l : List Nat), dz (l ++ [x]) = dz l + 256 ^ l.length * x
 | [] => by simp [dz]
 | y :: l => by
  show y + 256 * dz (l ++ [x]) = y + 256 * dz l + 256 ^ (l.length + 1) * x
  rw [tI x l, Nat.pow_succ, Nat.mul_add, Nat.mul_comm (256 ^ l.length) 256, Nat.mul_assoc, Nat.add_assoc]
theorem Ip {x m : Nat} (hx : x < 256) (hm : m ≤ 3) : 2 ^ (8 * m) * x < 4294967296 := by
 obtain rfl | rfl | rfl | rfl : m = 0 ∨ m = 1 ∨ m = 2 ∨ m = 3 := by omega
 all_goals simp; omega
theorem D6 {x m a : Nat} (hx : x < 256) (hm : m ≤ 3) (ha : a < 2 ^ (8 * m)) : 2 ^ (8 * m) * x + a < 4294967296 := by
 obtain rfl | rfl | rfl | rfl : m = 0 ∨ m = 1 ∨ m = 2 ∨ m = 3 := by omega
 all_goals simp at ha ⊢; omega
theorem HN {t x m : Nat} (hx : x < 256) (hm : m ≤ 3) : df P .shl t (.int .u32 (x : Int)) (.int .u64 ((8 * m : Nat) : Int)) = some (.int .u32 ((2 ^ (8 * m) * x : Nat) : Int)) := by
 rw [LW, show min (8 * m) (IntKind.u32.bits) = 8 * m from Nat.min_eq_left (show 8 * m ≤ 32 by omega), ← Int.natCast_mul, Nat.mul_comm, wU (Ip hx hm)]
theorem sP : jJ [] = [] := by rw [jJ, dif_neg (by simp)]
theorem pY {l : List Nat} (h : 0 < l.length) : jJ l = dz (l.take 4) :: jJ (l.drop 4) := by rw [jJ, dif_pos h]
theorem oB (hK : KN base K) (v : aa) (l b : List Nat) (h : Heap) (w : Wf h) (hg : (cO v l).holds h) (hb : cy b) (hl : l.length ≤ 1000000) :
  Sp P K 64 [v, aY b] h (Mx (cO v l) (fun x C' => C' = [cO x (l ++ lL b)] ∧ nd x) h) := by
 have hlen := hb.1
 have hbytes := hb.2
 refine Sp.mn (m := 1073873139) (n := 50) w hg (hK.none 64 rfl rfl _ _) Tryz.func64 rfl rfl N5 rfl rfl ?_
 repeat' (first | refine ax.a_ ?_ | refine ai.s_ ?_ | (refine X 0 ?_; (refine J Z ?_) <;> (refine Y Z ?_)) | (refine X 1 ?_; (iterate 3 refine J Z ?_) <;> (refine .cons (qw hX Z Z Z Z (wU (by omega)) Z Z ?_)) <;> (refine J Z ?_) <;> ((refine .cons (sM hX Z Z Z Z Z Z Z Z Z Z Z Z NV Z Z Z Z Z (by repeat (first | exact .h | apply aS.t)) Z (by simp only [List.length_map]; omega) Z Z ?_)) <;> intro kp) <;> (refine J Z ?_) <;> (refine Y Z ?_)) | (refine X 2 ?_; (refine J Z ?_) <;> (refine Y Z ?_)) | refine ai.b_ ?_)
 refine ai.loop (ι := Nat × List Nat × aa) (fun a => [(5, .ext (i64 a.1)), (1, .ext (aY b)), (0, .ext a.2.2)]) (fun _ => []) (fun a => [cO a.2.2 a.2.1]) (fun a => l ++ lL b = a.2.1 ++ jJ (b.drop a.1) ∧ a.2.1.length ≤ l.length + 1 + a.1 ∧ a.1 ≤ 20 ∧ nd a.2.2) (fun a => b.length - a.1) (0, l ++ [b.length], _) ⟨⟨rfl, rfl, rfl, trivial⟩, ⟨_, rfl⟩, ⟨_, .cons (.he (lH (x := b.length) rfl)) .nil⟩⟩ ⟨by simp [lL], by simp, by simp, _, _, rfl⟩ (fun _ => rfl) (fun _ => rfl) (fun _ => rfl) ?_
 rintro ⟨i, acc, v2⟩ ⟨he, hacc, hi, hfr⟩ next
 simp only at he hacc hi hfr next ⊢
 have hdl : (b.drop i).length = b.length - i := List.length_drop
 repeat' (first | refine ax.a_ ?_ | refine ai.s_ ?_ | (refine X 3 ?_; (iterate 3 refine J Z ?_) <;> ((refine .cons (qc Z ?_ ?_)) <;> intro _) <;> (refine Y Z ?_)) | (refine X 5 ?_; (refine J Z ?_) <;> (refine Y Z ?_)) | (refine X 6 ?_; (iterate 2 refine J Z ?_) <;> (refine Y Z ?_)) | (refine X 11 ?_; (iterate 2 refine J Z ?_) <;> (refine Y Z ?_)) | refine ai.r_ ?_ | refine ai.t_ rfl ?_ | refine ai.f_ rfl ?_ | refine ai.k_ ?_ | refine ai.b_ ?_ | refine ai.e_ ?_ | refine ax.e_ ?_ | refine ax.c_ ?_ | refine ax.r_ hX rfl ?_)
 ·refine ai.loop (ι := Nat × Nat) (fun a => [(7, .ext (i64 (i + a.1))), (6, .ext (u32 a.2)), (5, .ext (i64 i)), (1, .ext (aY b)), (0, .ext v2)]) (fun _ => []) (fun _ => [cO v2 acc]) (fun a => a.1 ≤ min 4 (b.length - i) ∧ a.2 = dz ((b.drop i).take a.1)) (fun a => min 4 (b.length - i) - a.1) (0, 0) ⟨⟨rfl, rfl, rfl, rfl, rfl, trivial⟩, ⟨_, rfl⟩, ⟨_, .cons .h .nil⟩⟩ ⟨Nat.zero_le _, rfl⟩ (fun _ => rfl) (fun _ => rfl) (fun _ => rfl) ?_
  rintro ⟨m, wd⟩ ⟨hm, hwd⟩ next2
  simp only at hm hwd next2 ⊢
  have hsx : i + m < b.length → gm b.length (aO b 0) (i + m) = b.getD (i + m) 0 ∧ b.getD (i + m) 0 < 256 := fun hlt => ⟨tQ hbytes hlt, hbytes _ (bh 0 hlt)⟩
  have hwl : wd < 2 ^ (8 * m) := by
   have := so (l := (b.drop i).take m) fun x hx => hbytes x (List.mem_of_mem_drop (List.mem_of_mem_take hx))
   rw [List.length_take, hdl, Nat.min_eq_left (by omega)] at this
   rw [Nat.pow_mul, hwd]; exact this
  have hp8 : m ≤ 3 → 2 ^ (8 * m) ≤ 16777216 := fun h3 => by
   have : 2 ^ (8 * m) ≤ 2 ^ 24 := Nat.pow_le_pow_right (by decide) (by omega)
   exact this
  repeat' (first | refine ax.a_ ?_ | refine ai.s_ ?_ | (refine X 7 ?_; (iterate 3 refine J Z ?_) <;> ((refine .cons (qc Z ?_ ?_)) <;> intro _) <;> (iterate 3 refine J Z ?_) <;> (first | (refine J Z ?_) | (refine .cons (qa Z Z Z Z Z (wI (by first | omega | (simp only [Int.ofNat_eq_natCast]; omega)) (by first | omega | (simp only [Int.ofNat_eq_natCast]; omega))) Z Z ?_))) <;> (first | (refine J Z ?_) | (refine .cons (qc Z ?_ ?_)) <;> intro _) <;> (refine J Z ?_) <;> (refine Y Z ?_)) | (refine X 9 ?_; (iterate 3 refine J Z ?_) <;> (refine .cons (qs hX Z Z Z Z (by first | omega | (simp only [Int.ofNat_eq_natCast]; omega)) Z Z ?_)) <;> (refine .cons (qw (b := ((b.getD (i + m) 0 : Nat) : Int)) hX Z Z Z Z (by rw [(hsx (by omega)).1, Int.ofNat_eq_natCast]; exact wU (by have := (hsx (by omega)).2; omega)) Z Z ?_)) <;> (iterate 2 refine J Z ?_) <;> (refine .cons (qa (d := (m : Int)) Z Z Z Z Z (by rw [wI (by omega) (by omega)]; omega) Z Z ?_)) <;> (refine .cons (qw hX Z Z Z Z (fz (by omega)) Z Z ?_)) <;> (refine .cons (qa (d := ((8 * m : Nat) : Int)) Z Z Z Z Z (vi (a := 8) (by omega)) Z Z ?_)) <;> (refine .cons (qn Z Z Z (HN (hsx (by omega)).2 (by omega)) Z Z ?_)) <;> (refine .cons (qn Z Z Z (Kf hwl (Ip (hsx (by omega)).2 (by omega)) (D6 (hsx (by omega)).2 (by omega) hwl)) Z Z ?_)) <;> (refine J Z ?_) <;> (refine Y Z ?_)) | (refine X 8 ?_; (refine J Z ?_) <;> (refine .cons (qa Z Z Z Z Z (wI (by first | omega | (simp only [Int.ofNat_eq_natCast]; omega)) (by first | omega | (simp only [Int.ofNat_eq_natCast]; omega))) Z Z ?_)) <;> (refine J Z ?_) <;> (refine Y Z ?_)) | (refine X 10 ?_; (iterate 3 refine J Z ?_) <;> ((refine .cons (sM hX Z Z Z Z Z Z Z Z Z Z Z Z NV Z Z Z Z Z (by repeat (first | exact .h | apply aS.t)) Z (by simp only [List.length_map]; omega) Z Z ?_)) <;> intro kp) <;> (refine J Z ?_) <;> (refine Y Z ?_)) | (refine X 4 ?_; (refine J Z ?_) <;> (refine .cons (qa Z Z Z Z Z (wI (by first | omega | (simp only [Int.ofNat_eq_natCast]; omega)) (by first | omega | (simp only [Int.ofNat_eq_natCast]; omega))) Z Z ?_)) <;> (refine J Z ?_) <;> (refine Y Z ?_)) | refine ai.t_ rfl ?_ | refine ai.f_ rfl ?_ | refine ai.k_ ?_ | refine ai.b_ ?_ | refine ai.e_ ?_ | refine ax.e_ ?_ | refine ax.c_ ?_ | refine ax.b_ ?_)
  ·refine next2 (m + 1, _) _ _ _ (by simp only; omega) ⟨⟨rfl, rfl, rfl, rfl, rfl, trivial⟩, ⟨_, rfl⟩, ⟨_, .cons .h .nil⟩⟩ ⟨by simp only; omega, ?_⟩
   have hlt : m < (b.drop i).length := by omega
   simp only
   rw [take_succ hlt 0, tI, hwd, List.length_take, Nat.min_eq_left (by omega), show (b.drop i).getD m 0 = b.getD (i + m) 0 by simp [List.getD, List.getElem?_drop], Nat.pow_mul, Nat.add_comm]
  all_goals
   clear next2
   have hm4 : m = min 4 (b.length - i) := by omega
   have hwd4 : wd = dz ((b.drop i).take 4) := by
    rw [hwd, hm4]
    congr 1
    by_cases h4 : 4 ≤ b.length - i
    ·rw [Nat.min_eq_left h4]
    ·rw [Nat.min_eq_right (by omega), List.take_of_length_le (by omega), List.take_of_length_le (by omega)]
   refine next (i + 4, acc ++ [wd], _) _ _ _ (by simp only; omega) ⟨⟨rfl, rfl, rfl, trivial⟩, ⟨_, rfl⟩, ⟨_, .cons (.he (lH (x := wd) rfl)) .nil⟩⟩ ⟨?_, by simp only [List.length_append, List.length_singleton]; omega, by simp only; omega, _, _, rfl⟩
   simp only
   rw [he, pY (by omega), List.drop_drop, hwd4, List.append_assoc]
   rfl
 ·have hn : b.drop i = [] := List.drop_of_length_le (by omega)
  rw [hn, sP, List.append_nil] at he
  exact fun h f => ⟨_, f.aZ, by rw [he]; rfl, hfr⟩
end Em
end Go.HL
namespace Go.HL
open Go Go.Proofs
namespace Em
set_option maxRecDepth 10000
set_option maxHeartbeats 4000000
variable {K : ah} {base : List (Nat × aG)}
def gG (c : aR) (pv sv iv : aa) : Part := (rd pv 2 (c.params.map gu)).both ((rd sv 2 (c.shared.map kT)).both (rd iv 8 (c.aq.map eo)))
def gh : List Nat × Bool := ([], false)
def fQ : List Nat × Nat := ([], 0)
theorem Gx : ∀ (k : Nat) (l : List Nat), l.length = k → (jJ l).length ≤ k := by
 intro k
 induction k using Nat.strongRecOn with
 | _ k ih =>
  intro l hl
  by_cases h0 : 0 < l.length
  ·rw [pY h0]
   have := ih (l.drop 4).length (by rw [List.length_drop]; omega) (l.drop 4) rfl
   rw [List.length_drop] at this
   simp only [List.length_cons]
   omega
  ·rw [show l = [] from List.eq_nil_of_length_eq_zero (by omega), sP]; simp
theorem fh {b : List Nat} (h : cy b) : (lL b).length ≤ 17 := by
 have := Gx _ b rfl
 have := h.1
 simp only [lL, List.length_cons]; omega
theorem eB {α : Type} {l : List α} {g : α → List Nat} {i : Nat} (hi : i < l.length) (d : α) : (l.take (i + 1)).flatMap g = (l.take i).flatMap g ++ g (l.getD i d) := by
 rw [take_succ hi d, List.flatMap_append]; simp
theorem lz {n : Nat} (h : n < 4294967296) : ny (n : Int) = n := by unfold ny; omega
def MN (c : aR) : List Nat := [65585, 0] ++ lL c.name ++ [c.params.length]
theorem IH : ∀ (k : Nat) (l : List Nat), l.length = k → (∀ x ∈ l, x < 256) → ∀ x ∈ jJ l, x < 4294967296 := by
 intro k
 induction k using Nat.strongRecOn with
 | _ k ih =>
  intro l hl hb x hx
  by_cases h0 : 0 < l.length
  ·rw [pY h0] at hx
   rcases List.mem_cons.1 hx with rfl | hx
   ·exact tH hb
   ·exact ih (l.drop 4).length (by rw [List.length_drop]; omega) (l.drop 4) rfl (fun y hy => hb y (List.mem_of_mem_drop hy)) x hx
  ·rw [show l = [] from List.eq_nil_of_length_eq_zero (by omega), sP] at hx; simp at hx
theorem wg {b : List Nat} (h : cy b) : ∀ x ∈ lL b, x < 4294967296 := by
 intro x hx
 have := h.1
 rcases List.mem_cons.1 hx with rfl | hx
 ·omega
 ·exact IH _ b rfl h.2 x hx
theorem Cg {c : aR} (hc : dZ c) : ∀ x ∈ jW c, x < 4294967296 := by
 have b1 := hc.params
 have b2 := hc.shared
 have b3 := hc.aq
 have b4 := hc.local
 intro x hx
 simp only [jW, List.mem_append, List.mem_flatMap, List.mem_singleton, List.not_mem_nil, or_false] at hx
 rcases hx with hx | hx | ⟨p, hp, hx⟩ | hx | ⟨p, hp, hx⟩ | hx | hx | ⟨y, hy, hx⟩
 ·exact wg hc.name x hx
 ·omega
 ·simp only [ld, List.mem_append, List.mem_singleton] at hx
  rcases hx with hx | hx
  ·exact wg (hc.eg p hp) x hx
  ·subst hx; split <;> omega
 ·omega
 ·simp only [oz, List.mem_append, List.mem_singleton] at hx
  have hs := hc.dF p hp
  rcases hx with hx | hx
  ·exact wg hs.1 x hx
  ·omega
 ·omega
 ·omega
 ·have h := hc.each y hy
  have h1 := h.kind
  have h2 := h.op
  have h3 := h.d
  have h4 := h.a
  have h5 := h.b
  have h6 := h.to
  have h7 := h.join
  simp only [wF, List.mem_cons, List.not_mem_nil, or_false] at hx
  omega
theorem x8 (hK : KN base K) (c : aR) (pv sv iv : aa) (h : Heap) (w : Wf h) (hc : dZ c) (hr : (gG c pv sv iv).holds h) :
  Sp P K 28 [iL c pv sv iv] h (Tr (fun v C' => C' = [cO v (aW c)] ∧ nd v) h) := by
 have hp := hr.1
 have hs := hr.2.1
 have hi := hr.2.2
 have lp := aV hp
 have ls := aV hs
 have li := aV hi
 have b1 := hc.params
 have b2 := hc.shared
 have b3 := hc.aq
 have b4 := hc.local
 have bn := fh hc.name
 refine Sp.start (m := 70835501465177981715119) (n := 121) w (hK.none 28 rfl rfl _ _) Tryz.func28 rfl rfl Nb rfl rfl ?_
 repeat' (first | refine ax.a_ ?_ | refine ai.s_ ?_ | (refine X 0 ?_; (iterate 2 refine J Z ?_) <;> (refine Y Z ?_)) | (refine X 1 ?_; (iterate 2 refine J Z ?_) <;> (refine Y Z ?_)))
 refine ai.gD 1 (fun k => cO (.slice k 0 2 (some 2)) [65585, 0]) rfl (fun k => .own rfl (by simp [gj]) rfl) (fun _ => rfl) rfl fun k0 => ?_
 repeat' (first | refine ax.a_ ?_ | refine ai.s_ ?_ | (refine X 2 ?_; (iterate 3 refine J Z ?_) <;> ((refine .cons (la Z Z Z Z NN Z Z (by repeat (first | exact .h | apply aS.t)) Z (fun h f hg ro rg => oB hK _ _ c.name h f.wf hg hc.name (by decide)) ?_)) <;> (rintro v C' ⟨rfl, hfv⟩)) <;> (refine J Z ?_) <;> (refine Y Z ?_)) | (refine X 3 ?_; (iterate 3 refine J Z ?_) <;> (refine .cons (ql hX Z Z Z Z Z Z (by assumption) Z Z ?_)) <;> (refine J Z ?_) <;> ((refine .cons (jf Z Z Z Z Z Z Z Cs Z Z (by repeat (first | exact .h | apply aS.t)) Z (fun k h f hg rs => kS hK _ _ _ [(c.params.length : Int)] h f.wf hg (rs.sl (rows := [hU c.params.length]) Z (by simp) Z) (by simp; omega)) ?_)) <;> (rintro v C' ⟨rfl, hfv⟩)) <;> (refine J Z ?_) <;> (refine Y Z ?_)) | (refine X 4 ?_; (iterate 2 refine J Z ?_) <;> (refine .cons (ql hX Z Z Z Z Z Z (by assumption) Z Z ?_)) <;> (refine J Z ?_) <;> (refine Y Z ?_)) | refine ai.b_ ?_)
 refine ai.loop (ι := Nat × List Nat × aa) (fun a => [(24, .ext (i64 a.1)), (23, .ext (i64 c.params.length)), (22, .ext pv), (3, .ext a.2.2), (1, .ptr 0 0)]) (fun _ => [.own [aY c.name, pv, sv, i64 c.local, iv] 26 false, .gone]) (fun a => [cO a.2.2 a.2.1]) (fun a => a.1 ≤ c.params.length ∧ a.2.1 = MN c ++ (c.params.take a.1).flatMap ld ∧ a.2.1.length ≤ 100 + 30 * a.1) (fun a => c.params.length - a.1) (0, _, _) ⟨⟨rfl, rfl, rfl, rfl, rfl, trivial⟩, ⟨_, rfl⟩, ⟨_, .cons .h .nil⟩⟩ ⟨Nat.zero_le _, by simp only [List.map_cons, List.map_nil, lz (show c.params.length < 4294967296 by omega), MN, List.take_zero, List.flatMap_nil, List.append_nil], by simp; omega⟩ (fun _ => rfl) (fun _ => rfl) (fun _ => rfl) ?_
 rintro ⟨i, acc, v2⟩ ⟨hi2, hacc, hal⟩ next
 simp only at hi2 hacc hal next ⊢
 have hnm : i < c.params.length → cy (c.params.getD i gh).1 := fun hlt => hc.eg _ (bh _ hlt)
 have hnl : i < c.params.length → (lL (c.params.getD i gh).1).length ≤ 17 := fun hlt => fh (hnm hlt)
 repeat' (first | refine ax.a_ ?_ | refine ai.s_ ?_ | (refine X 5 ?_; ((refine .cons (qc Z ?_ ?_)) <;> intro _) <;> (refine Y Z ?_)) | (refine X 6 ?_; (refine .cons (bq hX Z Z Z Z Z (.of hp) (aM gh (by omega)) Z Z Z ?_)) <;> (iterate 3 refine J Z ?_) <;> (refine Y Z ?_)) | (refine X 7 ?_; (iterate 3 refine J Z ?_) <;> ((refine .cons (la Z Z Z Z NN Z Z (by repeat (first | exact .h | apply aS.t)) Z (fun h f hg ro rg => oB hK _ _ (c.params.getD i gh).1 h f.wf hg (hnm (by omega)) (by omega)) ?_)) <;> (rintro v C' ⟨rfl, hfv⟩)) <;> (refine J Z ?_) <;> (refine Y Z ?_)) | (refine X 8 ?_; (refine J Z ?_) <;> ((refine .cons (qb hX Z ?_ ?_)) <;> (intro hbl; (first | (cases hbl; done) | skip))) <;> (refine Y Z ?_)) | (refine X 9 ?_; (iterate 2 refine J Z ?_) <;> ((refine .cons (jf Z Z Z Z Z Z Z Cs Z Z (by repeat (first | exact .h | apply aS.t)) Z (fun k h f hg rs => kS hK _ _ _ [1] h f.wf hg (rs.sl (rows := [hU 1]) Z (by simp) Z) (by simp only [List.length_append, List.length_cons, List.length_nil]; omega)) ?_)) <;> (rintro v C' ⟨rfl, hfv⟩)) <;> (refine J Z ?_) <;> (refine Y Z ?_)) | (refine X 10 ?_; (iterate 2 refine J Z ?_) <;> ((refine .cons (jf Z Z Z Z Z Z Z Cs Z Z (by repeat (first | exact .h | apply aS.t)) Z (fun k h f hg rs => kS hK _ _ _ [0] h f.wf hg (rs.sl (rows := [hU 0]) Z (by simp) Z) (by simp only [List.length_append, List.length_cons, List.length_nil]; omega)) ?_)) <;> (rintro v C' ⟨rfl, hfv⟩)) <;> (refine J Z ?_) <;> (refine Y Z ?_)) | (refine X 11 ?_; (refine .cons (qa Z Z Z Z Z (wI (by first | omega | (simp only [Int.ofNat_eq_natCast]; omega)) (by first | omega | (simp only [Int.ofNat_eq_natCast]; omega))) Z Z ?_)) <;> (refine J Z ?_) <;> (refine Y Z ?_)) | refine ai.t_ rfl ?_ | refine ai.f_ rfl ?_ | refine ai.k_ ?_ | refine ai.b_ ?_ | refine ai.e_ ?_ | refine ax.e_ ?_ | refine ax.c_ ?_ | refine ax.b_ ?_)
 ·refine next (i + 1, _, _) _ _ _ (by simp only; omega) ⟨⟨rfl, rfl, rfl, rfl, rfl, trivial⟩, ⟨_, rfl⟩, ⟨_, .cons .h .nil⟩⟩ ⟨by simp only; omega, ?_, ?_⟩
  ·simp only
   rw [hacc, eB (by omega) gh, List.append_assoc, List.append_assoc]
   congr 2
   simp only [ld, hbl, if_true]; rfl
  ·have := hnl (by omega)
   simp only [List.length_append, List.length_map, List.length_cons, List.length_nil]; omega
 ·refine next (i + 1, _, _) _ _ _ (by simp only; omega) ⟨⟨rfl, rfl, rfl, rfl, rfl, trivial⟩, ⟨_, rfl⟩, ⟨_, .cons .h .nil⟩⟩ ⟨by simp only; omega, ?_, ?_⟩
  ·simp only
   rw [hacc, eB (by omega) gh, List.append_assoc, List.append_assoc]
   congr 2
   simp only [ld, hbl]; rfl
  ·have := hnl (by omega)
   simp only [List.length_append, List.length_map, List.length_cons, List.length_nil]; omega
 clear next
 have hi3 : i = c.params.length := by omega
 subst hi3
 rw [List.take_length] at hacc
 have h17 : acc.length ≤ 280 := by omega
 repeat' (first | refine ax.a_ ?_ | refine ai.s_ ?_ | (refine X 12 ?_; (iterate 3 refine J Z ?_) <;> (refine .cons (ql hX Z Z Z Z Z Z (by assumption) Z Z ?_)) <;> (refine J Z ?_) <;> ((refine .cons (jf Z Z Z Z Z Z Z Cs Z Z (by repeat (first | exact .h | apply aS.t)) Z (fun k h f hg rs => kS hK _ _ _ [(c.shared.length : Int)] h f.wf hg (rs.sl (rows := [hU c.shared.length]) Z (by simp) Z) (by simp; omega)) ?_)) <;> (rintro v C' ⟨rfl, hfv⟩)) <;> (refine J Z ?_) <;> (refine Y Z ?_)) | (refine X 13 ?_; (iterate 2 refine J Z ?_) <;> (refine .cons (ql hX Z Z Z Z Z Z (by assumption) Z Z ?_)) <;> (refine J Z ?_) <;> (refine Y Z ?_)) | refine ai.b_ ?_)
 refine ai.loop (ι := Nat × List Nat × aa) (fun a => [(50, .ext (i64 a.1)), (49, .ext (i64 c.shared.length)), (48, .ext sv), (3, .ext a.2.2), (1, .ptr 0 0)]) (fun _ => [.own [aY c.name, pv, sv, i64 c.local, iv] 26 false, .gone]) (fun a => [cO a.2.2 a.2.1]) (fun a => a.1 ≤ c.shared.length ∧ a.2.1 = acc ++ [c.shared.length] ++ (c.shared.take a.1).flatMap oz ∧ a.2.1.length ≤ 300 + 30 * a.1) (fun a => c.shared.length - a.1) (0, _, _) ⟨⟨rfl, rfl, rfl, rfl, rfl, trivial⟩, ⟨_, rfl⟩, ⟨_, .cons .h .nil⟩⟩ ⟨Nat.zero_le _, by simp only [List.map_cons, List.map_nil, lz (show c.shared.length < 4294967296 by omega), List.take_zero, List.flatMap_nil, List.append_nil], by simp; omega⟩ (fun _ => rfl) (fun _ => rfl) (fun _ => rfl) ?_
 rintro ⟨i, acc2, v3⟩ ⟨hi2, hacc2, hal2⟩ next
 simp only at hi2 hacc2 hal2 next ⊢
 have hnm : i < c.shared.length → cy (c.shared.getD i fQ).1 ∧ (c.shared.getD i fQ).2 ≤ 64 := fun hlt => hc.dF _ (bh _ hlt)
 have hnl : i < c.shared.length → (lL (c.shared.getD i fQ).1).length ≤ 17 := fun hlt => fh (hnm hlt).1
 repeat' (first | refine ax.a_ ?_ | refine ai.s_ ?_ | (refine X 14 ?_; ((refine .cons (qc Z ?_ ?_)) <;> intro _) <;> (refine Y Z ?_)) | (refine X 15 ?_; (refine .cons (bq hX Z Z Z Z Z (.of hs) (aM fQ (by omega)) Z Z Z ?_)) <;> (iterate 3 refine J Z ?_) <;> (refine Y Z ?_)) | (refine ai.draw (id := 16) aw [0, 1, 2, 4, 5, 6, 3, 7, 8] #[0, 0, 2, 7, 0, 16, 48, 127, 255] (by kernel_rfl) (by kernel_rfl) (by kernel_rfl) ?_; (iterate 2 refine O Z Z Z ?_) <;> ((refine .cons Z (q hX Z ?_)) <;> refine ⟨_, .ng hX.aw Z Z Z Z Z Z Z Z (suB Z) Z Z Z, ?_⟩) <;> (refine O Z Z Z ?_) <;> ((refine .cons Z (q hX Z ?_)) <;> refine ⟨_, .ng hX.aw Z Z Z Z Z Z Z Z (suB Z) Z Z Z, ?_⟩) <;> (refine O Z Z Z ?_) <;> ((refine .cons Z (la Z Z Z Z NN Z Z (by repeat (first | exact .h | apply aS.t)) Z (fun h f hg ro rg => oB hK _ _ (c.shared.getD i fQ).1 h f.wf hg (hnm (by omega)).1 (by omega)) ?_)) <;> (rintro v C' ⟨rfl, hfv⟩) <;> refine W_ Z ?_) <;> ((refine .cons Z (jf Z Z Z Z Z Z Z Cs Z Z (by repeat (first | exact .h | apply aS.t)) Z (fun k h f hg rs => kS hK _ _ _ [((c.shared.getD i fQ).2 : Int)] h f.wf hg (rs.sl (rows := [hU (c.shared.getD i fQ).2]) Z (by simp) Z) (by simp only [List.length_append, List.length_cons, List.length_nil]; omega)) ?_)) <;> (rintro v C' ⟨rfl, hfv⟩) <;> refine W_ Z ?_) <;> (refine O Z Z Z ?_) <;> (refine .nil ⟨?_, .intro Z ?_⟩ <;> (repeat' (first | exact trivial | exact .inl Z | exact .inr (.inl ⟨_, _, _, _, Z, Z, Z⟩) | refine ⟨?_, ?_⟩)))) | (refine X 17 ?_; (refine .cons (qa Z Z Z Z Z (wI (by first | omega | (simp only [Int.ofNat_eq_natCast]; omega)) (by first | omega | (simp only [Int.ofNat_eq_natCast]; omega))) Z Z ?_)) <;> (refine J Z ?_) <;> (refine Y Z ?_)) | refine ai.t_ rfl ?_ | refine ai.f_ rfl ?_ | refine ai.k_ ?_ | refine ai.b_ ?_ | refine ai.e_ ?_ | refine ax.e_ ?_ | refine ax.c_ ?_ | refine ax.b_ ?_)
 ·refine next (i + 1, _, _) _ _ _ (by simp only; omega) ⟨⟨rfl, rfl, rfl, rfl, rfl, trivial⟩, ⟨_, rfl⟩, ⟨_, .cons .h .nil⟩⟩ ⟨by simp only; omega, ?_, ?_⟩
  ·have := (hnm (by omega)).2
   simp only
   rw [hacc2, eB (by omega) fQ, List.map_cons, List.map_nil, lz (by omega)]
   simp only [List.append_assoc]; rfl
  ·have := hnl (by omega)
   simp only [List.length_append, List.length_map, List.length_cons, List.length_nil]; omega
 clear next
 have hi3 : i = c.shared.length := by omega
 subst hi3
 rw [List.take_length] at hacc2
 have h18 : acc2.length ≤ 420 := by omega
 repeat' (first | refine ax.a_ ?_ | refine ai.s_ ?_ | (refine X 18 ?_; (iterate 5 refine J Z ?_) <;> (refine .cons (ql hX Z Z Z Z Z Z (by assumption) Z Z ?_)) <;> (refine J Z ?_) <;> ((refine .cons (jf Z Z Z Z Z Z Z Cs Z Z (by repeat (first | exact .h | apply aS.t)) Z (fun k h f hg rs => kS hK _ _ _ [(c.local : Int), (c.aq.length : Int)] h f.wf hg (rs.sl (rows := [hU c.local, hU c.aq.length]) Z (by simp) Z) (by simp; omega)) ?_)) <;> (rintro v C' ⟨rfl, hfv⟩)) <;> (refine J Z ?_) <;> (refine Y Z ?_)) | (refine X 19 ?_; (iterate 2 refine J Z ?_) <;> (refine .cons (ql hX Z Z Z Z Z Z (by assumption) Z Z ?_)) <;> (refine J Z ?_) <;> (refine Y Z ?_)) | refine ai.b_ ?_)
 refine ai.loop (ι := Nat × List Nat × aa) (fun a => [(74, .ext (i64 a.1)), (73, .ext (i64 c.aq.length)), (72, .ext iv), (3, .ext a.2.2), (1, .ptr 0 0)]) (fun _ => [.own [aY c.name, pv, sv, i64 c.local, iv] 26 false, .gone]) (fun a => [cO a.2.2 a.2.1]) (fun a => a.1 ≤ c.aq.length ∧ a.2.1 = acc2 ++ [c.local, c.aq.length] ++ (c.aq.take a.1).flatMap wF ∧ a.2.1.length ≤ 500 + 6 * a.1 ∧ nd a.2.2) (fun a => c.aq.length - a.1) (0, _, _) ⟨⟨rfl, rfl, rfl, rfl, rfl, trivial⟩, ⟨_, rfl⟩, ⟨_, .cons .h .nil⟩⟩ ⟨Nat.zero_le _, by simp only [List.map_cons, List.map_nil, lz (show c.aq.length < 4294967296 by omega), lz (show c.local < 4294967296 by omega), List.take_zero, List.flatMap_nil, List.append_nil], by simp; omega, hfv (by simp)⟩ (fun _ => rfl) (fun _ => rfl) (fun _ => rfl) ?_
 rintro ⟨i, acc3, v3⟩ ⟨hi2, hacc3, hal3, hfr3⟩ next
 simp only at hi2 hacc3 hal3 hfr3 next ⊢
 have hx : i < c.aq.length → k9 (c.aq.getD i aP) := fun hlt => hc.each _ (bh _ hlt)
 have hk1 : i < c.aq.length → 0 ≤ (c.aq.getD i aP).kind ∧ (c.aq.getD i aP).kind < 256 := fun hlt => (hx hlt).kind
 have hk2 : i < c.aq.length → 0 ≤ (c.aq.getD i aP).op ∧ (c.aq.getD i aP).op < 256 := fun hlt => (hx hlt).op
 have hk3 : i < c.aq.length → 0 ≤ (c.aq.getD i aP).d ∧ (c.aq.getD i aP).d < 256 := fun hlt => (hx hlt).d
 have hk4 : i < c.aq.length → 0 ≤ (c.aq.getD i aP).a ∧ (c.aq.getD i aP).a < 256 := fun hlt => (hx hlt).a
 have hk5 : i < c.aq.length → 0 ≤ (c.aq.getD i aP).b ∧ (c.aq.getD i aP).b < 256 := fun hlt => (hx hlt).b
 repeat' (first | refine ax.a_ ?_ | refine ai.s_ ?_ | (refine X 20 ?_; ((refine .cons (qc Z ?_ ?_)) <;> intro _) <;> (refine Y Z ?_)) | (refine X 21 ?_; (refine .cons (bq hX Z Z Z Z Z (.of hi) (aM aP (by omega)) Z Z Z ?_)) <;> (iterate 3 refine J Z ?_) <;> (refine Y Z ?_)) | (refine X 22 ?_; (iterate 5 refine J Z ?_) <;> (refine .cons (qa Z Z Z Z Z (wI (by omega) (by omega)) Z Z ?_)) <;> (refine .cons (qa Z Z Z Z Z (wI (by first | omega | (simp only [Int.ofNat_eq_natCast]; omega)) (by first | omega | (simp only [Int.ofNat_eq_natCast]; omega))) Z Z ?_)) <;> (iterate 4 refine J Z ?_) <;> (refine .cons (qa Z Z Z Z Z (wI (by omega) (by omega)) Z Z ?_)) <;> (refine .cons (qa Z Z Z Z Z (wI (by first | omega | (simp only [Int.ofNat_eq_natCast]; omega)) (by first | omega | (simp only [Int.ofNat_eq_natCast]; omega))) Z Z ?_)) <;> (iterate 2 refine J Z ?_) <;> (refine .cons (qa Z Z Z Z Z (wI (by omega) (by omega)) Z Z ?_)) <;> (refine .cons (qa Z Z Z Z Z (wI (by first | omega | (simp only [Int.ofNat_eq_natCast]; omega)) (by first | omega | (simp only [Int.ofNat_eq_natCast]; omega))) Z Z ?_)) <;> (refine J Z ?_) <;> ((refine .cons (jf Z Z Z Z Z Z Z Cs Z Z (by repeat (first | exact .h | apply aS.t)) Z (fun k h f hg rs => kS hK _ _ _ [(c.aq.getD i aP).kind + 256 * (c.aq.getD i aP).op, (c.aq.getD i aP).d + 256 * (c.aq.getD i aP).a + 65536 * (c.aq.getD i aP).b] h f.wf hg (rs.sl (rows := [hU _, hU _]) Z (by simp) Z) (by simp only [List.length_append, List.length_cons, List.length_nil]; omega)) ?_)) <;> (rintro v C' ⟨rfl, hfv⟩)) <;> (refine J Z ?_) <;> (refine Y Z ?_)) | (refine X 23 ?_; (iterate 4 refine J Z ?_) <;> ((refine .cons (jf Z Z Z Z Z Z Z QD Z Z (by repeat (first | exact .h | apply aS.t)) Z (fun k h f hg rs => HU hK _ _ _ [(c.aq.getD i aP).cV] h f.wf hg (rs.sl (rows := [Jl _]) Z (by simp) Z) (by simp only [List.length_append, List.length_map, List.length_cons, List.length_nil]; omega)) ?_)) <;> (rintro v C' ⟨rfl, hfv⟩)) <;> (refine J Z ?_) <;> (refine Y Z ?_)) | (refine X 24 ?_; (iterate 6 refine J Z ?_) <;> ((refine .cons (jf Z Z Z Z Z Z Z Cs Z Z (by repeat (first | exact .h | apply aS.t)) Z (fun k h f hg rs => kS hK _ _ _ [(c.aq.getD i aP).to, (c.aq.getD i aP).join, 0] h f.wf hg (rs.sl (rows := [hU _, hU _, hU 0]) Z (by simp) Z) (by simp only [List.length_append, List.length_map, List.length_cons, List.length_nil]; omega)) ?_)) <;> (rintro v C' ⟨rfl, hfv⟩)) <;> (refine J Z ?_) <;> (refine Y Z ?_)) | (refine X 25 ?_; (refine .cons (qa Z Z Z Z Z (wI (by first | omega | (simp only [Int.ofNat_eq_natCast]; omega)) (by first | omega | (simp only [Int.ofNat_eq_natCast]; omega))) Z Z ?_)) <;> (refine J Z ?_) <;> (refine Y Z ?_)) | refine ai.t_ rfl ?_ | refine ai.f_ rfl ?_ | refine ai.k_ ?_ | refine ai.b_ ?_ | refine ai.e_ ?_ | refine ax.e_ ?_ | refine ax.c_ ?_ | refine ax.b_ ?_)
 ·refine next (i + 1, _, _) _ _ _ (by simp only; omega) ⟨⟨rfl, rfl, rfl, rfl, rfl, trivial⟩, ⟨_, rfl⟩, ⟨_, .cons .h .nil⟩⟩ ⟨by simp only; omega, ?_, ?_, hfv (by simp)⟩
  ·have h1 := hk1 (by omega)
   have h2 := hk2 (by omega)
   have h3 := hk3 (by omega)
   have h4 := hk4 (by omega)
   have h5 := hk5 (by omega)
   have h6 := (hx (by omega)).to
   have h7 := (hx (by omega)).join
   simp only
   rw [hacc3, eB (by omega) aP]
   simp only [List.append_assoc, List.map_cons, List.map_nil, wF, ny]
   congr 4
   simp only [List.cons_append, List.nil_append]
   congr 1
   ·omega
   ·congr 1
    ·omega
    ·congr 1
     congr 1
     ·omega
     ·congr 1
      omega
  ·simp only [List.length_append, List.length_map, List.length_cons, List.length_nil]; omega
 clear next
 have hi3 : i = c.aq.length := by omega
 subst hi3
 rw [List.take_length] at hacc3
 obtain ⟨ks, n, rfl⟩ := hfr3
 refine ai.fact (p := n = acc3.length) (fun h f => aL.Np (f.pick .h)) fun hn => ?_
 subst hn
 have hform : acc3 = 65585 :: 0 :: jW c := by
  rw [hacc3, hacc2, hacc, MN]
  simp [jW, List.append_assoc]
 have hml : (acc3.map gj).length = acc3.length := List.length_map ..
 have hop : ((acc3.map gj).set 1 (gj (acc3.length - 2))) = (fF c).map gj := by
  rw [hform]; rfl
 have hopw : ∀ x ∈ fF c, x < 4294967296 := by
  have hl2 : (jW c).length < 4294967296 := by
   have : acc3.length = (jW c).length + 2 := by rw [hform]; rfl
   omega
  intro x hx
  rcases List.mem_cons.1 hx with rfl | hx
  ·decide
  ·rcases List.mem_cons.1 hx with rfl | hx
   ·exact hl2
   ·exact Cg hc x hx
 have h2l : acc3.length = (jW c).length + 2 := by rw [hform]; rfl
 repeat' (first | refine ax.a_ ?_ | refine ai.s_ ?_ | (refine X 26 ?_; (iterate 3 refine J Z ?_) <;> (refine .cons (qa (d := ((acc3.length - 2 : Nat) : Int)) Z Z Z Z Z (lx (i := 2) (by omega) (by omega)) Z Z ?_)) <;> (refine .cons (qw hX Z Z Z Z (wU (by omega)) Z Z ?_)) <;> (refine .cons (qV hX Z Z Z Z Z (show 1 < acc3.length by omega) Z Z ?_)) <;> (refine .cons (Ow hX Z Z Z Z Z .h (show 1 < (acc3.map gj).length by omega) Z Z Z ?_)) <;> (refine Y Z ?_)) | (refine X 27 ?_; (iterate 2 refine J Z ?_) <;> (refine .cons (aE Z Z Z Z QC Z Z (fun h f => HG hK _ (fF c) h f.wf (by rw [← hop]; exact aL.rd (f.pick .h)) (by simp [fF]; omega) hopw) ?_)) <;> (refine J Z ?_) <;> ((refine .cons (sM hX Z Z Z Z Z Z Z Z Z Z Z Z NV Z Z Z Z Z (by repeat (first | exact .h | apply aS.t)) Z (by simp only [List.length_set]; omega) Z Z ?_)) <;> intro kp) <;> (refine J Z ?_) <;> (refine Y Z ?_)) | refine ai.r_ ?_ | refine ax.r_ hX rfl ?_)
 refine fun h f => ⟨_, f.aZ.bu (.cons (.he ?_) .nil), rfl, ⟨_, _, rfl⟩⟩
 have e1 : (acc3.map gj).set 1 [aa.int .u32 ((acc3.length - 2 : Nat) : Int)] = (fF c).map gj := hop
 rw [e1]
 exact lH (x := sumOf (fF c)) rfl
end Em
end Go.HL
namespace Go.HL
open Go Go.Proofs
namespace Em
set_option maxRecDepth 10000
variable {K : ah} {base : List (Nat × aG)}
end Em
end Go.HL
namespace Go.HL
open Go
namespace Em
def aR.gM (c : aR) : aD := ⟨c.name.length, aO c.name 0, c.params.map fun p => (p.1.length, aO p.1 0, p.2), c.shared.map fun a => (a.1.length, aO a.1 0, (a.2 : Int)), (c.local : Int), c.aq⟩
structure oE (c : aR) : Prop where
 name : cy c.name
 params : c.params.length ≤ 6
 eg : ∀ p ∈ c.params, cy p.1
 shared : c.shared.length ≤ 4
 dF : ∀ p ∈ c.shared, cy p.1 ∧ p.2 ≤ 64
 «local» : c.local ≤ 64
 aq : c.aq.length ≤ 2000
 each : ∀ x ∈ c.aq, -2147483648 ≤ x.cV ∧ x.cV ≤ 2147483647
theorem sT {b : List Nat} (h : cy b) : tE (b.length, aO b 0) := by
 refine ⟨Nat.le_trans h.1 (by decide), ?_⟩
 cases b with
 | nil => exact .inr rfl
 | cons x b => exact .inl (Nat.succ_pos _)
theorem oE.ok {c : aR} (f : oE c) : mU c.gM := by
 refine ⟨sT f.name, ?_, ?_, ?_, ?_, ?_, f.each⟩
 ·have := f.params; simp only [aR.gM, List.length_map]; omega
 ·intro p hp
  obtain ⟨q, hq, rfl⟩ := List.mem_map.1 hp
  exact sT (f.eg q hq)
 ·have := f.shared; simp only [aR.gM, List.length_map]; omega
 ·intro p hp
  obtain ⟨q, hq, rfl⟩ := List.mem_map.1 hp
  exact sT (f.dF q hq).1
 ·have := f.aq; simp only [aR.gM]; omega
theorem xi {c : aR} {pv sv iv : aa} {h : Heap} (r : (gG c pv sv iv).holds h) : (n8 c.gM pv sv iv).holds h := by
 refine ⟨?_, ?_, r.2.2⟩
 ·have := r.1
  unfold aR.gM
  simp only [List.map_map]
  exact this
 ·have := r.2.1
  unfold aR.gM
  simp only [List.map_map]
  exact this
theorem eT {b : Bool} {n bt : Int} (h : cX b n bt = true) (hl : 0 < bt) : 0 ≤ n ∧ n < bt := by
 unfold cX at h
 cases b
 ·simp at h; omega
 ·simpa using h
theorem Hi {op : Int} (h : lk op = true) : 0 ≤ op ∧ op < 20 := by
 unfold lk rf at h
 split at h
 ·omega
 ·split at h
  ·omega
  ·split at h
   ·omega
   ·split at h
    ·omega
    ·cases h
theorem Pz {k : Nat} (h : k < 16) : 0 ≤ (U k).ops ∧ (U k).ops ≤ 20 := by
 have : k = 0 ∨ k = 1 ∨ k = 2 ∨ k = 3 ∨ k = 4 ∨ k = 5 ∨ k = 6 ∨ k = 7 ∨ k = 8 ∨ k = 9 ∨ k = 10 ∨ k = 11 ∨ k = 12 ∨ k = 13 ∨ k = 14 ∨ k = 15 := by omega
 rcases this with rfl | rfl | rfl | rfl | rfl | rfl | rfl | rfl | rfl | rfl | rfl | rfl | rfl | rfl | rfl | rfl <;> decide
theorem DZ {f : aD} {x : bI} (h : f.jO x = true) (hn : 1 ≤ f.aq.length ∧ f.aq.length ≤ 2000) (hi : -2147483648 ≤ x.cV ∧ x.cV ≤ 2147483647) : k9 x := by
 unfold aD.jO at h
 simp only [Bool.and_eq_true, decide_eq_true_eq] at h
 obtain ⟨⟨⟨⟨⟨⟨⟨hk, ho⟩, hd⟩, ha⟩, hb⟩, _⟩, ht⟩, hj⟩ := h
 have h1 := eT hd (by decide)
 have h2 := eT ha (by decide)
 have h3 := eT hb (by decide)
 have h4 := eT ht (by omega)
 have h5 := eT hj (by omega)
 have h6 : 0 ≤ x.op ∧ x.op < 256 := by
  split at ho
  ·have := Hi ho; omega
  ·have hu := Pz (k := x.kind.toNat) (by omega)
   unfold cX at ho
   split at ho
   ·simp at ho; omega
   ·simp at ho; omega
 exact ⟨by omega, h6, by omega, by omega, by omega, hi, by omega, by omega⟩
theorem sU {b : List Nat} (h : mX (b.length, aO b 0) = true) : b.length ≤ 16 := by
 unfold mX at h
 simp at h
 exact h.1.2
def iX (b : List Nat) : Bool := b.all fun x => decide (x < 256)
def V (c : aR) : Bool := iX c.name && c.params.all (fun p => iX p.1) && c.shared.all (fun p => iX p.1) && c.aq.all (fun x => decide (-2147483648 ≤ x.cV ∧ x.cV ≤ 2147483647)) && c.gM.dm
theorem fc {b : List Nat} : iX b = true ↔ ∀ x ∈ b, x < 256 := by simp [iX]
theorem fy {c : aR} (h : V c = true) : dZ c := by
 unfold V at h
 simp only [Bool.and_eq_true, List.all_eq_true, decide_eq_true_eq, fc] at h
 obtain ⟨⟨⟨⟨hb, hp⟩, hs⟩, hi⟩, hv⟩ := h
 unfold aD.dm aD.oc aD.lj aD.iB at hv
 simp only [Bool.and_eq_true, decide_eq_true_eq, List.all_eq_true] at hv
 obtain ⟨⟨⟨⟨⟨⟨⟨⟨⟨h1, h2⟩, h3⟩, h4⟩, h5⟩, _⟩, h6⟩, h7⟩, _⟩, h8⟩ := hv
 simp only [aR.gM, List.length_map] at h2 h3 h6 h7
 refine ⟨⟨sU h1, hb⟩, h2, fun p hpm => ⟨?_, hp p hpm⟩, h3, fun p hpm => ?_, by omega, h7.2, fun x hx => DZ (h8 x hx) h7 (hi x hx)⟩
 ·have := h4 _ (List.mem_map.2 ⟨p, hpm, rfl⟩)
  exact sU this
 ·have := h5 _ (List.mem_map.2 ⟨p, hpm, rfl⟩)
  unfold kQ at this
  simp only [Bool.and_eq_true, decide_eq_true_eq] at this
  exact ⟨⟨sU this.1.1, hs p hpm⟩, by omega⟩
theorem Kl {c : aR} (f : oE c) : V c = c.gM.dm := by
 have e1 : iX c.name = true := fc.2 f.name.2
 have e2 : c.params.all (fun p => iX p.1) = true := List.all_eq_true.2 fun p hp => fc.2 (f.eg p hp).2
 have e3 : c.shared.all (fun p => iX p.1) = true := List.all_eq_true.2 fun p hp => fc.2 (f.dF p hp).1.2
 have e4 : c.aq.all (fun x => decide (-2147483648 ≤ x.cV ∧ x.cV ≤ 2147483647)) = true := List.all_eq_true.2 fun x hx => decide_eq_true (f.each x hx)
 unfold V
 rw [e1, e2, e3, e4]; rfl
/-! ## What was read is fair -/
def Bounded (rd : Nat → S → Nat × S) : Prop := ∀ bt s, (rd bt s).1 ≤ bt
theorem xU : Bounded bc := gz
theorem GQ {rd : S → Nat × S} {n : Nat} : ∀ (k : Nat) (b : List Nat) (s : S), n - b.length = k → b.length ≤ n → (∀ x ∈ b, x < 256) → (kA rd n b s).1.length ≤ n ∧ ∀ x ∈ (kA rd n b s).1, x < 256 := by
 intro k
 induction k using Nat.strongRecOn with
 | _ k ih =>
  intro b s hk hb hx
  rw [kA]
  split
  ·rename_i hc
   have hl : (b ++ bytesOf (min 4 (n - b.length)) (rd s).1).length = b.length + min 4 (n - b.length) := by rw [List.length_append, dW]
   refine ih (n - (b ++ bytesOf (min 4 (n - b.length)) (rd s).1).length) (by rw [hl]; omega) _ _ rfl (by rw [hl]; omega) ?_
   intro x h
   rcases List.mem_append.1 h with h | h
   ·exact hx x h
   ·exact mO _ _ x h
  ·exact ⟨hb, hx⟩
theorem qf {rd : Nat → S → Nat × S} (hb : Bounded rd) (s : S) : cy (gN rd s).1 := by
 have h1 := hb 16 s
 have h2 := GQ (rd := rd 4294967295) (n := (rd 16 s).1) _ [] (rd 16 s).2 rfl (Nat.zero_le _) (fun x h => by simp at h)
 exact ⟨Nat.le_trans h2.1 h1, h2.2⟩
theorem oW {α : Type} {one : S → α × S} : ∀ (n : Nat) (s : S), (dT one n s).1.length ≤ n
 | 0, s => Nat.le_refl _
 | n + 1, s => by
  rw [dT]
  split
  ·exact Nat.zero_le _
  ·have := oW (one := one) n (one s).2
   simp only [List.length_cons]; omega
theorem oX {α : Type} {one : S → α × S} {p : α → Prop} (h : ∀ s, p (one s).1) : ∀ (n : Nat) (s : S), ∀ a ∈ (dT one n s).1, p a
 | 0, s, a, ha => by simp [dT] at ha
 | n + 1, s, a, ha => by
  rw [dT] at ha
  split at ha
  ·simp at ha
  ·rcases List.mem_cons.1 ha with rfl | ha
   ·exact h s
   ·exact oX h n _ a ha
theorem zE {n : Nat} (h : n ≤ 4294967295) : -2147483648 ≤ signed n ∧ signed n ≤ 2147483647 := by
 unfold signed
 split <;> omega
theorem Ek {rd : Nat → S → Nat × S} (hb : Bounded rd) (l1 l2 : Nat) (s : S) : oE (iN rd l1 l2 s).1 := by
 refine ⟨qf hb s, ?_, ?_, ?_, ?_, hb 64 _, ?_, ?_⟩
 ·exact Nat.le_trans (oW _ _) (hb 6 _)
 ·exact oX (p := fun p : List Nat × Bool => cy p.1) (fun s => qf hb s) _ _
 ·exact Nat.le_trans (oW _ _) (hb 4 _)
 ·exact oX (p := fun p : List Nat × Nat => cy p.1 ∧ p.2 ≤ 64) (fun s => ⟨qf hb s, hb 64 _⟩) _ _
 ·exact Nat.le_trans (oW _ _) (hb 2000 _)
 ·exact oX (p := fun x : bI => -2147483648 ≤ x.cV ∧ x.cV ≤ 2147483647) (fun s => zE (hb 4294967295 _)) _ _
end Em
end Go.HL
namespace Go.HL
open Go Go.Proofs
namespace Em
set_option maxRecDepth 10000
set_option maxHeartbeats 4000000
variable {K : ah} {base : List (Nat × aG)}
end Em
end Go.HL
namespace Go.HL
open Go Go.Proofs
namespace Em
set_option maxRecDepth 10000
variable {K : ah} {base : List (Nat × aG)}
theorem G7 {α : Type} {l1 l2 : List α} {i : Nat} (d : α) (h1 : i < l1.length) (h2 : i < l2.length) (ht : l1.take i = l2.take i) (hx : l1.getD i d = l2.getD i d) : l1.take (i + 1) = l2.take (i + 1) := by
 rw [take_succ h1 d, take_succ h2 d, ht, hx]
theorem Ia {α : Type} {l1 l2 : List α} {i : Nat} (h1 : i = l1.length) (h2 : l1.length = l2.length) (ht : l1.take i = l2.take i) : l1 = l2 := by
 rwa [h1, List.take_length, h2, List.take_length] at ht
theorem dh {α : Type} {g : α → List Nat} {k : Nat} : ∀ {l : List α}, (∀ a ∈ l, (g a).length ≤ k) → (l.flatMap g).length ≤ k * l.length
 | [], _ => by simp
 | a :: l, h => by
  have h1 := h a (by simp)
  have h2 := dh (l := l) (k := k) fun b hb => h b (by simp [hb])
  rw [List.flatMap_cons, List.length_append, List.length_cons, Nat.mul_add]
  omega
theorem vk {c : aR} (hc : dZ c) : (aW c).length ≤ 4611686018427387904 := by
 have b1 := hc.params
 have b2 := hc.shared
 have b3 := hc.aq
 have bn := fh hc.name
 have f1 := dh (g := ld) (k := 18) (l := c.params) fun p hp => by
  have := fh (hc.eg p hp)
  simp only [ld, List.length_append, List.length_singleton]; omega
 have f2 := dh (g := oz) (k := 18) (l := c.shared) fun p hp => by
  have := fh (hc.dF p hp).1
  simp only [oz, List.length_append, List.length_singleton]; omega
 have f3 := dh (g := wF) (k := 6) (l := c.aq) fun p hp => Nat.le_of_eq rfl
 simp only [aW, fF, jW, List.length_append, List.length_cons, List.length_nil]
 omega
theorem Qy : az P 8 := ⟨_, _, Tryz.func8, rfl, by kernel_rfl, rfl⟩
theorem tB (hK : KN base K) (h : Heap) (w : Wf h) (hB : (lies base).holds h) : Sp P K 8 [] h (iw (.bool true) h) := .known (hK.Pv h hB) ⟨rfl, fU.refl w⟩
end Em
end Go.HL
namespace Go.HL
open Go Go.Proofs
namespace Em
set_option maxRecDepth 10000
variable {K : ah} {base : List (Nat × aG)}
end Em
end Go.HL
namespace Go.HL
open Go Go.Proofs
namespace Em
set_option maxRecDepth 10000
variable {K : ah} {base : List (Nat × aG)}
end Em
end Go.HL
namespace Go.HL
open Go Go.Proofs
namespace Em
set_option maxRecDepth 10000
variable {K : ah} {base : List (Nat × aG)}
structure LJ (α : Type) where
 n : Nat
 i : Nat
 b : Bool
 done : List α
 dv : aa
structure MA {α : Type} (one : S → α × S) (N : Nat) (s1 : S) (l : List Nat) (a : LJ α) : Prop where
 rest : dT one N s1 = (a.done ++ (dT one a.n (l.drop a.i, a.b)).1, (dT one a.n (l.drop a.i, a.b)).2)
 len : a.done.length + a.n ≤ N
theorem MA.end {α : Type} {one : S → α × S} {N : Nat} {s1 : S} {l : List Nat} {a : LJ α} (i : MA one N s1 l a) (h : a.n = 0 ∨ a.b = true) : dT one N s1 = (a.done, (l.drop a.i, a.b)) := by
 rw [i.rest, yK one h, List.append_nil]
end Em
end Go.HL
namespace Go.HL
open Go Go.Proofs
namespace Em
set_option maxRecDepth 10000
variable {K : ah} {base : List (Nat × aG)}
theorem G0 {C : List Part} {h : Heap} {v : aa} {l : List Nat} (r : Ro C h (words v l)) (hl : 3 ≤ l.length) : Ro C h (words (Eh v 2 (l.length - 1) 1) ((l.drop 2).take (l.length - 3))) := by
 have := r.cut (j := 2) (b := l.length - 1) (by simp; omega) (by simp)
 rw [show l.length - 1 - 2 = l.length - 3 by omega] at this
 unfold words
 rw [List.map_take, List.map_drop]
 exact this
theorem xb (hK : KN base K) (u : aa) (l : List Nat) (h : Heap) (w : Wf h) (hB : Ro [] h (lies base)) (hr : (words u l).holds h) (hw : ∀ x ∈ l, x < 4294967296) (hll : l.length ≤ 4611686018427387904) :
  Sp P K 16 [u] h (Tr (fun x C' => match mQ V l with
   | some c => ∃ pv sv iv, x = .tuple [iL c pv sv iv, i64 0] ∧ C' = fm c pv sv iv
   | none => x = .tuple [.agg AA, i64 8] ∧ C' = []) h) := by
 have hlen := yd hr
 refine Sp.start (m := 288731787813781757) (n := 62) w (hK.none 16 rfl rfl _ _) Tryz.func16 rfl rfl Nf rfl rfl ?_
 repeat' (first | refine ax.a_ ?_ | refine ai.s_ ?_ | (refine X 0 ?_; (iterate 2 refine J Z ?_) <;> (refine Y Z ?_)) | (refine X 1 ?_; (refine J Z ?_) <;> (refine .cons (ql hX Z Z Z Z Z Z (by assumption) Z Z ?_)) <;> ((refine .cons (qc Z ?_ ?_)) <;> intro _) <;> (iterate 2 refine J Z ?_) <;> (first | (refine J Z ?_) | (refine .cons (bq hX Z Z Z Z Z (.of hr.2) (aM (i := 0) (0 : Nat) (show 0 < l.length by omega)) Z Z Z ?_))) <;> (refine J Z ?_) <;> (first | (refine J Z ?_) | (refine .cons (qc Z ?_ ?_)) <;> intro _) <;> (refine J Z ?_) <;> (refine Y Z ?_)) | (refine X 2 ?_; (iterate 3 refine J Z ?_) <;> (refine Y Z ?_)) | refine ai.r_ ?_ | refine ax.d_ ?_ | refine ai.t_ rfl ?_ | refine ai.f_ rfl ?_ | refine ai.k_ ?_ | refine ax.r_ hX rfl ?_)
 ·rename_i e1
  have en : mQ V l = none := by unfold mQ; rw [if_pos (.inl (by omega))]
  exact fun h f => ⟨[], f.aZ.bu .nil, by rw [en]; exact ⟨rfl, rfl⟩⟩
 ·rename_i e1 e2
  have e3 : l[0]? ≠ some 65585 := by
   intro e3
   have : l.getD 0 0 = 65585 := by simp [List.getD, e3]
   omega
  have en : mQ V l = none := by unfold mQ; rw [if_pos (.inr e3)]
  exact fun h f => ⟨[], f.aZ.bu .nil, by rw [en]; exact ⟨rfl, rfl⟩⟩
 rename_i e1 e2
 have l3 : 3 ≤ l.length := by omega
 have hN : ¬ (l.length < 3 ∨ l[0]? ≠ some 65585) := by
  rintro (e3 | e3)
  ·omega
  ·refine e3 ?_
   have : l.getD 0 0 = 65585 := by omega
   rw [List.getD, List.getElem?_eq_getElem (by omega)] at this
   rw [List.getElem?_eq_getElem (by omega)]
   exact congrArg some this
 have ro2 := G0 (.of hr) l3
 have hw2 : ∀ x ∈ (l.drop 2).take (l.length - 3), x < 4294967296 := fun x hx => hw x (List.mem_of_mem_drop (List.mem_of_mem_take hx))
 generalize hs0 : (l.drop 2).take (l.length - 3) = s0 at ro2 hw2
 have hc2 := tG ro2.holds
 generalize hv2 : Eh u 2 (l.length - 1) 1 = v2 at ro2 hc2
 repeat' (first | refine ax.a_ ?_ | refine ai.s_ ?_ | (refine X 3 ?_; (iterate 2 refine J Z ?_) <;> (refine .cons (ql hX Z Z Z Z Z Z (by assumption) Z Z ?_)) <;> (refine .cons (qa (d := ((l.length - 1 : Nat) : Int)) Z Z Z Z Z (lx (i := 1) (by omega) (by omega)) Z Z ?_)) <;> ((refine .cons (Qh (j := 2) (b := l.length - 1) hX Z Z Z Z Z Z Z (.of hr) (by decide) (show 2 < (l.map gj).length by rw [List.length_map]; omega) (by omega) (by rw [List.length_map]; omega) Z Z ?_)) <;> (rw [hv2])) <;> (refine .cons (IA hX Z Z Z Z Z (by simp only [eI, hc2, obS]; rfl) Z Z ?_)) <;> (iterate 2 refine J Z ?_) <;> (refine Y Z ?_)) | (refine X 4 ?_; (refine J Z ?_) <;> ((refine .cons (ez Z Z Z Z Z Z Z QF Z Z (fun k h f hp ro => JX hK k v2 (s0, false) h f.wf hp (ro _ ro2) hw2) (fun _ => Z) ?_)) <;> (rintro v l' C' B' ⟨pv, sv, iv, rfl, ⟨v3, rfl, hv3, hlt3⟩, rfl⟩ hB; cases hB)) <;> (iterate 2 refine J Z ?_) <;> (refine Y Z ?_)))
 have hfair := Ek xU 4294967295 4294967295 (s0, false)
 have hP : mQ V l = if (iN bc 4294967295 4294967295 (s0, false)).2.2 = true ∨ V (iN bc 4294967295 4294967295 (s0, false)).1 = false then none else if aW (iN bc 4294967295 4294967295 (s0, false)).1 = l then some (iN bc 4294967295 4294967295 (s0, false)).1 else none := by
  unfold mQ; rw [if_neg hN, hs0]
 generalize iN bc 4294967295 4294967295 (s0, false) = r at hfair hP hv3 hlt3 ⊢
 obtain ⟨⟨nm, ps, ar, lo, is⟩, s4, b4⟩ := r
 simp only [fm, List.append_nil] at hfair hP hv3 hlt3 ⊢
 have hV := Kl hfair
 repeat' (first | refine ax.a_ ?_ | refine ai.s_ ?_ | (refine X 5 ?_; (iterate 3 refine J Z ?_) <;> ((refine .cons (qb hX Z ?_ ?_)) <;> (intro hbl; (first | (cases hbl; done) | skip))) <;> (iterate 2 refine J Z ?_) <;> (first | (refine J Z ?_) | (refine .cons (dN Z Z Z Z Er Z Z (fun h f => lA hK (aR.gM ⟨nm, ps, ar, lo, is⟩) pv sv iv h f.wf (f.ro hB) hfair.ok (xi ⟨aL.rd (f.pick .h), aL.rd (f.pick (.t .h)), aL.rd (f.pick (.t (.t .h)))⟩)) ?_ ?_)) <;> intro _) <;> (iterate 2 refine J Z ?_) <;> (refine Y Z ?_)) | (refine X 6 ?_; (iterate 3 refine J Z ?_) <;> (refine Y Z ?_)) | refine ai.r_ ?_ | refine ax.d_ ?_ | refine ai.t_ rfl ?_ | refine ai.f_ rfl ?_ | refine ai.k_ ?_ | refine ax.r_ hX rfl ?_)
 ·have en : mQ V l = none := by rw [hP, if_pos (.inl hbl)]
  exact fun h f => ⟨[], f.aZ.bu .nil, by rw [en]; exact ⟨rfl, rfl⟩⟩
 ·rename_i hv
  have hVt : V ⟨nm, ps, ar, lo, is⟩ = true := by rw [hV]; exact hv
  have hc := fy hVt
  have wl := vk hc
  have hb4 : ¬ (b4 = true ∨ V ⟨nm, ps, ar, lo, is⟩ = false) := by simp_all
  rw [if_neg hb4] at hP
  repeat' (first | refine ax.a_ ?_ | refine ai.s_ ?_ | (refine X 7 ?_; (refine J Z ?_) <;> ((refine .cons (fD Z Z Z Z Pf Z Z (fun h f => x8 hK ⟨nm, ps, ar, lo, is⟩ pv sv iv h f.wf hc ⟨aL.rd (f.pick .h), aL.rd (f.pick (.t .h)), aL.rd (f.pick (.t (.t .h)))⟩) ?_)) <;> (rintro v C' ⟨rfl, hfr⟩)) <;> (refine J Z ?_) <;> (refine Y Z ?_)) | (refine X 8 ?_; (refine J Z ?_) <;> (refine .cons (qlG hX Z Z Z Z Z Z (by first | exact .h | exact .t .h | exact .t (.t .h)) Z Z ?_)) <;> (refine J Z ?_) <;> (refine .cons (ql hX Z Z Z Z Z Z (by assumption) Z Z ?_)) <;> ((refine .cons (qc Z ?_ ?_)) <;> intro _) <;> (refine Y Z ?_)) | (refine X 9 ?_; (iterate 3 refine J Z ?_) <;> (refine Y Z ?_)) | (refine X 10 ?_; (refine J Z ?_) <;> (refine .cons (ql hX Z Z Z Z Z Z (by assumption) Z Z ?_)) <;> (refine J Z ?_) <;> (refine Y Z ?_)) | refine ai.r_ ?_ | refine ax.d_ ?_ | refine ai.t_ rfl ?_ | refine ai.f_ rfl ?_ | refine ai.k_ ?_ | refine ai.b_ ?_ | refine ax.r_ hX rfl ?_)
  ·rename_i e4
   have hne : ¬ aW ⟨nm, ps, ar, lo, is⟩ = l := fun he => e4 (by rw [List.length_map, he])
   have en : mQ V l = none := by rw [hP, if_neg hne]
   exact fun h f => ⟨[], f.aZ.bu .nil, by rw [en]; exact ⟨rfl, rfl⟩⟩
  rename_i e4
  have el : (aW ⟨nm, ps, ar, lo, is⟩).length = l.length := by rw [List.length_map] at e4; omega
  generalize hW : aW ⟨nm, ps, ar, lo, is⟩ = W at el hP wl ⊢
  refine ai.loop (ι := Nat) (fun i => [(47, .ext (i64 i)), (46, .ext (i64 l.length)), (6, .ext v), (5, .ptr 3 0), (2, .ptr 0 0), (0, .ext u)]) (fun _ => [.own AA 26 false, .ro (gj (l.getD 0 0)), .own [v3, .bool b4] 92 false, .own [aY nm, pv, sv, i64 lo, iv] 26 false]) (fun _ => [cO v W, aL 70 2 pv (ps.map gu), aL 72 2 sv (ar.map kT), aL 74 8 iv (is.map eo)]) (fun i => i ≤ l.length ∧ W.take i = l.take i) (fun i => l.length - i) 0 ⟨⟨rfl, rfl, rfl, rfl, rfl, rfl, trivial⟩, ⟨_, rfl⟩, ⟨_, .cons .h (.cons .h (.cons .h (.cons .h .nil)))⟩⟩ ⟨Nat.zero_le _, by simp⟩ (fun _ => rfl) (fun _ => rfl) (fun _ => rfl) ?_
  rintro i ⟨hi, ht⟩ next
  repeat' (first | refine ax.a_ ?_ | refine ai.s_ ?_ | (refine X 11 ?_; ((refine .cons (qc Z ?_ ?_)) <;> intro _) <;> (refine Y Z ?_)) | (refine X 12 ?_; (iterate 2 refine J Z ?_) <;> (refine Y Z ?_)) | (refine ai.draw (id := 13) aw [0, 1, 2, 3, 4, 5, 6, 7, 8] #[0, 0, 3, 7, 0, 0, 48, 112, 255] (by kernel_rfl) (by kernel_rfl) (by kernel_rfl) ?_; (iterate 2 refine O Z Z Z ?_) <;> ((refine .cons Z (bq hX Z Z Z Z Z (.of hr.2) (aM (0 : Nat) (by omega)) Z Z Z ?_)) <;> refine W_ Z ?_) <;> ((refine .cons Z (q hX Z ?_)) <;> refine ⟨_, .je hX.aw Z Z Z Z Z Z Z Z (suB Z) Z Z Z, ?_⟩) <;> (iterate 2 refine O Z Z Z ?_) <;> ((refine .cons Z (qW hX Z Z Z Z Z (by repeat (first | exact .h | apply aS.t)) (aM (0 : Nat) (by omega)) Z Z Z ?_)) <;> refine W_ Z ?_) <;> (refine O Z Z Z ?_) <;> ((refine .cons Z (qc Z ?_ ?_)) <;> intro _ <;> refine W_ Z ?_) <;> (refine .nil ⟨?_, .intro Z ?_⟩ <;> (repeat' (first | exact trivial | exact .inl Z | refine ⟨?_, ?_⟩)))) | (refine X 14 ?_; (iterate 3 refine J Z ?_) <;> (refine Y Z ?_)) | (refine X 15 ?_; (refine .cons (qa Z Z Z Z Z (wI (by first | omega | (simp only [Int.ofNat_eq_natCast]; omega)) (by first | omega | (simp only [Int.ofNat_eq_natCast]; omega))) Z Z ?_)) <;> (refine J Z ?_) <;> (refine Y Z ?_)) | (refine X 16 ?_; (iterate 3 refine J Z ?_) <;> (refine Y Z ?_)) | refine ai.r_ ?_ | refine ax.d_ ?_ | refine ax.f_ ?_ | refine ai.t_ rfl ?_ | refine ai.f_ rfl ?_ | refine ai.k_ ?_ | refine ai.b_ ?_ | refine ai.e_ ?_ | refine ax.e_ ?_ | refine ax.c_ ?_ | refine ax.b_ ?_ | refine ax.r_ hX rfl ?_)
  ·rename_i e5 e6
   have hne : ¬ W = l := fun he => e6 (by rw [he])
   have en : mQ V l = none := by rw [hP, if_neg hne]
   exact fun h f => ⟨[], f.aZ.bu .nil, by rw [en]; exact ⟨rfl, rfl⟩⟩
  ·rename_i e5 e6
   exact next (i + 1) _ _ _ (by omega) ⟨⟨rfl, rfl, rfl, rfl, rfl, rfl, trivial⟩, ⟨_, rfl⟩, ⟨_, .cons .h (.cons .h (.cons .h (.cons .h .nil)))⟩⟩ ⟨by omega, G7 0 (by omega) (by omega) ht (by omega)⟩
  ·rename_i e5
   have he : W = l := Ia (by omega) el ht
   have en : mQ V l = some ⟨nm, ps, ar, lo, is⟩ := by rw [hP, if_pos he]
   exact fun h f => ⟨_, f.aZ.bu (.cons (.t .h) (.cons (.t .h) (.cons (.t .h) .nil))), by rw [en]; exact ⟨_, _, _, rfl, rfl⟩⟩
 ·rename_i hv
  have en : mQ V l = none := by rw [hP, if_pos (.inr (by rw [hV]; exact hv))]
  exact fun h f => ⟨[], f.aZ.bu .nil, by rw [en]; exact ⟨rfl, rfl⟩⟩
end Em
end Go.HL
namespace Go.HL
open Go Go.Proofs
namespace Em
set_option maxRecDepth 10000
variable {K : ah} {base : List (Nat × aG)}
theorem vL (n c : Nat) : vM n c n c = true := by simp [vM]
theorem ON (n c : Nat) (b : Bool) : df P .neq 70 (.agg [.str n c, .bool b]) (.agg [.str n c, .bool b]) = some (.bool false) := by
 have e : df P .neq 70 (.agg [.str n c, .bool b]) (.agg [.str n c, .bool b]) = ob (ae (vM n c n c) (ae (b == b) (some true) (some false)) (some false)) fun b => some (.bool (ae b false true)) := by kernel_rfl
 rw [e, vL, beq_self_eq_true]; rfl
theorem wK (i : Int) : n7 i i = true := by cases i <;> simp [n7]
theorem OM (n c : Nat) (i : Int) : df P .neq 72 (.agg [.str n c, .int .i64 i]) (.agg [.str n c, .int .i64 i]) = some (.bool false) := by
 have e : df P .neq 72 (.agg [.str n c, .int .i64 i]) (.agg [.str n c, .int .i64 i]) = ob (ae (vM n c n c) (ae (n7 i i) (some true) (some false)) (some false)) fun b => some (.bool (ae b false true)) := by kernel_rfl
 rw [e, vL, wK]; rfl
theorem OL (x : bI) : df P .neq 74 (.agg (eo x)) (.agg (eo x)) = some (.bool false) := by
 obtain ⟨a1, a2, a3, a4, a5, a6, a7, a8⟩ := x
 have e : df P .neq 74 (.agg (eo ⟨a1, a2, a3, a4, a5, a6, a7, a8⟩)) (.agg (eo ⟨a1, a2, a3, a4, a5, a6, a7, a8⟩)) = ob (ae (n7 a1 a1) (ae (n7 a2 a2) (ae (n7 a3 a3) (ae (n7 a4 a4) (ae (n7 a5 a5) (ae (n7 a6 a6) (ae (n7 a7 a7) (ae (n7 a8 a8) (some true) (some false)) (some false)) (some false)) (some false)) (some false)) (some false)) (some false)) (some false)) fun b => some (.bool (ae b false true)) := by kernel_rfl
 have h : ∀ i : Int, n7 i i = true := wK
 rw [e]
 simp only [h, bcT, obS]
theorem jG (hK : KN base K) (v1 v2 : aa) (l : List (List Nat × Bool)) (h : Heap) (w : Wf h) (r1 : (rd v1 2 (l.map gu)).holds h) (r2 : (rd v2 2 (l.map gu)).holds h) (hb : l.length ≤ 4611686018427387904) :
  Sp P K 46 [v1, v2] h (iw (.bool true) h) := by
 have hlen1 := aV r1
 have hlen2 := aV r2
 refine Sp.start (m := 33571891) (n := 26) w (hK.none 46 rfl rfl _ _) Tryz.func46 rfl rfl Jb rfl rfl ?_
 repeat' (first | refine ax.a_ ?_ | refine ai.s_ ?_ | (refine X 0 ?_; (refine J Z ?_) <;> (refine Y Z ?_)) | (refine X 1 ?_; (refine J Z ?_) <;> (refine .cons (ql hX Z Z Z Z Z Z (by assumption) Z Z ?_)) <;> (refine J Z ?_) <;> (refine .cons (ql hX Z Z Z Z Z Z (by assumption) Z Z ?_)) <;> ((refine .cons (qc Z ?_ ?_)) <;> intro _) <;> (refine Y Z ?_)) | (refine X 2 ?_; (refine J Z ?_) <;> (refine Y Z ?_)) | (refine X 3 ?_; (refine J Z ?_) <;> (refine Y Z ?_)) | refine ai.r_ ?_ | refine ax.d_ ?_ | refine ai.t_ rfl ?_ | refine ai.f_ rfl ?_ | refine ai.k_ ?_ | refine ai.b_ ?_ | refine ax.r_ hX rfl ?_)
 ·rename_i e
  exact absurd rfl e
 refine ai.loop (ι := Nat) (fun a => [(5, .ext (i64 a)), (0, .ext v1), (1, .ext v2)]) (fun _ => []) (fun _ => []) (fun a => a ≤ l.length) (fun a => l.length - a) 0 ⟨⟨rfl, rfl, rfl, trivial⟩, ⟨_, rfl⟩, ⟨_, .nil⟩⟩ (Nat.zero_le _) (fun _ => rfl) (fun _ => rfl) (fun _ => rfl) ?_
 rintro i hi next
 repeat' (first | refine ax.a_ ?_ | refine ai.s_ ?_ | (refine X 4 ?_; (iterate 2 refine J Z ?_) <;> (refine .cons (ql hX Z Z Z Z Z Z (by assumption) Z Z ?_)) <;> ((refine .cons (qc Z ?_ ?_)) <;> intro _) <;> (refine Y Z ?_)) | (refine ai.draw (id := 6) aw [0, 1, 2, 3, 4, 5, 6, 7, 8] #[0, 0, 3, 7, 0, 0, 48, 112, 255] (by kernel_rfl) (by kernel_rfl) (by kernel_rfl) ?_; (iterate 2 refine O Z Z Z ?_) <;> ((refine .cons Z (bq hX Z Z Z Z Z (.of r1) (aM gh (by omega)) Z Z Z ?_)) <;> refine W_ Z ?_) <;> ((refine .cons Z (q hX Z ?_)) <;> refine ⟨_, .zM hX.aw Z Z Z Z Z Z Z Z (beA Z) Z Z Z, ?_⟩) <;> (iterate 2 refine O Z Z Z ?_) <;> ((refine .cons Z (bq hX Z Z Z Z Z (.of r2) (aM gh (by omega)) Z Z Z ?_)) <;> refine W_ Z ?_) <;> ((refine .cons Z (q hX Z ?_)) <;> refine ⟨_, .zM hX.aw Z Z Z Z Z Z Z Z (beA Z) Z Z Z, ?_⟩) <;> ((refine .cons Z (KK Z Z Z (ON _ _ _) Z Z ?_)) <;> refine W_ Z ?_) <;> (refine .nil ⟨?_, .intro Z ?_⟩ <;> (repeat' (first | exact trivial | exact .inl Z | refine ⟨?_, ?_⟩)))) | (refine X 5 ?_; (refine J Z ?_) <;> (refine .cons (qa Z Z Z Z Z (wI (by first | omega | (simp only [Int.ofNat_eq_natCast]; omega)) (by first | omega | (simp only [Int.ofNat_eq_natCast]; omega))) Z Z ?_)) <;> (refine J Z ?_) <;> (refine Y Z ?_)) | (refine X 8 ?_; (refine J Z ?_) <;> (refine Y Z ?_)) | refine ai.r_ ?_ | refine ai.t_ rfl ?_ | refine ai.f_ rfl ?_ | refine ai.k_ ?_ | refine ai.b_ ?_ | refine ai.e_ ?_ | refine ax.e_ ?_ | refine ax.c_ ?_ | refine ax.b_ ?_ | refine ax.r_ hX rfl ?_)
 ·exact next (i + 1) _ _ _ (by omega) ⟨⟨rfl, rfl, rfl, trivial⟩, ⟨_, rfl⟩, ⟨_, .nil⟩⟩ (by omega)
 ·exact fun h f => ⟨rfl, f.aZ⟩
theorem nI (hK : KN base K) (v1 v2 : aa) (l : List (List Nat × Nat)) (h : Heap) (w : Wf h) (r1 : (rd v1 2 (l.map kT)).holds h) (r2 : (rd v2 2 (l.map kT)).holds h) (hb : l.length ≤ 4611686018427387904) :
  Sp P K 47 [v1, v2] h (iw (.bool true) h) := by
 have hlen1 := aV r1
 have hlen2 := aV r2
 refine Sp.start (m := 33571891) (n := 26) w (hK.none 47 rfl rfl _ _) Tryz.func47 rfl rfl Ja rfl rfl ?_
 repeat' (first | refine ax.a_ ?_ | refine ai.s_ ?_ | (refine X 0 ?_; (refine J Z ?_) <;> (refine Y Z ?_)) | (refine X 1 ?_; (refine J Z ?_) <;> (refine .cons (ql hX Z Z Z Z Z Z (by assumption) Z Z ?_)) <;> (refine J Z ?_) <;> (refine .cons (ql hX Z Z Z Z Z Z (by assumption) Z Z ?_)) <;> ((refine .cons (qc Z ?_ ?_)) <;> intro _) <;> (refine Y Z ?_)) | (refine X 2 ?_; (refine J Z ?_) <;> (refine Y Z ?_)) | (refine X 3 ?_; (refine J Z ?_) <;> (refine Y Z ?_)) | refine ai.r_ ?_ | refine ax.d_ ?_ | refine ai.t_ rfl ?_ | refine ai.f_ rfl ?_ | refine ai.k_ ?_ | refine ai.b_ ?_ | refine ax.r_ hX rfl ?_)
 ·rename_i e
  exact absurd rfl e
 refine ai.loop (ι := Nat) (fun a => [(5, .ext (i64 a)), (0, .ext v1), (1, .ext v2)]) (fun _ => []) (fun _ => []) (fun a => a ≤ l.length) (fun a => l.length - a) 0 ⟨⟨rfl, rfl, rfl, trivial⟩, ⟨_, rfl⟩, ⟨_, .nil⟩⟩ (Nat.zero_le _) (fun _ => rfl) (fun _ => rfl) (fun _ => rfl) ?_
 rintro i hi next
 repeat' (first | refine ax.a_ ?_ | refine ai.s_ ?_ | (refine X 4 ?_; (iterate 2 refine J Z ?_) <;> (refine .cons (ql hX Z Z Z Z Z Z (by assumption) Z Z ?_)) <;> ((refine .cons (qc Z ?_ ?_)) <;> intro _) <;> (refine Y Z ?_)) | (refine ai.draw (id := 6) aw [0, 1, 2, 3, 4, 5, 6, 7, 8] #[0, 0, 3, 7, 0, 0, 48, 112, 255] (by kernel_rfl) (by kernel_rfl) (by kernel_rfl) ?_; (iterate 2 refine O Z Z Z ?_) <;> ((refine .cons Z (bq hX Z Z Z Z Z (.of r1) (aM fQ (by omega)) Z Z Z ?_)) <;> refine W_ Z ?_) <;> ((refine .cons Z (q hX Z ?_)) <;> refine ⟨_, .zM hX.aw Z Z Z Z Z Z Z Z (beA Z) Z Z Z, ?_⟩) <;> (iterate 2 refine O Z Z Z ?_) <;> ((refine .cons Z (bq hX Z Z Z Z Z (.of r2) (aM fQ (by omega)) Z Z Z ?_)) <;> refine W_ Z ?_) <;> ((refine .cons Z (q hX Z ?_)) <;> refine ⟨_, .zM hX.aw Z Z Z Z Z Z Z Z (beA Z) Z Z Z, ?_⟩) <;> ((refine .cons Z (KK Z Z Z (OM _ _ _) Z Z ?_)) <;> refine W_ Z ?_) <;> (refine .nil ⟨?_, .intro Z ?_⟩ <;> (repeat' (first | exact trivial | exact .inl Z | refine ⟨?_, ?_⟩)))) | (refine X 5 ?_; (refine J Z ?_) <;> (refine .cons (qa Z Z Z Z Z (wI (by first | omega | (simp only [Int.ofNat_eq_natCast]; omega)) (by first | omega | (simp only [Int.ofNat_eq_natCast]; omega))) Z Z ?_)) <;> (refine J Z ?_) <;> (refine Y Z ?_)) | (refine X 8 ?_; (refine J Z ?_) <;> (refine Y Z ?_)) | refine ai.r_ ?_ | refine ai.t_ rfl ?_ | refine ai.f_ rfl ?_ | refine ai.k_ ?_ | refine ai.b_ ?_ | refine ai.e_ ?_ | refine ax.e_ ?_ | refine ax.c_ ?_ | refine ax.b_ ?_ | refine ax.r_ hX rfl ?_)
 ·exact next (i + 1) _ _ _ (by omega) ⟨⟨rfl, rfl, rfl, trivial⟩, ⟨_, rfl⟩, ⟨_, .nil⟩⟩ (by omega)
 ·exact fun h f => ⟨rfl, f.aZ⟩
theorem Ir (hK : KN base K) (c : aR) (pv sv iv pv2 sv2 iv2 : aa) (h : Heap) (w : Wf h) (b1 : c.params.length ≤ 6) (b2 : c.shared.length ≤ 4) (b3 : c.aq.length ≤ 2000) (r1 : (gG c pv sv iv).holds h) (r2 : (gG c pv2 sv2 iv2).holds h) :
  Sp P K 18 [iL c pv sv iv, iL c pv2 sv2 iv2] h (iw (.bool true) h) := by
 have li := aV r1.2.2
 have li2 := aV r2.2.2
 refine Sp.start (m := 1153066640141713471) (n := 61) w (hK.none 18 rfl rfl _ _) Tryz.func18 rfl rfl wm rfl rfl ?_
 repeat' (first | refine ax.a_ ?_ | refine ai.s_ ?_ | (refine X 0 ?_; (iterate 3 refine J Z ?_) <;> (refine Y Z ?_)) | (refine X 1 ?_; (iterate 4 refine J Z ?_) <;> ((refine .cons (qc Z ?_ ?_)) <;> intro _) <;> (iterate 5 refine J Z ?_) <;> (first | (refine J Z ?_) | (refine .cons (aE Z Z Z Z LN Z Z (fun h f => jG hK pv pv2 c.params h f.wf (f.ro (.of r1)).1 (f.ro (.of r2)).1 (by omega)) ?_))) <;> (iterate 7 refine J Z ?_) <;> (first | (refine J Z ?_) | (refine .cons (aE Z Z Z Z NO Z Z (fun h f => nI hK sv sv2 c.shared h f.wf (f.ro (.of r1)).2.1 (f.ro (.of r2)).2.1 (by omega)) ?_))) <;> (iterate 7 refine J Z ?_) <;> (first | (refine J Z ?_) | (refine .cons (qc Z ?_ ?_)) <;> intro _) <;> (iterate 4 refine J Z ?_) <;> (first | (refine J Z ?_) | (refine .cons (ql hX Z Z Z Z Z Z (by assumption) Z Z ?_))) <;> (iterate 2 refine J Z ?_) <;> (first | (refine J Z ?_) | (refine .cons (ql hX Z Z Z Z Z Z (by assumption) Z Z ?_))) <;> (first | (refine J Z ?_) | (refine .cons (qc Z ?_ ?_)) <;> intro _) <;> (refine J Z ?_) <;> (refine Y Z ?_)) | (refine X 2 ?_; (refine J Z ?_) <;> (refine Y Z ?_)) | (refine X 3 ?_; (refine J Z ?_) <;> (refine Y Z ?_)) | refine ai.r_ ?_ | refine ax.d_ ?_ | refine ai.t_ rfl ?_ | refine ai.f_ rfl ?_ | refine ai.k_ ?_ | refine ai.b_ ?_ | refine ax.r_ hX rfl ?_)
 ·exfalso; simp_all
 ·exfalso; simp_all
 ·exfalso; simp_all
 refine ai.loop (ι := Nat) (fun a => [(5, .ext (i64 a)), (3, .ptr 1 0), (2, .ptr 0 0)]) (fun _ => [.own [aY c.name, pv, sv, i64 c.local, iv] 26 false, .own [aY c.name, pv2, sv2, i64 c.local, iv2] 26 false]) (fun _ => []) (fun a => a ≤ c.aq.length) (fun a => c.aq.length - a) 0 ⟨⟨rfl, rfl, rfl, trivial⟩, ⟨_, rfl⟩, ⟨_, .nil⟩⟩ (Nat.zero_le _) (fun _ => rfl) (fun _ => rfl) (fun _ => rfl) ?_
 rintro i hi next
 repeat' (first | refine ax.a_ ?_ | refine ai.s_ ?_ | (refine X 4 ?_; (iterate 3 refine J Z ?_) <;> (refine .cons (ql hX Z Z Z Z Z Z (by assumption) Z Z ?_)) <;> ((refine .cons (qc Z ?_ ?_)) <;> intro _) <;> (refine Y Z ?_)) | (refine ai.draw (id := 6) aw [0, 1, 2, 3, 4, 5, 6, 7, 8, 9, 10] #[0, 1, 0, 7, 15, 0, 32, 0, 224, 480, 1023] (by kernel_rfl) (by kernel_rfl) (by kernel_rfl) ?_; (refine O Z Z Z ?_) <;> ((refine .cons Z (q hX Z ?_)) <;> refine ⟨_, .ng hX.aw Z Z Z Z Z Z Z Z (beL (by assumption)) Z Z Z, ?_⟩) <;> (refine O Z Z Z ?_) <;> ((refine .cons Z (bq hX Z Z Z Z Z (.of r1.2.2) (aM aP (by omega)) Z Z Z ?_)) <;> refine W_ Z ?_) <;> ((refine .cons Z (q hX Z ?_)) <;> refine ⟨_, .zM hX.aw Z Z Z Z Z Z Z Z (beA Z) Z Z Z, ?_⟩) <;> (refine O Z Z Z ?_) <;> ((refine .cons Z (q hX Z ?_)) <;> refine ⟨_, .ng hX.aw Z Z Z Z Z Z Z Z (beL (by assumption)) Z Z Z, ?_⟩) <;> (refine O Z Z Z ?_) <;> ((refine .cons Z (bq hX Z Z Z Z Z (.of r2.2.2) (aM aP (by omega)) Z Z Z ?_)) <;> refine W_ Z ?_) <;> ((refine .cons Z (q hX Z ?_)) <;> refine ⟨_, .zM hX.aw Z Z Z Z Z Z Z Z (beA Z) Z Z Z, ?_⟩) <;> ((refine .cons Z (KK Z Z Z (OL _) Z Z ?_)) <;> refine W_ Z ?_) <;> (refine .nil ⟨?_, .intro Z ?_⟩ <;> (repeat' (first | exact trivial | exact .inl Z | refine ⟨?_, ?_⟩)))) | (refine X 5 ?_; (refine J Z ?_) <;> (refine .cons (qa Z Z Z Z Z (wI (by first | omega | (simp only [Int.ofNat_eq_natCast]; omega)) (by first | omega | (simp only [Int.ofNat_eq_natCast]; omega))) Z Z ?_)) <;> (refine J Z ?_) <;> (refine Y Z ?_)) | (refine X 8 ?_; (refine J Z ?_) <;> (refine Y Z ?_)) | refine ai.r_ ?_ | refine ai.t_ rfl ?_ | refine ai.f_ rfl ?_ | refine ai.k_ ?_ | refine ai.b_ ?_ | refine ai.e_ ?_ | refine ax.e_ ?_ | refine ax.c_ ?_ | refine ax.b_ ?_ | refine ax.r_ hX rfl ?_)
 ·exact next (i + 1) _ _ _ (by omega) ⟨⟨rfl, rfl, rfl, trivial⟩, ⟨_, rfl⟩, ⟨_, .nil⟩⟩ (by omega)
 ·exact fun h f => ⟨rfl, f.aZ⟩
end Em
end Go.HL
