/- The walk: the reference reads a text; the law. No statement of the seat stands here. -/
import Derived.Test.YtngeipnhbigdmaaGreatDoorAB
import Derived.Test.YtngeipnhbigdmaaGreatDoorXC
import Derived.Test.YtngeipnhbigdmaaGreatDoorMD
set_option linter.unusedVariables false
set_option linter.unusedSimpArgs false
namespace Go.HL
open Go Go.Proofs
namespace Ev
open Em
set_option maxRecDepth 10000
set_option maxHeartbeats 8000000
variable {K : ai} {base : List (Nat × aE)}
theorem mask97 : Nat.lor (jm Tryz.f97) (Nat.sub (Nat.pow 2 2) 1) = 131635 := by kernel_rfl
theorem rL (hK : KN base K) (s : ad) (l : List (List Nat)) (t : List Nat) (hl : l.length ≤ 1000000) (hb : ∀ x ∈ l, cV x) (ht : cV t) (h : Heap) (w : Wf h) (hs : (rd s 1 (l.map sB)).holds h) : Sp P K 97 [aR t, s] h (dE (.int .i64 (dw l t)) h) := by
 have hln : dA s = some l.length := by have := hs.slice.len; simpa using this
 refine Sp.start (m := 131635) (n := 19) w (hK.none 97 rfl rfl _ _) Tryz.func97 rfl rfl mask97 rfl rfl ?_
 repeat' (first | refine aw.a_ ?_ | refine ag.s_ ?_ | (refine X 0 ?_; (refine J Z ?_) <;> (refine Y Z ?_)) | (refine X 1 ?_; (refine J Z ?_) <;> (refine Y Z ?_)) | refine ag.b_ ?_)
 refine ag.loop (fun a => [(5, .ext (i64 a)), (0, .ext (aR t)), (1, .ext s)]) (fun _ => []) (fun _ => []) (fun a => a ≤ l.length ∧ ∀ j, j < a → l.getD j [] ≠ t) (fun a => l.length - a) 0 ⟨⟨rfl, rfl, rfl, trivial⟩, ⟨_, rfl⟩, ⟨_, .nil⟩⟩ ⟨Nat.zero_le _, fun j hj => absurd hj (by omega)⟩ (fun _ => rfl) (fun _ => rfl) (fun _ => rfl) ?_
 rintro a ⟨ha, hne⟩ next
 repeat' (first | refine aw.a_ ?_ | refine ag.s_ ?_ | (refine X 2 ?_; (iterate 2 refine J Z ?_) <;> (refine .cons (ql hX Z Z Z Z Z Z (by assumption) Z Z ?_)) <;> ((refine .cons (qc Z ?_ ?_)) <;> intro _) <;> (refine Y Z ?_)) | (refine X 6 ?_; (refine J Z ?_) <;> (refine Y Z ?_)) | refine ag.r_ ?_ | refine ag.t_ rfl ?_ | refine ag.f_ rfl ?_ | refine ag.k_ ?_ | refine ag.b_ ?_ | refine ag.e_ ?_ | refine aw.e_ ?_ | refine aw.c_ ?_ | refine aw.r_ hX rfl ?_)
 ·have hal : a < l.length := by omega
  repeat' (first | refine aw.a_ ?_ | refine ag.s_ ?_ | (refine X 4 ?_; (iterate 2 refine J Z ?_) <;> (refine .cons (bh hX Z Z Z Z Z (.of hs) (aN [] hal) Z Z Z ?_)) <;> (iterate 2 refine J Z ?_) <;> ((refine .cons (fk (hb _ (aY [] hal)) ht Z Z Z Z Z ?_ ?_)) <;> (intro _)) <;> (refine Y Z ?_)) | (refine X 5 ?_; (iterate 2 refine J Z ?_) <;> (refine Y Z ?_)) | (refine X 3 ?_; (refine J Z ?_) <;> (refine .cons (qa Z Z Z Z Z (wI (by first | omega | (simp only [Int.ofNat_eq_natCast]; omega)) (by first | omega | (simp only [Int.ofNat_eq_natCast]; omega))) Z Z ?_)) <;> (refine J Z ?_) <;> (refine Y Z ?_)) | refine ag.r_ ?_ | refine aw.d_ ?_ | refine aw.f_ ?_ | refine ag.t_ rfl ?_ | refine ag.f_ rfl ?_ | refine ag.k_ ?_ | refine aw.b_ ?_ | refine aw.r_ hX rfl ?_)
  ·rename_i e
   exact fun h f => ⟨by rw [Ax hal hne e]; rfl, f.aS⟩
  ·rename_i e
   refine next (a + 1) _ _ _ (by omega) ⟨⟨rfl, rfl, rfl, trivial⟩, ⟨_, rfl⟩, ⟨_, .nil⟩⟩ ⟨by omega, fun j hj => ?_⟩
   by_cases hja : j = a
   ·rw [hja]; exact e
   ·exact hne j (by omega)
 ·have hal : a = l.length := by omega
  subst hal
  repeat' (first | fail)
  exact fun h f => ⟨by rw [Aw hne]; rfl, f.aS⟩
theorem Hn : ∀ a, a < 20 → cY ((a : Nat) : Int) = true → vm (fT ((a : Nat) : Int)) = ((a : Nat) : Int) := by decide
theorem Fi : cY ((5 : Nat) : Int) = true ∧ cY ((6 : Nat) : Int) = true ∧ cY ((7 : Nat) : Int) = true ∧ cY ((18 : Nat) : Int) = true ∧ cY ((19 : Nat) : Int) = true := by decide
theorem Ho {t : List Nat} (hne : ∀ j, j < 20 → cY ((j : Nat) : Int) = true → fT ((j : Nat) : Int) ≠ t) : vm t = 0 := by
 obtain ⟨f5, f6, f7, f8, f9⟩ := Fi
 have h5 := hne 5 (by decide) f5
 have h6 := hne 6 (by decide) f6
 have h7 := hne 7 (by decide) f7
 have h8 := hne 18 (by decide) f8
 have h9 := hne 19 (by decide) f9
 unfold vm
 split
 ·rfl
 rw [if_neg fun e => h5 e.symm, if_neg fun e => h6 e.symm, if_neg fun e => h7 e.symm, if_neg fun e => h8 e.symm, if_neg fun e => h9 e.symm]
theorem mask96 : Nat.lor (jm Tryz.f96) (Nat.sub (Nat.pow 2 1) 1) = 32813 := by kernel_rfl
theorem vo (hK : KN base K) (t : List Nat) (ht : cV t) (h : Heap) (w : Wf h) : Sp P K 96 [aR t] h (dE (.int .i64 (vm t)) h) := by
 refine Sp.start (m := 32813) (n := 17) w (hK.none 96 rfl rfl _ _) Tryz.func96 rfl rfl mask96 rfl rfl ?_
 repeat' (first | refine aw.a_ ?_ | refine ag.s_ ?_ | (refine X 0 ?_; (refine J Z ?_) <;> (refine Y Z ?_)) | (refine X 1 ?_; (refine J Z ?_) <;> (refine Y Z ?_)) | refine ag.b_ ?_)
 refine ag.loop (fun a => [(3, .ext (i64 a)), (0, .ext (aR t))]) (fun _ => []) (fun _ => []) (fun a => a ≤ 20 ∧ ∀ j, j < a → cY (j : Int) = true → fT (j : Int) ≠ t) (fun a => 20 - a) 0 ⟨⟨rfl, rfl, trivial⟩, ⟨_, rfl⟩, ⟨_, .nil⟩⟩ ⟨Nat.zero_le _, fun j hj => absurd hj (by omega)⟩ (fun _ => rfl) (fun _ => rfl) (fun _ => rfl) ?_
 rintro a ⟨ha, hne⟩ next
 repeat' (first | refine aw.a_ ?_ | refine ag.s_ ?_ | (refine X 2 ?_; (refine J Z ?_) <;> ((refine .cons (qc Z ?_ ?_)) <;> intro _) <;> (refine Y Z ?_)) | (refine X 6 ?_; (refine J Z ?_) <;> (refine Y Z ?_)) | refine ag.r_ ?_ | refine ag.t_ rfl ?_ | refine ag.f_ rfl ?_ | refine ag.k_ ?_ | refine ag.b_ ?_ | refine ag.e_ ?_ | refine aw.e_ ?_ | refine aw.c_ ?_ | refine aw.r_ hX rfl ?_)
 ·repeat' (first | refine aw.a_ ?_ | refine ag.s_ ?_ | (refine X 4 ?_; (refine J Z ?_) <;> ((refine .cons (aV Z Z Z Z JN Z Z (fun h f => vk hK (a : Int) h f.wf) ?_ ?_)) <;> intro _) <;> (iterate 2 refine J Z ?_) <;> (first | (refine J Z ?_) | (refine .cons (ao Z Z Z Z KP Z Z (fun h f => lZ hK (a : Int) h f.wf) ?_))) <;> (refine J Z ?_) <;> (first | (refine J Z ?_) | (refine .cons (fk (cV.f _) ht Z Z Z Z Z ?_ ?_)) <;> (intro _)) <;> (refine J Z ?_) <;> (refine Y Z ?_)) | (refine X 5 ?_; (iterate 2 refine J Z ?_) <;> (refine Y Z ?_)) | (refine X 3 ?_; (refine J Z ?_) <;> (refine .cons (qa Z Z Z Z Z (wI (by first | omega | (simp only [Int.ofNat_eq_natCast]; omega)) (by first | omega | (simp only [Int.ofNat_eq_natCast]; omega))) Z Z ?_)) <;> (refine J Z ?_) <;> (refine Y Z ?_)) | refine ag.r_ ?_ | refine aw.d_ ?_ | refine aw.f_ ?_ | refine ag.t_ rfl ?_ | refine ag.f_ rfl ?_ | refine ag.k_ ?_ | refine aw.b_ ?_ | refine aw.r_ hX rfl ?_)
  ·rename_i e1 e2 e3
   exact fun h f => ⟨by rw [← e3, Hn a (by omega) e2]; rfl, f.aS⟩
  ·rename_i e1 e2 e3
   refine next (a + 1) _ _ _ (by omega) ⟨⟨rfl, rfl, trivial⟩, ⟨_, rfl⟩, ⟨_, .nil⟩⟩ ⟨by omega, fun j hj hf => ?_⟩
   by_cases hja : j = a
   ·rw [hja]; exact e3
   ·exact hne j (by omega) hf
  ·rename_i e1 e2
   refine next (a + 1) _ _ _ (by omega) ⟨⟨rfl, rfl, trivial⟩, ⟨_, rfl⟩, ⟨_, .nil⟩⟩ ⟨by omega, fun j hj hf => ?_⟩
   by_cases hja : j = a
   ·rw [hja, e2] at hf; cases hf
   ·exact hne j (by omega) hf
 ·rename_i e1
  exact fun h f => ⟨by rw [Ho fun j hj => hne j (by omega)]; rfl, f.aS⟩
theorem B3 (hK : KN base K) (a : Nat) (ha : a < 20) (h : Heap) (w : Wf h) : Sp P K 76 [i64 a] h (dE (aR (bT.getD a [])) h) := nA hK a ha h w
theorem kO {α : Type} (l : List α) (d : α) {i : Nat} (h : i < l.length) : l.take (i + 1) = l.take i ++ [l.getD i d] := by
 rw [List.take_add_one]; simp [List.getD, List.getElem?_eq_getElem h]
theorem mask98 : Nat.lor (jm Tryz.f98) (Nat.sub (Nat.pow 2 0) 1) = 23 := by kernel_rfl
theorem yV (hK : KN base K) (h : Heap) (w : Wf h) : Sp P K 98 [] h (Tr (fun v C => ∃ k, v = .slice k 0 20 none ∧ C = [aH 9 1 v (bT.map sB)]) h) := by
 refine Sp.start (m := 23) (n := 13) w (hK.none 98 rfl rfl _ _) Tryz.func98 rfl rfl mask98 rfl rfl ?_
 repeat' (first | refine aw.a_ ?_ | refine ag.s_ ?_ | (refine X 0 ?_; (refine J Z ?_) <;> (refine Y Z ?_)) | (refine X 1 ?_; (refine J Z ?_) <;> (refine Y Z ?_)) | (refine X 2 ?_; (refine J Z ?_) <;> (refine Y Z ?_)) | refine ag.b_ ?_)
 refine ag.nil 9 1 ?_
 refine ag.loop (ι := Nat × ad) (fun a => [(2, .ext (i64 a.1)), (1, .ext a.2)]) (fun _ => []) (fun a => [aH 9 1 a.2 ((bT.take a.1).map sB)]) (fun a => a.1 ≤ 20 ∧ (0 < a.1 → ∃ k, a.2 = .slice k 0 a.1 none)) (fun a => 20 - a.1) (0, .aD) ⟨⟨rfl, rfl, trivial⟩, ⟨_, rfl⟩, ⟨_, .cons .h .nil⟩⟩ ⟨Nat.zero_le _, fun e => by cases e⟩ (fun _ => rfl) (fun _ => rfl) (fun _ => rfl) ?_
 rintro ⟨a, v⟩ ⟨ha, hv⟩ next
 simp only at ha hv next ⊢
 repeat' (first | refine aw.a_ ?_ | refine ag.s_ ?_ | (refine X 3 ?_; (refine J Z ?_) <;> ((refine .cons (qc Z ?_ ?_)) <;> intro _) <;> (refine Y Z ?_)) | (refine X 6 ?_; (iterate 2 refine J Z ?_) <;> (refine Y Z ?_)) | refine ag.r_ ?_ | refine ag.t_ rfl ?_ | refine ag.f_ rfl ?_ | refine ag.k_ ?_ | refine ag.b_ ?_ | refine ag.e_ ?_ | refine aw.e_ ?_ | refine aw.c_ ?_ | refine aw.r_ hX rfl ?_)
 ·have ha2 : a < 20 := by omega
  have hl : (bT.take a).length = a := by rw [List.length_take]; exact Nat.min_eq_left (Nat.le_of_lt ha2)
  repeat' (first | refine aw.a_ ?_ | (refine X 5 ?_; (iterate 2 refine J Z ?_) <;> (refine .cons (ao Z Z Z Z Mb Z Z (fun h f => B3 hK a ha2 h f.wf) ?_)) <;> (refine J Z ?_) <;> ((refine .cons (sZ hX Z Z Z Z Z Z Z Z Z Z Z Z b9 Z Z Z Z Z (by repeat (first | exact .h | apply aI.t)) Z (by rw [List.length_map, hl]; omega) Z Z ?_)) <;> intro kp) <;> (refine J Z ?_) <;> (refine Y Z ?_)) | (refine X 4 ?_; (refine J Z ?_) <;> (refine .cons (qa Z Z Z Z Z (wI (by first | omega | (simp only [Int.ofNat_eq_natCast]; omega)) (by first | omega | (simp only [Int.ofNat_eq_natCast]; omega))) Z Z ?_)) <;> (refine J Z ?_) <;> (refine Y Z ?_)) | refine aw.b_ ?_)
  refine next (a + 1, _) _ _ _ (by simp only; omega) ⟨⟨rfl, rfl, trivial⟩, ⟨_, rfl⟩, ⟨_, by dsimp only; rw [kO bT [] ha2, List.map_append]; exact .cons .h .nil⟩⟩ ⟨by simp only; omega, fun _ => ⟨_, by rw [List.length_map, hl]⟩⟩
 ·have ha2 : a = 20 := by omega
  subst ha2
  obtain ⟨k, rfl⟩ := hv (by omega)
  repeat' (first | fail)
  exact fun h f => ⟨_, f.aS, k, rfl, rfl⟩
def mz (c : Nat) (s : List Nat) (st i : Nat) : List (List Nat) := match cutAt c (s.drop i) with
 | [] => []
 | p :: r => ((s.drop st).take (i - st) ++ p) :: r
theorem CJ (c : Nat) (s : List Nat) (i : Nat) : mz c s i i = cutAt c (s.drop i) := by
 unfold mz
 have := ny c (s.drop i)
 cases hh : cutAt c (s.drop i) <;> simp_all
theorem AF {s : List Nat} {i : Nat} (h : i < s.length) : s.drop i = s.getD i 0 :: s.drop (i + 1) := by
 rw [List.drop_eq_getElem_cons h]; simp [List.getD, List.getElem?_eq_getElem h]
theorem HB {c : Nat} {s : List Nat} {st i : Nat} (h : i < s.length) (e : s.getD i 0 = c) : mz c s st i = (s.drop st).take (i - st) :: mz c s (i + 1) (i + 1) := by
 rw [CJ]
 unfold mz
 rw [AF h, cutAt, if_pos e]
 simp
theorem FC {c : Nat} {s : List Nat} {st i : Nat} (hs : st ≤ i) (h : i < s.length) (e : s.getD i 0 ≠ c) : mz c s st i = mz c s st (i + 1) := by
 have h2 : (s.drop st).getD (i - st) 0 = s.getD i 0 := by
  simp only [List.getD, List.getElem?_drop]
  rw [show st + (i - st) = i by omega]
 have h1 : (s.drop st).take (i + 1 - st) = (s.drop st).take (i - st) ++ [s.getD i 0] := by
  rw [show i + 1 - st = (i - st) + 1 by omega, kO _ 0 (by rw [List.length_drop]; omega), h2]
 unfold mz
 rw [AF h, cutAt, if_neg e, h1]
 have := ny c (s.drop (i + 1))
 cases hh : cutAt c (s.drop (i + 1)) with
 | nil => exact absurd hh this
 | cons p r => simp
theorem FD (c : Nat) (s : List Nat) (st : Nat) : mz c s st s.length = [s.drop st] := by
 unfold mz
 rw [List.drop_length]
 simp [cutAt, List.take_of_length_le]
theorem mask51 : Nat.lor (jm Tryz.f51) (Nat.sub (Nat.pow 2 2) 1) = 264435 := by kernel_rfl
theorem lK (hK : KN base K) (s : List Nat) (c : Nat) (hb : cV s) (hc : c < 256) (hl : s.length ≤ 20000) (h : Heap) (w : Wf h) : Sp P K 51 [aR s, .int .u8 c] h (Tr (fun v C => ∃ k, v = .slice k 0 (cutAt c s).length none ∧ C = [aH 9 1 v ((cutAt c s).map sB)]) h) := by
 refine Sp.start (m := 264435) (n := 34) w (hK.none 51 rfl rfl _ _) Tryz.func51 rfl rfl mask51 rfl rfl ?_
 repeat' (first | refine aw.a_ ?_ | refine ag.s_ ?_ | (refine X 0 ?_; (refine J Z ?_) <;> (refine Y Z ?_)) | (refine X 1 ?_; (refine J Z ?_) <;> (refine Y Z ?_)) | (refine X 2 ?_; (refine J Z ?_) <;> (refine Y Z ?_)) | (refine X 3 ?_; (refine J Z ?_) <;> (refine Y Z ?_)) | refine ag.b_ ?_)
 refine ag.nil 9 1 ?_
 refine ag.loop (ι := Nat × Nat × ad × List (List Nat)) (fun a => [(7, .ext (i64 a.1)), (6, .ext (i64 a.2.1)), (5, .ext a.2.2.1), (0, .ext (aR s)), (1, .ext (.int .u8 c))]) (fun _ => []) (fun a => [aH 9 1 a.2.2.1 (a.2.2.2.map sB)]) (fun a => a.1 ≤ s.length ∧ a.2.1 ≤ a.1 ∧ a.2.2.2.length ≤ a.1 ∧ cutAt c s = a.2.2.2 ++ mz c s a.2.1 a.1) (fun a => s.length - a.1) (0, 0, .aD, []) ⟨⟨rfl, rfl, rfl, rfl, rfl, trivial⟩, ⟨_, rfl⟩, ⟨_, .cons .h .nil⟩⟩ ⟨Nat.zero_le _, Nat.le_refl _, Nat.le_refl _, by unfold mz; rw [List.drop_zero]; have := ny c s; cases hh : cutAt c s <;> simp_all⟩ (fun _ => rfl) (fun _ => rfl) (fun _ => rfl) ?_
 rintro ⟨i, st, v, done⟩ ⟨hi, hst, hdl, hA⟩ next
 simp only at hi hst hdl hA next ⊢
 repeat' (first | refine aw.a_ ?_ | refine ag.s_ ?_ | (refine X 4 ?_; (iterate 3 refine J Z ?_) <;> ((refine .cons (qc Z ?_ ?_)) <;> intro _) <;> (refine Y Z ?_)) | (refine X 6 ?_; (iterate 2 refine J Z ?_) <;> (refine .cons (qs hX Z Z Z Z (by first | omega | (simp only [Int.ofNat_eq_natCast]; omega)) Z Z ?_)) <;> (refine J Z ?_) <;> ((refine .cons (qc Z ?_ ?_)) <;> intro _) <;> (refine Y Z ?_)) | (refine X 5 ?_; (refine J Z ?_) <;> (refine .cons (qa Z Z Z Z Z (wI (by first | omega | (simp only [Int.ofNat_eq_natCast]; omega)) (by first | omega | (simp only [Int.ofNat_eq_natCast]; omega))) Z Z ?_)) <;> (refine J Z ?_) <;> (refine Y Z ?_)) | refine ag.t_ rfl ?_ | refine ag.f_ rfl ?_ | refine ag.k_ ?_ | refine ag.b_ ?_ | refine ag.e_ ?_ | refine aw.e_ ?_ | refine aw.c_ ?_ | refine aw.b_ ?_)
 ·rename_i e
  have hil : i < s.length := by omega
  have hx : s.getD i 0 = c := by rw [dN hb hil] at e; exact Int.ofNat.inj e
  rw [HB hil hx] at hA
  repeat' (first | refine aw.a_ ?_ | (refine X 7 ?_; (iterate 4 refine J Z ?_) <;> (refine .cons (Ei (bs := s) (lo := st) (hi := i) (r := (s.drop st).take (i - st)) hX Z Z Z Z Z hst hi hb List.drop_take Z Z ?_)) <;> (refine J Z ?_) <;> ((refine .cons (sZ hX Z Z Z Z Z Z Z Z Z Z Z Z b9 Z Z Z Z Z (by repeat (first | exact .h | apply aI.t)) Z (by rw [List.length_map]; omega) Z Z ?_)) <;> intro kp) <;> (refine J Z ?_) <;> (refine Y Z ?_)) | (refine X 8 ?_; (refine J Z ?_) <;> (refine .cons (qa Z Z Z Z Z (wI (by first | omega | (simp only [Int.ofNat_eq_natCast]; omega)) (by first | omega | (simp only [Int.ofNat_eq_natCast]; omega))) Z Z ?_)) <;> (refine J Z ?_) <;> (refine Y Z ?_)) | (refine X 5 ?_; (refine J Z ?_) <;> (refine .cons (qa Z Z Z Z Z (wI (by first | omega | (simp only [Int.ofNat_eq_natCast]; omega)) (by first | omega | (simp only [Int.ofNat_eq_natCast]; omega))) Z Z ?_)) <;> (refine J Z ?_) <;> (refine Y Z ?_)) | refine aw.b_ ?_)
  refine next (i + 1, i + 1, _, done ++ [(s.drop st).take (i - st)]) _ _ _ (by simp only; omega) ⟨⟨rfl, rfl, rfl, rfl, rfl, trivial⟩, ⟨_, rfl⟩, ⟨_, by dsimp only; rw [List.map_append]; exact .cons .h .nil⟩⟩ ⟨by simp only; omega, by simp only; omega, by simp only [List.length_append, List.length_singleton]; omega, by rw [hA, List.append_assoc]; rfl⟩
 ·rename_i e
  have hil : i < s.length := by omega
  have hx : s.getD i 0 ≠ c := fun e2 => e (by rw [dN hb hil, e2]; rfl)
  rw [FC hst hil hx] at hA
  exact next (i + 1, st, v, done) _ _ _ (by simp only; omega) ⟨⟨rfl, rfl, rfl, rfl, rfl, trivial⟩, ⟨_, rfl⟩, ⟨_, .cons .h .nil⟩⟩ ⟨by simp only; omega, by simp only; omega, by simp only; omega, hA⟩
 ·have hil : i = s.length := by omega
  subst hil
  rw [FD] at hA
  repeat' (first | refine aw.a_ ?_ | (refine X 9 ?_; (iterate 3 refine J Z ?_) <;> (refine .cons (Ei (bs := s) (lo := st) (hi := s.length) (r := s.drop st) hX Z Z Z Z Z hst (Nat.le_refl _) hb (by rw [List.take_length]) Z Z ?_)) <;> (refine J Z ?_) <;> ((refine .cons (sZ hX Z Z Z Z Z Z Z Z Z Z Z Z b9 Z Z Z Z Z (by repeat (first | exact .h | apply aI.t)) Z (by rw [List.length_map]; omega) Z Z ?_)) <;> intro kp) <;> (refine J Z ?_) <;> (refine Y Z ?_)) | refine ag.r_ ?_ | refine aw.r_ hX rfl ?_)
  exact fun h f => ⟨_, f.aS, _, by rw [hA, List.length_append, List.length_map]; rfl, by rw [hA, List.map_append]; rfl⟩
theorem r8 (l : List Nat) (x : Nat) : iu (l ++ [x]) 0 = 10 * iu l 0 + ((x : Int) - 48) := by simp [iu]
theorem CY {l : List Nat} (h : ∀ x ∈ l, vB x = true) : 0 ≤ iu l 0 ∧ iu l 0 < 10 ^ l.length := by
 have key : ∀ (n : Nat) (l : List Nat), l.length = n → (∀ x ∈ l, vB x = true) → 0 ≤ iu l 0 ∧ iu l 0 < 10 ^ l.length := by
  intro n
  induction n with
  | zero => intro l hl _; rw [List.eq_nil_of_length_eq_zero hl]; simp [iu]
  | succ n ih =>
   intro l hl h
   have hs := kO l 0 (i := n) (by omega)
   rw [List.take_of_length_le (by omega)] at hs
   have hln : (l.take n).length = n := by rw [List.length_take]; omega
   have ih := ih (l.take n) hln fun y hy => h y (List.mem_of_mem_take hy)
   have hx := h (l.getD n 0) (aY 0 (by omega))
   unfold vB at hx
   have hx := of_decide_eq_true hx
   rw [hl, hs, r8, Int.pow_succ]
   rw [hln] at ih
   omega
 exact key _ l rfl h
theorem Jz {n : Nat} (h : n ≤ 10) : (10 : Int) ^ n ≤ 10000000000 := by
 have : ∀ n, n < 11 → (10 : Int) ^ n ≤ 10000000000 := by decide
 exact this n (by omega)
theorem cV.at {l : List Nat} (h : cV l) (a : Nat) : l.getD a 0 < 256 := by
 by_cases ha : a < l.length
 ·exact h _ (aY 0 ha)
 ·rw [List.getD, List.getElem?_eq_none (by omega)]; decide
theorem mask52 : Nat.lor (jm Tryz.f52) (Nat.sub (Nat.pow 2 1) 1) = 2199593713789 := by kernel_rfl
theorem bz (hK : KN base K) (s : List Nat) (hb : cV s) (hl : s.length ≤ 1000000) (h : Heap) (w : Wf h) : Sp P K 52 [aR s] h (dE (.int .i64 (fV s)) h) := by
 have hh : 1 < s.length → dP s.length (aO s 0) 0 = s.getD 0 0 := fun h1 => dN hb (by omega)
 by_cases hm : 1 < s.length ∧ s.head? = some 45
 ·have hx : dP s.length (aO s 0) 0 = 45 := by
   rw [hh hm.1]
   have := hm.2
   cases s with
   | nil => cases this
   | cons x s => cases this; rfl
  have hN : fV s = if s.tail.length < 1 ∨ 10 < s.tail.length then 0 else if s.tail.all vB = true then -1 * iu s.tail 0 else 0 := by unfold fV oB ud; rw [if_pos hm, if_pos hm]
  have hub : cV s.tail := fun x hx => hb x (List.mem_of_mem_tail hx)
  have h1 := hm.1
  refine Sp.start (m := 2199593713789) (n := 53) w (hK.none 52 rfl rfl _ _) Tryz.func52 rfl rfl mask52 rfl rfl ?_
  repeat' (first | refine aw.a_ ?_ | refine ag.s_ ?_ | (refine X 0 ?_; (refine J Z ?_) <;> (refine Y Z ?_)) | (refine X 1 ?_; (iterate 3 refine J Z ?_) <;> (refine Y Z ?_)) | (refine X 2 ?_; (iterate 2 refine J Z ?_) <;> ((refine .cons (qc Z ?_ ?_)) <;> (intro _; first | (exfalso; omega) | skip)) <;> (iterate 2 refine J Z ?_) <;> (refine .cons (qs hX Z Z Z Z (by first | omega | (simp only [Int.ofNat_eq_natCast]; omega)) Z Z ?_)) <;> ((refine .cons (qc Z ?_ ?_)) <;> (intro e; rw [hx] at e; first | (exfalso; exact e Z) | skip)) <;> (refine J Z ?_) <;> (refine Y Z ?_)) | (refine X 3 ?_; (refine J Z ?_) <;> (refine .cons (Ei (bs := s) (lo := 1) (hi := s.length) (r := s.tail) hX Z Z Z Z Z (by omega) (Nat.le_refl _) hb (by rw [List.take_length, List.drop_one]) Z Z ?_)) <;> (iterate 2 refine J Z ?_) <;> (refine Y Z ?_)) | refine ag.t_ rfl ?_)
  repeat' (first | refine aw.a_ ?_ | refine ag.s_ ?_ | (refine X 4 ?_; (iterate 2 refine J Z ?_) <;> ((refine .cons (qc Z ?_ ?_)) <;> intro _) <;> (iterate 3 refine J Z ?_) <;> (first | (refine J Z ?_) | (refine .cons (qc Z ?_ ?_)) <;> intro _) <;> (refine J Z ?_) <;> (refine Y Z ?_)) | (refine X 5 ?_; (refine J Z ?_) <;> (refine Y Z ?_)) | (refine X 6 ?_; (refine J Z ?_) <;> (refine Y Z ?_)) | (refine X 7 ?_; (refine J Z ?_) <;> (refine Y Z ?_)) | refine ag.r_ ?_ | refine aw.d_ ?_ | refine ag.t_ rfl ?_ | refine ag.f_ rfl ?_ | refine ag.k_ ?_ | refine ag.b_ ?_ | refine aw.r_ hX rfl ?_)
  ·exact fun h f => ⟨by rw [hN, if_pos (.inl (by omega))]; rfl, f.aS⟩
  ·exact fun h f => ⟨by rw [hN, if_pos (.inr (by omega))]; rfl, f.aS⟩
  rename_i e1 e2
  rw [if_neg (by omega)] at hN
  refine ag.loop (fun a => [(6, .ext (i64 a)), (5, .ext (.int .i64 (iu (s.tail.take a) 0))), (4, .ext (.int .i64 (-1))), (3, .ext (aR s.tail))]) (fun _ => []) (fun _ => []) (fun a => a ≤ s.tail.length ∧ ∀ x ∈ s.tail.take a, vB x = true) (fun a => s.tail.length - a) 0 ⟨⟨rfl, rfl, rfl, rfl, trivial⟩, ⟨_, rfl⟩, ⟨_, .nil⟩⟩ ⟨Nat.zero_le _, by simp⟩ (fun _ => rfl) (fun _ => rfl) (fun _ => rfl) ?_
  rintro a ⟨ha, hd⟩ next
  have hv := CY hd
  have hp := Jz (n := (s.tail.take a).length) (by rw [List.length_take]; omega)
  have hv2 := Int.lt_of_lt_of_le hv.2 hp
  repeat' (first | refine aw.a_ ?_ | refine ag.s_ ?_ | (refine X 8 ?_; (iterate 3 refine J Z ?_) <;> ((refine .cons (qc Z ?_ ?_)) <;> intro _) <;> (refine Y Z ?_)) | refine ag.t_ rfl ?_ | refine ag.f_ rfl ?_ | refine ag.k_ ?_ | refine ag.b_ ?_ | refine ag.e_ ?_ | refine aw.e_ ?_ | refine aw.c_ ?_)
  ·have hal : a < s.tail.length := by omega
   have hx := dN hub hal
   have hxb := cV.at hub a
   have ht := kO s.tail 0 hal
   generalize hy : s.tail.getD a 0 = x at hx hxb ht
   have no : ¬ (48 ≤ x ∧ x ≤ 57) → fV s = 0 := fun hn => by
    rw [hN, if_neg]
    intro hall
    have := List.all_eq_true.1 hall x (by rw [← hy]; exact aY 0 hal)
    exact hn (of_decide_eq_true this)
   repeat' (first | refine aw.a_ ?_ | refine ag.s_ ?_ | (refine X 10 ?_; (iterate 2 refine J Z ?_) <;> (refine .cons (qs hX Z Z Z Z hal Z Z ?_)) <;> ((refine .cons (qc Z ?_ ?_)) <;> (intro e; rw [hx] at e; first | (have e3 : ((x : Nat) : Int) < 48 := e) | (have e3 : ¬ ((x : Nat) : Int) < 48 := e))) <;> (iterate 3 refine J Z ?_) <;> (first | (refine J Z ?_) | (refine .cons (qs hX Z Z Z Z hal Z Z ?_))) <;> (first | (refine J Z ?_) | (refine .cons (qc Z ?_ ?_)) <;> (intro e; rw [hx] at e; first | (have e4 : 57 < ((x : Nat) : Int) := e) | (have e4 : ¬ 57 < ((x : Nat) : Int) := e))) <;> (refine J Z ?_) <;> (refine Y Z ?_)) | (refine X 11 ?_; (refine J Z ?_) <;> (refine Y Z ?_)) | refine ag.r_ ?_ | refine aw.d_ ?_ | refine aw.f_ ?_ | refine ag.t_ rfl ?_ | refine ag.f_ rfl ?_ | refine ag.k_ ?_ | refine aw.r_ hX rfl ?_)
   ·exact fun h f => ⟨by rw [no (fun q => by omega)]; rfl, f.aS⟩
   ·exact fun h f => ⟨by rw [no (fun q => by omega)]; rfl, f.aS⟩
   repeat' (first | refine aw.a_ ?_ | (refine X 12 ?_; (refine J Z ?_) <;> (refine .cons (qa (d := 10 * iu (s.tail.take a) 0) Z Z Z Z Z (wI (by omega) (by omega)) Z Z ?_)) <;> (iterate 2 refine J Z ?_) <;> ((refine .cons (qs hX Z Z Z Z hal Z Z ?_)) <;> (rw [hx])) <;> (refine .cons (qa (d := ((x - 48 : Nat) : Int)) Z Z Z Z Z (by show dj .u8 (((x : Nat) : Int) - 48) = _; rw [tN]; omega) Z Z ?_)) <;> (refine .cons (qw (b := ((x - 48 : Nat) : Int)) hX Z Z Z Z (wI (by omega) (by omega)) Z Z ?_)) <;> (refine .cons (qa (d := iu (s.tail.take (a + 1)) 0) Z Z Z Z Z (by rw [ht, r8, wI (by omega) (by omega)]; omega) Z Z ?_)) <;> (refine J Z ?_) <;> (refine Y Z ?_)) | (refine X 9 ?_; (refine J Z ?_) <;> (refine .cons (qa Z Z Z Z Z (wI (by first | omega | (simp only [Int.ofNat_eq_natCast]; omega)) (by first | omega | (simp only [Int.ofNat_eq_natCast]; omega))) Z Z ?_)) <;> (refine J Z ?_) <;> (refine Y Z ?_)) | refine aw.b_ ?_)
   exact next (a + 1) _ _ _ (by omega) ⟨⟨rfl, rfl, rfl, rfl, trivial⟩, ⟨_, rfl⟩, ⟨_, .nil⟩⟩ ⟨by omega, by rw [ht]; exact fX hd (decide_eq_true ⟨by omega, by omega⟩)⟩
  ·have hal : a = s.tail.length := by omega
   subst hal
   rw [List.take_length] at hd hv hv2
   rw [if_pos (List.all_eq_true.2 hd)] at hN
   repeat' (first | refine aw.a_ ?_ | (refine X 13 ?_; (iterate 2 refine J Z ?_) <;> (refine .cons (qa (d := (-1) * iu s.tail 0) Z Z Z Z Z (by rw [List.take_length]; exact wI (by omega) (by omega)) Z Z ?_)) <;> (refine J Z ?_) <;> (refine Y Z ?_)) | refine ag.r_ ?_ | refine aw.r_ hX rfl ?_)
   exact fun h f => ⟨by rw [hN]; rfl, f.aS⟩
 ·have hx : 1 < s.length → dP s.length (aO s 0) 0 ≠ 45 := fun h1 e => hm ⟨h1, by
   rw [hh h1] at e
   cases s with
   | nil => simp at h1
   | cons x s => exact congrArg some e⟩
  have hN : fV s = if s.length < 1 ∨ 10 < s.length then 0 else if s.all vB = true then 1 * iu s 0 else 0 := by unfold fV oB ud; rw [if_neg hm, if_neg hm]
  have hub := hb
  refine Sp.start (m := 2199593713789) (n := 53) w (hK.none 52 rfl rfl _ _) Tryz.func52 rfl rfl mask52 rfl rfl ?_
  repeat' (first | refine aw.a_ ?_ | refine ag.s_ ?_ | (refine X 0 ?_; (refine J Z ?_) <;> (refine Y Z ?_)) | (refine X 1 ?_; (iterate 3 refine J Z ?_) <;> (refine Y Z ?_)) | (refine X 2 ?_; (iterate 2 refine J Z ?_) <;> ((refine .cons (qc Z ?_ ?_)) <;> intro _) <;> (iterate 2 refine J Z ?_) <;> (first | (refine J Z ?_) | (refine .cons (qs hX Z Z Z Z (by first | omega | (simp only [Int.ofNat_eq_natCast]; omega)) Z Z ?_))) <;> (first | (refine J Z ?_) | (refine .cons (qc Z ?_ ?_)) <;> (intro e; first | (exfalso; exact hx (by omega) (Int.ofNat.inj e)) | skip)) <;> (refine J Z ?_) <;> (refine Y Z ?_)) | refine ag.f_ rfl ?_ | refine ag.k_ ?_)
  all_goals
   repeat' (first | refine aw.a_ ?_ | refine ag.s_ ?_ | (refine X 4 ?_; (iterate 2 refine J Z ?_) <;> ((refine .cons (qc Z ?_ ?_)) <;> intro _) <;> (iterate 3 refine J Z ?_) <;> (first | (refine J Z ?_) | (refine .cons (qc Z ?_ ?_)) <;> intro _) <;> (refine J Z ?_) <;> (refine Y Z ?_)) | (refine X 5 ?_; (refine J Z ?_) <;> (refine Y Z ?_)) | (refine X 6 ?_; (refine J Z ?_) <;> (refine Y Z ?_)) | (refine X 7 ?_; (refine J Z ?_) <;> (refine Y Z ?_)) | refine ag.r_ ?_ | refine aw.d_ ?_ | refine ag.t_ rfl ?_ | refine ag.f_ rfl ?_ | refine ag.k_ ?_ | refine ag.b_ ?_ | refine aw.r_ hX rfl ?_)
   ·exact fun h f => ⟨by rw [hN, if_pos (.inl (by omega))]; rfl, f.aS⟩
   ·exact fun h f => ⟨by rw [hN, if_pos (.inr (by omega))]; rfl, f.aS⟩
   rename_i e1 e2
   rw [if_neg (by omega)] at hN
   refine ag.loop (fun a => [(6, .ext (i64 a)), (5, .ext (.int .i64 (iu (s.take a) 0))), (4, .ext (.int .i64 1)), (3, .ext (aR s))]) (fun _ => []) (fun _ => []) (fun a => a ≤ s.length ∧ ∀ x ∈ s.take a, vB x = true) (fun a => s.length - a) 0 ⟨⟨rfl, rfl, rfl, rfl, trivial⟩, ⟨_, rfl⟩, ⟨_, .nil⟩⟩ ⟨Nat.zero_le _, by simp⟩ (fun _ => rfl) (fun _ => rfl) (fun _ => rfl) ?_
   rintro a ⟨ha, hd⟩ next
   have hv := CY hd
   have hp := Jz (n := (s.take a).length) (by rw [List.length_take]; omega)
   have hv2 := Int.lt_of_lt_of_le hv.2 hp
   repeat' (first | refine aw.a_ ?_ | refine ag.s_ ?_ | (refine X 8 ?_; (iterate 3 refine J Z ?_) <;> ((refine .cons (qc Z ?_ ?_)) <;> intro _) <;> (refine Y Z ?_)) | refine ag.t_ rfl ?_ | refine ag.f_ rfl ?_ | refine ag.k_ ?_ | refine ag.b_ ?_ | refine ag.e_ ?_ | refine aw.e_ ?_ | refine aw.c_ ?_)
   ·have hal : a < s.length := by omega
    have hx := dN hub hal
    have hxb := cV.at hub a
    have ht := kO s 0 hal
    generalize hy : s.getD a 0 = x at hx hxb ht
    have no : ¬ (48 ≤ x ∧ x ≤ 57) → fV s = 0 := fun hn => by
     rw [hN, if_neg]
     intro hall
     have := List.all_eq_true.1 hall x (by rw [← hy]; exact aY 0 hal)
     exact hn (of_decide_eq_true this)
    repeat' (first | refine aw.a_ ?_ | refine ag.s_ ?_ | (refine X 10 ?_; (iterate 2 refine J Z ?_) <;> (refine .cons (qs hX Z Z Z Z hal Z Z ?_)) <;> ((refine .cons (qc Z ?_ ?_)) <;> (intro e; rw [hx] at e; first | (have e3 : ((x : Nat) : Int) < 48 := e) | (have e3 : ¬ ((x : Nat) : Int) < 48 := e))) <;> (iterate 3 refine J Z ?_) <;> (first | (refine J Z ?_) | (refine .cons (qs hX Z Z Z Z hal Z Z ?_))) <;> (first | (refine J Z ?_) | (refine .cons (qc Z ?_ ?_)) <;> (intro e; rw [hx] at e; first | (have e4 : 57 < ((x : Nat) : Int) := e) | (have e4 : ¬ 57 < ((x : Nat) : Int) := e))) <;> (refine J Z ?_) <;> (refine Y Z ?_)) | (refine X 11 ?_; (refine J Z ?_) <;> (refine Y Z ?_)) | refine ag.r_ ?_ | refine aw.d_ ?_ | refine aw.f_ ?_ | refine ag.t_ rfl ?_ | refine ag.f_ rfl ?_ | refine ag.k_ ?_ | refine aw.r_ hX rfl ?_)
    ·exact fun h f => ⟨by rw [no (fun q => by omega)]; rfl, f.aS⟩
    ·exact fun h f => ⟨by rw [no (fun q => by omega)]; rfl, f.aS⟩
    repeat' (first | refine aw.a_ ?_ | (refine X 12 ?_; (refine J Z ?_) <;> (refine .cons (qa (d := 10 * iu (s.take a) 0) Z Z Z Z Z (wI (by omega) (by omega)) Z Z ?_)) <;> (iterate 2 refine J Z ?_) <;> ((refine .cons (qs hX Z Z Z Z hal Z Z ?_)) <;> (rw [hx])) <;> (refine .cons (qa (d := ((x - 48 : Nat) : Int)) Z Z Z Z Z (by show dj .u8 (((x : Nat) : Int) - 48) = _; rw [tN]; omega) Z Z ?_)) <;> (refine .cons (qw (b := ((x - 48 : Nat) : Int)) hX Z Z Z Z (wI (by omega) (by omega)) Z Z ?_)) <;> (refine .cons (qa (d := iu (s.take (a + 1)) 0) Z Z Z Z Z (by rw [ht, r8, wI (by omega) (by omega)]; omega) Z Z ?_)) <;> (refine J Z ?_) <;> (refine Y Z ?_)) | (refine X 9 ?_; (refine J Z ?_) <;> (refine .cons (qa Z Z Z Z Z (wI (by first | omega | (simp only [Int.ofNat_eq_natCast]; omega)) (by first | omega | (simp only [Int.ofNat_eq_natCast]; omega))) Z Z ?_)) <;> (refine J Z ?_) <;> (refine Y Z ?_)) | refine aw.b_ ?_)
    exact next (a + 1) _ _ _ (by omega) ⟨⟨rfl, rfl, rfl, rfl, trivial⟩, ⟨_, rfl⟩, ⟨_, .nil⟩⟩ ⟨by omega, by rw [ht]; exact fX hd (decide_eq_true ⟨by omega, by omega⟩)⟩
   ·have hal : a = s.length := by omega
    subst hal
    rw [List.take_length] at hd hv hv2
    rw [if_pos (List.all_eq_true.2 hd)] at hN
    repeat' (first | refine aw.a_ ?_ | (refine X 13 ?_; (iterate 2 refine J Z ?_) <;> (refine .cons (qa (d := 1 * iu s 0) Z Z Z Z Z (by rw [List.take_length]; exact wI (by omega) (by omega)) Z Z ?_)) <;> (refine J Z ?_) <;> (refine Y Z ?_)) | refine ag.r_ ?_ | refine aw.r_ hX rfl ?_)
    exact fun h f => ⟨by rw [hN]; rfl, f.aS⟩
end Ev
end Go.HL
namespace Go.HL
open Go Go.Proofs
namespace Ev
open Em
set_option maxRecDepth 10000
set_option maxHeartbeats 8000000
variable {K : ai} {base : List (Nat × aE)}
theorem mask95 : Nat.lor (jm Tryz.f95) (Nat.sub (Nat.pow 2 1) 1) = 1029 := by kernel_rfl
theorem cT (hK : KN base K) (s : List Nat) (hb : cV s) (hl : s.length ≤ 1000000) (h : Heap) (w : Wf h) : Sp P K 95 [aR s] h (dE (.int .i64 (gC s)) h) := by
 have hx : 0 < s.length → dP s.length (aO s 0) 0 = s.getD 0 0 := fun h1 => dN hb h1
 have hbt : cV s.tail := fun x hx => hb x (List.mem_of_mem_tail hx)
 refine Sp.start (m := 1029) (n := 14) w (hK.none 95 rfl rfl _ _) Tryz.func95 rfl rfl mask95 rfl rfl ?_
 repeat' (first | refine aw.a_ ?_ | refine ag.s_ ?_ | (refine X 0 ?_; (refine J Z ?_) <;> (refine Y Z ?_)) | (refine X 1 ?_; (iterate 2 refine J Z ?_) <;> ((refine .cons (qc Z ?_ ?_)) <;> intro _) <;> (iterate 2 refine J Z ?_) <;> (first | (refine J Z ?_) | (refine .cons (qs (j := 0) hX Z Z Z Z (by omega) Z Z ?_)) <;> (rw [hx (by omega)])) <;> (first | (refine J Z ?_) | (refine .cons (qc Z ?_ ?_)) <;> intro _) <;> (refine J Z ?_) <;> (refine Y Z ?_)) | (refine X 2 ?_; (refine J Z ?_) <;> (refine Y Z ?_)) | (refine X 3 ?_; (refine J Z ?_) <;> (refine .cons (Ei (bs := s) (lo := 1) (hi := s.length) (r := s.tail) hX Z Z Z Z Z (by omega) (Nat.le_refl _) hb (by rw [List.take_length, List.drop_one]) Z Z ?_)) <;> (refine .cons (ao Z Z Z Z po Z Z (fun h f => bz hK s.tail hbt (by rw [List.length_tail]; omega) h f.wf) ?_)) <;> (refine J Z ?_) <;> (refine Y Z ?_)) | refine ag.r_ ?_ | refine aw.d_ ?_ | refine ag.t_ rfl ?_ | refine ag.f_ rfl ?_ | refine ag.k_ ?_ | refine aw.r_ hX rfl ?_)
 ·exact fun h f => ⟨by rw [gC, if_pos (.inl (by omega))]; rfl, f.aS⟩
 ·rename_i e
  have hne : s.head? ≠ some 114 := by
   cases s with
   | nil => simp
   | cons x s => exact fun e2 => e (by cases e2; rfl)
  exact fun h f => ⟨by rw [gC, if_pos (.inr hne)]; rfl, f.aS⟩
 ·rename_i e
  have e := Decidable.not_not.1 e
  have hne : s.head? = some 114 := by
   cases s with
   | nil => cases e
   | cons x s => exact congrArg some (Int.ofNat.inj e)
  exact fun h f => ⟨by rw [gC, if_neg (fun q => q.elim (by omega) (fun q => q hne))]; rfl, f.aS⟩
abbrev e7 : List (List ad) := [sB [], sB [], sB [], sB [], sB [], sB [], sB []]
theorem zA {ws : List (List Nat)} {j : Nat} (hj : j < 7) : (ws.map sB ++ e7)[j]? = some (sB (gW ws j)) := by
 by_cases h : j < ws.length
 ·rw [List.getElem?_append_left (by rw [List.length_map]; exact h)]
  exact aN [] h
 ·have e : gW ws j = [] := by simp [gW, List.getD, List.getElem?_eq_none (Nat.le_of_not_lt h)]
  rw [List.getElem?_append_right (by rw [List.length_map]; omega), e, List.length_map]
  have : ∀ q, q < 7 → e7[q]? = some (sB []) := by
   intro q hq
   obtain rfl | rfl | rfl | rfl | rfl | rfl | rfl : q = 0 ∨ q = 1 ∨ q = 2 ∨ q = 3 ∨ q = 4 ∨ q = 5 ∨ q = 6 := by omega
   all_goals rfl
  exact this _ (by omega)
theorem BG {ws : List (List Nat)} (hz : ¬ 0 < ws.length) {j : Nat} (hj : j < 7) : ([] ++ e7)[j]? = some (sB (gW ws j)) := by
 have e : ws = [] := List.eq_nil_of_length_eq_zero (by omega)
 subst e
 exact zA (ws := []) hj
theorem Dw {s : List Nat} (hb : cV s) (h0 : 0 < s.length) : (Int.ofNat (dP s.length (aO s 0) 0) = 114) ↔ jv s = true := by
 rw [dN hb h0]
 cases s with
 | nil => cases h0
 | cons x s =>
  unfold jv
  simp only [List.head?_cons, Option.some.injEq, decide_eq_true_eq]
  exact ⟨fun e => Int.ofNat.inj e, fun e => congrArg Int.ofNat e⟩
theorem Hd {s : List Nat} (hb : cV s) (h0 : 0 < s.length) (e : ¬ Int.ofNat (dP s.length (aO s 0) 0) = 114) : jv s = false := Bool.eq_false_iff.2 fun h => e ((Dw hb h0).2 h)
theorem Ff {s : List Nat} (h0 : ¬ 0 < s.length) : jv s = false := by
 cases s with
 | nil => rfl
 | cons x s => simp at h0
theorem E2 : ∀ b ∈ Jp, b < 256 := by decide
theorem xT : ∀ b ∈ pF, b < 256 := by decide
theorem mask53 : Nat.lor (jm Tryz.f53) (Nat.sub (Nat.pow 2 1) 1) = 3213900656524195122837751890753587006661659272853964950872061 := by kernel_rfl
theorem Fa (hK : KN base K) (v : ad) (ws : List (List Nat)) (hf : Fair ws) (h : Heap) (w : Wf h) (hs : (aH 9 1 v (ws.map sB)).holds h) : Sp P K 53 [v] h (dE (.agg (ez (gm ws))) h) := by
 have hrd := aH.rd hs
 have hln : dA v = some ws.length := by have := hrd.slice.len; simpa using this
 have hlw := hf.1
 have b0 := hf.at 0
 have b1 := hf.at 1
 have b2 := hf.at 2
 have b3 := hf.at 3
 have b4 := hf.at 4
 have b5 := hf.at 5
 by_cases h0 : 0 < ws.length
 all_goals
  refine Sp.start (m := 3213900656524195122837751890753587006661659272853964950872061) (n := 210) w (hK.none 53 rfl rfl _ _) Tryz.func53 rfl rfl mask53 rfl rfl ?_
  repeat' (first | refine aw.a_ ?_ | refine ag.s_ ?_ | (refine X 0 ?_; (refine J Z ?_) <;> (refine Y Z ?_)) | (refine X 1 ?_; (refine J Z ?_) <;> (refine .cons (ql hX Z Z Z Z Z Z (by assumption) Z Z ?_)) <;> (refine J Z ?_) <;> (refine Y Z ?_)) | (refine X 2 ?_; (iterate 2 refine J Z ?_) <;> (first | (refine .cons (Ka (rows := []) hX Z Z Z Z Z Z Z Z Z Z Z Z b9 Z Z Z Z (by simp) Z Z (.of hrd) hs.2 (by rw [List.length_map]; exact h0) Z (by rw [List.length_map]; omega) Z Z ?_)) <;> (intro kq) | (refine .cons (Lv hX Z Z Z Z Z Z Z Z Z Z Z Z b9 Z Z Z Z (.of (show (aH 9 1 v []).holds h from by have e : ws = [] := List.eq_nil_of_length_eq_zero (by omega); rw [e] at hs; exact hs)) Z Z ?_))) <;> (refine J Z ?_) <;> (first | (refine .cons (Gp [sB [], sB [], sB [], sB [], sB [], sB [], sB []] hX Z Z Z Z Z Z Z Z Z Z Z Z b9 Z Z Z Z Z (by simp) Z (by decide) (by repeat (first | exact .h | apply aI.t)) Z (by simp only [List.length_append, List.length_map, List.length_cons, List.length_nil]; omega) Z Z ?_)) <;> (intro kp) | ((refine w4.eF 1 (fun k => aH 9 1 (.slice k 0 0 (some 0)) []) Z (fun k => .own Z (by simp) Z) (fun _ => Z) Z fun k => ?_); (refine .cons (Gp [sB [], sB [], sB [], sB [], sB [], sB [], sB []] hX Z Z Z Z Z Z Z Z Z Z Z Z b9 Z Z Z Z Z (by simp) Z (by decide) (by repeat (first | exact .h | apply aI.t)) Z (by simp) Z Z ?_)) <;> intro kp)) <;> (refine J Z ?_) <;> (refine Y Z ?_)) | (refine ag.draw (id := 3) ax [0, 1, 2, 3, 4, 5, 6, 7, 8, 9, 10, 11, 12, 13, 14, 15, 16, 17, 18, 19] #[0, 1, 3, 0, 8, 24, 0, 64, 192, 0, 512, 1536, 0, 4096, 12288, 7, 32831, 98815, 233471, 524287] (by kernel_rfl) (by kernel_rfl) (by kernel_rfl) ?_; (refine .cq hX rfl rfl rfl ?_) <;> ((refine .cons rfl (fQ (r := sB (gW ws 0)) (j := 0) hX rfl rfl rfl rfl rfl (by repeat (first | exact .h | apply aI.t)) (by first | exact zA (by decide) | exact BG h0 (by decide)) rfl rfl rfl ?_)) <;> refine ⟨_, .comp rfl, ?_⟩) <;> (iterate 2 refine .cq hX rfl rfl rfl ?_) <;> ((refine .cons rfl (fQ (r := sB (gW ws 1)) (j := 1) hX rfl rfl rfl rfl rfl (by repeat (first | exact .h | apply aI.t)) (by first | exact zA (by decide) | exact BG h0 (by decide)) rfl rfl rfl ?_)) <;> refine ⟨_, .comp rfl, ?_⟩) <;> (iterate 2 refine .cq hX rfl rfl rfl ?_) <;> ((refine .cons rfl (fQ (r := sB (gW ws 2)) (j := 2) hX rfl rfl rfl rfl rfl (by repeat (first | exact .h | apply aI.t)) (by first | exact zA (by decide) | exact BG h0 (by decide)) rfl rfl rfl ?_)) <;> refine ⟨_, .comp rfl, ?_⟩) <;> (iterate 2 refine .cq hX rfl rfl rfl ?_) <;> ((refine .cons rfl (fQ (r := sB (gW ws 3)) (j := 3) hX rfl rfl rfl rfl rfl (by repeat (first | exact .h | apply aI.t)) (by first | exact zA (by decide) | exact BG h0 (by decide)) rfl rfl rfl ?_)) <;> refine ⟨_, .comp rfl, ?_⟩) <;> (iterate 2 refine .cq hX rfl rfl rfl ?_) <;> ((refine .cons rfl (fQ (r := sB (gW ws 4)) (j := 4) hX rfl rfl rfl rfl rfl (by repeat (first | exact .h | apply aI.t)) (by first | exact zA (by decide) | exact BG h0 (by decide)) rfl rfl rfl ?_)) <;> refine ⟨_, .comp rfl, ?_⟩) <;> (iterate 6 refine .cq hX rfl rfl rfl ?_) <;> (refine .nil ⟨?_, .intro rfl ?_⟩ <;> (repeat' (first | exact trivial | exact .inl rfl | refine ⟨?_, ?_⟩)))) | (refine X 4 ?_; (iterate 3 refine J Z ?_) <;> (refine Y Z ?_)) | (refine X 5 ?_; (refine J Z ?_) <;> ((refine .cons (fk b0.1 lA Z Z Z Z Z ?_ ?_)) <;> (intro _)) <;> (refine J Z ?_) <;> (refine Y Z ?_)) | (refine X 6 ?_; (refine J Z ?_) <;> (refine .cons (ao Z Z Z Z po Z Z (fun h f => bz hK (gW ws 1) b1.1 b1.2 h f.wf) ?_)) <;> (refine .cons (qw hX Z Z Z Z Z Z Z ?_)) <;> (refine J Z ?_) <;> (refine .cons (ao Z Z Z Z rW Z Z (fun h f => cT hK (gW ws 2) b2.1 b2.2 h f.wf) ?_)) <;> (refine J Z ?_) <;> (refine .cons (ao Z Z Z Z rW Z Z (fun h f => cT hK (gW ws 4) b4.1 b4.2 h f.wf) ?_)) <;> (iterate 2 refine J Z ?_) <;> (refine Y Z ?_)) | (refine X 7 ?_; (refine J Z ?_) <;> ((refine .cons (fk b0.1 sa Z Z Z Z Z ?_ ?_)) <;> (intro _)) <;> (refine J Z ?_) <;> (refine Y Z ?_)) | (refine ag.draw (id := 8) ax [0, 2, 5, 7, 8, 9, 1, 3, 4, 6, 10, 11, 12] #[0, 1, 0, 7, 15, 0, 47, 0, 128, 384, 1007, 2047, 4095] (by kernel_rfl) (by kernel_rfl) (by kernel_rfl) ?_; (iterate 4 refine .cq hX rfl rfl rfl ?_) <;> ((refine .cons rfl (jh (j := 5) hX rfl rfl rfl rfl rfl (by simp only [List.length_append, List.length_map, List.length_cons, List.length_nil]; omega) rfl rfl ?_)) <;> refine ⟨_, .comp rfl, ?_⟩) <;> ((refine gp.Cn (k := kp) (off := 0) (j := 5) hX rfl rfl rfl rfl rfl rfl rfl rfl (by repeat (first | exact .h | apply aI.t)) (by first | exact zA (by decide) | exact BG h0 (by decide)) (suB rfl) rfl rfl ?_)) <;> ((refine .cons rfl (ao rfl rfl rfl rfl M7 rfl rfl (fun h f => vo hK (gW ws 1) b1.1 h f.wf) ?_)) <;> refine ⟨_, .comp rfl, ?_⟩) <;> ((refine .cons rfl (ao rfl rfl rfl rfl po rfl rfl (fun h f => bz hK (gW ws 3) b3.1 b3.2 h f.wf) ?_)) <;> refine ⟨_, .comp rfl, ?_⟩) <;> ((refine .cons rfl (qw hX rfl rfl rfl rfl rfl rfl rfl ?_)) <;> refine ⟨_, .comp rfl, ?_⟩) <;> ((refine .cons rfl (ao rfl rfl rfl rfl rW rfl rfl (fun h f => cT hK (gW ws 4) b4.1 b4.2 h f.wf) ?_)) <;> refine ⟨_, .comp rfl, ?_⟩) <;> ((refine .cons rfl (ao rfl rfl rfl rfl rW rfl rfl (fun h f => cT hK (gW ws 5) b5.1 b5.2 h f.wf) ?_)) <;> refine ⟨_, .comp rfl, ?_⟩) <;> (iterate 2 refine .cq hX rfl rfl rfl ?_) <;> (refine .nil ⟨?_, .intro rfl ?_⟩ <;> (repeat' (first | exact trivial | exact .inl rfl | exact .inr (.inr ⟨_, _, _, rfl, (by repeat (first | exact .h | apply aI.t)), (by repeat (first | exact .h | apply aI.t))⟩) | refine ⟨?_, ?_⟩)))) | (refine X 9 ?_; (refine J Z ?_) <;> ((refine .cons (fk b0.1 pH Z Z Z Z Z ?_ ?_)) <;> (intro _)) <;> (refine J Z ?_) <;> (refine Y Z ?_)) | (refine X 10 ?_; (refine J Z ?_) <;> (refine .cons (ao Z Z Z Z po Z Z (fun h f => bz hK (gW ws 1) b1.1 b1.2 h f.wf) ?_)) <;> (refine .cons (qw hX Z Z Z Z Z Z Z ?_)) <;> (iterate 2 refine J Z ?_) <;> (refine Y Z ?_)) | (refine X 11 ?_; (refine J Z ?_) <;> ((refine .cons (fk b0.1 lz Z Z Z Z Z ?_ ?_)) <;> (intro _)) <;> (refine J Z ?_) <;> (refine Y Z ?_)) | (refine X 12 ?_; (refine J Z ?_) <;> (refine .cons (ao Z Z Z Z po Z Z (fun h f => bz hK (gW ws 1) b1.1 b1.2 h f.wf) ?_)) <;> (refine .cons (qw hX Z Z Z Z Z Z Z ?_)) <;> (refine J Z ?_) <;> (refine .cons (ao Z Z Z Z rW Z Z (fun h f => cT hK (gW ws 3) b3.1 b3.2 h f.wf) ?_)) <;> (iterate 2 refine J Z ?_) <;> (refine Y Z ?_)) | (refine X 13 ?_; (refine J Z ?_) <;> ((refine .cons (fk b0.1 wQ Z Z Z Z Z ?_ ?_)) <;> (intro _)) <;> (refine J Z ?_) <;> (refine Y Z ?_)) | (refine X 14 ?_; (refine J Z ?_) <;> (refine .cons (ao Z Z Z Z po Z Z (fun h f => bz hK (gW ws 1) b1.1 b1.2 h f.wf) ?_)) <;> (iterate 2 refine J Z ?_) <;> (refine Y Z ?_)) | (refine X 15 ?_; (refine J Z ?_) <;> ((refine .cons (fk b0.1 s9 Z Z Z Z Z ?_ ?_)) <;> (intro _)) <;> (refine J Z ?_) <;> (refine Y Z ?_)) | (refine X 16 ?_; (refine J Z ?_) <;> (refine .cons (ao Z Z Z Z rW Z Z (fun h f => cT hK (gW ws 1) b1.1 b1.2 h f.wf) ?_)) <;> (refine J Z ?_) <;> (refine .cons (ao Z Z Z Z po Z Z (fun h f => bz hK (gW ws 2) b2.1 b2.2 h f.wf) ?_)) <;> (refine J Z ?_) <;> (refine .cons (ao Z Z Z Z po Z Z (fun h f => bz hK (gW ws 4) b4.1 b4.2 h f.wf) ?_)) <;> (iterate 2 refine J Z ?_) <;> (refine Y Z ?_)) | (refine X 17 ?_; (refine J Z ?_) <;> ((refine .cons (fk b0.1 E2 Z Z Z Z Z ?_ ?_)) <;> (intro _)) <;> (iterate 2 refine J Z ?_) <;> (first | (refine J Z ?_) | (refine .cons (qc Z ?_ ?_)) <;> (intro hz; first | (have hz' : ws.length < 3 := by omega) | (have hz' : ¬ ws.length < 3 := by omega))) <;> (iterate 2 refine J Z ?_) <;> (refine Y Z ?_)) | (refine X 18 ?_; (iterate 2 refine J Z ?_) <;> (refine Y Z ?_)) | refine ag.r_ ?_ | refine aw.d_ ?_ | refine aw.f_ ?_ | refine ag.t_ rfl ?_ | refine ag.f_ rfl ?_ | refine ag.k_ ?_ | refine ag.b_ ?_ | refine aw.b_ ?_ | refine aw.r_ hX rfl ?_)
  any_goals (exact fun h f => ⟨by simp only [gm, *, true_and, and_true, true_or, or_true, or_self, false_or, or_false, false_and, and_false, if_true, if_false, reduceCtorEq, Nat.reduceEqDiff, Bool.false_eq_true]; rfl, f.aS.bx .nil⟩)
  all_goals first | (exfalso; omega) | skip
 repeat' (first | refine aw.a_ ?_ | refine ag.s_ ?_ | (refine X 19 ?_; (refine J Z ?_) <;> (refine .cons (ao Z Z Z Z rW Z Z (fun h f => cT hK (gW ws 0) b0.1 b0.2 h f.wf) ?_)) <;> (iterate 2 refine J Z ?_) <;> (refine Y Z ?_)) | (refine X 20 ?_; (iterate 2 refine J Z ?_) <;> ((refine w4.eF 9 (fun k => aH 9 1 (.slice k 0 4 (some 4)) (ov.map sB)) Z (fun k => ew ov Z) (fun _ => Z) Z fun k => ?_); (refine .cons (ao Z Z Z Z KK Z Z (fun h f => rL hK (.slice k 0 4 (some 4)) ov (gW ws 2) (by decide) y6 b2.1 h f.wf (aH.rd (f.pick .h))) ?_))) <;> (refine J Z ?_) <;> (refine Y Z ?_)) | (refine X 21 ?_; (refine J Z ?_) <;> (refine .cons (ao Z Z Z Z Jc Z Z (fun h f => gX hK 0 (by decide) h f.wf) ?_)) <;> (refine .cons (ao Z Z Z Z Jc Z Z (fun h f => gX hK 1 (by decide) h f.wf) ?_)) <;> (refine .cons (ao Z Z Z Z Jc Z Z (fun h f => gX hK 2 (by decide) h f.wf) ?_)) <;> (refine J Z ?_) <;> ((refine w4.eF 10 (fun k => aH 9 1 (.slice k 0 3 (some 3)) (uT.map sB)) Z (fun k => ew uT Z) (fun _ => Z) Z fun k => ?_); (refine .cons (ao Z Z Z Z KK Z Z (fun h f => rL hK (.slice k 0 3 (some 3)) uT (gW ws 2) (by decide) G3 b2.1 h f.wf (aH.rd (f.pick .h))) ?_))) <;> (refine J Z ?_) <;> (refine Y Z ?_)) | (refine X 23 ?_; (refine J Z ?_) <;> ((refine .cons (qc Z ?_ ?_)) <;> intro _) <;> (refine J Z ?_) <;> (refine Y Z ?_)) | (refine X 24 ?_; (iterate 5 refine J Z ?_) <;> (refine Y Z ?_)) | (refine X 25 ?_; (refine J Z ?_) <;> ((refine .cons (fk b2.1 tP Z Z Z Z Z ?_ ?_)) <;> (intro _)) <;> (refine J Z ?_) <;> (refine Y Z ?_)) | (refine X 26 ?_; (refine J Z ?_) <;> (refine .cons (ao Z Z Z Z po Z Z (fun h f => bz hK (gW ws 3) b3.1 b3.2 h f.wf) ?_)) <;> (refine .cons (qw hX Z Z Z Z Z Z Z ?_)) <;> (iterate 4 refine J Z ?_) <;> (refine Y Z ?_)) | (refine X 27 ?_; (refine J Z ?_) <;> ((refine .cons (fk b2.1 lA Z Z Z Z Z ?_ ?_)) <;> (intro _)) <;> (refine J Z ?_) <;> (refine Y Z ?_)) | (refine X 28 ?_; (refine J Z ?_) <;> (refine .cons (ao Z Z Z Z po Z Z (fun h f => bz hK (gW ws 3) b3.1 b3.2 h f.wf) ?_)) <;> (refine .cons (qw hX Z Z Z Z Z Z Z ?_)) <;> (refine J Z ?_) <;> (refine .cons (ao Z Z Z Z rW Z Z (fun h f => cT hK (gW ws 4) b4.1 b4.2 h f.wf) ?_)) <;> (iterate 6 refine J Z ?_) <;> (refine Y Z ?_)) | (refine X 29 ?_; (refine J Z ?_) <;> ((refine .cons (fk b2.1 xT Z Z Z Z Z ?_ ?_)) <;> (intro _)) <;> (refine J Z ?_) <;> (refine Y Z ?_)) | (refine ag.draw (id := 30) ax [0, 2, 4, 5, 6, 9, 1, 3, 7, 8, 10, 11, 12, 13, 14, 15, 16] #[0, 1, 0, 7, 0, 16, 48, 127, 255, 0, 767, 1791, 3839, 7935, 16127, 32767, 65535] (by kernel_rfl) (by kernel_rfl) (by kernel_rfl) ?_; (iterate 3 refine .cq hX rfl rfl rfl ?_) <;> ((refine .cons rfl (jh (j := 5) hX rfl rfl rfl rfl rfl (by simp only [List.length_append, List.length_map, List.length_cons, List.length_nil]; omega) rfl rfl ?_)) <;> refine ⟨_, .comp rfl, ?_⟩) <;> ((refine gp.Cn (k := kp) (off := 0) (j := 5) hX rfl rfl rfl rfl rfl rfl rfl rfl (by repeat (first | exact .h | apply aI.t)) (by first | exact zA (by decide) | exact BG h0 (by decide)) (suB rfl) rfl rfl ?_)) <;> (refine .cq hX rfl rfl rfl ?_) <;> ((refine .cons rfl (ao rfl rfl rfl rfl M7 rfl rfl (fun h f => vo hK (gW ws 3) b3.1 h f.wf) ?_)) <;> refine ⟨_, .comp rfl, ?_⟩) <;> ((refine .cons rfl (ao rfl rfl rfl rfl rW rfl rfl (fun h f => cT hK (gW ws 4) b4.1 b4.2 h f.wf) ?_)) <;> refine ⟨_, .comp rfl, ?_⟩) <;> ((refine .cons rfl (ao rfl rfl rfl rfl po rfl rfl (fun h f => bz hK (gW ws 5) b5.1 b5.2 h f.wf) ?_)) <;> refine ⟨_, .comp rfl, ?_⟩) <;> ((refine .cons rfl (qw hX rfl rfl rfl rfl rfl rfl rfl ?_)) <;> refine ⟨_, .comp rfl, ?_⟩) <;> (iterate 7 refine .cq hX rfl rfl rfl ?_) <;> (refine .nil ⟨?_, .intro rfl ?_⟩ <;> (repeat' (first | exact trivial | exact .inl rfl | exact .inr (.inr ⟨_, _, _, rfl, (by repeat (first | exact .h | apply aI.t)), (by repeat (first | exact .h | apply aI.t))⟩) | refine ⟨?_, ?_⟩)))) | (refine X 31 ?_; (refine J Z ?_) <;> ((refine .cons (fk b2.1 lz Z Z Z Z Z ?_ ?_)) <;> (intro _)) <;> (refine J Z ?_) <;> (refine Y Z ?_)) | (refine X 32 ?_; (refine J Z ?_) <;> (refine .cons (ao Z Z Z Z po Z Z (fun h f => bz hK (gW ws 3) b3.1 b3.2 h f.wf) ?_)) <;> (refine .cons (qw hX Z Z Z Z Z Z Z ?_)) <;> (iterate 4 refine J Z ?_) <;> (refine Y Z ?_)) | (refine X 33 ?_; (refine J Z ?_) <;> ((refine .cons (qc Z ?_ ?_)) <;> intro _) <;> (refine J Z ?_) <;> (refine Y Z ?_)) | (refine X 34 ?_; (iterate 2 refine J Z ?_) <;> (refine .cons (ao Z Z Z Z rW Z Z (fun h f => cT hK (gW ws 3) b3.1 b3.2 h f.wf) ?_)) <;> (iterate 6 refine J Z ?_) <;> (refine Y Z ?_)) | (refine X 35 ?_; (refine J Z ?_) <;> ((refine .cons (ji 3 Z Z ?_ ?_)) <;> (intro _; first | (exfalso; omega) | skip)) <;> (iterate 3 refine J Z ?_) <;> (first | (refine J Z ?_) | (refine .cons (qc Z ?_ ?_)) <;> (intro hz; first | (have e5 : 0 < (gW ws 2).length := by omega) | (have e5 : jv (gW ws 2) = false := Ff (by omega)))) <;> (iterate 3 refine J Z ?_) <;> (first | (refine J Z ?_) | (refine .cons (qs (j := 0) hX Z Z Z Z (by omega) Z Z ?_))) <;> (first | (refine J Z ?_) | (refine .cons (qc Z ?_ ?_)) <;> (intro e; first | (have e6 := (Dw b2.1 (by omega)).1 e) | (have e6 := Hd b2.1 (by omega) e))) <;> (iterate 2 refine J Z ?_) <;> (refine Y Z ?_)) | (refine X 36 ?_; (refine J Z ?_) <;> (refine .cons (ao Z Z Z Z rW Z Z (fun h f => cT hK (gW ws 2) b2.1 b2.2 h f.wf) ?_)) <;> (iterate 4 refine J Z ?_) <;> (refine Y Z ?_)) | (refine X 37 ?_; (refine J Z ?_) <;> ((refine .cons (ji 3 Z Z ?_ ?_)) <;> (intro _; first | (exfalso; omega) | skip)) <;> (refine J Z ?_) <;> (refine Y Z ?_)) | (refine X 38 ?_; (refine J Z ?_) <;> (refine .cons (ao Z Z Z Z po Z Z (fun h f => bz hK (gW ws 2) b2.1 b2.2 h f.wf) ?_)) <;> (refine .cons (qw hX Z Z Z Z Z Z Z ?_)) <;> (iterate 4 refine J Z ?_) <;> (refine Y Z ?_)) | (refine X 22 ?_; (refine J Z ?_) <;> (refine .cons (ao Z Z Z Z rW Z Z (fun h f => cT hK (gW ws 2) b2.1 b2.2 h f.wf) ?_)) <;> (refine J Z ?_) <;> ((refine .cons (gq Z Z Z Z Nx Z Z (fun h f => yV hK h f.wf) ?_)) <;> (rintro v C' ⟨kb, rfl, rfl⟩)) <;> (refine .cons (ao Z Z Z Z KK Z Z (fun h f => rL hK (.slice kb 0 20 none) bT (gW ws 3) (by decide) I3 b3.1 h f.wf (aH.rd (f.pick .h))) ?_)) <;> (refine .cons (Ls Z Z Z Z Z Z Z ?_)) <;> (refine J Z ?_) <;> (refine .cons (ao Z Z Z Z rW Z Z (fun h f => cT hK (gW ws 4) b4.1 b4.2 h f.wf) ?_)) <;> (iterate 8 refine J Z ?_) <;> (refine Y Z ?_)) | (refine X 39 ?_; (iterate 2 refine J Z ?_) <;> (refine Y Z ?_)) | refine ag.r_ ?_ | refine ag.t_ rfl ?_ | refine ag.f_ rfl ?_ | refine ag.b_ ?_ | refine aw.b_ ?_ | refine aw.r_ hX rfl ?_)
 any_goals (exact fun h f => ⟨by simp only [gm, *, true_and, and_true, true_or, or_true, or_self, false_or, or_false, false_and, and_false, if_true, if_false, reduceCtorEq, Nat.reduceEqDiff, Bool.false_eq_true]; rfl, f.aS.bx .nil⟩)
end Ev
end Go.HL
namespace Go.HL
open Go Go.Proofs
namespace Ev
open Em
set_option maxRecDepth 10000
set_option maxHeartbeats 8000000
variable {K : ai} {base : List (Nat × aE)}
abbrev e4 : List (List ad) := [sB [], sB [], sB [], sB []]
theorem ya {ws : List (List Nat)} {j : Nat} (hj : j < 4) : (ws.map sB ++ e4)[j]? = some (sB (gW ws j)) := by
 by_cases h : j < ws.length
 ·rw [List.getElem?_append_left (by rw [List.length_map]; exact h)]
  exact aN [] h
 ·have e : gW ws j = [] := by simp [gW, List.getD, List.getElem?_eq_none (Nat.le_of_not_lt h)]
  rw [List.getElem?_append_right (by rw [List.length_map]; omega), e, List.length_map]
  have : ∀ q, q < 4 → e4[q]? = some (sB []) := by
   intro q hq
   obtain rfl | rfl | rfl | rfl : q = 0 ∨ q = 1 ∨ q = 2 ∨ q = 3 := by omega
   all_goals rfl
  exact this _ (by omega)
def mD (x : bI) : Prop := -2147483648 ≤ x.cL ∧ x.cL ≤ 2147483647
theorem mD.ite {p : Prop} [Decidable p] {a b : bI} (ha : mD a) (hb : mD b) : mD (if p then a else b) := by split <;> assumption
theorem mD.zero {x : bI} (h : x.cL = 0) : mD x := by unfold mD; rw [h]; omega
theorem mD.i32 {x : bI} {z : Int} (h : x.cL = Ev.i32 z) : mD x := by unfold mD; rw [h]; exact xp z
theorem H6 (l : List (List Nat)) : mD (gm l) := by
 unfold gm
 repeat' refine mD.ite ?_ ?_
 all_goals first | exact .zero rfl | exact .i32 rfl
theorem Cg {c : ba} {n i : Nat} {t : List Nat} (ht : tn t) (g : Good c n) : Good (dF i t c) (n + 1) := by
 have h := g.len
 have hc := rO ht 32
 unfold dF
 split
 ·exact ⟨hc 1, g.eW, g.dX, by simp only; omega, g.each⟩
 split
 ·exact ⟨g.name, fX g.eW (hc 1), g.dX, by simp only [List.length_append, List.length_singleton]; omega, g.each⟩
 split
 ·exact ⟨g.name, g.eW, fX g.dX (hc 1), by simp only [List.length_append, List.length_singleton]; omega, g.each⟩
 split
 ·exact ⟨g.name, g.eW, g.dX, by simp only [List.length_append, List.length_singleton]; omega, fX g.each (H6 _)⟩
 ·exact ⟨g.name, g.eW, g.dX, by omega, g.each⟩
theorem Cf {i : Nat} {t : List Nat} {c : ba} (h0 : i = 0) : dF i t c = { c with name := gW (cutAt 32 t) 1, «local» := fV (gW (cutAt 32 t) 3) } := by
 unfold dF; rw [if_pos h0]
theorem EV {i : Nat} {t : List Nat} {c : ba} (h0 : i ≠ 0) (hw : gW (cutAt 32 t) 0 = cu) : dF i t c = { c with params := c.params ++ [(gW (cutAt 32 t) 1, true)] } := by
 unfold dF; rw [if_neg h0, if_pos (.inl hw), decide_eq_true hw]
theorem ET {i : Nat} {t : List Nat} {c : ba} (h0 : i ≠ 0) (hb : gW (cutAt 32 t) 0 ≠ cu) (hw : gW (cutAt 32 t) 0 = ou) : dF i t c = { c with params := c.params ++ [(gW (cutAt 32 t) 1, false)] } := by
 unfold dF; rw [if_neg h0, if_pos (.inr hw), decide_eq_false hb]
theorem GY {i : Nat} {t : List Nat} {c : ba} (h0 : i ≠ 0) (hb : gW (cutAt 32 t) 0 ≠ cu) (hi : gW (cutAt 32 t) 0 ≠ ou) (hw : gW (cutAt 32 t) 0 = gT) : dF i t c = { c with shared := c.shared ++ [(gW (cutAt 32 t) 1, fV (gW (cutAt 32 t) 2))] } := by
 unfold dF; rw [if_neg h0, if_neg (fun q => q.elim hb hi), if_pos hw]
theorem EU {i : Nat} {t : List Nat} {c : ba} (h0 : i ≠ 0) (hb : gW (cutAt 32 t) 0 ≠ cu) (hi : gW (cutAt 32 t) 0 ≠ ou) (hw : gW (cutAt 32 t) 0 ≠ gT) (et : t ≠ []) : dF i t c = { c with ay := c.ay ++ [gm ((cutAt 32 t).drop 1)] } := by
 unfold dF; rw [if_neg h0, if_neg (fun q => q.elim hb hi), if_neg hw, if_pos et]
theorem ES {i : Nat} {t : List Nat} {c : ba} (h0 : i ≠ 0) (hb : gW (cutAt 32 t) 0 ≠ cu) (hi : gW (cutAt 32 t) 0 ≠ ou) (hw : gW (cutAt 32 t) 0 ≠ gT) (et : t = []) : dF i t c = c := by
 unfold dF; rw [if_neg h0, if_neg (fun q => q.elim hb hi), if_neg hw, if_neg (fun h => h et)]
theorem yi (hK : KN base K) (c : ba) (hc : c.Ok) (hv : c.iw.cF = true) (pv sv iv : ad) (h : Heap) (w : Wf h) (hr : (ke c.iw pv sv iv).holds h) : Sp P K 12 [cv c.iw pv sv iv] h (dE (.tuple [aR (eU c.zb), i64 0]) h) := by
 have hV := CZ hc hv
 rw [← y0 hv]
 exact zE hK c.zb (lB hV).1 pv sv iv h w (Fl (w5 hV)) (Js hv hr)
theorem mask20 : Nat.lor (jm Tryz.f20) (Nat.sub (Nat.pow 2 1) 1) = 324518554262891942433617294164989 := by kernel_rfl
theorem BM (hK : KN base K) (s : List Nat) (hb : cV s) (hl : s.length ≤ 20000) (h : Heap) (w : Wf h) : Sp P K 20 [aR s] h (Tr (MB s) h) := by
 have hlen := lv 10 s
 have hA0 : ∀ c, V c = true → eU c = s → iT 0 (cutAt 10 s) xh = JC c := fun c hv ht => by rw [← ht]; exact (qP (qF hv)).2
 have hlw : ∀ j, cV (gW (cutAt 10 s) j) ∧ (gW (cutAt 10 s) j).length ≤ 20000 := fun j => by
  have := rO (t := s) ⟨hb, by omega⟩ 10 j
  refine ⟨this.1, ?_⟩
  by_cases hj : j < (cutAt 10 s).length
  ·exact Nat.le_trans (iZ 10 s _ (aY [] hj)).1 hl
  ·have : gW (cutAt 10 s) j = [] := by simp [gW, List.getD, List.getElem?_eq_none (Nat.le_of_not_lt hj)]
   rw [this]; exact Nat.zero_le _
 refine Sp.start (m := 324518554262891942433617294164989) (n := 111) w (hK.none 20 rfl rfl _ _) Tryz.func20 rfl rfl mask20 rfl rfl ?_
 repeat' (first | refine aw.a_ ?_ | refine ag.s_ ?_ | (refine X 0 ?_; (iterate 2 refine J Z ?_) <;> (refine Y Z ?_)) | (refine X 1 ?_; (refine J Z ?_) <;> ((refine .cons (gq Z Z Z Z KQ Z Z (fun h f => lK hK s 10 hb (by decide) hl h f.wf) ?_)) <;> (rintro v C' ⟨ks, rfl, rfl⟩)) <;> (refine J Z ?_) <;> (refine Y Z ?_)) | (refine X 2 ?_; (refine J Z ?_) <;> (refine Y Z ?_)) | (refine X 3 ?_; (refine J Z ?_) <;> (refine Y Z ?_)) | refine ag.b_ ?_)
 generalize hls : cutAt 10 s = l at hlen hA0 hlw ⊢
 refine ag.nil 70 2 ?_
 refine ag.nil 72 2 ?_
 refine ag.nil 74 8 ?_
 refine ag.loop (ι := LA) (fun a => [(6, .ext (i64 a.i)), (5, .ptr 1 0), (4, .ext (.slice ks 0 l.length none)), (3, .ext (i64 0)), (2, .ptr 0 0), (0, .ext (aR s))]) (fun a => [.own JW 26 false, .own [aR a.c.name, a.pv, a.sv, .int .i64 a.c.local, a.iv] 26 false]) (fun a => [aH 74 8 a.iv (a.c.ay.map ez), aH 72 2 a.sv (a.c.shared.map zJ), aH 70 2 a.pv (a.c.params.map sq), aH 9 1 (.slice ks 0 l.length none) (l.map sB)]) (fun a => a.i ≤ l.length ∧ Good a.c a.i ∧ iT 0 l xh = iT a.i (l.drop a.i) a.c) (fun a => l.length - a.i) ⟨0, xh, .aD, .aD, .aD⟩ ⟨⟨rfl, rfl, rfl, rfl, rfl, rfl, trivial⟩, ⟨_, rfl⟩, ⟨_, .cons .h (.cons .h (.cons .h (.cons .h .nil)))⟩⟩ ⟨Nat.zero_le _, zW, by rw [List.drop_zero]⟩ (fun _ => rfl) (fun _ => rfl) (fun _ => rfl) ?_
 rintro ⟨i, c, pv, sv, iv⟩ ⟨hi, g, hA⟩ next
 simp only at hi g hA next ⊢
 repeat' (first | refine aw.a_ ?_ | refine ag.s_ ?_ | (refine X 4 ?_; (iterate 3 refine J Z ?_) <;> ((refine .cons (qc Z ?_ ?_)) <;> intro _) <;> (refine Y Z ?_)) | refine ag.t_ rfl ?_ | refine ag.f_ rfl ?_ | refine ag.k_ ?_ | refine ag.b_ ?_ | refine ag.e_ ?_ | refine aw.e_ ?_ | refine aw.c_ ?_)
 ·have hil : i < l.length := by omega
  have hgl := g.len
  have hdr : l.drop i = gW l i :: l.drop (i + 1) := by rw [List.drop_eq_getElem_cons hil]; simp [gW, List.getD, List.getElem?_eq_getElem hil]
  rw [hdr, iT] at hA
  refine ag.fact (p := dA iv = some c.ay.length) (fun h f => by have := (aH.rd (f.pick .h)).slice.len; simpa using this) fun hli => ?_
  refine ag.fact (p := dA sv = some c.shared.length) (fun h f => by have := (aH.rd (f.pick (.t .h))).slice.len; simpa using this) fun hls2 => ?_
  refine ag.fact (p := dA pv = some c.params.length) (fun h f => by have := (aH.rd (f.pick (.t (.t .h)))).slice.len; simpa using this) fun hlp => ?_
  have ht := hlw i
  have hwf := AK ht.1 (Nat.le_trans ht.2 (by decide)) 32
  generalize hgt : gW l i = t at hA ht hwf ⊢
  have hk0 : 1 ≤ (cutAt 32 t).length := by have := ny 32 t; cases h : cutAt 32 t <;> simp_all
  have hws := fun j => rO (t := t) ⟨ht.1, by omega⟩ 32 j
  have gn := Cg (i := i) (n := i) (c := c) (t := t) ⟨ht.1, by omega⟩ g
  have f2 := hwf.at 2
  have f3 := hwf.at 3
  have hwl := hwf.1
  repeat' (first | refine aw.a_ ?_ | refine ag.s_ ?_ | (refine X 6 ?_; (iterate 2 refine J Z ?_) <;> (refine .cons (fQ (r := sB t) (j := i) hX Z Z Z Z Z (.t (.t (.t .h))) (y9 [] hil hgt) Z Z Z ?_)) <;> (refine J Z ?_) <;> ((refine .cons (gq Z Z Z Z KQ Z Z (fun h f => lK hK t 32 ht.1 (by decide) ht.2 h f.wf) ?_)) <;> (rintro v C' ⟨kw, rfl, rfl⟩)) <;> (refine J Z ?_) <;> ((refine w4.pI Z ?_); (refine .cons (Gp [sB [], sB [], sB [], sB []] hX Z Z Z Z Z Z Z Z Z Z Z Z b9 Z Z Z Z Z (by simp) Z (by decide) (by repeat (first | exact .h | apply aI.t)) Z (by simp only [List.length_append, List.length_map, List.length_cons, List.length_nil]; omega) Z Z ?_)) <;> intro kp) <;> (refine J Z ?_) <;> (refine Y Z ?_)) | refine ag.b_ ?_)
  have hk1 : (cutAt 32 t).length ≤ 20001 := by have := lv 32 t; omega
  repeat' (first | refine aw.a_ ?_ | refine ag.s_ ?_ | (refine X 7 ?_; (refine J Z ?_) <;> ((refine .cons (ji 0 Z Z ?_ ?_)) <;> (intro _)) <;> (refine J Z ?_) <;> (refine Y Z ?_)) | (refine ag.draw (id := 8) ax [0, 1, 2, 3, 4, 5, 7, 6, 8, 9, 10] #[0, 1, 3, 0, 8, 24, 56, 7, 255, 511, 1023] (by kernel_rfl) (by kernel_rfl) (by kernel_rfl) ?_; (refine .cq hX rfl rfl rfl ?_) <;> ((refine .cons rfl (jh (k := kp) (j := 1) hX rfl rfl rfl rfl rfl (by simp only [List.length_append, List.length_map, List.length_cons, List.length_nil]; omega) rfl rfl ?_)) <;> refine ⟨_, .comp rfl, ?_⟩) <;> ((refine gp.Cn (k := kp) (off := 0) (j := 1) hX rfl rfl rfl rfl rfl rfl rfl rfl (by repeat (first | exact .h | apply aI.t)) (ya (by decide)) (suB rfl) rfl rfl ?_)) <;> (refine .cq hX rfl rfl rfl ?_) <;> ((refine .cons rfl (jh (k := kp) (j := 3) hX rfl rfl rfl rfl rfl (by simp only [List.length_append, List.length_map, List.length_cons, List.length_nil]; omega) rfl rfl ?_)) <;> refine ⟨_, .comp rfl, ?_⟩) <;> ((refine gp.Cn (k := kp) (off := 0) (j := 3) hX rfl rfl rfl rfl rfl rfl rfl rfl (by repeat (first | exact .h | apply aI.t)) (ya (by decide)) (suB rfl) rfl rfl ?_)) <;> (refine .cq hX rfl rfl rfl ?_) <;> ((refine .cons rfl (ao rfl rfl rfl rfl po rfl rfl (fun h f => bz hK (gW (cutAt 32 t) 3) f3.1 f3.2 h f.wf) ?_)) <;> refine ⟨_, .comp rfl, ?_⟩) <;> (iterate 3 refine .cq hX rfl rfl rfl ?_) <;> (refine .nil ⟨?_, .intro rfl ?_⟩ <;> (repeat' (first | exact trivial | exact .inl rfl | exact .inr (.inr ⟨_, _, _, rfl, (by repeat (first | exact .h | apply aI.t)), (by repeat (first | exact .h | apply aI.t))⟩) | refine ⟨?_, ?_⟩)))) | (refine X 9 ?_; (refine J Z ?_) <;> (refine .cons (fQ (r := sB (gW (cutAt 32 t) 0)) (j := 0) hX Z Z Z Z Z (by repeat (first | exact .h | apply aI.t)) (ya (by decide)) Z Z Z ?_)) <;> (refine J Z ?_) <;> ((refine .cons (fk (hws 0).1 mJ Z Z Z Z Z ?_ ?_)) <;> (intro e; first | (exfalso; exact (by assumption : gW (cutAt 32 t) 0 ≠ cu) e) | (exfalso; exact e (by assumption)) | skip)) <;> (iterate 2 refine J Z ?_) <;> (first | (refine J Z ?_) | (refine .cons (fQ (r := sB (gW (cutAt 32 t) 0)) (j := 0) hX Z Z Z Z Z (by repeat (first | exact .h | apply aI.t)) (ya (by decide)) Z Z Z ?_))) <;> (refine J Z ?_) <;> (first | (refine J Z ?_) | (refine .cons (fk (hws 0).1 zg Z Z Z Z Z ?_ ?_)) <;> (intro _)) <;> (iterate 2 refine J Z ?_) <;> (refine Y Z ?_)) | (refine ag.draw (id := 10) ax [0, 1, 2, 3, 4, 5, 6, 7, 8, 9, 10, 11, 12, 13] #[0, 1, 0, 4, 12, 0, 32, 96, 224, 508, 1020, 2047, 4095, 8191] (by kernel_rfl) (by kernel_rfl) (by kernel_rfl) ?_; (refine .cq hX rfl rfl rfl ?_) <;> ((refine .cons rfl (q hX rfl ?_)) <;> refine ⟨_, .fw hX.ax rfl rfl rfl rfl rfl rfl rfl rfl (beL (by assumption)) rfl rfl rfl, ?_⟩) <;> (refine .cq hX rfl rfl rfl ?_) <;> ((refine .cons rfl (jh (k := kp) (j := 1) hX rfl rfl rfl rfl rfl (by simp only [List.length_append, List.length_map, List.length_cons, List.length_nil]; omega) rfl rfl ?_)) <;> refine ⟨_, .comp rfl, ?_⟩) <;> ((refine gp.Cn (k := kp) (off := 0) (j := 1) hX rfl rfl rfl rfl rfl rfl rfl rfl (by repeat (first | exact .h | apply aI.t)) (ya (by decide)) (suB rfl) rfl rfl ?_)) <;> (refine .cq hX rfl rfl rfl ?_) <;> ((refine .cons rfl (jh (k := kp) (j := 0) hX rfl rfl rfl rfl rfl (by simp only [List.length_append, List.length_map, List.length_cons, List.length_nil]; omega) rfl rfl ?_)) <;> refine ⟨_, .comp rfl, ?_⟩) <;> ((refine gp.Cn (k := kp) (off := 0) (j := 0) hX rfl rfl rfl rfl rfl rfl rfl rfl (by repeat (first | exact .h | apply aI.t)) (ya (by decide)) (suB rfl) rfl rfl ?_)) <;> ((refine .cons rfl (fk (hws 0).1 mJ rfl rfl rfl rfl rfl ?_ ?_)) <;> ((intro e; first | (exfalso; exact (by assumption : gW (cutAt 32 t) 0 ≠ cu) e) | (exfalso; exact e (by assumption)) | skip)) <;> refine ⟨_, .comp rfl, ?_⟩) <;> (iterate 2 refine .cq hX rfl rfl rfl ?_) <;> (((refine gp.pI rfl ?_); (refine .cons rfl (sZ hX rfl rfl rfl rfl rfl rfl rfl rfl rfl rfl rfl rfl NZ rfl rfl rfl rfl rfl (by repeat (first | exact .h | apply aI.t)) rfl (by simp only [List.length_map]; omega) rfl rfl ?_)) <;> intro kq <;> refine ⟨_, .comp rfl, ?_⟩)) <;> (iterate 2 refine .cq hX rfl rfl rfl ?_) <;> (refine .nil ⟨?_, .intro rfl ?_⟩ <;> (repeat' (first | exact trivial | exact .inl rfl | refine ⟨?_, ?_⟩)))) | (refine X 11 ?_; (refine J Z ?_) <;> (refine .cons (fQ (r := sB (gW (cutAt 32 t) 0)) (j := 0) hX Z Z Z Z Z (by repeat (first | exact .h | apply aI.t)) (ya (by decide)) Z Z Z ?_)) <;> (refine J Z ?_) <;> ((refine .cons (fk (hws 0).1 s8 Z Z Z Z Z ?_ ?_)) <;> (intro _)) <;> (refine J Z ?_) <;> (refine Y Z ?_)) | (refine ag.draw (id := 12) ax [0, 1, 2, 3, 4, 5, 6, 7, 8, 9, 10, 11, 12, 13] #[0, 1, 0, 4, 12, 0, 32, 96, 224, 508, 1020, 2047, 4095, 8191] (by kernel_rfl) (by kernel_rfl) (by kernel_rfl) ?_; (refine .cq hX rfl rfl rfl ?_) <;> ((refine .cons rfl (q hX rfl ?_)) <;> refine ⟨_, .fw hX.ax rfl rfl rfl rfl rfl rfl rfl rfl (beL (by assumption)) rfl rfl rfl, ?_⟩) <;> (refine .cq hX rfl rfl rfl ?_) <;> ((refine .cons rfl (jh (k := kp) (j := 1) hX rfl rfl rfl rfl rfl (by simp only [List.length_append, List.length_map, List.length_cons, List.length_nil]; omega) rfl rfl ?_)) <;> refine ⟨_, .comp rfl, ?_⟩) <;> ((refine gp.Cn (k := kp) (off := 0) (j := 1) hX rfl rfl rfl rfl rfl rfl rfl rfl (by repeat (first | exact .h | apply aI.t)) (ya (by decide)) (suB rfl) rfl rfl ?_)) <;> (refine .cq hX rfl rfl rfl ?_) <;> ((refine .cons rfl (jh (k := kp) (j := 2) hX rfl rfl rfl rfl rfl (by simp only [List.length_append, List.length_map, List.length_cons, List.length_nil]; omega) rfl rfl ?_)) <;> refine ⟨_, .comp rfl, ?_⟩) <;> ((refine gp.Cn (k := kp) (off := 0) (j := 2) hX rfl rfl rfl rfl rfl rfl rfl rfl (by repeat (first | exact .h | apply aI.t)) (ya (by decide)) (suB rfl) rfl rfl ?_)) <;> ((refine .cons rfl (ao rfl rfl rfl rfl po rfl rfl (fun h f => bz hK (gW (cutAt 32 t) 2) f2.1 f2.2 h f.wf) ?_)) <;> refine ⟨_, .comp rfl, ?_⟩) <;> (iterate 2 refine .cq hX rfl rfl rfl ?_) <;> (((refine gp.pI rfl ?_); (refine .cons rfl (sZ hX rfl rfl rfl rfl rfl rfl rfl rfl rfl rfl rfl rfl O9 rfl rfl rfl rfl rfl (by repeat (first | exact .h | apply aI.t)) rfl (by simp only [List.length_map]; omega) rfl rfl ?_)) <;> intro kq <;> refine ⟨_, .comp rfl, ?_⟩)) <;> (iterate 2 refine .cq hX rfl rfl rfl ?_) <;> (refine .nil ⟨?_, .intro rfl ?_⟩ <;> (repeat' (first | exact trivial | exact .inl rfl | exact .inr (.inl ⟨_, _, _, _, rfl, rfl, rfl⟩) | exact .inr (.inr ⟨_, _, _, rfl, (by repeat (first | exact .h | apply aI.t)), (by repeat (first | exact .h | apply aI.t))⟩) | refine ⟨?_, ?_⟩)))) | (refine X 13 ?_; (iterate 2 refine J Z ?_) <;> (refine .cons (fQ (r := sB t) (j := i) hX Z Z Z Z Z (by repeat (first | exact .h | apply aI.t)) (y9 [] hil hgt) Z Z Z ?_)) <;> (refine J Z ?_) <;> ((refine .cons (K7 ht.1 cV.nil Z Z Z Z Z ?_ ?_)) <;> (intro _)) <;> (refine J Z ?_) <;> (refine Y Z ?_)) | (refine ag.draw (id := 14) ax [0, 1, 2, 3, 4, 5, 6, 7, 8, 9, 10, 11, 12] #[0, 1, 0, 0, 12, 28, 60, 124, 252, 508, 1023, 2047, 4095] (by kernel_rfl) (by kernel_rfl) (by kernel_rfl) ?_; (refine .cq hX rfl rfl rfl ?_) <;> ((refine .cons rfl (q hX rfl ?_)) <;> refine ⟨_, .fw hX.ax rfl rfl rfl rfl rfl rfl rfl rfl (beL (by assumption)) rfl rfl rfl, ?_⟩) <;> (iterate 2 refine .cq hX rfl rfl rfl ?_) <;> ((refine .cons rfl (jh (k := ks) (j := i) hX rfl rfl rfl rfl rfl hil rfl rfl ?_)) <;> refine ⟨_, .comp rfl, ?_⟩) <;> ((refine gp.Cn (k := ks) (off := 0) (j := i) (v := aR t) (rows := l.map sB) hX rfl rfl rfl rfl rfl rfl rfl rfl (by repeat (first | exact .h | apply aI.t)) (y9 [] hil hgt) (suB rfl) rfl rfl ?_)) <;> ((refine .cons rfl (gq rfl rfl rfl rfl KQ rfl rfl (fun h f => lK hK t 32 ht.1 (by decide) ht.2 h f.wf) ?_)) <;> (rintro v C' ⟨kv, rfl, rfl⟩) <;> refine ⟨_, .comp rfl, ?_⟩) <;> ((refine gp.tlO hX rfl rfl rfl rfl rfl rfl rfl rfl rfl hk0 (by repeat (first | exact .h | apply aI.t)) rfl rfl ?_)) <;> ((refine .cons rfl (ao rfl rfl rfl rfl NH rfl rfl (fun h f => Fa hK (jc kv (cutAt 32 t).length 1) ((cutAt 32 t).drop 1) (hwf.drop 1) h f.wf (by rw [List.map_drop]; exact aH.tail (f.pick (by repeat (first | exact .h | apply aI.t))) (by rw [List.length_map]; exact hk0))) ?_)) <;> refine ⟨_, .comp rfl, ?_⟩) <;> (refine .cq hX rfl rfl rfl ?_) <;> (((refine gp.pI rfl ?_); (refine .cons rfl (sZ hX rfl rfl rfl rfl rfl rfl rfl rfl rfl rfl rfl rfl O8 rfl rfl rfl rfl rfl (by repeat (first | exact .h | apply aI.t)) rfl (by simp only [List.length_map]; omega) rfl rfl ?_)) <;> intro kq <;> refine ⟨_, .comp rfl, ?_⟩)) <;> (iterate 2 refine .cq hX rfl rfl rfl ?_) <;> (refine .nil ⟨?_, .intro rfl ?_⟩ <;> (repeat' (first | exact trivial | exact .inl rfl | exact .inr (.inl ⟨_, _, _, _, rfl, rfl, rfl⟩) | refine ⟨?_, ?_⟩)))) | (refine X 5 ?_; (refine J Z ?_) <;> (refine .cons (qa Z Z Z Z Z (wI (by first | omega | (simp only [Int.ofNat_eq_natCast]; omega)) (by first | omega | (simp only [Int.ofNat_eq_natCast]; omega))) Z Z ?_)) <;> (refine J Z ?_) <;> (refine Y Z ?_)) | refine ag.t_ rfl ?_ | refine ag.f_ rfl ?_ | refine ag.k_ ?_ | refine aw.b_ ?_)
  all_goals first
   | (rw [Cf (by assumption)] at gn hA; exact next ⟨i + 1, { c with name := gW (cutAt 32 t) 1, «local» := fV (gW (cutAt 32 t) 3) }, _, _, _⟩ _ _ _ (by simp only; omega) ⟨⟨rfl, rfl, rfl, rfl, rfl, rfl, trivial⟩, ⟨_, rfl⟩, ⟨_, by exact .cons (by repeat (first | exact .h | apply aI.t)) (.cons (by repeat (first | exact .h | apply aI.t)) (.cons (by repeat (first | exact .h | apply aI.t)) (.cons (by repeat (first | exact .h | apply aI.t)) .nil)))⟩⟩ ⟨by simp only; omega, gn, hA⟩)
   | (rw [EV (by assumption) (by assumption)] at gn hA; exact next ⟨i + 1, { c with params := c.params ++ [(gW (cutAt 32 t) 1, true)] }, _, _, _⟩ _ _ _ (by simp only; omega) ⟨⟨rfl, rfl, rfl, rfl, rfl, rfl, trivial⟩, ⟨_, rfl⟩, ⟨_, by dsimp only; rw [List.map_append]; exact .cons (by repeat (first | exact .h | apply aI.t)) (.cons (by repeat (first | exact .h | apply aI.t)) (.cons (by repeat (first | exact .h | apply aI.t)) (.cons (by repeat (first | exact .h | apply aI.t)) .nil)))⟩⟩ ⟨by simp only; omega, gn, hA⟩)
   | (rw [ET (by assumption) (by assumption) (by assumption)] at gn hA; exact next ⟨i + 1, { c with params := c.params ++ [(gW (cutAt 32 t) 1, false)] }, _, _, _⟩ _ _ _ (by simp only; omega) ⟨⟨rfl, rfl, rfl, rfl, rfl, rfl, trivial⟩, ⟨_, rfl⟩, ⟨_, by dsimp only; rw [List.map_append]; exact .cons (by repeat (first | exact .h | apply aI.t)) (.cons (by repeat (first | exact .h | apply aI.t)) (.cons (by repeat (first | exact .h | apply aI.t)) (.cons (by repeat (first | exact .h | apply aI.t)) .nil)))⟩⟩ ⟨by simp only; omega, gn, hA⟩)
   | (rw [GY (by assumption) (by assumption) (by assumption) (by assumption)] at gn hA; exact next ⟨i + 1, { c with shared := c.shared ++ [(gW (cutAt 32 t) 1, fV (gW (cutAt 32 t) 2))] }, _, _, _⟩ _ _ _ (by simp only; omega) ⟨⟨rfl, rfl, rfl, rfl, rfl, rfl, trivial⟩, ⟨_, rfl⟩, ⟨_, by dsimp only; rw [List.map_append]; exact .cons (by repeat (first | exact .h | apply aI.t)) (.cons (by repeat (first | exact .h | apply aI.t)) (.cons (by repeat (first | exact .h | apply aI.t)) (.cons (by repeat (first | exact .h | apply aI.t)) .nil)))⟩⟩ ⟨by simp only; omega, gn, hA⟩)
   | (rw [EU (by assumption) (by assumption) (by assumption) (by assumption) (by assumption)] at gn hA; exact next ⟨i + 1, { c with ay := c.ay ++ [gm ((cutAt 32 t).drop 1)] }, _, _, _⟩ _ _ _ (by simp only; omega) ⟨⟨rfl, rfl, rfl, rfl, rfl, rfl, trivial⟩, ⟨_, rfl⟩, ⟨_, by dsimp only; rw [List.map_append]; exact .cons (by repeat (first | exact .h | apply aI.t)) (.cons (by repeat (first | exact .h | apply aI.t)) (.cons (by repeat (first | exact .h | apply aI.t)) (.cons (by repeat (first | exact .h | apply aI.t)) .nil)))⟩⟩ ⟨by simp only; omega, gn, hA⟩)
   | (rw [ES (by assumption) (by assumption) (by assumption) (by assumption) (by assumption)] at gn hA; exact next ⟨i + 1, c, _, _, _⟩ _ _ _ (by simp only; omega) ⟨⟨rfl, rfl, rfl, rfl, rfl, rfl, trivial⟩, ⟨_, rfl⟩, ⟨_, by exact .cons (by repeat (first | exact .h | apply aI.t)) (.cons (by repeat (first | exact .h | apply aI.t)) (.cons (by repeat (first | exact .h | apply aI.t)) (.cons (by repeat (first | exact .h | apply aI.t)) .nil)))⟩⟩ ⟨by simp only; omega, gn, hA⟩)
 ·have hil : i = l.length := by omega
  have hA2 : iT 0 l xh = c := by rw [hA, hil, List.drop_length, iT]
  have hok : c.Ok := g.ok (by omega)
  have hno : ∀ c', V c' = true → eU c' = s → c.iw.cF = true ∧ eU c.zb = s := fun c' hv ht => by
   have e := hA0 c' hv ht
   rw [hA2] at e
   rw [e, Df, tC]
   exact ⟨DS hv, ht⟩
  refine ag.fact (p := dA sv = some c.shared.length) (fun h f => by have := (aH.rd (f.pick (.t .h))).slice.len; simpa using this) fun hls2 => ?_
  refine ag.fact (p := dA pv = some c.params.length) (fun h f => by have := (aH.rd (f.pick (.t (.t .h)))).slice.len; simpa using this) fun hlp => ?_
  refine ag.fact (p := dA iv = some c.ay.length) (fun h f => by have := (aH.rd (f.pick .h)).slice.len; simpa using this) fun hli => ?_
  cases hv : c.iw.cF with
  | false =>
   repeat' (first | refine aw.a_ ?_ | refine ag.s_ ?_ | (refine X 15 ?_; (refine J Z ?_) <;> (refine .cons (ao Z Z Z Z My Z Z (fun h f => yg hK c.iw hv pv sv iv h f.wf hok.ok (MA (aH.rd (f.pick (by repeat (first | exact .h | apply aI.t)))) (aH.rd (f.pick (by repeat (first | exact .h | apply aI.t)))) (aH.rd (f.pick (by repeat (first | exact .h | apply aI.t)))))) ?_)) <;> (iterate 5 refine J Z ?_) <;> (refine Y Z ?_)) | (refine X 16 ?_; (refine J Z ?_) <;> ((refine .cons (qc Z ?_ ?_)) <;> intro _) <;> (iterate 3 refine J Z ?_) <;> (first | (refine J Z ?_) | (refine .cons (qc Z ?_ ?_)) <;> intro _) <;> (refine J Z ?_) <;> (refine Y Z ?_)) | (refine X 17 ?_; (iterate 3 refine J Z ?_) <;> (refine Y Z ?_)) | (refine X 18 ?_; (iterate 3 refine J Z ?_) <;> (refine Y Z ?_)) | refine ag.r_ ?_ | refine aw.d_ ?_ | refine ag.t_ rfl ?_ | refine ag.f_ rfl ?_ | refine ag.k_ ?_ | refine aw.r_ hX rfl ?_)
   any_goals (exact fun h f => ⟨[], f.aS.bx .nil, .inr ⟨fun c' h1 h2 => (by have := (hno c' h1 h2).1; rw [hv] at this; cases this), rfl, rfl⟩⟩)
   all_goals (rename_i e1 e2; exact absurd (Decidable.not_not.1 e1) (by decide))
  | true =>
   have hV := CZ hok hv
   repeat' (first | refine aw.a_ ?_ | refine ag.s_ ?_ | (refine X 15 ?_; (refine J Z ?_) <;> (refine .cons (ao Z Z Z Z My Z Z (fun h f => yi hK c hok hv pv sv iv h f.wf (MA (aH.rd (f.pick (by repeat (first | exact .h | apply aI.t)))) (aH.rd (f.pick (by repeat (first | exact .h | apply aI.t)))) (aH.rd (f.pick (by repeat (first | exact .h | apply aI.t)))))) ?_)) <;> (iterate 5 refine J Z ?_) <;> (refine Y Z ?_)) | (refine X 16 ?_; (refine J Z ?_) <;> ((refine .cons (qc Z ?_ ?_)) <;> intro _) <;> (iterate 3 refine J Z ?_) <;> (first | (refine J Z ?_) | (refine .cons (K7 (rh (lB hV)) hb Z Z Z Z Z ?_ ?_)) <;> (intro _)) <;> (refine J Z ?_) <;> (refine Y Z ?_)) | (refine X 17 ?_; (iterate 3 refine J Z ?_) <;> (refine Y Z ?_)) | (refine X 18 ?_; (iterate 3 refine J Z ?_) <;> (refine Y Z ?_)) | refine ag.r_ ?_ | refine aw.d_ ?_ | refine ag.t_ rfl ?_ | refine ag.f_ rfl ?_ | refine ag.k_ ?_ | refine aw.r_ hX rfl ?_)
   ·rename_i e
    exact absurd rfl e
   ·rename_i e
    exact fun h f => ⟨[], f.aS.bx .nil, .inr ⟨fun c' h1 h2 => e (hno c' h1 h2).2, rfl, rfl⟩⟩
   ·rename_i e
    exact fun h f => ⟨_, f.aS.bx (.cons (by repeat (first | exact .h | apply aI.t)) (.cons (by repeat (first | exact .h | apply aI.t)) (.cons (by repeat (first | exact .h | apply aI.t)) .nil))), .inl ⟨c.zb, pv, sv, iv, hV, e, by rw [y0 hv]; rfl, (wU hv pv sv iv).symm⟩⟩
end Ev
end Go.HL
namespace Go.HL
open Go Go.Proofs
namespace Ev
open Em
set_option maxRecDepth 10000
set_option maxHeartbeats 8000000
variable {K : ai} {base : List (Nat × aE)}
def GP : bg := ⟨[], [], [], 0, []⟩
theorem qg (h : Heap) : (pg GP .aD .aD .aD).holds h := ⟨aH.rd (pY 70 2 h), aH.rd (pY 72 2 h), aH.rd (pY 74 8 h)⟩
theorem G6 {c d : bg} (hc : V c = true) (hd : V d = true) (h : eU c = eU d) : c = d := by
 have e1 := (qP (qF hc)).2
 have e2 := (qP (qF hd)).2
 rw [h, e2] at e1
 rw [← tC c, ← tC d, e1]
theorem mask5 : Nat.lor (jm Tryz.f5) (Nat.sub (Nat.pow 2 1) 1) = 637 := by kernel_rfl
theorem wM (hK : KN base K) (hL : KL base K) (hR : KR base K) (s : List Nat) (hb : cV s) (h : Heap) (w : Wf h) (hB : (lies base).holds h) : Sp P K 5 [aR s] h (dE (.bool true) h) := by
 refine Sp.start (m := 637) (n := 32) w (hK.none 5 rfl rfl _ _) Tryz.func5 rfl rfl mask5 rfl rfl ?_
 repeat' (first | refine aw.a_ ?_ | refine ag.s_ ?_ | (refine X 0 ?_; (refine J Z ?_) <;> (refine Y Z ?_)) | (refine X 1 ?_; (iterate 2 refine J Z ?_) <;> ((refine .cons (qc Z ?_ ?_)) <;> intro _) <;> (refine Y Z ?_)) | (refine X 2 ?_; (refine .cons (ao Z Z Z Z NC Z Z (fun h f => rY hK h f.wf (f.ro (.of hB))) ?_)) <;> (refine J Z ?_) <;> (refine Y Z ?_)) | refine ag.r_ ?_ | refine aw.d_ ?_ | refine ag.t_ rfl ?_ | refine ag.f_ rfl ?_ | refine ag.k_ ?_ | refine aw.r_ hX rfl ?_)
 ·exact fun h f => ⟨rfl, f.aS.bx .nil⟩
 ·rename_i e
  have hl : s.length ≤ 20000 := by omega
  repeat' (first | refine aw.a_ ?_ | refine ag.s_ ?_ | (refine X 3 ?_; (refine J Z ?_) <;> ((refine .cons (gq Z Z Z Z NW Z Z (fun h f => Jj hK hL hR s hb (by omega) h f.wf (f.ro (.of hB))) ?_)) <;> (rintro v C' (⟨c, pv, sv, iv, hv, ht, rfl, rfl⟩ | ⟨hn, rfl, rfl⟩))) <;> (iterate 6 refine J Z ?_) <;> (refine Y Z ?_)) | (refine X 4 ?_; (refine J Z ?_) <;> ((refine .cons (gq Z Z Z Z NV Z Z (fun h f => BM hK s hb hl h f.wf) ?_)) <;> (rintro v C' (⟨d, pv2, sv2, iv2, hv2, ht2, rfl, rfl⟩ | ⟨hn2, rfl, rfl⟩))) <;> (iterate 6 refine J Z ?_) <;> (refine Y Z ?_)))
  ·have e : d = c := G6 hv2 hv (by rw [ht, ht2])
   subst e
   have hf := w5 hv
   simp only [og, List.append_nil, List.cons_append, List.nil_append]
   refine ag.fact (p := dA pv2 = some d.params.length) (fun h f => by have := bG (aH.rd (f.pick .h)); simpa using this) fun f1 => ?_
   refine ag.fact (p := dA sv2 = some d.shared.length) (fun h f => by have := bG (aH.rd (f.pick (.t .h))); simpa using this) fun f2 => ?_
   refine ag.fact (p := dA iv2 = some d.ay.length) (fun h f => by have := bG (aH.rd (f.pick (.t (.t .h)))); simpa using this) fun f3 => ?_
   refine ag.fact (p := dA pv = some d.params.length) (fun h f => by have := bG (aH.rd (f.pick (.t (.t (.t .h))))); simpa using this) fun f4 => ?_
   refine ag.fact (p := dA sv = some d.shared.length) (fun h f => by have := bG (aH.rd (f.pick (.t (.t (.t (.t .h)))))); simpa using this) fun f5 => ?_
   refine ag.fact (p := dA iv = some d.ay.length) (fun h f => by have := bG (aH.rd (f.pick (.t (.t (.t (.t (.t .h))))))); simpa using this) fun f6 => ?_
   repeat' (first | refine aw.a_ ?_ | (refine X 5 ?_; (iterate 2 refine J Z ?_) <;> (refine .cons (ao Z Z Z Z Ml Z Z (fun h f => zr hK d pv sv iv pv2 sv2 iv2 h f.wf hf.params hf.shared hf.ay ⟨aH.rd (f.pick (.t (.t (.t .h)))), aH.rd (f.pick (.t (.t (.t (.t .h))))), aH.rd (f.pick (.t (.t (.t (.t (.t .h))))))⟩ ⟨aH.rd (f.pick .h), aH.rd (f.pick (.t .h)), aH.rd (f.pick (.t (.t .h)))⟩) ?_)) <;> (iterate 6 refine J Z ?_) <;> (refine .cons (ao Z Z Z Z NC Z Z (fun h f => rY hK h f.wf (f.ro (.of hB))) ?_)) <;> (iterate 2 refine J Z ?_) <;> (refine Y Z ?_)) | refine ag.r_ ?_ | refine aw.r_ hX rfl ?_)
   exact fun h f => ⟨rfl, f.aS.bx .nil⟩
  ·exact absurd ht (hn2 c hv)
  ·exact absurd ht2 (hn d hv2)
  ·repeat' (first | refine aw.a_ ?_ | (refine X 5 ?_; (iterate 2 refine J Z ?_) <;> (refine .cons (ao Z Z Z Z Ml Z Z (fun h f => zr hK GP .aD .aD .aD .aD .aD .aD h f.wf (by decide) (by decide) (by decide) (qg h) (qg h)) ?_)) <;> (iterate 6 refine J Z ?_) <;> (refine .cons (ao Z Z Z Z NC Z Z (fun h f => rY hK h f.wf (f.ro (.of hB))) ?_)) <;> (iterate 2 refine J Z ?_) <;> (refine Y Z ?_)) | refine ag.r_ ?_ | refine aw.r_ hX rfl ?_)
   exact fun h f => ⟨rfl, f.aS.bx .nil⟩
end Ev
end Go.HL
