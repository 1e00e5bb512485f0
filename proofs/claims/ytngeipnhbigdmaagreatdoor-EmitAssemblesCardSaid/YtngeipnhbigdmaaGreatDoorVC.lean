/- The walk: strings.Builder, the parts of the program's lines. No statement of the seat stands here. -/
import Derived.Test.YtngeipnhbigdmaaGreatDoorVB
import Derived.Test.YtngeipnhbigdmaaGreatDoorXC
set_option linter.unusedVariables false
set_option linter.unusedSimpArgs false
namespace Go.HL
open Go Go.Proofs
namespace Ev
open Em
set_option maxRecDepth 10000
noncomputable section
variable {K : ai} {base : List (Nat × aE)}
theorem uq (n c : Nat) : ∀ (i m : Nat), fc n c i m = byteCells (yN n c i m)
 | _, 0 => rfl
 | i, m + 1 => by
  show _ :: fc n c (Nat.succ i) m = _
  rw [uq n c (Nat.succ i) m]; rfl
theorem zy {l : List Nat} (h : ∀ x ∈ l, x < 256) : fc l.length (aO l 0) 0 l.length = byteCells l := by rw [uq, od h]
def sk (u : Bool) (k : Nat) : ad := ae u (.ptr k 0) .fK
def G0 (k : Nat) (u : Bool) (v : ad) (bs : List Nat) : Part where
 dG j := j = k ∨ th v = some j
 holds h := (kB k [sk u k, v] 142 false).holds h ∧ (aH 5 1 v (bs.map gx)).holds h ∧ th v ≠ some k
 loc e hh := ⟨(kB k _ 142 false).loc (fun j hj => e j (.inl hj)) hh.1, (aH 5 1 v _).loc (fun j hj => e j (.inr hj)) hh.2.1, hh.2.2⟩
 live hh hk := hk.elim (fun hk => (kB k _ 142 false).live hh.1 hk) fun hk => (aH 5 1 v _).live hh.2.1 hk
theorem xM (k : Nat) (u : Bool) (v : ad) (bs : List Nat) : z1 (G0 k u v bs) [kB k [sk u k, v] 142 false, aH 5 1 v (bs.map gx)] := by
 refine ⟨fun h hh r hr => ?_, fun h hh => ?_, fun r hr j hj => ?_⟩
 ·rcases List.mem_cons.1 hr with rfl | hr
  ·exact hh.1
  ·rw [List.mem_singleton.1 hr]; exact hh.2.1
 ·refine List.pairwise_cons.2 ⟨fun r hr j hj hrj => ?_, List.pairwise_singleton _ _⟩
  rw [List.mem_singleton.1 hr] at hrj
  have e : j = k := hj
  subst e
  exact hh.2.2 hrj
 ·rcases List.mem_cons.1 hr with rfl | hr
  ·exact .inl hj
  ·rw [List.mem_singleton.1 hr] at hj; exact .inr hj
theorem I0 {C R : List Part} {h0 h : Heap} {k : Nat} {u : Bool} {v : ad} {bs : List Nat} (d : fL C h0 (kB k [sk u k, v] 142 false :: aH 5 1 v (bs.map gx) :: R) h) : fL C h0 (G0 k u v bs :: R) h := by
 refine fL.join (Ds := [kB k [sk u k, v] 142 false, aH 5 1 v (bs.map gx)]) d (fun ha hp => ⟨ha _ (by simp), ha _ (by simp), fun e => ?_⟩) fun j hj => ?_
 ·exact (List.pairwise_cons.1 hp).1 (aH 5 1 v (bs.map gx)) (by simp) k rfl e
 ·rcases hj with hj | hj
  ·exact ⟨kB k [sk u k, v] 142 false, by simp, hj⟩
  ·exact ⟨aH 5 1 v (bs.map gx), by simp, hj⟩
theorem HZ (k : Nat) : nH k [.fK, .aD] 142 false (G0 k false .aD []) :=
 ⟨fun h hh => ⟨hh, pY 5 1 h, by simp [th]⟩, fun j hj => by
  rcases hj with hj | hj
  ·exact hj
  ·simp [th] at hj⟩
theorem Lf : P.underlying 139 = some (.pointer 142) := Tryz.underlying139
theorem Le : P.underlying 339 = some .unsafePointer := Tryz.underlying339
theorem Nb : P.underlying 228 = some (.pointer 5) := Tryz.underlying228
theorem u5 : P.underlying 5 = some (.int .u8) := Tryz.underlying5
theorem c5 : P.cellsOf 5 = 1 := by kernel_rfl
theorem KT : Nat.beq (P.cellsOf 142) 0 = false := by kernel_rfl
theorem IH : liesAt P P.depth 142 (Nat.div 2 (P.cellsOf 142)) 0 142 1 = true := by kernel_rfl
theorem CD (k : Nat) (lit : Bool) : jK P .eql 139 lit (.ptr k 0) .fK = some (.bool false) := by
 simp [jK, eH, vv, heq]
theorem IE (k : Nat) (lit : Bool) : jK P .neq 139 lit (.ptr k 0) (.ptr k 0) = some (.bool false) := by
 simp [jK, eH, vv, heq, KT]
theorem CE (lit : Bool) : jK P .eql 139 lit .fK .fK = some (.bool true) := by
 simp [jK, eH, vv, heq]
theorem mask136 : Nat.lor (jm Tryz.f136) (Nat.sub (Nat.pow 2 1) 1) = 524353 := by kernel_rfl
theorem wF (hK : KN base K) (k : Nat) (u : Bool) (v : ad) (h : Heap) (w : Wf h) (hg : (kB k [sk u k, v] 142 false).holds h) : Sp P K 136 [.ptr k 0] h (MP (kB k [sk u k, v] 142 false) (fun r C => r = .tuple [] ∧ C = [kB k [.ptr k 0, v] 142 false]) h) := by
 cases u with
 | true =>
  have hg : (kB k [.ptr k 0, v] 142 false).holds h := hg
  refine Sp.rl (m := 524353) (n := 20) w hg (hK.none 136 rfl rfl _ _) Tryz.func136 rfl rfl mask136 rfl rfl ?_
  repeat' (first | refine aw.a_ ?_ | refine ag.s_ ?_ | (refine X 0 ?_; (iterate 3 refine J Z ?_) <;> (refine .cons (Ej (off := 0) hX Z Z Z Z .h Z Z Z ?_)) <;> (refine .cons (K8 Z Z Z (CD k) Z Z ?_)) <;> (refine Y Z ?_)) | (refine X 2 ?_; (iterate 3 refine J Z ?_) <;> (refine .cons (Ej (off := 0) hX Z Z Z Z .h Z Z Z ?_)) <;> (refine J Z ?_) <;> (refine .cons (K8 Z Z Z (IE k) Z Z ?_)) <;> (refine Y Z ?_)) | refine ag.f_ rfl ?_ | refine ag.k_ ?_ | refine aw.n_ hX rfl ?_)
  exact fun h f => ⟨_, f.aS, rfl, rfl⟩
 | false =>
  have hg : (kB k [.fK, v] 142 false).holds h := hg
  refine Sp.rl (m := 524353) (n := 20) w hg (hK.none 136 rfl rfl _ _) Tryz.func136 rfl rfl mask136 rfl rfl ?_
  repeat' (first | refine aw.a_ ?_ | refine ag.s_ ?_ | (refine X 0 ?_; (iterate 3 refine J Z ?_) <;> (refine .cons (Ej (off := 0) hX Z Z Z Z .h Z Z Z ?_)) <;> (refine .cons (K8 Z Z Z CE Z Z ?_)) <;> (refine Y Z ?_)) | (refine X 1 ?_; (iterate 2 refine J Z ?_) <;> (refine .cons (Nj (v := .fK) Z Lf Le KT Z .h Z Z Z ?_)) <;> (refine .cons (qne Z Z Z Z Z Tryz.func237 Z Z Z Z Z Z ?_)) <;> (refine .cons (Ni Z Le Lf KT Z IH Z .h Z Z ?_)) <;> (iterate 2 refine J Z ?_) <;> (refine .cons (Lq hX Z Z Z Z Z .h Z Z Z Z ?_)) <;> (refine Y Z ?_)) | refine ag.t_ rfl ?_ | refine aw.n_ hX rfl ?_)
  exact fun h f => ⟨_, f.aS, rfl, rfl⟩
theorem mH (hK : KN base K) (k : Nat) (u : Bool) (v : ad) (bs s : List Nat) (hs : 0 < s.length) (hb : ∀ x ∈ s, x < 256) (hl : bs.length + s.length ≤ 1000000) (h : Heap) (w : Wf h) (hg : (G0 k u v bs).holds h) :
  Sp P K 68 [.ptr k 0, aR s] h (MP (G0 k u v bs) (fun r C => ∃ k2, C = [G0 k true (.slice k2 0 (bs.length + s.length) none) (bs ++ s)]) h) := by
 refine Sp.rl (m := 51) (n := 19) w hg (hK.none 68 rfl rfl _ _) Tryz.func68 rfl rfl (by kernel_rfl) rfl rfl ?_
 refine ag.split (xM k u v bs) .h rfl ?_
 repeat' (first | refine aw.a_ ?_ | refine ag.s_ ?_ | (refine X 0 ?_; (iterate 2 refine J Z ?_) <;> (refine Y Z ?_)) | (refine X 1 ?_; (refine J Z ?_) <;> ((refine .cons (oY Z Z Z Z Mw Z Z (by repeat (first | exact .h | apply aI.t)) Z (fun h f hg ro rg => wF hK k u v h f.wf hg) ?_)) <;> (rintro v C' ⟨rfl, rfl⟩)) <;> (refine Y Z ?_)) | (refine X 2 ?_; (iterate 4 refine J Z ?_) <;> (refine .cons (Ej (off := 1) hX Z Z Z Z .h Z Z Z ?_)) <;> (refine J Z ?_) <;> (refine .cons (Lw s hX Z Z Z Z Z Z Z Z Z Z Z b5 Z Z Z Z (zy hb) hs (.t .h) Z (by simp only [List.length_map]; omega) Z Z fun k2 => ?_)) <;> (iterate 2 refine J Z ?_) <;> (refine .cons (Lq hX Z Z Z Z Z (.t .h) Z Z Z Z ?_)) <;> (refine Y Z ?_)) | (refine X 3 ?_; (iterate 4 refine J Z ?_) <;> (refine Y Z ?_)) | refine ag.r_ ?_ | refine aw.r_ hX rfl ?_)
 refine fun h f => ⟨_, I0 (u := true) (v := .slice k2 0 (bs.length + s.length) none) (bs := bs ++ s) (R := []) ?_, k2, rfl⟩
 have e : (bs ++ s).map gx = bs.map gx ++ s.map gx := List.map_append
 have c := f.aS
 rw [e]
 simp only [List.length_map] at c
 exact c
theorem HY (hK : KN base K) (k k2 n : Nat) (u : Bool) (bs : List Nat) (hn : n = bs.length) (hs : 0 < bs.length) (hb : ∀ x ∈ bs, x < 256) (hl : bs.length ≤ 1000000) (h : Heap) (w : Wf h) (hg : (G0 k u (.slice k2 0 n none) bs).holds h) :
  Sp P K 72 [.ptr k 0] h (MP (G0 k u (.slice k2 0 n none) bs) (fun r C => r = aR bs ∧ C = [kB k [sk u k, .slice k2 0 n none] 142 false]) h) := by
 subst hn
 refine Sp.rl (m := 5) (n := 14) w hg (hK.none 72 rfl rfl _ _) Tryz.func72 rfl rfl (by kernel_rfl) rfl rfl ?_
 refine ag.split (xM k u _ bs) .h rfl ?_
 repeat' (first | refine aw.a_ ?_ | refine ag.s_ ?_ | (refine X 0 ?_; (refine J Z ?_) <;> (refine Y Z ?_)) | (refine ag.draw (id := 1) ax [0, 1, 2, 3, 5, 6, 7, 8, 9, 4, 10, 11] #[0, 1, 3, 7, 15, 0, 32, 96, 224, 480, 1023, 2047] (by kernel_rfl) (by kernel_rfl) (by kernel_rfl) ?_; (iterate 3 refine .cq hX rfl rfl rfl ?_) <;> ((refine .cons rfl (Ej (off := 1) hX rfl rfl rfl rfl .h rfl rfl rfl ?_)) <;> refine ⟨_, .zI hX.ax rfl rfl rfl rfl (by repeat (first | exact .h | apply aI.t)) rfl rfl rfl (suB rfl) rfl rfl rfl, ?_⟩) <;> (iterate 3 refine .cq hX rfl rfl rfl ?_) <;> ((refine .cons rfl (Ej (off := 1) hX rfl rfl rfl rfl .h rfl rfl rfl ?_)) <;> refine ⟨_, .zI hX.ax rfl rfl rfl rfl (by repeat (first | exact .h | apply aI.t)) rfl rfl rfl (suB rfl) rfl rfl rfl, ?_⟩) <;> ((refine .cons rfl (q hX rfl ?_)) <;> refine ⟨_, .O4 hX.ax rfl rfl rfl rfl rfl rfl rfl rfl rfl rfl rfl rfl, ?_⟩) <;> ((refine .cons rfl (qsd rfl rfl rfl rfl hs rfl rfl ?_)) <;> refine ⟨_, .comp rfl, ?_⟩) <;> ((refine .cons rfl (qus rfl rfl rfl rfl Nb u5 c5 rfl rfl rfl rfl (.t .h) hs (by omega) hb rfl rfl rfl ?_)) <;> refine ⟨_, .comp rfl, ?_⟩) <;> (refine .cq hX rfl rfl rfl ?_) <;> (refine .nil ⟨?_, .intro rfl ?_⟩ <;> (repeat' (first | exact trivial | exact .inl rfl | exact .inr (.inr ⟨_, _, _, rfl, (by repeat (first | exact .h | apply aI.t)), (by repeat (first | exact .h | apply aI.t))⟩) | refine ⟨?_, ?_⟩)))) | refine ag.r_ ?_ | refine aw.r_ hX rfl ?_)
 exact fun h f => ⟨_, f.aS, rfl, rfl⟩
end
end Ev
end Go.HL
namespace Go.HL
open Go Go.Proofs
namespace Ev
open Em
set_option maxRecDepth 10000
variable {K : ai} {base : List (Nat × aE)}
theorem ic (hL : KL base K) (n : Int) (h1 : -4294967296 < n) (h2 : n < 4294967296) (h : Heap) (w : Wf h) (hB : (lies base).holds h) : Sp P K 70 [.int .i64 n] h (dE (aR (aQ n)) h) := Sp.known (hL.itoa h n hB h1 h2) ⟨rfl, fL.refl w⟩
theorem H5 (hL : KL base K) (s : ad) (l : List (List Nat)) (hne : l ≠ []) (hb : ∀ x ∈ l, ∀ b ∈ x, b < 256) (hl : (aK l).length ≤ 1000000) (hll : l.length ≤ 1000000) (h : Heap) (w : Wf h) (hs : (rd s 1 (l.map sB)).holds h) : Sp P K 137 [s, .str 1 32] h (dE (aR (aK l)) h) := Sp.known (hL.join h s l hne hb hl hll hs) ⟨rfl, fL.refl w⟩
theorem la (hK : KN base K) (hL : KL base K) (s : ad) (l : List (List Nat)) {t : List Nat} (ht : aK l ++ [10] = t) (hne : l ≠ []) (hb : ∀ x ∈ l, ∀ b ∈ x, b < 256) (hl : (aK l).length ≤ 1000) (hll : l.length ≤ 1000) (h : Heap) (w : Wf h) (hs : (rd s 1 (l.map sB)).holds h) : Sp P K 69 [s] h (dE (aR t) h) := by
 subst ht
 refine Sp.start (m := 5) (n := 6) w (hK.none 69 rfl rfl _ _) Tryz.func69 rfl rfl (by kernel_rfl) rfl rfl ?_
 repeat' (first | refine aw.a_ ?_ | refine ag.s_ ?_ | (refine X 0 ?_; (refine J Z ?_) <;> (refine Y Z ?_)) | (refine X 1 ?_; (refine J Z ?_) <;> (refine .cons (ao Z Z Z Z Mv Z Z (fun h f => H5 hL s l hne hb (by omega) (by omega) h f.wf (f.ro (.of hs))) ?_)) <;> (refine .cons (bd (b := [10]) Z Z Z (by simp only [List.length_singleton]; omega) Z Z ?_)) <;> (refine J Z ?_) <;> (refine Y Z ?_)) | refine ag.r_ ?_ | refine aw.r_ hX rfl ?_)
 exact fun h f => ⟨rfl, f.aS⟩
theorem uy (hK : KN base K) (hL : KL base K) (n : Int) (h1 : -4294967296 < n) (h2 : n < 4294967296) (h : Heap) (w : Wf h) (hB : (lies base).holds h) : Sp P K 139 [.int .i64 n] h (dE (aR (rT n)) h) := by
 have hl := da h1 h2
 refine Sp.start (m := 5) (n := 6) w (hK.none 139 rfl rfl _ _) Tryz.func139 rfl rfl (by kernel_rfl) rfl rfl ?_
 repeat' (first | refine aw.a_ ?_ | refine ag.s_ ?_ | (refine X 0 ?_; (refine J Z ?_) <;> (refine Y Z ?_)) | (refine X 1 ?_; (refine J Z ?_) <;> (refine .cons (ao Z Z Z Z AW Z Z (fun h f => ic hL n h1 h2 h f.wf (f.ro (.of hB))) ?_)) <;> (refine .cons (bd (a := [114]) Z Z Z (by simp only [List.length_singleton]; omega) Z Z ?_)) <;> (refine J Z ?_) <;> (refine Y Z ?_)) | refine ag.r_ ?_ | refine aw.r_ hX rfl ?_)
 exact fun h f => ⟨rfl, f.aS⟩
theorem Bp (hK : KN base K) (hL : KL base K) (n : Int) (h1 : -4294967296 < n) (h2 : n < 4294967296) (h : Heap) (w : Wf h) (hB : (lies base).holds h) : Sp P K 140 [.int .i32 n] h (dE (aR (aQ n)) h) := by
 refine Sp.start (m := 5) (n := 6) w (hK.none 140 rfl rfl _ _) Tryz.func140 rfl rfl (by kernel_rfl) rfl rfl ?_
 repeat' (first | refine aw.a_ ?_ | refine ag.s_ ?_ | (refine X 0 ?_; (refine J Z ?_) <;> (refine Y Z ?_)) | (refine X 1 ?_; (refine J Z ?_) <;> (refine .cons (qw hX Z Z Z Z (wI (by omega) (by omega)) Z Z ?_)) <;> (refine .cons (ao Z Z Z Z AW Z Z (fun h f => ic hL n h1 h2 h f.wf (f.ro (.of hB))) ?_)) <;> (refine J Z ?_) <;> (refine Y Z ?_)) | refine ag.r_ ?_ | refine aw.r_ hX rfl ?_)
 exact fun h f => ⟨rfl, f.aS⟩
def KY (l : List (List Nat)) (v : ad) (C : List Part) : Prop := ∃ k, v = .slice k 0 l.length (some l.length) ∧ C = [aH 9 1 (.slice k 0 l.length (some l.length)) (l.map sB)]
theorem ew {k e : Nat} {lc : List ad} {s : Bool} (l : List (List Nat)) (hl : (l.map sB).flatten = lc) : nH k lc e s (aH 9 1 (.slice k 0 l.length (some l.length)) (l.map sB)) :=
 .own hl (by intro r hr; obtain ⟨q, _, rfl⟩ := List.mem_map.1 hr; rfl) (by simp)
theorem lE (hK : KN base K) (h : Heap) (w : Wf h) : Sp P K 143 [] h (Tr (KY ov) h) := by
 refine Sp.start (m := 1) (n := 2) w (hK.none 143 rfl rfl _ _) Tryz.func143 rfl rfl (by kernel_rfl) rfl rfl ?_
 repeat' (first | refine aw.a_ ?_ | refine ag.s_ ?_ | (refine X 0 ?_; (refine J Z ?_) <;> (refine Y Z ?_)) | (refine X 1 ?_; (iterate 2 refine J Z ?_) <;> (refine Y Z ?_)) | refine ag.r_ ?_)
 refine aw.eF 0 (fun k => aH 9 1 (.slice k 0 4 (some 4)) (ov.map sB)) rfl (fun k => ew ov rfl) (fun _ => rfl) rfl fun k => ?_
 exact aw.r_ hX rfl fun h f => ⟨_, f.aS, _, rfl, rfl⟩
def As : List (List Nat) := [[97, 100, 100], [109, 105, 110], [109, 97, 120], [97, 110, 100], [111, 114], [120, 111, 114]]
def Ic : List Nat := [0, 18, 19, 5, 6, 7]
abbrev nB (n : Nat) : List ad := [i64 n]
theorem o6 (hK : KN base K) (h : Heap) (w : Wf h) : Sp P K 163 [] h (Tr (fun v C => ∃ k k2, v = .tuple [.slice k 0 6 (some 6), .slice k2 0 6 (some 6)] ∧ C = [aH 3 1 (.slice k2 0 6 (some 6)) (Ic.map nB), aH 9 1 (.slice k 0 6 (some 6)) (As.map sB)]) h) := by
 refine Sp.start (m := 3) (n := 4) w (hK.none 163 rfl rfl _ _) Tryz.func163 rfl rfl (by kernel_rfl) rfl rfl ?_
 repeat' (first | refine aw.a_ ?_ | refine ag.s_ ?_ | (refine X 0 ?_; (iterate 2 refine J Z ?_) <;> (refine Y Z ?_)) | (refine X 1 ?_; (iterate 4 refine J Z ?_) <;> (refine Y Z ?_)) | refine ag.r_ ?_)
 refine aw.eF 0 (fun k => aH 9 1 (.slice k 0 6 (some 6)) (As.map sB)) rfl (fun k => ew As rfl) (fun _ => rfl) rfl fun k => ?_
 refine aw.eF 1 (fun k => aH 3 1 (.slice k 0 6 (some 6)) (Ic.map nB)) rfl (fun k => .own rfl (by intro r hr; obtain ⟨q, _, rfl⟩ := List.mem_map.1 hr; rfl) rfl) (fun _ => rfl) rfl fun k2 => ?_
 exact aw.r_ hX rfl fun h f => ⟨_, f.aS, _, _, rfl, rfl⟩
theorem LV : ∀ a, a < 6 → fT ((Ic.getD a 0 : Nat) : Int) = As.getD a [] := by decide
theorem mask144 : Nat.lor (jm Tryz.f144) (Nat.sub (Nat.pow 2 1) 1) = 1079421 := by kernel_rfl
theorem oN (hK : KN base K) (n : Int) (hn : n = 0 ∨ n = 18 ∨ n = 19 ∨ n = 5 ∨ n = 6 ∨ n = 7) (h : Heap) (w : Wf h) : Sp P K 144 [.int .i64 n] h (dE (aR (fT n)) h) := by
 refine Sp.start (m := 1079421) (n := 26) w (hK.none 144 rfl rfl _ _) Tryz.func144 rfl rfl mask144 rfl rfl ?_
 repeat' (first | refine aw.a_ ?_ | refine ag.s_ ?_ | (refine X 0 ?_; (refine J Z ?_) <;> (refine Y Z ?_)) | (refine X 1 ?_; ((refine .cons (gq Z Z Z Z JL Z Z (fun h f => o6 hK h f.wf) ?_)) <;> (rintro v C' ⟨k, k2, rfl, rfl⟩)) <;> (iterate 5 refine J Z ?_) <;> (refine Y Z ?_)) | (refine X 2 ?_; (iterate 3 refine J Z ?_) <;> (refine Y Z ?_)) | refine ag.b_ ?_)
 refine ag.loop (fun a => [(13, .ext (i64 a)), (12, .ext (i64 6)), (11, .ext (.slice k2 0 6 (some 6))), (4, .ext (.slice k2 0 6 (some 6))), (3, .ext (.slice k 0 6 (some 6))), (0, .ext (.int .i64 n))]) (fun _ => []) (fun _ => [aH 3 1 (.slice k2 0 6 (some 6)) (Ic.map nB), aH 9 1 (.slice k 0 6 (some 6)) (As.map sB)]) (fun a => a ≤ 6 ∧ ∀ j, j < a → n ≠ ((Ic.getD j 0 : Nat) : Int)) (fun a => 6 - a) 0 ⟨⟨rfl, rfl, rfl, rfl, rfl, rfl, trivial⟩, ⟨_, rfl⟩, ⟨_, .cons .h (.cons .h .nil)⟩⟩ ⟨Nat.zero_le _, fun j hj => absurd hj (by omega)⟩ (fun _ => rfl) (fun _ => rfl) (fun _ => rfl) ?_
 rintro a ⟨ha, hne⟩ next
 repeat' (first | refine aw.a_ ?_ | refine ag.s_ ?_ | (refine X 3 ?_; ((refine .cons (qc Z ?_ ?_)) <;> intro _) <;> (refine Y Z ?_)) | (refine X 8 ?_; (refine J Z ?_) <;> (refine Y Z ?_)) | refine ag.r_ ?_ | refine ag.t_ rfl ?_ | refine ag.f_ rfl ?_ | refine ag.k_ ?_ | refine ag.b_ ?_ | refine ag.e_ ?_ | refine aw.e_ ?_ | refine aw.c_ ?_ | refine aw.r_ hX rfl ?_)
 ·have ha6 : a < 6 := by omega
  repeat' (first | refine aw.a_ ?_ | refine ag.s_ ?_ | (refine X 4 ?_; (refine J Z ?_) <;> (refine .cons (fQ (r := nB (Ic.getD a 0)) hX Z Z Z Z Z .h (aN 0 ha6) Z Z Z ?_)) <;> (iterate 3 refine J Z ?_) <;> (refine Y Z ?_)) | (refine X 5 ?_; (iterate 2 refine J Z ?_) <;> ((refine .cons (qc Z ?_ ?_)) <;> intro _) <;> (refine Y Z ?_)) | (refine X 6 ?_; (iterate 2 refine J Z ?_) <;> (refine .cons (fQ (r := sB (As.getD a [])) hX Z Z Z Z Z (.t .h) (aN [] ha6) Z Z Z ?_)) <;> (iterate 2 refine J Z ?_) <;> (refine Y Z ?_)) | (refine X 7 ?_; (refine .cons (qa Z Z Z Z Z (wI (by first | omega | (simp only [Int.ofNat_eq_natCast]; omega)) (by first | omega | (simp only [Int.ofNat_eq_natCast]; omega))) Z Z ?_)) <;> (refine J Z ?_) <;> (refine Y Z ?_)) | refine ag.r_ ?_ | refine aw.d_ ?_ | refine aw.f_ ?_ | refine ag.t_ rfl ?_ | refine ag.f_ rfl ?_ | refine ag.k_ ?_ | refine aw.b_ ?_ | refine aw.r_ hX rfl ?_)
  ·rename_i e
   exact fun h f => ⟨by rw [← e, LV a ha6]; rfl, f.aS.bx .nil⟩
  ·rename_i e
   refine next (a + 1) _ _ _ (by omega) ⟨⟨rfl, rfl, rfl, rfl, rfl, rfl, trivial⟩, ⟨_, rfl⟩, ⟨_, .cons .h (.cons .h .nil)⟩⟩ ⟨by omega, fun j hj => ?_⟩
   by_cases hja : j = a
   ·rw [hja]; exact fun hn => e hn.symm
   ·exact hne j (by omega)
 ·have ha6 : a = 6 := by omega
  subst ha6
  have h0 := hne 0 (by omega)
  have h1 := hne 1 (by omega)
  have h2 := hne 2 (by omega)
  have h3 := hne 3 (by omega)
  have h4 := hne 4 (by omega)
  have h5 := hne 5 (by omega)
  simp [Ic] at h0 h1 h2 h3 h4 h5
  omega
theorem Bl (hK : KN base K) (n : Int) (h1 : 0 ≤ n) (h2 : n < 3) (h : Heap) (w : Wf h) : Sp P K 141 [.int .i64 n] h (dE (aR (uT.getD n.toNat [])) h) := by
 obtain ⟨k, rfl⟩ := Int.eq_ofNat_of_zero_le h1
 obtain rfl | rfl | rfl : k = 0 ∨ k = 1 ∨ k = 2 := by omega
 all_goals
  refine Sp.start (m := 261) (n := 12) w (hK.none 141 rfl rfl _ _) Tryz.func141 rfl rfl (by kernel_rfl) rfl rfl ?_
  repeat' (first | refine aw.a_ ?_ | refine ag.s_ ?_ | (refine X 0 ?_; (refine J Z ?_) <;> (refine Y Z ?_)) | (refine X 1 ?_; (refine J Z ?_) <;> ((refine .cons (qc Z ?_ ?_)) <;> intro _) <;> (iterate 4 refine J Z ?_) <;> (refine Y Z ?_)) | (refine X 2 ?_; (refine J Z ?_) <;> (refine Y Z ?_)) | (refine X 3 ?_; (iterate 2 refine J Z ?_) <;> (refine .cons (Nh hX Z Z Z Z Z Z Z Z Z Z ?_)) <;> (refine J Z ?_) <;> (refine Y Z ?_)) | refine ag.r_ ?_ | refine aw.d_ ?_ | refine ag.t_ rfl ?_ | refine ag.f_ rfl ?_ | refine ag.k_ ?_ | refine aw.r_ hX rfl ?_)
  all_goals first | exact fun h f => ⟨rfl, f.aS⟩ | (exfalso; omega)
def ruF : List Nat := [256, 257, 258, 259, 260, 261, 262, 263, 264, 265, 266, 267, 269, 270, 271, 272, 273, 274, 275, 276]
def ruK : List Nat := [1, 0, 1, 0, 0, 1, 1, 1, 0, 0, 0, 0, 0, 1, 1, 0, 1, 1, 1, 1]
abbrev Lm (k : Nat) : List ad := [aR (bT.getD k []), .func (ruF.getD k 0) [] [], i64 (ruK.getD k 0)]
theorem Ee (hK : KN base K) (h : Heap) (w : Wf h) : Sp P K 166 [] h (Tr (fun v C => ∃ k, v = .slice k 0 20 (some 20) ∧ C = [aH 247 3 (.slice k 0 20 (some 20)) ((List.range 20).map Lm)]) h) := by
 refine Sp.start (m := 1) (n := 22) w (hK.none 166 rfl rfl _ _) Tryz.func166 rfl rfl (by kernel_rfl) rfl rfl ?_
 repeat' (first | refine aw.a_ ?_ | refine ag.s_ ?_ | (refine X 0 ?_; (refine J Z ?_) <;> (refine Y Z ?_)) | (refine X 1 ?_; (iterate 22 refine J Z ?_) <;> (refine Y Z ?_)) | refine ag.r_ ?_)
 refine aw.eF 0 (fun k => aH 247 3 (.slice k 0 20 (some 20)) ((List.range 20).map Lm)) rfl (fun k => .own rfl (by intro r hr; obtain ⟨q, _, rfl⟩ := List.mem_map.1 hr; rfl) rfl) (fun _ => rfl) rfl fun k => ?_
 exact aw.r_ hX rfl fun h f => ⟨_, f.aS, _, rfl, rfl⟩
theorem sU (hK : KN base K) (n : Int) (h1 : 0 ≤ n) (h2 : n < 20) (h : Heap) (w : Wf h) : Sp P K 142 [.int .i64 n] h (dE (aR (bT.getD n.toNat [])) h) := by
 obtain ⟨k, rfl⟩ := Int.eq_ofNat_of_zero_le h1
 have hrow : ((List.range 20).map Lm)[k]? = some (Lm k) := by
  rw [List.getElem?_map, List.getElem?_range (by omega)]; rfl
 refine Sp.start (m := 261) (n := 14) w (hK.none 142 rfl rfl _ _) Tryz.func142 rfl rfl (by kernel_rfl) rfl rfl ?_
 repeat' (first | refine aw.a_ ?_ | refine ag.s_ ?_ | (refine X 0 ?_; (refine J Z ?_) <;> (refine Y Z ?_)) | (refine X 1 ?_; (refine J Z ?_) <;> ((refine .cons (qc Z ?_ ?_)) <;> intro _) <;> (iterate 2 refine J Z ?_) <;> (first | (refine J Z ?_) | (refine .cons (qc Z ?_ ?_)) <;> intro _) <;> (refine J Z ?_) <;> (refine Y Z ?_)) | (refine X 2 ?_; (refine J Z ?_) <;> (refine Y Z ?_)) | (refine X 3 ?_; ((refine .cons (gq Z Z Z Z Mm Z Z (fun h f => Ee hK h f.wf) ?_)) <;> (rintro v C' ⟨kr, rfl, rfl⟩)) <;> (refine J Z ?_) <;> (refine .cons (fQ (r := Lm k) hX Z Z Z Z Z .h hrow Z Z Z ?_)) <;> (iterate 3 refine J Z ?_) <;> (refine Y Z ?_)) | refine ag.r_ ?_ | refine aw.d_ ?_ | refine ag.t_ rfl ?_ | refine ag.f_ rfl ?_ | refine ag.k_ ?_ | refine aw.r_ hX rfl ?_)
 all_goals first | (exfalso; omega) | exact fun h f => ⟨rfl, f.aS.bx .nil⟩
end Ev
end Go.HL
namespace Go.HL
open Go Go.Proofs
namespace Ev
open Em
set_option maxRecDepth 10000
set_option maxHeartbeats 4000000
variable {K : ai} {base : List (Nat × aE)}
def aM (x : bI) : List (List Nat) :=
 if x.kind = 0 then [rT x.d, [61], aQ x.cL]
 else if x.kind = 1 then [rT x.d, [61], rT x.a]
 else if x.kind = 2 then [rT x.d, [61], uT.getD x.op.toNat [], rT x.a]
 else if x.kind = 3 then [rT x.d, [61], rT x.a, bT.getD x.op.toNat [], rT x.b]
 else if x.kind = 4 then [rT x.d, [61], ov.getD x.op.toNat []]
 else if x.kind = 5 then [rT x.d, [61], [112, 97, 114, 97, 109], aQ x.cL]
 else if x.kind = 6 then [rT x.d, [61], [97, 114, 114, 97, 121], aQ x.cL, rT x.a]
 else if x.kind = 7 then [[97, 114, 114, 97, 121], aQ x.cL, rT x.a, [61], rT x.b]
 else if x.kind = 8 then [[97, 116, 111, 109, 105, 99], fT x.op, [97, 114, 114, 97, 121], aQ x.cL, rT x.a, rT x.b]
 else if x.kind = 9 then [[98, 97, 114, 114, 105, 101, 114], aQ x.cL]
 else if x.kind = 10 then [rT x.d, [61], [99, 111, 108, 108, 101, 99, 116], fT x.op, rT x.a, aQ x.cL]
 else if x.kind = 11 then [rT x.d, [61], [108, 111, 99, 97, 108], aQ x.cL]
 else if x.kind = 12 then [[108, 111, 99, 97, 108], aQ x.cL, [61], rT x.a]
 else if x.kind = 13 then [[106, 117, 109, 112], aQ x.to]
 else if x.kind = 14 then [[98, 114, 97, 110, 99, 104], rT x.a, aQ x.to, [106, 111, 105, 110], aQ x.join]
 else [[101, 120, 105, 116]]
theorem F7 {p : Prop} [Decidable p] {a b : List (List Nat)} : aK (if p then a else b) = if p then aK a else aK b := by split <;> rfl
theorem n9 (x : bI) : qo x = aK (aM x) := by
 unfold qo aM
 simp only [F7]
 simp only [aK, List.map_cons, List.map_nil, List.flatten_cons, List.flatten_nil, List.append_nil, List.append_assoc, List.cons_append, List.nil_append]
structure z6 (x : bI) : Prop where
 ok : s6 x
 f : x.kind = 8 ∨ x.kind = 10 → x.op = 0 ∨ x.op = 18 ∨ x.op = 19 ∨ x.op = 5 ∨ x.op = 6 ∨ x.op = 7
theorem mask71 : Nat.lor (jm Tryz.f71) (Nat.sub (Nat.pow 2 1) 1) = 5276041190745505870876331431952511 := by kernel_rfl
theorem Es (hK : KN base K) (hL : KL base K) (x : bI) (hx : z6 x) (h : Heap) (w : Wf h) (hB : (lies base).holds h) : Sp P K 71 [.agg (ez x)] h (Tr (KY (aM x)) h) := by
 obtain ⟨⟨dB, hu, hb, hs⟩, hfo⟩ := hx
 have f1 := dB.d
 have f2 := dB.a
 have f3 := dB.b
 have f4 := dB.cL
 have f5 := dB.to
 have f6 := dB.join
 refine Sp.start (m := 5276041190745505870876331431952511) (n := 123) w (hK.none 71 rfl rfl _ _) Tryz.func71 rfl rfl mask71 rfl rfl ?_
 repeat' (first | refine aw.a_ ?_ | refine ag.s_ ?_ | (refine X 0 ?_; (iterate 2 refine J Z ?_) <;> (refine Y Z ?_)) | (refine ag.draw (id := 1) ax [0, 1, 3, 4, 6, 7, 9, 10, 2, 5, 8, 11, 12, 13, 14, 15] #[0, 1, 3, 0, 8, 31, 0, 64, 255, 0, 512, 2047, 4095, 8191, 16383, 32767] (by kernel_rfl) (by kernel_rfl) (by kernel_rfl) ?_; (refine .cq hX rfl rfl rfl ?_) <;> ((refine .cons rfl (q hX rfl ?_)) <;> refine ⟨_, .fw hX.ax rfl rfl rfl rfl rfl rfl rfl rfl (suB rfl) rfl rfl rfl, ?_⟩) <;> (refine .cq hX rfl rfl rfl ?_) <;> ((refine .cons rfl (q hX rfl ?_)) <;> refine ⟨_, .fw hX.ax rfl rfl rfl rfl rfl rfl rfl rfl (suB rfl) rfl rfl rfl, ?_⟩) <;> (refine .cq hX rfl rfl rfl ?_) <;> ((refine .cons rfl (q hX rfl ?_)) <;> refine ⟨_, .fw hX.ax rfl rfl rfl rfl rfl rfl rfl rfl (suB rfl) rfl rfl rfl, ?_⟩) <;> (refine .cq hX rfl rfl rfl ?_) <;> ((refine .cons rfl (q hX rfl ?_)) <;> refine ⟨_, .fw hX.ax rfl rfl rfl rfl rfl rfl rfl rfl (suB rfl) rfl rfl rfl, ?_⟩) <;> ((refine .cons rfl (ao rfl rfl rfl rfl HW rfl rfl (fun h f => uy hK hL x.d (by omega) (by omega) h f.wf (f.ro (.of hB))) ?_)) <;> refine ⟨_, .comp rfl, ?_⟩) <;> ((refine .cons rfl (ao rfl rfl rfl rfl HW rfl rfl (fun h f => uy hK hL x.a (by omega) (by omega) h f.wf (f.ro (.of hB))) ?_)) <;> refine ⟨_, .comp rfl, ?_⟩) <;> ((refine .cons rfl (ao rfl rfl rfl rfl HW rfl rfl (fun h f => uy hK hL x.b (by omega) (by omega) h f.wf (f.ro (.of hB))) ?_)) <;> refine ⟨_, .comp rfl, ?_⟩) <;> ((refine .cons rfl (ao rfl rfl rfl rfl Mt rfl rfl (fun h f => Bp hK hL x.cL (by omega) (by omega) h f.wf (f.ro (.of hB))) ?_)) <;> refine ⟨_, .comp rfl, ?_⟩) <;> (iterate 4 refine .cq hX rfl rfl rfl ?_) <;> (refine .nil ⟨?_, .intro rfl ?_⟩ <;> (repeat' (first | exact trivial | exact .inl rfl | exact .inr (.inl ⟨_, _, _, _, rfl, rfl, rfl⟩) | refine ⟨?_, ?_⟩)))) | (refine X 2 ?_; (iterate 2 refine J Z ?_) <;> (refine Y Z ?_)) | (refine X 3 ?_; ((refine .cons (qc Z ?_ ?_)) <;> intro _) <;> (refine J Z ?_) <;> (refine Y Z ?_)) | (refine X 4 ?_; (iterate 4 refine J Z ?_) <;> (refine Y Z ?_)) | (refine X 5 ?_; ((refine .cons (qc Z ?_ ?_)) <;> intro _) <;> (refine J Z ?_) <;> (refine Y Z ?_)) | (refine X 6 ?_; (iterate 4 refine J Z ?_) <;> (refine Y Z ?_)) | (refine X 7 ?_; ((refine .cons (qc Z ?_ ?_)) <;> intro _) <;> (refine J Z ?_) <;> (refine Y Z ?_)) | (refine X 8 ?_; (iterate 3 refine J Z ?_) <;> (refine .cons (ao Z Z Z Z Ms Z Z (fun h f => Bl hK x.op (by omega) (by omega) h f.wf) ?_)) <;> (iterate 3 refine J Z ?_) <;> (refine Y Z ?_)) | (refine X 9 ?_; ((refine .cons (qc Z ?_ ?_)) <;> intro _) <;> (refine J Z ?_) <;> (refine Y Z ?_)) | (refine X 10 ?_; (iterate 4 refine J Z ?_) <;> (refine .cons (ao Z Z Z Z JQ Z Z (fun h f => sU hK x.op (by omega) (by omega) h f.wf) ?_)) <;> (iterate 3 refine J Z ?_) <;> (refine Y Z ?_)) | (refine X 11 ?_; ((refine .cons (qc Z ?_ ?_)) <;> intro _) <;> (refine J Z ?_) <;> (refine Y Z ?_)) | (refine ag.draw (id := 12) ax [0, 2, 3, 1, 4, 5, 6, 7] #[0, 0, 0, 4, 14, 30, 63, 127] (by kernel_rfl) (by kernel_rfl) (by kernel_rfl) ?_; (iterate 2 refine .cq hX rfl rfl rfl ?_) <;> ((refine .cons rfl (q hX rfl ?_)) <;> refine ⟨_, .fw hX.ax rfl rfl rfl rfl rfl rfl rfl rfl (suB rfl) rfl rfl rfl, ?_⟩) <;> ((refine .cons rfl (gq rfl rfl rfl rfl HV rfl rfl (fun h f => lE hK h f.wf) ?_)) <;> (rintro v C' ⟨ks, rfl, rfl⟩) <;> refine ⟨_, .comp rfl, ?_⟩) <;> ((refine .cons rfl (Gn (r := sB (ov.getD x.op.toNat [])) hX rfl rfl rfl rfl rfl (by omega) .h (aN [] (by first | omega | (show x.op.toNat < 4; omega))) rfl rfl rfl ?_)) <;> refine ⟨_, .comp rfl, ?_⟩) <;> (iterate 3 refine .cq hX rfl rfl rfl ?_) <;> (refine .nil ⟨?_, .intro rfl ?_⟩ <;> (repeat' (first | exact trivial | exact .inl rfl | exact .inr (.inl ⟨_, _, _, _, rfl, rfl, rfl⟩) | refine ⟨?_, ?_⟩)))) | (refine X 13 ?_; ((refine .cons (qc Z ?_ ?_)) <;> intro _) <;> (refine J Z ?_) <;> (refine Y Z ?_)) | (refine X 14 ?_; (iterate 4 refine J Z ?_) <;> (refine Y Z ?_)) | (refine X 15 ?_; ((refine .cons (qc Z ?_ ?_)) <;> intro _) <;> (refine J Z ?_) <;> (refine Y Z ?_)) | (refine X 16 ?_; (iterate 5 refine J Z ?_) <;> (refine Y Z ?_)) | (refine X 17 ?_; ((refine .cons (qc Z ?_ ?_)) <;> intro _) <;> (refine J Z ?_) <;> (refine Y Z ?_)) | (refine X 18 ?_; (iterate 5 refine J Z ?_) <;> (refine Y Z ?_)) | (refine X 19 ?_; ((refine .cons (qc Z ?_ ?_)) <;> intro _) <;> (refine J Z ?_) <;> (refine Y Z ?_)) | (refine X 20 ?_; (iterate 2 refine J Z ?_) <;> (refine .cons (ao Z Z Z Z JP Z Z (fun h f => oN hK x.op (hfo (by omega)) h f.wf) ?_)) <;> (iterate 5 refine J Z ?_) <;> (refine Y Z ?_)) | (refine X 21 ?_; ((refine .cons (qc Z ?_ ?_)) <;> intro _) <;> (refine J Z ?_) <;> (refine Y Z ?_)) | (refine X 22 ?_; (iterate 3 refine J Z ?_) <;> (refine Y Z ?_)) | (refine X 23 ?_; ((refine .cons (qc Z ?_ ?_)) <;> intro _) <;> (refine J Z ?_) <;> (refine Y Z ?_)) | (refine X 24 ?_; (iterate 3 refine J Z ?_) <;> (refine .cons (ao Z Z Z Z JP Z Z (fun h f => oN hK x.op (hfo (by omega)) h f.wf) ?_)) <;> (iterate 4 refine J Z ?_) <;> (refine Y Z ?_)) | (refine X 25 ?_; ((refine .cons (qc Z ?_ ?_)) <;> intro _) <;> (refine J Z ?_) <;> (refine Y Z ?_)) | (refine X 26 ?_; (iterate 4 refine J Z ?_) <;> (refine Y Z ?_)) | (refine X 27 ?_; ((refine .cons (qc Z ?_ ?_)) <;> intro _) <;> (refine J Z ?_) <;> (refine Y Z ?_)) | (refine X 28 ?_; (iterate 4 refine J Z ?_) <;> (refine Y Z ?_)) | (refine X 29 ?_; ((refine .cons (qc Z ?_ ?_)) <;> intro _) <;> (refine J Z ?_) <;> (refine Y Z ?_)) | (refine X 30 ?_; (iterate 2 refine J Z ?_) <;> (refine .cons (ao Z Z Z Z AW Z Z (fun h f => ic hL x.to (by omega) (by omega) h f.wf (f.ro (.of hB))) ?_)) <;> (iterate 2 refine J Z ?_) <;> (refine Y Z ?_)) | (refine X 31 ?_; ((refine .cons (qc Z ?_ ?_)) <;> intro _) <;> (refine J Z ?_) <;> (refine Y Z ?_)) | (refine ag.draw (id := 32) ax [0, 1, 2, 4, 5, 3, 6, 7, 8] #[0, 0, 2, 6, 0, 16, 62, 127, 255] (by kernel_rfl) (by kernel_rfl) (by kernel_rfl) ?_; (iterate 2 refine .cq hX rfl rfl rfl ?_) <;> ((refine .cons rfl (q hX rfl ?_)) <;> refine ⟨_, .fw hX.ax rfl rfl rfl rfl rfl rfl rfl rfl (suB rfl) rfl rfl rfl, ?_⟩) <;> (refine .cq hX rfl rfl rfl ?_) <;> ((refine .cons rfl (q hX rfl ?_)) <;> refine ⟨_, .fw hX.ax rfl rfl rfl rfl rfl rfl rfl rfl (suB rfl) rfl rfl rfl, ?_⟩) <;> ((refine .cons rfl (ao rfl rfl rfl rfl AW rfl rfl (fun h f => ic hL x.to (by omega) (by omega) h f.wf (f.ro (.of hB))) ?_)) <;> refine ⟨_, .comp rfl, ?_⟩) <;> ((refine .cons rfl (ao rfl rfl rfl rfl AW rfl rfl (fun h f => ic hL x.join (by omega) (by omega) h f.wf (f.ro (.of hB))) ?_)) <;> refine ⟨_, .comp rfl, ?_⟩) <;> (iterate 2 refine .cq hX rfl rfl rfl ?_) <;> (refine .nil ⟨?_, .intro rfl ?_⟩ <;> (repeat' (first | exact trivial | exact .inl rfl | exact .inr (.inl ⟨_, _, _, _, rfl, rfl, rfl⟩) | refine ⟨?_, ?_⟩)))) | (refine X 33 ?_; (iterate 2 refine J Z ?_) <;> (refine Y Z ?_)) | refine ag.r_ ?_ | refine aw.d_ ?_ | refine aw.f_ ?_ | refine ag.t_ rfl ?_ | refine ag.f_ rfl ?_ | refine ag.k_ ?_ | refine ag.b_ ?_ | refine aw.b_ ?_)
 ·have e : aM x = [rT x.d, [61], aQ x.cL] := by unfold aM; simp only [*, if_true, if_false]; try rfl
  refine aw.eF 1 (fun k => aH 9 1 (.slice k 0 3 (some 3)) (([rT x.d, [61], aQ x.cL] : List (List Nat)).map sB)) rfl (fun k => ew [rT x.d, [61], aQ x.cL] rfl) (fun _ => rfl) rfl fun k => ?_
  exact aw.r_ hX rfl fun h f => ⟨_, f.aS.bx (.cons .h .nil), k, by rw [e]; rfl, by rw [e]; rfl⟩
 ·have e : aM x = [rT x.d, [61], rT x.a] := by unfold aM; simp only [*, if_true, if_false]; try rfl
  refine aw.eF 1 (fun k => aH 9 1 (.slice k 0 3 (some 3)) (([rT x.d, [61], rT x.a] : List (List Nat)).map sB)) rfl (fun k => ew [rT x.d, [61], rT x.a] rfl) (fun _ => rfl) rfl fun k => ?_
  exact aw.r_ hX rfl fun h f => ⟨_, f.aS.bx (.cons .h .nil), k, by rw [e]; rfl, by rw [e]; rfl⟩
 ·have e : aM x = [rT x.d, [61], uT.getD x.op.toNat [], rT x.a] := by unfold aM; simp only [*, if_true, if_false]; try rfl
  refine aw.eF 1 (fun k => aH 9 1 (.slice k 0 4 (some 4)) (([rT x.d, [61], uT.getD x.op.toNat [], rT x.a] : List (List Nat)).map sB)) rfl (fun k => ew [rT x.d, [61], uT.getD x.op.toNat [], rT x.a] rfl) (fun _ => rfl) rfl fun k => ?_
  exact aw.r_ hX rfl fun h f => ⟨_, f.aS.bx (.cons .h .nil), k, by rw [e]; rfl, by rw [e]; rfl⟩
 ·have e : aM x = [rT x.d, [61], rT x.a, bT.getD x.op.toNat [], rT x.b] := by unfold aM; simp only [*, if_true, if_false]; try rfl
  refine aw.eF 1 (fun k => aH 9 1 (.slice k 0 5 (some 5)) (([rT x.d, [61], rT x.a, bT.getD x.op.toNat [], rT x.b] : List (List Nat)).map sB)) rfl (fun k => ew [rT x.d, [61], rT x.a, bT.getD x.op.toNat [], rT x.b] rfl) (fun _ => rfl) rfl fun k => ?_
  exact aw.r_ hX rfl fun h f => ⟨_, f.aS.bx (.cons .h .nil), k, by rw [e]; rfl, by rw [e]; rfl⟩
 ·have e : aM x = [rT x.d, [61], ov.getD x.op.toNat []] := by unfold aM; simp only [*, if_true, if_false]; try rfl
  refine aw.eF 2 (fun k => aH 9 1 (.slice k 0 3 (some 3)) (([rT x.d, [61], ov.getD x.op.toNat []] : List (List Nat)).map sB)) rfl (fun k => ew [rT x.d, [61], ov.getD x.op.toNat []] rfl) (fun _ => rfl) rfl fun k => ?_
  exact aw.r_ hX rfl fun h f => ⟨_, f.aS.bx (.cons .h .nil), k, by rw [e]; rfl, by rw [e]; rfl⟩
 ·have e : aM x = [rT x.d, [61], [112, 97, 114, 97, 109], aQ x.cL] := by unfold aM; simp only [*, if_true, if_false]; try rfl
  refine aw.eF 1 (fun k => aH 9 1 (.slice k 0 4 (some 4)) (([rT x.d, [61], [112, 97, 114, 97, 109], aQ x.cL] : List (List Nat)).map sB)) rfl (fun k => ew [rT x.d, [61], [112, 97, 114, 97, 109], aQ x.cL] rfl) (fun _ => rfl) rfl fun k => ?_
  exact aw.r_ hX rfl fun h f => ⟨_, f.aS.bx (.cons .h .nil), k, by rw [e]; rfl, by rw [e]; rfl⟩
 ·have e : aM x = [rT x.d, [61], [97, 114, 114, 97, 121], aQ x.cL, rT x.a] := by unfold aM; simp only [*, if_true, if_false]; try rfl
  refine aw.eF 1 (fun k => aH 9 1 (.slice k 0 5 (some 5)) (([rT x.d, [61], [97, 114, 114, 97, 121], aQ x.cL, rT x.a] : List (List Nat)).map sB)) rfl (fun k => ew [rT x.d, [61], [97, 114, 114, 97, 121], aQ x.cL, rT x.a] rfl) (fun _ => rfl) rfl fun k => ?_
  exact aw.r_ hX rfl fun h f => ⟨_, f.aS.bx (.cons .h .nil), k, by rw [e]; rfl, by rw [e]; rfl⟩
 ·have e : aM x = [[97, 114, 114, 97, 121], aQ x.cL, rT x.a, [61], rT x.b] := by unfold aM; simp only [*, if_true, if_false]; try rfl
  refine aw.eF 1 (fun k => aH 9 1 (.slice k 0 5 (some 5)) (([[97, 114, 114, 97, 121], aQ x.cL, rT x.a, [61], rT x.b] : List (List Nat)).map sB)) rfl (fun k => ew [[97, 114, 114, 97, 121], aQ x.cL, rT x.a, [61], rT x.b] rfl) (fun _ => rfl) rfl fun k => ?_
  exact aw.r_ hX rfl fun h f => ⟨_, f.aS.bx (.cons .h .nil), k, by rw [e]; rfl, by rw [e]; rfl⟩
 ·have e : aM x = [[97, 116, 111, 109, 105, 99], fT x.op, [97, 114, 114, 97, 121], aQ x.cL, rT x.a, rT x.b] := by unfold aM; simp only [*, if_true, if_false]; try rfl
  refine aw.eF 1 (fun k => aH 9 1 (.slice k 0 6 (some 6)) (([[97, 116, 111, 109, 105, 99], fT x.op, [97, 114, 114, 97, 121], aQ x.cL, rT x.a, rT x.b] : List (List Nat)).map sB)) rfl (fun k => ew [[97, 116, 111, 109, 105, 99], fT x.op, [97, 114, 114, 97, 121], aQ x.cL, rT x.a, rT x.b] rfl) (fun _ => rfl) rfl fun k => ?_
  exact aw.r_ hX rfl fun h f => ⟨_, f.aS.bx (.cons .h .nil), k, by rw [e]; rfl, by rw [e]; rfl⟩
 ·have e : aM x = [[98, 97, 114, 114, 105, 101, 114], aQ x.cL] := by unfold aM; simp only [*, if_true, if_false]; try rfl
  refine aw.eF 1 (fun k => aH 9 1 (.slice k 0 2 (some 2)) (([[98, 97, 114, 114, 105, 101, 114], aQ x.cL] : List (List Nat)).map sB)) rfl (fun k => ew [[98, 97, 114, 114, 105, 101, 114], aQ x.cL] rfl) (fun _ => rfl) rfl fun k => ?_
  exact aw.r_ hX rfl fun h f => ⟨_, f.aS.bx (.cons .h .nil), k, by rw [e]; rfl, by rw [e]; rfl⟩
 ·have e : aM x = [rT x.d, [61], [99, 111, 108, 108, 101, 99, 116], fT x.op, rT x.a, aQ x.cL] := by unfold aM; simp only [*, if_true, if_false]; try rfl
  refine aw.eF 1 (fun k => aH 9 1 (.slice k 0 6 (some 6)) (([rT x.d, [61], [99, 111, 108, 108, 101, 99, 116], fT x.op, rT x.a, aQ x.cL] : List (List Nat)).map sB)) rfl (fun k => ew [rT x.d, [61], [99, 111, 108, 108, 101, 99, 116], fT x.op, rT x.a, aQ x.cL] rfl) (fun _ => rfl) rfl fun k => ?_
  exact aw.r_ hX rfl fun h f => ⟨_, f.aS.bx (.cons .h .nil), k, by rw [e]; rfl, by rw [e]; rfl⟩
 ·have e : aM x = [rT x.d, [61], [108, 111, 99, 97, 108], aQ x.cL] := by unfold aM; simp only [*, if_true, if_false]; try rfl
  refine aw.eF 1 (fun k => aH 9 1 (.slice k 0 4 (some 4)) (([rT x.d, [61], [108, 111, 99, 97, 108], aQ x.cL] : List (List Nat)).map sB)) rfl (fun k => ew [rT x.d, [61], [108, 111, 99, 97, 108], aQ x.cL] rfl) (fun _ => rfl) rfl fun k => ?_
  exact aw.r_ hX rfl fun h f => ⟨_, f.aS.bx (.cons .h .nil), k, by rw [e]; rfl, by rw [e]; rfl⟩
 ·have e : aM x = [[108, 111, 99, 97, 108], aQ x.cL, [61], rT x.a] := by unfold aM; simp only [*, if_true, if_false]; try rfl
  refine aw.eF 1 (fun k => aH 9 1 (.slice k 0 4 (some 4)) (([[108, 111, 99, 97, 108], aQ x.cL, [61], rT x.a] : List (List Nat)).map sB)) rfl (fun k => ew [[108, 111, 99, 97, 108], aQ x.cL, [61], rT x.a] rfl) (fun _ => rfl) rfl fun k => ?_
  exact aw.r_ hX rfl fun h f => ⟨_, f.aS.bx (.cons .h .nil), k, by rw [e]; rfl, by rw [e]; rfl⟩
 ·have e : aM x = [[106, 117, 109, 112], aQ x.to] := by unfold aM; simp only [*, if_true, if_false]; try rfl
  refine aw.eF 1 (fun k => aH 9 1 (.slice k 0 2 (some 2)) (([[106, 117, 109, 112], aQ x.to] : List (List Nat)).map sB)) rfl (fun k => ew [[106, 117, 109, 112], aQ x.to] rfl) (fun _ => rfl) rfl fun k => ?_
  exact aw.r_ hX rfl fun h f => ⟨_, f.aS.bx (.cons .h .nil), k, by rw [e]; rfl, by rw [e]; rfl⟩
 ·have e : aM x = [[98, 114, 97, 110, 99, 104], rT x.a, aQ x.to, [106, 111, 105, 110], aQ x.join] := by unfold aM; simp only [*, if_true, if_false]; try rfl
  refine aw.eF 1 (fun k => aH 9 1 (.slice k 0 5 (some 5)) (([[98, 114, 97, 110, 99, 104], rT x.a, aQ x.to, [106, 111, 105, 110], aQ x.join] : List (List Nat)).map sB)) rfl (fun k => ew [[98, 114, 97, 110, 99, 104], rT x.a, aQ x.to, [106, 111, 105, 110], aQ x.join] rfl) (fun _ => rfl) rfl fun k => ?_
  exact aw.r_ hX rfl fun h f => ⟨_, f.aS.bx (.cons .h .nil), k, by rw [e]; rfl, by rw [e]; rfl⟩
 ·have e : aM x = [[101, 120, 105, 116]] := by unfold aM; simp only [*, if_true, if_false]; try rfl
  refine aw.eF 1 (fun k => aH 9 1 (.slice k 0 1 (some 1)) (([[101, 120, 105, 116]] : List (List Nat)).map sB)) rfl (fun k => ew [[101, 120, 105, 116]] rfl) (fun _ => rfl) rfl fun k => ?_
  exact aw.r_ hX rfl fun h f => ⟨_, f.aS.bx (.cons .h .nil), k, by rw [e]; rfl, by rw [e]; rfl⟩
end Ev
end Go.HL
