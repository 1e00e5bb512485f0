/- The walk: strings.Builder, the parts of the program's lines. No statement of the seat stands here. -/
import Derived.Test.YtngeipnhbigdmaaGreatDoorVB
import Derived.Test.YtngeipnhbigdmaaGreatDoorXC
set_option linter.unusedVariables false
set_option linter.unusedSimpArgs false
namespace Go.HL
open Go Go.Proofs
namespace Ev
open Em
set_option maxRecDepth 10000
noncomputable section
variable {K : ah} {base : List (Nat × aG)}
theorem vN (n c : Nat) : ∀ (i m : Nat), fx n c i m = byteCells (Ae n c i m)
 | _, 0 => rfl
 | i, m + 1 => by
  show _ :: fx n c (Nat.succ i) m = _
  rw [vN n c (Nat.succ i) m]; rfl
theorem B3 {l : List Nat} (h : ∀ x ∈ l, x < 256) : fx l.length (aO l 0) 0 l.length = byteCells l := by rw [vN, pf h]
def tP (u : Bool) (k : Nat) : aa := ae u (.ptr k 0) .gi
def HY (k : Nat) (u : Bool) (v : aa) (bs : List Nat) : Part where
 dR j := j = k ∨ wA v = some j
 holds h := (eR k [tP u k, v] 142 false).holds h ∧ (aL 5 1 v (bs.map gQ)).holds h ∧ wA v ≠ some k
 loc e hh := ⟨(eR k _ 142 false).loc (fun j hj => e j (.inl hj)) hh.1, (aL 5 1 v _).loc (fun j hj => e j (.inr hj)) hh.2.1, hh.2.2⟩
 live hh hk := hk.elim (fun hk => (eR k _ 142 false).live hh.1 hk) fun hk => (aL 5 1 v _).live hh.2.1 hk
theorem zg (k : Nat) (u : Bool) (v : aa) (bs : List Nat) : At (HY k u v bs) [eR k [tP u k, v] 142 false, aL 5 1 v (bs.map gQ)] := by
 refine ⟨fun h hh r hr => ?_, fun h hh => ?_, fun r hr j hj => ?_⟩
 ·rcases List.mem_cons.1 hr with rfl | hr
  ·exact hh.1
  ·rw [List.mem_singleton.1 hr]; exact hh.2.1
 ·refine List.pairwise_cons.2 ⟨fun r hr j hj hrj => ?_, List.pairwise_singleton _ _⟩
  rw [List.mem_singleton.1 hr] at hrj
  have e : j = k := hj
  subst e
  exact hh.2.2 hrj
 ·rcases List.mem_cons.1 hr with rfl | hr
  ·exact .inl hj
  ·rw [List.mem_singleton.1 hr] at hj; exact .inr hj
theorem Ke {C R : List Part} {h0 h : Heap} {k : Nat} {u : Bool} {v : aa} {bs : List Nat} (d : fU C h0 (eR k [tP u k, v] 142 false :: aL 5 1 v (bs.map gQ) :: R) h) : fU C h0 (HY k u v bs :: R) h := by
 refine fU.join (Ds := [eR k [tP u k, v] 142 false, aL 5 1 v (bs.map gQ)]) d (fun ha hp => ⟨ha _ (by simp), ha _ (by simp), fun e => ?_⟩) fun j hj => ?_
 ·exact (List.pairwise_cons.1 hp).1 (aL 5 1 v (bs.map gQ)) (by simp) k rfl e
 ·rcases hj with hj | hj
  ·exact ⟨eR k [tP u k, v] 142 false, by simp, hj⟩
  ·exact ⟨aL 5 1 v (bs.map gQ), by simp, hj⟩
theorem Kd (k : Nat) : oF k [.gi, .aC] 142 false (HY k false .aC []) :=
 ⟨fun h hh => ⟨hh, EZ 5 1 h, by simp [wA]⟩, fun j hj => by
  rcases hj with hj | hj
  ·exact hj
  ·simp [wA] at hj⟩
theorem Oh : P.underlying 139 = some (.pointer 142) := Tryz.underlying139
theorem Og : P.underlying 339 = some .unsafePointer := Tryz.underlying339
theorem Q8 : P.underlying 228 = some (.pointer 5) := Tryz.underlying228
theorem u5 : P.underlying 5 = some (.int .u8) := Tryz.underlying5
theorem c5 : P.cellsOf 5 = 1 := by kernel_rfl
theorem NR : Nat.beq (P.cellsOf 142) 0 = false := by kernel_rfl
theorem La : liesAt P P.depth 142 (Nat.div 2 (P.cellsOf 142)) 0 142 1 = true := by kernel_rfl
theorem Eb (k : Nat) (lit : Bool) : kc P .eql 139 lit (.ptr k 0) .gi = some (.bool false) := by
 simp [kc, df, wY, heq]
theorem KZ (k : Nat) (lit : Bool) : kc P .neq 139 lit (.ptr k 0) (.ptr k 0) = some (.bool false) := by
 simp [kc, df, wY, heq, NR]
theorem Ec (lit : Bool) : kc P .eql 139 lit .gi .gi = some (.bool true) := by
 simp [kc, df, wY, heq]
theorem y0 (hK : KN base K) (k : Nat) (u : Bool) (v : aa) (h : Heap) (w : Wf h) (hg : (eR k [tP u k, v] 142 false).holds h) : Sp P K 136 [.ptr k 0] h (Mx (eR k [tP u k, v] 142 false) (fun r C => r = .tuple [] ∧ C = [eR k [.ptr k 0, v] 142 false]) h) := by
 cases u with
 | true =>
  have hg : (eR k [.ptr k 0, v] 142 false).holds h := hg
  refine Sp.mn (m := 524353) (n := 20) w hg (hK.none 136 rfl rfl _ _) Tryz.func136 rfl rfl Fc rfl rfl ?_
  repeat' (first | refine ax.a_ ?_ | refine ai.s_ ?_ | (refine X 0 ?_; (iterate 3 refine J Z ?_) <;> (refine .cons (Gl (off := 0) hX Z Z Z Z .h Z Z Z ?_)) <;> (refine .cons (ML Z Z Z (Eb k) Z Z ?_)) <;> (refine Y Z ?_)) | (refine X 2 ?_; (iterate 3 refine J Z ?_) <;> (refine .cons (Gl (off := 0) hX Z Z Z Z .h Z Z Z ?_)) <;> (refine J Z ?_) <;> (refine .cons (ML Z Z Z (KZ k) Z Z ?_)) <;> (refine Y Z ?_)) | refine ai.f_ rfl ?_ | refine ai.k_ ?_ | refine ax.n_ hX rfl ?_)
  exact fun h f => ⟨_, f.aZ, rfl, rfl⟩
 | false =>
  have hg : (eR k [.gi, v] 142 false).holds h := hg
  refine Sp.mn (m := 524353) (n := 20) w hg (hK.none 136 rfl rfl _ _) Tryz.func136 rfl rfl Fc rfl rfl ?_
  repeat' (first | refine ax.a_ ?_ | refine ai.s_ ?_ | (refine X 0 ?_; (iterate 3 refine J Z ?_) <;> (refine .cons (Gl (off := 0) hX Z Z Z Z .h Z Z Z ?_)) <;> (refine .cons (ML Z Z Z Ec Z Z ?_)) <;> (refine Y Z ?_)) | (refine X 1 ?_; (iterate 2 refine J Z ?_) <;> (refine .cons (Qg (v := .gi) Z Oh Og NR Z .h Z Z Z ?_)) <;> (refine .cons (qne Z Z Z Z Z Tryz.func237 Z Z Z Z Z Z ?_)) <;> (refine .cons (Qf Z Og Oh NR Z La Z .h Z Z ?_)) <;> (iterate 2 refine J Z ?_) <;> (refine .cons (Ox hX Z Z Z Z Z .h Z Z Z Z ?_)) <;> (refine Y Z ?_)) | refine ai.t_ rfl ?_ | refine ax.n_ hX rfl ?_)
  exact fun h f => ⟨_, f.aZ, rfl, rfl⟩
theorem nw (hK : KN base K) (k : Nat) (u : Bool) (v : aa) (bs s : List Nat) (hs : 0 < s.length) (hb : ∀ x ∈ s, x < 256) (hl : bs.length + s.length ≤ 1000000) (h : Heap) (w : Wf h) (hg : (HY k u v bs).holds h) :
  Sp P K 68 [.ptr k 0, aY s] h (Mx (HY k u v bs) (fun r C => ∃ k2, C = [HY k true (.slice k2 0 (bs.length + s.length) none) (bs ++ s)]) h) := by
 refine Sp.mn (m := 51) (n := 19) w hg (hK.none 68 rfl rfl _ _) Tryz.func68 rfl rfl (by kernel_rfl) rfl rfl ?_
 refine ai.split (zg k u v bs) .h rfl ?_
 repeat' (first | refine ax.a_ ?_ | refine ai.s_ ?_ | (refine X 0 ?_; (iterate 2 refine J Z ?_) <;> (refine Y Z ?_)) | (refine X 1 ?_; (refine J Z ?_) <;> ((refine .cons (la Z Z Z Z Pu Z Z (by repeat (first | exact .h | apply aS.t)) Z (fun h f hg ro rg => y0 hK k u v h f.wf hg) ?_)) <;> (rintro v C' ⟨rfl, rfl⟩)) <;> (refine Y Z ?_)) | (refine X 2 ?_; (iterate 4 refine J Z ?_) <;> (refine .cons (Gl (off := 1) hX Z Z Z Z .h Z Z Z ?_)) <;> (refine J Z ?_) <;> (refine .cons (OB s hX Z Z Z Z Z Z Z Z Z Z Z b5 Z Z Z Z (B3 hb) hs (.t .h) Z (by simp only [List.length_map]; omega) Z Z fun k2 => ?_)) <;> (iterate 2 refine J Z ?_) <;> (refine .cons (Ox hX Z Z Z Z Z (.t .h) Z Z Z Z ?_)) <;> (refine Y Z ?_)) | (refine X 3 ?_; (iterate 4 refine J Z ?_) <;> (refine Y Z ?_)) | refine ai.r_ ?_ | refine ax.r_ hX rfl ?_)
 refine fun h f => ⟨_, Ke (u := true) (v := .slice k2 0 (bs.length + s.length) none) (bs := bs ++ s) (R := []) ?_, k2, rfl⟩
 have e : (bs ++ s).map gQ = bs.map gQ ++ s.map gQ := List.map_append
 have c := f.aZ
 rw [e]
 simp only [List.length_map] at c
 exact c
theorem Kc (hK : KN base K) (k k2 n : Nat) (u : Bool) (bs : List Nat) (hn : n = bs.length) (hs : 0 < bs.length) (hb : ∀ x ∈ bs, x < 256) (hl : bs.length ≤ 1000000) (h : Heap) (w : Wf h) (hg : (HY k u (.slice k2 0 n none) bs).holds h) :
  Sp P K 72 [.ptr k 0] h (Mx (HY k u (.slice k2 0 n none) bs) (fun r C => r = aY bs ∧ C = [eR k [tP u k, .slice k2 0 n none] 142 false]) h) := by
 subst hn
 refine Sp.mn (m := 5) (n := 14) w hg (hK.none 72 rfl rfl _ _) Tryz.func72 rfl rfl (by kernel_rfl) rfl rfl ?_
 refine ai.split (zg k u _ bs) .h rfl ?_
 repeat' (first | refine ax.a_ ?_ | refine ai.s_ ?_ | (refine X 0 ?_; (refine J Z ?_) <;> (refine Y Z ?_)) | (refine ai.draw (id := 1) aw [0, 1, 2, 3, 5, 6, 7, 8, 9, 4, 10, 11] #[0, 1, 3, 7, 15, 0, 32, 96, 224, 480, 1023, 2047] (by kernel_rfl) (by kernel_rfl) (by kernel_rfl) ?_; (iterate 3 refine O Z Z Z ?_) <;> ((refine .cons Z (Gl (off := 1) hX Z Z Z Z .h Z Z Z ?_)) <;> refine ⟨_, .CL hX.aw Z Z Z Z (by repeat (first | exact .h | apply aS.t)) Z Z Z (suB Z) Z Z Z, ?_⟩) <;> (iterate 3 refine O Z Z Z ?_) <;> ((refine .cons Z (Gl (off := 1) hX Z Z Z Z .h Z Z Z ?_)) <;> refine ⟨_, .CL hX.aw Z Z Z Z (by repeat (first | exact .h | apply aS.t)) Z Z Z (suB Z) Z Z Z, ?_⟩) <;> ((refine .cons Z (q hX Z ?_)) <;> refine ⟨_, .QX hX.aw Z Z Z Z Z Z Z Z Z Z Z Z, ?_⟩) <;> ((refine .cons Z (qsd Z Z Z Z hs Z Z ?_)) <;> refine W_ Z ?_) <;> ((refine .cons Z (qus Z Z Z Z Q8 u5 c5 Z Z Z Z (.t .h) hs (by omega) hb Z Z Z ?_)) <;> refine W_ Z ?_) <;> (refine O Z Z Z ?_) <;> (refine .nil ⟨?_, .intro Z ?_⟩ <;> (repeat' (first | exact trivial | exact .inl Z | exact .inr (.inr ⟨_, _, _, Z, (by repeat (first | exact .h | apply aS.t)), (by repeat (first | exact .h | apply aS.t))⟩) | refine ⟨?_, ?_⟩)))) | refine ai.r_ ?_ | refine ax.r_ hX rfl ?_)
 exact fun h f => ⟨_, f.aZ, rfl, rfl⟩
end
end Ev
end Go.HL
namespace Go.HL
open Go Go.Proofs
namespace Ev
open Em
set_option maxRecDepth 10000
variable {K : ah} {base : List (Nat × aG)}
theorem iG (hL : KL base K) (n : Int) (h1 : -4294967296 < n) (h2 : n < 4294967296) (h : Heap) (w : Wf h) (hB : (lies base).holds h) : Sp P K 70 [.int .i64 n] h (iw (aY (aQ n)) h) := Sp.known (hL.itoa h n hB h1 h2) ⟨rfl, fU.refl w⟩
theorem Jk (hL : KL base K) (s : aa) (l : List (List Nat)) (hne : l ≠ []) (hb : ∀ x ∈ l, ∀ b ∈ x, b < 256) (hl : (aJ l).length ≤ 1000000) (hll : l.length ≤ 1000000) (h : Heap) (w : Wf h) (hs : (rd s 1 (l.map sB)).holds h) : Sp P K 137 [s, .str 1 32] h (iw (aY (aJ l)) h) := Sp.known (hL.join h s l hne hb hl hll hs) ⟨rfl, fU.refl w⟩
theorem lO (hK : KN base K) (hL : KL base K) (s : aa) (l : List (List Nat)) {t : List Nat} (ht : aJ l ++ [10] = t) (hne : l ≠ []) (hb : ∀ x ∈ l, ∀ b ∈ x, b < 256) (hl : (aJ l).length ≤ 1000) (hll : l.length ≤ 1000) (h : Heap) (w : Wf h) (hs : (rd s 1 (l.map sB)).holds h) : Sp P K 69 [s] h (iw (aY t) h) := by
 subst ht
 refine Sp.start (m := 5) (n := 6) w (hK.none 69 rfl rfl _ _) Tryz.func69 rfl rfl (by kernel_rfl) rfl rfl ?_
 repeat' (first | refine ax.a_ ?_ | refine ai.s_ ?_ | (refine X 0 ?_; (refine J Z ?_) <;> (refine Y Z ?_)) | (refine X 1 ?_; (refine J Z ?_) <;> (refine .cons (aE Z Z Z Z Pt Z Z (fun h f => Jk hL s l hne hb (by omega) (by omega) h f.wf (f.ro (.of hs))) ?_)) <;> (refine .cons (MK (b := [10]) Z Z Z (by simp only [List.length_singleton]; omega) Z Z ?_)) <;> (refine J Z ?_) <;> (refine Y Z ?_)) | refine ai.r_ ?_ | refine ax.r_ hX rfl ?_)
 exact fun h f => ⟨rfl, f.aZ⟩
theorem vU (hK : KN base K) (hL : KL base K) (n : Int) (h1 : -4294967296 < n) (h2 : n < 4294967296) (h : Heap) (w : Wf h) (hB : (lies base).holds h) : Sp P K 139 [.int .i64 n] h (iw (aY (rT n)) h) := by
 have hl := eY h1 h2
 refine Sp.start (m := 5) (n := 6) w (hK.none 139 rfl rfl _ _) Tryz.func139 rfl rfl (by kernel_rfl) rfl rfl ?_
 repeat' (first | refine ax.a_ ?_ | refine ai.s_ ?_ | (refine X 0 ?_; (refine J Z ?_) <;> (refine Y Z ?_)) | (refine X 1 ?_; (refine J Z ?_) <;> (refine .cons (aE Z Z Z Z Cr Z Z (fun h f => iG hL n h1 h2 h f.wf (f.ro (.of hB))) ?_)) <;> (refine .cons (MK (a := [114]) Z Z Z (by simp only [List.length_singleton]; omega) Z Z ?_)) <;> (refine J Z ?_) <;> (refine Y Z ?_)) | refine ai.r_ ?_ | refine ax.r_ hX rfl ?_)
 exact fun h f => ⟨rfl, f.aZ⟩
theorem CZ (hK : KN base K) (hL : KL base K) (n : Int) (h1 : -4294967296 < n) (h2 : n < 4294967296) (h : Heap) (w : Wf h) (hB : (lies base).holds h) : Sp P K 140 [.int .i32 n] h (iw (aY (aQ n)) h) := by
 refine Sp.start (m := 5) (n := 6) w (hK.none 140 rfl rfl _ _) Tryz.func140 rfl rfl (by kernel_rfl) rfl rfl ?_
 repeat' (first | refine ax.a_ ?_ | refine ai.s_ ?_ | (refine X 0 ?_; (refine J Z ?_) <;> (refine Y Z ?_)) | (refine X 1 ?_; (refine J Z ?_) <;> (refine .cons (qw hX Z Z Z Z (wI (by omega) (by omega)) Z Z ?_)) <;> (refine .cons (aE Z Z Z Z Cr Z Z (fun h f => iG hL n h1 h2 h f.wf (f.ro (.of hB))) ?_)) <;> (refine J Z ?_) <;> (refine Y Z ?_)) | refine ai.r_ ?_ | refine ax.r_ hX rfl ?_)
 exact fun h f => ⟨rfl, f.aZ⟩
def NZ (l : List (List Nat)) (v : aa) (C : List Part) : Prop := ∃ k, v = .slice k 0 l.length (some l.length) ∧ C = [aL 9 1 (.slice k 0 l.length (some l.length)) (l.map sB)]
theorem ft {k e : Nat} {lc : List aa} {s : Bool} (l : List (List Nat)) (hl : (l.map sB).flatten = lc) : oF k lc e s (aL 9 1 (.slice k 0 l.length (some l.length)) (l.map sB)) :=
 .own hl (by intro r hr; obtain ⟨q, _, rfl⟩ := List.mem_map.1 hr; rfl) (by simp)
theorem mq (hK : KN base K) (h : Heap) (w : Wf h) : Sp P K 143 [] h (Tr (NZ qF) h) := by
 refine Sp.start (m := 1) (n := 2) w (hK.none 143 rfl rfl _ _) Tryz.func143 rfl rfl (by kernel_rfl) rfl rfl ?_
 repeat' (first | refine ax.a_ ?_ | refine ai.s_ ?_ | (refine X 0 ?_; (refine J Z ?_) <;> (refine Y Z ?_)) | (refine X 1 ?_; (iterate 2 refine J Z ?_) <;> (refine Y Z ?_)) | refine ai.r_ ?_)
 refine ax.gD 0 (fun k => aL 9 1 (.slice k 0 4 (some 4)) (qF.map sB)) rfl (fun k => ft qF rfl) (fun _ => rfl) rfl fun k => ?_
 exact ax.r_ hX rfl fun h f => ⟨_, f.aZ, _, rfl, rfl⟩
def BW : List (List Nat) := [[97, 100, 100], [109, 105, 110], [109, 97, 120], [97, 110, 100], [111, 114], [120, 111, 114]]
def Kw : List Nat := [0, 18, 19, 5, 6, 7]
abbrev nB (n : Nat) : List aa := [i64 n]
theorem p5 (hK : KN base K) (h : Heap) (w : Wf h) : Sp P K 163 [] h (Tr (fun v C => ∃ k k2, v = .tuple [.slice k 0 6 (some 6), .slice k2 0 6 (some 6)] ∧ C = [aL 3 1 (.slice k2 0 6 (some 6)) (Kw.map nB), aL 9 1 (.slice k 0 6 (some 6)) (BW.map sB)]) h) := by
 refine Sp.start (m := 3) (n := 4) w (hK.none 163 rfl rfl _ _) Tryz.func163 rfl rfl (by kernel_rfl) rfl rfl ?_
 repeat' (first | refine ax.a_ ?_ | refine ai.s_ ?_ | (refine X 0 ?_; (iterate 2 refine J Z ?_) <;> (refine Y Z ?_)) | (refine X 1 ?_; (iterate 4 refine J Z ?_) <;> (refine Y Z ?_)) | refine ai.r_ ?_)
 refine ax.gD 0 (fun k => aL 9 1 (.slice k 0 6 (some 6)) (BW.map sB)) rfl (fun k => ft BW rfl) (fun _ => rfl) rfl fun k => ?_
 refine ax.gD 1 (fun k => aL 3 1 (.slice k 0 6 (some 6)) (Kw.map nB)) rfl (fun k => .own rfl (by intro r hr; obtain ⟨q, _, rfl⟩ := List.mem_map.1 hr; rfl) rfl) (fun _ => rfl) rfl fun k2 => ?_
 exact ax.r_ hX rfl fun h f => ⟨_, f.aZ, _, _, rfl, rfl⟩
theorem P0 : ∀ a, a < 6 → fT ((Kw.getD a 0 : Nat) : Int) = BW.getD a [] := by decide
theorem pL (hK : KN base K) (n : Int) (hn : n = 0 ∨ n = 18 ∨ n = 19 ∨ n = 5 ∨ n = 6 ∨ n = 7) (h : Heap) (w : Wf h) : Sp P K 144 [.int .i64 n] h (iw (aY (fT n)) h) := by
 refine Sp.start (m := 1079421) (n := 26) w (hK.none 144 rfl rfl _ _) Tryz.func144 rfl rfl L7 rfl rfl ?_
 repeat' (first | refine ax.a_ ?_ | refine ai.s_ ?_ | (refine X 0 ?_; (refine J Z ?_) <;> (refine Y Z ?_)) | (refine X 1 ?_; ((refine .cons (fD Z Z Z Z Mr Z Z (fun h f => p5 hK h f.wf) ?_)) <;> (rintro v C' ⟨k, k2, rfl, rfl⟩)) <;> (iterate 5 refine J Z ?_) <;> (refine Y Z ?_)) | (refine X 2 ?_; (iterate 3 refine J Z ?_) <;> (refine Y Z ?_)) | refine ai.b_ ?_)
 refine ai.loop (fun a => [(13, .ext (i64 a)), (12, .ext (i64 6)), (11, .ext (.slice k2 0 6 (some 6))), (4, .ext (.slice k2 0 6 (some 6))), (3, .ext (.slice k 0 6 (some 6))), (0, .ext (.int .i64 n))]) (fun _ => []) (fun _ => [aL 3 1 (.slice k2 0 6 (some 6)) (Kw.map nB), aL 9 1 (.slice k 0 6 (some 6)) (BW.map sB)]) (fun a => a ≤ 6 ∧ ∀ j, j < a → n ≠ ((Kw.getD j 0 : Nat) : Int)) (fun a => 6 - a) 0 ⟨⟨rfl, rfl, rfl, rfl, rfl, rfl, trivial⟩, ⟨_, rfl⟩, ⟨_, .cons .h (.cons .h .nil)⟩⟩ ⟨Nat.zero_le _, fun j hj => absurd hj (by omega)⟩ (fun _ => rfl) (fun _ => rfl) (fun _ => rfl) ?_
 rintro a ⟨ha, hne⟩ next
 repeat' (first | refine ax.a_ ?_ | refine ai.s_ ?_ | (refine X 3 ?_; ((refine .cons (qc Z ?_ ?_)) <;> intro _) <;> (refine Y Z ?_)) | (refine X 8 ?_; (refine J Z ?_) <;> (refine Y Z ?_)) | refine ai.r_ ?_ | refine ai.t_ rfl ?_ | refine ai.f_ rfl ?_ | refine ai.k_ ?_ | refine ai.b_ ?_ | refine ai.e_ ?_ | refine ax.e_ ?_ | refine ax.c_ ?_ | refine ax.r_ hX rfl ?_)
 ·have ha6 : a < 6 := by omega
  repeat' (first | refine ax.a_ ?_ | refine ai.s_ ?_ | (refine X 4 ?_; (refine J Z ?_) <;> (refine .cons (qW (r := nB (Kw.getD a 0)) hX Z Z Z Z Z .h (aM 0 ha6) Z Z Z ?_)) <;> (iterate 3 refine J Z ?_) <;> (refine Y Z ?_)) | (refine X 5 ?_; (iterate 2 refine J Z ?_) <;> ((refine .cons (qc Z ?_ ?_)) <;> intro _) <;> (refine Y Z ?_)) | (refine X 6 ?_; (iterate 2 refine J Z ?_) <;> (refine .cons (qW (r := sB (BW.getD a [])) hX Z Z Z Z Z (.t .h) (aM [] ha6) Z Z Z ?_)) <;> (iterate 2 refine J Z ?_) <;> (refine Y Z ?_)) | (refine X 7 ?_; (refine .cons (qa Z Z Z Z Z (wI (by first | omega | (simp only [Int.ofNat_eq_natCast]; omega)) (by first | omega | (simp only [Int.ofNat_eq_natCast]; omega))) Z Z ?_)) <;> (refine J Z ?_) <;> (refine Y Z ?_)) | refine ai.r_ ?_ | refine ax.d_ ?_ | refine ax.f_ ?_ | refine ai.t_ rfl ?_ | refine ai.f_ rfl ?_ | refine ai.k_ ?_ | refine ax.b_ ?_ | refine ax.r_ hX rfl ?_)
  ·rename_i e
   exact fun h f => ⟨by rw [← e, P0 a ha6]; rfl, f.aZ.bu .nil⟩
  ·rename_i e
   refine next (a + 1) _ _ _ (by omega) ⟨⟨rfl, rfl, rfl, rfl, rfl, rfl, trivial⟩, ⟨_, rfl⟩, ⟨_, .cons .h (.cons .h .nil)⟩⟩ ⟨by omega, fun j hj => ?_⟩
   by_cases hja : j = a
   ·rw [hja]; exact fun hn => e hn.symm
   ·exact hne j (by omega)
 ·have ha6 : a = 6 := by omega
  subst ha6
  have h0 := hne 0 (by omega)
  have h1 := hne 1 (by omega)
  have h2 := hne 2 (by omega)
  have h3 := hne 3 (by omega)
  have h4 := hne 4 (by omega)
  have h5 := hne 5 (by omega)
  simp [Kw] at h0 h1 h2 h3 h4 h5
  omega
theorem CU (hK : KN base K) (n : Int) (h1 : 0 ≤ n) (h2 : n < 3) (h : Heap) (w : Wf h) : Sp P K 141 [.int .i64 n] h (iw (aY (uT.getD n.toNat [])) h) := by
 obtain ⟨k, rfl⟩ := Int.eq_ofNat_of_zero_le h1
 obtain rfl | rfl | rfl : k = 0 ∨ k = 1 ∨ k = 2 := by omega
 all_goals
  refine Sp.start (m := 261) (n := 12) w (hK.none 141 rfl rfl _ _) Tryz.func141 rfl rfl (by kernel_rfl) rfl rfl ?_
  repeat' (first | refine ax.a_ ?_ | refine ai.s_ ?_ | (refine X 0 ?_; (refine J Z ?_) <;> (refine Y Z ?_)) | (refine X 1 ?_; (refine J Z ?_) <;> ((refine .cons (qc Z ?_ ?_)) <;> intro _) <;> (iterate 4 refine J Z ?_) <;> (refine Y Z ?_)) | (refine X 2 ?_; (refine J Z ?_) <;> (refine Y Z ?_)) | (refine X 3 ?_; (iterate 2 refine J Z ?_) <;> (refine .cons (Qe hX Z Z Z Z Z Z Z Z Z Z ?_)) <;> (refine J Z ?_) <;> (refine Y Z ?_)) | refine ai.r_ ?_ | refine ax.d_ ?_ | refine ai.t_ rfl ?_ | refine ai.f_ rfl ?_ | refine ai.k_ ?_ | refine ax.r_ hX rfl ?_)
  all_goals first | exact fun h f => ⟨rfl, f.aZ⟩ | (exfalso; omega)
def ruF : List Nat := [256, 257, 258, 259, 260, 261, 262, 263, 264, 265, 266, 267, 269, 270, 271, 272, 273, 274, 275, 276]
def ruK : List Nat := [1, 0, 1, 0, 0, 1, 1, 1, 0, 0, 0, 0, 0, 1, 1, 0, 1, 1, 1, 1]
abbrev Oq (k : Nat) : List aa := [aY (bT.getD k []), .func (ruF.getD k 0) [] [], i64 (ruK.getD k 0)]
theorem Gg (hK : KN base K) (h : Heap) (w : Wf h) : Sp P K 166 [] h (Tr (fun v C => ∃ k, v = .slice k 0 20 (some 20) ∧ C = [aL 247 3 (.slice k 0 20 (some 20)) ((List.range 20).map Oq)]) h) := by
 refine Sp.start (m := 1) (n := 22) w (hK.none 166 rfl rfl _ _) Tryz.func166 rfl rfl (by kernel_rfl) rfl rfl ?_
 repeat' (first | refine ax.a_ ?_ | refine ai.s_ ?_ | (refine X 0 ?_; (refine J Z ?_) <;> (refine Y Z ?_)) | (refine X 1 ?_; (iterate 22 refine J Z ?_) <;> (refine Y Z ?_)) | refine ai.r_ ?_)
 refine ax.gD 0 (fun k => aL 247 3 (.slice k 0 20 (some 20)) ((List.range 20).map Oq)) rfl (fun k => .own rfl (by intro r hr; obtain ⟨q, _, rfl⟩ := List.mem_map.1 hr; rfl) rfl) (fun _ => rfl) rfl fun k => ?_
 exact ax.r_ hX rfl fun h f => ⟨_, f.aZ, _, rfl, rfl⟩
theorem uu (hK : KN base K) (n : Int) (h1 : 0 ≤ n) (h2 : n < 20) (h : Heap) (w : Wf h) : Sp P K 142 [.int .i64 n] h (iw (aY (bT.getD n.toNat [])) h) := by
 obtain ⟨k, rfl⟩ := Int.eq_ofNat_of_zero_le h1
 have hrow : ((List.range 20).map Oq)[k]? = some (Oq k) := by
  rw [List.getElem?_map, List.getElem?_range (by omega)]; rfl
 refine Sp.start (m := 261) (n := 14) w (hK.none 142 rfl rfl _ _) Tryz.func142 rfl rfl (by kernel_rfl) rfl rfl ?_
 repeat' (first | refine ax.a_ ?_ | refine ai.s_ ?_ | (refine X 0 ?_; (refine J Z ?_) <;> (refine Y Z ?_)) | (refine X 1 ?_; (refine J Z ?_) <;> ((refine .cons (qc Z ?_ ?_)) <;> intro _) <;> (iterate 2 refine J Z ?_) <;> (first | (refine J Z ?_) | (refine .cons (qc Z ?_ ?_)) <;> intro _) <;> (refine J Z ?_) <;> (refine Y Z ?_)) | (refine X 2 ?_; (refine J Z ?_) <;> (refine Y Z ?_)) | (refine X 3 ?_; ((refine .cons (fD Z Z Z Z Pk Z Z (fun h f => Gg hK h f.wf) ?_)) <;> (rintro v C' ⟨kr, rfl, rfl⟩)) <;> (refine J Z ?_) <;> (refine .cons (qW (r := Oq k) hX Z Z Z Z Z .h hrow Z Z Z ?_)) <;> (iterate 3 refine J Z ?_) <;> (refine Y Z ?_)) | refine ai.r_ ?_ | refine ax.d_ ?_ | refine ai.t_ rfl ?_ | refine ai.f_ rfl ?_ | refine ai.k_ ?_ | refine ax.r_ hX rfl ?_)
 all_goals first | (exfalso; omega) | exact fun h f => ⟨rfl, f.aZ.bu .nil⟩
end Ev
end Go.HL
namespace Go.HL
open Go Go.Proofs
namespace Ev
open Em
set_option maxRecDepth 10000
set_option maxHeartbeats 4000000
variable {K : ah} {base : List (Nat × aG)}
def aN (x : bI) : List (List Nat) :=
 if x.kind = 0 then [rT x.d, [61], aQ x.cV]
 else if x.kind = 1 then [rT x.d, [61], rT x.a]
 else if x.kind = 2 then [rT x.d, [61], uT.getD x.op.toNat [], rT x.a]
 else if x.kind = 3 then [rT x.d, [61], rT x.a, bT.getD x.op.toNat [], rT x.b]
 else if x.kind = 4 then [rT x.d, [61], qF.getD x.op.toNat []]
 else if x.kind = 5 then [rT x.d, [61], [112, 97, 114, 97, 109], aQ x.cV]
 else if x.kind = 6 then [rT x.d, [61], [97, 114, 114, 97, 121], aQ x.cV, rT x.a]
 else if x.kind = 7 then [[97, 114, 114, 97, 121], aQ x.cV, rT x.a, [61], rT x.b]
 else if x.kind = 8 then [[97, 116, 111, 109, 105, 99], fT x.op, [97, 114, 114, 97, 121], aQ x.cV, rT x.a, rT x.b]
 else if x.kind = 9 then [[98, 97, 114, 114, 105, 101, 114], aQ x.cV]
 else if x.kind = 10 then [rT x.d, [61], [99, 111, 108, 108, 101, 99, 116], fT x.op, rT x.a, aQ x.cV]
 else if x.kind = 11 then [rT x.d, [61], [108, 111, 99, 97, 108], aQ x.cV]
 else if x.kind = 12 then [[108, 111, 99, 97, 108], aQ x.cV, [61], rT x.a]
 else if x.kind = 13 then [[106, 117, 109, 112], aQ x.to]
 else if x.kind = 14 then [[98, 114, 97, 110, 99, 104], rT x.a, aQ x.to, [106, 111, 105, 110], aQ x.join]
 else [[101, 120, 105, 116]]
theorem H9 {p : Prop} [Decidable p] {a b : List (List Nat)} : aJ (if p then a else b) = if p then aJ a else aJ b := by split <;> rfl
theorem nU (x : bI) : yP x = aJ (aN x) := by
 unfold yP aN
 simp only [H9]
 simp only [aJ, List.map_cons, List.map_nil, List.flatten_cons, List.flatten_nil, List.append_nil, List.append_assoc, List.cons_append, List.nil_append]
structure Au (x : bI) : Prop where
 ok : Av x
 f : x.kind = 8 ∨ x.kind = 10 → x.op = 0 ∨ x.op = 18 ∨ x.op = 19 ∨ x.op = 5 ∨ x.op = 6 ∨ x.op = 7
theorem Gv (hK : KN base K) (hL : KL base K) (x : bI) (hx : Au x) (h : Heap) (w : Wf h) (hB : (lies base).holds h) : Sp P K 71 [.agg (eo x)] h (Tr (NZ (aN x)) h) := by
 obtain ⟨⟨gJ, hu, hb, hs⟩, hfo⟩ := hx
 have f1 := gJ.d
 have f2 := gJ.a
 have f3 := gJ.b
 have f4 := gJ.cV
 have f5 := gJ.to
 have f6 := gJ.join
 refine Sp.start (m := 5276041190745505870876331431952511) (n := 123) w (hK.none 71 rfl rfl _ _) Tryz.func71 rfl rfl N4 rfl rfl ?_
 repeat' (first | refine ax.a_ ?_ | refine ai.s_ ?_ | (refine X 0 ?_; (iterate 2 refine J Z ?_) <;> (refine Y Z ?_)) | (refine ai.draw (id := 1) aw [0, 1, 3, 4, 6, 7, 9, 10, 2, 5, 8, 11, 12, 13, 14, 15] #[0, 1, 3, 0, 8, 31, 0, 64, 255, 0, 512, 2047, 4095, 8191, 16383, 32767] (by kernel_rfl) (by kernel_rfl) (by kernel_rfl) ?_; (refine O Z Z Z ?_) <;> ((refine .cons Z (q hX Z ?_)) <;> refine ⟨_, .ng hX.aw Z Z Z Z Z Z Z Z (suB Z) Z Z Z, ?_⟩) <;> (refine O Z Z Z ?_) <;> ((refine .cons Z (q hX Z ?_)) <;> refine ⟨_, .ng hX.aw Z Z Z Z Z Z Z Z (suB Z) Z Z Z, ?_⟩) <;> (refine O Z Z Z ?_) <;> ((refine .cons Z (q hX Z ?_)) <;> refine ⟨_, .ng hX.aw Z Z Z Z Z Z Z Z (suB Z) Z Z Z, ?_⟩) <;> (refine O Z Z Z ?_) <;> ((refine .cons Z (q hX Z ?_)) <;> refine ⟨_, .ng hX.aw Z Z Z Z Z Z Z Z (suB Z) Z Z Z, ?_⟩) <;> ((refine .cons Z (aE Z Z Z Z Ka Z Z (fun h f => vU hK hL x.d (by omega) (by omega) h f.wf (f.ro (.of hB))) ?_)) <;> refine W_ Z ?_) <;> ((refine .cons Z (aE Z Z Z Z Ka Z Z (fun h f => vU hK hL x.a (by omega) (by omega) h f.wf (f.ro (.of hB))) ?_)) <;> refine W_ Z ?_) <;> ((refine .cons Z (aE Z Z Z Z Ka Z Z (fun h f => vU hK hL x.b (by omega) (by omega) h f.wf (f.ro (.of hB))) ?_)) <;> refine W_ Z ?_) <;> ((refine .cons Z (aE Z Z Z Z Ps Z Z (fun h f => CZ hK hL x.cV (by omega) (by omega) h f.wf (f.ro (.of hB))) ?_)) <;> refine W_ Z ?_) <;> (iterate 4 refine O Z Z Z ?_) <;> (refine .nil ⟨?_, .intro Z ?_⟩ <;> (repeat' (first | exact trivial | exact .inl Z | exact .inr (.inl ⟨_, _, _, _, Z, Z, Z⟩) | refine ⟨?_, ?_⟩)))) | (refine X 2 ?_; (iterate 2 refine J Z ?_) <;> (refine Y Z ?_)) | (refine X 3 ?_; ((refine .cons (qc Z ?_ ?_)) <;> intro _) <;> (refine J Z ?_) <;> (refine Y Z ?_)) | (refine X 4 ?_; (iterate 4 refine J Z ?_) <;> (refine Y Z ?_)) | (refine X 5 ?_; ((refine .cons (qc Z ?_ ?_)) <;> intro _) <;> (refine J Z ?_) <;> (refine Y Z ?_)) | (refine X 6 ?_; (iterate 4 refine J Z ?_) <;> (refine Y Z ?_)) | (refine X 7 ?_; ((refine .cons (qc Z ?_ ?_)) <;> intro _) <;> (refine J Z ?_) <;> (refine Y Z ?_)) | (refine X 8 ?_; (iterate 3 refine J Z ?_) <;> (refine .cons (aE Z Z Z Z Pr Z Z (fun h f => CU hK x.op (by omega) (by omega) h f.wf) ?_)) <;> (iterate 3 refine J Z ?_) <;> (refine Y Z ?_)) | (refine X 9 ?_; ((refine .cons (qc Z ?_ ?_)) <;> intro _) <;> (refine J Z ?_) <;> (refine Y Z ?_)) | (refine X 10 ?_; (iterate 4 refine J Z ?_) <;> (refine .cons (aE Z Z Z Z Mv Z Z (fun h f => uu hK x.op (by omega) (by omega) h f.wf) ?_)) <;> (iterate 3 refine J Z ?_) <;> (refine Y Z ?_)) | (refine X 11 ?_; ((refine .cons (qc Z ?_ ?_)) <;> intro _) <;> (refine J Z ?_) <;> (refine Y Z ?_)) | (refine ai.draw (id := 12) aw [0, 2, 3, 1, 4, 5, 6, 7] #[0, 0, 0, 4, 14, 30, 63, 127] (by kernel_rfl) (by kernel_rfl) (by kernel_rfl) ?_; (iterate 2 refine O Z Z Z ?_) <;> ((refine .cons Z (q hX Z ?_)) <;> refine ⟨_, .ng hX.aw Z Z Z Z Z Z Z Z (suB Z) Z Z Z, ?_⟩) <;> ((refine .cons Z (fD Z Z Z Z K9 Z Z (fun h f => mq hK h f.wf) ?_)) <;> (rintro v C' ⟨ks, rfl, rfl⟩) <;> refine W_ Z ?_) <;> ((refine .cons Z (Iy (r := sB (qF.getD x.op.toNat [])) hX Z Z Z Z Z (by omega) .h (aM [] (by first | omega | (show x.op.toNat < 4; omega))) Z Z Z ?_)) <;> refine W_ Z ?_) <;> (iterate 3 refine O Z Z Z ?_) <;> (refine .nil ⟨?_, .intro Z ?_⟩ <;> (repeat' (first | exact trivial | exact .inl Z | exact .inr (.inl ⟨_, _, _, _, Z, Z, Z⟩) | refine ⟨?_, ?_⟩)))) | (refine X 13 ?_; ((refine .cons (qc Z ?_ ?_)) <;> intro _) <;> (refine J Z ?_) <;> (refine Y Z ?_)) | (refine X 14 ?_; (iterate 4 refine J Z ?_) <;> (refine Y Z ?_)) | (refine X 15 ?_; ((refine .cons (qc Z ?_ ?_)) <;> intro _) <;> (refine J Z ?_) <;> (refine Y Z ?_)) | (refine X 16 ?_; (iterate 5 refine J Z ?_) <;> (refine Y Z ?_)) | (refine X 17 ?_; ((refine .cons (qc Z ?_ ?_)) <;> intro _) <;> (refine J Z ?_) <;> (refine Y Z ?_)) | (refine X 18 ?_; (iterate 5 refine J Z ?_) <;> (refine Y Z ?_)) | (refine X 19 ?_; ((refine .cons (qc Z ?_ ?_)) <;> intro _) <;> (refine J Z ?_) <;> (refine Y Z ?_)) | (refine X 20 ?_; (iterate 2 refine J Z ?_) <;> (refine .cons (aE Z Z Z Z Mu Z Z (fun h f => pL hK x.op (hfo (by omega)) h f.wf) ?_)) <;> (iterate 5 refine J Z ?_) <;> (refine Y Z ?_)) | (refine X 21 ?_; ((refine .cons (qc Z ?_ ?_)) <;> intro _) <;> (refine J Z ?_) <;> (refine Y Z ?_)) | (refine X 22 ?_; (iterate 3 refine J Z ?_) <;> (refine Y Z ?_)) | (refine X 23 ?_; ((refine .cons (qc Z ?_ ?_)) <;> intro _) <;> (refine J Z ?_) <;> (refine Y Z ?_)) | (refine X 24 ?_; (iterate 3 refine J Z ?_) <;> (refine .cons (aE Z Z Z Z Mu Z Z (fun h f => pL hK x.op (hfo (by omega)) h f.wf) ?_)) <;> (iterate 4 refine J Z ?_) <;> (refine Y Z ?_)) | (refine X 25 ?_; ((refine .cons (qc Z ?_ ?_)) <;> intro _) <;> (refine J Z ?_) <;> (refine Y Z ?_)) | (refine X 26 ?_; (iterate 4 refine J Z ?_) <;> (refine Y Z ?_)) | (refine X 27 ?_; ((refine .cons (qc Z ?_ ?_)) <;> intro _) <;> (refine J Z ?_) <;> (refine Y Z ?_)) | (refine X 28 ?_; (iterate 4 refine J Z ?_) <;> (refine Y Z ?_)) | (refine X 29 ?_; ((refine .cons (qc Z ?_ ?_)) <;> intro _) <;> (refine J Z ?_) <;> (refine Y Z ?_)) | (refine X 30 ?_; (iterate 2 refine J Z ?_) <;> (refine .cons (aE Z Z Z Z Cr Z Z (fun h f => iG hL x.to (by omega) (by omega) h f.wf (f.ro (.of hB))) ?_)) <;> (iterate 2 refine J Z ?_) <;> (refine Y Z ?_)) | (refine X 31 ?_; ((refine .cons (qc Z ?_ ?_)) <;> intro _) <;> (refine J Z ?_) <;> (refine Y Z ?_)) | (refine ai.draw (id := 32) aw [0, 1, 2, 4, 5, 3, 6, 7, 8] #[0, 0, 2, 6, 0, 16, 62, 127, 255] (by kernel_rfl) (by kernel_rfl) (by kernel_rfl) ?_; (iterate 2 refine O Z Z Z ?_) <;> ((refine .cons Z (q hX Z ?_)) <;> refine ⟨_, .ng hX.aw Z Z Z Z Z Z Z Z (suB Z) Z Z Z, ?_⟩) <;> (refine O Z Z Z ?_) <;> ((refine .cons Z (q hX Z ?_)) <;> refine ⟨_, .ng hX.aw Z Z Z Z Z Z Z Z (suB Z) Z Z Z, ?_⟩) <;> ((refine .cons Z (aE Z Z Z Z Cr Z Z (fun h f => iG hL x.to (by omega) (by omega) h f.wf (f.ro (.of hB))) ?_)) <;> refine W_ Z ?_) <;> ((refine .cons Z (aE Z Z Z Z Cr Z Z (fun h f => iG hL x.join (by omega) (by omega) h f.wf (f.ro (.of hB))) ?_)) <;> refine W_ Z ?_) <;> (iterate 2 refine O Z Z Z ?_) <;> (refine .nil ⟨?_, .intro Z ?_⟩ <;> (repeat' (first | exact trivial | exact .inl Z | exact .inr (.inl ⟨_, _, _, _, Z, Z, Z⟩) | refine ⟨?_, ?_⟩)))) | (refine X 33 ?_; (iterate 2 refine J Z ?_) <;> (refine Y Z ?_)) | refine ai.r_ ?_ | refine ax.d_ ?_ | refine ax.f_ ?_ | refine ai.t_ rfl ?_ | refine ai.f_ rfl ?_ | refine ai.k_ ?_ | refine ai.b_ ?_ | refine ax.b_ ?_)
 ·have e : aN x = [rT x.d, [61], aQ x.cV] := by unfold aN; simp only [*, if_true, if_false]; try rfl
  refine ax.gD 1 (fun k => aL 9 1 (.slice k 0 3 (some 3)) (([rT x.d, [61], aQ x.cV] : List (List Nat)).map sB)) rfl (fun k => ft [rT x.d, [61], aQ x.cV] rfl) (fun _ => rfl) rfl fun k => ?_
  exact ax.r_ hX rfl fun h f => ⟨_, f.aZ.bu (.cons .h .nil), k, by rw [e]; rfl, by rw [e]; rfl⟩
 ·have e : aN x = [rT x.d, [61], rT x.a] := by unfold aN; simp only [*, if_true, if_false]; try rfl
  refine ax.gD 1 (fun k => aL 9 1 (.slice k 0 3 (some 3)) (([rT x.d, [61], rT x.a] : List (List Nat)).map sB)) rfl (fun k => ft [rT x.d, [61], rT x.a] rfl) (fun _ => rfl) rfl fun k => ?_
  exact ax.r_ hX rfl fun h f => ⟨_, f.aZ.bu (.cons .h .nil), k, by rw [e]; rfl, by rw [e]; rfl⟩
 ·have e : aN x = [rT x.d, [61], uT.getD x.op.toNat [], rT x.a] := by unfold aN; simp only [*, if_true, if_false]; try rfl
  refine ax.gD 1 (fun k => aL 9 1 (.slice k 0 4 (some 4)) (([rT x.d, [61], uT.getD x.op.toNat [], rT x.a] : List (List Nat)).map sB)) rfl (fun k => ft [rT x.d, [61], uT.getD x.op.toNat [], rT x.a] rfl) (fun _ => rfl) rfl fun k => ?_
  exact ax.r_ hX rfl fun h f => ⟨_, f.aZ.bu (.cons .h .nil), k, by rw [e]; rfl, by rw [e]; rfl⟩
 ·have e : aN x = [rT x.d, [61], rT x.a, bT.getD x.op.toNat [], rT x.b] := by unfold aN; simp only [*, if_true, if_false]; try rfl
  refine ax.gD 1 (fun k => aL 9 1 (.slice k 0 5 (some 5)) (([rT x.d, [61], rT x.a, bT.getD x.op.toNat [], rT x.b] : List (List Nat)).map sB)) rfl (fun k => ft [rT x.d, [61], rT x.a, bT.getD x.op.toNat [], rT x.b] rfl) (fun _ => rfl) rfl fun k => ?_
  exact ax.r_ hX rfl fun h f => ⟨_, f.aZ.bu (.cons .h .nil), k, by rw [e]; rfl, by rw [e]; rfl⟩
 ·have e : aN x = [rT x.d, [61], qF.getD x.op.toNat []] := by unfold aN; simp only [*, if_true, if_false]; try rfl
  refine ax.gD 2 (fun k => aL 9 1 (.slice k 0 3 (some 3)) (([rT x.d, [61], qF.getD x.op.toNat []] : List (List Nat)).map sB)) rfl (fun k => ft [rT x.d, [61], qF.getD x.op.toNat []] rfl) (fun _ => rfl) rfl fun k => ?_
  exact ax.r_ hX rfl fun h f => ⟨_, f.aZ.bu (.cons .h .nil), k, by rw [e]; rfl, by rw [e]; rfl⟩
 ·have e : aN x = [rT x.d, [61], [112, 97, 114, 97, 109], aQ x.cV] := by unfold aN; simp only [*, if_true, if_false]; try rfl
  refine ax.gD 1 (fun k => aL 9 1 (.slice k 0 4 (some 4)) (([rT x.d, [61], [112, 97, 114, 97, 109], aQ x.cV] : List (List Nat)).map sB)) rfl (fun k => ft [rT x.d, [61], [112, 97, 114, 97, 109], aQ x.cV] rfl) (fun _ => rfl) rfl fun k => ?_
  exact ax.r_ hX rfl fun h f => ⟨_, f.aZ.bu (.cons .h .nil), k, by rw [e]; rfl, by rw [e]; rfl⟩
 ·have e : aN x = [rT x.d, [61], [97, 114, 114, 97, 121], aQ x.cV, rT x.a] := by unfold aN; simp only [*, if_true, if_false]; try rfl
  refine ax.gD 1 (fun k => aL 9 1 (.slice k 0 5 (some 5)) (([rT x.d, [61], [97, 114, 114, 97, 121], aQ x.cV, rT x.a] : List (List Nat)).map sB)) rfl (fun k => ft [rT x.d, [61], [97, 114, 114, 97, 121], aQ x.cV, rT x.a] rfl) (fun _ => rfl) rfl fun k => ?_
  exact ax.r_ hX rfl fun h f => ⟨_, f.aZ.bu (.cons .h .nil), k, by rw [e]; rfl, by rw [e]; rfl⟩
 ·have e : aN x = [[97, 114, 114, 97, 121], aQ x.cV, rT x.a, [61], rT x.b] := by unfold aN; simp only [*, if_true, if_false]; try rfl
  refine ax.gD 1 (fun k => aL 9 1 (.slice k 0 5 (some 5)) (([[97, 114, 114, 97, 121], aQ x.cV, rT x.a, [61], rT x.b] : List (List Nat)).map sB)) rfl (fun k => ft [[97, 114, 114, 97, 121], aQ x.cV, rT x.a, [61], rT x.b] rfl) (fun _ => rfl) rfl fun k => ?_
  exact ax.r_ hX rfl fun h f => ⟨_, f.aZ.bu (.cons .h .nil), k, by rw [e]; rfl, by rw [e]; rfl⟩
 ·have e : aN x = [[97, 116, 111, 109, 105, 99], fT x.op, [97, 114, 114, 97, 121], aQ x.cV, rT x.a, rT x.b] := by unfold aN; simp only [*, if_true, if_false]; try rfl
  refine ax.gD 1 (fun k => aL 9 1 (.slice k 0 6 (some 6)) (([[97, 116, 111, 109, 105, 99], fT x.op, [97, 114, 114, 97, 121], aQ x.cV, rT x.a, rT x.b] : List (List Nat)).map sB)) rfl (fun k => ft [[97, 116, 111, 109, 105, 99], fT x.op, [97, 114, 114, 97, 121], aQ x.cV, rT x.a, rT x.b] rfl) (fun _ => rfl) rfl fun k => ?_
  exact ax.r_ hX rfl fun h f => ⟨_, f.aZ.bu (.cons .h .nil), k, by rw [e]; rfl, by rw [e]; rfl⟩
 ·have e : aN x = [[98, 97, 114, 114, 105, 101, 114], aQ x.cV] := by unfold aN; simp only [*, if_true, if_false]; try rfl
  refine ax.gD 1 (fun k => aL 9 1 (.slice k 0 2 (some 2)) (([[98, 97, 114, 114, 105, 101, 114], aQ x.cV] : List (List Nat)).map sB)) rfl (fun k => ft [[98, 97, 114, 114, 105, 101, 114], aQ x.cV] rfl) (fun _ => rfl) rfl fun k => ?_
  exact ax.r_ hX rfl fun h f => ⟨_, f.aZ.bu (.cons .h .nil), k, by rw [e]; rfl, by rw [e]; rfl⟩
 ·have e : aN x = [rT x.d, [61], [99, 111, 108, 108, 101, 99, 116], fT x.op, rT x.a, aQ x.cV] := by unfold aN; simp only [*, if_true, if_false]; try rfl
  refine ax.gD 1 (fun k => aL 9 1 (.slice k 0 6 (some 6)) (([rT x.d, [61], [99, 111, 108, 108, 101, 99, 116], fT x.op, rT x.a, aQ x.cV] : List (List Nat)).map sB)) rfl (fun k => ft [rT x.d, [61], [99, 111, 108, 108, 101, 99, 116], fT x.op, rT x.a, aQ x.cV] rfl) (fun _ => rfl) rfl fun k => ?_
  exact ax.r_ hX rfl fun h f => ⟨_, f.aZ.bu (.cons .h .nil), k, by rw [e]; rfl, by rw [e]; rfl⟩
 ·have e : aN x = [rT x.d, [61], [108, 111, 99, 97, 108], aQ x.cV] := by unfold aN; simp only [*, if_true, if_false]; try rfl
  refine ax.gD 1 (fun k => aL 9 1 (.slice k 0 4 (some 4)) (([rT x.d, [61], [108, 111, 99, 97, 108], aQ x.cV] : List (List Nat)).map sB)) rfl (fun k => ft [rT x.d, [61], [108, 111, 99, 97, 108], aQ x.cV] rfl) (fun _ => rfl) rfl fun k => ?_
  exact ax.r_ hX rfl fun h f => ⟨_, f.aZ.bu (.cons .h .nil), k, by rw [e]; rfl, by rw [e]; rfl⟩
 ·have e : aN x = [[108, 111, 99, 97, 108], aQ x.cV, [61], rT x.a] := by unfold aN; simp only [*, if_true, if_false]; try rfl
  refine ax.gD 1 (fun k => aL 9 1 (.slice k 0 4 (some 4)) (([[108, 111, 99, 97, 108], aQ x.cV, [61], rT x.a] : List (List Nat)).map sB)) rfl (fun k => ft [[108, 111, 99, 97, 108], aQ x.cV, [61], rT x.a] rfl) (fun _ => rfl) rfl fun k => ?_
  exact ax.r_ hX rfl fun h f => ⟨_, f.aZ.bu (.cons .h .nil), k, by rw [e]; rfl, by rw [e]; rfl⟩
 ·have e : aN x = [[106, 117, 109, 112], aQ x.to] := by unfold aN; simp only [*, if_true, if_false]; try rfl
  refine ax.gD 1 (fun k => aL 9 1 (.slice k 0 2 (some 2)) (([[106, 117, 109, 112], aQ x.to] : List (List Nat)).map sB)) rfl (fun k => ft [[106, 117, 109, 112], aQ x.to] rfl) (fun _ => rfl) rfl fun k => ?_
  exact ax.r_ hX rfl fun h f => ⟨_, f.aZ.bu (.cons .h .nil), k, by rw [e]; rfl, by rw [e]; rfl⟩
 ·have e : aN x = [[98, 114, 97, 110, 99, 104], rT x.a, aQ x.to, [106, 111, 105, 110], aQ x.join] := by unfold aN; simp only [*, if_true, if_false]; try rfl
  refine ax.gD 1 (fun k => aL 9 1 (.slice k 0 5 (some 5)) (([[98, 114, 97, 110, 99, 104], rT x.a, aQ x.to, [106, 111, 105, 110], aQ x.join] : List (List Nat)).map sB)) rfl (fun k => ft [[98, 114, 97, 110, 99, 104], rT x.a, aQ x.to, [106, 111, 105, 110], aQ x.join] rfl) (fun _ => rfl) rfl fun k => ?_
  exact ax.r_ hX rfl fun h f => ⟨_, f.aZ.bu (.cons .h .nil), k, by rw [e]; rfl, by rw [e]; rfl⟩
 ·have e : aN x = [[101, 120, 105, 116]] := by unfold aN; simp only [*, if_true, if_false]; try rfl
  refine ax.gD 1 (fun k => aL 9 1 (.slice k 0 1 (some 1)) (([[101, 120, 105, 116]] : List (List Nat)).map sB)) rfl (fun k => ft [[101, 120, 105, 116]] rfl) (fun _ => rfl) rfl fun k => ?_
  exact ax.r_ hX rfl fun h f => ⟨_, f.aZ.bu (.cons .h .nil), k, by rw [e]; rfl, by rw [e]; rfl⟩
end Ev
end Go.HL
