/- The walk: names, the heads of code. No statement of the seat stands here. -/
import Derived.Test.YtngeipnhbigdmaaGreatDoorMA
set_option linter.unusedVariables false
set_option linter.unusedSimpArgs false
namespace Go.HL
open Go Go.Proofs
namespace Em
set_option maxRecDepth 10000
variable {K : ai} {base : List (Nat × aE)}
theorem LR : mq P 9 kn := Hp (lD hT (t := 9) rfl)
theorem MQ : hJ P 4 = some (.bool false) := by kernel_rfl
structure nE (p : Nat × Nat) : Prop where
 len : p.1 ≤ 1152921504606846976
 zero : 0 < p.1 ∨ p.2 = 0
def uj (p : Nat × Nat) : List ad := [.str p.1 p.2]
def kV : Nat × Nat := (0, 0)
def JF (p : Nat × Nat) (l : List (Nat × Nat)) : Bool := l.any fun q => decide (q = p)
theorem H9 (hK : KN base K) (p : Nat × Nat) (l : List (Nat × Nat)) (v : ad) (h : Heap) (w : Wf h) (hs : (rd v 1 (l.map uj)).holds h) (hb : l.length ≤ 1152921504606846976) : Sp P K 83 [.str p.1 p.2, v] h (dE (.bool (JF p l)) h) := by
 have ll := bG hs
 refine Sp.start (m := 131635) (n := 18) w (hK.none 83 rfl rfl _ _) Tryz.func83 rfl rfl (by kernel_rfl) rfl rfl ?_
 repeat' (first | refine aw.a_ ?_ | refine ag.s_ ?_ | (refine X 0 ?_; (refine J Z ?_) <;> (refine Y Z ?_)) | (refine X 1 ?_; (refine J Z ?_) <;> (refine Y Z ?_)) | refine ag.b_ ?_)
 refine ag.loop (fun i => [(0, .ext (.str p.1 p.2)), (1, .ext v), (5, .ext (i64 i))]) (fun _ => []) (fun _ => []) (fun i => i ≤ l.length ∧ JF p l = (l.drop i).any fun q => decide (q = p)) (fun i => l.length - i) 0 ⟨⟨rfl, rfl, rfl, trivial⟩, ⟨_, rfl⟩, ⟨_, .nil⟩⟩ ⟨Nat.zero_le _, rfl⟩ (fun _ => rfl) (fun _ => rfl) (fun _ => rfl) ?_
 rintro i ⟨hi, he⟩ next
 repeat' (first | refine aw.a_ ?_ | refine ag.s_ ?_ | (refine X 2 ?_; (iterate 2 refine J Z ?_) <;> (refine .cons (ql hX Z Z Z Z Z Z (by assumption) Z Z ?_)) <;> ((refine .cons (qc Z ?_ ?_)) <;> intro _) <;> (refine Y Z ?_)) | (refine X 4 ?_; (iterate 2 refine J Z ?_) <;> (refine .cons (bh hX Z Z Z Z Z (.of hs) (aN kV (by omega)) Z Z Z ?_)) <;> (iterate 2 refine J Z ?_) <;> ((refine .cons (qc Z ?_ ?_)) <;> intro _) <;> (refine Y Z ?_)) | (refine X 5 ?_; (refine J Z ?_) <;> (refine Y Z ?_)) | (refine X 3 ?_; (refine J Z ?_) <;> (refine .cons (qa Z Z Z Z Z (wI (by first | omega | (simp only [Int.ofNat_eq_natCast]; omega)) (by first | omega | (simp only [Int.ofNat_eq_natCast]; omega))) Z Z ?_)) <;> (refine J Z ?_) <;> (refine Y Z ?_)) | (refine X 6 ?_; (refine J Z ?_) <;> (refine Y Z ?_)) | refine ag.r_ ?_ | refine aw.d_ ?_ | refine aw.f_ ?_ | refine ag.t_ rfl ?_ | refine ag.f_ rfl ?_ | refine ag.k_ ?_ | refine ag.b_ ?_ | refine ag.e_ ?_ | refine aw.e_ ?_ | refine aw.c_ ?_ | refine aw.b_ ?_ | refine aw.r_ hX rfl ?_)
 ·clear next
  refine fun h f => ⟨?_, f.aS⟩
  rw [he, Be _ (by omega) kV, decide_eq_true (Prod.ext_iff.2 (by assumption))]; rfl
 ·refine next (i + 1) _ _ _ (by omega) ⟨⟨rfl, rfl, rfl, trivial⟩, ⟨_, rfl⟩, ⟨_, .nil⟩⟩ ⟨by omega, ?_⟩
  rw [he, Be _ (by omega) kV, decide_eq_false (fun e => absurd (Prod.ext_iff.1 e) (by assumption))]; rfl
 ·exact fun h f => ⟨by rw [he, List.drop_of_length_le (by omega)]; rfl, f.aS⟩
theorem yf (hK : KN base K) (h : Heap) (w : Wf h) : Sp P K 243 [] h (Tr (fun v C' => ∃ k, v = .slice k 0 25 (some 25) ∧ C' = [aH 9 1 (.slice k 0 25 (some 25)) (fM.map uj)]) h) := by
 refine Sp.start (m := 1) (n := 2) w (hK.none 243 rfl rfl _ _) Tryz.func243 rfl rfl (by kernel_rfl) rfl rfl ?_
 repeat' (first | refine aw.a_ ?_ | refine ag.s_ ?_ | (refine X 0 ?_; (refine J Z ?_) <;> (refine Y Z ?_)) | (refine X 1 ?_; (iterate 2 refine J Z ?_) <;> (refine Y Z ?_)) | refine ag.r_ ?_)
 refine aw.eF 0 (fun k => aH 9 1 (.slice k 0 25 (some 25)) (fM.map uj)) rfl (fun k => .own rfl (by intro r hr; obtain ⟨q, _, rfl⟩ := List.mem_map.1 hr; rfl) rfl) (fun _ => rfl) rfl fun k => ?_
 refine aw.r_ hX rfl ?_
 exact fun h f => ⟨_, f.aS, k, rfl, rfl⟩
theorem E1 (hK : KN base K) (h : Heap) (w : Wf h) (hB : (lies base).holds h) : Sp P K 149 [] h (Tr (fun v C' => ∃ k, v = .map k ∧ C' = [uR kn k ((fM.map fun q => (q, true)).map kh)]) h) :=
 ⟨_, _, .known (hK.words h hB), [uR kn h.next ((fM.map fun q => (q, true)).map kh)], yR _ (kZ w _) ⟨_, _, (kZ w _).get, AE _ _⟩ (fun j e => e), _, rfl, rfl⟩
def mC (p : Nat × Nat) (i : Nat) : Int := Int.ofNat (dP p.1 p.2 i)
def pR (p : Nat × Nat) (i : Nat) : Bool := ((List.range p.1).drop i).all fun i => gI (mC p i)
theorem lI {p : Nat × Nat} {i : Nat} (hi : i < p.1) : pR p i = (gI (mC p i) && pR p (i + 1)) := by
 unfold pR
 rw [cJ _ (by simpa using hi) 0]
 simp [List.getD, hi]
theorem x4 {p : Nat × Nat} {i : Nat} (hi : p.1 ≤ i) : pR p i = true := by
 unfold pR
 rw [List.drop_of_length_le (by simpa using hi)]; rfl
def iN (p : Nat × Nat) : Bool := !decide (p.1 = 0) && eL (mC p 0) && pR p 0
theorem mask242 : Nat.lor (jm Tryz.f242) (Nat.sub (Nat.pow 2 1) 1) = 4229133 := by kernel_rfl
theorem By (hK : KN base K) (p : Nat × Nat) (hp : nE p) (h : Heap) (w : Wf h) : Sp P K 242 [.str p.1 p.2] h (dE (.bool (iN p)) h) := by
 have hp1 := hp.len
 have hp2 := hp.zero
 refine Sp.start (m := 4229133) (n := 23) w (hK.none 242 rfl rfl _ _) Tryz.func242 rfl rfl mask242 rfl rfl ?_
 repeat' (first | refine aw.a_ ?_ | refine ag.s_ ?_ | (refine X 0 ?_; (refine J Z ?_) <;> (refine Y Z ?_)) | (refine X 1 ?_; (refine J Z ?_) <;> ((refine .cons (Lu (u' := 0) (c' := 0) Z Z Z Z Z ?_ ?_)) <;> intro _) <;> (iterate 2 refine J Z ?_) <;> (first | (refine J Z ?_) | (refine .cons (qs hX Z Z Z Z (by first | omega | (simp only [Int.ofNat_eq_natCast]; omega)) Z Z ?_))) <;> (first | (refine J Z ?_) | (refine .cons (aV Z Z Z Z JK Z Z (fun h f => sD hK _ h f.wf) ?_ ?_)) <;> intro _) <;> (iterate 2 refine J Z ?_) <;> (refine Y Z ?_)) | (refine X 2 ?_; (refine J Z ?_) <;> (refine Y Z ?_)) | (refine X 3 ?_; (refine J Z ?_) <;> (refine Y Z ?_)) | refine ag.r_ ?_ | refine aw.d_ ?_ | refine ag.t_ rfl ?_ | refine ag.f_ rfl ?_ | refine ag.k_ ?_ | refine ag.b_ ?_ | refine aw.r_ hX rfl ?_)
 ·exact fun h f => ⟨by simp_all [aP, iN], f.aS⟩
 all_goals try (refine fun h f => ⟨?_, f.aS⟩; clear f; simp only [aP]; unfold iN mC; simp_all; done)
 refine ag.loop (fun i => [(0, .ext (.str p.1 p.2)), (3, .ext (i64 i))]) (fun _ => []) (fun _ => []) (fun i => i ≤ p.1 ∧ iN p = pR p i) (fun i => p.1 - i) 0 ⟨⟨rfl, rfl, trivial⟩, ⟨_, rfl⟩, ⟨_, .nil⟩⟩ ⟨Nat.zero_le _, by (have : ¬ p.1 = 0 := by omega); unfold iN mC; simp_all⟩ (fun _ => rfl) (fun _ => rfl) (fun _ => rfl) ?_
 rintro i ⟨hi, he⟩ next
 repeat' (first | refine aw.a_ ?_ | refine ag.s_ ?_ | (refine X 4 ?_; (iterate 3 refine J Z ?_) <;> ((refine .cons (qc Z ?_ ?_)) <;> intro _) <;> (refine Y Z ?_)) | (refine X 6 ?_; (iterate 2 refine J Z ?_) <;> (refine .cons (qs hX Z Z Z Z (by first | omega | (simp only [Int.ofNat_eq_natCast]; omega)) Z Z ?_)) <;> ((refine .cons (aV Z Z Z Z Me Z Z (fun h f => Cs hK _ h f.wf) ?_ ?_)) <;> intro _) <;> (refine J Z ?_) <;> (refine Y Z ?_)) | (refine X 7 ?_; (refine J Z ?_) <;> (refine Y Z ?_)) | (refine X 5 ?_; (refine J Z ?_) <;> (refine .cons (qa Z Z Z Z Z (wI (by first | omega | (simp only [Int.ofNat_eq_natCast]; omega)) (by first | omega | (simp only [Int.ofNat_eq_natCast]; omega))) Z Z ?_)) <;> (refine J Z ?_) <;> (refine Y Z ?_)) | (refine X 8 ?_; (refine J Z ?_) <;> (refine Y Z ?_)) | refine ag.r_ ?_ | refine aw.d_ ?_ | refine aw.f_ ?_ | refine ag.t_ rfl ?_ | refine ag.f_ rfl ?_ | refine ag.k_ ?_ | refine ag.b_ ?_ | refine ag.e_ ?_ | refine aw.e_ ?_ | refine aw.c_ ?_ | refine aw.b_ ?_ | refine aw.r_ hX rfl ?_)
 ·refine next (i + 1) _ _ _ (by omega) ⟨⟨rfl, rfl, trivial⟩, ⟨_, rfl⟩, ⟨_, .nil⟩⟩ ⟨by omega, ?_⟩
  clear next
  rw [he, lI (by omega)]; unfold mC; simp_all
 ·clear next
  refine fun h f => ⟨?_, f.aS⟩
  clear f
  rw [he, lI (by omega)]; unfold mC; simp_all [aP]
 ·exact fun h f => ⟨by rw [he, x4 (by omega)]; rfl, f.aS⟩
def jV (p : Nat × Nat) : Bool := iN p && decide (p.1 ≤ 16) && !JF p fM
theorem mV (hK : KN base K) (p : Nat × Nat) (hp : nE p) (h : Heap) (w : Wf h) : Sp P K 153 [.str p.1 p.2] h (dE (.bool (jV p)) h) := by
 have hp1 := hp.len
 refine Sp.start (m := 5) (n := 16) w (hK.none 153 rfl rfl _ _) Tryz.func153 rfl rfl (by kernel_rfl) rfl rfl ?_
 repeat' (first | refine aw.a_ ?_ | refine ag.s_ ?_ | (refine X 0 ?_; (refine J Z ?_) <;> (refine Y Z ?_)) | (refine X 1 ?_; (refine J Z ?_) <;> ((refine .cons (aV Z Z Z Z Mj Z Z (fun h f => By hK p hp h f.wf) ?_ ?_)) <;> intro _) <;> (iterate 3 refine J Z ?_) <;> (first | (refine J Z ?_) | (refine .cons (qc Z ?_ ?_)) <;> intro _) <;> (iterate 3 refine J Z ?_) <;> (first | (refine J Z ?_) | (refine .cons (gq Z Z Z Z Mi Z Z (fun h f => yf hK h f.wf) ?_)) <;> (rintro v C' ⟨kw, rfl, rfl⟩)) <;> (first | (refine J Z ?_) | (refine .cons (aV Z Z Z Z Ma Z Z (fun h f => H9 hK p fM _ h f.wf (aH.rd (f.pick .h)) (by decide)) ?_ ?_)) <;> intro _) <;> (iterate 3 refine J Z ?_) <;> (refine Y Z ?_)) | refine ag.r_ ?_ | refine aw.r_ hX rfl ?_)
 all_goals (intro h f; refine ⟨?_, f.aS.bx .nil⟩; clear f; unfold jV; first | (simp_all [aP]; done) | (simp_all [aP]; omega))
theorem mask78 : Nat.lor (jm Tryz.f78) (Nat.sub (Nat.pow 2 1) 1) = 2208301069 := by kernel_rfl
theorem na (hK : KN base K) (p : Nat × Nat) (hp : nE p) (h : Heap) (w : Wf h) (hB : (lies base).holds h) : Sp P K 78 [.str p.1 p.2] h (dE (.bool (jV p)) h) := by
 have hp1 := hp.len
 have hp2 := hp.zero
 have hwl : JF p fM = _ := (Cc fM p).symm
 refine Sp.start (m := 2208301069) (n := 33) w (hK.none 78 rfl rfl _ _) Tryz.func78 rfl rfl mask78 rfl rfl ?_
 repeat' (first | refine aw.a_ ?_ | refine ag.s_ ?_ | (refine X 0 ?_; (refine J Z ?_) <;> (refine Y Z ?_)) | (refine X 1 ?_; (refine J Z ?_) <;> ((refine .cons (Lu (u' := 0) (c' := 0) Z Z Z Z Z ?_ ?_)) <;> intro _) <;> (iterate 3 refine J Z ?_) <;> (first | (refine J Z ?_) | (refine .cons (qc Z ?_ ?_)) <;> intro _) <;> (iterate 3 refine J Z ?_) <;> (first | (refine J Z ?_) | (refine .cons (qs hX Z Z Z Z (by first | omega | (simp only [Int.ofNat_eq_natCast]; omega)) Z Z ?_))) <;> (first | (refine J Z ?_) | (refine .cons (aV Z Z Z Z JO Z Z (fun h f => uX hK _ h f.wf) ?_ ?_)) <;> intro _) <;> (iterate 3 refine J Z ?_) <;> (first | (refine J Z ?_) | (refine .cons (gq Z Z Z Z Mr Z Z (fun h f => E1 hK h f.wf (f.ro (.of hB))) ?_)) <;> (rintro v C' ⟨kw, rfl, rfl⟩)) <;> (refine J Z ?_) <;> (first | (refine J Z ?_) | (refine .cons (BO (a := p) hX Z Z LR MQ Z Z .h Z Z ?_ ?_)) <;> (intro _)) <;> (refine J Z ?_) <;> (refine Y Z ?_)) | (refine X 2 ?_; (refine J Z ?_) <;> (refine Y Z ?_)) | (refine X 3 ?_; (iterate 3 refine J Z ?_) <;> (refine Y Z ?_)) | refine ag.r_ ?_ | refine aw.d_ ?_ | refine ag.t_ rfl ?_ | refine ag.f_ rfl ?_ | refine ag.k_ ?_ | refine ag.b_ ?_ | refine aw.r_ hX rfl ?_)
 all_goals try (refine fun h f => ⟨?_, f.aS.bx .nil⟩; clear f; simp only [aP]; unfold jV; rw [hwl]; unfold iN mC; simp_all; done)
 all_goals try (refine fun h f => ⟨?_, f.aS.bx .nil⟩; clear f; simp only [aP]; unfold jV; rw [decide_eq_false (by omega)]; simp; done)
 refine ag.loop (fun i => [(24, .ext (i64 i)), (0, .ext (.str p.1 p.2)), (23, .ext (i64 p.1))]) (fun _ => []) (fun _ => []) (fun i => i ≤ p.1 ∧ jV p = pR p i) (fun i => p.1 - i) 0 ⟨⟨rfl, rfl, rfl, trivial⟩, ⟨_, rfl⟩, ⟨_, .nil⟩⟩ ⟨Nat.zero_le _, by (have : ¬ p.1 = 0 := by omega); (have h16 : p.1 ≤ 16 := by omega); unfold jV; rw [hwl]; unfold iN mC; clear hwl; simp_all⟩ (fun _ => rfl) (fun _ => rfl) (fun _ => rfl) ?_
 rintro i ⟨hi, he⟩ next
 repeat' (first | refine aw.a_ ?_ | refine ag.s_ ?_ | (refine X 4 ?_; ((refine .cons (qc Z ?_ ?_)) <;> intro _) <;> (refine Y Z ?_)) | (refine X 5 ?_; (iterate 2 refine J Z ?_) <;> (refine Y Z ?_)) | (refine X 6 ?_; (iterate 2 refine J Z ?_) <;> (refine .cons (qs hX Z Z Z Z (by first | omega | (simp only [Int.ofNat_eq_natCast]; omega)) Z Z ?_)) <;> ((refine .cons (aV Z Z Z Z Mq Z Z (fun h f => Fe hK _ h f.wf) ?_ ?_)) <;> intro _) <;> (refine J Z ?_) <;> (refine Y Z ?_)) | (refine X 7 ?_; (refine J Z ?_) <;> (refine Y Z ?_)) | (refine X 8 ?_; (refine .cons (qa Z Z Z Z Z (wI (by first | omega | (simp only [Int.ofNat_eq_natCast]; omega)) (by first | omega | (simp only [Int.ofNat_eq_natCast]; omega))) Z Z ?_)) <;> (refine J Z ?_) <;> (refine Y Z ?_)) | (refine X 9 ?_; (refine J Z ?_) <;> (refine Y Z ?_)) | refine ag.r_ ?_ | refine aw.d_ ?_ | refine aw.f_ ?_ | refine ag.t_ rfl ?_ | refine ag.f_ rfl ?_ | refine ag.k_ ?_ | refine ag.b_ ?_ | refine ag.e_ ?_ | refine aw.e_ ?_ | refine aw.c_ ?_ | refine aw.b_ ?_ | refine aw.r_ hX rfl ?_)
 ·refine next (i + 1) _ _ _ (by omega) ⟨⟨rfl, rfl, rfl, trivial⟩, ⟨_, rfl⟩, ⟨_, .nil⟩⟩ ⟨by omega, ?_⟩
  clear next
  rw [he, lI (by omega)]; unfold mC; simp_all
 ·clear next
  refine fun h f => ⟨?_, f.aS⟩
  clear f
  rw [he, lI (by omega)]; unfold mC; simp_all [aP]
 ·exact fun h f => ⟨by rw [he, x4 (by omega)]; rfl, f.aS⟩
end Em
end Go.HL
namespace Go.HL
open Go Go.Proofs
namespace Em
set_option maxRecDepth 10000
variable {K : ai} {base : List (Nat × aE)}
structure az where
 n : Nat
 c : Nat
 params : List (Nat × Nat × Bool)
 shared : List (Nat × Nat × Int)
 «local» : Int
 ay : List bI
abbrev pc (p : Nat × Nat × Bool) : List ad := [.str p.1 p.2.1, .bool p.2.2]
abbrev ac (p : Nat × Nat × Int) : List ad := [.str p.1 p.2.1, .int .i64 p.2.2]
abbrev cv (c : az) (pv sv iv : ad) : ad := .agg [.str c.n c.c, pv, sv, .int .i64 c.local, iv]
def ke (c : az) (pv sv iv : ad) : Part := (rd pv 2 (c.params.map pc)).both ((rd sv 2 (c.shared.map ac)).both (rd iv 8 (c.ay.map ez)))
structure gk (c : az) : Prop where
 name : nE (c.n, c.c)
 zN : c.params.length ≤ 1152921504606846976
 Gt : ∀ p ∈ c.params, nE (p.1, p.2.1)
 Bx : c.shared.length ≤ 1152921504606846976
 Gf : ∀ p ∈ c.shared, nE (p.1, p.2.1)
 Ha : c.ay.length ≤ 1152921504606846976
 each : ∀ x ∈ c.ay, -2147483648 ≤ x.cL ∧ x.cL ≤ 2147483647
def eu : Nat × Nat × Bool := (0, 0, false)
def dS : Nat × Nat × Int := (0, 0, 0)
def b8 : bI := ⟨0, 0, 0, 0, 0, 0, 0, 0⟩
def Kj (p : Nat × Nat × Bool) : Nat × Nat := (p.1, p.2.1)
def Kk (p : Nat × Nat × Int) : Nat × Nat := (p.1, p.2.1)
def lM (p : Nat × Nat × Bool) : Bool := jV (Kj p)
def eS (a : Nat × Nat × Int) : Bool := jV (Kk a) && decide (1 ≤ a.2.2) && decide (a.2.2 ≤ 64)
def az.cB (f : az) : Bool := jV (f.n, f.c) && decide (f.params.length ≤ 6) && decide (f.shared.length ≤ 4) && f.params.all lM && f.shared.all eS
theorem mask82 : Nat.lor (jm Tryz.f82) (Nat.sub (Nat.pow 2 3) 1) = 9223372328948203975 := by kernel_rfl
theorem zG (hK : KN base K) (c : az) (pv sv : ad) (h : Heap) (w : Wf h) (r : gk c) (hp : (rd pv 2 (c.params.map pc)).holds h) (hs : (rd sv 2 (c.shared.map ac)).holds h) : Sp P K 82 [.str c.n c.c, pv, sv] h (dE (.bool c.cB) h) := by
 have lp := bG hp
 have ls := bG hs
 have bp := r.zN
 have bs := r.Bx
 refine Sp.start (m := 9223372328948203975) (n := 64) w (hK.none 82 rfl rfl _ _) Tryz.func82 rfl rfl mask82 rfl rfl ?_
 repeat' (first | refine aw.a_ ?_ | refine ag.s_ ?_ | (refine X 0 ?_; (refine J Z ?_) <;> (refine Y Z ?_)) | (refine X 1 ?_; (refine J Z ?_) <;> ((refine .cons (aV Z Z Z Z HS Z Z (fun h f => mV hK (c.n, c.c) r.name h f.wf) ?_ ?_)) <;> intro _) <;> (iterate 3 refine J Z ?_) <;> (first | (refine J Z ?_) | (refine .cons (ql hX Z Z Z Z Z Z (by assumption) Z Z ?_))) <;> (first | (refine J Z ?_) | (refine .cons (qc Z ?_ ?_)) <;> intro _) <;> (iterate 3 refine J Z ?_) <;> (first | (refine J Z ?_) | (refine .cons (ql hX Z Z Z Z Z Z (by assumption) Z Z ?_))) <;> (first | (refine J Z ?_) | (refine .cons (qc Z ?_ ?_)) <;> intro _) <;> (refine J Z ?_) <;> (refine Y Z ?_)) | (refine X 2 ?_; (refine J Z ?_) <;> (refine Y Z ?_)) | (refine X 3 ?_; (refine J Z ?_) <;> (refine Y Z ?_)) | refine ag.r_ ?_ | refine aw.d_ ?_ | refine ag.t_ rfl ?_ | refine ag.f_ rfl ?_ | refine ag.k_ ?_ | refine ag.b_ ?_ | refine aw.r_ hX rfl ?_)
 all_goals try (refine fun h f => ⟨?_, f.aS⟩; clear f; simp only [aP]; unfold az.cB; simp_all; done)
 all_goals try (refine fun h f => ⟨?_, f.aS⟩; clear f; simp only [aP]; unfold az.cB; first | (rw [decide_eq_false (p := c.params.length ≤ 6) (by omega)]; simp; done) | (rw [decide_eq_false (p := c.shared.length ≤ 4) (by omega)]; simp; done))
 have h6 : c.params.length ≤ 6 := by omega
 have h4 : c.shared.length ≤ 4 := by omega
 refine ag.loop (fun i => [(7, .ext (i64 i)), (0, .ext (.str c.n c.c)), (1, .ext pv), (2, .ext sv)]) (fun _ => []) (fun _ => []) (fun i => i ≤ c.params.length ∧ c.cB = ((c.params.drop i).all lM && c.shared.all eS)) (fun i => c.params.length - i) 0 ⟨⟨rfl, rfl, rfl, rfl, trivial⟩, ⟨_, rfl⟩, ⟨_, .nil⟩⟩ ⟨Nat.zero_le _, by unfold az.cB; simp_all⟩ (fun _ => rfl) (fun _ => rfl) (fun _ => rfl) ?_
 rintro i ⟨hi, he⟩ next
 repeat' (first | refine aw.a_ ?_ | refine ag.s_ ?_ | (refine X 4 ?_; (iterate 2 refine J Z ?_) <;> (refine .cons (ql hX Z Z Z Z Z Z (by assumption) Z Z ?_)) <;> ((refine .cons (qc Z ?_ ?_)) <;> intro _) <;> (refine Y Z ?_)) | (refine X 6 ?_; (iterate 2 refine J Z ?_) <;> (refine .cons (bh hX Z Z Z Z Z (.of hp) (aN eu (by omega)) Z Z Z ?_)) <;> (iterate 2 refine J Z ?_) <;> ((refine .cons (aV Z Z Z Z HS Z Z (fun h f => mV hK (Kj (c.params.getD i eu)) (r.Gt _ (aY _ (by omega))) h f.wf) ?_ ?_)) <;> intro _) <;> (refine J Z ?_) <;> (refine Y Z ?_)) | (refine X 7 ?_; (refine J Z ?_) <;> (refine Y Z ?_)) | (refine X 5 ?_; (refine J Z ?_) <;> (refine .cons (qa Z Z Z Z Z (wI (by first | omega | (simp only [Int.ofNat_eq_natCast]; omega)) (by first | omega | (simp only [Int.ofNat_eq_natCast]; omega))) Z Z ?_)) <;> (refine J Z ?_) <;> (refine Y Z ?_)) | (refine X 8 ?_; (refine J Z ?_) <;> (refine Y Z ?_)) | refine ag.r_ ?_ | refine aw.d_ ?_ | refine aw.f_ ?_ | refine ag.t_ rfl ?_ | refine ag.f_ rfl ?_ | refine ag.k_ ?_ | refine ag.b_ ?_ | refine ag.e_ ?_ | refine aw.e_ ?_ | refine aw.c_ ?_ | refine aw.b_ ?_ | refine aw.r_ hX rfl ?_)
 ·refine next (i + 1) _ _ _ (by omega) ⟨⟨rfl, rfl, rfl, rfl, trivial⟩, ⟨_, rfl⟩, ⟨_, .nil⟩⟩ ⟨by omega, ?_⟩
  clear next
  rw [he, cJ _ (by omega) eu]; simp_all [lM]
 ·clear next
  refine fun h f => ⟨?_, f.aS⟩
  clear f
  rw [he, cJ _ (by omega) eu]; simp_all [aP, lM]
 clear next
 rw [List.drop_of_length_le (by omega)] at he
 refine ag.loop (fun i => [(8, .ext (i64 i)), (0, .ext (.str c.n c.c)), (1, .ext pv), (2, .ext sv)]) (fun _ => []) (fun _ => []) (fun i => i ≤ c.shared.length ∧ c.cB = (c.shared.drop i).all eS) (fun i => c.shared.length - i) 0 ⟨⟨rfl, rfl, rfl, rfl, trivial⟩, ⟨_, rfl⟩, ⟨_, .nil⟩⟩ ⟨Nat.zero_le _, by rw [he]; simp⟩ (fun _ => rfl) (fun _ => rfl) (fun _ => rfl) ?_
 clear he
 rintro i ⟨hi, he⟩ next
 repeat' (first | refine aw.a_ ?_ | refine ag.s_ ?_ | (refine X 9 ?_; (iterate 2 refine J Z ?_) <;> (refine .cons (ql hX Z Z Z Z Z Z (by assumption) Z Z ?_)) <;> ((refine .cons (qc Z ?_ ?_)) <;> intro _) <;> (refine Y Z ?_)) | (refine X 11 ?_; (iterate 2 refine J Z ?_) <;> (refine .cons (bh hX Z Z Z Z Z (.of hs) (aN dS (by omega)) Z Z Z ?_)) <;> (iterate 2 refine J Z ?_) <;> ((refine .cons (aV Z Z Z Z HS Z Z (fun h f => mV hK (Kk (c.shared.getD i dS)) (r.Gf _ (aY _ (by omega))) h f.wf) ?_ ?_)) <;> intro _) <;> (iterate 4 refine J Z ?_) <;> (first | (refine J Z ?_) | (refine .cons (bh hX Z Z Z Z Z (.of hs) (aN dS (by omega)) Z Z Z ?_))) <;> (iterate 2 refine J Z ?_) <;> (first | (refine J Z ?_) | (refine .cons (qc Z ?_ ?_)) <;> intro _) <;> (iterate 4 refine J Z ?_) <;> (first | (refine J Z ?_) | (refine .cons (bh hX Z Z Z Z Z (.of hs) (aN dS (by omega)) Z Z Z ?_))) <;> (iterate 2 refine J Z ?_) <;> (first | (refine J Z ?_) | (refine .cons (qc Z ?_ ?_)) <;> intro _) <;> (refine J Z ?_) <;> (refine Y Z ?_)) | (refine X 12 ?_; (refine J Z ?_) <;> (refine Y Z ?_)) | (refine X 10 ?_; (refine J Z ?_) <;> (refine .cons (qa Z Z Z Z Z (wI (by first | omega | (simp only [Int.ofNat_eq_natCast]; omega)) (by first | omega | (simp only [Int.ofNat_eq_natCast]; omega))) Z Z ?_)) <;> (refine J Z ?_) <;> (refine Y Z ?_)) | (refine X 13 ?_; (refine J Z ?_) <;> (refine Y Z ?_)) | refine ag.r_ ?_ | refine aw.d_ ?_ | refine aw.f_ ?_ | refine ag.t_ rfl ?_ | refine ag.f_ rfl ?_ | refine ag.k_ ?_ | refine ag.b_ ?_ | refine ag.e_ ?_ | refine aw.e_ ?_ | refine aw.c_ ?_ | refine aw.b_ ?_ | refine aw.r_ hX rfl ?_)
 all_goals first
  | (refine next (i + 1) _ _ _ (by omega) ⟨⟨rfl, rfl, rfl, rfl, trivial⟩, ⟨_, rfl⟩, ⟨_, .nil⟩⟩ ⟨by omega, ?_⟩; clear next; rw [he, cJ _ (by omega) dS]; unfold eS; first | (simp_all; done) | (simp_all; omega))
  | (clear next; refine fun h f => ⟨?_, f.aS⟩; rw [he, List.drop_of_length_le (by omega)]; rfl)
  | (clear next; refine fun h f => ⟨?_, f.aS⟩; clear f; rw [he, cJ _ (by omega) dS]; unfold eS; simp_all [aP]; done)
  | (clear next; refine fun h f => ⟨?_, f.aS⟩; clear f; rw [he, cJ _ (by omega) dS]; unfold eS; simp_all [aP]; omega)
def az.names (f : az) : List (Nat × Nat) := f.params.map Kj ++ f.shared.map Kk
def qD (l : List (Nat × Nat)) (i : Nat) : Bool := ((List.range l.length).drop i).all fun k => !JF (l.getD k kV) (l.take k)
theorem gM {l : List (Nat × Nat)} {i : Nat} (hi : i < l.length) : qD l i = (!JF (l.getD i kV) (l.take i) && qD l (i + 1)) := by
 unfold qD
 rw [cJ _ (by simpa using hi) 0]
 simp [List.getD, hi]
theorem xC {l : List (Nat × Nat)} {i : Nat} (hi : l.length ≤ i) : qD l i = true := by
 unfold qD
 rw [List.drop_of_length_le (by simpa using hi)]; rfl
def az.gg (f : az) : Bool := f.cB && qD f.names 0
theorem take_succ {α : Type} {l : List α} {i : Nat} (hi : i < l.length) (d : α) : l.take (i + 1) = l.take i ++ [l.getD i d] := by
 rw [List.take_add_one]
 simp [List.getD, List.getElem?_eq_getElem hi]
theorem lW {f : az} {i : Nat} (hi : i < f.params.length) : f.names.getD i kV = Kj (f.params.getD i eu) := by
 unfold az.names
 simp [List.getD, List.getElem?_append_left, hi]
theorem jU {f : az} {i : Nat} (hi : i < f.shared.length) : f.names.getD (f.params.length + i) kV = Kk (f.shared.getD i dS) := by
 unfold az.names
 simp [List.getD, List.getElem?_append_right, hi]
theorem qj (f : az) : f.names.length = f.params.length + f.shared.length := by simp [az.names]
theorem mask37 : Nat.lor (jm Tryz.f37) (Nat.sub (Nat.pow 2 3) 1) = 144255934154704839 := by kernel_rfl
theorem yj (hK : KN base K) (c : az) (pv sv : ad) (h : Heap) (w : Wf h) (r : gk c) (hp : (rd pv 2 (c.params.map pc)).holds h) (hs : (rd sv 2 (c.shared.map ac)).holds h) : Sp P K 37 [.str c.n c.c, pv, sv] h (dE (.bool c.gg) h) := by
 have lp := bG hp
 have ls := bG hs
 have bp := r.zN
 have bs := r.Bx
 have hn := qj c
 refine Sp.start (m := 144255934154704839) (n := 58) w (hK.none 37 rfl rfl _ _) Tryz.func37 rfl rfl mask37 rfl rfl ?_
 repeat' (first | refine aw.a_ ?_ | refine ag.s_ ?_ | (refine X 0 ?_; (refine J Z ?_) <;> (refine Y Z ?_)) | (refine X 1 ?_; (iterate 3 refine J Z ?_) <;> ((refine .cons (aV Z Z Z Z NA Z Z (fun h f => zG hK c pv sv h f.wf r (f.ro (.of hp)) (f.ro (.of hs))) ?_ ?_)) <;> intro _) <;> (refine J Z ?_) <;> (refine Y Z ?_)) | (refine X 2 ?_; (refine J Z ?_) <;> (refine Y Z ?_)) | (refine X 3 ?_; (refine J Z ?_) <;> (refine Y Z ?_)) | (refine X 4 ?_; (refine J Z ?_) <;> (refine Y Z ?_)) | refine ag.r_ ?_ | refine aw.d_ ?_ | refine ag.t_ rfl ?_ | refine ag.f_ rfl ?_ | refine ag.k_ ?_ | refine ag.b_ ?_ | refine aw.r_ hX rfl ?_)
 rotate_left
 ·exact fun h f => ⟨by simp_all [aP, az.gg], f.aS⟩
 have e6 : c.cB = true := by assumption
 have b6 : c.params.length ≤ 6 := by unfold az.cB at e6; simp at e6; omega
 have b4 : c.shared.length ≤ 4 := by unfold az.cB at e6; simp at e6; omega
 refine ag.nil 9 1 ?_
 refine ag.loop (ι := Nat × ad) (fun x => [(8, .ext (i64 x.1)), (7, .ext x.2), (1, .ext pv), (2, .ext sv)]) (fun _ => []) (fun x => [aH 9 1 x.2 ((c.names.take x.1).map uj)]) (fun x => x.1 ≤ c.params.length ∧ sY x.2) (fun x => c.params.length - x.1) (0, .aD) ⟨⟨rfl, rfl, rfl, rfl, trivial⟩, ⟨_, rfl⟩, ⟨_, .cons .h .nil⟩⟩ ⟨Nat.zero_le _, .aD⟩ (fun _ => rfl) (fun _ => rfl) (fun _ => rfl) ?_
 rintro ⟨i, v⟩ ⟨hi, hv⟩ next
 simp only at hi hv next ⊢
 repeat' (first | refine aw.a_ ?_ | refine ag.s_ ?_ | (refine X 5 ?_; (iterate 2 refine J Z ?_) <;> (refine .cons (ql hX Z Z Z Z Z Z (by assumption) Z Z ?_)) <;> ((refine .cons (qc Z ?_ ?_)) <;> intro _) <;> (refine Y Z ?_)) | (refine X 7 ?_; (iterate 3 refine J Z ?_) <;> (refine .cons (bh hX Z Z Z Z Z (.of hp) (aN eu (by omega)) Z Z Z ?_)) <;> (iterate 3 refine J Z ?_) <;> ((refine .cons (sZ hX Z Z Z Z Z Z Z Z Z Z Z Z b9 Z Z Z Z Z (by repeat (first | exact .h | apply aI.t)) Z (by simp only [List.length_map, List.length_take]; omega) Z Z ?_)) <;> intro kp) <;> (refine J Z ?_) <;> (refine Y Z ?_)) | (refine X 6 ?_; (refine J Z ?_) <;> (refine .cons (qa Z Z Z Z Z (wI (by first | omega | (simp only [Int.ofNat_eq_natCast]; omega)) (by first | omega | (simp only [Int.ofNat_eq_natCast]; omega))) Z Z ?_)) <;> (refine J Z ?_) <;> (refine Y Z ?_)) | (refine X 8 ?_; (refine J Z ?_) <;> (refine Y Z ?_)) | refine ag.t_ rfl ?_ | refine ag.f_ rfl ?_ | refine ag.k_ ?_ | refine ag.b_ ?_ | refine ag.e_ ?_ | refine aw.e_ ?_ | refine aw.c_ ?_ | refine aw.b_ ?_)
 ·refine next (i + 1, _) _ _ _ (by simp only; omega) ⟨⟨rfl, rfl, rfl, rfl, trivial⟩, ⟨_, rfl⟩, ⟨_, by rw [take_succ (by omega) kV, List.map_append, lW (by omega)]; exact .cons .h .nil⟩⟩ ⟨by simp only; omega, .slice _ _ _⟩
 clear next
 have hip : i = c.params.length := by omega
 subst hip
 refine ag.loop (ι := Nat × ad) (fun x => [(9, .ext (i64 x.1)), (7, .ext x.2), (1, .ext pv), (2, .ext sv)]) (fun _ => []) (fun x => [aH 9 1 x.2 ((c.names.take (c.params.length + x.1)).map uj)]) (fun x => x.1 ≤ c.shared.length ∧ sY x.2) (fun x => c.shared.length - x.1) (0, v) ⟨⟨rfl, rfl, rfl, rfl, trivial⟩, ⟨_, rfl⟩, ⟨_, .cons .h .nil⟩⟩ ⟨Nat.zero_le _, hv⟩ (fun _ => rfl) (fun _ => rfl) (fun _ => rfl) ?_
 clear hv v
 rintro ⟨i, v⟩ ⟨hi, hv⟩ next
 simp only at hi hv next ⊢
 repeat' (first | refine aw.a_ ?_ | refine ag.s_ ?_ | (refine X 9 ?_; (iterate 2 refine J Z ?_) <;> (refine .cons (ql hX Z Z Z Z Z Z (by assumption) Z Z ?_)) <;> ((refine .cons (qc Z ?_ ?_)) <;> intro _) <;> (refine Y Z ?_)) | (refine X 11 ?_; (iterate 3 refine J Z ?_) <;> (refine .cons (bh hX Z Z Z Z Z (.of hs) (aN dS (by omega)) Z Z Z ?_)) <;> (iterate 3 refine J Z ?_) <;> ((refine .cons (sZ hX Z Z Z Z Z Z Z Z Z Z Z Z b9 Z Z Z Z Z (by repeat (first | exact .h | apply aI.t)) Z (by simp only [List.length_map, List.length_take]; omega) Z Z ?_)) <;> intro kp) <;> (refine J Z ?_) <;> (refine Y Z ?_)) | (refine X 10 ?_; (refine J Z ?_) <;> (refine .cons (qa Z Z Z Z Z (wI (by first | omega | (simp only [Int.ofNat_eq_natCast]; omega)) (by first | omega | (simp only [Int.ofNat_eq_natCast]; omega))) Z Z ?_)) <;> (refine J Z ?_) <;> (refine Y Z ?_)) | (refine X 12 ?_; (refine J Z ?_) <;> (refine Y Z ?_)) | refine ag.t_ rfl ?_ | refine ag.f_ rfl ?_ | refine ag.k_ ?_ | refine ag.b_ ?_ | refine ag.e_ ?_ | refine aw.e_ ?_ | refine aw.c_ ?_ | refine aw.b_ ?_)
 ·refine next (i + 1, _) _ _ _ (by simp only; omega) ⟨⟨rfl, rfl, rfl, rfl, trivial⟩, ⟨_, rfl⟩, ⟨_, by rw [← Nat.add_assoc, take_succ (by omega) kV, List.map_append, jU (by omega)]; exact .cons .h .nil⟩⟩ ⟨by simp only; omega, .slice _ _ _⟩
 clear next
 have hip : i = c.shared.length := by omega
 subst hip
 rw [← hn, List.take_length]
 refine ag.loop (fun i => [(10, .ext (i64 i)), (7, .ext v)]) (fun _ => []) (fun x => [aH 9 1 v (c.names.map uj)]) (fun i => i ≤ c.names.length ∧ c.gg = qD c.names i) (fun i => c.names.length - i) 0 ⟨⟨rfl, rfl, trivial⟩, ⟨_, rfl⟩, ⟨_, .cons .h .nil⟩⟩ ⟨Nat.zero_le _, by simp_all [az.gg]⟩ (fun _ => rfl) (fun _ => rfl) (fun _ => rfl) ?_
 rintro i ⟨hi2, he⟩ next
 have hls : (c.names.map uj).length = c.names.length := List.length_map ..
 repeat' (first | refine aw.a_ ?_ | refine ag.s_ ?_ | (refine X 13 ?_; (iterate 2 refine J Z ?_) <;> (refine .cons (qlG hX Z Z Z Z Z Z (by first | exact .h | exact .t .h | exact .t (.t .h)) Z Z ?_)) <;> ((refine .cons (qc Z ?_ ?_)) <;> intro _) <;> (refine Y Z ?_)) | (refine ag.draw (id := 15) ax [0, 1, 2, 3, 4, 5, 6, 7] #[0, 0, 3, 7, 0, 0, 48, 127] (by kernel_rfl) (by kernel_rfl) (by kernel_rfl) ?_; (iterate 2 refine .cq hX rfl rfl rfl ?_) <;> ((refine .cons rfl (fQ hX rfl rfl rfl rfl rfl (by repeat (first | exact .h | apply aI.t)) (aN kV (by omega)) rfl rfl rfl ?_)) <;> refine ⟨_, .comp rfl, ?_⟩) <;> (iterate 3 refine .cq hX rfl rfl rfl ?_) <;> ((refine .cons rfl (qhi hX rfl rfl rfl rfl rfl hv (fun h f => aH.rd (f.pick .h)) (by rw [List.length_map]; omega) rfl rfl ?_)) <;> refine ⟨_, .comp rfl, ?_⟩) <;> ((refine .cons rfl (aV rfl rfl rfl rfl Ma rfl rfl (fun h f => H9 hK (c.names.getD i kV) (c.names.take i) _ h f.wf (by rw [List.map_take]; exact rd.take hv (aH.rd (f.pick .h)) (by rw [List.length_map]; omega)) (by rw [List.length_take]; omega)) ?_ ?_)) <;> intro _ <;> refine ⟨_, .comp rfl, ?_⟩) <;> (refine .nil ⟨?_, .intro rfl ?_⟩ <;> (repeat' (first | exact trivial | exact .inl rfl | refine ⟨?_, ?_⟩)))) | (refine X 16 ?_; (refine J Z ?_) <;> (refine Y Z ?_)) | (refine X 14 ?_; (refine J Z ?_) <;> (refine .cons (qa Z Z Z Z Z (wI (by first | omega | (simp only [Int.ofNat_eq_natCast]; omega)) (by first | omega | (simp only [Int.ofNat_eq_natCast]; omega))) Z Z ?_)) <;> (refine J Z ?_) <;> (refine Y Z ?_)) | (refine X 17 ?_; (refine J Z ?_) <;> (refine Y Z ?_)) | refine ag.r_ ?_ | refine aw.d_ ?_ | refine aw.f_ ?_ | refine ag.t_ rfl ?_ | refine ag.f_ rfl ?_ | refine ag.k_ ?_ | refine ag.b_ ?_ | refine ag.e_ ?_ | refine aw.e_ ?_ | refine aw.c_ ?_ | refine aw.b_ ?_ | refine aw.r_ hX rfl ?_)
 ·clear next
  refine fun h f => ⟨?_, f.aS.bx .nil⟩
  clear f
  rw [he, gM (by omega)]; simp_all [aP]
 ·refine next (i + 1) _ _ _ (by omega) ⟨⟨rfl, rfl, trivial⟩, ⟨_, rfl⟩, ⟨_, .cons .h .nil⟩⟩ ⟨by omega, ?_⟩
  clear next
  rw [he, gM (by omega)]; simp_all
 ·exact fun h f => ⟨by rw [he, xC (by omega)]; rfl, f.aS.bx .nil⟩
def az.nk (f : az) : Bool := f.gg && decide (0 ≤ f.local ∧ f.local ≤ 64)
structure Seen (f : az) (i : Nat) (m : List ((Nat × Nat) × Bool)) : Prop where
 look : ∀ q, mw m q = JF q (f.names.take i)
theorem Seen.step {f : az} {i : Nat} {m : List ((Nat × Nat) × Bool)} {a : Nat × Nat} (hi : i < f.names.length) (ha : a = f.names.getD i kV) (s : Seen f i m) : Seen f (i + 1) (BC m a true) := by
 refine ⟨fun q => ?_⟩
 rw [Cd, s.look, take_succ hi kV, ← ha]
 unfold JF
 rw [List.any_append]
 by_cases h : a = q <;> simp [h]
theorem mask34 : Nat.lor (jm Tryz.f34) (Nat.sub (Nat.pow 2 1) 1) = 4835705442439177032433839 := by kernel_rfl
theorem Hb (hK : KN base K) (c : az) (pv sv iv : ad) (h : Heap) (w : Wf h) (hB : (lies base).holds h) (r : gk c) (hr : (ke c pv sv iv).holds h) : Sp P K 34 [cv c pv sv iv] h (dE (.bool c.nk) h) := by
 have hp := hr.1
 have hs := hr.2.1
 have lp := bG hp
 have ls := bG hs
 have bp := r.zN
 have bs := r.Bx
 have hn := qj c
 refine Sp.start (m := 4835705442439177032433839) (n := 87) w (hK.none 34 rfl rfl _ _) Tryz.func34 rfl rfl mask34 rfl rfl ?_
 repeat' (first | refine aw.a_ ?_ | refine ag.s_ ?_ | (refine X 0 ?_; (iterate 2 refine J Z ?_) <;> (refine Y Z ?_)) | (refine X 1 ?_; (iterate 2 refine J Z ?_) <;> ((refine .cons (aV Z Z Z Z KO Z Z (fun h f => na hK (c.n, c.c) r.name h f.wf (f.ro (.of hB))) ?_ ?_)) <;> intro _) <;> (iterate 4 refine J Z ?_) <;> (first | (refine J Z ?_) | (refine .cons (ql hX Z Z Z Z Z Z (by assumption) Z Z ?_))) <;> (first | (refine J Z ?_) | (refine .cons (qc Z ?_ ?_)) <;> intro _) <;> (iterate 4 refine J Z ?_) <;> (first | (refine J Z ?_) | (refine .cons (ql hX Z Z Z Z Z Z (by assumption) Z Z ?_))) <;> (first | (refine J Z ?_) | (refine .cons (qc Z ?_ ?_)) <;> intro _) <;> (iterate 4 refine J Z ?_) <;> (first | (refine J Z ?_) | (refine .cons (qc Z ?_ ?_)) <;> intro _) <;> (iterate 4 refine J Z ?_) <;> (first | (refine J Z ?_) | (refine .cons (qc Z ?_ ?_)) <;> intro _) <;> (refine J Z ?_) <;> (refine Y Z ?_)) | (refine X 2 ?_; (refine J Z ?_) <;> (refine Y Z ?_)) | (refine X 3 ?_; ((refine .cons (Ng kn hX Z Z Z Z ?_)) <;> (intro km)) <;> (refine J Z ?_) <;> (refine Y Z ?_)) | (refine X 4 ?_; (iterate 2 refine J Z ?_) <;> (refine .cons (ql hX Z Z Z Z Z Z (by assumption) Z Z ?_)) <;> (refine J Z ?_) <;> (refine Y Z ?_)) | refine ag.r_ ?_ | refine aw.d_ ?_ | refine ag.t_ rfl ?_ | refine ag.f_ rfl ?_ | refine ag.k_ ?_ | refine ag.b_ ?_ | refine aw.r_ hX rfl ?_)
 all_goals try (refine fun h f => ⟨?_, f.aS⟩; clear f; simp only [aP]; unfold az.nk az.gg az.cB; simp_all; done)
 all_goals try (refine fun h f => ⟨?_, f.aS⟩; clear f; simp only [aP]; unfold az.nk az.gg az.cB; first | (rw [decide_eq_false (p := c.params.length ≤ 6) (by omega)]; simp; done) | (rw [decide_eq_false (p := c.shared.length ≤ 4) (by omega)]; simp; done) | (rw [decide_eq_false (p := 0 ≤ c.local ∧ c.local ≤ 64) (by omega)]; simp; done))
 have h6 : c.params.length ≤ 6 := by omega
 have h4 : c.shared.length ≤ 4 := by omega
 have hl : 0 ≤ c.local ∧ c.local ≤ 64 := by omega
 refine ag.loop (ι := Nat × List ((Nat × Nat) × Bool)) (fun x => [(38, .ext (i64 x.1)), (3, .ext (.map km)), (36, .ext pv), (37, .ext (i64 c.params.length)), (1, .ptr 0 0)]) (fun _ => [.own [.str c.n c.c, pv, sv, .int .i64 c.local, iv] 26 false]) (fun x => [uR kn km (x.2.map kh)]) (fun x => x.1 ≤ c.params.length ∧ c.nk = ((c.params.drop x.1).all lM && c.shared.all eS && qD c.names x.1) ∧ Seen c x.1 x.2) (fun x => c.params.length - x.1) (0, []) ⟨⟨rfl, rfl, rfl, rfl, rfl, trivial⟩, ⟨_, rfl⟩, ⟨_, .cons .h .nil⟩⟩ ⟨Nat.zero_le _, by unfold az.nk az.gg az.cB; simp_all, ⟨fun _ => rfl⟩⟩ (fun _ => rfl) (fun _ => rfl) (fun _ => rfl) ?_
 rintro ⟨i, m⟩ ⟨hi, he, hS⟩ next
 simp only at next hi he hS ⊢
 have hlk := hS.look
 repeat' (first | refine aw.a_ ?_ | refine ag.s_ ?_ | (refine X 5 ?_; ((refine .cons (qc Z ?_ ?_)) <;> intro _) <;> (refine Y Z ?_)) | (refine X 6 ?_; (refine .cons (bh hX Z Z Z Z Z (.of hp) (aN eu (by omega)) Z Z Z ?_)) <;> (iterate 3 refine J Z ?_) <;> (refine Y Z ?_)) | (refine X 7 ?_; (iterate 2 refine J Z ?_) <;> ((refine .cons (aV Z Z Z Z KO Z Z (fun h f => na hK (Kj (c.params.getD i eu)) (r.Gt _ (aY _ (by omega))) h f.wf (f.ro (.of hB))) ?_ ?_)) <;> intro _) <;> (iterate 5 refine J Z ?_) <;> (first | (refine J Z ?_) | (refine .cons (BO (a := Kj (c.params.getD i eu)) hX Z Z LR MQ Z Z .h Z Z ?_ ?_)) <;> (intro _)) <;> (refine J Z ?_) <;> (refine Y Z ?_)) | (refine X 8 ?_; (refine J Z ?_) <;> (refine Y Z ?_)) | (refine X 9 ?_; (iterate 3 refine J Z ?_) <;> (refine .cons (Lr (a := Kj (c.params.getD i eu)) hX Z Z LR Z Z Z .h Z Z Z ?_)) <;> (refine Y Z ?_)) | (refine X 10 ?_; (refine .cons (qa Z Z Z Z Z (wI (by first | omega | (simp only [Int.ofNat_eq_natCast]; omega)) (by first | omega | (simp only [Int.ofNat_eq_natCast]; omega))) Z Z ?_)) <;> (refine J Z ?_) <;> (refine Y Z ?_)) | (refine X 11 ?_; (iterate 2 refine J Z ?_) <;> (refine .cons (ql hX Z Z Z Z Z Z (by assumption) Z Z ?_)) <;> (refine J Z ?_) <;> (refine Y Z ?_)) | refine ag.r_ ?_ | refine aw.d_ ?_ | refine aw.f_ ?_ | refine ag.t_ rfl ?_ | refine ag.f_ rfl ?_ | refine ag.k_ ?_ | refine ag.b_ ?_ | refine ag.e_ ?_ | refine aw.e_ ?_ | refine aw.c_ ?_ | refine aw.b_ ?_ | refine aw.r_ hX rfl ?_)
 ·clear next
  refine fun h f => ⟨?_, f.aS.bx .nil⟩
  clear f
  rw [he, cJ _ (by omega) eu, gM (by omega), lW (by omega), ← hlk]; simp_all [aP]
 ·refine next (i + 1, BC m _ true) _ _ _ (by simp only; omega) ⟨⟨rfl, rfl, rfl, rfl, rfl, trivial⟩, ⟨_, rfl⟩, ⟨_, by rw [Bz]; exact .cons .h .nil⟩⟩ ⟨by simp only; omega, ?_, hS.step (by omega) (lW (by omega)).symm⟩
  clear next
  rw [he, cJ _ (by omega) eu, gM (by omega), lW (by omega), ← hlk]; simp_all [lM]
 ·clear next
  refine fun h f => ⟨?_, f.aS.bx .nil⟩
  clear f
  rw [he, cJ _ (by omega) eu]; simp_all [aP, lM]
 clear next
 have hip : i = c.params.length := by omega
 subst hip
 rw [List.drop_of_length_le (Nat.le_refl _)] at he
 refine ag.loop (ι := Nat × List ((Nat × Nat) × Bool)) (fun x => [(59, .ext (i64 x.1)), (3, .ext (.map km)), (57, .ext sv), (58, .ext (i64 c.shared.length)), (1, .ptr 0 0)]) (fun _ => [.own [.str c.n c.c, pv, sv, .int .i64 c.local, iv] 26 false]) (fun x => [uR kn km (x.2.map kh)]) (fun x => x.1 ≤ c.shared.length ∧ c.nk = ((c.shared.drop x.1).all eS && qD c.names (c.params.length + x.1)) ∧ Seen c (c.params.length + x.1) x.2) (fun x => c.shared.length - x.1) (0, m) ⟨⟨rfl, rfl, rfl, rfl, rfl, trivial⟩, ⟨_, rfl⟩, ⟨_, .cons .h .nil⟩⟩ ⟨Nat.zero_le _, by rw [he]; simp, hS⟩ (fun _ => rfl) (fun _ => rfl) (fun _ => rfl) ?_
 clear he hlk hS m
 rintro ⟨i, m⟩ ⟨hi, he, hS⟩ next
 simp only at next hi he hS ⊢
 have hlk := hS.look
 repeat' (first | refine aw.a_ ?_ | refine ag.s_ ?_ | (refine X 12 ?_; ((refine .cons (qc Z ?_ ?_)) <;> intro _) <;> (refine Y Z ?_)) | (refine X 13 ?_; (refine .cons (bh hX Z Z Z Z Z (.of hs) (aN dS (by omega)) Z Z Z ?_)) <;> (iterate 3 refine J Z ?_) <;> (refine Y Z ?_)) | (refine X 14 ?_; (iterate 2 refine J Z ?_) <;> ((refine .cons (aV Z Z Z Z KO Z Z (fun h f => na hK (Kk (c.shared.getD i dS)) (r.Gf _ (aY _ (by omega))) h f.wf (f.ro (.of hB))) ?_ ?_)) <;> intro _) <;> (iterate 5 refine J Z ?_) <;> (first | (refine J Z ?_) | (refine .cons (BO (a := Kk (c.shared.getD i dS)) hX Z Z LR MQ Z Z .h Z Z ?_ ?_)) <;> (intro _)) <;> (iterate 4 refine J Z ?_) <;> (first | (refine J Z ?_) | (refine .cons (qc Z ?_ ?_)) <;> intro _) <;> (iterate 4 refine J Z ?_) <;> (first | (refine J Z ?_) | (refine .cons (qc Z ?_ ?_)) <;> intro _) <;> (refine J Z ?_) <;> (refine Y Z ?_)) | (refine X 15 ?_; (refine J Z ?_) <;> (refine Y Z ?_)) | (refine X 16 ?_; (iterate 3 refine J Z ?_) <;> (refine .cons (Lr (a := Kk (c.shared.getD i dS)) hX Z Z LR Z Z Z .h Z Z Z ?_)) <;> (refine Y Z ?_)) | (refine X 17 ?_; (refine .cons (qa Z Z Z Z Z (wI (by first | omega | (simp only [Int.ofNat_eq_natCast]; omega)) (by first | omega | (simp only [Int.ofNat_eq_natCast]; omega))) Z Z ?_)) <;> (refine J Z ?_) <;> (refine Y Z ?_)) | (refine X 18 ?_; (refine J Z ?_) <;> (refine Y Z ?_)) | refine ag.r_ ?_ | refine aw.d_ ?_ | refine aw.f_ ?_ | refine ag.t_ rfl ?_ | refine ag.f_ rfl ?_ | refine ag.k_ ?_ | refine ag.b_ ?_ | refine ag.e_ ?_ | refine aw.e_ ?_ | refine aw.c_ ?_ | refine aw.b_ ?_ | refine aw.r_ hX rfl ?_)
 rotate_left 3
 ·refine next (i + 1, BC m _ true) _ _ _ (by simp only; omega) ⟨⟨rfl, rfl, rfl, rfl, rfl, trivial⟩, ⟨_, rfl⟩, ⟨_, by rw [Bz]; exact .cons .h .nil⟩⟩ ⟨by simp only; omega, ?_, hS.step (i := c.params.length + i) (by omega) (jU (by omega)).symm⟩
  clear next
  rw [he, cJ _ (by omega) dS, gM (by omega), jU (by omega), ← hlk]
  unfold eS
  rw [decide_eq_true (p := 1 ≤ _) (by omega), decide_eq_true (p := _ ≤ (64 : Int)) (by omega)]
  simp_all [Nat.add_assoc]
 rotate_left
 ·exact fun h f => ⟨by rw [he, List.drop_of_length_le (by omega), xC (by omega)]; rfl, f.aS.bx .nil⟩
 all_goals
  clear next
  refine fun h f => ⟨?_, f.aS.bx .nil⟩
  clear f
  rw [he, cJ _ (by omega) dS, gM (by omega), jU (by omega), ← hlk]
  unfold eS
  first
   | (simp_all [aP]; done)
   | (rw [decide_eq_false (p := 1 ≤ _) (by omega)]; simp [aP]; done)
   | (rw [decide_eq_false (p := _ ≤ (64 : Int)) (by omega)]; simp [aP]; done)
end Em
end Go.HL
