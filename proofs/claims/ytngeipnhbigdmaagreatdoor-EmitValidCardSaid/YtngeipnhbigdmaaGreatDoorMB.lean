/- The walk: names, the heads of code. No statement of the seat stands here. -/
import Derived.Test.YtngeipnhbigdmaaGreatDoorMA
set_option linter.unusedVariables false
set_option linter.unusedSimpArgs false
namespace Go.HL
open Go Go.Proofs
namespace Em
set_option maxRecDepth 10000
variable {K : CallFn} {base : List (Nat × HObj)}
theorem fs9 : KeyFine P 9 strKey := fine_str (tab_str hT (t := 9) rfl)
theorem zh4 : zeroH P 4 = some (.bool false) := by kernel_rfl
structure NameOk (p : Nat × Nat) : Prop where
 len : p.1 ≤ 1152921504606846976
 zero : 0 < p.1 ∨ p.2 = 0
def scell (p : Nat × Nat) : List HVal := [.str p.1 p.2]
def noStr : Nat × Nat := (0, 0)
def inM (p : Nat × Nat) (l : List (Nat × Nat)) : Bool := l.any fun q => decide (q = p)
theorem in_run (hK : KN base K) (p : Nat × Nat) (l : List (Nat × Nat)) (v : HVal) (h : Heap) (w : Wf h) (hs : (rd v 1 (l.map scell)).holds h) (hb : l.length ≤ 1152921504606846976) : Sp P K 83 [.str p.1 p.2, v] h (Val (.bool (inM p l)) h) := by
 have ll := rd_len hs
 refine Sp.start (m := 131635) (n := 18) w (hK.none 83 rfl rfl _ _) Tryz.func83 rfl rfl mask83 rfl rfl ?_
 repeat' (first
  | refine ToX.a_ ?_
  | refine WCX.s_ ?_
  | (refine WCX.g_ (id := 0) ?_; (refine .cons (q hX rfl ?_)) <;> (refine .nil (.intro rfl ?_)))
  | (refine WCX.g_ (id := 1) ?_; (refine .cons (q hX rfl ?_)) <;> (refine .nil (.intro rfl ?_)))
  | refine WCX.b_ ?_)
 refine WCX.loop (fun i => [(0, .ext (.str p.1 p.2)), (1, .ext v), (5, .ext (i64 i))]) (fun _ => []) (fun _ => []) (fun i => i ≤ l.length ∧ inM p l = (l.drop i).any fun q => decide (q = p)) (fun i => l.length - i) 0 ⟨⟨rfl, rfl, rfl, trivial⟩, ⟨_, rfl⟩, ⟨_, .nil⟩⟩ ⟨Nat.zero_le _, rfl⟩ (fun _ => rfl) (fun _ => rfl) (fun _ => rfl) ?_
 rintro i ⟨hi, he⟩ next
 repeat' (first
  | refine ToX.a_ ?_
  | refine WCX.s_ ?_
  | (refine WCX.g_ (id := 2) ?_; (iterate 2 refine .cons (q hX rfl ?_)) <;> ((refine .cons (ql hX rfl rfl rfl rfl rfl rfl (by assumption) rfl rfl ?_))) <;> ((refine .cons (qc rfl ?_ ?_)) <;> intro _) <;> (refine .nil (.intro rfl ?_)))
  | (refine WCX.g_ (id := 4) ?_; (iterate 2 refine .cons (q hX rfl ?_)) <;> ((refine .cons (qidx hX rfl rfl rfl rfl rfl (.of hs) (row_i noStr (by omega)) rfl rfl rfl ?_))) <;> (iterate 2 refine .cons (q hX rfl ?_)) <;> ((refine .cons (qc rfl ?_ ?_)) <;> intro _) <;> (refine .nil (.intro rfl ?_)))
  | (refine WCX.g_ (id := 5) ?_; (refine .cons (q hX rfl ?_)) <;> (refine .nil (.intro rfl ?_)))
  | (refine WCX.g_ (id := 3) ?_; (refine .cons (q hX rfl ?_)) <;> ((refine .cons (qa rfl rfl rfl rfl rfl (wI (by first | omega | (simp only [Int.ofNat_eq_natCast]; omega)) (by first | omega | (simp only [Int.ofNat_eq_natCast]; omega))) rfl rfl ?_))) <;> (refine .cons (q hX rfl ?_)) <;> (refine .nil (.intro rfl ?_)))
  | (refine WCX.g_ (id := 6) ?_; (refine .cons (q hX rfl ?_)) <;> (refine .nil (.intro rfl ?_)))
  | refine WCX.r_ ?_
  | refine ToX.d_ ?_
  | refine ToX.f_ ?_
  | refine WCX.t_ rfl ?_
  | refine WCX.f_ rfl ?_
  | refine WCX.k_ ?_
  | refine WCX.b_ ?_
  | refine WCX.e_ ?_
  | refine ToX.e_ ?_
  | refine ToX.c_ ?_
  | refine ToX.b_ ?_
  | refine ToX.r_ hX rfl ?_)
 ·clear next
  refine fun h f => ⟨?_, f.chg⟩
  rw [he, any_step _ (by omega) noStr, decide_eq_true (Prod.ext_iff.2 (by assumption))]; rfl
 ·refine next (i + 1) _ _ _ (by omega) ⟨⟨rfl, rfl, rfl, trivial⟩, ⟨_, rfl⟩, ⟨_, .nil⟩⟩ ⟨by omega, ?_⟩
  rw [he, any_step _ (by omega) noStr, decide_eq_false (fun e => absurd (Prod.ext_iff.1 e) (by assumption))]; rfl
 ·exact fun h f => ⟨by rw [he, List.drop_of_length_le (by omega)]; rfl, f.chg⟩
theorem refWords_run (hK : KN base K) (h : Heap) (w : Wf h) : Sp P K 243 [] h (Tr (fun v C' => ∃ k, v = .slice k 0 25 (some 25) ∧ C' = [ownS 9 1 (.slice k 0 25 (some 25)) (wordList.map scell)]) h) := by
 refine Sp.start (m := 1) (n := 2) w (hK.none 243 rfl rfl _ _) Tryz.func243 rfl rfl mask243 rfl rfl ?_
 repeat' (first
  | refine ToX.a_ ?_
  | refine WCX.s_ ?_
  | (refine WCX.g_ (id := 0) ?_; (refine .cons (q hX rfl ?_)) <;> (refine .nil (.intro rfl ?_)))
  | (refine WCX.g_ (id := 1) ?_; (iterate 2 refine .cons (q hX rfl ?_)) <;> (refine .nil (.intro rfl ?_)))
  | refine WCX.r_ ?_)
 refine ToX.leak 0 (fun k => ownS 9 1 (.slice k 0 25 (some 25)) (wordList.map scell)) rfl (fun k => .own rfl (by intro r hr; obtain ⟨q, _, rfl⟩ := List.mem_map.1 hr; rfl) rfl) (fun _ => rfl) rfl fun k => ?_
 refine ToX.r_ hX rfl ?_
 exact fun h f => ⟨_, f.chg, k, rfl, rfl⟩
theorem words_run (hK : KN base K) (h : Heap) (w : Wf h) (hB : (lies base).holds h) : Sp P K 149 [] h (Tr (fun v C' => ∃ k, v = .map k ∧ C' = [mapB strKey k ((wordList.map fun q => (q, true)).map cellB)]) h) :=
 ⟨_, _, .known (hK.words h hB), [mapB strKey h.next ((wordList.map fun q => (q, true)).map cellB)], chg_new _ (made_new w _) ⟨_, _, (made_new w _).get, ents_zip _ _⟩ (fun j e => e), _, rfl, rfl⟩
def byteM (p : Nat × Nat) (i : Nat) : Int := Int.ofNat (sIndex p.1 p.2 i)
def restM (p : Nat × Nat) (i : Nat) : Bool := ((List.range p.1).drop i).all fun i => innerM (byteM p i)
theorem restM_step {p : Nat × Nat} {i : Nat} (hi : i < p.1) : restM p i = (innerM (byteM p i) && restM p (i + 1)) := by
 unfold restM
 rw [all_step _ (by simpa using hi) 0]
 simp [List.getD, hi]
theorem restM_end {p : Nat × Nat} {i : Nat} (hi : p.1 ≤ i) : restM p i = true := by
 unfold restM
 rw [List.drop_of_length_le (by simpa using hi)]; rfl
def shapedM (p : Nat × Nat) : Bool := !decide (p.1 = 0) && letterM (byteM p 0) && restM p 0
theorem shaped_run (hK : KN base K) (p : Nat × Nat) (hp : NameOk p) (h : Heap) (w : Wf h) : Sp P K 242 [.str p.1 p.2] h (Val (.bool (shapedM p)) h) := by
 have hp1 := hp.len
 have hp2 := hp.zero
 refine Sp.start (m := 4229133) (n := 23) w (hK.none 242 rfl rfl _ _) Tryz.func242 rfl rfl mask242 rfl rfl ?_
 repeat' (first
  | refine ToX.a_ ?_
  | refine WCX.s_ ?_
  | (refine WCX.g_ (id := 0) ?_; (refine .cons (q hX rfl ?_)) <;> (refine .nil (.intro rfl ?_)))
  | (refine WCX.g_ (id := 1) ?_; (refine .cons (q hX rfl ?_)) <;> ((refine .cons (qce (u' := 0) (c' := 0) rfl rfl rfl rfl rfl ?_ ?_)) <;> intro _) <;> (iterate 2 refine .cons (q hX rfl ?_)) <;> (first | (refine .cons (q hX rfl ?_)) | (refine .cons (qs hX rfl rfl rfl rfl (by first | omega | (simp only [Int.ofNat_eq_natCast]; omega)) rfl rfl ?_))) <;> (first | (refine .cons (q hX rfl ?_)) | (refine .cons (qcallB rfl rfl rfl rfl ca310 rfl rfl (fun h f => letter2_run hK _ h f.wf) ?_ ?_)) <;> intro _) <;> (iterate 2 refine .cons (q hX rfl ?_)) <;> (refine .nil (.intro rfl ?_)))
  | (refine WCX.g_ (id := 2) ?_; (refine .cons (q hX rfl ?_)) <;> (refine .nil (.intro rfl ?_)))
  | (refine WCX.g_ (id := 3) ?_; (refine .cons (q hX rfl ?_)) <;> (refine .nil (.intro rfl ?_)))
  | refine WCX.r_ ?_
  | refine ToX.d_ ?_
  | refine WCX.t_ rfl ?_
  | refine WCX.f_ rfl ?_
  | refine WCX.k_ ?_
  | refine WCX.b_ ?_
  | refine ToX.r_ hX rfl ?_)
 ·exact fun h f => ⟨by simp_all [resV, shapedM], f.chg⟩
 all_goals try (refine fun h f => ⟨?_, f.chg⟩; clear f; simp only [resV]; unfold shapedM byteM; simp_all; done)
 refine WCX.loop (fun i => [(0, .ext (.str p.1 p.2)), (3, .ext (i64 i))]) (fun _ => []) (fun _ => []) (fun i => i ≤ p.1 ∧ shapedM p = restM p i) (fun i => p.1 - i) 0 ⟨⟨rfl, rfl, trivial⟩, ⟨_, rfl⟩, ⟨_, .nil⟩⟩ ⟨Nat.zero_le _, by (have : ¬ p.1 = 0 := by omega); unfold shapedM byteM; simp_all⟩ (fun _ => rfl) (fun _ => rfl) (fun _ => rfl) ?_
 rintro i ⟨hi, he⟩ next
 repeat' (first
  | refine ToX.a_ ?_
  | refine WCX.s_ ?_
  | (refine WCX.g_ (id := 4) ?_; (iterate 3 refine .cons (q hX rfl ?_)) <;> ((refine .cons (qc rfl ?_ ?_)) <;> intro _) <;> (refine .nil (.intro rfl ?_)))
  | (refine WCX.g_ (id := 6) ?_; (iterate 2 refine .cons (q hX rfl ?_)) <;> ((refine .cons (qs hX rfl rfl rfl rfl (by first | omega | (simp only [Int.ofNat_eq_natCast]; omega)) rfl rfl ?_))) <;> ((refine .cons (qcallB rfl rfl rfl rfl ca314 rfl rfl (fun h f => inner2_run hK _ h f.wf) ?_ ?_)) <;> intro _) <;> (refine .cons (q hX rfl ?_)) <;> (refine .nil (.intro rfl ?_)))
  | (refine WCX.g_ (id := 7) ?_; (refine .cons (q hX rfl ?_)) <;> (refine .nil (.intro rfl ?_)))
  | (refine WCX.g_ (id := 5) ?_; (refine .cons (q hX rfl ?_)) <;> ((refine .cons (qa rfl rfl rfl rfl rfl (wI (by first | omega | (simp only [Int.ofNat_eq_natCast]; omega)) (by first | omega | (simp only [Int.ofNat_eq_natCast]; omega))) rfl rfl ?_))) <;> (refine .cons (q hX rfl ?_)) <;> (refine .nil (.intro rfl ?_)))
  | (refine WCX.g_ (id := 8) ?_; (refine .cons (q hX rfl ?_)) <;> (refine .nil (.intro rfl ?_)))
  | refine WCX.r_ ?_
  | refine ToX.d_ ?_
  | refine ToX.f_ ?_
  | refine WCX.t_ rfl ?_
  | refine WCX.f_ rfl ?_
  | refine WCX.k_ ?_
  | refine WCX.b_ ?_
  | refine WCX.e_ ?_
  | refine ToX.e_ ?_
  | refine ToX.c_ ?_
  | refine ToX.b_ ?_
  | refine ToX.r_ hX rfl ?_)
 ·refine next (i + 1) _ _ _ (by omega) ⟨⟨rfl, rfl, trivial⟩, ⟨_, rfl⟩, ⟨_, .nil⟩⟩ ⟨by omega, ?_⟩
  clear next
  rw [he, restM_step (by omega)]; unfold byteM; simp_all
 ·clear next
  refine fun h f => ⟨?_, f.chg⟩
  clear f
  rw [he, restM_step (by omega)]; unfold byteM; simp_all [resV]
 ·exact fun h f => ⟨by rw [he, restM_end (by omega)]; rfl, f.chg⟩
def nameM (p : Nat × Nat) : Bool := shapedM p && decide (p.1 ≤ 16) && !inM p wordList
theorem refName_run (hK : KN base K) (p : Nat × Nat) (hp : NameOk p) (h : Heap) (w : Wf h) : Sp P K 153 [.str p.1 p.2] h (Val (.bool (nameM p)) h) := by
 have hp1 := hp.len
 refine Sp.start (m := 5) (n := 16) w (hK.none 153 rfl rfl _ _) Tryz.func153 rfl rfl mask153 rfl rfl ?_
 repeat' (first
  | refine ToX.a_ ?_
  | refine WCX.s_ ?_
  | (refine WCX.g_ (id := 0) ?_; (refine .cons (q hX rfl ?_)) <;> (refine .nil (.intro rfl ?_)))
  | (refine WCX.g_ (id := 1) ?_; (refine .cons (q hX rfl ?_)) <;> ((refine .cons (qcallB rfl rfl rfl rfl ca242 rfl rfl (fun h f => shaped_run hK p hp h f.wf) ?_ ?_)) <;> intro _) <;> (iterate 3 refine .cons (q hX rfl ?_)) <;> (first | (refine .cons (q hX rfl ?_)) | (refine .cons (qc rfl ?_ ?_)) <;> intro _) <;> (iterate 3 refine .cons (q hX rfl ?_)) <;> (first | (refine .cons (q hX rfl ?_)) | (refine .cons (qcall rfl rfl rfl rfl ca243 rfl rfl (fun h f => refWords_run hK h f.wf) ?_)) <;> (rintro v C' ⟨kw, rfl, rfl⟩)) <;> (first | (refine .cons (q hX rfl ?_)) | (refine .cons (qcallB rfl rfl rfl rfl ca83 rfl rfl (fun h f => in_run hK p wordList _ h f.wf (ownS.rd (f.pick .h)) (by decide)) ?_ ?_)) <;> intro _) <;> (iterate 3 refine .cons (q hX rfl ?_)) <;> (refine .nil (.intro rfl ?_)))
  | refine WCX.r_ ?_
  | refine ToX.r_ hX rfl ?_)
 all_goals (intro h f; refine ⟨?_, f.chg.picks .nil⟩; clear f; unfold nameM; first | (simp_all [resV]; done) | (simp_all [resV]; omega))
theorem lexName_run (hK : KN base K) (p : Nat × Nat) (hp : NameOk p) (h : Heap) (w : Wf h) (hB : (lies base).holds h) : Sp P K 78 [.str p.1 p.2] h (Val (.bool (nameM p)) h) := by
 have hp1 := hp.len
 have hp2 := hp.zero
 have hwl : inM p wordList = _ := (lookB_true wordList p).symm
 refine Sp.start (m := 2208301069) (n := 33) w (hK.none 78 rfl rfl _ _) Tryz.func78 rfl rfl mask78 rfl rfl ?_
 repeat' (first
  | refine ToX.a_ ?_
  | refine WCX.s_ ?_
  | (refine WCX.g_ (id := 0) ?_; (refine .cons (q hX rfl ?_)) <;> (refine .nil (.intro rfl ?_)))
  | (refine WCX.g_ (id := 1) ?_; (refine .cons (q hX rfl ?_)) <;> ((refine .cons (qce (u' := 0) (c' := 0) rfl rfl rfl rfl rfl ?_ ?_)) <;> intro _) <;> (iterate 3 refine .cons (q hX rfl ?_)) <;> (first | (refine .cons (q hX rfl ?_)) | (refine .cons (qc rfl ?_ ?_)) <;> intro _) <;> (iterate 3 refine .cons (q hX rfl ?_)) <;> (first | (refine .cons (q hX rfl ?_)) | (refine .cons (qs hX rfl rfl rfl rfl (by first | omega | (simp only [Int.ofNat_eq_natCast]; omega)) rfl rfl ?_))) <;> (first | (refine .cons (q hX rfl ?_)) | (refine .cons (qcallB rfl rfl rfl rfl ca148 rfl rfl (fun h f => letter_run hK _ h f.wf) ?_ ?_)) <;> intro _) <;> (iterate 3 refine .cons (q hX rfl ?_)) <;> (first | (refine .cons (q hX rfl ?_)) | (refine .cons (qcall rfl rfl rfl rfl ca149 rfl rfl (fun h f => words_run hK h f.wf (f.ro (.of hB))) ?_)) <;> (rintro v C' ⟨kw, rfl, rfl⟩)) <;> (refine .cons (q hX rfl ?_)) <;> (first | (refine .cons (q hX rfl ?_)) | (refine .cons (qlookB (a := p) hX rfl rfl fs9 zh4 rfl rfl .h rfl rfl ?_ ?_)) <;> (intro _)) <;> (refine .cons (q hX rfl ?_)) <;> (refine .nil (.intro rfl ?_)))
  | (refine WCX.g_ (id := 2) ?_; (refine .cons (q hX rfl ?_)) <;> (refine .nil (.intro rfl ?_)))
  | (refine WCX.g_ (id := 3) ?_; (iterate 3 refine .cons (q hX rfl ?_)) <;> (refine .nil (.intro rfl ?_)))
  | refine WCX.r_ ?_
  | refine ToX.d_ ?_
  | refine WCX.t_ rfl ?_
  | refine WCX.f_ rfl ?_
  | refine WCX.k_ ?_
  | refine WCX.b_ ?_
  | refine ToX.r_ hX rfl ?_)
 all_goals try (refine fun h f => ⟨?_, f.chg.picks .nil⟩; clear f; simp only [resV]; unfold nameM; rw [hwl]; unfold shapedM byteM; simp_all; done)
 all_goals try (refine fun h f => ⟨?_, f.chg.picks .nil⟩; clear f; simp only [resV]; unfold nameM; rw [decide_eq_false (by omega)]; simp; done)
 refine WCX.loop (fun i => [(24, .ext (i64 i)), (0, .ext (.str p.1 p.2)), (23, .ext (i64 p.1))]) (fun _ => []) (fun _ => []) (fun i => i ≤ p.1 ∧ nameM p = restM p i) (fun i => p.1 - i) 0 ⟨⟨rfl, rfl, rfl, trivial⟩, ⟨_, rfl⟩, ⟨_, .nil⟩⟩ ⟨Nat.zero_le _, by (have : ¬ p.1 = 0 := by omega); (have h16 : p.1 ≤ 16 := by omega); unfold nameM; rw [hwl]; unfold shapedM byteM; clear hwl; simp_all⟩ (fun _ => rfl) (fun _ => rfl) (fun _ => rfl) ?_
 rintro i ⟨hi, he⟩ next
 repeat' (first
  | refine ToX.a_ ?_
  | refine WCX.s_ ?_
  | (refine WCX.g_ (id := 4) ?_; ((refine .cons (qc rfl ?_ ?_)) <;> intro _) <;> (refine .nil (.intro rfl ?_)))
  | (refine WCX.g_ (id := 5) ?_; (iterate 2 refine .cons (q hX rfl ?_)) <;> (refine .nil (.intro rfl ?_)))
  | (refine WCX.g_ (id := 6) ?_; (iterate 2 refine .cons (q hX rfl ?_)) <;> ((refine .cons (qs hX rfl rfl rfl rfl (by first | omega | (simp only [Int.ofNat_eq_natCast]; omega)) rfl rfl ?_))) <;> ((refine .cons (qcallB rfl rfl rfl rfl ca150 rfl rfl (fun h f => inner_run hK _ h f.wf) ?_ ?_)) <;> intro _) <;> (refine .cons (q hX rfl ?_)) <;> (refine .nil (.intro rfl ?_)))
  | (refine WCX.g_ (id := 7) ?_; (refine .cons (q hX rfl ?_)) <;> (refine .nil (.intro rfl ?_)))
  | (refine WCX.g_ (id := 8) ?_; ((refine .cons (qa rfl rfl rfl rfl rfl (wI (by first | omega | (simp only [Int.ofNat_eq_natCast]; omega)) (by first | omega | (simp only [Int.ofNat_eq_natCast]; omega))) rfl rfl ?_))) <;> (refine .cons (q hX rfl ?_)) <;> (refine .nil (.intro rfl ?_)))
  | (refine WCX.g_ (id := 9) ?_; (refine .cons (q hX rfl ?_)) <;> (refine .nil (.intro rfl ?_)))
  | refine WCX.r_ ?_
  | refine ToX.d_ ?_
  | refine ToX.f_ ?_
  | refine WCX.t_ rfl ?_
  | refine WCX.f_ rfl ?_
  | refine WCX.k_ ?_
  | refine WCX.b_ ?_
  | refine WCX.e_ ?_
  | refine ToX.e_ ?_
  | refine ToX.c_ ?_
  | refine ToX.b_ ?_
  | refine ToX.r_ hX rfl ?_)
 ·refine next (i + 1) _ _ _ (by omega) ⟨⟨rfl, rfl, rfl, trivial⟩, ⟨_, rfl⟩, ⟨_, .nil⟩⟩ ⟨by omega, ?_⟩
  clear next
  rw [he, restM_step (by omega)]; unfold byteM; simp_all
 ·clear next
  refine fun h f => ⟨?_, f.chg⟩
  clear f
  rw [he, restM_step (by omega)]; unfold byteM; simp_all [resV]
 ·exact fun h f => ⟨by rw [he, restM_end (by omega)]; rfl, f.chg⟩
end Em
end Go.HL
namespace Go.HL
open Go Go.Proofs
namespace Em
set_option maxRecDepth 10000
variable {K : CallFn} {base : List (Nat × HObj)}
structure CodeP where
 n : Nat
 c : Nat
 params : List (Nat × Nat × Bool)
 shared : List (Nat × Nat × Int)
 «local» : Int
 insns : List InsnD
abbrev pc (p : Nat × Nat × Bool) : List HVal := [.str p.1 p.2.1, .bool p.2.2]
abbrev ac (p : Nat × Nat × Int) : List HVal := [.str p.1 p.2.1, .int .i64 p.2.2]
abbrev cv (c : CodeP) (pv sv iv : HVal) : HVal := .agg [.str c.n c.c, pv, sv, .int .i64 c.local, iv]
def codeR (c : CodeP) (pv sv iv : HVal) : Part := (rd pv 2 (c.params.map pc)).both ((rd sv 2 (c.shared.map ac)).both (rd iv 8 (c.insns.map icell)))
structure CodeOk (c : CodeP) : Prop where
 name : NameOk (c.n, c.c)
 plen : c.params.length ≤ 1152921504606846976
 pnames : ∀ p ∈ c.params, NameOk (p.1, p.2.1)
 slen : c.shared.length ≤ 1152921504606846976
 snames : ∀ p ∈ c.shared, NameOk (p.1, p.2.1)
 ilen : c.insns.length ≤ 1152921504606846976
 each : ∀ x ∈ c.insns, -2147483648 ≤ x.imm ∧ x.imm ≤ 2147483647
def noParam : Nat × Nat × Bool := (0, 0, false)
def noArray : Nat × Nat × Int := (0, 0, 0)
def noInsn : InsnD := ⟨0, 0, 0, 0, 0, 0, 0, 0⟩
def nmP (p : Nat × Nat × Bool) : Nat × Nat := (p.1, p.2.1)
def nmA (p : Nat × Nat × Int) : Nat × Nat := (p.1, p.2.1)
def paramOk (p : Nat × Nat × Bool) : Bool := nameM (nmP p)
def arrayOk (a : Nat × Nat × Int) : Bool := nameM (nmA a) && decide (1 ≤ a.2.2) && decide (a.2.2 ≤ 64)
def CodeP.refHeadM (f : CodeP) : Bool := nameM (f.n, f.c) && decide (f.params.length ≤ 6) && decide (f.shared.length ≤ 4) && f.params.all paramOk && f.shared.all arrayOk
theorem refHead_run (hK : KN base K) (c : CodeP) (pv sv : HVal) (h : Heap) (w : Wf h) (r : CodeOk c) (hp : (rd pv 2 (c.params.map pc)).holds h) (hs : (rd sv 2 (c.shared.map ac)).holds h) : Sp P K 82 [.str c.n c.c, pv, sv] h (Val (.bool c.refHeadM) h) := by
 have lp := rd_len hp
 have ls := rd_len hs
 have bp := r.plen
 have bs := r.slen
 refine Sp.start (m := 9223372328948203975) (n := 64) w (hK.none 82 rfl rfl _ _) Tryz.func82 rfl rfl mask82 rfl rfl ?_
 repeat' (first
  | refine ToX.a_ ?_
  | refine WCX.s_ ?_
  | (refine WCX.g_ (id := 0) ?_; (refine .cons (q hX rfl ?_)) <;> (refine .nil (.intro rfl ?_)))
  | (refine WCX.g_ (id := 1) ?_; (refine .cons (q hX rfl ?_)) <;> ((refine .cons (qcallB rfl rfl rfl rfl ca153 rfl rfl (fun h f => refName_run hK (c.n, c.c) r.name h f.wf) ?_ ?_)) <;> intro _) <;> (iterate 3 refine .cons (q hX rfl ?_)) <;> (first | (refine .cons (q hX rfl ?_)) | (refine .cons (ql hX rfl rfl rfl rfl rfl rfl (by assumption) rfl rfl ?_))) <;> (first | (refine .cons (q hX rfl ?_)) | (refine .cons (qc rfl ?_ ?_)) <;> intro _) <;> (iterate 3 refine .cons (q hX rfl ?_)) <;> (first | (refine .cons (q hX rfl ?_)) | (refine .cons (ql hX rfl rfl rfl rfl rfl rfl (by assumption) rfl rfl ?_))) <;> (first | (refine .cons (q hX rfl ?_)) | (refine .cons (qc rfl ?_ ?_)) <;> intro _) <;> (refine .cons (q hX rfl ?_)) <;> (refine .nil (.intro rfl ?_)))
  | (refine WCX.g_ (id := 2) ?_; (refine .cons (q hX rfl ?_)) <;> (refine .nil (.intro rfl ?_)))
  | (refine WCX.g_ (id := 3) ?_; (refine .cons (q hX rfl ?_)) <;> (refine .nil (.intro rfl ?_)))
  | refine WCX.r_ ?_
  | refine ToX.d_ ?_
  | refine WCX.t_ rfl ?_
  | refine WCX.f_ rfl ?_
  | refine WCX.k_ ?_
  | refine WCX.b_ ?_
  | refine ToX.r_ hX rfl ?_)
 all_goals try (refine fun h f => ⟨?_, f.chg⟩; clear f; simp only [resV]; unfold CodeP.refHeadM; simp_all; done)
 all_goals try (refine fun h f => ⟨?_, f.chg⟩; clear f; simp only [resV]; unfold CodeP.refHeadM; first | (rw [decide_eq_false (p := c.params.length ≤ 6) (by omega)]; simp; done) | (rw [decide_eq_false (p := c.shared.length ≤ 4) (by omega)]; simp; done))
 have h6 : c.params.length ≤ 6 := by omega
 have h4 : c.shared.length ≤ 4 := by omega
 refine WCX.loop (fun i => [(7, .ext (i64 i)), (0, .ext (.str c.n c.c)), (1, .ext pv), (2, .ext sv)]) (fun _ => []) (fun _ => []) (fun i => i ≤ c.params.length ∧ c.refHeadM = ((c.params.drop i).all paramOk && c.shared.all arrayOk)) (fun i => c.params.length - i) 0 ⟨⟨rfl, rfl, rfl, rfl, trivial⟩, ⟨_, rfl⟩, ⟨_, .nil⟩⟩ ⟨Nat.zero_le _, by unfold CodeP.refHeadM; simp_all⟩ (fun _ => rfl) (fun _ => rfl) (fun _ => rfl) ?_
 rintro i ⟨hi, he⟩ next
 repeat' (first
  | refine ToX.a_ ?_
  | refine WCX.s_ ?_
  | (refine WCX.g_ (id := 4) ?_; (iterate 2 refine .cons (q hX rfl ?_)) <;> ((refine .cons (ql hX rfl rfl rfl rfl rfl rfl (by assumption) rfl rfl ?_))) <;> ((refine .cons (qc rfl ?_ ?_)) <;> intro _) <;> (refine .nil (.intro rfl ?_)))
  | (refine WCX.g_ (id := 6) ?_; (iterate 2 refine .cons (q hX rfl ?_)) <;> ((refine .cons (qidx hX rfl rfl rfl rfl rfl (.of hp) (row_i noParam (by omega)) rfl rfl rfl ?_))) <;> (iterate 2 refine .cons (q hX rfl ?_)) <;> ((refine .cons (qcallB rfl rfl rfl rfl ca153 rfl rfl (fun h f => refName_run hK (nmP (c.params.getD i noParam)) (r.pnames _ (getD_mem _ (by omega))) h f.wf) ?_ ?_)) <;> intro _) <;> (refine .cons (q hX rfl ?_)) <;> (refine .nil (.intro rfl ?_)))
  | (refine WCX.g_ (id := 7) ?_; (refine .cons (q hX rfl ?_)) <;> (refine .nil (.intro rfl ?_)))
  | (refine WCX.g_ (id := 5) ?_; (refine .cons (q hX rfl ?_)) <;> ((refine .cons (qa rfl rfl rfl rfl rfl (wI (by first | omega | (simp only [Int.ofNat_eq_natCast]; omega)) (by first | omega | (simp only [Int.ofNat_eq_natCast]; omega))) rfl rfl ?_))) <;> (refine .cons (q hX rfl ?_)) <;> (refine .nil (.intro rfl ?_)))
  | (refine WCX.g_ (id := 8) ?_; (refine .cons (q hX rfl ?_)) <;> (refine .nil (.intro rfl ?_)))
  | refine WCX.r_ ?_
  | refine ToX.d_ ?_
  | refine ToX.f_ ?_
  | refine WCX.t_ rfl ?_
  | refine WCX.f_ rfl ?_
  | refine WCX.k_ ?_
  | refine WCX.b_ ?_
  | refine WCX.e_ ?_
  | refine ToX.e_ ?_
  | refine ToX.c_ ?_
  | refine ToX.b_ ?_
  | refine ToX.r_ hX rfl ?_)
 ·refine next (i + 1) _ _ _ (by omega) ⟨⟨rfl, rfl, rfl, rfl, trivial⟩, ⟨_, rfl⟩, ⟨_, .nil⟩⟩ ⟨by omega, ?_⟩
  clear next
  rw [he, all_step _ (by omega) noParam]; simp_all [paramOk]
 ·clear next
  refine fun h f => ⟨?_, f.chg⟩
  clear f
  rw [he, all_step _ (by omega) noParam]; simp_all [resV, paramOk]
 clear next
 rw [List.drop_of_length_le (by omega)] at he
 refine WCX.loop (fun i => [(8, .ext (i64 i)), (0, .ext (.str c.n c.c)), (1, .ext pv), (2, .ext sv)]) (fun _ => []) (fun _ => []) (fun i => i ≤ c.shared.length ∧ c.refHeadM = (c.shared.drop i).all arrayOk) (fun i => c.shared.length - i) 0 ⟨⟨rfl, rfl, rfl, rfl, trivial⟩, ⟨_, rfl⟩, ⟨_, .nil⟩⟩ ⟨Nat.zero_le _, by rw [he]; simp⟩ (fun _ => rfl) (fun _ => rfl) (fun _ => rfl) ?_
 clear he
 rintro i ⟨hi, he⟩ next
 repeat' (first
  | refine ToX.a_ ?_
  | refine WCX.s_ ?_
  | (refine WCX.g_ (id := 9) ?_; (iterate 2 refine .cons (q hX rfl ?_)) <;> ((refine .cons (ql hX rfl rfl rfl rfl rfl rfl (by assumption) rfl rfl ?_))) <;> ((refine .cons (qc rfl ?_ ?_)) <;> intro _) <;> (refine .nil (.intro rfl ?_)))
  | (refine WCX.g_ (id := 11) ?_; (iterate 2 refine .cons (q hX rfl ?_)) <;> ((refine .cons (qidx hX rfl rfl rfl rfl rfl (.of hs) (row_i noArray (by omega)) rfl rfl rfl ?_))) <;> (iterate 2 refine .cons (q hX rfl ?_)) <;> ((refine .cons (qcallB rfl rfl rfl rfl ca153 rfl rfl (fun h f => refName_run hK (nmA (c.shared.getD i noArray)) (r.snames _ (getD_mem _ (by omega))) h f.wf) ?_ ?_)) <;> intro _) <;> (iterate 4 refine .cons (q hX rfl ?_)) <;> (first | (refine .cons (q hX rfl ?_)) | (refine .cons (qidx hX rfl rfl rfl rfl rfl (.of hs) (row_i noArray (by omega)) rfl rfl rfl ?_))) <;> (iterate 2 refine .cons (q hX rfl ?_)) <;> (first | (refine .cons (q hX rfl ?_)) | (refine .cons (qc rfl ?_ ?_)) <;> intro _) <;> (iterate 4 refine .cons (q hX rfl ?_)) <;> (first | (refine .cons (q hX rfl ?_)) | (refine .cons (qidx hX rfl rfl rfl rfl rfl (.of hs) (row_i noArray (by omega)) rfl rfl rfl ?_))) <;> (iterate 2 refine .cons (q hX rfl ?_)) <;> (first | (refine .cons (q hX rfl ?_)) | (refine .cons (qc rfl ?_ ?_)) <;> intro _) <;> (refine .cons (q hX rfl ?_)) <;> (refine .nil (.intro rfl ?_)))
  | (refine WCX.g_ (id := 12) ?_; (refine .cons (q hX rfl ?_)) <;> (refine .nil (.intro rfl ?_)))
  | (refine WCX.g_ (id := 10) ?_; (refine .cons (q hX rfl ?_)) <;> ((refine .cons (qa rfl rfl rfl rfl rfl (wI (by first | omega | (simp only [Int.ofNat_eq_natCast]; omega)) (by first | omega | (simp only [Int.ofNat_eq_natCast]; omega))) rfl rfl ?_))) <;> (refine .cons (q hX rfl ?_)) <;> (refine .nil (.intro rfl ?_)))
  | (refine WCX.g_ (id := 13) ?_; (refine .cons (q hX rfl ?_)) <;> (refine .nil (.intro rfl ?_)))
  | refine WCX.r_ ?_
  | refine ToX.d_ ?_
  | refine ToX.f_ ?_
  | refine WCX.t_ rfl ?_
  | refine WCX.f_ rfl ?_
  | refine WCX.k_ ?_
  | refine WCX.b_ ?_
  | refine WCX.e_ ?_
  | refine ToX.e_ ?_
  | refine ToX.c_ ?_
  | refine ToX.b_ ?_
  | refine ToX.r_ hX rfl ?_)
 all_goals first
  | (refine next (i + 1) _ _ _ (by omega) ⟨⟨rfl, rfl, rfl, rfl, trivial⟩, ⟨_, rfl⟩, ⟨_, .nil⟩⟩ ⟨by omega, ?_⟩; clear next; rw [he, all_step _ (by omega) noArray]; unfold arrayOk; first | (simp_all; done) | (simp_all; omega))
  | (clear next; refine fun h f => ⟨?_, f.chg⟩; rw [he, List.drop_of_length_le (by omega)]; rfl)
  | (clear next; refine fun h f => ⟨?_, f.chg⟩; clear f; rw [he, all_step _ (by omega) noArray]; unfold arrayOk; simp_all [resV]; done)
  | (clear next; refine fun h f => ⟨?_, f.chg⟩; clear f; rw [he, all_step _ (by omega) noArray]; unfold arrayOk; simp_all [resV]; omega)
def CodeP.names (f : CodeP) : List (Nat × Nat) := f.params.map nmP ++ f.shared.map nmA
def distM (l : List (Nat × Nat)) (i : Nat) : Bool := ((List.range l.length).drop i).all fun k => !inM (l.getD k noStr) (l.take k)
theorem distM_step {l : List (Nat × Nat)} {i : Nat} (hi : i < l.length) : distM l i = (!inM (l.getD i noStr) (l.take i) && distM l (i + 1)) := by
 unfold distM
 rw [all_step _ (by simpa using hi) 0]
 simp [List.getD, hi]
theorem distM_end {l : List (Nat × Nat)} {i : Nat} (hi : l.length ≤ i) : distM l i = true := by
 unfold distM
 rw [List.drop_of_length_le (by simpa using hi)]; rfl
def CodeP.headsM (f : CodeP) : Bool := f.refHeadM && distM f.names 0
theorem take_succ {α : Type} {l : List α} {i : Nat} (hi : i < l.length) (d : α) : l.take (i + 1) = l.take i ++ [l.getD i d] := by
 rw [List.take_add_one]
 simp [List.getD, List.getElem?_eq_getElem hi]
theorem names_left {f : CodeP} {i : Nat} (hi : i < f.params.length) : f.names.getD i noStr = nmP (f.params.getD i noParam) := by
 unfold CodeP.names
 simp [List.getD, List.getElem?_append_left, hi]
theorem names_right {f : CodeP} {i : Nat} (hi : i < f.shared.length) : f.names.getD (f.params.length + i) noStr = nmA (f.shared.getD i noArray) := by
 unfold CodeP.names
 simp [List.getD, List.getElem?_append_right, hi]
theorem names_length (f : CodeP) : f.names.length = f.params.length + f.shared.length := by simp [CodeP.names]
theorem refHeads_run (hK : KN base K) (c : CodeP) (pv sv : HVal) (h : Heap) (w : Wf h) (r : CodeOk c) (hp : (rd pv 2 (c.params.map pc)).holds h) (hs : (rd sv 2 (c.shared.map ac)).holds h) : Sp P K 37 [.str c.n c.c, pv, sv] h (Val (.bool c.headsM) h) := by
 have lp := rd_len hp
 have ls := rd_len hs
 have bp := r.plen
 have bs := r.slen
 have hn := names_length c
 refine Sp.start (m := 144255934154704839) (n := 58) w (hK.none 37 rfl rfl _ _) Tryz.func37 rfl rfl mask37 rfl rfl ?_
 repeat' (first
  | refine ToX.a_ ?_
  | refine WCX.s_ ?_
  | (refine WCX.g_ (id := 0) ?_; (refine .cons (q hX rfl ?_)) <;> (refine .nil (.intro rfl ?_)))
  | (refine WCX.g_ (id := 1) ?_; (iterate 3 refine .cons (q hX rfl ?_)) <;> ((refine .cons (qcallB rfl rfl rfl rfl ca82 rfl rfl (fun h f => refHead_run hK c pv sv h f.wf r (f.ro (.of hp)) (f.ro (.of hs))) ?_ ?_)) <;> intro _) <;> (refine .cons (q hX rfl ?_)) <;> (refine .nil (.intro rfl ?_)))
  | (refine WCX.g_ (id := 2) ?_; (refine .cons (q hX rfl ?_)) <;> (refine .nil (.intro rfl ?_)))
  | (refine WCX.g_ (id := 3) ?_; (refine .cons (q hX rfl ?_)) <;> (refine .nil (.intro rfl ?_)))
  | (refine WCX.g_ (id := 4) ?_; (refine .cons (q hX rfl ?_)) <;> (refine .nil (.intro rfl ?_)))
  | refine WCX.r_ ?_
  | refine ToX.d_ ?_
  | refine WCX.t_ rfl ?_
  | refine WCX.f_ rfl ?_
  | refine WCX.k_ ?_
  | refine WCX.b_ ?_
  | refine ToX.r_ hX rfl ?_)
 rotate_left
 ·exact fun h f => ⟨by simp_all [resV, CodeP.headsM], f.chg⟩
 have e6 : c.refHeadM = true := by assumption
 have b6 : c.params.length ≤ 6 := by unfold CodeP.refHeadM at e6; simp at e6; omega
 have b4 : c.shared.length ≤ 4 := by unfold CodeP.refHeadM at e6; simp at e6; omega
 refine WCX.nil 9 1 ?_
 refine WCX.loop (ι := Nat × HVal) (fun x => [(8, .ext (i64 x.1)), (7, .ext x.2), (1, .ext pv), (2, .ext sv)]) (fun _ => []) (fun x => [ownS 9 1 x.2 ((c.names.take x.1).map scell)]) (fun x => x.1 ≤ c.params.length ∧ Loose x.2) (fun x => c.params.length - x.1) (0, .nils) ⟨⟨rfl, rfl, rfl, rfl, trivial⟩, ⟨_, rfl⟩, ⟨_, .cons .h .nil⟩⟩ ⟨Nat.zero_le _, .nils⟩ (fun _ => rfl) (fun _ => rfl) (fun _ => rfl) ?_
 rintro ⟨i, v⟩ ⟨hi, hv⟩ next
 simp only at hi hv next ⊢
 repeat' (first
  | refine ToX.a_ ?_
  | refine WCX.s_ ?_
  | (refine WCX.g_ (id := 5) ?_; (iterate 2 refine .cons (q hX rfl ?_)) <;> ((refine .cons (ql hX rfl rfl rfl rfl rfl rfl (by assumption) rfl rfl ?_))) <;> ((refine .cons (qc rfl ?_ ?_)) <;> intro _) <;> (refine .nil (.intro rfl ?_)))
  | (refine WCX.g_ (id := 7) ?_; (iterate 3 refine .cons (q hX rfl ?_)) <;> ((refine .cons (qidx hX rfl rfl rfl rfl rfl (.of hp) (row_i noParam (by omega)) rfl rfl rfl ?_))) <;> (iterate 3 refine .cons (q hX rfl ?_)) <;> ((refine .cons (qapp hX rfl rfl rfl rfl rfl rfl rfl rfl rfl rfl rfl rfl b9 rfl rfl rfl rfl rfl (by repeat (first | exact .h | apply Pick.t)) rfl (by simp only [List.length_map, List.length_take]; omega) rfl rfl ?_)) <;> intro kp) <;> (refine .cons (q hX rfl ?_)) <;> (refine .nil (.intro rfl ?_)))
  | (refine WCX.g_ (id := 6) ?_; (refine .cons (q hX rfl ?_)) <;> ((refine .cons (qa rfl rfl rfl rfl rfl (wI (by first | omega | (simp only [Int.ofNat_eq_natCast]; omega)) (by first | omega | (simp only [Int.ofNat_eq_natCast]; omega))) rfl rfl ?_))) <;> (refine .cons (q hX rfl ?_)) <;> (refine .nil (.intro rfl ?_)))
  | (refine WCX.g_ (id := 8) ?_; (refine .cons (q hX rfl ?_)) <;> (refine .nil (.intro rfl ?_)))
  | refine WCX.t_ rfl ?_
  | refine WCX.f_ rfl ?_
  | refine WCX.k_ ?_
  | refine WCX.b_ ?_
  | refine WCX.e_ ?_
  | refine ToX.e_ ?_
  | refine ToX.c_ ?_
  | refine ToX.b_ ?_)
 ·refine next (i + 1, _) _ _ _ (by simp only; omega) ⟨⟨rfl, rfl, rfl, rfl, trivial⟩, ⟨_, rfl⟩, ⟨_, by rw [take_succ (by omega) noStr, List.map_append, names_left (by omega)]; exact .cons .h .nil⟩⟩ ⟨by simp only; omega, .slice _ _ _⟩
 clear next
 have hip : i = c.params.length := by omega
 subst hip
 refine WCX.loop (ι := Nat × HVal) (fun x => [(9, .ext (i64 x.1)), (7, .ext x.2), (1, .ext pv), (2, .ext sv)]) (fun _ => []) (fun x => [ownS 9 1 x.2 ((c.names.take (c.params.length + x.1)).map scell)]) (fun x => x.1 ≤ c.shared.length ∧ Loose x.2) (fun x => c.shared.length - x.1) (0, v) ⟨⟨rfl, rfl, rfl, rfl, trivial⟩, ⟨_, rfl⟩, ⟨_, .cons .h .nil⟩⟩ ⟨Nat.zero_le _, hv⟩ (fun _ => rfl) (fun _ => rfl) (fun _ => rfl) ?_
 clear hv v
 rintro ⟨i, v⟩ ⟨hi, hv⟩ next
 simp only at hi hv next ⊢
 repeat' (first
  | refine ToX.a_ ?_
  | refine WCX.s_ ?_
  | (refine WCX.g_ (id := 9) ?_; (iterate 2 refine .cons (q hX rfl ?_)) <;> ((refine .cons (ql hX rfl rfl rfl rfl rfl rfl (by assumption) rfl rfl ?_))) <;> ((refine .cons (qc rfl ?_ ?_)) <;> intro _) <;> (refine .nil (.intro rfl ?_)))
  | (refine WCX.g_ (id := 11) ?_; (iterate 3 refine .cons (q hX rfl ?_)) <;> ((refine .cons (qidx hX rfl rfl rfl rfl rfl (.of hs) (row_i noArray (by omega)) rfl rfl rfl ?_))) <;> (iterate 3 refine .cons (q hX rfl ?_)) <;> ((refine .cons (qapp hX rfl rfl rfl rfl rfl rfl rfl rfl rfl rfl rfl rfl b9 rfl rfl rfl rfl rfl (by repeat (first | exact .h | apply Pick.t)) rfl (by simp only [List.length_map, List.length_take]; omega) rfl rfl ?_)) <;> intro kp) <;> (refine .cons (q hX rfl ?_)) <;> (refine .nil (.intro rfl ?_)))
  | (refine WCX.g_ (id := 10) ?_; (refine .cons (q hX rfl ?_)) <;> ((refine .cons (qa rfl rfl rfl rfl rfl (wI (by first | omega | (simp only [Int.ofNat_eq_natCast]; omega)) (by first | omega | (simp only [Int.ofNat_eq_natCast]; omega))) rfl rfl ?_))) <;> (refine .cons (q hX rfl ?_)) <;> (refine .nil (.intro rfl ?_)))
  | (refine WCX.g_ (id := 12) ?_; (refine .cons (q hX rfl ?_)) <;> (refine .nil (.intro rfl ?_)))
  | refine WCX.t_ rfl ?_
  | refine WCX.f_ rfl ?_
  | refine WCX.k_ ?_
  | refine WCX.b_ ?_
  | refine WCX.e_ ?_
  | refine ToX.e_ ?_
  | refine ToX.c_ ?_
  | refine ToX.b_ ?_)
 ·refine next (i + 1, _) _ _ _ (by simp only; omega) ⟨⟨rfl, rfl, rfl, rfl, trivial⟩, ⟨_, rfl⟩, ⟨_, by rw [← Nat.add_assoc, take_succ (by omega) noStr, List.map_append, names_right (by omega)]; exact .cons .h .nil⟩⟩ ⟨by simp only; omega, .slice _ _ _⟩
 clear next
 have hip : i = c.shared.length := by omega
 subst hip
 rw [← hn, List.take_length]
 refine WCX.loop (fun i => [(10, .ext (i64 i)), (7, .ext v)]) (fun _ => []) (fun x => [ownS 9 1 v (c.names.map scell)]) (fun i => i ≤ c.names.length ∧ c.headsM = distM c.names i) (fun i => c.names.length - i) 0 ⟨⟨rfl, rfl, trivial⟩, ⟨_, rfl⟩, ⟨_, .cons .h .nil⟩⟩ ⟨Nat.zero_le _, by simp_all [CodeP.headsM]⟩ (fun _ => rfl) (fun _ => rfl) (fun _ => rfl) ?_
 rintro i ⟨hi2, he⟩ next
 have hls : (c.names.map scell).length = c.names.length := List.length_map ..
 repeat' (first
  | refine ToX.a_ ?_
  | refine WCX.s_ ?_
  | (refine WCX.g_ (id := 13) ?_; (iterate 2 refine .cons (q hX rfl ?_)) <;> ((refine .cons (qlG hX rfl rfl rfl rfl rfl rfl (by first | exact .h | exact .t .h | exact .t (.t .h)) rfl rfl ?_))) <;> ((refine .cons (qc rfl ?_ ?_)) <;> intro _) <;> (refine .nil (.intro rfl ?_)))
  | (refine WCX.draw (id := 15) tab [0, 1, 2, 3, 4, 5, 6, 7] #[0, 0, 3, 7, 0, 0, 48, 127] (by kernel_rfl) (by kernel_rfl) (by kernel_rfl) ?_; (iterate 2 refine .cq hX rfl rfl rfl ?_) <;> ((refine .cons rfl (qidxG hX rfl rfl rfl rfl rfl (by repeat (first | exact .h | apply Pick.t)) (row_i noStr (by omega)) rfl rfl rfl ?_)) <;> refine ⟨_, .comp rfl, ?_⟩) <;> (iterate 3 refine .cq hX rfl rfl rfl ?_) <;> ((refine .cons rfl (qhi hX rfl rfl rfl rfl rfl hv (fun h f => ownS.rd (f.pick .h)) (by rw [List.length_map]; omega) rfl rfl ?_)) <;> refine ⟨_, .comp rfl, ?_⟩) <;> ((refine .cons rfl (qcallB rfl rfl rfl rfl ca83 rfl rfl (fun h f => in_run hK (c.names.getD i noStr) (c.names.take i) _ h f.wf (by rw [List.map_take]; exact rd.take hv (ownS.rd (f.pick .h)) (by rw [List.length_map]; omega)) (by rw [List.length_take]; omega)) ?_ ?_)) <;> intro _ <;> refine ⟨_, .comp rfl, ?_⟩) <;> (refine .nil ⟨?_, .intro rfl ?_⟩ <;> (repeat' (first | exact trivial | exact .inl rfl | refine ⟨?_, ?_⟩))))
  | (refine WCX.g_ (id := 16) ?_; (refine .cons (q hX rfl ?_)) <;> (refine .nil (.intro rfl ?_)))
  | (refine WCX.g_ (id := 14) ?_; (refine .cons (q hX rfl ?_)) <;> ((refine .cons (qa rfl rfl rfl rfl rfl (wI (by first | omega | (simp only [Int.ofNat_eq_natCast]; omega)) (by first | omega | (simp only [Int.ofNat_eq_natCast]; omega))) rfl rfl ?_))) <;> (refine .cons (q hX rfl ?_)) <;> (refine .nil (.intro rfl ?_)))
  | (refine WCX.g_ (id := 17) ?_; (refine .cons (q hX rfl ?_)) <;> (refine .nil (.intro rfl ?_)))
  | refine WCX.r_ ?_
  | refine ToX.d_ ?_
  | refine ToX.f_ ?_
  | refine WCX.t_ rfl ?_
  | refine WCX.f_ rfl ?_
  | refine WCX.k_ ?_
  | refine WCX.b_ ?_
  | refine WCX.e_ ?_
  | refine ToX.e_ ?_
  | refine ToX.c_ ?_
  | refine ToX.b_ ?_
  | refine ToX.r_ hX rfl ?_)
 ·clear next
  refine fun h f => ⟨?_, f.chg.picks .nil⟩
  clear f
  rw [he, distM_step (by omega)]; simp_all [resV]
 ·refine next (i + 1) _ _ _ (by omega) ⟨⟨rfl, rfl, trivial⟩, ⟨_, rfl⟩, ⟨_, .cons .h .nil⟩⟩ ⟨by omega, ?_⟩
  clear next
  rw [he, distM_step (by omega)]; simp_all
 ·exact fun h f => ⟨by rw [he, distM_end (by omega)]; rfl, f.chg.picks .nil⟩
def CodeP.headM (f : CodeP) : Bool := f.headsM && decide (0 ≤ f.local ∧ f.local ≤ 64)
structure Seen (f : CodeP) (i : Nat) (m : List ((Nat × Nat) × Bool)) : Prop where
 look : ∀ q, lookB m q = inM q (f.names.take i)
theorem Seen.step {f : CodeP} {i : Nat} {m : List ((Nat × Nat) × Bool)} {a : Nat × Nat} (hi : i < f.names.length) (ha : a = f.names.getD i noStr) (s : Seen f i m) : Seen f (i + 1) (setB m a true) := by
 refine ⟨fun q => ?_⟩
 rw [lookB_setB, s.look, take_succ hi noStr, ← ha]
 unfold inM
 rw [List.any_append]
 by_cases h : a = q <;> simp [h]
theorem head_run (hK : KN base K) (c : CodeP) (pv sv iv : HVal) (h : Heap) (w : Wf h) (hB : (lies base).holds h) (r : CodeOk c) (hr : (codeR c pv sv iv).holds h) : Sp P K 34 [cv c pv sv iv] h (Val (.bool c.headM) h) := by
 have hp := hr.1
 have hs := hr.2.1
 have lp := rd_len hp
 have ls := rd_len hs
 have bp := r.plen
 have bs := r.slen
 have hn := names_length c
 refine Sp.start (m := 4835705442439177032433839) (n := 87) w (hK.none 34 rfl rfl _ _) Tryz.func34 rfl rfl mask34 rfl rfl ?_
 repeat' (first
  | refine ToX.a_ ?_
  | refine WCX.s_ ?_
  | (refine WCX.g_ (id := 0) ?_; (iterate 2 refine .cons (q hX rfl ?_)) <;> (refine .nil (.intro rfl ?_)))
  | (refine WCX.g_ (id := 1) ?_; (iterate 2 refine .cons (q hX rfl ?_)) <;> ((refine .cons (qcallB rfl rfl rfl rfl ca78 rfl rfl (fun h f => lexName_run hK (c.n, c.c) r.name h f.wf (f.ro (.of hB))) ?_ ?_)) <;> intro _) <;> (iterate 4 refine .cons (q hX rfl ?_)) <;> (first | (refine .cons (q hX rfl ?_)) | (refine .cons (ql hX rfl rfl rfl rfl rfl rfl (by assumption) rfl rfl ?_))) <;> (first | (refine .cons (q hX rfl ?_)) | (refine .cons (qc rfl ?_ ?_)) <;> intro _) <;> (iterate 4 refine .cons (q hX rfl ?_)) <;> (first | (refine .cons (q hX rfl ?_)) | (refine .cons (ql hX rfl rfl rfl rfl rfl rfl (by assumption) rfl rfl ?_))) <;> (first | (refine .cons (q hX rfl ?_)) | (refine .cons (qc rfl ?_ ?_)) <;> intro _) <;> (iterate 4 refine .cons (q hX rfl ?_)) <;> (first | (refine .cons (q hX rfl ?_)) | (refine .cons (qc rfl ?_ ?_)) <;> intro _) <;> (iterate 4 refine .cons (q hX rfl ?_)) <;> (first | (refine .cons (q hX rfl ?_)) | (refine .cons (qc rfl ?_ ?_)) <;> intro _) <;> (refine .cons (q hX rfl ?_)) <;> (refine .nil (.intro rfl ?_)))
  | (refine WCX.g_ (id := 2) ?_; (refine .cons (q hX rfl ?_)) <;> (refine .nil (.intro rfl ?_)))
  | (refine WCX.g_ (id := 3) ?_; ((refine .cons (qmap strKey hX rfl rfl rfl rfl ?_)) <;> (intro km)) <;> (refine .cons (q hX rfl ?_)) <;> (refine .nil (.intro rfl ?_)))
  | (refine WCX.g_ (id := 4) ?_; (iterate 2 refine .cons (q hX rfl ?_)) <;> ((refine .cons (ql hX rfl rfl rfl rfl rfl rfl (by assumption) rfl rfl ?_))) <;> (refine .cons (q hX rfl ?_)) <;> (refine .nil (.intro rfl ?_)))
  | refine WCX.r_ ?_
  | refine ToX.d_ ?_
  | refine WCX.t_ rfl ?_
  | refine WCX.f_ rfl ?_
  | refine WCX.k_ ?_
  | refine WCX.b_ ?_
  | refine ToX.r_ hX rfl ?_)
 all_goals try (refine fun h f => ⟨?_, f.chg⟩; clear f; simp only [resV]; unfold CodeP.headM CodeP.headsM CodeP.refHeadM; simp_all; done)
 all_goals try (refine fun h f => ⟨?_, f.chg⟩; clear f; simp only [resV]; unfold CodeP.headM CodeP.headsM CodeP.refHeadM; first | (rw [decide_eq_false (p := c.params.length ≤ 6) (by omega)]; simp; done) | (rw [decide_eq_false (p := c.shared.length ≤ 4) (by omega)]; simp; done) | (rw [decide_eq_false (p := 0 ≤ c.local ∧ c.local ≤ 64) (by omega)]; simp; done))
 have h6 : c.params.length ≤ 6 := by omega
 have h4 : c.shared.length ≤ 4 := by omega
 have hl : 0 ≤ c.local ∧ c.local ≤ 64 := by omega
 refine WCX.loop (ι := Nat × List ((Nat × Nat) × Bool)) (fun x => [(38, .ext (i64 x.1)), (3, .ext (.map km)), (36, .ext pv), (37, .ext (i64 c.params.length)), (1, .ptr 0 0)]) (fun _ => [.own [.str c.n c.c, pv, sv, .int .i64 c.local, iv] 26 false]) (fun x => [mapB strKey km (x.2.map cellB)]) (fun x => x.1 ≤ c.params.length ∧ c.headM = ((c.params.drop x.1).all paramOk && c.shared.all arrayOk && distM c.names x.1) ∧ Seen c x.1 x.2) (fun x => c.params.length - x.1) (0, []) ⟨⟨rfl, rfl, rfl, rfl, rfl, trivial⟩, ⟨_, rfl⟩, ⟨_, .cons .h .nil⟩⟩ ⟨Nat.zero_le _, by unfold CodeP.headM CodeP.headsM CodeP.refHeadM; simp_all, ⟨fun _ => rfl⟩⟩ (fun _ => rfl) (fun _ => rfl) (fun _ => rfl) ?_
 rintro ⟨i, m⟩ ⟨hi, he, hS⟩ next
 simp only at next hi he hS ⊢
 have hlk := hS.look
 repeat' (first
  | refine ToX.a_ ?_
  | refine WCX.s_ ?_
  | (refine WCX.g_ (id := 5) ?_; ((refine .cons (qc rfl ?_ ?_)) <;> intro _) <;> (refine .nil (.intro rfl ?_)))
  | (refine WCX.g_ (id := 6) ?_; ((refine .cons (qidx hX rfl rfl rfl rfl rfl (.of hp) (row_i noParam (by omega)) rfl rfl rfl ?_))) <;> (iterate 3 refine .cons (q hX rfl ?_)) <;> (refine .nil (.intro rfl ?_)))
  | (refine WCX.g_ (id := 7) ?_; (iterate 2 refine .cons (q hX rfl ?_)) <;> ((refine .cons (qcallB rfl rfl rfl rfl ca78 rfl rfl (fun h f => lexName_run hK (nmP (c.params.getD i noParam)) (r.pnames _ (getD_mem _ (by omega))) h f.wf (f.ro (.of hB))) ?_ ?_)) <;> intro _) <;> (iterate 5 refine .cons (q hX rfl ?_)) <;> (first | (refine .cons (q hX rfl ?_)) | (refine .cons (qlookB (a := nmP (c.params.getD i noParam)) hX rfl rfl fs9 zh4 rfl rfl .h rfl rfl ?_ ?_)) <;> (intro _)) <;> (refine .cons (q hX rfl ?_)) <;> (refine .nil (.intro rfl ?_)))
  | (refine WCX.g_ (id := 8) ?_; (refine .cons (q hX rfl ?_)) <;> (refine .nil (.intro rfl ?_)))
  | (refine WCX.g_ (id := 9) ?_; (iterate 3 refine .cons (q hX rfl ?_)) <;> ((refine .cons (qput (a := nmP (c.params.getD i noParam)) hX rfl rfl fs9 rfl rfl rfl .h rfl rfl rfl ?_))) <;> (refine .nil (.intro rfl ?_)))
  | (refine WCX.g_ (id := 10) ?_; ((refine .cons (qa rfl rfl rfl rfl rfl (wI (by first | omega | (simp only [Int.ofNat_eq_natCast]; omega)) (by first | omega | (simp only [Int.ofNat_eq_natCast]; omega))) rfl rfl ?_))) <;> (refine .cons (q hX rfl ?_)) <;> (refine .nil (.intro rfl ?_)))
  | (refine WCX.g_ (id := 11) ?_; (iterate 2 refine .cons (q hX rfl ?_)) <;> ((refine .cons (ql hX rfl rfl rfl rfl rfl rfl (by assumption) rfl rfl ?_))) <;> (refine .cons (q hX rfl ?_)) <;> (refine .nil (.intro rfl ?_)))
  | refine WCX.r_ ?_
  | refine ToX.d_ ?_
  | refine ToX.f_ ?_
  | refine WCX.t_ rfl ?_
  | refine WCX.f_ rfl ?_
  | refine WCX.k_ ?_
  | refine WCX.b_ ?_
  | refine WCX.e_ ?_
  | refine ToX.e_ ?_
  | refine ToX.c_ ?_
  | refine ToX.b_ ?_
  | refine ToX.r_ hX rfl ?_)
 ·clear next
  refine fun h f => ⟨?_, f.chg.picks .nil⟩
  clear f
  rw [he, all_step _ (by omega) noParam, distM_step (by omega), names_left (by omega), ← hlk]; simp_all [resV]
 ·refine next (i + 1, setB m _ true) _ _ _ (by simp only; omega) ⟨⟨rfl, rfl, rfl, rfl, rfl, trivial⟩, ⟨_, rfl⟩, ⟨_, by rw [setM_B]; exact .cons .h .nil⟩⟩ ⟨by simp only; omega, ?_, hS.step (by omega) (names_left (by omega)).symm⟩
  clear next
  rw [he, all_step _ (by omega) noParam, distM_step (by omega), names_left (by omega), ← hlk]; simp_all [paramOk]
 ·clear next
  refine fun h f => ⟨?_, f.chg.picks .nil⟩
  clear f
  rw [he, all_step _ (by omega) noParam]; simp_all [resV, paramOk]
 clear next
 have hip : i = c.params.length := by omega
 subst hip
 rw [List.drop_of_length_le (Nat.le_refl _)] at he
 refine WCX.loop (ι := Nat × List ((Nat × Nat) × Bool)) (fun x => [(59, .ext (i64 x.1)), (3, .ext (.map km)), (57, .ext sv), (58, .ext (i64 c.shared.length)), (1, .ptr 0 0)]) (fun _ => [.own [.str c.n c.c, pv, sv, .int .i64 c.local, iv] 26 false]) (fun x => [mapB strKey km (x.2.map cellB)]) (fun x => x.1 ≤ c.shared.length ∧ c.headM = ((c.shared.drop x.1).all arrayOk && distM c.names (c.params.length + x.1)) ∧ Seen c (c.params.length + x.1) x.2) (fun x => c.shared.length - x.1) (0, m) ⟨⟨rfl, rfl, rfl, rfl, rfl, trivial⟩, ⟨_, rfl⟩, ⟨_, .cons .h .nil⟩⟩ ⟨Nat.zero_le _, by rw [he]; simp, hS⟩ (fun _ => rfl) (fun _ => rfl) (fun _ => rfl) ?_
 clear he hlk hS m
 rintro ⟨i, m⟩ ⟨hi, he, hS⟩ next
 simp only at next hi he hS ⊢
 have hlk := hS.look
 repeat' (first
  | refine ToX.a_ ?_
  | refine WCX.s_ ?_
  | (refine WCX.g_ (id := 12) ?_; ((refine .cons (qc rfl ?_ ?_)) <;> intro _) <;> (refine .nil (.intro rfl ?_)))
  | (refine WCX.g_ (id := 13) ?_; ((refine .cons (qidx hX rfl rfl rfl rfl rfl (.of hs) (row_i noArray (by omega)) rfl rfl rfl ?_))) <;> (iterate 3 refine .cons (q hX rfl ?_)) <;> (refine .nil (.intro rfl ?_)))
  | (refine WCX.g_ (id := 14) ?_; (iterate 2 refine .cons (q hX rfl ?_)) <;> ((refine .cons (qcallB rfl rfl rfl rfl ca78 rfl rfl (fun h f => lexName_run hK (nmA (c.shared.getD i noArray)) (r.snames _ (getD_mem _ (by omega))) h f.wf (f.ro (.of hB))) ?_ ?_)) <;> intro _) <;> (iterate 5 refine .cons (q hX rfl ?_)) <;> (first | (refine .cons (q hX rfl ?_)) | (refine .cons (qlookB (a := nmA (c.shared.getD i noArray)) hX rfl rfl fs9 zh4 rfl rfl .h rfl rfl ?_ ?_)) <;> (intro _)) <;> (iterate 4 refine .cons (q hX rfl ?_)) <;> (first | (refine .cons (q hX rfl ?_)) | (refine .cons (qc rfl ?_ ?_)) <;> intro _) <;> (iterate 4 refine .cons (q hX rfl ?_)) <;> (first | (refine .cons (q hX rfl ?_)) | (refine .cons (qc rfl ?_ ?_)) <;> intro _) <;> (refine .cons (q hX rfl ?_)) <;> (refine .nil (.intro rfl ?_)))
  | (refine WCX.g_ (id := 15) ?_; (refine .cons (q hX rfl ?_)) <;> (refine .nil (.intro rfl ?_)))
  | (refine WCX.g_ (id := 16) ?_; (iterate 3 refine .cons (q hX rfl ?_)) <;> ((refine .cons (qput (a := nmA (c.shared.getD i noArray)) hX rfl rfl fs9 rfl rfl rfl .h rfl rfl rfl ?_))) <;> (refine .nil (.intro rfl ?_)))
  | (refine WCX.g_ (id := 17) ?_; ((refine .cons (qa rfl rfl rfl rfl rfl (wI (by first | omega | (simp only [Int.ofNat_eq_natCast]; omega)) (by first | omega | (simp only [Int.ofNat_eq_natCast]; omega))) rfl rfl ?_))) <;> (refine .cons (q hX rfl ?_)) <;> (refine .nil (.intro rfl ?_)))
  | (refine WCX.g_ (id := 18) ?_; (refine .cons (q hX rfl ?_)) <;> (refine .nil (.intro rfl ?_)))
  | refine WCX.r_ ?_
  | refine ToX.d_ ?_
  | refine ToX.f_ ?_
  | refine WCX.t_ rfl ?_
  | refine WCX.f_ rfl ?_
  | refine WCX.k_ ?_
  | refine WCX.b_ ?_
  | refine WCX.e_ ?_
  | refine ToX.e_ ?_
  | refine ToX.c_ ?_
  | refine ToX.b_ ?_
  | refine ToX.r_ hX rfl ?_)
 rotate_left 3
 ·refine next (i + 1, setB m _ true) _ _ _ (by simp only; omega) ⟨⟨rfl, rfl, rfl, rfl, rfl, trivial⟩, ⟨_, rfl⟩, ⟨_, by rw [setM_B]; exact .cons .h .nil⟩⟩ ⟨by simp only; omega, ?_, hS.step (i := c.params.length + i) (by omega) (names_right (by omega)).symm⟩
  clear next
  rw [he, all_step _ (by omega) noArray, distM_step (by omega), names_right (by omega), ← hlk]
  unfold arrayOk
  rw [decide_eq_true (p := 1 ≤ _) (by omega), decide_eq_true (p := _ ≤ (64 : Int)) (by omega)]
  simp_all [Nat.add_assoc]
 rotate_left
 ·exact fun h f => ⟨by rw [he, List.drop_of_length_le (by omega), distM_end (by omega)]; rfl, f.chg.picks .nil⟩
 all_goals
  clear next
  refine fun h f => ⟨?_, f.chg.picks .nil⟩
  clear f
  rw [he, all_step _ (by omega) noArray, distM_step (by omega), names_right (by omega), ← hlk]
  unfold arrayOk
  first
   | (simp_all [resV]; done)
   | (rw [decide_eq_false (p := 1 ≤ _) (by omega)]; simp [resV]; done)
   | (rw [decide_eq_false (p := _ ≤ (64 : Int)) (by omega)]; simp [resV]; done)
end Em
end Go.HL
