/- The walk: strings.Builder, the parts of the program's lines. No statement of the seat stands here. -/
import Derived.Test.YtngeipnhbigdmaaGreatDoorVB
import Derived.Test.YtngeipnhbigdmaaGreatDoorXC
set_option linter.unusedVariables false
set_option linter.unusedSimpArgs false
namespace Go.HL
open Go Go.Proofs
namespace Ev
open Em
set_option maxRecDepth 10000
noncomputable section
variable {K : CallFn} {base : List (Nat × HObj)}
theorem sBytes_dig (n c : Nat) : ∀ (i m : Nat), sBytes n c i m = byteCells (digL n c i m)
 | _, 0 => rfl
 | i, m + 1 => by
  show _ :: sBytes n c (Nat.succ i) m = _
  rw [sBytes_dig n c (Nat.succ i) m]; rfl
theorem sBytes_code {l : List Nat} (h : ∀ x ∈ l, x < 256) : sBytes l.length (codeN l 0) 0 l.length = byteCells l := by rw [sBytes_dig, digL_code h]
def selfV (u : Bool) (k : Nat) : HVal := bcase u (.ptr k 0) .nilp
def bld (k : Nat) (u : Bool) (v : HVal) (bs : List Nat) : Part where
 foot j := j = k ∨ keyW v = some j
 holds h := (pts k [selfV u k, v] 142 false).holds h ∧ (ownS 5 1 v (bs.map bcell)).holds h ∧ keyW v ≠ some k
 loc e hh := ⟨(pts k _ 142 false).loc (fun j hj => e j (.inl hj)) hh.1, (ownS 5 1 v _).loc (fun j hj => e j (.inr hj)) hh.2.1, hh.2.2⟩
 live hh hk := hk.elim (fun hk => (pts k _ 142 false).live hh.1 hk) fun hk => (ownS 5 1 v _).live hh.2.1 hk
theorem bld_split (k : Nat) (u : Bool) (v : HVal) (bs : List Nat) : SplitP (bld k u v bs) [pts k [selfV u k, v] 142 false, ownS 5 1 v (bs.map bcell)] := by
 refine ⟨fun h hh r hr => ?_, fun h hh => ?_, fun r hr j hj => ?_⟩
 ·rcases List.mem_cons.1 hr with rfl | hr
  ·exact hh.1
  ·rw [List.mem_singleton.1 hr]; exact hh.2.1
 ·refine List.pairwise_cons.2 ⟨fun r hr j hj hrj => ?_, List.pairwise_singleton _ _⟩
  rw [List.mem_singleton.1 hr] at hrj
  have e : j = k := hj
  subst e
  exact hh.2.2 hrj
 ·rcases List.mem_cons.1 hr with rfl | hr
  ·exact .inl hj
  ·rw [List.mem_singleton.1 hr] at hj; exact .inr hj
theorem bld_join {C R : List Part} {h0 h : Heap} {k : Nat} {u : Bool} {v : HVal} {bs : List Nat} (d : Chg C h0 (pts k [selfV u k, v] 142 false :: ownS 5 1 v (bs.map bcell) :: R) h) : Chg C h0 (bld k u v bs :: R) h := by
 refine Chg.join (Ds := [pts k [selfV u k, v] 142 false, ownS 5 1 v (bs.map bcell)]) d (fun ha hp => ⟨ha _ (by simp), ha _ (by simp), fun e => ?_⟩) fun j hj => ?_
 ·exact (List.pairwise_cons.1 hp).1 (ownS 5 1 v (bs.map bcell)) (by simp) k rfl e
 ·rcases hj with hj | hj
  ·exact ⟨pts k [selfV u k, v] 142 false, by simp, hj⟩
  ·exact ⟨ownS 5 1 v (bs.map bcell), by simp, hj⟩
theorem bld_leak (k : Nat) : AsPart k [.nilp, .nils] 142 false (bld k false .nils []) :=
 ⟨fun h hh => ⟨hh, own_nil 5 1 h, by simp [keyW]⟩, fun j hj => by
  rcases hj with hj | hj
  ·exact hj
  ·simp [keyW] at hj⟩
theorem u139 : P.underlying 139 = some (.pointer 142) := Tryz.underlying139
theorem u339 : P.underlying 339 = some .unsafePointer := Tryz.underlying339
theorem u228 : P.underlying 228 = some (.pointer 5) := Tryz.underlying228
theorem u5 : P.underlying 5 = some (.int .u8) := Tryz.underlying5
theorem c5 : P.cellsOf 5 = 1 := by kernel_rfl
theorem c142 : Nat.beq (P.cellsOf 142) 0 = false := by kernel_rfl
theorem lies142 : liesAt P P.depth 142 (Nat.div 2 (P.cellsOf 142)) 0 142 1 = true := by kernel_rfl
theorem eq_ptr_nil (k : Nat) (lit : Bool) : binC P .eql 139 lit (.ptr k 0) .nilp = some (.bool false) := by
 simp [binC, binH, eqlH, heq]
theorem neq_ptr (k : Nat) (lit : Bool) : binC P .neq 139 lit (.ptr k 0) (.ptr k 0) = some (.bool false) := by
 simp [binC, binH, eqlH, heq, c142]
theorem eq_nil_nil (lit : Bool) : binC P .eql 139 lit .nilp .nilp = some (.bool true) := by
 simp [binC, binH, eqlH, heq]
theorem copyCheck_run (hK : KN base K) (k : Nat) (u : Bool) (v : HVal) (h : Heap) (w : Wf h) (hg : (pts k [selfV u k, v] 142 false).holds h) : Sp P K 136 [.ptr k 0] h (TrG (pts k [selfV u k, v] 142 false) (fun r C => r = .tuple [] ∧ C = [pts k [.ptr k 0, v] 142 false]) h) := by
 cases u with
 | true =>
  have hg : (pts k [.ptr k 0, v] 142 false).holds h := hg
  refine Sp.startG (m := 524353) (n := 20) w hg (hK.none 136 rfl rfl _ _) Tryz.func136 rfl rfl mask136 rfl rfl ?_
  repeat' (first
   | refine ToX.a_ ?_
   | refine WCX.s_ ?_
   | (refine WCX.g_ (id := 0) ?_; (iterate 3 refine .cons (q hX rfl ?_)) <;> ((refine .cons (qldE (off := 0) hX rfl rfl rfl rfl .h rfl rfl rfl ?_))) <;> ((refine .cons (qbin rfl rfl rfl (eq_ptr_nil k) rfl rfl ?_))) <;> (refine .nil (.intro rfl ?_)))
   | (refine WCX.g_ (id := 2) ?_; (iterate 3 refine .cons (q hX rfl ?_)) <;> ((refine .cons (qldE (off := 0) hX rfl rfl rfl rfl .h rfl rfl rfl ?_))) <;> (refine .cons (q hX rfl ?_)) <;> ((refine .cons (qbin rfl rfl rfl (neq_ptr k) rfl rfl ?_))) <;> (refine .nil (.intro rfl ?_)))
   | refine WCX.f_ rfl ?_
   | refine WCX.k_ ?_
   | refine ToX.n_ hX rfl ?_)
  exact fun h f => ⟨_, f.chg, rfl, rfl⟩
 | false =>
  have hg : (pts k [.nilp, v] 142 false).holds h := hg
  refine Sp.startG (m := 524353) (n := 20) w hg (hK.none 136 rfl rfl _ _) Tryz.func136 rfl rfl mask136 rfl rfl ?_
  repeat' (first
   | refine ToX.a_ ?_
   | refine WCX.s_ ?_
   | (refine WCX.g_ (id := 0) ?_; (iterate 3 refine .cons (q hX rfl ?_)) <;> ((refine .cons (qldE (off := 0) hX rfl rfl rfl rfl .h rfl rfl rfl ?_))) <;> ((refine .cons (qbin rfl rfl rfl eq_nil_nil rfl rfl ?_))) <;> (refine .nil (.intro rfl ?_)))
   | (refine WCX.g_ (id := 1) ?_; (iterate 2 refine .cons (q hX rfl ?_)) <;> ((refine .cons (qcvA (v := .nilp) rfl u139 u339 c142 rfl .h rfl rfl rfl ?_))) <;> ((refine .cons (qne rfl rfl rfl rfl rfl Tryz.func237 rfl rfl rfl rfl rfl rfl ?_))) <;> ((refine .cons (qcvB rfl u339 u139 c142 rfl lies142 rfl .h rfl rfl ?_))) <;> (iterate 2 refine .cons (q hX rfl ?_)) <;> ((refine .cons (qstE hX rfl rfl rfl rfl rfl .h rfl rfl rfl rfl ?_))) <;> (refine .nil (.intro rfl ?_)))
   | refine WCX.t_ rfl ?_
   | refine ToX.n_ hX rfl ?_)
  exact fun h f => ⟨_, f.chg, rfl, rfl⟩
theorem wstr_run (hK : KN base K) (k : Nat) (u : Bool) (v : HVal) (bs s : List Nat) (hs : 0 < s.length) (hb : ∀ x ∈ s, x < 256) (hl : bs.length + s.length ≤ 1000000) (h : Heap) (w : Wf h) (hg : (bld k u v bs).holds h) :
  Sp P K 68 [.ptr k 0, strB s] h (TrG (bld k u v bs) (fun r C => ∃ k2, C = [bld k true (.slice k2 0 (bs.length + s.length) none) (bs ++ s)]) h) := by
 refine Sp.startG (m := 51) (n := 19) w hg (hK.none 68 rfl rfl _ _) Tryz.func68 rfl rfl mask68 rfl rfl ?_
 refine WCX.split (bld_split k u v bs) .h rfl ?_
 repeat' (first
  | refine ToX.a_ ?_
  | refine WCX.s_ ?_
  | (refine WCX.g_ (id := 0) ?_; (iterate 2 refine .cons (q hX rfl ?_)) <;> (refine .nil (.intro rfl ?_)))
  | (refine WCX.g_ (id := 1) ?_; (refine .cons (q hX rfl ?_)) <;> ((refine .cons (qcallG rfl rfl rfl rfl ca136 rfl rfl (by repeat (first | exact .h | apply Pick.t)) rfl (fun h f hg ro rg => copyCheck_run hK k u v h f.wf hg) ?_)) <;> (rintro v C' ⟨rfl, rfl⟩)) <;> (refine .nil (.intro rfl ?_)))
  | (refine WCX.g_ (id := 2) ?_; (iterate 4 refine .cons (q hX rfl ?_)) <;> ((refine .cons (qldE (off := 1) hX rfl rfl rfl rfl .h rfl rfl rfl ?_))) <;> (refine .cons (q hX rfl ?_)) <;> (((refine .cons (qappB s hX rfl rfl rfl rfl rfl rfl rfl rfl rfl rfl rfl b5 rfl rfl rfl rfl (sBytes_code hb) hs (.t .h) rfl (by simp only [List.length_map]; omega) rfl rfl fun k2 => ?_)))) <;> (iterate 2 refine .cons (q hX rfl ?_)) <;> ((refine .cons (qstE hX rfl rfl rfl rfl rfl (.t .h) rfl rfl rfl rfl ?_))) <;> (refine .nil (.intro rfl ?_)))
  | (refine WCX.g_ (id := 3) ?_; (iterate 4 refine .cons (q hX rfl ?_)) <;> (refine .nil (.intro rfl ?_)))
  | refine WCX.r_ ?_
  | refine ToX.r_ hX rfl ?_)
 refine fun h f => ⟨_, bld_join (u := true) (v := .slice k2 0 (bs.length + s.length) none) (bs := bs ++ s) (R := []) ?_, k2, rfl⟩
 have e : (bs ++ s).map bcell = bs.map bcell ++ s.map bcell := List.map_append
 have c := f.chg
 rw [e]
 simp only [List.length_map] at c
 exact c
theorem bstr_run (hK : KN base K) (k k2 n : Nat) (u : Bool) (bs : List Nat) (hn : n = bs.length) (hs : 0 < bs.length) (hb : ∀ x ∈ bs, x < 256) (hl : bs.length ≤ 1000000) (h : Heap) (w : Wf h) (hg : (bld k u (.slice k2 0 n none) bs).holds h) :
  Sp P K 72 [.ptr k 0] h (TrG (bld k u (.slice k2 0 n none) bs) (fun r C => r = strB bs ∧ C = [pts k [selfV u k, .slice k2 0 n none] 142 false]) h) := by
 subst hn
 refine Sp.startG (m := 5) (n := 14) w hg (hK.none 72 rfl rfl _ _) Tryz.func72 rfl rfl mask72 rfl rfl ?_
 refine WCX.split (bld_split k u _ bs) .h rfl ?_
 repeat' (first
  | refine ToX.a_ ?_
  | refine WCX.s_ ?_
  | (refine WCX.g_ (id := 0) ?_; (refine .cons (q hX rfl ?_)) <;> (refine .nil (.intro rfl ?_)))
  | (refine WCX.draw (id := 1) tab [0, 1, 2, 3, 5, 6, 7, 8, 9, 4, 10, 11] #[0, 1, 3, 7, 15, 0, 32, 96, 224, 480, 1023, 2047] (by kernel_rfl) (by kernel_rfl) (by kernel_rfl) ?_; (iterate 3 refine .cq hX rfl rfl rfl ?_) <;> ((refine .cons rfl (qldE (off := 1) hX rfl rfl rfl rfl .h rfl rfl rfl ?_)) <;> refine ⟨_, .rdG hX.tab rfl rfl rfl rfl (by repeat (first | exact .h | apply Pick.t)) rfl rfl rfl (suB rfl) rfl rfl rfl, ?_⟩) <;> (iterate 3 refine .cq hX rfl rfl rfl ?_) <;> ((refine .cons rfl (qldE (off := 1) hX rfl rfl rfl rfl .h rfl rfl rfl ?_)) <;> refine ⟨_, .rdG hX.tab rfl rfl rfl rfl (by repeat (first | exact .h | apply Pick.t)) rfl rfl rfl (suB rfl) rfl rfl rfl, ?_⟩) <;> ((refine .cons rfl (q hX rfl ?_)) <;> refine ⟨_, .rdV hX.tab rfl rfl rfl rfl rfl rfl rfl rfl rfl rfl rfl rfl, ?_⟩) <;> ((refine .cons rfl (qsd rfl rfl rfl rfl hs rfl rfl ?_)) <;> refine ⟨_, .comp rfl, ?_⟩) <;> ((refine .cons rfl (qus rfl rfl rfl rfl u228 u5 c5 rfl rfl rfl rfl (.t .h) hs (by omega) hb rfl rfl rfl ?_)) <;> refine ⟨_, .comp rfl, ?_⟩) <;> (refine .cq hX rfl rfl rfl ?_) <;> (refine .nil ⟨?_, .intro rfl ?_⟩ <;> (repeat' (first | exact trivial | exact .inl rfl | exact .inr (.inr ⟨_, _, _, rfl, (by repeat (first | exact .h | apply Pick.t)), (by repeat (first | exact .h | apply Pick.t))⟩) | refine ⟨?_, ?_⟩))))
  | refine WCX.r_ ?_
  | refine ToX.r_ hX rfl ?_)
 exact fun h f => ⟨_, f.chg, rfl, rfl⟩
end
end Ev
end Go.HL
namespace Go.HL
open Go Go.Proofs
namespace Ev
open Em
set_option maxRecDepth 10000
variable {K : CallFn} {base : List (Nat × HObj)}
theorem itoa_run (hL : KL base K) (n : Int) (h1 : -4294967296 < n) (h2 : n < 4294967296) (h : Heap) (w : Wf h) (hB : (lies base).holds h) : Sp P K 70 [.int .i64 n] h (Val (strB (decI n)) h) := Sp.known (hL.itoa h n hB h1 h2) ⟨rfl, Chg.refl w⟩
theorem join_run (hL : KL base K) (s : HVal) (l : List (List Nat)) (hne : l ≠ []) (hb : ∀ x ∈ l, ∀ b ∈ x, b < 256) (hl : (joinT l).length ≤ 1000000) (hll : l.length ≤ 1000000) (h : Heap) (w : Wf h) (hs : (rd s 1 (l.map sB)).holds h) : Sp P K 137 [s, .str 1 32] h (Val (strB (joinT l)) h) := Sp.known (hL.join h s l hne hb hl hll hs) ⟨rfl, Chg.refl w⟩
theorem lineP_run (hK : KN base K) (hL : KL base K) (s : HVal) (l : List (List Nat)) {t : List Nat} (ht : joinT l ++ [10] = t) (hne : l ≠ []) (hb : ∀ x ∈ l, ∀ b ∈ x, b < 256) (hl : (joinT l).length ≤ 1000) (hll : l.length ≤ 1000) (h : Heap) (w : Wf h) (hs : (rd s 1 (l.map sB)).holds h) : Sp P K 69 [s] h (Val (strB t) h) := by
 subst ht
 refine Sp.start (m := 5) (n := 6) w (hK.none 69 rfl rfl _ _) Tryz.func69 rfl rfl mask69 rfl rfl ?_
 repeat' (first
  | refine ToX.a_ ?_
  | refine WCX.s_ ?_
  | (refine WCX.g_ (id := 0) ?_; (refine .cons (q hX rfl ?_)) <;> (refine .nil (.intro rfl ?_)))
  | (refine WCX.g_ (id := 1) ?_; (refine .cons (q hX rfl ?_)) <;> ((refine .cons (qcallV rfl rfl rfl rfl ca137 rfl rfl (fun h f => join_run hL s l hne hb (by omega) (by omega) h f.wf (f.ro (.of hs))) ?_))) <;> ((refine .cons (qcat (b := [10]) rfl rfl rfl (by simp only [List.length_singleton]; omega) rfl rfl ?_))) <;> (refine .cons (q hX rfl ?_)) <;> (refine .nil (.intro rfl ?_)))
  | refine WCX.r_ ?_
  | refine ToX.r_ hX rfl ?_)
 exact fun h f => ⟨rfl, f.chg⟩
theorem regP_run (hK : KN base K) (hL : KL base K) (n : Int) (h1 : -4294967296 < n) (h2 : n < 4294967296) (h : Heap) (w : Wf h) (hB : (lies base).holds h) : Sp P K 139 [.int .i64 n] h (Val (strB (rT n)) h) := by
 have hl := decI_len h1 h2
 refine Sp.start (m := 5) (n := 6) w (hK.none 139 rfl rfl _ _) Tryz.func139 rfl rfl mask139 rfl rfl ?_
 repeat' (first
  | refine ToX.a_ ?_
  | refine WCX.s_ ?_
  | (refine WCX.g_ (id := 0) ?_; (refine .cons (q hX rfl ?_)) <;> (refine .nil (.intro rfl ?_)))
  | (refine WCX.g_ (id := 1) ?_; (refine .cons (q hX rfl ?_)) <;> ((refine .cons (qcallV rfl rfl rfl rfl ca70 rfl rfl (fun h f => itoa_run hL n h1 h2 h f.wf (f.ro (.of hB))) ?_))) <;> ((refine .cons (qcat (a := [114]) rfl rfl rfl (by simp only [List.length_singleton]; omega) rfl rfl ?_))) <;> (refine .cons (q hX rfl ?_)) <;> (refine .nil (.intro rfl ?_)))
  | refine WCX.r_ ?_
  | refine ToX.r_ hX rfl ?_)
 exact fun h f => ⟨rfl, f.chg⟩
theorem text32_run (hK : KN base K) (hL : KL base K) (n : Int) (h1 : -4294967296 < n) (h2 : n < 4294967296) (h : Heap) (w : Wf h) (hB : (lies base).holds h) : Sp P K 140 [.int .i32 n] h (Val (strB (decI n)) h) := by
 refine Sp.start (m := 5) (n := 6) w (hK.none 140 rfl rfl _ _) Tryz.func140 rfl rfl mask140 rfl rfl ?_
 repeat' (first
  | refine ToX.a_ ?_
  | refine WCX.s_ ?_
  | (refine WCX.g_ (id := 0) ?_; (refine .cons (q hX rfl ?_)) <;> (refine .nil (.intro rfl ?_)))
  | (refine WCX.g_ (id := 1) ?_; (refine .cons (q hX rfl ?_)) <;> ((refine .cons (qw hX rfl rfl rfl rfl (wI (by omega) (by omega)) rfl rfl ?_))) <;> ((refine .cons (qcallV rfl rfl rfl rfl ca70 rfl rfl (fun h f => itoa_run hL n h1 h2 h f.wf (f.ro (.of hB))) ?_))) <;> (refine .cons (q hX rfl ?_)) <;> (refine .nil (.intro rfl ?_)))
  | refine WCX.r_ ?_
  | refine ToX.r_ hX rfl ?_)
 exact fun h f => ⟨rfl, f.chg⟩
def Strs (l : List (List Nat)) (v : HVal) (C : List Part) : Prop := ∃ k, v = .slice k 0 l.length (some l.length) ∧ C = [ownS 9 1 (.slice k 0 l.length (some l.length)) (l.map sB)]
theorem leakS {k e : Nat} {lc : List HVal} {s : Bool} (l : List (List Nat)) (hl : (l.map sB).flatten = lc) : AsPart k lc e s (ownS 9 1 (.slice k 0 l.length (some l.length)) (l.map sB)) :=
 .own hl (by intro r hr; obtain ⟨q, _, rfl⟩ := List.mem_map.1 hr; rfl) (by simp)
theorem specials_run (hK : KN base K) (h : Heap) (w : Wf h) : Sp P K 143 [] h (Tr (Strs spT) h) := by
 refine Sp.start (m := 1) (n := 2) w (hK.none 143 rfl rfl _ _) Tryz.func143 rfl rfl mask143 rfl rfl ?_
 repeat' (first
  | refine ToX.a_ ?_
  | refine WCX.s_ ?_
  | (refine WCX.g_ (id := 0) ?_; (refine .cons (q hX rfl ?_)) <;> (refine .nil (.intro rfl ?_)))
  | (refine WCX.g_ (id := 1) ?_; (iterate 2 refine .cons (q hX rfl ?_)) <;> (refine .nil (.intro rfl ?_)))
  | refine WCX.r_ ?_)
 refine ToX.leak 0 (fun k => ownS 9 1 (.slice k 0 4 (some 4)) (spT.map sB)) rfl (fun k => leakS spT rfl) (fun _ => rfl) rfl fun k => ?_
 exact ToX.r_ hX rfl fun h f => ⟨_, f.chg, _, rfl, rfl⟩
def foT : List (List Nat) := [[97, 100, 100], [109, 105, 110], [109, 97, 120], [97, 110, 100], [111, 114], [120, 111, 114]]
def foN : List Nat := [0, 18, 19, 5, 6, 7]
abbrev nB (n : Nat) : List HVal := [i64 n]
theorem folds_run (hK : KN base K) (h : Heap) (w : Wf h) : Sp P K 163 [] h (Tr (fun v C => ∃ k k2, v = .tuple [.slice k 0 6 (some 6), .slice k2 0 6 (some 6)] ∧ C = [ownS 3 1 (.slice k2 0 6 (some 6)) (foN.map nB), ownS 9 1 (.slice k 0 6 (some 6)) (foT.map sB)]) h) := by
 refine Sp.start (m := 3) (n := 4) w (hK.none 163 rfl rfl _ _) Tryz.func163 rfl rfl mask163 rfl rfl ?_
 repeat' (first
  | refine ToX.a_ ?_
  | refine WCX.s_ ?_
  | (refine WCX.g_ (id := 0) ?_; (iterate 2 refine .cons (q hX rfl ?_)) <;> (refine .nil (.intro rfl ?_)))
  | (refine WCX.g_ (id := 1) ?_; (iterate 4 refine .cons (q hX rfl ?_)) <;> (refine .nil (.intro rfl ?_)))
  | refine WCX.r_ ?_)
 refine ToX.leak 0 (fun k => ownS 9 1 (.slice k 0 6 (some 6)) (foT.map sB)) rfl (fun k => leakS foT rfl) (fun _ => rfl) rfl fun k => ?_
 refine ToX.leak 1 (fun k => ownS 3 1 (.slice k 0 6 (some 6)) (foN.map nB)) rfl (fun k => .own rfl (by intro r hr; obtain ⟨q, _, rfl⟩ := List.mem_map.1 hr; rfl) rfl) (fun _ => rfl) rfl fun k2 => ?_
 exact ToX.r_ hX rfl fun h f => ⟨_, f.chg, _, _, rfl, rfl⟩
theorem fT_at : ∀ a, a < 6 → fT ((foN.getD a 0 : Nat) : Int) = foT.getD a [] := by decide
theorem foldWordP_run (hK : KN base K) (n : Int) (hn : n = 0 ∨ n = 18 ∨ n = 19 ∨ n = 5 ∨ n = 6 ∨ n = 7) (h : Heap) (w : Wf h) : Sp P K 144 [.int .i64 n] h (Val (strB (fT n)) h) := by
 refine Sp.start (m := 1079421) (n := 26) w (hK.none 144 rfl rfl _ _) Tryz.func144 rfl rfl mask144 rfl rfl ?_
 repeat' (first
  | refine ToX.a_ ?_
  | refine WCX.s_ ?_
  | (refine WCX.g_ (id := 0) ?_; (refine .cons (q hX rfl ?_)) <;> (refine .nil (.intro rfl ?_)))
  | (refine WCX.g_ (id := 1) ?_; ((refine .cons (qcall rfl rfl rfl rfl ca163 rfl rfl (fun h f => folds_run hK h f.wf) ?_)) <;> (rintro v C' ⟨k, k2, rfl, rfl⟩)) <;> (iterate 5 refine .cons (q hX rfl ?_)) <;> (refine .nil (.intro rfl ?_)))
  | (refine WCX.g_ (id := 2) ?_; (iterate 3 refine .cons (q hX rfl ?_)) <;> (refine .nil (.intro rfl ?_)))
  | refine WCX.b_ ?_)
 refine WCX.loop (fun a => [(13, .ext (i64 a)), (12, .ext (i64 6)), (11, .ext (.slice k2 0 6 (some 6))), (4, .ext (.slice k2 0 6 (some 6))), (3, .ext (.slice k 0 6 (some 6))), (0, .ext (.int .i64 n))]) (fun _ => []) (fun _ => [ownS 3 1 (.slice k2 0 6 (some 6)) (foN.map nB), ownS 9 1 (.slice k 0 6 (some 6)) (foT.map sB)]) (fun a => a ≤ 6 ∧ ∀ j, j < a → n ≠ ((foN.getD j 0 : Nat) : Int)) (fun a => 6 - a) 0 ⟨⟨rfl, rfl, rfl, rfl, rfl, rfl, trivial⟩, ⟨_, rfl⟩, ⟨_, .cons .h (.cons .h .nil)⟩⟩ ⟨Nat.zero_le _, fun j hj => absurd hj (by omega)⟩ (fun _ => rfl) (fun _ => rfl) (fun _ => rfl) ?_
 rintro a ⟨ha, hne⟩ next
 repeat' (first
  | refine ToX.a_ ?_
  | refine WCX.s_ ?_
  | (refine WCX.g_ (id := 3) ?_; ((refine .cons (qc rfl ?_ ?_)) <;> intro _) <;> (refine .nil (.intro rfl ?_)))
  | (refine WCX.g_ (id := 8) ?_; (refine .cons (q hX rfl ?_)) <;> (refine .nil (.intro rfl ?_)))
  | refine WCX.r_ ?_
  | refine WCX.t_ rfl ?_
  | refine WCX.f_ rfl ?_
  | refine WCX.k_ ?_
  | refine WCX.b_ ?_
  | refine WCX.e_ ?_
  | refine ToX.e_ ?_
  | refine ToX.c_ ?_
  | refine ToX.r_ hX rfl ?_)
 ·have ha6 : a < 6 := by omega
  repeat' (first
   | refine ToX.a_ ?_
   | refine WCX.s_ ?_
   | (refine WCX.g_ (id := 4) ?_; (refine .cons (q hX rfl ?_)) <;> ((refine .cons (qidxG (r := nB (foN.getD a 0)) hX rfl rfl rfl rfl rfl .h (row_i 0 ha6) rfl rfl rfl ?_))) <;> (iterate 3 refine .cons (q hX rfl ?_)) <;> (refine .nil (.intro rfl ?_)))
   | (refine WCX.g_ (id := 5) ?_; (iterate 2 refine .cons (q hX rfl ?_)) <;> ((refine .cons (qc rfl ?_ ?_)) <;> intro _) <;> (refine .nil (.intro rfl ?_)))
   | (refine WCX.g_ (id := 6) ?_; (iterate 2 refine .cons (q hX rfl ?_)) <;> ((refine .cons (qidxG (r := sB (foT.getD a [])) hX rfl rfl rfl rfl rfl (.t .h) (row_i [] ha6) rfl rfl rfl ?_))) <;> (iterate 2 refine .cons (q hX rfl ?_)) <;> (refine .nil (.intro rfl ?_)))
   | (refine WCX.g_ (id := 7) ?_; ((refine .cons (qa rfl rfl rfl rfl rfl (wI (by first | omega | (simp only [Int.ofNat_eq_natCast]; omega)) (by first | omega | (simp only [Int.ofNat_eq_natCast]; omega))) rfl rfl ?_))) <;> (refine .cons (q hX rfl ?_)) <;> (refine .nil (.intro rfl ?_)))
   | refine WCX.r_ ?_
   | refine ToX.d_ ?_
   | refine ToX.f_ ?_
   | refine WCX.t_ rfl ?_
   | refine WCX.f_ rfl ?_
   | refine WCX.k_ ?_
   | refine ToX.b_ ?_
   | refine ToX.r_ hX rfl ?_)
  ·rename_i e
   exact fun h f => ⟨by rw [← e, fT_at a ha6]; rfl, f.chg.picks .nil⟩
  ·rename_i e
   refine next (a + 1) _ _ _ (by omega) ⟨⟨rfl, rfl, rfl, rfl, rfl, rfl, trivial⟩, ⟨_, rfl⟩, ⟨_, .cons .h (.cons .h .nil)⟩⟩ ⟨by omega, fun j hj => ?_⟩
   by_cases hja : j = a
   ·rw [hja]; exact fun hn => e hn.symm
   ·exact hne j (by omega)
 ·have ha6 : a = 6 := by omega
  subst ha6
  have h0 := hne 0 (by omega)
  have h1 := hne 1 (by omega)
  have h2 := hne 2 (by omega)
  have h3 := hne 3 (by omega)
  have h4 := hne 4 (by omega)
  have h5 := hne 5 (by omega)
  simp [foN] at h0 h1 h2 h3 h4 h5
  omega
theorem unaryP_run (hK : KN base K) (n : Int) (h1 : 0 ≤ n) (h2 : n < 3) (h : Heap) (w : Wf h) : Sp P K 141 [.int .i64 n] h (Val (strB (uT.getD n.toNat [])) h) := by
 obtain ⟨k, rfl⟩ := Int.eq_ofNat_of_zero_le h1
 obtain rfl | rfl | rfl : k = 0 ∨ k = 1 ∨ k = 2 := by omega
 all_goals
  refine Sp.start (m := 261) (n := 12) w (hK.none 141 rfl rfl _ _) Tryz.func141 rfl rfl mask141 rfl rfl ?_
  repeat' (first
   | refine ToX.a_ ?_
   | refine WCX.s_ ?_
   | (refine WCX.g_ (id := 0) ?_; (refine .cons (q hX rfl ?_)) <;> (refine .nil (.intro rfl ?_)))
   | (refine WCX.g_ (id := 1) ?_; (refine .cons (q hX rfl ?_)) <;> ((refine .cons (qc rfl ?_ ?_)) <;> intro _) <;> (iterate 4 refine .cons (q hX rfl ?_)) <;> (refine .nil (.intro rfl ?_)))
   | (refine WCX.g_ (id := 2) ?_; (refine .cons (q hX rfl ?_)) <;> (refine .nil (.intro rfl ?_)))
   | (refine WCX.g_ (id := 3) ?_; (iterate 2 refine .cons (q hX rfl ?_)) <;> ((refine .cons (qixA hX rfl rfl rfl rfl rfl rfl rfl rfl rfl rfl ?_))) <;> (refine .cons (q hX rfl ?_)) <;> (refine .nil (.intro rfl ?_)))
   | refine WCX.r_ ?_
   | refine ToX.d_ ?_
   | refine WCX.t_ rfl ?_
   | refine WCX.f_ rfl ?_
   | refine WCX.k_ ?_
   | refine ToX.r_ hX rfl ?_)
  all_goals first | exact fun h f => ⟨rfl, f.chg⟩ | (exfalso; omega)
def ruF : List Nat := [256, 257, 258, 259, 260, 261, 262, 263, 264, 265, 266, 267, 269, 270, 271, 272, 273, 274, 275, 276]
def ruK : List Nat := [1, 0, 1, 0, 0, 1, 1, 1, 0, 0, 0, 0, 0, 1, 1, 0, 1, 1, 1, 1]
abbrev ruB (k : Nat) : List HVal := [strB (bT.getD k []), .func (ruF.getD k 0) [] [], i64 (ruK.getD k 0)]
theorem rules_run (hK : KN base K) (h : Heap) (w : Wf h) : Sp P K 166 [] h (Tr (fun v C => ∃ k, v = .slice k 0 20 (some 20) ∧ C = [ownS 247 3 (.slice k 0 20 (some 20)) ((List.range 20).map ruB)]) h) := by
 refine Sp.start (m := 1) (n := 22) w (hK.none 166 rfl rfl _ _) Tryz.func166 rfl rfl mask166 rfl rfl ?_
 repeat' (first
  | refine ToX.a_ ?_
  | refine WCX.s_ ?_
  | (refine WCX.g_ (id := 0) ?_; (refine .cons (q hX rfl ?_)) <;> (refine .nil (.intro rfl ?_)))
  | (refine WCX.g_ (id := 1) ?_; (iterate 22 refine .cons (q hX rfl ?_)) <;> (refine .nil (.intro rfl ?_)))
  | refine WCX.r_ ?_)
 refine ToX.leak 0 (fun k => ownS 247 3 (.slice k 0 20 (some 20)) ((List.range 20).map ruB)) rfl (fun k => .own rfl (by intro r hr; obtain ⟨q, _, rfl⟩ := List.mem_map.1 hr; rfl) rfl) (fun _ => rfl) rfl fun k => ?_
 exact ToX.r_ hX rfl fun h f => ⟨_, f.chg, _, rfl, rfl⟩
theorem binaryP_run (hK : KN base K) (n : Int) (h1 : 0 ≤ n) (h2 : n < 20) (h : Heap) (w : Wf h) : Sp P K 142 [.int .i64 n] h (Val (strB (bT.getD n.toNat [])) h) := by
 obtain ⟨k, rfl⟩ := Int.eq_ofNat_of_zero_le h1
 have hrow : ((List.range 20).map ruB)[k]? = some (ruB k) := by
  rw [List.getElem?_map, List.getElem?_range (by omega)]; rfl
 refine Sp.start (m := 261) (n := 14) w (hK.none 142 rfl rfl _ _) Tryz.func142 rfl rfl mask142 rfl rfl ?_
 repeat' (first
  | refine ToX.a_ ?_
  | refine WCX.s_ ?_
  | (refine WCX.g_ (id := 0) ?_; (refine .cons (q hX rfl ?_)) <;> (refine .nil (.intro rfl ?_)))
  | (refine WCX.g_ (id := 1) ?_; (refine .cons (q hX rfl ?_)) <;> ((refine .cons (qc rfl ?_ ?_)) <;> intro _) <;> (iterate 2 refine .cons (q hX rfl ?_)) <;> (first | (refine .cons (q hX rfl ?_)) | (refine .cons (qc rfl ?_ ?_)) <;> intro _) <;> (refine .cons (q hX rfl ?_)) <;> (refine .nil (.intro rfl ?_)))
  | (refine WCX.g_ (id := 2) ?_; (refine .cons (q hX rfl ?_)) <;> (refine .nil (.intro rfl ?_)))
  | (refine WCX.g_ (id := 3) ?_; ((refine .cons (qcall rfl rfl rfl rfl ca166 rfl rfl (fun h f => rules_run hK h f.wf) ?_)) <;> (rintro v C' ⟨kr, rfl, rfl⟩)) <;> (refine .cons (q hX rfl ?_)) <;> ((refine .cons (qidxG (r := ruB k) hX rfl rfl rfl rfl rfl .h hrow rfl rfl rfl ?_))) <;> (iterate 3 refine .cons (q hX rfl ?_)) <;> (refine .nil (.intro rfl ?_)))
  | refine WCX.r_ ?_
  | refine ToX.d_ ?_
  | refine WCX.t_ rfl ?_
  | refine WCX.f_ rfl ?_
  | refine WCX.k_ ?_
  | refine ToX.r_ hX rfl ?_)
 all_goals first | (exfalso; omega) | exact fun h f => ⟨rfl, f.chg.picks .nil⟩
end Ev
end Go.HL
namespace Go.HL
open Go Go.Proofs
namespace Ev
open Em
set_option maxRecDepth 10000
set_option maxHeartbeats 4000000
variable {K : CallFn} {base : List (Nat × HObj)}
def partsT (x : InsnD) : List (List Nat) :=
 if x.kind = 0 then [rT x.d, [61], decI x.imm]
 else if x.kind = 1 then [rT x.d, [61], rT x.a]
 else if x.kind = 2 then [rT x.d, [61], uT.getD x.op.toNat [], rT x.a]
 else if x.kind = 3 then [rT x.d, [61], rT x.a, bT.getD x.op.toNat [], rT x.b]
 else if x.kind = 4 then [rT x.d, [61], spT.getD x.op.toNat []]
 else if x.kind = 5 then [rT x.d, [61], [112, 97, 114, 97, 109], decI x.imm]
 else if x.kind = 6 then [rT x.d, [61], [97, 114, 114, 97, 121], decI x.imm, rT x.a]
 else if x.kind = 7 then [[97, 114, 114, 97, 121], decI x.imm, rT x.a, [61], rT x.b]
 else if x.kind = 8 then [[97, 116, 111, 109, 105, 99], fT x.op, [97, 114, 114, 97, 121], decI x.imm, rT x.a, rT x.b]
 else if x.kind = 9 then [[98, 97, 114, 114, 105, 101, 114], decI x.imm]
 else if x.kind = 10 then [rT x.d, [61], [99, 111, 108, 108, 101, 99, 116], fT x.op, rT x.a, decI x.imm]
 else if x.kind = 11 then [rT x.d, [61], [108, 111, 99, 97, 108], decI x.imm]
 else if x.kind = 12 then [[108, 111, 99, 97, 108], decI x.imm, [61], rT x.a]
 else if x.kind = 13 then [[106, 117, 109, 112], decI x.to]
 else if x.kind = 14 then [[98, 114, 97, 110, 99, 104], rT x.a, decI x.to, [106, 111, 105, 110], decI x.join]
 else [[101, 120, 105, 116]]
theorem joinT_ite {p : Prop} [Decidable p] {a b : List (List Nat)} : joinT (if p then a else b) = if p then joinT a else joinT b := by split <;> rfl
theorem lineT_parts (x : InsnD) : lineT x = joinT (partsT x) := by
 unfold lineT partsT
 simp only [joinT_ite]
 simp only [joinT, List.map_cons, List.map_nil, List.flatten_cons, List.flatten_nil, List.append_nil, List.append_assoc, List.cons_append, List.nil_append]
structure LineOk2 (x : InsnD) : Prop where
 ok : LineOk x
 f : x.kind = 8 ∨ x.kind = 10 → x.op = 0 ∨ x.op = 18 ∨ x.op = 19 ∨ x.op = 5 ∨ x.op = 6 ∨ x.op = 7
theorem parts_run (hK : KN base K) (hL : KL base K) (x : InsnD) (hx : LineOk2 x) (h : Heap) (w : Wf h) (hB : (lies base).holds h) : Sp P K 71 [.agg (icell x)] h (Tr (Strs (partsT x)) h) := by
 obtain ⟨⟨fine, hu, hb, hs⟩, hfo⟩ := hx
 have f1 := fine.d
 have f2 := fine.a
 have f3 := fine.b
 have f4 := fine.imm
 have f5 := fine.to
 have f6 := fine.join
 refine Sp.start (m := 5276041190745505870876331431952511) (n := 123) w (hK.none 71 rfl rfl _ _) Tryz.func71 rfl rfl mask71 rfl rfl ?_
 repeat' (first
  | refine ToX.a_ ?_
  | refine WCX.s_ ?_
  | (refine WCX.g_ (id := 0) ?_; (iterate 2 refine .cons (q hX rfl ?_)) <;> (refine .nil (.intro rfl ?_)))
  | (refine WCX.draw (id := 1) tab [0, 1, 3, 4, 6, 7, 9, 10, 2, 5, 8, 11, 12, 13, 14, 15] #[0, 1, 3, 0, 8, 31, 0, 64, 255, 0, 512, 2047, 4095, 8191, 16383, 32767] (by kernel_rfl) (by kernel_rfl) (by kernel_rfl) ?_; (refine .cq hX rfl rfl rfl ?_) <;> ((refine .cons rfl (q hX rfl ?_)) <;> refine ⟨_, .rdB hX.tab rfl rfl rfl rfl rfl rfl rfl rfl (suB rfl) rfl rfl rfl, ?_⟩) <;> (refine .cq hX rfl rfl rfl ?_) <;> ((refine .cons rfl (q hX rfl ?_)) <;> refine ⟨_, .rdB hX.tab rfl rfl rfl rfl rfl rfl rfl rfl (suB rfl) rfl rfl rfl, ?_⟩) <;> (refine .cq hX rfl rfl rfl ?_) <;> ((refine .cons rfl (q hX rfl ?_)) <;> refine ⟨_, .rdB hX.tab rfl rfl rfl rfl rfl rfl rfl rfl (suB rfl) rfl rfl rfl, ?_⟩) <;> (refine .cq hX rfl rfl rfl ?_) <;> ((refine .cons rfl (q hX rfl ?_)) <;> refine ⟨_, .rdB hX.tab rfl rfl rfl rfl rfl rfl rfl rfl (suB rfl) rfl rfl rfl, ?_⟩) <;> ((refine .cons rfl (qcallV rfl rfl rfl rfl ca139 rfl rfl (fun h f => regP_run hK hL x.d (by omega) (by omega) h f.wf (f.ro (.of hB))) ?_)) <;> refine ⟨_, .comp rfl, ?_⟩) <;> ((refine .cons rfl (qcallV rfl rfl rfl rfl ca139 rfl rfl (fun h f => regP_run hK hL x.a (by omega) (by omega) h f.wf (f.ro (.of hB))) ?_)) <;> refine ⟨_, .comp rfl, ?_⟩) <;> ((refine .cons rfl (qcallV rfl rfl rfl rfl ca139 rfl rfl (fun h f => regP_run hK hL x.b (by omega) (by omega) h f.wf (f.ro (.of hB))) ?_)) <;> refine ⟨_, .comp rfl, ?_⟩) <;> ((refine .cons rfl (qcallV rfl rfl rfl rfl ca140 rfl rfl (fun h f => text32_run hK hL x.imm (by omega) (by omega) h f.wf (f.ro (.of hB))) ?_)) <;> refine ⟨_, .comp rfl, ?_⟩) <;> (iterate 4 refine .cq hX rfl rfl rfl ?_) <;> (refine .nil ⟨?_, .intro rfl ?_⟩ <;> (repeat' (first | exact trivial | exact .inl rfl | exact .inr (.inl ⟨_, _, _, _, rfl, rfl, rfl⟩) | refine ⟨?_, ?_⟩))))
  | (refine WCX.g_ (id := 2) ?_; (iterate 2 refine .cons (q hX rfl ?_)) <;> (refine .nil (.intro rfl ?_)))
  | (refine WCX.g_ (id := 3) ?_; ((refine .cons (qc rfl ?_ ?_)) <;> intro _) <;> (refine .cons (q hX rfl ?_)) <;> (refine .nil (.intro rfl ?_)))
  | (refine WCX.g_ (id := 4) ?_; (iterate 4 refine .cons (q hX rfl ?_)) <;> (refine .nil (.intro rfl ?_)))
  | (refine WCX.g_ (id := 5) ?_; ((refine .cons (qc rfl ?_ ?_)) <;> intro _) <;> (refine .cons (q hX rfl ?_)) <;> (refine .nil (.intro rfl ?_)))
  | (refine WCX.g_ (id := 6) ?_; (iterate 4 refine .cons (q hX rfl ?_)) <;> (refine .nil (.intro rfl ?_)))
  | (refine WCX.g_ (id := 7) ?_; ((refine .cons (qc rfl ?_ ?_)) <;> intro _) <;> (refine .cons (q hX rfl ?_)) <;> (refine .nil (.intro rfl ?_)))
  | (refine WCX.g_ (id := 8) ?_; (iterate 3 refine .cons (q hX rfl ?_)) <;> ((refine .cons (qcallV rfl rfl rfl rfl ca141 rfl rfl (fun h f => unaryP_run hK x.op (by omega) (by omega) h f.wf) ?_))) <;> (iterate 3 refine .cons (q hX rfl ?_)) <;> (refine .nil (.intro rfl ?_)))
  | (refine WCX.g_ (id := 9) ?_; ((refine .cons (qc rfl ?_ ?_)) <;> intro _) <;> (refine .cons (q hX rfl ?_)) <;> (refine .nil (.intro rfl ?_)))
  | (refine WCX.g_ (id := 10) ?_; (iterate 4 refine .cons (q hX rfl ?_)) <;> ((refine .cons (qcallV rfl rfl rfl rfl ca142 rfl rfl (fun h f => binaryP_run hK x.op (by omega) (by omega) h f.wf) ?_))) <;> (iterate 3 refine .cons (q hX rfl ?_)) <;> (refine .nil (.intro rfl ?_)))
  | (refine WCX.g_ (id := 11) ?_; ((refine .cons (qc rfl ?_ ?_)) <;> intro _) <;> (refine .cons (q hX rfl ?_)) <;> (refine .nil (.intro rfl ?_)))
  | (refine WCX.draw (id := 12) tab [0, 2, 3, 1, 4, 5, 6, 7] #[0, 0, 0, 4, 14, 30, 63, 127] (by kernel_rfl) (by kernel_rfl) (by kernel_rfl) ?_; (iterate 2 refine .cq hX rfl rfl rfl ?_) <;> ((refine .cons rfl (q hX rfl ?_)) <;> refine ⟨_, .rdB hX.tab rfl rfl rfl rfl rfl rfl rfl rfl (suB rfl) rfl rfl rfl, ?_⟩) <;> ((refine .cons rfl (qcall rfl rfl rfl rfl ca143 rfl rfl (fun h f => specials_run hK h f.wf) ?_)) <;> (rintro v C' ⟨ks, rfl, rfl⟩) <;> refine ⟨_, .comp rfl, ?_⟩) <;> ((refine .cons rfl (qidxGI (r := sB (spT.getD x.op.toNat [])) hX rfl rfl rfl rfl rfl (by omega) .h (row_i [] (by first | omega | (show x.op.toNat < 4; omega))) rfl rfl rfl ?_)) <;> refine ⟨_, .comp rfl, ?_⟩) <;> (iterate 3 refine .cq hX rfl rfl rfl ?_) <;> (refine .nil ⟨?_, .intro rfl ?_⟩ <;> (repeat' (first | exact trivial | exact .inl rfl | exact .inr (.inl ⟨_, _, _, _, rfl, rfl, rfl⟩) | refine ⟨?_, ?_⟩))))
  | (refine WCX.g_ (id := 13) ?_; ((refine .cons (qc rfl ?_ ?_)) <;> intro _) <;> (refine .cons (q hX rfl ?_)) <;> (refine .nil (.intro rfl ?_)))
  | (refine WCX.g_ (id := 14) ?_; (iterate 4 refine .cons (q hX rfl ?_)) <;> (refine .nil (.intro rfl ?_)))
  | (refine WCX.g_ (id := 15) ?_; ((refine .cons (qc rfl ?_ ?_)) <;> intro _) <;> (refine .cons (q hX rfl ?_)) <;> (refine .nil (.intro rfl ?_)))
  | (refine WCX.g_ (id := 16) ?_; (iterate 5 refine .cons (q hX rfl ?_)) <;> (refine .nil (.intro rfl ?_)))
  | (refine WCX.g_ (id := 17) ?_; ((refine .cons (qc rfl ?_ ?_)) <;> intro _) <;> (refine .cons (q hX rfl ?_)) <;> (refine .nil (.intro rfl ?_)))
  | (refine WCX.g_ (id := 18) ?_; (iterate 5 refine .cons (q hX rfl ?_)) <;> (refine .nil (.intro rfl ?_)))
  | (refine WCX.g_ (id := 19) ?_; ((refine .cons (qc rfl ?_ ?_)) <;> intro _) <;> (refine .cons (q hX rfl ?_)) <;> (refine .nil (.intro rfl ?_)))
  | (refine WCX.g_ (id := 20) ?_; (iterate 2 refine .cons (q hX rfl ?_)) <;> ((refine .cons (qcallV rfl rfl rfl rfl ca144 rfl rfl (fun h f => foldWordP_run hK x.op (hfo (by omega)) h f.wf) ?_))) <;> (iterate 5 refine .cons (q hX rfl ?_)) <;> (refine .nil (.intro rfl ?_)))
  | (refine WCX.g_ (id := 21) ?_; ((refine .cons (qc rfl ?_ ?_)) <;> intro _) <;> (refine .cons (q hX rfl ?_)) <;> (refine .nil (.intro rfl ?_)))
  | (refine WCX.g_ (id := 22) ?_; (iterate 3 refine .cons (q hX rfl ?_)) <;> (refine .nil (.intro rfl ?_)))
  | (refine WCX.g_ (id := 23) ?_; ((refine .cons (qc rfl ?_ ?_)) <;> intro _) <;> (refine .cons (q hX rfl ?_)) <;> (refine .nil (.intro rfl ?_)))
  | (refine WCX.g_ (id := 24) ?_; (iterate 3 refine .cons (q hX rfl ?_)) <;> ((refine .cons (qcallV rfl rfl rfl rfl ca144 rfl rfl (fun h f => foldWordP_run hK x.op (hfo (by omega)) h f.wf) ?_))) <;> (iterate 4 refine .cons (q hX rfl ?_)) <;> (refine .nil (.intro rfl ?_)))
  | (refine WCX.g_ (id := 25) ?_; ((refine .cons (qc rfl ?_ ?_)) <;> intro _) <;> (refine .cons (q hX rfl ?_)) <;> (refine .nil (.intro rfl ?_)))
  | (refine WCX.g_ (id := 26) ?_; (iterate 4 refine .cons (q hX rfl ?_)) <;> (refine .nil (.intro rfl ?_)))
  | (refine WCX.g_ (id := 27) ?_; ((refine .cons (qc rfl ?_ ?_)) <;> intro _) <;> (refine .cons (q hX rfl ?_)) <;> (refine .nil (.intro rfl ?_)))
  | (refine WCX.g_ (id := 28) ?_; (iterate 4 refine .cons (q hX rfl ?_)) <;> (refine .nil (.intro rfl ?_)))
  | (refine WCX.g_ (id := 29) ?_; ((refine .cons (qc rfl ?_ ?_)) <;> intro _) <;> (refine .cons (q hX rfl ?_)) <;> (refine .nil (.intro rfl ?_)))
  | (refine WCX.g_ (id := 30) ?_; (iterate 2 refine .cons (q hX rfl ?_)) <;> ((refine .cons (qcallV rfl rfl rfl rfl ca70 rfl rfl (fun h f => itoa_run hL x.to (by omega) (by omega) h f.wf (f.ro (.of hB))) ?_))) <;> (iterate 2 refine .cons (q hX rfl ?_)) <;> (refine .nil (.intro rfl ?_)))
  | (refine WCX.g_ (id := 31) ?_; ((refine .cons (qc rfl ?_ ?_)) <;> intro _) <;> (refine .cons (q hX rfl ?_)) <;> (refine .nil (.intro rfl ?_)))
  | (refine WCX.draw (id := 32) tab [0, 1, 2, 4, 5, 3, 6, 7, 8] #[0, 0, 2, 6, 0, 16, 62, 127, 255] (by kernel_rfl) (by kernel_rfl) (by kernel_rfl) ?_; (iterate 2 refine .cq hX rfl rfl rfl ?_) <;> ((refine .cons rfl (q hX rfl ?_)) <;> refine ⟨_, .rdB hX.tab rfl rfl rfl rfl rfl rfl rfl rfl (suB rfl) rfl rfl rfl, ?_⟩) <;> (refine .cq hX rfl rfl rfl ?_) <;> ((refine .cons rfl (q hX rfl ?_)) <;> refine ⟨_, .rdB hX.tab rfl rfl rfl rfl rfl rfl rfl rfl (suB rfl) rfl rfl rfl, ?_⟩) <;> ((refine .cons rfl (qcallV rfl rfl rfl rfl ca70 rfl rfl (fun h f => itoa_run hL x.to (by omega) (by omega) h f.wf (f.ro (.of hB))) ?_)) <;> refine ⟨_, .comp rfl, ?_⟩) <;> ((refine .cons rfl (qcallV rfl rfl rfl rfl ca70 rfl rfl (fun h f => itoa_run hL x.join (by omega) (by omega) h f.wf (f.ro (.of hB))) ?_)) <;> refine ⟨_, .comp rfl, ?_⟩) <;> (iterate 2 refine .cq hX rfl rfl rfl ?_) <;> (refine .nil ⟨?_, .intro rfl ?_⟩ <;> (repeat' (first | exact trivial | exact .inl rfl | exact .inr (.inl ⟨_, _, _, _, rfl, rfl, rfl⟩) | refine ⟨?_, ?_⟩))))
  | (refine WCX.g_ (id := 33) ?_; (iterate 2 refine .cons (q hX rfl ?_)) <;> (refine .nil (.intro rfl ?_)))
  | refine WCX.r_ ?_
  | refine ToX.d_ ?_
  | refine ToX.f_ ?_
  | refine WCX.t_ rfl ?_
  | refine WCX.f_ rfl ?_
  | refine WCX.k_ ?_
  | refine WCX.b_ ?_
  | refine ToX.b_ ?_)
 ·have e : partsT x = [rT x.d, [61], decI x.imm] := by unfold partsT; simp only [*, if_true, if_false]; try rfl
  refine ToX.leak 1 (fun k => ownS 9 1 (.slice k 0 3 (some 3)) (([rT x.d, [61], decI x.imm] : List (List Nat)).map sB)) rfl (fun k => leakS [rT x.d, [61], decI x.imm] rfl) (fun _ => rfl) rfl fun k => ?_
  exact ToX.r_ hX rfl fun h f => ⟨_, f.chg.picks (.cons .h .nil), k, by rw [e]; rfl, by rw [e]; rfl⟩
 ·have e : partsT x = [rT x.d, [61], rT x.a] := by unfold partsT; simp only [*, if_true, if_false]; try rfl
  refine ToX.leak 1 (fun k => ownS 9 1 (.slice k 0 3 (some 3)) (([rT x.d, [61], rT x.a] : List (List Nat)).map sB)) rfl (fun k => leakS [rT x.d, [61], rT x.a] rfl) (fun _ => rfl) rfl fun k => ?_
  exact ToX.r_ hX rfl fun h f => ⟨_, f.chg.picks (.cons .h .nil), k, by rw [e]; rfl, by rw [e]; rfl⟩
 ·have e : partsT x = [rT x.d, [61], uT.getD x.op.toNat [], rT x.a] := by unfold partsT; simp only [*, if_true, if_false]; try rfl
  refine ToX.leak 1 (fun k => ownS 9 1 (.slice k 0 4 (some 4)) (([rT x.d, [61], uT.getD x.op.toNat [], rT x.a] : List (List Nat)).map sB)) rfl (fun k => leakS [rT x.d, [61], uT.getD x.op.toNat [], rT x.a] rfl) (fun _ => rfl) rfl fun k => ?_
  exact ToX.r_ hX rfl fun h f => ⟨_, f.chg.picks (.cons .h .nil), k, by rw [e]; rfl, by rw [e]; rfl⟩
 ·have e : partsT x = [rT x.d, [61], rT x.a, bT.getD x.op.toNat [], rT x.b] := by unfold partsT; simp only [*, if_true, if_false]; try rfl
  refine ToX.leak 1 (fun k => ownS 9 1 (.slice k 0 5 (some 5)) (([rT x.d, [61], rT x.a, bT.getD x.op.toNat [], rT x.b] : List (List Nat)).map sB)) rfl (fun k => leakS [rT x.d, [61], rT x.a, bT.getD x.op.toNat [], rT x.b] rfl) (fun _ => rfl) rfl fun k => ?_
  exact ToX.r_ hX rfl fun h f => ⟨_, f.chg.picks (.cons .h .nil), k, by rw [e]; rfl, by rw [e]; rfl⟩
 ·have e : partsT x = [rT x.d, [61], spT.getD x.op.toNat []] := by unfold partsT; simp only [*, if_true, if_false]; try rfl
  refine ToX.leak 2 (fun k => ownS 9 1 (.slice k 0 3 (some 3)) (([rT x.d, [61], spT.getD x.op.toNat []] : List (List Nat)).map sB)) rfl (fun k => leakS [rT x.d, [61], spT.getD x.op.toNat []] rfl) (fun _ => rfl) rfl fun k => ?_
  exact ToX.r_ hX rfl fun h f => ⟨_, f.chg.picks (.cons .h .nil), k, by rw [e]; rfl, by rw [e]; rfl⟩
 ·have e : partsT x = [rT x.d, [61], [112, 97, 114, 97, 109], decI x.imm] := by unfold partsT; simp only [*, if_true, if_false]; try rfl
  refine ToX.leak 1 (fun k => ownS 9 1 (.slice k 0 4 (some 4)) (([rT x.d, [61], [112, 97, 114, 97, 109], decI x.imm] : List (List Nat)).map sB)) rfl (fun k => leakS [rT x.d, [61], [112, 97, 114, 97, 109], decI x.imm] rfl) (fun _ => rfl) rfl fun k => ?_
  exact ToX.r_ hX rfl fun h f => ⟨_, f.chg.picks (.cons .h .nil), k, by rw [e]; rfl, by rw [e]; rfl⟩
 ·have e : partsT x = [rT x.d, [61], [97, 114, 114, 97, 121], decI x.imm, rT x.a] := by unfold partsT; simp only [*, if_true, if_false]; try rfl
  refine ToX.leak 1 (fun k => ownS 9 1 (.slice k 0 5 (some 5)) (([rT x.d, [61], [97, 114, 114, 97, 121], decI x.imm, rT x.a] : List (List Nat)).map sB)) rfl (fun k => leakS [rT x.d, [61], [97, 114, 114, 97, 121], decI x.imm, rT x.a] rfl) (fun _ => rfl) rfl fun k => ?_
  exact ToX.r_ hX rfl fun h f => ⟨_, f.chg.picks (.cons .h .nil), k, by rw [e]; rfl, by rw [e]; rfl⟩
 ·have e : partsT x = [[97, 114, 114, 97, 121], decI x.imm, rT x.a, [61], rT x.b] := by unfold partsT; simp only [*, if_true, if_false]; try rfl
  refine ToX.leak 1 (fun k => ownS 9 1 (.slice k 0 5 (some 5)) (([[97, 114, 114, 97, 121], decI x.imm, rT x.a, [61], rT x.b] : List (List Nat)).map sB)) rfl (fun k => leakS [[97, 114, 114, 97, 121], decI x.imm, rT x.a, [61], rT x.b] rfl) (fun _ => rfl) rfl fun k => ?_
  exact ToX.r_ hX rfl fun h f => ⟨_, f.chg.picks (.cons .h .nil), k, by rw [e]; rfl, by rw [e]; rfl⟩
 ·have e : partsT x = [[97, 116, 111, 109, 105, 99], fT x.op, [97, 114, 114, 97, 121], decI x.imm, rT x.a, rT x.b] := by unfold partsT; simp only [*, if_true, if_false]; try rfl
  refine ToX.leak 1 (fun k => ownS 9 1 (.slice k 0 6 (some 6)) (([[97, 116, 111, 109, 105, 99], fT x.op, [97, 114, 114, 97, 121], decI x.imm, rT x.a, rT x.b] : List (List Nat)).map sB)) rfl (fun k => leakS [[97, 116, 111, 109, 105, 99], fT x.op, [97, 114, 114, 97, 121], decI x.imm, rT x.a, rT x.b] rfl) (fun _ => rfl) rfl fun k => ?_
  exact ToX.r_ hX rfl fun h f => ⟨_, f.chg.picks (.cons .h .nil), k, by rw [e]; rfl, by rw [e]; rfl⟩
 ·have e : partsT x = [[98, 97, 114, 114, 105, 101, 114], decI x.imm] := by unfold partsT; simp only [*, if_true, if_false]; try rfl
  refine ToX.leak 1 (fun k => ownS 9 1 (.slice k 0 2 (some 2)) (([[98, 97, 114, 114, 105, 101, 114], decI x.imm] : List (List Nat)).map sB)) rfl (fun k => leakS [[98, 97, 114, 114, 105, 101, 114], decI x.imm] rfl) (fun _ => rfl) rfl fun k => ?_
  exact ToX.r_ hX rfl fun h f => ⟨_, f.chg.picks (.cons .h .nil), k, by rw [e]; rfl, by rw [e]; rfl⟩
 ·have e : partsT x = [rT x.d, [61], [99, 111, 108, 108, 101, 99, 116], fT x.op, rT x.a, decI x.imm] := by unfold partsT; simp only [*, if_true, if_false]; try rfl
  refine ToX.leak 1 (fun k => ownS 9 1 (.slice k 0 6 (some 6)) (([rT x.d, [61], [99, 111, 108, 108, 101, 99, 116], fT x.op, rT x.a, decI x.imm] : List (List Nat)).map sB)) rfl (fun k => leakS [rT x.d, [61], [99, 111, 108, 108, 101, 99, 116], fT x.op, rT x.a, decI x.imm] rfl) (fun _ => rfl) rfl fun k => ?_
  exact ToX.r_ hX rfl fun h f => ⟨_, f.chg.picks (.cons .h .nil), k, by rw [e]; rfl, by rw [e]; rfl⟩
 ·have e : partsT x = [rT x.d, [61], [108, 111, 99, 97, 108], decI x.imm] := by unfold partsT; simp only [*, if_true, if_false]; try rfl
  refine ToX.leak 1 (fun k => ownS 9 1 (.slice k 0 4 (some 4)) (([rT x.d, [61], [108, 111, 99, 97, 108], decI x.imm] : List (List Nat)).map sB)) rfl (fun k => leakS [rT x.d, [61], [108, 111, 99, 97, 108], decI x.imm] rfl) (fun _ => rfl) rfl fun k => ?_
  exact ToX.r_ hX rfl fun h f => ⟨_, f.chg.picks (.cons .h .nil), k, by rw [e]; rfl, by rw [e]; rfl⟩
 ·have e : partsT x = [[108, 111, 99, 97, 108], decI x.imm, [61], rT x.a] := by unfold partsT; simp only [*, if_true, if_false]; try rfl
  refine ToX.leak 1 (fun k => ownS 9 1 (.slice k 0 4 (some 4)) (([[108, 111, 99, 97, 108], decI x.imm, [61], rT x.a] : List (List Nat)).map sB)) rfl (fun k => leakS [[108, 111, 99, 97, 108], decI x.imm, [61], rT x.a] rfl) (fun _ => rfl) rfl fun k => ?_
  exact ToX.r_ hX rfl fun h f => ⟨_, f.chg.picks (.cons .h .nil), k, by rw [e]; rfl, by rw [e]; rfl⟩
 ·have e : partsT x = [[106, 117, 109, 112], decI x.to] := by unfold partsT; simp only [*, if_true, if_false]; try rfl
  refine ToX.leak 1 (fun k => ownS 9 1 (.slice k 0 2 (some 2)) (([[106, 117, 109, 112], decI x.to] : List (List Nat)).map sB)) rfl (fun k => leakS [[106, 117, 109, 112], decI x.to] rfl) (fun _ => rfl) rfl fun k => ?_
  exact ToX.r_ hX rfl fun h f => ⟨_, f.chg.picks (.cons .h .nil), k, by rw [e]; rfl, by rw [e]; rfl⟩
 ·have e : partsT x = [[98, 114, 97, 110, 99, 104], rT x.a, decI x.to, [106, 111, 105, 110], decI x.join] := by unfold partsT; simp only [*, if_true, if_false]; try rfl
  refine ToX.leak 1 (fun k => ownS 9 1 (.slice k 0 5 (some 5)) (([[98, 114, 97, 110, 99, 104], rT x.a, decI x.to, [106, 111, 105, 110], decI x.join] : List (List Nat)).map sB)) rfl (fun k => leakS [[98, 114, 97, 110, 99, 104], rT x.a, decI x.to, [106, 111, 105, 110], decI x.join] rfl) (fun _ => rfl) rfl fun k => ?_
  exact ToX.r_ hX rfl fun h f => ⟨_, f.chg.picks (.cons .h .nil), k, by rw [e]; rfl, by rw [e]; rfl⟩
 ·have e : partsT x = [[101, 120, 105, 116]] := by unfold partsT; simp only [*, if_true, if_false]; try rfl
  refine ToX.leak 1 (fun k => ownS 9 1 (.slice k 0 1 (some 1)) (([[101, 120, 105, 116]] : List (List Nat)).map sB)) rfl (fun k => leakS [[101, 120, 105, 116]] rfl) (fun _ => rfl) rfl fun k => ?_
  exact ToX.r_ hX rfl fun h f => ⟨_, f.chg.picks (.cons .h .nil), k, by rw [e]; rfl, by rw [e]; rfl⟩
end Ev
end Go.HL
