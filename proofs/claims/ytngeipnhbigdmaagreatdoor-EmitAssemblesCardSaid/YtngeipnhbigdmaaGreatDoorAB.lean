/- The walk: the program reads a text. No statement of the seat stands here. -/
import Derived.Test.YtngeipnhbigdmaaGreatDoorAA
import Derived.Test.YtngeipnhbigdmaaGreatDoorXC
import Derived.Test.YtngeipnhbigdmaaGreatDoorVD
set_option linter.unusedVariables false
set_option linter.unusedSimpArgs false
namespace Go.HL
open Go Go.Proofs
namespace Ev
open Em
set_option maxRecDepth 10000
variable {K : ai} {base : List (Nat × aE)}
theorem JM : ar P 160 := ⟨_, _, Tryz.func160, rfl, by kernel_rfl, rfl⟩
theorem Mg : ar P 254 := ⟨_, _, Tryz.func254, rfl, by kernel_rfl, rfl⟩
theorem Et (hR : KR base K) (b : List Nat) (hb : cV b) (hl : b.length ≤ 1000000) (h : Heap) (w : Wf h) (hB : (lies base).holds h) : Sp P K 90 [aR b, .int .i64 10, .int .i64 64] h (dE (.tuple [.int .i64 (eD b), .bad]) h) := Sp.known (hR.parse h b hB hb hl) ⟨rfl, fL.refl w⟩
theorem u7 (hR : KR base K) (b : List Nat) (c : Nat) (hb : cV b) (hc : c < 256) (hl : b.length ≤ 1000000) (h : Heap) (w : Wf h) (hB : (lies base).holds h) : Sp P K 48 [aR b, .str 1 c] h (Tr (KY (cutAt c b)) h) := by
 refine Sp.known (hR.split h b c hB hb hc hl) ⟨_, ?_, h.next, rfl, rfl⟩
 have hl : ((cutAt c b).map sB).flatten = (cutAt c b).map aR := by
  generalize cutAt c b = l
  induction l with
  | nil => rfl
  | cons x l ih => rw [List.map_cons, List.flatten_cons, ih]; rfl
 have mk := kZ w (.cells ((cutAt c b).map aR) 9 false true)
 exact yR _ mk ((ew (e := 9) (s := false) (cutAt c b) hl).holds _ mk.get) (ew (e := 9) (s := false) (cutAt c b) hl).dG
theorem bP (hK : KN base K) (hR : KR base K) (b : List Nat) (hb : cV b) (hl : b.length ≤ 1000000) (h : Heap) (w : Wf h) (hB : (lies base).holds h) : Sp P K 49 [aR b] h (dE (.int .i64 (eD b)) h) := by
 refine Sp.start (m := 13) (n := 11) w (hK.none 49 rfl rfl _ _) Tryz.func49 rfl rfl (by kernel_rfl) rfl rfl ?_
 repeat' (first | refine aw.a_ ?_ | refine ag.s_ ?_ | (refine X 0 ?_; (refine J Z ?_) <;> (refine Y Z ?_)) | (refine X 1 ?_; (refine J Z ?_) <;> (refine .cons (ao Z Z Z Z Nz Z Z (fun h f => Et hR b hb hl h f.wf (f.ro (.of hB))) ?_)) <;> (iterate 5 refine J Z ?_) <;> (refine Y Z ?_)) | (refine X 2 ?_; (iterate 2 refine J Z ?_) <;> (refine Y Z ?_)) | refine ag.r_ ?_ | refine aw.r_ hX rfl ?_)
 exact fun h f => ⟨rfl, f.aS⟩
theorem D2 {b : List Nat} (h : 1 ≤ b.length) : ((b.take 1).length = 1 ∧ aO (b.take 1) 0 = 114) ↔ jv b = true := by
 cases b with
 | nil => simp at h
 | cons x b => simp [jv, aO]
theorem wZ (hK : KN base K) (b : List Nat) (hb : cV b) (hl : b.length ≤ 1000000) (h : Heap) (w : Wf h) : Sp P K 160 [aR b, .str 1 114] h (dE (.bool (jv b)) h) := by
 refine Sp.start (m := 19) (n := 18) w (hK.none 160 rfl rfl _ _) Tryz.func160 rfl rfl (by kernel_rfl) rfl rfl ?_
 repeat' (first | refine aw.a_ ?_ | refine ag.s_ ?_ | (refine X 0 ?_; (refine J Z ?_) <;> (refine Y Z ?_)) | (refine X 1 ?_; (iterate 4 refine J Z ?_) <;> ((refine .cons (qc Z ?_ ?_)) <;> intro _) <;> (iterate 4 refine J Z ?_) <;> (first | (refine J Z ?_) | (refine .cons (Ei (bs := b) (lo := 0) (hi := 1) (r := b.take 1) hX Z Z Z Z Z (by omega) (by omega) hb Z Z Z ?_))) <;> (refine J Z ?_) <;> (first | (refine J Z ?_) | (refine .cons (Lu (u' := 1) (c' := 114) Z Z Z Z Z ?_ ?_)) <;> (intro _)) <;> (iterate 2 refine J Z ?_) <;> (refine Y Z ?_)) | refine ag.r_ ?_ | refine aw.r_ hX rfl ?_)
 ·rename_i h1 h2
  exact fun h f => ⟨by rw [(D2 (by omega)).1 h2]; rfl, f.aS⟩
 ·rename_i h1 h2
  exact fun h f => ⟨by rw [Bool.eq_false_iff.2 fun e => h2 ((D2 (by omega)).2 e)]; rfl, f.aS⟩
 ·rename_i h1
  have e : b = [] := List.eq_nil_of_length_eq_zero (by omega)
  subst e
  exact fun h f => ⟨rfl, f.aS⟩
theorem oK (hK : KN base K) (hR : KR base K) (b : List Nat) (hb : cV b) (hl : b.length ≤ 1000000) (h : Heap) (w : Wf h) : Sp P K 91 [aR b, .str 1 114] h (dE (.bool (jv b)) h) := by
 refine Sp.start (m := 19) (n := 8) w (hR.free 91 rfl _ _) Tryz.func91 rfl rfl (by kernel_rfl) rfl rfl ?_
 repeat' (first | refine aw.a_ ?_ | refine ag.s_ ?_ | (refine X 0 ?_; (refine J Z ?_) <;> (refine Y Z ?_)) | (refine X 1 ?_; (iterate 2 refine J Z ?_) <;> (refine .cons (ao Z Z Z Z JM Z Z (fun h f => wZ hK b hb hl h f.wf) ?_)) <;> (refine J Z ?_) <;> (refine Y Z ?_)) | refine ag.r_ ?_ | refine aw.r_ hX rfl ?_)
 exact fun h f => ⟨rfl, f.aS⟩
theorem E7 (hK : KN base K) (b : List Nat) (hb : cV b) (hl : b.length ≤ 1000000) (h : Heap) (w : Wf h) : Sp P K 254 [aR b, .str 1 114] h (dE (aR (if jv b = true then b.tail else b)) h) := by
 have hp : jv b = true → 1 ≤ b.length ∧ b.drop 1 = b.tail := by
  cases b with
  | nil => intro e; simp [jv] at e
  | cons x b => intro _; exact ⟨by simp, rfl⟩
 refine Sp.start (m := 147) (n := 13) w (hK.none 254 rfl rfl _ _) Tryz.func254 rfl rfl (by kernel_rfl) rfl rfl ?_
 repeat' (first | refine aw.a_ ?_ | refine ag.s_ ?_ | (refine X 0 ?_; (refine J Z ?_) <;> (refine Y Z ?_)) | (refine X 1 ?_; (iterate 2 refine J Z ?_) <;> ((refine .cons (aV Z Z Z Z JM Z Z (fun h f => wZ hK b hb hl h f.wf) ?_ ?_)) <;> intro _) <;> (refine Y Z ?_)) | (refine X 2 ?_; (iterate 3 refine J Z ?_) <;> (refine .cons (Ei (bs := b) (lo := 1) (hi := b.length) (r := b.tail) hX Z Z Z Z Z (hp (by assumption)).1 (by omega) hb (by rw [List.take_length]; exact (hp (by assumption)).2) Z Z ?_)) <;> (refine J Z ?_) <;> (refine Y Z ?_)) | (refine X 3 ?_; (iterate 2 refine J Z ?_) <;> (refine Y Z ?_)) | refine ag.r_ ?_ | refine aw.d_ ?_ | refine ag.t_ rfl ?_ | refine ag.f_ rfl ?_ | refine ag.k_ ?_ | refine aw.r_ hX rfl ?_)
 ·rename_i e
  exact fun h f => ⟨by rw [e, if_pos rfl]; rfl, f.aS⟩
 ·rename_i e
  exact fun h f => ⟨by rw [e, if_neg (by decide)]; rfl, f.aS⟩
theorem G4 (hK : KN base K) (hR : KR base K) (b : List Nat) (hb : cV b) (hl : b.length ≤ 1000000) (h : Heap) (w : Wf h) : Sp P K 162 [aR b, .str 1 114] h (dE (aR (if jv b = true then b.tail else b)) h) := by
 refine Sp.start (m := 19) (n := 8) w (hR.free 162 rfl _ _) Tryz.func162 rfl rfl (by kernel_rfl) rfl rfl ?_
 repeat' (first | refine aw.a_ ?_ | refine ag.s_ ?_ | (refine X 0 ?_; (refine J Z ?_) <;> (refine Y Z ?_)) | (refine X 1 ?_; (iterate 2 refine J Z ?_) <;> (refine .cons (ao Z Z Z Z Mg Z Z (fun h f => E7 hK b hb hl h f.wf) ?_)) <;> (refine J Z ?_) <;> (refine Y Z ?_)) | refine ag.r_ ?_ | refine aw.r_ hX rfl ?_)
 exact fun h f => ⟨rfl, f.aS⟩
theorem bF (hK : KN base K) (hR : KR base K) (b : List Nat) (hb : cV b) (hl : b.length ≤ 1000000) (h : Heap) (w : Wf h) (hB : (lies base).holds h) : Sp P K 93 [aR b] h (dE (.int .i64 (mE b)) h) := by
 have hb2 : cV (if jv b = true then b.tail else b) := by split; exact fun x hx => hb x (List.mem_of_mem_tail hx); exact hb
 have hl2 : (if jv b = true then b.tail else b).length ≤ 1000000 := by split; (rw [List.length_tail]; omega); exact hl
 refine Sp.start (m := 5) (n := 6) w (hK.none 93 rfl rfl _ _) Tryz.func93 rfl rfl (by kernel_rfl) rfl rfl ?_
 repeat' (first | refine aw.a_ ?_ | refine ag.s_ ?_ | (refine X 0 ?_; (refine J Z ?_) <;> (refine Y Z ?_)) | (refine X 1 ?_; (refine J Z ?_) <;> (refine .cons (ao Z Z Z Z Mn Z Z (fun h f => G4 hK hR b hb hl h f.wf) ?_)) <;> (refine .cons (ao Z Z Z Z px Z Z (fun h f => bP hK hR (if jv b = true then b.tail else b) hb2 hl2 h f.wf (f.ro (.of hB))) ?_)) <;> (refine J Z ?_) <;> (refine Y Z ?_)) | refine ag.r_ ?_ | refine aw.r_ hX rfl ?_)
 exact fun h f => ⟨rfl, f.aS⟩
theorem Ax {l : List (List Nat)} {s : List Nat} {a : Nat} (ha : a < l.length) (hn : ∀ j, j < a → l.getD j [] ≠ s) (he : l.getD a [] = s) : dw l s = (a : Int) := by
 have hm : l.getD a [] = l[a] := by simp [List.getD, List.getElem?_eq_getElem ha]
 have he' : l[a] = s := by rw [← hm, he]
 have hmem : s ∈ l := he' ▸ List.getElem_mem ha
 unfold dw
 rw [if_pos hmem]
 have h1 : l.idxOf s < l.length := List.idxOf_lt_length_of_mem hmem
 have h2 : l[l.idxOf s] = s := List.getElem_idxOf h1
 have h3 : ¬ l.idxOf s < a := fun hh => hn _ hh (by simp [List.getD, List.getElem?_eq_getElem h1, h2])
 have h4 : l.idxOf s ≤ a := by
  rcases Nat.lt_or_ge a (l.idxOf s) with hh | hh
  ·have h5 := List.not_of_lt_findIdx (p := (· == s)) (xs := l) hh
   simp [he'] at h5
  ·exact hh
 have : l.idxOf s = a := by omega
 rw [this]
theorem Aw {l : List (List Nat)} {s : List Nat} (hn : ∀ j, j < l.length → l.getD j [] ≠ s) : dw l s = -1 := by
 unfold dw
 rw [if_neg]
 intro hm
 obtain ⟨j, hj, e⟩ := List.getElem_of_mem hm
 exact hn j hj (by simp [List.getD, List.getElem?_eq_getElem hj, e])
theorem qB (hK : KN base K) (s : ad) (l : List (List Nat)) (t : List Nat) (hl : l.length ≤ 1000000) (hb : ∀ x ∈ l, cV x) (ht : cV t) (h : Heap) (w : Wf h) (hs : (rd s 1 (l.map sB)).holds h) : Sp P K 161 [s, aR t] h (dE (.int .i64 (dw l t)) h) := by
 have hln : dA s = some l.length := by have := hs.slice.len; simpa using this
 refine Sp.start (m := 67571) (n := 19) w (hK.none 161 rfl rfl _ _) Tryz.func161 rfl rfl (by kernel_rfl) rfl rfl ?_
 repeat' (first | refine aw.a_ ?_ | refine ag.s_ ?_ | (refine X 0 ?_; (refine J Z ?_) <;> (refine Y Z ?_)) | (refine X 1 ?_; (refine J Z ?_) <;> (refine .cons (ql hX Z Z Z Z Z Z (by assumption) Z Z ?_)) <;> (refine J Z ?_) <;> (refine Y Z ?_)) | refine ag.b_ ?_)
 refine ag.loop (fun a => [(9, .ext (i64 a)), (8, .ext (i64 l.length)), (7, .ext s), (1, .ext (aR t))]) (fun _ => []) (fun _ => []) (fun a => a ≤ l.length ∧ ∀ j, j < a → l.getD j [] ≠ t) (fun a => l.length - a) 0 ⟨⟨rfl, rfl, rfl, rfl, trivial⟩, ⟨_, rfl⟩, ⟨_, .nil⟩⟩ ⟨Nat.zero_le _, fun j hj => absurd hj (by omega)⟩ (fun _ => rfl) (fun _ => rfl) (fun _ => rfl) ?_
 rintro a ⟨ha, hne⟩ next
 repeat' (first | refine aw.a_ ?_ | refine ag.s_ ?_ | (refine X 2 ?_; ((refine .cons (qc Z ?_ ?_)) <;> intro _) <;> (refine Y Z ?_)) | (refine X 7 ?_; (refine J Z ?_) <;> (refine Y Z ?_)) | refine ag.r_ ?_ | refine ag.t_ rfl ?_ | refine ag.f_ rfl ?_ | refine ag.k_ ?_ | refine ag.b_ ?_ | refine ag.e_ ?_ | refine aw.e_ ?_ | refine aw.c_ ?_ | refine aw.r_ hX rfl ?_)
 ·have hal : a < l.length := by omega
  repeat' (first | refine aw.a_ ?_ | refine ag.s_ ?_ | (refine X 3 ?_; (refine J Z ?_) <;> (refine .cons (bh hX Z Z Z Z Z (.of hs) (aN [] hal) Z Z Z ?_)) <;> (iterate 3 refine J Z ?_) <;> (refine Y Z ?_)) | (refine X 4 ?_; (iterate 2 refine J Z ?_) <;> ((refine .cons (Lu (u' := t.length) (c' := aO t 0) Z Z Z Z Z ?_ ?_)) <;> (intro _)) <;> (refine Y Z ?_)) | (refine X 5 ?_; (iterate 2 refine J Z ?_) <;> (refine Y Z ?_)) | (refine X 6 ?_; (refine .cons (qa Z Z Z Z Z (wI (by first | omega | (simp only [Int.ofNat_eq_natCast]; omega)) (by first | omega | (simp only [Int.ofNat_eq_natCast]; omega))) Z Z ?_)) <;> (refine J Z ?_) <;> (refine Y Z ?_)) | refine ag.r_ ?_ | refine aw.d_ ?_ | refine aw.f_ ?_ | refine ag.t_ rfl ?_ | refine ag.f_ rfl ?_ | refine ag.k_ ?_ | refine aw.b_ ?_ | refine aw.r_ hX rfl ?_)
  ·rename_i e
   exact fun h f => ⟨by rw [Ax hal hne (by injection (show aR (l.getD a []) = aR t by simp only [aR, e.1, e.2]) with e1 e2; exact kR (hb _ (aY [] hal)) ht (by simp only [aR, e1, e2]))]; rfl, f.aS⟩
  ·rename_i e
   refine next (a + 1) _ _ _ (by omega) ⟨⟨rfl, rfl, rfl, rfl, trivial⟩, ⟨_, rfl⟩, ⟨_, .nil⟩⟩ ⟨by omega, fun j hj => ?_⟩
   by_cases hja : j = a
   ·rw [hja]; exact fun hn => e (by rw [hn]; exact ⟨rfl, rfl⟩)
   ·exact hne j (by omega)
 ·have hal : a = l.length := by omega
  subst hal
  repeat' (first | fail)
  exact fun h f => ⟨by rw [Aw hne]; rfl, f.aS⟩
theorem IW : ∀ x ∈ As, ∀ b ∈ x, b < 256 := by decide
theorem Ar (hK : KN base K) (t : List Nat) (ht : cV t) (h : Heap) (w : Wf h) : Sp P K 94 [aR t] h (dE (.int .i64 (vn t)) h) := by
 have hn : ∀ {k : Nat}, dw As t = k → k < 6 := by
  intro k e
  unfold dw at e
  split at e
  ·rename_i hm
   have : As.idxOf t < As.length := List.idxOf_lt_length_of_mem hm
   have h6 : As.length = 6 := rfl
   omega
  ·omega
 have hb : ∀ x ∈ As, cV x := IW
 refine Sp.start (m := 16445) (n := 19) w (hK.none 94 rfl rfl _ _) Tryz.func94 rfl rfl (by kernel_rfl) rfl rfl ?_
 repeat' (first | refine aw.a_ ?_ | refine ag.s_ ?_ | (refine X 0 ?_; (refine J Z ?_) <;> (refine Y Z ?_)) | (refine X 1 ?_; ((refine .cons (gq Z Z Z Z JL Z Z (fun h f => o6 hK h f.wf) ?_)) <;> (rintro v C' ⟨k, k2, rfl, rfl⟩)) <;> (iterate 5 refine J Z ?_) <;> (refine Y Z ?_)) | (refine X 2 ?_; (iterate 2 refine J Z ?_) <;> (refine .cons (ao Z Z Z Z DJ Z Z (fun h f => qB hK (.slice k 0 6 (some 6)) As t (by decide) hb ht h f.wf (aH.rd (f.pick (.t .h)))) ?_)) <;> (refine J Z ?_) <;> (refine Y Z ?_)) | (refine X 3 ?_; (refine J Z ?_) <;> ((refine .cons (qc Z ?_ ?_)) <;> intro _) <;> (refine Y Z ?_)) | (refine X 5 ?_; (refine J Z ?_) <;> (refine Y Z ?_)) | refine ag.r_ ?_ | refine ag.t_ rfl ?_ | refine ag.f_ rfl ?_ | refine ag.k_ ?_ | refine aw.r_ hX rfl ?_)
 ·rename_i e
  obtain ⟨a, ha⟩ := Int.eq_ofNat_of_zero_le e
  have ha6 := hn ha
  have hr : (dw As t).toNat = a := by omega
  have hf : vn t = ((Ic.getD a 0 : Nat) : Int) := by rw [vn, if_pos e, hr]
  repeat' (first | refine aw.a_ ?_ | (refine X 4 ?_; (iterate 2 refine J Z ?_) <;> (refine .cons (Gn (r := nB (Ic.getD (dw As t).toNat 0)) hX Z Z Z Z Z (by omega) .h (aN 0 (by show _ < 6; omega)) Z Z Z ?_)) <;> (iterate 2 refine J Z ?_) <;> (refine Y Z ?_)) | refine ag.r_ ?_ | refine aw.d_ ?_ | refine aw.r_ hX rfl ?_)
  exact fun h f => ⟨by rw [hf, hr]; rfl, f.aS.bx .nil⟩
 ·rename_i e
  exact fun h f => ⟨by rw [vn, if_neg e]; rfl, f.aS.bx .nil⟩
end Ev
end Go.HL
namespace Go.HL
open Go Go.Proofs
namespace Ev
open Em
set_option maxRecDepth 10000
set_option maxHeartbeats 8000000
variable {K : ai} {base : List (Nat × aE)}
section
variable {ax : iF} {zl : List (Nat × List ad)} {E : eT} {ops : Array Oper} {o : Oper} {L : SL} {B : List cj} {G : List Part} {m n : Nat} {R : SL → List cj → List Part → Prop} {P : Program}
theorem fk {t p : Nat} {x y : Operand} {a b : List Nat} (ha : cV a) (hb : cV b) (ho : o.op = .binOp .eql t x y p) (hx : cM P L x = some (aR a)) (hy : cM P L y = some (aR b)) (hw : aU ops o L = some true) (hf : fits o.dst n = true) (h1 : a = b → R (bf o.dst (.ext (.bool true)) L) B G) (h0 : a ≠ b → R (bf o.dst (.ext (.bool false)) L) B G) : ca P K E ops o L B G m n R :=
 Lu ho hx hy hw hf (fun e => h1 (kR ha hb (by simp only [aR, e.1, e.2]))) fun e => h0 fun e' => e (by rw [e']; exact ⟨rfl, rfl⟩)
end
theorem tP : ∀ b ∈ tQ, b < 256 := by decide
theorem lz : ∀ b ∈ eZ, b < 256 := by decide
theorem lA : ∀ b ∈ oS, b < 256 := by decide
theorem B4 (hK : KN base K) (a : Nat) (ha : a < 20) (h : Heap) (w : Wf h) : Sp P K 142 [i64 a] h (dE (aR (bT.getD a [])) h) := sU hK (a : Int) (by omega) (by omega) h w
theorem I3 : ∀ x ∈ bT, ∀ b ∈ x, b < 256 := by decide
theorem y6 : ∀ x ∈ ov, ∀ b ∈ x, b < 256 := by decide
theorem G3 : ∀ x ∈ uT, ∀ b ∈ x, b < 256 := by decide
def Fair (l : List (List Nat)) : Prop := l.length ≤ 1000000 ∧ ∀ x ∈ l, cV x ∧ x.length ≤ 1000000
theorem Fair.at {l : List (List Nat)} (f : Fair l) (i : Nat) : cV (gW l i) ∧ (gW l i).length ≤ 1000000 := by
 rcases Nat.lt_or_ge i l.length with h | h
 ·exact f.2 _ (aY [] h)
 ·have : gW l i = [] := by simp [gW, List.getD, List.getElem?_eq_none h]
  rw [this]; exact ⟨fun x hx => (nomatch hx), Nat.zero_le _⟩
theorem mask92 : Nat.lor (jm Tryz.f92) (Nat.sub (Nat.pow 2 2) 1) = 1517496042198921570502388987760221864113213683 := by kernel_rfl
theorem yW (hK : KN base K) (hL : KL base K) (hR : KR base K) (d : Int) (v : ad) (l : List (List Nat)) (hf : Fair l) (h : Heap) (w : Wf h) (hB : (lies base).holds h) (hs : (rd v 1 (l.map sB)).holds h) : Sp P K 92 [.int .i64 d, v] h (dE (.agg (ez (jL d l))) h) := by
 have hln : dA v = some l.length := by have := hs.slice.len; simpa using this
 have b0 := hf.at 0
 have b1 := hf.at 1
 have b2 := hf.at 2
 have b3 := hf.at 3
 refine Sp.start (m := 1517496042198921570502388987760221864113213683) (n := 171) w (hK.none 92 rfl rfl _ _) Tryz.func92 rfl rfl mask92 rfl rfl ?_
 repeat' (first | refine aw.a_ ?_ | refine ag.s_ ?_ | (refine X 0 ?_; (refine J Z ?_) <;> (refine Y Z ?_)) | (refine X 1 ?_; (iterate 4 refine J Z ?_) <;> (refine Y Z ?_)) | (refine X 2 ?_; (refine J Z ?_) <;> (refine .cons (ql hX Z Z Z Z Z Z (by assumption) Z Z ?_)) <;> (refine J Z ?_) <;> (refine Y Z ?_)) | (refine ag.draw (id := 3) ax [0, 1, 2, 4, 5, 6, 3, 7, 8, 9, 10] #[0, 1, 3, 7, 7, 23, 55, 127, 255, 511, 1023] (by kernel_rfl) (by kernel_rfl) (by kernel_rfl) ?_; (refine .cq hX rfl rfl rfl ?_) <;> ((refine .cons rfl (ji 1 rfl rfl ?_ ?_)) <;> ((intro _; first | (exfalso; omega) | skip)) <;> refine ⟨_, .comp rfl, ?_⟩) <;> (iterate 2 refine .cq hX rfl rfl rfl ?_) <;> (first | (refine .cons rfl (q hX rfl ?_)) <;> refine ⟨_, .comp rfl, ?_⟩ | (refine .cons rfl (bh (j := 0) hX rfl rfl rfl rfl rfl (.of hs) (aN [] (by omega)) rfl rfl rfl ?_)) <;> refine ⟨_, .comp rfl, ?_⟩) <;> ((refine .cons rfl (q hX rfl ?_)) <;> (first | refine ⟨_, .iI hX.ax rfl rfl rfl rfl rfl rfl rfl rfl (suB rfl) rfl rfl rfl, ?_⟩ | refine ⟨_, .comp rfl, ?_⟩)) <;> (first | (refine .cons rfl (q hX rfl ?_)) <;> refine ⟨_, .comp rfl, ?_⟩ | (refine .cons rfl (gq rfl rfl rfl rfl HV rfl rfl (fun h f => lE hK h f.wf) ?_)) <;> (rintro v C' ⟨k, rfl, rfl⟩) <;> refine ⟨_, .comp rfl, ?_⟩) <;> (first | (refine .cons rfl (q hX rfl ?_)) <;> refine ⟨_, .comp rfl, ?_⟩ | (refine .cons rfl (ao rfl rfl rfl rfl DJ rfl rfl (fun h f => qB hK (.slice k 0 4 (some 4)) ov (gW l 0) (by decide) y6 b0.1 h f.wf (aH.rd (f.pick .h))) ?_)) <;> refine ⟨_, .comp rfl, ?_⟩) <;> (first | (refine .cons rfl (q hX rfl ?_)) <;> refine ⟨_, .comp rfl, ?_⟩ | (refine .cons rfl (qc rfl ?_ ?_)) <;> intro _ <;> refine ⟨_, .comp rfl, ?_⟩) <;> (iterate 2 refine .cq hX rfl rfl rfl ?_) <;> (refine .nil ⟨?_, .intro rfl ?_⟩ <;> (repeat' (first | exact trivial | exact .inl rfl | refine ⟨?_, ?_⟩)))) | (refine ag.draw (id := 4) ax [1, 2, 3, 5, 0, 4, 6, 7, 8] #[0, 0, 2, 6, 15, 0, 63, 127, 255] (by kernel_rfl) (by kernel_rfl) (by kernel_rfl) ?_; (refine .cq hX rfl rfl rfl ?_) <;> ((refine .cons rfl (bh (j := 0) hX rfl rfl rfl rfl rfl (.of hs) (aN [] (by omega)) rfl rfl rfl ?_)) <;> refine ⟨_, .comp rfl, ?_⟩) <;> ((refine .cons rfl (q hX rfl ?_)) <;> refine ⟨_, .iI hX.ax rfl rfl rfl rfl rfl rfl rfl rfl (suB rfl) rfl rfl rfl, ?_⟩) <;> (refine .cq hX rfl rfl rfl ?_) <;> ((refine .cons rfl (gq rfl rfl rfl rfl HV rfl rfl (fun h f => lE hK h f.wf) ?_)) <;> (rintro v C' ⟨k, rfl, rfl⟩) <;> refine ⟨_, .comp rfl, ?_⟩) <;> ((refine .cons rfl (ao rfl rfl rfl rfl DJ rfl rfl (fun h f => qB hK (.slice k 0 4 (some 4)) ov (gW l 0) (by decide) y6 b0.1 h f.wf (aH.rd (f.pick .h))) ?_)) <;> refine ⟨_, .comp rfl, ?_⟩) <;> (iterate 3 refine .cq hX rfl rfl rfl ?_) <;> (refine .nil ⟨?_, .intro rfl ?_⟩ <;> (repeat' (first | exact trivial | exact .inl rfl | refine ⟨?_, ?_⟩)))) | (refine X 5 ?_; (refine J Z ?_) <;> ((refine .cons (ji 1 Z Z ?_ ?_)) <;> (intro _; first | (exfalso; omega) | skip)) <;> (iterate 2 refine J Z ?_) <;> (first | (refine J Z ?_) | (refine .cons (bh (j := 0) hX Z Z Z Z Z (.of hs) (aN [] (by omega)) Z Z Z ?_))) <;> (refine J Z ?_) <;> (first | (refine J Z ?_) | (refine .cons (aV Z Z Z Z M9 Z Z (fun h f => oK hK hR (gW l 0) b0.1 b0.2 h f.wf) ?_ ?_)) <;> intro _) <;> (iterate 2 refine J Z ?_) <;> (refine Y Z ?_)) | (refine X 6 ?_; (refine J Z ?_) <;> (refine .cons (bh (j := 0) hX Z Z Z Z Z (.of hs) (aN [] (by omega)) Z Z Z ?_)) <;> (refine J Z ?_) <;> (refine .cons (ao Z Z Z Z rX Z Z (fun h f => bF hK hR (gW l 0) b0.1 b0.2 h f.wf (f.ro (.of hB))) ?_)) <;> (iterate 4 refine J Z ?_) <;> (refine Y Z ?_)) | (refine X 7 ?_; (refine J Z ?_) <;> ((refine .cons (ji 1 Z Z ?_ ?_)) <;> (intro _; first | (exfalso; omega) | skip)) <;> (refine J Z ?_) <;> (refine Y Z ?_)) | (refine X 8 ?_; (refine J Z ?_) <;> (refine .cons (bh (j := 0) hX Z Z Z Z Z (.of hs) (aN [] (by omega)) Z Z Z ?_)) <;> (refine J Z ?_) <;> (refine .cons (ao Z Z Z Z px Z Z (fun h f => bP hK hR (gW l 0) b0.1 b0.2 h f.wf (f.ro (.of hB))) ?_)) <;> (refine .cons (qw hX Z Z Z Z Z Z Z ?_)) <;> (iterate 4 refine J Z ?_) <;> (refine Y Z ?_)) | (refine X 9 ?_; (refine J Z ?_) <;> ((refine .cons (ji 2 Z Z ?_ ?_)) <;> (intro _; first | (exfalso; omega) | skip)) <;> (iterate 2 refine J Z ?_) <;> (first | (refine J Z ?_) | (refine .cons (bh (j := 0) hX Z Z Z Z Z (.of hs) (aN [] (by omega)) Z Z Z ?_))) <;> (refine J Z ?_) <;> (first | (refine J Z ?_) | (refine .cons (fk b0.1 tP Z Z Z Z Z ?_ ?_)) <;> (intro _)) <;> (iterate 2 refine J Z ?_) <;> (refine Y Z ?_)) | (refine X 10 ?_; (refine J Z ?_) <;> (refine .cons (bh (j := 1) hX Z Z Z Z Z (.of hs) (aN [] (by omega)) Z Z Z ?_)) <;> (refine J Z ?_) <;> (refine .cons (ao Z Z Z Z px Z Z (fun h f => bP hK hR (gW l 1) b1.1 b1.2 h f.wf (f.ro (.of hB))) ?_)) <;> (refine .cons (qw hX Z Z Z Z Z Z Z ?_)) <;> (iterate 4 refine J Z ?_) <;> (refine Y Z ?_)) | (refine X 11 ?_; (refine J Z ?_) <;> ((refine .cons (ji 2 Z Z ?_ ?_)) <;> (intro _; first | (exfalso; omega) | skip)) <;> (iterate 2 refine J Z ?_) <;> (first | (refine J Z ?_) | (refine .cons (bh (j := 0) hX Z Z Z Z Z (.of hs) (aN [] (by omega)) Z Z Z ?_))) <;> (refine J Z ?_) <;> (first | (refine J Z ?_) | (refine .cons (fk b0.1 lz Z Z Z Z Z ?_ ?_)) <;> (intro _)) <;> (iterate 2 refine J Z ?_) <;> (refine Y Z ?_)) | (refine X 12 ?_; (refine J Z ?_) <;> (refine .cons (bh (j := 1) hX Z Z Z Z Z (.of hs) (aN [] (by omega)) Z Z Z ?_)) <;> (refine J Z ?_) <;> (refine .cons (ao Z Z Z Z px Z Z (fun h f => bP hK hR (gW l 1) b1.1 b1.2 h f.wf (f.ro (.of hB))) ?_)) <;> (refine .cons (qw hX Z Z Z Z Z Z Z ?_)) <;> (iterate 4 refine J Z ?_) <;> (refine Y Z ?_)) | (refine X 13 ?_; (refine J Z ?_) <;> ((refine .cons (ji 2 Z Z ?_ ?_)) <;> (intro _; first | (exfalso; omega) | skip)) <;> (refine J Z ?_) <;> (refine Y Z ?_)) | (refine X 15 ?_; (refine J Z ?_) <;> ((refine .cons (ji 3 Z Z ?_ ?_)) <;> (intro _; first | (exfalso; omega) | skip)) <;> (iterate 2 refine J Z ?_) <;> (first | (refine J Z ?_) | (refine .cons (bh (j := 0) hX Z Z Z Z Z (.of hs) (aN [] (by omega)) Z Z Z ?_))) <;> (refine J Z ?_) <;> (first | (refine J Z ?_) | (refine .cons (fk b0.1 lA Z Z Z Z Z ?_ ?_)) <;> (intro _)) <;> (iterate 2 refine J Z ?_) <;> (refine Y Z ?_)) | (refine ag.draw (id := 16) ax [0, 1, 2, 5, 6, 7, 9, 3, 4, 8, 10, 11, 12, 13, 14] #[0, 1, 3, 7, 15, 0, 32, 96, 239, 0, 1007, 2047, 4095, 8191, 16383] (by kernel_rfl) (by kernel_rfl) (by kernel_rfl) ?_; (refine .cq hX rfl rfl rfl ?_) <;> ((refine .cons rfl (bh (j := 1) hX rfl rfl rfl rfl rfl (.of hs) (aN [] (by omega)) rfl rfl rfl ?_)) <;> refine ⟨_, .comp rfl, ?_⟩) <;> ((refine .cons rfl (q hX rfl ?_)) <;> refine ⟨_, .iI hX.ax rfl rfl rfl rfl rfl rfl rfl rfl (suB rfl) rfl rfl rfl, ?_⟩) <;> (refine .cq hX rfl rfl rfl ?_) <;> ((refine .cons rfl (bh (j := 2) hX rfl rfl rfl rfl rfl (.of hs) (aN [] (by omega)) rfl rfl rfl ?_)) <;> refine ⟨_, .comp rfl, ?_⟩) <;> ((refine .cons rfl (q hX rfl ?_)) <;> refine ⟨_, .iI hX.ax rfl rfl rfl rfl rfl rfl rfl rfl (suB rfl) rfl rfl rfl, ?_⟩) <;> (refine .cq hX rfl rfl rfl ?_) <;> ((refine .cons rfl (ao rfl rfl rfl rfl px rfl rfl (fun h f => bP hK hR (gW l 1) b1.1 b1.2 h f.wf (f.ro (.of hB))) ?_)) <;> refine ⟨_, .comp rfl, ?_⟩) <;> ((refine .cons rfl (qw hX rfl rfl rfl rfl rfl rfl rfl ?_)) <;> refine ⟨_, .comp rfl, ?_⟩) <;> ((refine .cons rfl (ao rfl rfl rfl rfl rX rfl rfl (fun h f => bF hK hR (gW l 2) b2.1 b2.2 h f.wf (f.ro (.of hB))) ?_)) <;> refine ⟨_, .comp rfl, ?_⟩) <;> (iterate 5 refine .cq hX rfl rfl rfl ?_) <;> (refine .nil ⟨?_, .intro rfl ?_⟩ <;> (repeat' (first | exact trivial | exact .inl rfl | refine ⟨?_, ?_⟩)))) | (refine X 17 ?_; (refine J Z ?_) <;> ((refine .cons (ji 3 Z Z ?_ ?_)) <;> (intro _; first | (exfalso; omega) | skip)) <;> (refine J Z ?_) <;> (refine Y Z ?_)) | (refine ag.draw (id := 18) ax [0, 1, 2, 4, 5, 6, 8, 3, 7, 9, 10, 11, 12, 13] #[0, 1, 3, 7, 0, 16, 48, 127, 0, 511, 1023, 2047, 4095, 8191] (by kernel_rfl) (by kernel_rfl) (by kernel_rfl) ?_; (refine .cq hX rfl rfl rfl ?_) <;> ((refine .cons rfl (bh (j := 0) hX rfl rfl rfl rfl rfl (.of hs) (aN [] (by omega)) rfl rfl rfl ?_)) <;> refine ⟨_, .comp rfl, ?_⟩) <;> ((refine .cons rfl (q hX rfl ?_)) <;> refine ⟨_, .iI hX.ax rfl rfl rfl rfl rfl rfl rfl rfl (suB rfl) rfl rfl rfl, ?_⟩) <;> (refine .cq hX rfl rfl rfl ?_) <;> ((refine .cons rfl (bh (j := 2) hX rfl rfl rfl rfl rfl (.of hs) (aN [] (by omega)) rfl rfl rfl ?_)) <;> refine ⟨_, .comp rfl, ?_⟩) <;> ((refine .cons rfl (q hX rfl ?_)) <;> refine ⟨_, .iI hX.ax rfl rfl rfl rfl rfl rfl rfl rfl (suB rfl) rfl rfl rfl, ?_⟩) <;> (refine .cq hX rfl rfl rfl ?_) <;> ((refine .cons rfl (ao rfl rfl rfl rfl rX rfl rfl (fun h f => bF hK hR (gW l 0) b0.1 b0.2 h f.wf (f.ro (.of hB))) ?_)) <;> refine ⟨_, .comp rfl, ?_⟩) <;> ((refine .cons rfl (ao rfl rfl rfl rfl rX rfl rfl (fun h f => bF hK hR (gW l 2) b2.1 b2.2 h f.wf (f.ro (.of hB))) ?_)) <;> refine ⟨_, .comp rfl, ?_⟩) <;> (iterate 5 refine .cq hX rfl rfl rfl ?_) <;> (refine .nil ⟨?_, .intro rfl ?_⟩ <;> (repeat' (first | exact trivial | exact .inl rfl | refine ⟨?_, ?_⟩)))) | (refine X 19 ?_; (refine J Z ?_) <;> (refine Y Z ?_)) | (refine X 25 ?_; (refine J Z ?_) <;> ((refine .cons (ji 4 Z Z ?_ ?_)) <;> (intro _; first | (exfalso; omega) | skip)) <;> (refine J Z ?_) <;> (refine Y Z ?_)) | (refine ag.draw (id := 26) ax [0, 1, 2, 4, 5, 6, 8, 9, 10, 13, 3, 7, 11, 12, 14, 15, 16, 17, 18, 19, 20] #[0, 1, 3, 7, 0, 16, 48, 127, 0, 256, 768, 2047, 4095, 0, 12287, 28671, 61439, 126975, 258047, 524287, 1048575] (by kernel_rfl) (by kernel_rfl) (by kernel_rfl) ?_; (refine .cq hX rfl rfl rfl ?_) <;> ((refine .cons rfl (bh (j := 1) hX rfl rfl rfl rfl rfl (.of hs) (aN [] (by omega)) rfl rfl rfl ?_)) <;> refine ⟨_, .comp rfl, ?_⟩) <;> ((refine .cons rfl (q hX rfl ?_)) <;> refine ⟨_, .iI hX.ax rfl rfl rfl rfl rfl rfl rfl rfl (suB rfl) rfl rfl rfl, ?_⟩) <;> (refine .cq hX rfl rfl rfl ?_) <;> ((refine .cons rfl (bh (j := 2) hX rfl rfl rfl rfl rfl (.of hs) (aN [] (by omega)) rfl rfl rfl ?_)) <;> refine ⟨_, .comp rfl, ?_⟩) <;> ((refine .cons rfl (q hX rfl ?_)) <;> refine ⟨_, .iI hX.ax rfl rfl rfl rfl rfl rfl rfl rfl (suB rfl) rfl rfl rfl, ?_⟩) <;> (refine .cq hX rfl rfl rfl ?_) <;> ((refine .cons rfl (bh (j := 3) hX rfl rfl rfl rfl rfl (.of hs) (aN [] (by omega)) rfl rfl rfl ?_)) <;> refine ⟨_, .comp rfl, ?_⟩) <;> ((refine .cons rfl (q hX rfl ?_)) <;> refine ⟨_, .iI hX.ax rfl rfl rfl rfl rfl rfl rfl rfl (suB rfl) rfl rfl rfl, ?_⟩) <;> (refine .cq hX rfl rfl rfl ?_) <;> ((refine .cons rfl (ao rfl rfl rfl rfl M8 rfl rfl (fun h f => Ar hK (gW l 1) b1.1 h f.wf) ?_)) <;> refine ⟨_, .comp rfl, ?_⟩) <;> ((refine .cons rfl (ao rfl rfl rfl rfl rX rfl rfl (fun h f => bF hK hR (gW l 2) b2.1 b2.2 h f.wf (f.ro (.of hB))) ?_)) <;> refine ⟨_, .comp rfl, ?_⟩) <;> ((refine .cons rfl (ao rfl rfl rfl rfl px rfl rfl (fun h f => bP hK hR (gW l 3) b3.1 b3.2 h f.wf (f.ro (.of hB))) ?_)) <;> refine ⟨_, .comp rfl, ?_⟩) <;> ((refine .cons rfl (qw hX rfl rfl rfl rfl rfl rfl rfl ?_)) <;> refine ⟨_, .comp rfl, ?_⟩) <;> (iterate 7 refine .cq hX rfl rfl rfl ?_) <;> (refine .nil ⟨?_, .intro rfl ?_⟩ <;> (repeat' (first | exact trivial | exact .inl rfl | refine ⟨?_, ?_⟩)))) | (refine X 27 ?_; (iterate 2 refine J Z ?_) <;> (refine Y Z ?_)) | refine ag.r_ ?_ | refine ag.t_ rfl ?_ | refine ag.f_ rfl ?_ | refine ag.k_ ?_ | refine ag.b_ ?_ | refine aw.b_ ?_ | refine aw.r_ hX rfl ?_)
 any_goals (exact fun h f => ⟨by simp only [jL, *, true_and, and_true, false_and, and_false, if_true, if_false, reduceCtorEq, Nat.reduceEqDiff, Bool.false_eq_true]; rfl, f.aS.bx .nil⟩)
 ·repeat' (first | refine aw.a_ ?_ | refine ag.s_ ?_ | (refine ag.draw (id := 14) ax [0, 1, 2, 3, 6, 7, 8, 10, 4, 5, 9, 11, 12, 13, 14, 15] #[0, 0, 2, 6, 15, 31, 0, 64, 192, 479, 0, 2015, 4095, 8191, 16383, 32767] (by kernel_rfl) (by kernel_rfl) (by kernel_rfl) ?_; (iterate 2 refine .cq hX rfl rfl rfl ?_) <;> ((refine .cons rfl (bh (j := 0) hX rfl rfl rfl rfl rfl (.of hs) (aN [] (by omega)) rfl rfl rfl ?_)) <;> refine ⟨_, .comp rfl, ?_⟩) <;> ((refine .cons rfl (q hX rfl ?_)) <;> refine ⟨_, .iI hX.ax rfl rfl rfl rfl rfl rfl rfl rfl (suB rfl) rfl rfl rfl, ?_⟩) <;> (refine .cq hX rfl rfl rfl ?_) <;> ((refine .cons rfl (bh (j := 1) hX rfl rfl rfl rfl rfl (.of hs) (aN [] (by omega)) rfl rfl rfl ?_)) <;> refine ⟨_, .comp rfl, ?_⟩) <;> ((refine .cons rfl (q hX rfl ?_)) <;> refine ⟨_, .iI hX.ax rfl rfl rfl rfl rfl rfl rfl rfl (suB rfl) rfl rfl rfl, ?_⟩) <;> (refine .cq hX rfl rfl rfl ?_) <;> (((refine gp.eF 4 (fun k => aH 9 1 (.slice k 0 3 (some 3)) (uT.map sB)) rfl (fun k => ew uT rfl) (fun _ => rfl) rfl fun k => ?_); (refine .cons rfl (ao rfl rfl rfl rfl DJ rfl rfl (fun h f => qB hK (.slice k 0 3 (some 3)) uT (gW l 0) (by decide) G3 b0.1 h f.wf (aH.rd (f.pick .h))) ?_)) <;> refine ⟨_, .comp rfl, ?_⟩)) <;> ((refine .cons rfl (Ls rfl rfl rfl rfl rfl rfl rfl ?_)) <;> refine ⟨_, .comp rfl, ?_⟩) <;> ((refine .cons rfl (ao rfl rfl rfl rfl rX rfl rfl (fun h f => bF hK hR (gW l 1) b1.1 b1.2 h f.wf (f.ro (.of hB))) ?_)) <;> refine ⟨_, .comp rfl, ?_⟩) <;> (iterate 5 refine .cq hX rfl rfl rfl ?_) <;> (refine .nil ⟨?_, .intro rfl ?_⟩ <;> (repeat' (first | exact trivial | exact .inl rfl | refine ⟨?_, ?_⟩)))) | (refine X 27 ?_; (iterate 2 refine J Z ?_) <;> (refine Y Z ?_)) | refine ag.r_ ?_ | refine aw.b_ ?_ | refine aw.r_ hX rfl ?_)
  any_goals (exact fun h f => ⟨by simp only [jL, *, true_and, and_true, false_and, and_false, if_true, if_false, reduceCtorEq, Nat.reduceEqDiff, Bool.false_eq_true]; rfl, f.aS.bx .nil⟩)
 ·refine ag.loop (fun a => [(138, .ext (i64 a)), (5, .ptr 1 0), (4, .ptr 0 0), (1, .ext v)]) (fun a => [.own (ez ⟨0, 0, 0, 0, 0, 0, 0, 0⟩) 74 false, .own (ez ⟨3, L8 (gW l 1) a, d, mE (gW l 0), mE (gW l 2), 0, 0, 0⟩) 74 false]) (fun _ => []) (fun a => a ≤ 20) (fun a => 20 - a) 0 ⟨⟨rfl, rfl, rfl, rfl, trivial⟩, ⟨_, rfl⟩, ⟨_, .nil⟩⟩ (Nat.zero_le _) (fun _ => rfl) (fun _ => rfl) (fun _ => rfl) ?_
  rintro a ha next
  repeat' (first | refine aw.a_ ?_ | refine ag.s_ ?_ | (refine X 20 ?_; ((refine .cons (qc Z ?_ ?_)) <;> intro _) <;> (refine Y Z ?_)) | (refine X 21 ?_; (iterate 2 refine J Z ?_) <;> (refine Y Z ?_)) | (refine X 27 ?_; (iterate 2 refine J Z ?_) <;> (refine Y Z ?_)) | refine ag.r_ ?_ | refine ag.t_ rfl ?_ | refine ag.f_ rfl ?_ | refine ag.k_ ?_ | refine ag.b_ ?_ | refine ag.e_ ?_ | refine aw.e_ ?_ | refine aw.c_ ?_ | refine aw.b_ ?_ | refine aw.r_ hX rfl ?_)
  ·have ha2 : a < 20 := by omega
   repeat' (first | refine aw.a_ ?_ | (refine ag.draw (id := 22) ax [0, 2, 3, 4, 1, 5] #[0, 1, 0, 4, 12, 31] (by kernel_rfl) (by kernel_rfl) (by kernel_rfl) ?_; (iterate 2 refine .cq hX rfl rfl rfl ?_) <;> ((refine .cons rfl (bh (j := 1) hX rfl rfl rfl rfl rfl (.of hs) (aN [] (by omega)) rfl rfl rfl ?_)) <;> refine ⟨_, .comp rfl, ?_⟩) <;> ((refine .cons rfl (q hX rfl ?_)) <;> refine ⟨_, .iI hX.ax rfl rfl rfl rfl rfl rfl rfl rfl (suB rfl) rfl rfl rfl, ?_⟩) <;> ((refine .cons rfl (ao rfl rfl rfl rfl JQ rfl rfl (fun h f => B4 hK a ha2 h f.wf) ?_)) <;> refine ⟨_, .comp rfl, ?_⟩) <;> ((refine .cons rfl (fk (I3 _ (aY [] (show a < 20 from ha2))) b1.1 rfl rfl rfl rfl rfl ?_ ?_)) <;> (intro _) <;> refine ⟨_, .comp rfl, ?_⟩) <;> (refine .nil ⟨?_, .intro rfl ?_⟩ <;> (repeat' (first | exact trivial | exact .inl rfl | refine ⟨?_, ?_⟩)))) | (refine X 23 ?_; (iterate 3 refine J Z ?_) <;> (refine Y Z ?_)) | (refine X 24 ?_; (refine .cons (qa Z Z Z Z Z (wI (by first | omega | (simp only [Int.ofNat_eq_natCast]; omega)) (by first | omega | (simp only [Int.ofNat_eq_natCast]; omega))) Z Z ?_)) <;> (refine J Z ?_) <;> (refine Y Z ?_)) | refine ag.t_ rfl ?_ | refine ag.f_ rfl ?_ | refine ag.k_ ?_ | refine aw.b_ ?_)
   ·rename_i e
    refine next (a + 1) _ _ _ (by omega) ⟨⟨rfl, rfl, rfl, rfl, trivial⟩, ⟨_, by rw [L8, if_pos e]; rfl⟩, ⟨_, .nil⟩⟩ (by omega)
   ·rename_i e
    refine next (a + 1) _ _ _ (by omega) ⟨⟨rfl, rfl, rfl, rfl, trivial⟩, ⟨_, by rw [L8, if_neg e]; rfl⟩, ⟨_, .nil⟩⟩ (by omega)
  ·have ha2 : a = 20 := by omega
   subst ha2
   repeat' (first | fail)
   exact fun h f => ⟨by simp only [jL, *, true_and, and_true, false_and, and_false, if_true, if_false, reduceCtorEq, Nat.reduceEqDiff, Bool.false_eq_true]; rfl, f.aS.bx .nil⟩
end Ev
end Go.HL
namespace Go.HL
open Go Go.Proofs
namespace Ev
open Em
set_option maxRecDepth 10000
set_option maxHeartbeats 8000000
variable {K : ai} {base : List (Nat × aE)}
theorem Ih : ∀ b ∈ ([61] : List Nat), b < 256 := by decide
theorem sa : ∀ b ∈ xV, b < 256 := by decide
theorem pH : ∀ b ∈ tR, b < 256 := by decide
theorem wQ : ∀ b ∈ G1, b < 256 := by decide
theorem s9 : ∀ b ∈ xU, b < 256 := by decide
theorem Fair.drop {l : List (List Nat)} (f : Fair l) (j : Nat) : Fair (l.drop j) := ⟨by rw [List.length_drop]; exact Nat.le_trans (Nat.sub_le _ _) f.1, fun x hx => f.2 x (List.mem_of_mem_drop hx)⟩
theorem mask50 : Nat.lor (jm Tryz.f50) (Nat.sub (Nat.pow 2 1) 1) = 85075784036996973239212380010840064077 := by kernel_rfl
theorem vc (hK : KN base K) (hL : KL base K) (hR : KR base K) (kv off : Nat) (l : List (List Nat)) (hf : Fair l) (h : Heap) (w : Wf h) (hB : (lies base).holds h) (hs : (rd (.slice kv off l.length (some l.length)) 1 (l.map sB)).holds h) : Sp P K 50 [.slice kv off l.length (some l.length)] h (dE (.agg (ez (gf l))) h) := by
 have b0 := hf.at 0
 have b1 := hf.at 1
 have b2 := hf.at 2
 have b3 := hf.at 3
 have b4 := hf.at 4
 have b5 := hf.at 5
 have hd : 2 ≤ l.length → ∀ h', (rd (.slice kv off l.length (some l.length)) 1 (l.map sB)).holds h' → (rd (oM kv off l.length 2 1) 1 ((l.drop 2).map sB)).holds h' := by
  intro h2 h' f
  rw [List.map_drop]
  exact rd.full f h2
 refine Sp.start (m := 85075784036996973239212380010840064077) (n := 149) w (hK.none 50 rfl rfl _ _) Tryz.func50 rfl rfl mask50 rfl rfl ?_
 repeat' (first | refine aw.a_ ?_ | refine ag.s_ ?_ | (refine X 0 ?_; (refine J Z ?_) <;> (refine Y Z ?_)) | (refine X 1 ?_; (iterate 3 refine J Z ?_) <;> (refine Y Z ?_)) | (refine X 2 ?_; (refine J Z ?_) <;> ((refine .cons (qc Z ?_ ?_)) <;> (intro hz; first | (have hz' : 3 ≤ l.length := by omega) | (have hz' : ¬ 3 ≤ l.length := by omega))) <;> (iterate 2 refine J Z ?_) <;> (first | (refine J Z ?_) | (refine .cons (bh (j := 1) hX Z Z Z Z Z (.of hs) (aN [] (by omega)) Z Z Z ?_))) <;> (refine J Z ?_) <;> (first | (refine J Z ?_) | (refine .cons (fk b1.1 Ih Z Z Z Z Z ?_ ?_)) <;> (intro _)) <;> (iterate 3 refine J Z ?_) <;> (first | (refine J Z ?_) | (refine .cons (bh (j := 0) hX Z Z Z Z Z (.of hs) (aN [] (by omega)) Z Z Z ?_))) <;> (refine J Z ?_) <;> (first | (refine J Z ?_) | (refine .cons (aV Z Z Z Z M9 Z Z (fun h f => oK hK hR (gW l 0) b0.1 b0.2 h f.wf) ?_ ?_)) <;> intro _) <;> (iterate 2 refine J Z ?_) <;> (refine Y Z ?_)) | (refine ag.draw (id := 3) ax [0, 1, 2, 4, 5, 3, 6, 7] #[0, 1, 3, 7, 0, 16, 63, 127] (by kernel_rfl) (by kernel_rfl) (by kernel_rfl) ?_; (refine .cq hX rfl rfl rfl ?_) <;> ((refine .cons rfl (bh (j := 0) hX rfl rfl rfl rfl rfl (.of hs) (aN [] (by omega)) rfl rfl rfl ?_)) <;> refine ⟨_, .comp rfl, ?_⟩) <;> ((refine .cons rfl (q hX rfl ?_)) <;> refine ⟨_, .iI hX.ax rfl rfl rfl rfl rfl rfl rfl rfl (suB rfl) rfl rfl rfl, ?_⟩) <;> (refine .cq hX rfl rfl rfl ?_) <;> ((refine gp.MJ (j := 2) hX rfl rfl rfl rfl rfl rfl rfl rfl rfl (by omega) rfl rfl ?_)) <;> ((refine .cons rfl (ao rfl rfl rfl rfl rX rfl rfl (fun h f => bF hK hR (gW l 0) b0.1 b0.2 h f.wf (f.ro (.of hB))) ?_)) <;> refine ⟨_, .comp rfl, ?_⟩) <;> ((refine .cons rfl (ao rfl rfl rfl rfl Ny rfl rfl (fun h f => yW hK hL hR (mE (gW l 0)) (oM kv off l.length 2 1) (l.drop 2) (hf.drop 2) h f.wf (f.ro (.of hB)) (hd (by omega) h (f.ro (.of hs)))) ?_)) <;> refine ⟨_, .comp rfl, ?_⟩) <;> (refine .cq hX rfl rfl rfl ?_) <;> (refine .nil ⟨?_, .intro rfl ?_⟩ <;> (repeat' (first | exact trivial | exact .inl rfl | refine ⟨?_, ?_⟩)))) | (refine X 4 ?_; (refine J Z ?_) <;> ((refine .cons (ji 5 Z Z ?_ ?_)) <;> (intro _; first | (exfalso; omega) | skip)) <;> (iterate 2 refine J Z ?_) <;> (first | (refine J Z ?_) | (refine .cons (bh (j := 0) hX Z Z Z Z Z (.of hs) (aN [] (by omega)) Z Z Z ?_))) <;> (refine J Z ?_) <;> (first | (refine J Z ?_) | (refine .cons (fk b0.1 lA Z Z Z Z Z ?_ ?_)) <;> (intro _)) <;> (iterate 2 refine J Z ?_) <;> (refine Y Z ?_)) | (refine ag.draw (id := 5) ax [0, 1, 2, 5, 6, 7, 9, 10, 11, 3, 4, 8, 12, 13, 14] #[0, 1, 3, 7, 15, 0, 32, 96, 239, 0, 512, 1536, 4079, 8191, 16383] (by kernel_rfl) (by kernel_rfl) (by kernel_rfl) ?_; (refine .cq hX rfl rfl rfl ?_) <;> ((refine .cons rfl (bh (j := 1) hX rfl rfl rfl rfl rfl (.of hs) (aN [] (by omega)) rfl rfl rfl ?_)) <;> refine ⟨_, .comp rfl, ?_⟩) <;> ((refine .cons rfl (q hX rfl ?_)) <;> refine ⟨_, .iI hX.ax rfl rfl rfl rfl rfl rfl rfl rfl (suB rfl) rfl rfl rfl, ?_⟩) <;> (refine .cq hX rfl rfl rfl ?_) <;> ((refine .cons rfl (bh (j := 2) hX rfl rfl rfl rfl rfl (.of hs) (aN [] (by omega)) rfl rfl rfl ?_)) <;> refine ⟨_, .comp rfl, ?_⟩) <;> ((refine .cons rfl (q hX rfl ?_)) <;> refine ⟨_, .iI hX.ax rfl rfl rfl rfl rfl rfl rfl rfl (suB rfl) rfl rfl rfl, ?_⟩) <;> (refine .cq hX rfl rfl rfl ?_) <;> ((refine .cons rfl (bh (j := 4) hX rfl rfl rfl rfl rfl (.of hs) (aN [] (by omega)) rfl rfl rfl ?_)) <;> refine ⟨_, .comp rfl, ?_⟩) <;> ((refine .cons rfl (q hX rfl ?_)) <;> refine ⟨_, .iI hX.ax rfl rfl rfl rfl rfl rfl rfl rfl (suB rfl) rfl rfl rfl, ?_⟩) <;> ((refine .cons rfl (ao rfl rfl rfl rfl px rfl rfl (fun h f => bP hK hR (gW l 1) b1.1 b1.2 h f.wf (f.ro (.of hB))) ?_)) <;> refine ⟨_, .comp rfl, ?_⟩) <;> ((refine .cons rfl (qw hX rfl rfl rfl rfl rfl rfl rfl ?_)) <;> refine ⟨_, .comp rfl, ?_⟩) <;> ((refine .cons rfl (ao rfl rfl rfl rfl rX rfl rfl (fun h f => bF hK hR (gW l 2) b2.1 b2.2 h f.wf (f.ro (.of hB))) ?_)) <;> refine ⟨_, .comp rfl, ?_⟩) <;> ((refine .cons rfl (ao rfl rfl rfl rfl rX rfl rfl (fun h f => bF hK hR (gW l 4) b4.1 b4.2 h f.wf (f.ro (.of hB))) ?_)) <;> refine ⟨_, .comp rfl, ?_⟩) <;> (iterate 2 refine .cq hX rfl rfl rfl ?_) <;> (refine .nil ⟨?_, .intro rfl ?_⟩ <;> (repeat' (first | exact trivial | exact .inl rfl | refine ⟨?_, ?_⟩)))) | (refine X 6 ?_; (refine J Z ?_) <;> ((refine .cons (ji 6 Z Z ?_ ?_)) <;> (intro _; first | (exfalso; omega) | skip)) <;> (iterate 2 refine J Z ?_) <;> (first | (refine J Z ?_) | (refine .cons (bh (j := 0) hX Z Z Z Z Z (.of hs) (aN [] (by omega)) Z Z Z ?_))) <;> (refine J Z ?_) <;> (first | (refine J Z ?_) | (refine .cons (fk b0.1 sa Z Z Z Z Z ?_ ?_)) <;> (intro _)) <;> (iterate 2 refine J Z ?_) <;> (refine Y Z ?_)) | (refine ag.draw (id := 7) ax [0, 1, 2, 4, 5, 6, 9, 10, 11, 13, 14, 15, 3, 7, 8, 12, 16, 17, 18] #[0, 1, 3, 7, 0, 16, 48, 127, 255, 0, 512, 1536, 3839, 0, 8192, 24576, 65279, 131071, 262143] (by kernel_rfl) (by kernel_rfl) (by kernel_rfl) ?_; (refine .cq hX rfl rfl rfl ?_) <;> ((refine .cons rfl (bh (j := 1) hX rfl rfl rfl rfl rfl (.of hs) (aN [] (by omega)) rfl rfl rfl ?_)) <;> refine ⟨_, .comp rfl, ?_⟩) <;> ((refine .cons rfl (q hX rfl ?_)) <;> refine ⟨_, .iI hX.ax rfl rfl rfl rfl rfl rfl rfl rfl (suB rfl) rfl rfl rfl, ?_⟩) <;> (refine .cq hX rfl rfl rfl ?_) <;> ((refine .cons rfl (bh (j := 3) hX rfl rfl rfl rfl rfl (.of hs) (aN [] (by omega)) rfl rfl rfl ?_)) <;> refine ⟨_, .comp rfl, ?_⟩) <;> ((refine .cons rfl (q hX rfl ?_)) <;> refine ⟨_, .iI hX.ax rfl rfl rfl rfl rfl rfl rfl rfl (suB rfl) rfl rfl rfl, ?_⟩) <;> (refine .cq hX rfl rfl rfl ?_) <;> ((refine .cons rfl (bh (j := 4) hX rfl rfl rfl rfl rfl (.of hs) (aN [] (by omega)) rfl rfl rfl ?_)) <;> refine ⟨_, .comp rfl, ?_⟩) <;> ((refine .cons rfl (q hX rfl ?_)) <;> refine ⟨_, .iI hX.ax rfl rfl rfl rfl rfl rfl rfl rfl (suB rfl) rfl rfl rfl, ?_⟩) <;> (refine .cq hX rfl rfl rfl ?_) <;> ((refine .cons rfl (bh (j := 5) hX rfl rfl rfl rfl rfl (.of hs) (aN [] (by omega)) rfl rfl rfl ?_)) <;> refine ⟨_, .comp rfl, ?_⟩) <;> ((refine .cons rfl (q hX rfl ?_)) <;> refine ⟨_, .iI hX.ax rfl rfl rfl rfl rfl rfl rfl rfl (suB rfl) rfl rfl rfl, ?_⟩) <;> ((refine .cons rfl (ao rfl rfl rfl rfl M8 rfl rfl (fun h f => Ar hK (gW l 1) b1.1 h f.wf) ?_)) <;> refine ⟨_, .comp rfl, ?_⟩) <;> ((refine .cons rfl (ao rfl rfl rfl rfl px rfl rfl (fun h f => bP hK hR (gW l 3) b3.1 b3.2 h f.wf (f.ro (.of hB))) ?_)) <;> refine ⟨_, .comp rfl, ?_⟩) <;> ((refine .cons rfl (qw hX rfl rfl rfl rfl rfl rfl rfl ?_)) <;> refine ⟨_, .comp rfl, ?_⟩) <;> ((refine .cons rfl (ao rfl rfl rfl rfl rX rfl rfl (fun h f => bF hK hR (gW l 4) b4.1 b4.2 h f.wf (f.ro (.of hB))) ?_)) <;> refine ⟨_, .comp rfl, ?_⟩) <;> ((refine .cons rfl (ao rfl rfl rfl rfl rX rfl rfl (fun h f => bF hK hR (gW l 5) b5.1 b5.2 h f.wf (f.ro (.of hB))) ?_)) <;> refine ⟨_, .comp rfl, ?_⟩) <;> (iterate 2 refine .cq hX rfl rfl rfl ?_) <;> (refine .nil ⟨?_, .intro rfl ?_⟩ <;> (repeat' (first | exact trivial | exact .inl rfl | refine ⟨?_, ?_⟩)))) | (refine X 8 ?_; (refine J Z ?_) <;> ((refine .cons (ji 2 Z Z ?_ ?_)) <;> (intro _; first | (exfalso; omega) | skip)) <;> (iterate 2 refine J Z ?_) <;> (first | (refine J Z ?_) | (refine .cons (bh (j := 0) hX Z Z Z Z Z (.of hs) (aN [] (by omega)) Z Z Z ?_))) <;> (refine J Z ?_) <;> (first | (refine J Z ?_) | (refine .cons (fk b0.1 pH Z Z Z Z Z ?_ ?_)) <;> (intro _)) <;> (iterate 2 refine J Z ?_) <;> (refine Y Z ?_)) | (refine X 9 ?_; (refine J Z ?_) <;> (refine .cons (bh (j := 1) hX Z Z Z Z Z (.of hs) (aN [] (by omega)) Z Z Z ?_)) <;> (refine J Z ?_) <;> (refine .cons (ao Z Z Z Z px Z Z (fun h f => bP hK hR (gW l 1) b1.1 b1.2 h f.wf (f.ro (.of hB))) ?_)) <;> (refine .cons (qw hX Z Z Z Z Z Z Z ?_)) <;> (iterate 2 refine J Z ?_) <;> (refine Y Z ?_)) | (refine X 10 ?_; (refine J Z ?_) <;> ((refine .cons (ji 4 Z Z ?_ ?_)) <;> (intro _; first | (exfalso; omega) | skip)) <;> (iterate 2 refine J Z ?_) <;> (first | (refine J Z ?_) | (refine .cons (bh (j := 0) hX Z Z Z Z Z (.of hs) (aN [] (by omega)) Z Z Z ?_))) <;> (refine J Z ?_) <;> (first | (refine J Z ?_) | (refine .cons (fk b0.1 lz Z Z Z Z Z ?_ ?_)) <;> (intro _)) <;> (iterate 2 refine J Z ?_) <;> (refine Y Z ?_)) | (refine ag.draw (id := 11) ax [0, 1, 2, 5, 6, 7, 3, 4, 8, 9, 10] #[0, 1, 3, 7, 15, 0, 32, 96, 239, 511, 1023] (by kernel_rfl) (by kernel_rfl) (by kernel_rfl) ?_; (refine .cq hX rfl rfl rfl ?_) <;> ((refine .cons rfl (bh (j := 1) hX rfl rfl rfl rfl rfl (.of hs) (aN [] (by omega)) rfl rfl rfl ?_)) <;> refine ⟨_, .comp rfl, ?_⟩) <;> ((refine .cons rfl (q hX rfl ?_)) <;> refine ⟨_, .iI hX.ax rfl rfl rfl rfl rfl rfl rfl rfl (suB rfl) rfl rfl rfl, ?_⟩) <;> (refine .cq hX rfl rfl rfl ?_) <;> ((refine .cons rfl (bh (j := 3) hX rfl rfl rfl rfl rfl (.of hs) (aN [] (by omega)) rfl rfl rfl ?_)) <;> refine ⟨_, .comp rfl, ?_⟩) <;> ((refine .cons rfl (q hX rfl ?_)) <;> refine ⟨_, .iI hX.ax rfl rfl rfl rfl rfl rfl rfl rfl (suB rfl) rfl rfl rfl, ?_⟩) <;> ((refine .cons rfl (ao rfl rfl rfl rfl px rfl rfl (fun h f => bP hK hR (gW l 1) b1.1 b1.2 h f.wf (f.ro (.of hB))) ?_)) <;> refine ⟨_, .comp rfl, ?_⟩) <;> ((refine .cons rfl (qw hX rfl rfl rfl rfl rfl rfl rfl ?_)) <;> refine ⟨_, .comp rfl, ?_⟩) <;> ((refine .cons rfl (ao rfl rfl rfl rfl rX rfl rfl (fun h f => bF hK hR (gW l 3) b3.1 b3.2 h f.wf (f.ro (.of hB))) ?_)) <;> refine ⟨_, .comp rfl, ?_⟩) <;> (iterate 2 refine .cq hX rfl rfl rfl ?_) <;> (refine .nil ⟨?_, .intro rfl ?_⟩ <;> (repeat' (first | exact trivial | exact .inl rfl | refine ⟨?_, ?_⟩)))) | (refine X 12 ?_; (refine J Z ?_) <;> ((refine .cons (ji 2 Z Z ?_ ?_)) <;> (intro _; first | (exfalso; omega) | skip)) <;> (iterate 2 refine J Z ?_) <;> (first | (refine J Z ?_) | (refine .cons (bh (j := 0) hX Z Z Z Z Z (.of hs) (aN [] (by omega)) Z Z Z ?_))) <;> (refine J Z ?_) <;> (first | (refine J Z ?_) | (refine .cons (fk b0.1 wQ Z Z Z Z Z ?_ ?_)) <;> (intro _)) <;> (iterate 2 refine J Z ?_) <;> (refine Y Z ?_)) | (refine X 13 ?_; (refine J Z ?_) <;> (refine .cons (bh (j := 1) hX Z Z Z Z Z (.of hs) (aN [] (by omega)) Z Z Z ?_)) <;> (refine J Z ?_) <;> (refine .cons (ao Z Z Z Z px Z Z (fun h f => bP hK hR (gW l 1) b1.1 b1.2 h f.wf (f.ro (.of hB))) ?_)) <;> (iterate 2 refine J Z ?_) <;> (refine Y Z ?_)) | (refine X 14 ?_; (refine J Z ?_) <;> ((refine .cons (ji 5 Z Z ?_ ?_)) <;> (intro _; first | (exfalso; omega) | skip)) <;> (iterate 2 refine J Z ?_) <;> (first | (refine J Z ?_) | (refine .cons (bh (j := 0) hX Z Z Z Z Z (.of hs) (aN [] (by omega)) Z Z Z ?_))) <;> (refine J Z ?_) <;> (first | (refine J Z ?_) | (refine .cons (fk b0.1 s9 Z Z Z Z Z ?_ ?_)) <;> (intro _)) <;> (iterate 2 refine J Z ?_) <;> (refine Y Z ?_)) | (refine ag.draw (id := 15) ax [0, 1, 2, 4, 5, 6, 8, 9, 10, 3, 7, 11, 12, 13] #[0, 1, 3, 7, 0, 16, 48, 127, 0, 256, 768, 2047, 4095, 8191] (by kernel_rfl) (by kernel_rfl) (by kernel_rfl) ?_; (refine .cq hX rfl rfl rfl ?_) <;> ((refine .cons rfl (bh (j := 1) hX rfl rfl rfl rfl rfl (.of hs) (aN [] (by omega)) rfl rfl rfl ?_)) <;> refine ⟨_, .comp rfl, ?_⟩) <;> ((refine .cons rfl (q hX rfl ?_)) <;> refine ⟨_, .iI hX.ax rfl rfl rfl rfl rfl rfl rfl rfl (suB rfl) rfl rfl rfl, ?_⟩) <;> (refine .cq hX rfl rfl rfl ?_) <;> ((refine .cons rfl (bh (j := 2) hX rfl rfl rfl rfl rfl (.of hs) (aN [] (by omega)) rfl rfl rfl ?_)) <;> refine ⟨_, .comp rfl, ?_⟩) <;> ((refine .cons rfl (q hX rfl ?_)) <;> refine ⟨_, .iI hX.ax rfl rfl rfl rfl rfl rfl rfl rfl (suB rfl) rfl rfl rfl, ?_⟩) <;> (refine .cq hX rfl rfl rfl ?_) <;> ((refine .cons rfl (bh (j := 4) hX rfl rfl rfl rfl rfl (.of hs) (aN [] (by omega)) rfl rfl rfl ?_)) <;> refine ⟨_, .comp rfl, ?_⟩) <;> ((refine .cons rfl (q hX rfl ?_)) <;> refine ⟨_, .iI hX.ax rfl rfl rfl rfl rfl rfl rfl rfl (suB rfl) rfl rfl rfl, ?_⟩) <;> ((refine .cons rfl (ao rfl rfl rfl rfl rX rfl rfl (fun h f => bF hK hR (gW l 1) b1.1 b1.2 h f.wf (f.ro (.of hB))) ?_)) <;> refine ⟨_, .comp rfl, ?_⟩) <;> ((refine .cons rfl (ao rfl rfl rfl rfl px rfl rfl (fun h f => bP hK hR (gW l 2) b2.1 b2.2 h f.wf (f.ro (.of hB))) ?_)) <;> refine ⟨_, .comp rfl, ?_⟩) <;> ((refine .cons rfl (ao rfl rfl rfl rfl px rfl rfl (fun h f => bP hK hR (gW l 4) b4.1 b4.2 h f.wf (f.ro (.of hB))) ?_)) <;> refine ⟨_, .comp rfl, ?_⟩) <;> (iterate 2 refine .cq hX rfl rfl rfl ?_) <;> (refine .nil ⟨?_, .intro rfl ?_⟩ <;> (repeat' (first | exact trivial | exact .inl rfl | refine ⟨?_, ?_⟩)))) | (refine X 16 ?_; (iterate 2 refine J Z ?_) <;> (refine Y Z ?_)) | refine ag.r_ ?_ | refine aw.d_ ?_ | refine aw.f_ ?_ | refine ag.t_ rfl ?_ | refine ag.f_ rfl ?_ | refine ag.k_ ?_ | refine ag.b_ ?_ | refine aw.b_ ?_ | refine aw.r_ hX rfl ?_)
 any_goals (exact fun h f => ⟨by simp only [gf, *, true_and, and_true, false_and, and_false, if_true, if_false, reduceCtorEq, Nat.reduceEqDiff, Bool.false_eq_true]; rfl, f.aS.bx .nil⟩)
end Ev
end Go.HL
namespace Go.HL
open Go Go.Proofs
namespace Ev
open Em
set_option maxRecDepth 10000
set_option maxHeartbeats 8000000
variable {K : ai} {base : List (Nat × aE)}
theorem mJ : ∀ b ∈ cu, b < 256 := by decide
theorem zg : ∀ b ∈ ou, b < 256 := by decide
theorem s8 : ∀ b ∈ gT, b < 256 := by decide
abbrev zJ (a : List Nat × Int) : List ad := [aR a.1, .int .i64 a.2]
structure Good (c : ba) (n : Nat) : Prop where
 name : tn c.name
 eW : ∀ p ∈ c.params, tn p.1
 dX : ∀ p ∈ c.shared, tn p.1
 len : c.params.length + c.shared.length + c.ay.length ≤ n
 each : ∀ x ∈ c.ay, -2147483648 ≤ x.cL ∧ x.cL ≤ 2147483647
theorem Good.ok {c : ba} {n : Nat} (g : Good c n) (hn : n ≤ 1000000) : c.Ok :=
 have := g.len
 ⟨g.name, by omega, g.eW, by omega, g.dX, by omega, g.each⟩
theorem xp (z : Int) : -2147483648 ≤ i32 z ∧ i32 z ≤ 2147483647 := by
 unfold i32
 rw [fg]
 simp only [IntKind.wrap, IntKind.bits, IntKind.signed]
 have h1 := Int.emod_nonneg z (show (4294967296 : Int) ≠ 0 by decide)
 have h2 := Int.emod_lt_of_pos z (show (0 : Int) < 4294967296 by decide)
 simp
 split <;> omega
theorem H7 (l : List (List Nat)) : -2147483648 ≤ (gf l).cL ∧ (gf l).cL ≤ 2147483647 := by
 have h0 : -2147483648 ≤ (0 : Int) ∧ (0 : Int) ≤ 2147483647 := by omega
 unfold gf jL
 repeat' split
 all_goals first | exact h0 | exact xp _
theorem fX {α : Type} {p : α → Prop} {l : List α} {y : α} (h : ∀ x ∈ l, p x) (hy : p y) : ∀ x ∈ l ++ [y], p x := fun x hx => (List.mem_append.1 hx).elim (h x) fun e => by rw [List.mem_singleton.1 e]; exact hy
theorem Ci {c : ba} {n i : Nat} {t : List Nat} (ht : tn t) (g : Good c n) : Good (dK i t c) (n + 1) := by
 have h := g.len
 have hc := rO ht 32
 unfold dK
 split
 ·exact ⟨g.name, g.eW, g.dX, by omega, g.each⟩
 split
 ·exact ⟨hc 1, g.eW, g.dX, by simp only; omega, g.each⟩
 split
 ·exact ⟨g.name, fX g.eW (hc 1), g.dX, by simp only [List.length_append, List.length_singleton]; omega, g.each⟩
 split
 ·exact ⟨g.name, fX g.eW (hc 1), g.dX, by simp only [List.length_append, List.length_singleton]; omega, g.each⟩
 split
 ·exact ⟨g.name, g.eW, fX g.dX (hc 1), by simp only [List.length_append, List.length_singleton]; omega, g.each⟩
 ·exact ⟨g.name, g.eW, g.dX, by simp only [List.length_append, List.length_singleton]; omega, fX g.each (H7 _)⟩
theorem zW : Good xh 0 := ⟨⟨.nil, by simp [xh]⟩, (fun _ h => by cases h), (fun _ h => by cases h), by simp [xh], fun _ h => by cases h⟩
theorem Fb (hK : KN base K) (hL : KL base K) (hR : KR base K) (kw : Nat) (ws : List (List Nat)) (hf : Fair ws) (h1 : 1 ≤ ws.length) (h : Heap) (w : Wf h) (hB : (lies base).holds h) (hs : (rd (.slice kw 0 ws.length (some ws.length)) 1 (ws.map sB)).holds h) : Sp P K 50 [oM kw 0 ws.length 1 1] h (dE (.agg (ez (gf (ws.drop 1)))) h) := by
 have e : oM kw 0 ws.length 1 1 = .slice kw (eX 0 1 ws.length 1) (ws.drop 1).length (some (ws.drop 1).length) := by unfold oM; rw [List.length_drop]
 have r := rd.full hs h1
 rw [e, ← List.map_drop] at r
 rw [e]
 exact vc hK hL hR kw _ (ws.drop 1) (hf.drop 1) h w hB r
theorem AK {t : List Nat} (ht : cV t) (hl : t.length ≤ 500000) (c : Nat) : Fair (cutAt c t) := by
 refine ⟨by have := lv c t; omega, fun x hx => ?_⟩
 have := iZ c t x hx
 exact ⟨fun y hy => ht y (this.2 y hy), by omega⟩
structure LA where
 i : Nat
 c : ba
 pv : ad
 sv : ad
 iv : ad
theorem Ch {i : Nat} {t : List Nat} {c : ba} (et : t ≠ []) (h0 : i = 0) (h4 : (cutAt 32 t).length = 4) : dK i t c = { c with name := gW (cutAt 32 t) 1, «local» := eD (gW (cutAt 32 t) 3) } := by
 unfold dK; rw [if_neg et, if_pos ⟨h0, h4⟩]
theorem EY {i : Nat} {t : List Nat} {c : ba} (et : t ≠ []) (h2 : (cutAt 32 t).length = 2) (hw : gW (cutAt 32 t) 0 = cu) : dK i t c = { c with params := c.params ++ [(gW (cutAt 32 t) 1, true)] } := by
 unfold dK; rw [if_neg et, if_neg (fun q => by omega), if_pos ⟨h2, hw⟩]
theorem EW {i : Nat} {t : List Nat} {c : ba} (et : t ≠ []) (h2 : (cutAt 32 t).length = 2) (hb : gW (cutAt 32 t) 0 ≠ cu) (hw : gW (cutAt 32 t) 0 = ou) : dK i t c = { c with params := c.params ++ [(gW (cutAt 32 t) 1, false)] } := by
 unfold dK; rw [if_neg et, if_neg (fun q => by omega), if_neg (fun q => hb q.2), if_pos ⟨h2, hw⟩]
theorem GZ {i : Nat} {t : List Nat} {c : ba} (et : t ≠ []) (h3 : (cutAt 32 t).length = 3) (hw : gW (cutAt 32 t) 0 = gT) : dK i t c = { c with shared := c.shared ++ [(gW (cutAt 32 t) 1, eD (gW (cutAt 32 t) 2))] } := by
 unfold dK; rw [if_neg et, if_neg (fun q => by omega), if_neg (fun q => by omega), if_neg (fun q => by omega), if_pos ⟨h3, hw⟩]
theorem EX {i : Nat} {t : List Nat} {c : ba} (et : t ≠ []) (h1 : ¬ (i = 0 ∧ (cutAt 32 t).length = 4)) (h2 : ¬ ((cutAt 32 t).length = 2 ∧ gW (cutAt 32 t) 0 = cu)) (h3 : ¬ ((cutAt 32 t).length = 2 ∧ gW (cutAt 32 t) 0 = ou)) (h4 : ¬ ((cutAt 32 t).length = 3 ∧ gW (cutAt 32 t) 0 = gT)) : dK i t c = { c with ay := c.ay ++ [gf ((cutAt 32 t).drop 1)] } := by
 unfold dK; rw [if_neg et, if_neg h1, if_neg h2, if_neg h3, if_neg h4]
theorem MA {c : ba} {pv sv iv : ad} {h : Heap} (r1 : (rd pv 2 (c.params.map sq)).holds h) (r2 : (rd sv 2 (c.shared.map zJ)).holds h) (r3 : (rd iv 8 (c.ay.map ez)).holds h) : (ke c.iw pv sv iv).holds h := by
 refine ⟨?_, ?_, r3⟩
 ·show (rd pv 2 ((c.params.map _).map pc)).holds h
  rw [List.map_map]; exact r1
 ·show (rd sv 2 ((c.shared.map _).map ac)).holds h
  rw [List.map_map]; exact r2
theorem wU {c : ba} (hv : c.iw.cF = true) (pv sv iv : ad) : og c.zb pv sv iv = [aH 70 2 pv (c.params.map sq), aH 72 2 sv (c.shared.map zJ), aH 74 8 iv (c.ay.map ez)] := by
 have e := congrArg (fun p : az => p.shared.map ac) (tp hv)
 have e2 : c.zb.shared.map Bf = c.shared.map zJ := by
  unfold bg.iw ba.iw at e
  simp only [List.map_map] at e
  exact e
 unfold og
 rw [e2]; rfl
theorem DS {c : bg} (h : V c = true) : c.iw.cF = true := by
 unfold V at h
 simp only [Bool.and_eq_true] at h
 exact h.2
theorem Bi (hK : KN base K) (hL : KL base K) (c : ba) (hc : c.Ok) (hv : c.iw.cF = true) (pv sv iv : ad) (h : Heap) (w : Wf h) (hB : (lies base).holds h) (hr : (ke c.iw pv sv iv).holds h) : Sp P K 31 [cv c.iw pv sv iv] h (dE (aR (eU c.zb)) h) := by
 rw [← y0 hv]
 exact E0 hK hL c.zb (lB (CZ hc hv)) pv sv iv h w hB (Js hv hr)
section
variable {ax : iF} {zl : List (Nat × List ad)} {E : eT} {ops : Array Oper} {o : Oper} {L : SL} {B : List cj} {G : List Part} {m n : Nat} {R : SL → List cj → List Part → Prop} {P : Program}
theorem K7 {t p : Nat} {x y : Operand} {a b : List Nat} (ha : cV a) (hb : cV b) (ho : o.op = .binOp .neq t x y p) (hx : cM P L x = some (aR a)) (hy : cM P L y = some (aR b)) (hw : aU ops o L = some true) (hf : fits o.dst n = true) (h1 : a ≠ b → R (bf o.dst (.ext (.bool true)) L) B G) (h0 : a = b → R (bf o.dst (.ext (.bool false)) L) B G) : ca P K E ops o L B G m n R :=
 qcn ho hx hy hw hf (fun e => h1 fun e' => e (by rw [e']; exact ⟨rfl, rfl⟩)) fun e => h0 (kR ha hb (by simp only [aR, e.1, e.2]))
end
def MB (s : List Nat) (v : ad) (C : List Part) : Prop :=
 (∃ c pv sv iv, V c = true ∧ eU c = s ∧ v = .tuple [xH c pv sv iv, i64 0] ∧ C = og c pv sv iv) ∨ ((∀ c, V c = true → eU c ≠ s) ∧ v = .tuple [.agg JW, i64 2] ∧ C = [])
theorem mask19 : Nat.lor (jm Tryz.f19) (Nat.sub (Nat.pow 2 1) 1) = 10633823968755211784176707178384604413 := by kernel_rfl
theorem Jj (hK : KN base K) (hL : KL base K) (hR : KR base K) (s : List Nat) (hb : cV s) (hl : s.length ≤ 500000) (h : Heap) (w : Wf h) (hB : (lies base).holds h) : Sp P K 19 [aR s] h (Tr (MB s) h) := by
 have hlen := lv 10 s
 refine Sp.start (m := 10633823968755211784176707178384604413) (n := 126) w (hK.none 19 rfl rfl _ _) Tryz.func19 rfl rfl mask19 rfl rfl ?_
 repeat' (first | refine aw.a_ ?_ | refine ag.s_ ?_ | (refine X 0 ?_; (iterate 2 refine J Z ?_) <;> (refine Y Z ?_)) | (refine X 1 ?_; (iterate 3 refine J Z ?_) <;> (refine Y Z ?_)) | (refine X 2 ?_; (refine J Z ?_) <;> ((refine .cons (gq Z Z Z Z Md Z Z (fun h f => u7 hR s 10 hb (by decide) (by omega) h f.wf (f.ro (.of hB))) ?_)) <;> (rintro v C' ⟨ks, rfl, rfl⟩)) <;> (iterate 2 refine J Z ?_) <;> (refine Y Z ?_)) | refine ag.b_ ?_)
 have hA0 : ∀ c, V c = true → eU c = s → iE 0 (cutAt 10 s) xh = some (JC c) := fun c hv ht => by rw [← ht]; exact (qP (qF hv)).1
 have hlw : ∀ j, cV (gW (cutAt 10 s) j) ∧ (gW (cutAt 10 s) j).length ≤ 500000 := fun j => by
  have := rO (t := s) ⟨hb, by omega⟩ 10 j
  refine ⟨this.1, ?_⟩
  by_cases hj : j < (cutAt 10 s).length
  ·exact Nat.le_trans (iZ 10 s _ (aY [] hj)).1 hl
  ·have : gW (cutAt 10 s) j = [] := by simp [gW, List.getD, List.getElem?_eq_none (Nat.le_of_not_lt hj)]
   rw [this]; exact Nat.zero_le _
 generalize hls : cutAt 10 s = l at hlen hA0 hlw ⊢
 refine ag.nil 70 2 ?_
 refine ag.nil 72 2 ?_
 refine ag.nil 74 8 ?_
 refine ag.loop (ι := LA) (fun a => [(12, .ext (i64 a.i)), (11, .ext (i64 l.length)), (10, .ext (.slice ks 0 l.length (some l.length))), (4, .ptr 1 0), (3, .ext (i64 0)), (2, .ptr 0 0), (0, .ext (aR s))]) (fun a => [.own JW 26 false, .own [aR a.c.name, a.pv, a.sv, .int .i64 a.c.local, a.iv] 26 false]) (fun a => [aH 74 8 a.iv (a.c.ay.map ez), aH 72 2 a.sv (a.c.shared.map zJ), aH 70 2 a.pv (a.c.params.map sq), aH 9 1 (.slice ks 0 l.length (some l.length)) (l.map sB)]) (fun a => a.i ≤ l.length ∧ Good a.c a.i ∧ iE 0 l xh = iE a.i (l.drop a.i) a.c) (fun a => l.length - a.i) ⟨0, xh, .aD, .aD, .aD⟩ ⟨⟨rfl, rfl, rfl, rfl, rfl, rfl, rfl, trivial⟩, ⟨_, rfl⟩, ⟨_, .cons .h (.cons .h (.cons .h (.cons .h .nil)))⟩⟩ ⟨Nat.zero_le _, zW, by rw [List.drop_zero]⟩ (fun _ => rfl) (fun _ => rfl) (fun _ => rfl) ?_
 rintro ⟨i, c, pv, sv, iv⟩ ⟨hi, g, hA⟩ next
 simp only at hi g hA next ⊢
 repeat' (first | refine aw.a_ ?_ | refine ag.s_ ?_ | (refine X 3 ?_; ((refine .cons (qc Z ?_ ?_)) <;> intro _) <;> (refine Y Z ?_)) | refine ag.t_ rfl ?_ | refine ag.f_ rfl ?_ | refine ag.k_ ?_ | refine ag.b_ ?_ | refine ag.e_ ?_ | refine aw.e_ ?_ | refine aw.c_ ?_)
 ·have hil : i < l.length := by omega
  have hgl := g.len
  have hdr : l.drop i = gW l i :: l.drop (i + 1) := by rw [List.drop_eq_getElem_cons hil]; simp [gW, List.getD, List.getElem?_eq_getElem hil]
  rw [hdr, iE] at hA
  refine ag.fact (p := dA iv = some c.ay.length) (fun h f => by have := (aH.rd (f.pick .h)).slice.len; simpa using this) fun hli => ?_
  refine ag.fact (p := dA sv = some c.shared.length) (fun h f => by have := (aH.rd (f.pick (.t .h))).slice.len; simpa using this) fun hls2 => ?_
  refine ag.fact (p := dA pv = some c.params.length) (fun h f => by have := (aH.rd (f.pick (.t (.t .h)))).slice.len; simpa using this) fun hlp => ?_
  have ht := hlw i
  have hwf := AK ht.1 ht.2 32
  generalize hgt : gW l i = t at hA ht hwf ⊢
  have hk0 : 1 ≤ (cutAt 32 t).length := by have := ny 32 t; cases h : cutAt 32 t <;> simp_all
  have hws := fun j => rO (t := t) ⟨ht.1, by omega⟩ 32 j
  have gn := Ci (i := i) (n := i) (c := c) (t := t) ⟨ht.1, by omega⟩ g
  repeat' (first | refine aw.a_ ?_ | refine ag.s_ ?_ | (refine X 4 ?_; (refine J Z ?_) <;> (refine .cons (fQ (r := sB t) (j := i) hX Z Z Z Z Z (.t (.t (.t .h))) (y9 [] hil hgt) Z Z Z ?_)) <;> (iterate 3 refine J Z ?_) <;> (refine Y Z ?_)) | (refine X 5 ?_; (refine J Z ?_) <;> ((refine .cons (gq Z Z Z Z Md Z Z (fun h f => u7 hR t 32 ht.1 (by decide) (by omega) h f.wf (f.ro (.of hB))) ?_)) <;> (rintro v C' ⟨kw, rfl, rfl⟩)) <;> (refine J Z ?_) <;> (refine Y Z ?_)) | (refine X 7 ?_; (iterate 2 refine J Z ?_) <;> (refine .cons (ql hX Z Z Z Z Z Z (by assumption) Z Z ?_)) <;> ((refine .cons (qc Z ?_ ?_)) <;> intro _) <;> (refine J Z ?_) <;> (refine Y Z ?_)) | (refine X 8 ?_; (iterate 3 refine J Z ?_) <;> (refine Y Z ?_)) | (refine X 9 ?_; (refine J Z ?_) <;> ((refine .cons (fk ht.1 cV.nil Z Z Z Z Z ?_ ?_)) <;> (intro _)) <;> (refine J Z ?_) <;> (refine Y Z ?_)) | (refine X 18 ?_; (refine .cons (qa Z Z Z Z Z (wI (by first | omega | (simp only [Int.ofNat_eq_natCast]; omega)) (by first | omega | (simp only [Int.ofNat_eq_natCast]; omega))) Z Z ?_)) <;> (refine J Z ?_) <;> (refine Y Z ?_)) | refine ag.r_ ?_ | refine aw.d_ ?_ | refine aw.f_ ?_ | refine ag.t_ rfl ?_ | refine ag.f_ rfl ?_ | refine ag.k_ ?_ | refine ag.b_ ?_ | refine aw.b_ ?_ | refine aw.r_ hX rfl ?_)
  ·have hbig : iE 0 l xh = none := by rw [hA, if_pos (by omega)]
   exact fun h f => ⟨[], f.aS.bx .nil, .inr ⟨fun c hv hts => (by rw [hA0 c hv hts] at hbig; cases hbig), rfl, rfl⟩⟩
  all_goals
   rw [if_neg (by omega)] at hA
  ·rename_i et
   have e : dK i t c = c := by rw [et]; rfl
   rw [e] at gn hA
   exact next ⟨i + 1, _, _, _, _⟩ _ _ _ (by simp only; omega) ⟨⟨rfl, rfl, rfl, rfl, rfl, rfl, rfl, trivial⟩, ⟨_, rfl⟩, ⟨_, by exact .cons (by repeat (first | exact .h | apply aI.t)) (.cons (by repeat (first | exact .h | apply aI.t)) (.cons (by repeat (first | exact .h | apply aI.t)) (.cons (by repeat (first | exact .h | apply aI.t)) .nil)))⟩⟩ ⟨by simp only; omega, gn, hA⟩
  ·rename_i et
   have f1 := hwf.at 1
   have f2 := hwf.at 2
   have f3 := hwf.at 3
   repeat' (first | refine aw.a_ ?_ | refine ag.s_ ?_ | (refine X 10 ?_; (refine J Z ?_) <;> ((refine .cons (ji 0 Z Z ?_ ?_)) <;> (intro _)) <;> (iterate 3 refine J Z ?_) <;> (first | (refine J Z ?_) | (refine .cons (ji 4 Z Z ?_ ?_)) <;> (intro _)) <;> (iterate 2 refine J Z ?_) <;> (refine Y Z ?_)) | (refine ag.draw (id := 11) ax [0, 1, 2, 3, 4, 5, 7, 6, 8, 9, 10] #[0, 1, 3, 0, 8, 24, 56, 7, 255, 511, 1023] (by kernel_rfl) (by kernel_rfl) (by kernel_rfl) ?_; (refine .cq hX rfl rfl rfl ?_) <;> ((refine .cons rfl (jh (j := 1) hX rfl rfl rfl rfl rfl (by omega) rfl rfl ?_)) <;> refine ⟨_, .comp rfl, ?_⟩) <;> ((refine gp.Cn (k := kw) (off := 0) (j := 1) (rows := (cutAt 32 t).map sB) hX rfl rfl rfl rfl rfl rfl rfl rfl .h (aN [] (by omega)) (suB rfl) rfl rfl ?_)) <;> (refine .cq hX rfl rfl rfl ?_) <;> ((refine .cons rfl (jh (j := 3) hX rfl rfl rfl rfl rfl (by omega) rfl rfl ?_)) <;> refine ⟨_, .comp rfl, ?_⟩) <;> ((refine gp.Cn (k := kw) (off := 0) (j := 3) (rows := (cutAt 32 t).map sB) hX rfl rfl rfl rfl rfl rfl rfl rfl .h (aN [] (by omega)) (suB rfl) rfl rfl ?_)) <;> (refine .cq hX rfl rfl rfl ?_) <;> ((refine .cons rfl (ao rfl rfl rfl rfl px rfl rfl (fun h f => bP hK hR (gW (cutAt 32 t) 3) f3.1 f3.2 h f.wf (f.ro (.of hB))) ?_)) <;> refine ⟨_, .comp rfl, ?_⟩) <;> (iterate 3 refine .cq hX rfl rfl rfl ?_) <;> (refine .nil ⟨?_, .intro rfl ?_⟩ <;> (repeat' (first | exact trivial | exact .inl rfl | exact .inr (.inr ⟨_, _, _, rfl, (by repeat (first | exact .h | apply aI.t)), (by repeat (first | exact .h | apply aI.t))⟩) | refine ⟨?_, ?_⟩)))) | (refine X 12 ?_; (iterate 2 refine J Z ?_) <;> ((refine .cons (ji 2 Z Z ?_ ?_)) <;> (intro _; first | (exfalso; omega) | skip)) <;> (iterate 2 refine J Z ?_) <;> (first | (refine J Z ?_) | (refine .cons (fQ (r := sB (gW (cutAt 32 t) 0)) (j := 0) hX Z Z Z Z Z .h (aN [] (by omega)) Z Z Z ?_))) <;> (refine J Z ?_) <;> (first | (refine J Z ?_) | (refine .cons (fk (hws 0).1 mJ Z Z Z Z Z ?_ ?_)) <;> (intro _)) <;> (iterate 2 refine J Z ?_) <;> (refine Y Z ?_)) | (refine ag.draw (id := 13) ax [0, 1, 2, 3, 4, 5, 6, 7, 8, 9] #[0, 1, 0, 4, 12, 28, 60, 127, 255, 511] (by kernel_rfl) (by kernel_rfl) (by kernel_rfl) ?_; (refine .cq hX rfl rfl rfl ?_) <;> ((refine .cons rfl (q hX rfl ?_)) <;> refine ⟨_, .fw hX.ax rfl rfl rfl rfl rfl rfl rfl rfl (beL (by assumption)) rfl rfl rfl, ?_⟩) <;> (refine .cq hX rfl rfl rfl ?_) <;> ((refine .cons rfl (jh (j := 1) hX rfl rfl rfl rfl rfl (by omega) rfl rfl ?_)) <;> refine ⟨_, .comp rfl, ?_⟩) <;> ((refine gp.Cn (k := kw) (off := 0) (j := 1) (rows := (cutAt 32 t).map sB) hX rfl rfl rfl rfl rfl rfl rfl rfl .h (aN [] (by omega)) (suB rfl) rfl rfl ?_)) <;> (iterate 2 refine .cq hX rfl rfl rfl ?_) <;> (((refine gp.pI rfl ?_); (refine .cons rfl (sZ hX rfl rfl rfl rfl rfl rfl rfl rfl rfl rfl rfl rfl NZ rfl rfl rfl rfl rfl (by repeat (first | exact .h | apply aI.t)) rfl (by simp only [List.length_map]; omega) rfl rfl ?_)) <;> intro kp <;> refine ⟨_, .comp rfl, ?_⟩)) <;> (iterate 2 refine .cq hX rfl rfl rfl ?_) <;> (refine .nil ⟨?_, .intro rfl ?_⟩ <;> (repeat' (first | exact trivial | exact .inl rfl | refine ⟨?_, ?_⟩)))) | (refine X 14 ?_; (iterate 2 refine J Z ?_) <;> ((refine .cons (ji 2 Z Z ?_ ?_)) <;> (intro _; first | (exfalso; omega) | skip)) <;> (iterate 2 refine J Z ?_) <;> (first | (refine J Z ?_) | (refine .cons (fQ (r := sB (gW (cutAt 32 t) 0)) (j := 0) hX Z Z Z Z Z .h (aN [] (by omega)) Z Z Z ?_))) <;> (refine J Z ?_) <;> (first | (refine J Z ?_) | (refine .cons (fk (hws 0).1 zg Z Z Z Z Z ?_ ?_)) <;> (intro _)) <;> (iterate 2 refine J Z ?_) <;> (refine Y Z ?_)) | (refine ag.draw (id := 15) ax [0, 1, 2, 3, 4, 5, 6, 7, 8, 9] #[0, 1, 0, 4, 12, 28, 60, 127, 255, 511] (by kernel_rfl) (by kernel_rfl) (by kernel_rfl) ?_; (refine .cq hX rfl rfl rfl ?_) <;> ((refine .cons rfl (q hX rfl ?_)) <;> refine ⟨_, .fw hX.ax rfl rfl rfl rfl rfl rfl rfl rfl (beL (by assumption)) rfl rfl rfl, ?_⟩) <;> (refine .cq hX rfl rfl rfl ?_) <;> ((refine .cons rfl (jh (j := 1) hX rfl rfl rfl rfl rfl (by omega) rfl rfl ?_)) <;> refine ⟨_, .comp rfl, ?_⟩) <;> ((refine gp.Cn (k := kw) (off := 0) (j := 1) (rows := (cutAt 32 t).map sB) hX rfl rfl rfl rfl rfl rfl rfl rfl .h (aN [] (by omega)) (suB rfl) rfl rfl ?_)) <;> (iterate 2 refine .cq hX rfl rfl rfl ?_) <;> (((refine gp.pI rfl ?_); (refine .cons rfl (sZ hX rfl rfl rfl rfl rfl rfl rfl rfl rfl rfl rfl rfl NZ rfl rfl rfl rfl rfl (by repeat (first | exact .h | apply aI.t)) rfl (by simp only [List.length_map]; omega) rfl rfl ?_)) <;> intro kp <;> refine ⟨_, .comp rfl, ?_⟩)) <;> (iterate 2 refine .cq hX rfl rfl rfl ?_) <;> (refine .nil ⟨?_, .intro rfl ?_⟩ <;> (repeat' (first | exact trivial | exact .inl rfl | refine ⟨?_, ?_⟩)))) | (refine X 16 ?_; (iterate 2 refine J Z ?_) <;> ((refine .cons (ji 3 Z Z ?_ ?_)) <;> (intro _; first | (exfalso; omega) | skip)) <;> (iterate 2 refine J Z ?_) <;> (first | (refine J Z ?_) | (refine .cons (fQ (r := sB (gW (cutAt 32 t) 0)) (j := 0) hX Z Z Z Z Z .h (aN [] (by omega)) Z Z Z ?_))) <;> (refine J Z ?_) <;> (first | (refine J Z ?_) | (refine .cons (fk (hws 0).1 s8 Z Z Z Z Z ?_ ?_)) <;> (intro _)) <;> (iterate 2 refine J Z ?_) <;> (refine Y Z ?_)) | (refine ag.draw (id := 17) ax [0, 1, 2, 3, 4, 5, 6, 7, 8, 9, 10, 11, 12, 13] #[0, 1, 0, 4, 12, 0, 32, 96, 224, 508, 1020, 2047, 4095, 8191] (by kernel_rfl) (by kernel_rfl) (by kernel_rfl) ?_; (refine .cq hX rfl rfl rfl ?_) <;> ((refine .cons rfl (q hX rfl ?_)) <;> refine ⟨_, .fw hX.ax rfl rfl rfl rfl rfl rfl rfl rfl (beL (by assumption)) rfl rfl rfl, ?_⟩) <;> (refine .cq hX rfl rfl rfl ?_) <;> ((refine .cons rfl (jh (j := 1) hX rfl rfl rfl rfl rfl (by omega) rfl rfl ?_)) <;> refine ⟨_, .comp rfl, ?_⟩) <;> ((refine gp.Cn (k := kw) (off := 0) (j := 1) (rows := (cutAt 32 t).map sB) hX rfl rfl rfl rfl rfl rfl rfl rfl .h (aN [] (by omega)) (suB rfl) rfl rfl ?_)) <;> (refine .cq hX rfl rfl rfl ?_) <;> ((refine .cons rfl (jh (j := 2) hX rfl rfl rfl rfl rfl (by omega) rfl rfl ?_)) <;> refine ⟨_, .comp rfl, ?_⟩) <;> ((refine gp.Cn (k := kw) (off := 0) (j := 2) (rows := (cutAt 32 t).map sB) hX rfl rfl rfl rfl rfl rfl rfl rfl .h (aN [] (by omega)) (suB rfl) rfl rfl ?_)) <;> ((refine .cons rfl (ao rfl rfl rfl rfl px rfl rfl (fun h f => bP hK hR (gW (cutAt 32 t) 2) f2.1 f2.2 h f.wf (f.ro (.of hB))) ?_)) <;> refine ⟨_, .comp rfl, ?_⟩) <;> (iterate 2 refine .cq hX rfl rfl rfl ?_) <;> (((refine gp.pI rfl ?_); (refine .cons rfl (sZ hX rfl rfl rfl rfl rfl rfl rfl rfl rfl rfl rfl rfl O9 rfl rfl rfl rfl rfl (by repeat (first | exact .h | apply aI.t)) rfl (by simp only [List.length_map]; omega) rfl rfl ?_)) <;> intro kp <;> refine ⟨_, .comp rfl, ?_⟩)) <;> (iterate 2 refine .cq hX rfl rfl rfl ?_) <;> (refine .nil ⟨?_, .intro rfl ?_⟩ <;> (repeat' (first | exact trivial | exact .inl rfl | exact .inr (.inl ⟨_, _, _, _, rfl, rfl, rfl⟩) | exact .inr (.inr ⟨_, _, _, rfl, (by repeat (first | exact .h | apply aI.t)), (by repeat (first | exact .h | apply aI.t))⟩) | refine ⟨?_, ?_⟩)))) | (refine ag.draw (id := 6) ax [0, 1, 2, 3, 4, 5, 6, 7, 8] #[0, 1, 0, 4, 12, 28, 63, 127, 255] (by kernel_rfl) (by kernel_rfl) (by kernel_rfl) ?_; (refine .cq hX rfl rfl rfl ?_) <;> ((refine .cons rfl (q hX rfl ?_)) <;> refine ⟨_, .fw hX.ax rfl rfl rfl rfl rfl rfl rfl rfl (beL (by assumption)) rfl rfl rfl, ?_⟩) <;> (refine .cq hX rfl rfl rfl ?_) <;> ((refine gp.MJ (j := 1) hX rfl rfl rfl rfl rfl rfl rfl rfl rfl hk0 rfl rfl ?_)) <;> ((refine .cons rfl (ao rfl rfl rfl rfl NI rfl rfl (fun h f => Fb hK hL hR kw (cutAt 32 t) hwf hk0 h f.wf (f.ro (.of hB)) (aH.rd (f.pick .h))) ?_)) <;> refine ⟨_, .comp rfl, ?_⟩) <;> (refine .cq hX rfl rfl rfl ?_) <;> (((refine gp.pI rfl ?_); (refine .cons rfl (sZ hX rfl rfl rfl rfl rfl rfl rfl rfl rfl rfl rfl rfl O8 rfl rfl rfl rfl rfl (by repeat (first | exact .h | apply aI.t)) rfl (by simp only [List.length_map]; omega) rfl rfl ?_)) <;> intro kp <;> refine ⟨_, .comp rfl, ?_⟩)) <;> (iterate 2 refine .cq hX rfl rfl rfl ?_) <;> (refine .nil ⟨?_, .intro rfl ?_⟩ <;> (repeat' (first | exact trivial | exact .inl rfl | exact .inr (.inl ⟨_, _, _, _, rfl, rfl, rfl⟩) | refine ⟨?_, ?_⟩)))) | (refine X 18 ?_; (refine .cons (qa Z Z Z Z Z (wI (by first | omega | (simp only [Int.ofNat_eq_natCast]; omega)) (by first | omega | (simp only [Int.ofNat_eq_natCast]; omega))) Z Z ?_)) <;> (refine J Z ?_) <;> (refine Y Z ?_)) | refine ag.t_ rfl ?_ | refine ag.f_ rfl ?_ | refine aw.b_ ?_)
   all_goals first
    | (rw [Ch et (by assumption) (by assumption)] at gn hA; exact next ⟨i + 1, { c with name := gW (cutAt 32 t) 1, «local» := eD (gW (cutAt 32 t) 3) }, _, _, _⟩ _ _ _ (by simp only; omega) ⟨⟨rfl, rfl, rfl, rfl, rfl, rfl, rfl, trivial⟩, ⟨_, rfl⟩, ⟨_, by exact .cons (by repeat (first | exact .h | apply aI.t)) (.cons (by repeat (first | exact .h | apply aI.t)) (.cons (by repeat (first | exact .h | apply aI.t)) (.cons (by repeat (first | exact .h | apply aI.t)) .nil)))⟩⟩ ⟨by simp only; omega, gn, hA⟩)
    | (rw [EY et (by assumption) (by assumption)] at gn hA; exact next ⟨i + 1, { c with params := c.params ++ [(gW (cutAt 32 t) 1, true)] }, _, _, _⟩ _ _ _ (by simp only; omega) ⟨⟨rfl, rfl, rfl, rfl, rfl, rfl, rfl, trivial⟩, ⟨_, rfl⟩, ⟨_, by dsimp only; rw [List.map_append]; exact .cons (by repeat (first | exact .h | apply aI.t)) (.cons (by repeat (first | exact .h | apply aI.t)) (.cons (by repeat (first | exact .h | apply aI.t)) (.cons (by repeat (first | exact .h | apply aI.t)) .nil)))⟩⟩ ⟨by simp only; omega, gn, hA⟩)
    | (rw [EW et (by assumption) (by assumption) (by assumption)] at gn hA; exact next ⟨i + 1, { c with params := c.params ++ [(gW (cutAt 32 t) 1, false)] }, _, _, _⟩ _ _ _ (by simp only; omega) ⟨⟨rfl, rfl, rfl, rfl, rfl, rfl, rfl, trivial⟩, ⟨_, rfl⟩, ⟨_, by dsimp only; rw [List.map_append]; exact .cons (by repeat (first | exact .h | apply aI.t)) (.cons (by repeat (first | exact .h | apply aI.t)) (.cons (by repeat (first | exact .h | apply aI.t)) (.cons (by repeat (first | exact .h | apply aI.t)) .nil)))⟩⟩ ⟨by simp only; omega, gn, hA⟩)
    | (rw [GZ et (by assumption) (by assumption)] at gn hA; exact next ⟨i + 1, { c with shared := c.shared ++ [(gW (cutAt 32 t) 1, eD (gW (cutAt 32 t) 2))] }, _, _, _⟩ _ _ _ (by simp only; omega) ⟨⟨rfl, rfl, rfl, rfl, rfl, rfl, rfl, trivial⟩, ⟨_, rfl⟩, ⟨_, by dsimp only; rw [List.map_append]; exact .cons (by repeat (first | exact .h | apply aI.t)) (.cons (by repeat (first | exact .h | apply aI.t)) (.cons (by repeat (first | exact .h | apply aI.t)) (.cons (by repeat (first | exact .h | apply aI.t)) .nil)))⟩⟩ ⟨by simp only; omega, gn, hA⟩)
    | (rw [EX et (fun q => by first | omega | exact absurd q.2 (by assumption)) (fun q => by first | omega | exact absurd q.2 (by assumption)) (fun q => by first | omega | exact absurd q.2 (by assumption)) (fun q => by first | omega | exact absurd q.2 (by assumption))] at gn hA; exact next ⟨i + 1, { c with ay := c.ay ++ [gf ((cutAt 32 t).drop 1)] }, _, _, _⟩ _ _ _ (by simp only; omega) ⟨⟨rfl, rfl, rfl, rfl, rfl, rfl, rfl, trivial⟩, ⟨_, rfl⟩, ⟨_, by dsimp only; rw [List.map_append]; exact .cons (by repeat (first | exact .h | apply aI.t)) (.cons (by repeat (first | exact .h | apply aI.t)) (.cons (by repeat (first | exact .h | apply aI.t)) (.cons (by repeat (first | exact .h | apply aI.t)) .nil)))⟩⟩ ⟨by simp only; omega, gn, hA⟩)
 ·have hil : i = l.length := by omega
  have hA2 : iE 0 l xh = some c := by rw [hA, hil, List.drop_length, iE]
  have hok : c.Ok := g.ok (by omega)
  have hno : ∀ c', V c' = true → eU c' = s → c.iw.cF = true ∧ eU c.zb = s := fun c' hv ht => by
   have e := hA0 c' hv ht
   rw [hA2] at e
   cases e
   rw [Df, tC]
   exact ⟨DS hv, ht⟩
  refine ag.fact (p := dA sv = some c.shared.length) (fun h f => by have := (aH.rd (f.pick (.t .h))).slice.len; simpa using this) fun hls2 => ?_
  refine ag.fact (p := dA pv = some c.params.length) (fun h f => by have := (aH.rd (f.pick (.t (.t .h)))).slice.len; simpa using this) fun hlp => ?_
  refine ag.fact (p := dA iv = some c.ay.length) (fun h f => by have := (aH.rd (f.pick .h)).slice.len; simpa using this) fun hli => ?_
  cases hv : c.iw.cF with
  | false =>
   repeat' (first | refine aw.a_ ?_ | refine ag.s_ ?_ | (refine X 19 ?_; (refine J Z ?_) <;> (refine .cons (ao Z Z Z Z Mx Z Z (fun h f => (hv ▸ wR hK c.iw pv sv iv h f.wf (f.ro (.of hB)) hok.ok (MA (aH.rd (f.pick (by repeat (first | exact .h | apply aI.t)))) (aH.rd (f.pick (by repeat (first | exact .h | apply aI.t)))) (aH.rd (f.pick (by repeat (first | exact .h | apply aI.t))))))) ?_)) <;> (iterate 7 refine J Z ?_) <;> (refine Y Z ?_)) | (refine X 20 ?_; (iterate 3 refine J Z ?_) <;> (refine Y Z ?_)) | refine ag.r_ ?_ | refine aw.d_ ?_ | refine ag.t_ rfl ?_ | refine aw.r_ hX rfl ?_)
   exact fun h f => ⟨[], f.aS.bx .nil, .inr ⟨fun c' h1 h2 => (by have := (hno c' h1 h2).1; rw [hv] at this; cases this), rfl, rfl⟩⟩
  | true =>
   have hV := CZ hok hv
   repeat' (first | refine aw.a_ ?_ | refine ag.s_ ?_ | (refine X 19 ?_; (refine J Z ?_) <;> (refine .cons (ao Z Z Z Z Mx Z Z (fun h f => (hv ▸ wR hK c.iw pv sv iv h f.wf (f.ro (.of hB)) hok.ok (MA (aH.rd (f.pick (by repeat (first | exact .h | apply aI.t)))) (aH.rd (f.pick (by repeat (first | exact .h | apply aI.t)))) (aH.rd (f.pick (by repeat (first | exact .h | apply aI.t))))))) ?_)) <;> (iterate 3 refine J Z ?_) <;> (refine .cons (ao Z Z Z Z NU Z Z (fun h f => Bi hK hL c hok hv pv sv iv h f.wf (f.ro (.of hB)) (MA (aH.rd (f.pick (by repeat (first | exact .h | apply aI.t)))) (aH.rd (f.pick (by repeat (first | exact .h | apply aI.t)))) (aH.rd (f.pick (by repeat (first | exact .h | apply aI.t)))))) ?_)) <;> (refine J Z ?_) <;> ((refine .cons (K7 (rh (lB hV)) hb Z Z Z Z Z ?_ ?_)) <;> (intro _)) <;> (refine J Z ?_) <;> (refine Y Z ?_)) | (refine X 20 ?_; (iterate 3 refine J Z ?_) <;> (refine Y Z ?_)) | (refine X 21 ?_; (iterate 3 refine J Z ?_) <;> (refine Y Z ?_)) | refine ag.r_ ?_ | refine aw.d_ ?_ | refine ag.t_ rfl ?_ | refine ag.f_ rfl ?_ | refine ag.k_ ?_ | refine aw.r_ hX rfl ?_)
   ·rename_i e
    exact fun h f => ⟨[], f.aS.bx .nil, .inr ⟨fun c' h1 h2 => e (hno c' h1 h2).2, rfl, rfl⟩⟩
   ·rename_i e
    exact fun h f => ⟨_, f.aS.bx (.cons (by repeat (first | exact .h | apply aI.t)) (.cons (by repeat (first | exact .h | apply aI.t)) (.cons (by repeat (first | exact .h | apply aI.t)) .nil))), .inl ⟨c.zb, pv, sv, iv, hV, e, by rw [y0 hv]; rfl, (wU hv pv sv iv).symm⟩⟩
end Ev
end Go.HL
