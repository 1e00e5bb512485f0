/- The walk: the program reads a text. No statement of the seat stands here. -/
import Derived.Test.YtngeipnhbigdmaaGreatDoorAA
import Derived.Test.YtngeipnhbigdmaaGreatDoorXC
import Derived.Test.YtngeipnhbigdmaaGreatDoorVD
set_option linter.unusedVariables false
set_option linter.unusedSimpArgs false
namespace Go.HL
open Go Go.Proofs
namespace Ev
open Em
set_option maxRecDepth 10000
variable {K : ah} {base : List (Nat × aG)}
theorem Ms : az P 160 := ⟨_, _, Tryz.func160, rfl, by kernel_rfl, rfl⟩
theorem Pg : az P 254 := ⟨_, _, Tryz.func254, rfl, by kernel_rfl, rfl⟩
theorem Gw (hR : KR base K) (b : List Nat) (hb : dM b) (hl : b.length ≤ 1000000) (h : Heap) (w : Wf h) (hB : (lies base).holds h) : Sp P K 90 [aY b, .int .i64 10, .int .i64 64] h (iw (.tuple [.int .i64 (eH b), .bad]) h) := Sp.known (hR.parse h b hB hb hl) ⟨rfl, fU.refl w⟩
theorem vA (hR : KR base K) (b : List Nat) (c : Nat) (hb : dM b) (hc : c < 256) (hl : b.length ≤ 1000000) (h : Heap) (w : Wf h) (hB : (lies base).holds h) : Sp P K 48 [aY b, .str 1 c] h (Tr (NZ (cutAt c b)) h) := by
 refine Sp.known (hR.split h b c hB hb hc hl) ⟨_, ?_, h.next, rfl, rfl⟩
 have hl : ((cutAt c b).map sB).flatten = (cutAt c b).map aY := by
  generalize cutAt c b = l
  induction l with
  | nil => rfl
  | cons x l ih => rw [List.map_cons, List.flatten_cons, ih]; rfl
 have mk := jL w (.cells ((cutAt c b).map aY) 9 false true)
 exact Ai _ mk ((ft (e := 9) (s := false) (cutAt c b) hl).holds _ mk.get) (ft (e := 9) (s := false) (cutAt c b) hl).dR
theorem bR (hK : KN base K) (hR : KR base K) (b : List Nat) (hb : dM b) (hl : b.length ≤ 1000000) (h : Heap) (w : Wf h) (hB : (lies base).holds h) : Sp P K 49 [aY b] h (iw (.int .i64 (eH b)) h) := by
 refine Sp.start (m := 13) (n := 11) w (hK.none 49 rfl rfl _ _) Tryz.func49 rfl rfl (by kernel_rfl) rfl rfl ?_
 repeat' (first | refine ax.a_ ?_ | refine ai.s_ ?_ | (refine X 0 ?_; (refine J Z ?_) <;> (refine Y Z ?_)) | (refine X 1 ?_; (refine J Z ?_) <;> (refine .cons (aE Z Z Z Z Qw Z Z (fun h f => Gw hR b hb hl h f.wf (f.ro (.of hB))) ?_)) <;> (iterate 5 refine J Z ?_) <;> (refine Y Z ?_)) | (refine X 2 ?_; (iterate 2 refine J Z ?_) <;> (refine Y Z ?_)) | refine ai.r_ ?_ | refine ax.r_ hX rfl ?_)
 exact fun h f => ⟨rfl, f.aZ⟩
theorem EJ {b : List Nat} (h : 1 ≤ b.length) : ((b.take 1).length = 1 ∧ aO (b.take 1) 0 = 114) ↔ nr b = true := by
 cases b with
 | nil => simp at h
 | cons x b => simp [nr, aO]
theorem yp (hK : KN base K) (b : List Nat) (hb : dM b) (hl : b.length ≤ 1000000) (h : Heap) (w : Wf h) : Sp P K 160 [aY b, .str 1 114] h (iw (.bool (nr b)) h) := by
 refine Sp.start (m := 19) (n := 18) w (hK.none 160 rfl rfl _ _) Tryz.func160 rfl rfl (by kernel_rfl) rfl rfl ?_
 repeat' (first | refine ax.a_ ?_ | refine ai.s_ ?_ | (refine X 0 ?_; (refine J Z ?_) <;> (refine Y Z ?_)) | (refine X 1 ?_; (iterate 4 refine J Z ?_) <;> ((refine .cons (qc Z ?_ ?_)) <;> intro _) <;> (iterate 4 refine J Z ?_) <;> (first | (refine J Z ?_) | (refine .cons (Ov (bs := b) (lo := 0) (hi := 1) (r := b.take 1) hX Z Z Z Z Z (by omega) (by omega) hb Z Z Z ?_))) <;> (refine J Z ?_) <;> (first | (refine J Z ?_) | (refine .cons (PE (u' := 1) (c' := 114) Z Z Z Z Z ?_ ?_)) <;> (intro _)) <;> (iterate 2 refine J Z ?_) <;> (refine Y Z ?_)) | refine ai.r_ ?_ | refine ax.r_ hX rfl ?_)
 ·rename_i h1 h2
  exact fun h f => ⟨by rw [(EJ (by omega)).1 h2]; rfl, f.aZ⟩
 ·rename_i h1 h2
  exact fun h f => ⟨by rw [Bool.eq_false_iff.2 fun e => h2 ((EJ (by omega)).2 e)]; rfl, f.aZ⟩
 ·rename_i h1
  have e : b = [] := List.eq_nil_of_length_eq_zero (by omega)
  subst e
  exact fun h f => ⟨rfl, f.aZ⟩
theorem pI (hK : KN base K) (hR : KR base K) (b : List Nat) (hb : dM b) (hl : b.length ≤ 1000000) (h : Heap) (w : Wf h) : Sp P K 91 [aY b, .str 1 114] h (iw (.bool (nr b)) h) := by
 refine Sp.start (m := 19) (n := 8) w (hR.free 91 rfl _ _) Tryz.func91 rfl rfl (by kernel_rfl) rfl rfl ?_
 repeat' (first | refine ax.a_ ?_ | refine ai.s_ ?_ | (refine X 0 ?_; (refine J Z ?_) <;> (refine Y Z ?_)) | (refine X 1 ?_; (iterate 2 refine J Z ?_) <;> (refine .cons (aE Z Z Z Z Ms Z Z (fun h f => yp hK b hb hl h f.wf) ?_)) <;> (refine J Z ?_) <;> (refine Y Z ?_)) | refine ai.r_ ?_ | refine ax.r_ hX rfl ?_)
 exact fun h f => ⟨rfl, f.aZ⟩
theorem Ga (hK : KN base K) (b : List Nat) (hb : dM b) (hl : b.length ≤ 1000000) (h : Heap) (w : Wf h) : Sp P K 254 [aY b, .str 1 114] h (iw (aY (if nr b = true then b.tail else b)) h) := by
 have hp : nr b = true → 1 ≤ b.length ∧ b.drop 1 = b.tail := by
  cases b with
  | nil => intro e; simp [nr] at e
  | cons x b => intro _; exact ⟨by simp, rfl⟩
 refine Sp.start (m := 147) (n := 13) w (hK.none 254 rfl rfl _ _) Tryz.func254 rfl rfl (by kernel_rfl) rfl rfl ?_
 repeat' (first | refine ax.a_ ?_ | refine ai.s_ ?_ | (refine X 0 ?_; (refine J Z ?_) <;> (refine Y Z ?_)) | (refine X 1 ?_; (iterate 2 refine J Z ?_) <;> ((refine .cons (dN Z Z Z Z Ms Z Z (fun h f => yp hK b hb hl h f.wf) ?_ ?_)) <;> intro _) <;> (refine Y Z ?_)) | (refine X 2 ?_; (iterate 3 refine J Z ?_) <;> (refine .cons (Ov (bs := b) (lo := 1) (hi := b.length) (r := b.tail) hX Z Z Z Z Z (hp (by assumption)).1 (by omega) hb (by rw [List.take_length]; exact (hp (by assumption)).2) Z Z ?_)) <;> (refine J Z ?_) <;> (refine Y Z ?_)) | (refine X 3 ?_; (iterate 2 refine J Z ?_) <;> (refine Y Z ?_)) | refine ai.r_ ?_ | refine ax.d_ ?_ | refine ai.t_ rfl ?_ | refine ai.f_ rfl ?_ | refine ai.k_ ?_ | refine ax.r_ hX rfl ?_)
 ·rename_i e
  exact fun h f => ⟨by rw [e, if_pos rfl]; rfl, f.aZ⟩
 ·rename_i e
  exact fun h f => ⟨by rw [e, if_neg (by decide)]; rfl, f.aZ⟩
theorem I4 (hK : KN base K) (hR : KR base K) (b : List Nat) (hb : dM b) (hl : b.length ≤ 1000000) (h : Heap) (w : Wf h) : Sp P K 162 [aY b, .str 1 114] h (iw (aY (if nr b = true then b.tail else b)) h) := by
 refine Sp.start (m := 19) (n := 8) w (hR.free 162 rfl _ _) Tryz.func162 rfl rfl (by kernel_rfl) rfl rfl ?_
 repeat' (first | refine ax.a_ ?_ | refine ai.s_ ?_ | (refine X 0 ?_; (refine J Z ?_) <;> (refine Y Z ?_)) | (refine X 1 ?_; (iterate 2 refine J Z ?_) <;> (refine .cons (aE Z Z Z Z Pg Z Z (fun h f => Ga hK b hb hl h f.wf) ?_)) <;> (refine J Z ?_) <;> (refine Y Z ?_)) | refine ai.r_ ?_ | refine ax.r_ hX rfl ?_)
 exact fun h f => ⟨rfl, f.aZ⟩
theorem bL (hK : KN base K) (hR : KR base K) (b : List Nat) (hb : dM b) (hl : b.length ≤ 1000000) (h : Heap) (w : Wf h) (hB : (lies base).holds h) : Sp P K 93 [aY b] h (iw (.int .i64 (nf b)) h) := by
 have hb2 : dM (if nr b = true then b.tail else b) := by split; exact fun x hx => hb x (List.mem_of_mem_tail hx); exact hb
 have hl2 : (if nr b = true then b.tail else b).length ≤ 1000000 := by split; (rw [List.length_tail]; omega); exact hl
 refine Sp.start (m := 5) (n := 6) w (hK.none 93 rfl rfl _ _) Tryz.func93 rfl rfl (by kernel_rfl) rfl rfl ?_
 repeat' (first | refine ax.a_ ?_ | refine ai.s_ ?_ | (refine X 0 ?_; (refine J Z ?_) <;> (refine Y Z ?_)) | (refine X 1 ?_; (refine J Z ?_) <;> (refine .cons (aE Z Z Z Z Pm Z Z (fun h f => I4 hK hR b hb hl h f.wf) ?_)) <;> (refine .cons (aE Z Z Z Z qz Z Z (fun h f => bR hK hR (if nr b = true then b.tail else b) hb2 hl2 h f.wf (f.ro (.of hB))) ?_)) <;> (refine J Z ?_) <;> (refine Y Z ?_)) | refine ai.r_ ?_ | refine ax.r_ hX rfl ?_)
 exact fun h f => ⟨rfl, f.aZ⟩
theorem JD {l : List (List Nat)} {s : List Nat} {a : Nat} (ha : a < l.length) (hn : ∀ j, j < a → l.getD j [] ≠ s) (he : l.getD a [] = s) : dQ l s = (a : Int) := by
 have hm : l.getD a [] = l[a] := by simp [List.getD, List.getElem?_eq_getElem ha]
 have he' : l[a] = s := by rw [← hm, he]
 have hmem : s ∈ l := he' ▸ List.getElem_mem ha
 unfold dQ
 rw [if_pos hmem]
 have h1 : l.idxOf s < l.length := List.idxOf_lt_length_of_mem hmem
 have h2 : l[l.idxOf s] = s := List.getElem_idxOf h1
 have h3 : ¬ l.idxOf s < a := fun hh => hn _ hh (by simp [List.getD, List.getElem?_eq_getElem h1, h2])
 have h4 : l.idxOf s ≤ a := by
  rcases Nat.lt_or_ge a (l.idxOf s) with hh | hh
  ·have h5 := List.not_of_lt_findIdx (p := (· == s)) (xs := l) hh
   simp [he'] at h5
  ·exact hh
 have : l.idxOf s = a := by omega
 rw [this]
theorem JC {l : List (List Nat)} {s : List Nat} (hn : ∀ j, j < l.length → l.getD j [] ≠ s) : dQ l s = -1 := by
 unfold dQ
 rw [if_neg]
 intro hm
 obtain ⟨j, hj, e⟩ := List.getElem_of_mem hm
 exact hn j hj (by simp [List.getD, List.getElem?_eq_getElem hj, e])
theorem rH (hK : KN base K) (s : aa) (l : List (List Nat)) (t : List Nat) (hl : l.length ≤ 1000000) (hb : ∀ x ∈ l, dM x) (ht : dM t) (h : Heap) (w : Wf h) (hs : (rd s 1 (l.map sB)).holds h) : Sp P K 161 [s, aY t] h (iw (.int .i64 (dQ l t)) h) := by
 have hln : dO s = some l.length := by have := hs.slice.len; simpa using this
 refine Sp.start (m := 67571) (n := 19) w (hK.none 161 rfl rfl _ _) Tryz.func161 rfl rfl L6 rfl rfl ?_
 repeat' (first | refine ax.a_ ?_ | refine ai.s_ ?_ | (refine X 0 ?_; (refine J Z ?_) <;> (refine Y Z ?_)) | (refine X 1 ?_; (refine J Z ?_) <;> (refine .cons (ql hX Z Z Z Z Z Z (by assumption) Z Z ?_)) <;> (refine J Z ?_) <;> (refine Y Z ?_)) | refine ai.b_ ?_)
 refine ai.loop (fun a => [(9, .ext (i64 a)), (8, .ext (i64 l.length)), (7, .ext s), (1, .ext (aY t))]) (fun _ => []) (fun _ => []) (fun a => a ≤ l.length ∧ ∀ j, j < a → l.getD j [] ≠ t) (fun a => l.length - a) 0 ⟨⟨rfl, rfl, rfl, rfl, trivial⟩, ⟨_, rfl⟩, ⟨_, .nil⟩⟩ ⟨Nat.zero_le _, fun j hj => absurd hj (by omega)⟩ (fun _ => rfl) (fun _ => rfl) (fun _ => rfl) ?_
 rintro a ⟨ha, hne⟩ next
 repeat' (first | refine ax.a_ ?_ | refine ai.s_ ?_ | (refine X 2 ?_; ((refine .cons (qc Z ?_ ?_)) <;> intro _) <;> (refine Y Z ?_)) | (refine X 7 ?_; (refine J Z ?_) <;> (refine Y Z ?_)) | refine ai.r_ ?_ | refine ai.t_ rfl ?_ | refine ai.f_ rfl ?_ | refine ai.k_ ?_ | refine ai.b_ ?_ | refine ai.e_ ?_ | refine ax.e_ ?_ | refine ax.c_ ?_ | refine ax.r_ hX rfl ?_)
 ·have hal : a < l.length := by omega
  repeat' (first | refine ax.a_ ?_ | refine ai.s_ ?_ | (refine X 3 ?_; (refine J Z ?_) <;> (refine .cons (bq hX Z Z Z Z Z (.of hs) (aM [] hal) Z Z Z ?_)) <;> (iterate 3 refine J Z ?_) <;> (refine Y Z ?_)) | (refine X 4 ?_; (iterate 2 refine J Z ?_) <;> ((refine .cons (PE (u' := t.length) (c' := aO t 0) Z Z Z Z Z ?_ ?_)) <;> (intro _)) <;> (refine Y Z ?_)) | (refine X 5 ?_; (iterate 2 refine J Z ?_) <;> (refine Y Z ?_)) | (refine X 6 ?_; (refine .cons (qa Z Z Z Z Z (wI (by first | omega | (simp only [Int.ofNat_eq_natCast]; omega)) (by first | omega | (simp only [Int.ofNat_eq_natCast]; omega))) Z Z ?_)) <;> (refine J Z ?_) <;> (refine Y Z ?_)) | refine ai.r_ ?_ | refine ax.d_ ?_ | refine ax.f_ ?_ | refine ai.t_ rfl ?_ | refine ai.f_ rfl ?_ | refine ai.k_ ?_ | refine ax.b_ ?_ | refine ax.r_ hX rfl ?_)
  ·rename_i e
   exact fun h f => ⟨by rw [JD hal hne (by injection (show aY (l.getD a []) = aY t by simp only [aY, e.1, e.2]) with e1 e2; exact jD (hb _ (bh [] hal)) ht (by simp only [aY, e1, e2]))]; rfl, f.aZ⟩
  ·rename_i e
   refine next (a + 1) _ _ _ (by omega) ⟨⟨rfl, rfl, rfl, rfl, trivial⟩, ⟨_, rfl⟩, ⟨_, .nil⟩⟩ ⟨by omega, fun j hj => ?_⟩
   by_cases hja : j = a
   ·rw [hja]; exact fun hn => e (by rw [hn]; exact ⟨rfl, rfl⟩)
   ·exact hne j (by omega)
 ·have hal : a = l.length := by omega
  subst hal
  repeat' (first | fail)
  exact fun h f => ⟨by rw [JC hne]; rfl, f.aZ⟩
theorem Lm : ∀ x ∈ BW, ∀ b ∈ x, b < 256 := by decide
theorem BV (hK : KN base K) (t : List Nat) (ht : dM t) (h : Heap) (w : Wf h) : Sp P K 94 [aY t] h (iw (.int .i64 (wQ t)) h) := by
 have hn : ∀ {k : Nat}, dQ BW t = k → k < 6 := by
  intro k e
  unfold dQ at e
  split at e
  ·rename_i hm
   have : BW.idxOf t < BW.length := List.idxOf_lt_length_of_mem hm
   have h6 : BW.length = 6 := rfl
   omega
  ·omega
 have hb : ∀ x ∈ BW, dM x := Lm
 refine Sp.start (m := 16445) (n := 19) w (hK.none 94 rfl rfl _ _) Tryz.func94 rfl rfl (by kernel_rfl) rfl rfl ?_
 repeat' (first | refine ax.a_ ?_ | refine ai.s_ ?_ | (refine X 0 ?_; (refine J Z ?_) <;> (refine Y Z ?_)) | (refine X 1 ?_; ((refine .cons (fD Z Z Z Z Mr Z Z (fun h f => p5 hK h f.wf) ?_)) <;> (rintro v C' ⟨k, k2, rfl, rfl⟩)) <;> (iterate 5 refine J Z ?_) <;> (refine Y Z ?_)) | (refine X 2 ?_; (iterate 2 refine J Z ?_) <;> (refine .cons (aE Z Z Z Z FE Z Z (fun h f => rH hK (.slice k 0 6 (some 6)) BW t (by decide) hb ht h f.wf (aL.rd (f.pick (.t .h)))) ?_)) <;> (refine J Z ?_) <;> (refine Y Z ?_)) | (refine X 3 ?_; (refine J Z ?_) <;> ((refine .cons (qc Z ?_ ?_)) <;> intro _) <;> (refine Y Z ?_)) | (refine X 5 ?_; (refine J Z ?_) <;> (refine Y Z ?_)) | refine ai.r_ ?_ | refine ai.t_ rfl ?_ | refine ai.f_ rfl ?_ | refine ai.k_ ?_ | refine ax.r_ hX rfl ?_)
 ·rename_i e
  obtain ⟨a, ha⟩ := Int.eq_ofNat_of_zero_le e
  have ha6 := hn ha
  have hr : (dQ BW t).toNat = a := by omega
  have hf : wQ t = ((Kw.getD a 0 : Nat) : Int) := by rw [wQ, if_pos e, hr]
  repeat' (first | refine ax.a_ ?_ | (refine X 4 ?_; (iterate 2 refine J Z ?_) <;> (refine .cons (Iy (r := nB (Kw.getD (dQ BW t).toNat 0)) hX Z Z Z Z Z (by omega) .h (aM 0 (by show _ < 6; omega)) Z Z Z ?_)) <;> (iterate 2 refine J Z ?_) <;> (refine Y Z ?_)) | refine ai.r_ ?_ | refine ax.d_ ?_ | refine ax.r_ hX rfl ?_)
  exact fun h f => ⟨by rw [hf, hr]; rfl, f.aZ.bu .nil⟩
 ·rename_i e
  exact fun h f => ⟨by rw [wQ, if_neg e]; rfl, f.aZ.bu .nil⟩
end Ev
end Go.HL
namespace Go.HL
open Go Go.Proofs
namespace Ev
open Em
set_option maxRecDepth 10000
set_option maxHeartbeats 8000000
variable {K : ah} {base : List (Nat × aG)}
section
variable {aw : iO} {zl : List (Nat × List aa)} {E : eK} {ops : Array Oper} {o : Oper} {L : SL} {B : List bX} {G : List Part} {m n : Nat} {R : SL → List bX → List Part → Prop} {P : Program}
theorem pW {t p : Nat} {x y : Operand} {a b : List Nat} (ha : dM a) (hb : dM b) (ho : o.op = .binOp .eql t x y p) (hx : cU P L x = some (aY a)) (hy : cU P L y = some (aY b)) (hw : aT ops o L = some true) (hf : fits o.dst n = true) (h1 : a = b → R (bm o.dst (.ext (.bool true)) L) B G) (h0 : a ≠ b → R (bm o.dst (.ext (.bool false)) L) B G) : bW P K E ops o L B G m n R :=
 PE ho hx hy hw hf (fun e => h1 (jD ha hb (by simp only [aY, e.1, e.2]))) fun e => h0 fun e' => e (by rw [e']; exact ⟨rfl, rfl⟩)
end
theorem CR : ∀ b ∈ vm, b < 256 := by decide
theorem vn : ∀ b ∈ fu, b < 256 := by decide
theorem vq : ∀ b ∈ pP, b < 256 := by decide
theorem Cx (hK : KN base K) (a : Nat) (ha : a < 20) (h : Heap) (w : Wf h) : Sp P K 142 [i64 a] h (iw (aY (bT.getD a [])) h) := uu hK (a : Int) (by omega) (by omega) h w
theorem NU : ∀ x ∈ bT, ∀ b ∈ x, b < 256 := by decide
theorem EP : ∀ x ∈ qF, ∀ b ∈ x, b < 256 := by decide
theorem ME : ∀ x ∈ uT, ∀ b ∈ x, b < 256 := by decide
def Fair (l : List (List Nat)) : Prop := l.length ≤ 1000000 ∧ ∀ x ∈ l, dM x ∧ x.length ≤ 1000000
theorem Fair.at {l : List (List Nat)} (f : Fair l) (i : Nat) : dM (gW l i) ∧ (gW l i).length ≤ 1000000 := by
 rcases Nat.lt_or_ge i l.length with h | h
 ·exact f.2 _ (bh [] h)
 ·have : gW l i = [] := by simp [gW, List.getD, List.getElem?_eq_none h]
  rw [this]; exact ⟨fun x hx => (nomatch hx), Nat.zero_le _⟩
theorem Am (hK : KN base K) (hL : KL base K) (hR : KR base K) (d : Int) (v : aa) (l : List (List Nat)) (hf : Fair l) (h : Heap) (w : Wf h) (hB : (lies base).holds h) (hs : (rd v 1 (l.map sB)).holds h) : Sp P K 92 [.int .i64 d, v] h (iw (.agg (eo (ke d l))) h) := by
 have hln : dO v = some l.length := by have := hs.slice.len; simpa using this
 have b0 := hf.at 0
 have b1 := hf.at 1
 have b2 := hf.at 2
 have b3 := hf.at 3
 refine Sp.start (m := 1517496042198921570502388987760221864113213683) (n := 171) w (hK.none 92 rfl rfl _ _) Tryz.func92 rfl rfl MY rfl rfl ?_
 repeat' (first | refine ax.a_ ?_ | refine ai.s_ ?_ | (refine X 0 ?_; (refine J Z ?_) <;> (refine Y Z ?_)) | (refine X 1 ?_; (iterate 4 refine J Z ?_) <;> (refine Y Z ?_)) | (refine X 2 ?_; (refine J Z ?_) <;> (refine .cons (ql hX Z Z Z Z Z Z (by assumption) Z Z ?_)) <;> (refine J Z ?_) <;> (refine Y Z ?_)) | (refine ai.draw (id := 3) aw [0, 1, 2, 4, 5, 6, 3, 7, 8, 9, 10] #[0, 1, 3, 7, 7, 23, 55, 127, 255, 511, 1023] (by kernel_rfl) (by kernel_rfl) (by kernel_rfl) ?_; (refine O Z Z Z ?_) <;> ((refine .cons Z (lG 1 Z Z ?_ ?_)) <;> (intro _; first | (exfalso; omega) | skip) <;> refine W_ Z ?_) <;> (iterate 2 refine O Z Z Z ?_) <;> (first | (refine .cons Z (q hX Z ?_)) <;> refine W_ Z ?_ | (refine .cons Z (bq (j := 0) hX Z Z Z Z Z (.of hs) (aM [] (by omega)) Z Z Z ?_)) <;> refine W_ Z ?_) <;> ((refine .cons Z (q hX Z ?_)) <;> (first | refine ⟨_, .je hX.aw Z Z Z Z Z Z Z Z (suB Z) Z Z Z, ?_⟩ | refine W_ Z ?_)) <;> (first | (refine .cons Z (q hX Z ?_)) <;> refine W_ Z ?_ | (refine .cons Z (fD Z Z Z Z K9 Z Z (fun h f => mq hK h f.wf) ?_)) <;> (rintro v C' ⟨k, rfl, rfl⟩) <;> refine W_ Z ?_) <;> (first | (refine .cons Z (q hX Z ?_)) <;> refine W_ Z ?_ | (refine .cons Z (aE Z Z Z Z FE Z Z (fun h f => rH hK (.slice k 0 4 (some 4)) qF (gW l 0) (by decide) EP b0.1 h f.wf (aL.rd (f.pick .h))) ?_)) <;> refine W_ Z ?_) <;> (first | (refine .cons Z (q hX Z ?_)) <;> refine W_ Z ?_ | (refine .cons Z (qc Z ?_ ?_)) <;> intro _ <;> refine W_ Z ?_) <;> (iterate 2 refine O Z Z Z ?_) <;> (refine .nil ⟨?_, .intro Z ?_⟩ <;> (repeat' (first | exact trivial | exact .inl Z | refine ⟨?_, ?_⟩)))) | (refine ai.draw (id := 4) aw [1, 2, 3, 5, 0, 4, 6, 7, 8] #[0, 0, 2, 6, 15, 0, 63, 127, 255] (by kernel_rfl) (by kernel_rfl) (by kernel_rfl) ?_; (refine O Z Z Z ?_) <;> ((refine .cons Z (bq (j := 0) hX Z Z Z Z Z (.of hs) (aM [] (by omega)) Z Z Z ?_)) <;> refine W_ Z ?_) <;> ((refine .cons Z (q hX Z ?_)) <;> refine ⟨_, .je hX.aw Z Z Z Z Z Z Z Z (suB Z) Z Z Z, ?_⟩) <;> (refine O Z Z Z ?_) <;> ((refine .cons Z (fD Z Z Z Z K9 Z Z (fun h f => mq hK h f.wf) ?_)) <;> (rintro v C' ⟨k, rfl, rfl⟩) <;> refine W_ Z ?_) <;> ((refine .cons Z (aE Z Z Z Z FE Z Z (fun h f => rH hK (.slice k 0 4 (some 4)) qF (gW l 0) (by decide) EP b0.1 h f.wf (aL.rd (f.pick .h))) ?_)) <;> refine W_ Z ?_) <;> (iterate 3 refine O Z Z Z ?_) <;> (refine .nil ⟨?_, .intro Z ?_⟩ <;> (repeat' (first | exact trivial | exact .inl Z | refine ⟨?_, ?_⟩)))) | (refine X 5 ?_; (refine J Z ?_) <;> ((refine .cons (lG 1 Z Z ?_ ?_)) <;> (intro _; first | (exfalso; omega) | skip)) <;> (iterate 2 refine J Z ?_) <;> (first | (refine J Z ?_) | (refine .cons (bq (j := 0) hX Z Z Z Z Z (.of hs) (aM [] (by omega)) Z Z Z ?_))) <;> (refine J Z ?_) <;> (first | (refine J Z ?_) | (refine .cons (dN Z Z Z Z Pc Z Z (fun h f => pI hK hR (gW l 0) b0.1 b0.2 h f.wf) ?_ ?_)) <;> intro _) <;> (iterate 2 refine J Z ?_) <;> (refine Y Z ?_)) | (refine X 6 ?_; (refine J Z ?_) <;> (refine .cons (bq (j := 0) hX Z Z Z Z Z (.of hs) (aM [] (by omega)) Z Z Z ?_)) <;> (refine J Z ?_) <;> (refine .cons (aE Z Z Z Z tz Z Z (fun h f => bL hK hR (gW l 0) b0.1 b0.2 h f.wf (f.ro (.of hB))) ?_)) <;> (iterate 4 refine J Z ?_) <;> (refine Y Z ?_)) | (refine X 7 ?_; (refine J Z ?_) <;> ((refine .cons (lG 1 Z Z ?_ ?_)) <;> (intro _; first | (exfalso; omega) | skip)) <;> (refine J Z ?_) <;> (refine Y Z ?_)) | (refine X 8 ?_; (refine J Z ?_) <;> (refine .cons (bq (j := 0) hX Z Z Z Z Z (.of hs) (aM [] (by omega)) Z Z Z ?_)) <;> (refine J Z ?_) <;> (refine .cons (aE Z Z Z Z qz Z Z (fun h f => bR hK hR (gW l 0) b0.1 b0.2 h f.wf (f.ro (.of hB))) ?_)) <;> (refine .cons (qw hX Z Z Z Z Z Z Z ?_)) <;> (iterate 4 refine J Z ?_) <;> (refine Y Z ?_)) | (refine X 9 ?_; (refine J Z ?_) <;> ((refine .cons (lG 2 Z Z ?_ ?_)) <;> (intro _; first | (exfalso; omega) | skip)) <;> (iterate 2 refine J Z ?_) <;> (first | (refine J Z ?_) | (refine .cons (bq (j := 0) hX Z Z Z Z Z (.of hs) (aM [] (by omega)) Z Z Z ?_))) <;> (refine J Z ?_) <;> (first | (refine J Z ?_) | (refine .cons (pW b0.1 CR Z Z Z Z Z ?_ ?_)) <;> (intro _)) <;> (iterate 2 refine J Z ?_) <;> (refine Y Z ?_)) | (refine X 10 ?_; (refine J Z ?_) <;> (refine .cons (bq (j := 1) hX Z Z Z Z Z (.of hs) (aM [] (by omega)) Z Z Z ?_)) <;> (refine J Z ?_) <;> (refine .cons (aE Z Z Z Z qz Z Z (fun h f => bR hK hR (gW l 1) b1.1 b1.2 h f.wf (f.ro (.of hB))) ?_)) <;> (refine .cons (qw hX Z Z Z Z Z Z Z ?_)) <;> (iterate 4 refine J Z ?_) <;> (refine Y Z ?_)) | (refine X 11 ?_; (refine J Z ?_) <;> ((refine .cons (lG 2 Z Z ?_ ?_)) <;> (intro _; first | (exfalso; omega) | skip)) <;> (iterate 2 refine J Z ?_) <;> (first | (refine J Z ?_) | (refine .cons (bq (j := 0) hX Z Z Z Z Z (.of hs) (aM [] (by omega)) Z Z Z ?_))) <;> (refine J Z ?_) <;> (first | (refine J Z ?_) | (refine .cons (pW b0.1 vn Z Z Z Z Z ?_ ?_)) <;> (intro _)) <;> (iterate 2 refine J Z ?_) <;> (refine Y Z ?_)) | (refine X 12 ?_; (refine J Z ?_) <;> (refine .cons (bq (j := 1) hX Z Z Z Z Z (.of hs) (aM [] (by omega)) Z Z Z ?_)) <;> (refine J Z ?_) <;> (refine .cons (aE Z Z Z Z qz Z Z (fun h f => bR hK hR (gW l 1) b1.1 b1.2 h f.wf (f.ro (.of hB))) ?_)) <;> (refine .cons (qw hX Z Z Z Z Z Z Z ?_)) <;> (iterate 4 refine J Z ?_) <;> (refine Y Z ?_)) | (refine X 13 ?_; (refine J Z ?_) <;> ((refine .cons (lG 2 Z Z ?_ ?_)) <;> (intro _; first | (exfalso; omega) | skip)) <;> (refine J Z ?_) <;> (refine Y Z ?_)) | (refine X 15 ?_; (refine J Z ?_) <;> ((refine .cons (lG 3 Z Z ?_ ?_)) <;> (intro _; first | (exfalso; omega) | skip)) <;> (iterate 2 refine J Z ?_) <;> (first | (refine J Z ?_) | (refine .cons (bq (j := 0) hX Z Z Z Z Z (.of hs) (aM [] (by omega)) Z Z Z ?_))) <;> (refine J Z ?_) <;> (first | (refine J Z ?_) | (refine .cons (pW b0.1 vq Z Z Z Z Z ?_ ?_)) <;> (intro _)) <;> (iterate 2 refine J Z ?_) <;> (refine Y Z ?_)) | (refine ai.draw (id := 16) aw [0, 1, 2, 5, 6, 7, 9, 3, 4, 8, 10, 11, 12, 13, 14] #[0, 1, 3, 7, 15, 0, 32, 96, 239, 0, 1007, 2047, 4095, 8191, 16383] (by kernel_rfl) (by kernel_rfl) (by kernel_rfl) ?_; (refine O Z Z Z ?_) <;> ((refine .cons Z (bq (j := 1) hX Z Z Z Z Z (.of hs) (aM [] (by omega)) Z Z Z ?_)) <;> refine W_ Z ?_) <;> ((refine .cons Z (q hX Z ?_)) <;> refine ⟨_, .je hX.aw Z Z Z Z Z Z Z Z (suB Z) Z Z Z, ?_⟩) <;> (refine O Z Z Z ?_) <;> ((refine .cons Z (bq (j := 2) hX Z Z Z Z Z (.of hs) (aM [] (by omega)) Z Z Z ?_)) <;> refine W_ Z ?_) <;> ((refine .cons Z (q hX Z ?_)) <;> refine ⟨_, .je hX.aw Z Z Z Z Z Z Z Z (suB Z) Z Z Z, ?_⟩) <;> (refine O Z Z Z ?_) <;> ((refine .cons Z (aE Z Z Z Z qz Z Z (fun h f => bR hK hR (gW l 1) b1.1 b1.2 h f.wf (f.ro (.of hB))) ?_)) <;> refine W_ Z ?_) <;> ((refine .cons Z (qw hX Z Z Z Z Z Z Z ?_)) <;> refine W_ Z ?_) <;> ((refine .cons Z (aE Z Z Z Z tz Z Z (fun h f => bL hK hR (gW l 2) b2.1 b2.2 h f.wf (f.ro (.of hB))) ?_)) <;> refine W_ Z ?_) <;> (iterate 5 refine O Z Z Z ?_) <;> (refine .nil ⟨?_, .intro Z ?_⟩ <;> (repeat' (first | exact trivial | exact .inl Z | refine ⟨?_, ?_⟩)))) | (refine X 17 ?_; (refine J Z ?_) <;> ((refine .cons (lG 3 Z Z ?_ ?_)) <;> (intro _; first | (exfalso; omega) | skip)) <;> (refine J Z ?_) <;> (refine Y Z ?_)) | (refine ai.draw (id := 18) aw [0, 1, 2, 4, 5, 6, 8, 3, 7, 9, 10, 11, 12, 13] #[0, 1, 3, 7, 0, 16, 48, 127, 0, 511, 1023, 2047, 4095, 8191] (by kernel_rfl) (by kernel_rfl) (by kernel_rfl) ?_; (refine O Z Z Z ?_) <;> ((refine .cons Z (bq (j := 0) hX Z Z Z Z Z (.of hs) (aM [] (by omega)) Z Z Z ?_)) <;> refine W_ Z ?_) <;> ((refine .cons Z (q hX Z ?_)) <;> refine ⟨_, .je hX.aw Z Z Z Z Z Z Z Z (suB Z) Z Z Z, ?_⟩) <;> (refine O Z Z Z ?_) <;> ((refine .cons Z (bq (j := 2) hX Z Z Z Z Z (.of hs) (aM [] (by omega)) Z Z Z ?_)) <;> refine W_ Z ?_) <;> ((refine .cons Z (q hX Z ?_)) <;> refine ⟨_, .je hX.aw Z Z Z Z Z Z Z Z (suB Z) Z Z Z, ?_⟩) <;> (refine O Z Z Z ?_) <;> ((refine .cons Z (aE Z Z Z Z tz Z Z (fun h f => bL hK hR (gW l 0) b0.1 b0.2 h f.wf (f.ro (.of hB))) ?_)) <;> refine W_ Z ?_) <;> ((refine .cons Z (aE Z Z Z Z tz Z Z (fun h f => bL hK hR (gW l 2) b2.1 b2.2 h f.wf (f.ro (.of hB))) ?_)) <;> refine W_ Z ?_) <;> (iterate 5 refine O Z Z Z ?_) <;> (refine .nil ⟨?_, .intro Z ?_⟩ <;> (repeat' (first | exact trivial | exact .inl Z | refine ⟨?_, ?_⟩)))) | (refine X 19 ?_; (refine J Z ?_) <;> (refine Y Z ?_)) | (refine X 25 ?_; (refine J Z ?_) <;> ((refine .cons (lG 4 Z Z ?_ ?_)) <;> (intro _; first | (exfalso; omega) | skip)) <;> (refine J Z ?_) <;> (refine Y Z ?_)) | (refine ai.draw (id := 26) aw [0, 1, 2, 4, 5, 6, 8, 9, 10, 13, 3, 7, 11, 12, 14, 15, 16, 17, 18, 19, 20] #[0, 1, 3, 7, 0, 16, 48, 127, 0, 256, 768, 2047, 4095, 0, 12287, 28671, 61439, 126975, 258047, 524287, 1048575] (by kernel_rfl) (by kernel_rfl) (by kernel_rfl) ?_; (refine O Z Z Z ?_) <;> ((refine .cons Z (bq (j := 1) hX Z Z Z Z Z (.of hs) (aM [] (by omega)) Z Z Z ?_)) <;> refine W_ Z ?_) <;> ((refine .cons Z (q hX Z ?_)) <;> refine ⟨_, .je hX.aw Z Z Z Z Z Z Z Z (suB Z) Z Z Z, ?_⟩) <;> (refine O Z Z Z ?_) <;> ((refine .cons Z (bq (j := 2) hX Z Z Z Z Z (.of hs) (aM [] (by omega)) Z Z Z ?_)) <;> refine W_ Z ?_) <;> ((refine .cons Z (q hX Z ?_)) <;> refine ⟨_, .je hX.aw Z Z Z Z Z Z Z Z (suB Z) Z Z Z, ?_⟩) <;> (refine O Z Z Z ?_) <;> ((refine .cons Z (bq (j := 3) hX Z Z Z Z Z (.of hs) (aM [] (by omega)) Z Z Z ?_)) <;> refine W_ Z ?_) <;> ((refine .cons Z (q hX Z ?_)) <;> refine ⟨_, .je hX.aw Z Z Z Z Z Z Z Z (suB Z) Z Z Z, ?_⟩) <;> (refine O Z Z Z ?_) <;> ((refine .cons Z (aE Z Z Z Z Pb Z Z (fun h f => BV hK (gW l 1) b1.1 h f.wf) ?_)) <;> refine W_ Z ?_) <;> ((refine .cons Z (aE Z Z Z Z tz Z Z (fun h f => bL hK hR (gW l 2) b2.1 b2.2 h f.wf (f.ro (.of hB))) ?_)) <;> refine W_ Z ?_) <;> ((refine .cons Z (aE Z Z Z Z qz Z Z (fun h f => bR hK hR (gW l 3) b3.1 b3.2 h f.wf (f.ro (.of hB))) ?_)) <;> refine W_ Z ?_) <;> ((refine .cons Z (qw hX Z Z Z Z Z Z Z ?_)) <;> refine W_ Z ?_) <;> (iterate 7 refine O Z Z Z ?_) <;> (refine .nil ⟨?_, .intro Z ?_⟩ <;> (repeat' (first | exact trivial | exact .inl Z | refine ⟨?_, ?_⟩)))) | (refine X 27 ?_; (iterate 2 refine J Z ?_) <;> (refine Y Z ?_)) | refine ai.r_ ?_ | refine ai.t_ rfl ?_ | refine ai.f_ rfl ?_ | refine ai.k_ ?_ | refine ai.b_ ?_ | refine ax.b_ ?_ | refine ax.r_ hX rfl ?_)
 any_goals (exact fun h f => ⟨by simp only [ke, *, true_and, and_true, false_and, and_false, if_true, if_false, reduceCtorEq, Nat.reduceEqDiff, Bool.false_eq_true]; rfl, f.aZ.bu .nil⟩)
 ·repeat' (first | refine ax.a_ ?_ | refine ai.s_ ?_ | (refine ai.draw (id := 14) aw [0, 1, 2, 3, 6, 7, 8, 10, 4, 5, 9, 11, 12, 13, 14, 15] #[0, 0, 2, 6, 15, 31, 0, 64, 192, 479, 0, 2015, 4095, 8191, 16383, 32767] (by kernel_rfl) (by kernel_rfl) (by kernel_rfl) ?_; (iterate 2 refine O Z Z Z ?_) <;> ((refine .cons Z (bq (j := 0) hX Z Z Z Z Z (.of hs) (aM [] (by omega)) Z Z Z ?_)) <;> refine W_ Z ?_) <;> ((refine .cons Z (q hX Z ?_)) <;> refine ⟨_, .je hX.aw Z Z Z Z Z Z Z Z (suB Z) Z Z Z, ?_⟩) <;> (refine O Z Z Z ?_) <;> ((refine .cons Z (bq (j := 1) hX Z Z Z Z Z (.of hs) (aM [] (by omega)) Z Z Z ?_)) <;> refine W_ Z ?_) <;> ((refine .cons Z (q hX Z ?_)) <;> refine ⟨_, .je hX.aw Z Z Z Z Z Z Z Z (suB Z) Z Z Z, ?_⟩) <;> (refine O Z Z Z ?_) <;> ((refine iZ.gD 4 (fun k => aL 9 1 (.slice k 0 3 (some 3)) (uT.map sB)) Z (fun k => ft uT Z) (fun _ => Z) Z fun k => ?_); (refine .cons Z (aE Z Z Z Z FE Z Z (fun h f => rH hK (.slice k 0 3 (some 3)) uT (gW l 0) (by decide) ME b0.1 h f.wf (aL.rd (f.pick .h))) ?_)) <;> refine W_ Z ?_) <;> ((refine .cons Z (Qb Z Z Z Z Z Z Z ?_)) <;> refine W_ Z ?_) <;> ((refine .cons Z (aE Z Z Z Z tz Z Z (fun h f => bL hK hR (gW l 1) b1.1 b1.2 h f.wf (f.ro (.of hB))) ?_)) <;> refine W_ Z ?_) <;> (iterate 5 refine O Z Z Z ?_) <;> (refine .nil ⟨?_, .intro Z ?_⟩ <;> (repeat' (first | exact trivial | exact .inl Z | refine ⟨?_, ?_⟩)))) | (refine X 27 ?_; (iterate 2 refine J Z ?_) <;> (refine Y Z ?_)) | refine ai.r_ ?_ | refine ax.b_ ?_ | refine ax.r_ hX rfl ?_)
  any_goals (exact fun h f => ⟨by simp only [ke, *, true_and, and_true, false_and, and_false, if_true, if_false, reduceCtorEq, Nat.reduceEqDiff, Bool.false_eq_true]; rfl, f.aZ.bu .nil⟩)
 ·refine ai.loop (fun a => [(138, .ext (i64 a)), (5, .ptr 1 0), (4, .ptr 0 0), (1, .ext v)]) (fun a => [.own (eo ⟨0, 0, 0, 0, 0, 0, 0, 0⟩) 74 false, .own (eo ⟨3, O2 (gW l 1) a, d, nf (gW l 0), nf (gW l 2), 0, 0, 0⟩) 74 false]) (fun _ => []) (fun a => a ≤ 20) (fun a => 20 - a) 0 ⟨⟨rfl, rfl, rfl, rfl, trivial⟩, ⟨_, rfl⟩, ⟨_, .nil⟩⟩ (Nat.zero_le _) (fun _ => rfl) (fun _ => rfl) (fun _ => rfl) ?_
  rintro a ha next
  repeat' (first | refine ax.a_ ?_ | refine ai.s_ ?_ | (refine X 20 ?_; ((refine .cons (qc Z ?_ ?_)) <;> intro _) <;> (refine Y Z ?_)) | (refine X 21 ?_; (iterate 2 refine J Z ?_) <;> (refine Y Z ?_)) | (refine X 27 ?_; (iterate 2 refine J Z ?_) <;> (refine Y Z ?_)) | refine ai.r_ ?_ | refine ai.t_ rfl ?_ | refine ai.f_ rfl ?_ | refine ai.k_ ?_ | refine ai.b_ ?_ | refine ai.e_ ?_ | refine ax.e_ ?_ | refine ax.c_ ?_ | refine ax.b_ ?_ | refine ax.r_ hX rfl ?_)
  ·have ha2 : a < 20 := by omega
   repeat' (first | refine ax.a_ ?_ | (refine ai.draw (id := 22) aw [0, 2, 3, 4, 1, 5] #[0, 1, 0, 4, 12, 31] (by kernel_rfl) (by kernel_rfl) (by kernel_rfl) ?_; (iterate 2 refine O Z Z Z ?_) <;> ((refine .cons Z (bq (j := 1) hX Z Z Z Z Z (.of hs) (aM [] (by omega)) Z Z Z ?_)) <;> refine W_ Z ?_) <;> ((refine .cons Z (q hX Z ?_)) <;> refine ⟨_, .je hX.aw Z Z Z Z Z Z Z Z (suB Z) Z Z Z, ?_⟩) <;> ((refine .cons Z (aE Z Z Z Z Mv Z Z (fun h f => Cx hK a ha2 h f.wf) ?_)) <;> refine W_ Z ?_) <;> ((refine .cons Z (pW (NU _ (bh [] (show a < 20 from ha2))) b1.1 Z Z Z Z Z ?_ ?_)) <;> (intro _) <;> refine W_ Z ?_) <;> (refine .nil ⟨?_, .intro Z ?_⟩ <;> (repeat' (first | exact trivial | exact .inl Z | refine ⟨?_, ?_⟩)))) | (refine X 23 ?_; (iterate 3 refine J Z ?_) <;> (refine Y Z ?_)) | (refine X 24 ?_; (refine .cons (qa Z Z Z Z Z (wI (by first | omega | (simp only [Int.ofNat_eq_natCast]; omega)) (by first | omega | (simp only [Int.ofNat_eq_natCast]; omega))) Z Z ?_)) <;> (refine J Z ?_) <;> (refine Y Z ?_)) | refine ai.t_ rfl ?_ | refine ai.f_ rfl ?_ | refine ai.k_ ?_ | refine ax.b_ ?_)
   ·rename_i e
    refine next (a + 1) _ _ _ (by omega) ⟨⟨rfl, rfl, rfl, rfl, trivial⟩, ⟨_, by rw [O2, if_pos e]; rfl⟩, ⟨_, .nil⟩⟩ (by omega)
   ·rename_i e
    refine next (a + 1) _ _ _ (by omega) ⟨⟨rfl, rfl, rfl, rfl, trivial⟩, ⟨_, by rw [O2, if_neg e]; rfl⟩, ⟨_, .nil⟩⟩ (by omega)
  ·have ha2 : a = 20 := by omega
   subst ha2
   repeat' (first | fail)
   exact fun h f => ⟨by simp only [ke, *, true_and, and_true, false_and, and_false, if_true, if_false, reduceCtorEq, Nat.reduceEqDiff, Bool.false_eq_true]; rfl, f.aZ.bu .nil⟩
end Ev
end Go.HL
namespace Go.HL
open Go Go.Proofs
namespace Ev
open Em
set_option maxRecDepth 10000
set_option maxHeartbeats 8000000
variable {K : ah} {base : List (Nat × aG)}
theorem Ky : ∀ b ∈ ([61] : List Nat), b < 256 := by decide
theorem AK : ∀ b ∈ zw, b < 256 := by decide
theorem zu : ∀ b ∈ vp, b < 256 := by decide
theorem G1 : ∀ b ∈ I1, b < 256 := by decide
theorem AJ : ∀ b ∈ zt, b < 256 := by decide
theorem Fair.drop {l : List (List Nat)} (f : Fair l) (j : Nat) : Fair (l.drop j) := ⟨by rw [List.length_drop]; exact Nat.le_trans (Nat.sub_le _ _) f.1, fun x hx => f.2 x (List.mem_of_mem_drop hx)⟩
theorem wE (hK : KN base K) (hL : KL base K) (hR : KR base K) (kv off : Nat) (l : List (List Nat)) (hf : Fair l) (h : Heap) (w : Wf h) (hB : (lies base).holds h) (hs : (rd (.slice kv off l.length (some l.length)) 1 (l.map sB)).holds h) : Sp P K 50 [.slice kv off l.length (some l.length)] h (iw (.agg (eo (gE l))) h) := by
 have b0 := hf.at 0
 have b1 := hf.at 1
 have b2 := hf.at 2
 have b3 := hf.at 3
 have b4 := hf.at 4
 have b5 := hf.at 5
 have hd : 2 ≤ l.length → ∀ h', (rd (.slice kv off l.length (some l.length)) 1 (l.map sB)).holds h' → (rd (pK kv off l.length 2 1) 1 ((l.drop 2).map sB)).holds h' := by
  intro h2 h' f
  rw [List.map_drop]
  exact rd.full f h2
 refine Sp.start (m := 85075784036996973239212380010840064077) (n := 149) w (hK.none 50 rfl rfl _ _) Tryz.func50 rfl rfl N6 rfl rfl ?_
 repeat' (first | refine ax.a_ ?_ | refine ai.s_ ?_ | (refine X 0 ?_; (refine J Z ?_) <;> (refine Y Z ?_)) | (refine X 1 ?_; (iterate 3 refine J Z ?_) <;> (refine Y Z ?_)) | (refine X 2 ?_; (refine J Z ?_) <;> ((refine .cons (qc Z ?_ ?_)) <;> (intro hz; first | (have hz' : 3 ≤ l.length := by omega) | (have hz' : ¬ 3 ≤ l.length := by omega))) <;> (iterate 2 refine J Z ?_) <;> (first | (refine J Z ?_) | (refine .cons (bq (j := 1) hX Z Z Z Z Z (.of hs) (aM [] (by omega)) Z Z Z ?_))) <;> (refine J Z ?_) <;> (first | (refine J Z ?_) | (refine .cons (pW b1.1 Ky Z Z Z Z Z ?_ ?_)) <;> (intro _)) <;> (iterate 3 refine J Z ?_) <;> (first | (refine J Z ?_) | (refine .cons (bq (j := 0) hX Z Z Z Z Z (.of hs) (aM [] (by omega)) Z Z Z ?_))) <;> (refine J Z ?_) <;> (first | (refine J Z ?_) | (refine .cons (dN Z Z Z Z Pc Z Z (fun h f => pI hK hR (gW l 0) b0.1 b0.2 h f.wf) ?_ ?_)) <;> intro _) <;> (iterate 2 refine J Z ?_) <;> (refine Y Z ?_)) | (refine ai.draw (id := 3) aw [0, 1, 2, 4, 5, 3, 6, 7] #[0, 1, 3, 7, 0, 16, 63, 127] (by kernel_rfl) (by kernel_rfl) (by kernel_rfl) ?_; (refine O Z Z Z ?_) <;> ((refine .cons Z (bq (j := 0) hX Z Z Z Z Z (.of hs) (aM [] (by omega)) Z Z Z ?_)) <;> refine W_ Z ?_) <;> ((refine .cons Z (q hX Z ?_)) <;> refine ⟨_, .je hX.aw Z Z Z Z Z Z Z Z (suB Z) Z Z Z, ?_⟩) <;> (refine O Z Z Z ?_) <;> (refine iZ.PD (j := 2) hX Z Z Z Z Z Z Z Z Z (by omega) Z Z ?_) <;> ((refine .cons Z (aE Z Z Z Z tz Z Z (fun h f => bL hK hR (gW l 0) b0.1 b0.2 h f.wf (f.ro (.of hB))) ?_)) <;> refine W_ Z ?_) <;> ((refine .cons Z (aE Z Z Z Z Qv Z Z (fun h f => Am hK hL hR (nf (gW l 0)) (pK kv off l.length 2 1) (l.drop 2) (hf.drop 2) h f.wf (f.ro (.of hB)) (hd (by omega) h (f.ro (.of hs)))) ?_)) <;> refine W_ Z ?_) <;> (refine O Z Z Z ?_) <;> (refine .nil ⟨?_, .intro Z ?_⟩ <;> (repeat' (first | exact trivial | exact .inl Z | refine ⟨?_, ?_⟩)))) | (refine X 4 ?_; (refine J Z ?_) <;> ((refine .cons (lG 5 Z Z ?_ ?_)) <;> (intro _; first | (exfalso; omega) | skip)) <;> (iterate 2 refine J Z ?_) <;> (first | (refine J Z ?_) | (refine .cons (bq (j := 0) hX Z Z Z Z Z (.of hs) (aM [] (by omega)) Z Z Z ?_))) <;> (refine J Z ?_) <;> (first | (refine J Z ?_) | (refine .cons (pW b0.1 vq Z Z Z Z Z ?_ ?_)) <;> (intro _)) <;> (iterate 2 refine J Z ?_) <;> (refine Y Z ?_)) | (refine ai.draw (id := 5) aw [0, 1, 2, 5, 6, 7, 9, 10, 11, 3, 4, 8, 12, 13, 14] #[0, 1, 3, 7, 15, 0, 32, 96, 239, 0, 512, 1536, 4079, 8191, 16383] (by kernel_rfl) (by kernel_rfl) (by kernel_rfl) ?_; (refine O Z Z Z ?_) <;> ((refine .cons Z (bq (j := 1) hX Z Z Z Z Z (.of hs) (aM [] (by omega)) Z Z Z ?_)) <;> refine W_ Z ?_) <;> ((refine .cons Z (q hX Z ?_)) <;> refine ⟨_, .je hX.aw Z Z Z Z Z Z Z Z (suB Z) Z Z Z, ?_⟩) <;> (refine O Z Z Z ?_) <;> ((refine .cons Z (bq (j := 2) hX Z Z Z Z Z (.of hs) (aM [] (by omega)) Z Z Z ?_)) <;> refine W_ Z ?_) <;> ((refine .cons Z (q hX Z ?_)) <;> refine ⟨_, .je hX.aw Z Z Z Z Z Z Z Z (suB Z) Z Z Z, ?_⟩) <;> (refine O Z Z Z ?_) <;> ((refine .cons Z (bq (j := 4) hX Z Z Z Z Z (.of hs) (aM [] (by omega)) Z Z Z ?_)) <;> refine W_ Z ?_) <;> ((refine .cons Z (q hX Z ?_)) <;> refine ⟨_, .je hX.aw Z Z Z Z Z Z Z Z (suB Z) Z Z Z, ?_⟩) <;> ((refine .cons Z (aE Z Z Z Z qz Z Z (fun h f => bR hK hR (gW l 1) b1.1 b1.2 h f.wf (f.ro (.of hB))) ?_)) <;> refine W_ Z ?_) <;> ((refine .cons Z (qw hX Z Z Z Z Z Z Z ?_)) <;> refine W_ Z ?_) <;> ((refine .cons Z (aE Z Z Z Z tz Z Z (fun h f => bL hK hR (gW l 2) b2.1 b2.2 h f.wf (f.ro (.of hB))) ?_)) <;> refine W_ Z ?_) <;> ((refine .cons Z (aE Z Z Z Z tz Z Z (fun h f => bL hK hR (gW l 4) b4.1 b4.2 h f.wf (f.ro (.of hB))) ?_)) <;> refine W_ Z ?_) <;> (iterate 2 refine O Z Z Z ?_) <;> (refine .nil ⟨?_, .intro Z ?_⟩ <;> (repeat' (first | exact trivial | exact .inl Z | refine ⟨?_, ?_⟩)))) | (refine X 6 ?_; (refine J Z ?_) <;> ((refine .cons (lG 6 Z Z ?_ ?_)) <;> (intro _; first | (exfalso; omega) | skip)) <;> (iterate 2 refine J Z ?_) <;> (first | (refine J Z ?_) | (refine .cons (bq (j := 0) hX Z Z Z Z Z (.of hs) (aM [] (by omega)) Z Z Z ?_))) <;> (refine J Z ?_) <;> (first | (refine J Z ?_) | (refine .cons (pW b0.1 AK Z Z Z Z Z ?_ ?_)) <;> (intro _)) <;> (iterate 2 refine J Z ?_) <;> (refine Y Z ?_)) | (refine ai.draw (id := 7) aw [0, 1, 2, 4, 5, 6, 9, 10, 11, 13, 14, 15, 3, 7, 8, 12, 16, 17, 18] #[0, 1, 3, 7, 0, 16, 48, 127, 255, 0, 512, 1536, 3839, 0, 8192, 24576, 65279, 131071, 262143] (by kernel_rfl) (by kernel_rfl) (by kernel_rfl) ?_; (refine O Z Z Z ?_) <;> ((refine .cons Z (bq (j := 1) hX Z Z Z Z Z (.of hs) (aM [] (by omega)) Z Z Z ?_)) <;> refine W_ Z ?_) <;> ((refine .cons Z (q hX Z ?_)) <;> refine ⟨_, .je hX.aw Z Z Z Z Z Z Z Z (suB Z) Z Z Z, ?_⟩) <;> (refine O Z Z Z ?_) <;> ((refine .cons Z (bq (j := 3) hX Z Z Z Z Z (.of hs) (aM [] (by omega)) Z Z Z ?_)) <;> refine W_ Z ?_) <;> ((refine .cons Z (q hX Z ?_)) <;> refine ⟨_, .je hX.aw Z Z Z Z Z Z Z Z (suB Z) Z Z Z, ?_⟩) <;> (refine O Z Z Z ?_) <;> ((refine .cons Z (bq (j := 4) hX Z Z Z Z Z (.of hs) (aM [] (by omega)) Z Z Z ?_)) <;> refine W_ Z ?_) <;> ((refine .cons Z (q hX Z ?_)) <;> refine ⟨_, .je hX.aw Z Z Z Z Z Z Z Z (suB Z) Z Z Z, ?_⟩) <;> (refine O Z Z Z ?_) <;> ((refine .cons Z (bq (j := 5) hX Z Z Z Z Z (.of hs) (aM [] (by omega)) Z Z Z ?_)) <;> refine W_ Z ?_) <;> ((refine .cons Z (q hX Z ?_)) <;> refine ⟨_, .je hX.aw Z Z Z Z Z Z Z Z (suB Z) Z Z Z, ?_⟩) <;> ((refine .cons Z (aE Z Z Z Z Pb Z Z (fun h f => BV hK (gW l 1) b1.1 h f.wf) ?_)) <;> refine W_ Z ?_) <;> ((refine .cons Z (aE Z Z Z Z qz Z Z (fun h f => bR hK hR (gW l 3) b3.1 b3.2 h f.wf (f.ro (.of hB))) ?_)) <;> refine W_ Z ?_) <;> ((refine .cons Z (qw hX Z Z Z Z Z Z Z ?_)) <;> refine W_ Z ?_) <;> ((refine .cons Z (aE Z Z Z Z tz Z Z (fun h f => bL hK hR (gW l 4) b4.1 b4.2 h f.wf (f.ro (.of hB))) ?_)) <;> refine W_ Z ?_) <;> ((refine .cons Z (aE Z Z Z Z tz Z Z (fun h f => bL hK hR (gW l 5) b5.1 b5.2 h f.wf (f.ro (.of hB))) ?_)) <;> refine W_ Z ?_) <;> (iterate 2 refine O Z Z Z ?_) <;> (refine .nil ⟨?_, .intro Z ?_⟩ <;> (repeat' (first | exact trivial | exact .inl Z | refine ⟨?_, ?_⟩)))) | (refine X 8 ?_; (refine J Z ?_) <;> ((refine .cons (lG 2 Z Z ?_ ?_)) <;> (intro _; first | (exfalso; omega) | skip)) <;> (iterate 2 refine J Z ?_) <;> (first | (refine J Z ?_) | (refine .cons (bq (j := 0) hX Z Z Z Z Z (.of hs) (aM [] (by omega)) Z Z Z ?_))) <;> (refine J Z ?_) <;> (first | (refine J Z ?_) | (refine .cons (pW b0.1 zu Z Z Z Z Z ?_ ?_)) <;> (intro _)) <;> (iterate 2 refine J Z ?_) <;> (refine Y Z ?_)) | (refine X 9 ?_; (refine J Z ?_) <;> (refine .cons (bq (j := 1) hX Z Z Z Z Z (.of hs) (aM [] (by omega)) Z Z Z ?_)) <;> (refine J Z ?_) <;> (refine .cons (aE Z Z Z Z qz Z Z (fun h f => bR hK hR (gW l 1) b1.1 b1.2 h f.wf (f.ro (.of hB))) ?_)) <;> (refine .cons (qw hX Z Z Z Z Z Z Z ?_)) <;> (iterate 2 refine J Z ?_) <;> (refine Y Z ?_)) | (refine X 10 ?_; (refine J Z ?_) <;> ((refine .cons (lG 4 Z Z ?_ ?_)) <;> (intro _; first | (exfalso; omega) | skip)) <;> (iterate 2 refine J Z ?_) <;> (first | (refine J Z ?_) | (refine .cons (bq (j := 0) hX Z Z Z Z Z (.of hs) (aM [] (by omega)) Z Z Z ?_))) <;> (refine J Z ?_) <;> (first | (refine J Z ?_) | (refine .cons (pW b0.1 vn Z Z Z Z Z ?_ ?_)) <;> (intro _)) <;> (iterate 2 refine J Z ?_) <;> (refine Y Z ?_)) | (refine ai.draw (id := 11) aw [0, 1, 2, 5, 6, 7, 3, 4, 8, 9, 10] #[0, 1, 3, 7, 15, 0, 32, 96, 239, 511, 1023] (by kernel_rfl) (by kernel_rfl) (by kernel_rfl) ?_; (refine O Z Z Z ?_) <;> ((refine .cons Z (bq (j := 1) hX Z Z Z Z Z (.of hs) (aM [] (by omega)) Z Z Z ?_)) <;> refine W_ Z ?_) <;> ((refine .cons Z (q hX Z ?_)) <;> refine ⟨_, .je hX.aw Z Z Z Z Z Z Z Z (suB Z) Z Z Z, ?_⟩) <;> (refine O Z Z Z ?_) <;> ((refine .cons Z (bq (j := 3) hX Z Z Z Z Z (.of hs) (aM [] (by omega)) Z Z Z ?_)) <;> refine W_ Z ?_) <;> ((refine .cons Z (q hX Z ?_)) <;> refine ⟨_, .je hX.aw Z Z Z Z Z Z Z Z (suB Z) Z Z Z, ?_⟩) <;> ((refine .cons Z (aE Z Z Z Z qz Z Z (fun h f => bR hK hR (gW l 1) b1.1 b1.2 h f.wf (f.ro (.of hB))) ?_)) <;> refine W_ Z ?_) <;> ((refine .cons Z (qw hX Z Z Z Z Z Z Z ?_)) <;> refine W_ Z ?_) <;> ((refine .cons Z (aE Z Z Z Z tz Z Z (fun h f => bL hK hR (gW l 3) b3.1 b3.2 h f.wf (f.ro (.of hB))) ?_)) <;> refine W_ Z ?_) <;> (iterate 2 refine O Z Z Z ?_) <;> (refine .nil ⟨?_, .intro Z ?_⟩ <;> (repeat' (first | exact trivial | exact .inl Z | refine ⟨?_, ?_⟩)))) | (refine X 12 ?_; (refine J Z ?_) <;> ((refine .cons (lG 2 Z Z ?_ ?_)) <;> (intro _; first | (exfalso; omega) | skip)) <;> (iterate 2 refine J Z ?_) <;> (first | (refine J Z ?_) | (refine .cons (bq (j := 0) hX Z Z Z Z Z (.of hs) (aM [] (by omega)) Z Z Z ?_))) <;> (refine J Z ?_) <;> (first | (refine J Z ?_) | (refine .cons (pW b0.1 G1 Z Z Z Z Z ?_ ?_)) <;> (intro _)) <;> (iterate 2 refine J Z ?_) <;> (refine Y Z ?_)) | (refine X 13 ?_; (refine J Z ?_) <;> (refine .cons (bq (j := 1) hX Z Z Z Z Z (.of hs) (aM [] (by omega)) Z Z Z ?_)) <;> (refine J Z ?_) <;> (refine .cons (aE Z Z Z Z qz Z Z (fun h f => bR hK hR (gW l 1) b1.1 b1.2 h f.wf (f.ro (.of hB))) ?_)) <;> (iterate 2 refine J Z ?_) <;> (refine Y Z ?_)) | (refine X 14 ?_; (refine J Z ?_) <;> ((refine .cons (lG 5 Z Z ?_ ?_)) <;> (intro _; first | (exfalso; omega) | skip)) <;> (iterate 2 refine J Z ?_) <;> (first | (refine J Z ?_) | (refine .cons (bq (j := 0) hX Z Z Z Z Z (.of hs) (aM [] (by omega)) Z Z Z ?_))) <;> (refine J Z ?_) <;> (first | (refine J Z ?_) | (refine .cons (pW b0.1 AJ Z Z Z Z Z ?_ ?_)) <;> (intro _)) <;> (iterate 2 refine J Z ?_) <;> (refine Y Z ?_)) | (refine ai.draw (id := 15) aw [0, 1, 2, 4, 5, 6, 8, 9, 10, 3, 7, 11, 12, 13] #[0, 1, 3, 7, 0, 16, 48, 127, 0, 256, 768, 2047, 4095, 8191] (by kernel_rfl) (by kernel_rfl) (by kernel_rfl) ?_; (refine O Z Z Z ?_) <;> ((refine .cons Z (bq (j := 1) hX Z Z Z Z Z (.of hs) (aM [] (by omega)) Z Z Z ?_)) <;> refine W_ Z ?_) <;> ((refine .cons Z (q hX Z ?_)) <;> refine ⟨_, .je hX.aw Z Z Z Z Z Z Z Z (suB Z) Z Z Z, ?_⟩) <;> (refine O Z Z Z ?_) <;> ((refine .cons Z (bq (j := 2) hX Z Z Z Z Z (.of hs) (aM [] (by omega)) Z Z Z ?_)) <;> refine W_ Z ?_) <;> ((refine .cons Z (q hX Z ?_)) <;> refine ⟨_, .je hX.aw Z Z Z Z Z Z Z Z (suB Z) Z Z Z, ?_⟩) <;> (refine O Z Z Z ?_) <;> ((refine .cons Z (bq (j := 4) hX Z Z Z Z Z (.of hs) (aM [] (by omega)) Z Z Z ?_)) <;> refine W_ Z ?_) <;> ((refine .cons Z (q hX Z ?_)) <;> refine ⟨_, .je hX.aw Z Z Z Z Z Z Z Z (suB Z) Z Z Z, ?_⟩) <;> ((refine .cons Z (aE Z Z Z Z tz Z Z (fun h f => bL hK hR (gW l 1) b1.1 b1.2 h f.wf (f.ro (.of hB))) ?_)) <;> refine W_ Z ?_) <;> ((refine .cons Z (aE Z Z Z Z qz Z Z (fun h f => bR hK hR (gW l 2) b2.1 b2.2 h f.wf (f.ro (.of hB))) ?_)) <;> refine W_ Z ?_) <;> ((refine .cons Z (aE Z Z Z Z qz Z Z (fun h f => bR hK hR (gW l 4) b4.1 b4.2 h f.wf (f.ro (.of hB))) ?_)) <;> refine W_ Z ?_) <;> (iterate 2 refine O Z Z Z ?_) <;> (refine .nil ⟨?_, .intro Z ?_⟩ <;> (repeat' (first | exact trivial | exact .inl Z | refine ⟨?_, ?_⟩)))) | (refine X 16 ?_; (iterate 2 refine J Z ?_) <;> (refine Y Z ?_)) | refine ai.r_ ?_ | refine ax.d_ ?_ | refine ax.f_ ?_ | refine ai.t_ rfl ?_ | refine ai.f_ rfl ?_ | refine ai.k_ ?_ | refine ai.b_ ?_ | refine ax.b_ ?_ | refine ax.r_ hX rfl ?_)
 any_goals (exact fun h f => ⟨by simp only [gE, *, true_and, and_true, false_and, and_false, if_true, if_false, reduceCtorEq, Nat.reduceEqDiff, Bool.false_eq_true]; rfl, f.aZ.bu .nil⟩)
end Ev
end Go.HL
namespace Go.HL
open Go Go.Proofs
namespace Ev
open Em
set_option maxRecDepth 10000
set_option maxHeartbeats 8000000
variable {K : ah} {base : List (Nat × aG)}
theorem AI : ∀ b ∈ eO, b < 256 := by decide
theorem I2 : ∀ b ∈ uA, b < 256 := by decide
theorem AH : ∀ b ∈ mi, b < 256 := by decide
abbrev EW (a : List Nat × Int) : List aa := [aY a.1, .int .i64 a.2]
structure Good (c : br) (n : Nat) : Prop where
 name : py c.name
 eg : ∀ p ∈ c.params, py p.1
 dF : ∀ p ∈ c.shared, py p.1
 len : c.params.length + c.shared.length + c.aq.length ≤ n
 each : ∀ x ∈ c.aq, -2147483648 ≤ x.cV ∧ x.cV ≤ 2147483647
theorem Good.ok {c : br} {n : Nat} (g : Good c n) (hn : n ≤ 1000000) : c.Ok :=
 have := g.len
 ⟨g.name, by omega, g.eg, by omega, g.dF, by omega, g.each⟩
theorem Hf (z : Int) : -2147483648 ≤ i32 z ∧ i32 z ≤ 2147483647 := by
 unfold i32
 rw [dE]
 simp only [IntKind.wrap, IntKind.bits, IntKind.signed]
 have h1 := Int.emod_nonneg z (show (4294967296 : Int) ≠ 0 by decide)
 have h2 := Int.emod_lt_of_pos z (show (0 : Int) < 4294967296 by decide)
 simp
 split <;> omega
theorem Jm (l : List (List Nat)) : -2147483648 ≤ (gE l).cV ∧ (gE l).cV ≤ 2147483647 := by
 have h0 : -2147483648 ≤ (0 : Int) ∧ (0 : Int) ≤ 2147483647 := by omega
 unfold gE ke
 repeat' split
 all_goals first | exact h0 | exact Hf _
theorem rl {α : Type} {p : α → Prop} {l : List α} {y : α} (h : ∀ x ∈ l, p x) (hy : p y) : ∀ x ∈ l ++ [y], p x := fun x hx => (List.mem_append.1 hx).elim (h x) fun e => by rw [List.mem_singleton.1 e]; exact hy
theorem DQ {c : br} {n i : Nat} {t : List Nat} (ht : py t) (g : Good c n) : Good (dU i t c) (n + 1) := by
 have h := g.len
 have hc := Eg ht 32
 unfold dU
 split
 ·exact ⟨g.name, g.eg, g.dF, by omega, g.each⟩
 split
 ·exact ⟨hc 1, g.eg, g.dF, by simp only; omega, g.each⟩
 split
 ·exact ⟨g.name, rl g.eg (hc 1), g.dF, by simp only [List.length_append, List.length_singleton]; omega, g.each⟩
 split
 ·exact ⟨g.name, rl g.eg (hc 1), g.dF, by simp only [List.length_append, List.length_singleton]; omega, g.each⟩
 split
 ·exact ⟨g.name, g.eg, rl g.dF (hc 1), by simp only [List.length_append, List.length_singleton]; omega, g.each⟩
 ·exact ⟨g.name, g.eg, g.dF, by simp only [List.length_append, List.length_singleton]; omega, rl g.each (Jm _)⟩
theorem J3 : Good CM 0 := ⟨⟨.nil, by simp [CM]⟩, (fun _ h => by cases h), (fun _ h => by cases h), by simp [CM], fun _ h => by cases h⟩
theorem Hc (hK : KN base K) (hL : KL base K) (hR : KR base K) (kw : Nat) (ws : List (List Nat)) (hf : Fair ws) (h1 : 1 ≤ ws.length) (h : Heap) (w : Wf h) (hB : (lies base).holds h) (hs : (rd (.slice kw 0 ws.length (some ws.length)) 1 (ws.map sB)).holds h) : Sp P K 50 [pK kw 0 ws.length 1 1] h (iw (.agg (eo (gE (ws.drop 1)))) h) := by
 have e : pK kw 0 ws.length 1 1 = .slice kw (fq 0 1 ws.length 1) (ws.drop 1).length (some (ws.drop 1).length) := by unfold pK; rw [List.length_drop]
 have r := rd.full hs h1
 rw [e, ← List.map_drop] at r
 rw [e]
 exact wE hK hL hR kw _ (ws.drop 1) (hf.drop 1) h w hB r
theorem JP {t : List Nat} (ht : dM t) (hl : t.length ≤ 500000) (c : Nat) : Fair (cutAt c t) := by
 refine ⟨by have := tn c t; omega, fun x hx => ?_⟩
 have := lY c t x hx
 exact ⟨fun y hy => ht y (this.2 y hy), by omega⟩
structure LA where
 i : Nat
 c : br
 pv : aa
 sv : aa
 iv : aa
theorem DP {i : Nat} {t : List Nat} {c : br} (et : t ≠ []) (h0 : i = 0) (h4 : (cutAt 32 t).length = 4) : dU i t c = { c with name := gW (cutAt 32 t) 1, «local» := eH (gW (cutAt 32 t) 3) } := by
 unfold dU; rw [if_neg et, if_pos ⟨h0, h4⟩]
theorem GY {i : Nat} {t : List Nat} {c : br} (et : t ≠ []) (h2 : (cutAt 32 t).length = 2) (hw : gW (cutAt 32 t) 0 = eO) : dU i t c = { c with params := c.params ++ [(gW (cutAt 32 t) 1, true)] } := by
 unfold dU; rw [if_neg et, if_neg (fun q => by omega), if_pos ⟨h2, hw⟩]
theorem GW {i : Nat} {t : List Nat} {c : br} (et : t ≠ []) (h2 : (cutAt 32 t).length = 2) (hb : gW (cutAt 32 t) 0 ≠ eO) (hw : gW (cutAt 32 t) 0 = uA) : dU i t c = { c with params := c.params ++ [(gW (cutAt 32 t) 1, false)] } := by
 unfold dU; rw [if_neg et, if_neg (fun q => by omega), if_neg (fun q => hb q.2), if_pos ⟨h2, hw⟩]
theorem Jf {i : Nat} {t : List Nat} {c : br} (et : t ≠ []) (h3 : (cutAt 32 t).length = 3) (hw : gW (cutAt 32 t) 0 = mi) : dU i t c = { c with shared := c.shared ++ [(gW (cutAt 32 t) 1, eH (gW (cutAt 32 t) 2))] } := by
 unfold dU; rw [if_neg et, if_neg (fun q => by omega), if_neg (fun q => by omega), if_neg (fun q => by omega), if_pos ⟨h3, hw⟩]
theorem GX {i : Nat} {t : List Nat} {c : br} (et : t ≠ []) (h1 : ¬ (i = 0 ∧ (cutAt 32 t).length = 4)) (h2 : ¬ ((cutAt 32 t).length = 2 ∧ gW (cutAt 32 t) 0 = eO)) (h3 : ¬ ((cutAt 32 t).length = 2 ∧ gW (cutAt 32 t) 0 = uA)) (h4 : ¬ ((cutAt 32 t).length = 3 ∧ gW (cutAt 32 t) 0 = mi)) : dU i t c = { c with aq := c.aq ++ [gE ((cutAt 32 t).drop 1)] } := by
 unfold dU; rw [if_neg et, if_neg h1, if_neg h2, if_neg h3, if_neg h4]
theorem QP {c : br} {pv sv iv : aa} {h : Heap} (r1 : (rd pv 2 (c.params.map gu)).holds h) (r2 : (rd sv 2 (c.shared.map EW)).holds h) (r3 : (rd iv 8 (c.aq.map eo)).holds h) : (n8 c.gM pv sv iv).holds h := by
 refine ⟨?_, ?_, r3⟩
 ·show (rd pv 2 ((c.params.map _).map pc)).holds h
  rw [List.map_map]; exact r1
 ·show (rd sv 2 ((c.shared.map _).map ac)).holds h
  rw [List.map_map]; exact r2
theorem G5 {c : br} (hv : c.gM.dm = true) (pv sv iv : aa) : fm c.CY pv sv iv = [aL 70 2 pv (c.params.map gu), aL 72 2 sv (c.shared.map EW), aL 74 8 iv (c.aq.map eo)] := by
 have e := congrArg (fun p : aD => p.shared.map ac) (uI hv)
 have e2 : c.CY.shared.map kT = c.shared.map EW := by
  unfold aR.gM br.gM at e
  simp only [List.map_map] at e
  exact e
 unfold fm
 rw [e2]; rfl
theorem M3 {c : aR} (h : V c = true) : c.gM.dm = true := by
 unfold V at h
 simp only [Bool.and_eq_true] at h
 exact h.2
theorem CN (hK : KN base K) (hL : KL base K) (c : br) (hc : c.Ok) (hv : c.gM.dm = true) (pv sv iv : aa) (h : Heap) (w : Wf h) (hB : (lies base).holds h) (hr : (n8 c.gM pv sv iv).holds h) : Sp P K 31 [cv c.gM pv sv iv] h (iw (aY (bM c.CY)) h) := by
 rw [← CX hv]
 exact yb hK hL c.CY (mj (I5 hc hv)) pv sv iv h w hB (Mc hv hr)
section
variable {aw : iO} {zl : List (Nat × List aa)} {E : eK} {ops : Array Oper} {o : Oper} {L : SL} {B : List bX} {G : List Part} {m n : Nat} {R : SL → List bX → List Part → Prop} {P : Program}
theorem Iz {t p : Nat} {x y : Operand} {a b : List Nat} (ha : dM a) (hb : dM b) (ho : o.op = .binOp .neq t x y p) (hx : cU P L x = some (aY a)) (hy : cU P L y = some (aY b)) (hw : aT ops o L = some true) (hf : fits o.dst n = true) (h1 : a ≠ b → R (bm o.dst (.ext (.bool true)) L) B G) (h0 : a = b → R (bm o.dst (.ext (.bool false)) L) B G) : bW P K E ops o L B G m n R :=
 qcn ho hx hy hw hf (fun e => h1 fun e' => e (by rw [e']; exact ⟨rfl, rfl⟩)) fun e => h0 (jD ha hb (by simp only [aY, e.1, e.2]))
end
def QQ (s : List Nat) (v : aa) (C : List Part) : Prop :=
 (∃ c pv sv iv, V c = true ∧ bM c = s ∧ v = .tuple [iL c pv sv iv, i64 0] ∧ C = fm c pv sv iv) ∨ ((∀ c, V c = true → bM c ≠ s) ∧ v = .tuple [.agg AA, i64 2] ∧ C = [])
theorem FI (hK : KN base K) (hL : KL base K) (hR : KR base K) (s : List Nat) (hb : dM s) (hl : s.length ≤ 500000) (h : Heap) (w : Wf h) (hB : (lies base).holds h) : Sp P K 19 [aY s] h (Tr (QQ s) h) := by
 have hlen := tn 10 s
 refine Sp.start (m := 10633823968755211784176707178384604413) (n := 126) w (hK.none 19 rfl rfl _ _) Tryz.func19 rfl rfl Nd rfl rfl ?_
 repeat' (first | refine ax.a_ ?_ | refine ai.s_ ?_ | (refine X 0 ?_; (iterate 2 refine J Z ?_) <;> (refine Y Z ?_)) | (refine X 1 ?_; (iterate 3 refine J Z ?_) <;> (refine Y Z ?_)) | (refine X 2 ?_; (refine J Z ?_) <;> ((refine .cons (fD Z Z Z Z Pd Z Z (fun h f => vA hR s 10 hb (by decide) (by omega) h f.wf (f.ro (.of hB))) ?_)) <;> (rintro v C' ⟨ks, rfl, rfl⟩)) <;> (iterate 2 refine J Z ?_) <;> (refine Y Z ?_)) | refine ai.b_ ?_)
 have hA0 : ∀ c, V c = true → bM c = s → iY 0 (cutAt 10 s) CM = some (MT c) := fun c hv ht => by rw [← ht]; exact (xC (xh hv)).1
 have hlw : ∀ j, dM (gW (cutAt 10 s) j) ∧ (gW (cutAt 10 s) j).length ≤ 500000 := fun j => by
  have := Eg (t := s) ⟨hb, by omega⟩ 10 j
  refine ⟨this.1, ?_⟩
  by_cases hj : j < (cutAt 10 s).length
  ·exact Nat.le_trans (lY 10 s _ (bh [] hj)).1 hl
  ·have : gW (cutAt 10 s) j = [] := by simp [gW, List.getD, List.getElem?_eq_none (Nat.le_of_not_lt hj)]
   rw [this]; exact Nat.zero_le _
 generalize hls : cutAt 10 s = l at hlen hA0 hlw ⊢
 refine ai.nil 70 2 ?_
 refine ai.nil 72 2 ?_
 refine ai.nil 74 8 ?_
 refine ai.loop (ι := LA) (fun a => [(12, .ext (i64 a.i)), (11, .ext (i64 l.length)), (10, .ext (.slice ks 0 l.length (some l.length))), (4, .ptr 1 0), (3, .ext (i64 0)), (2, .ptr 0 0), (0, .ext (aY s))]) (fun a => [.own AA 26 false, .own [aY a.c.name, a.pv, a.sv, .int .i64 a.c.local, a.iv] 26 false]) (fun a => [aL 74 8 a.iv (a.c.aq.map eo), aL 72 2 a.sv (a.c.shared.map EW), aL 70 2 a.pv (a.c.params.map gu), aL 9 1 (.slice ks 0 l.length (some l.length)) (l.map sB)]) (fun a => a.i ≤ l.length ∧ Good a.c a.i ∧ iY 0 l CM = iY a.i (l.drop a.i) a.c) (fun a => l.length - a.i) ⟨0, CM, .aC, .aC, .aC⟩ ⟨⟨rfl, rfl, rfl, rfl, rfl, rfl, rfl, trivial⟩, ⟨_, rfl⟩, ⟨_, .cons .h (.cons .h (.cons .h (.cons .h .nil)))⟩⟩ ⟨Nat.zero_le _, J3, by rw [List.drop_zero]⟩ (fun _ => rfl) (fun _ => rfl) (fun _ => rfl) ?_
 rintro ⟨i, c, pv, sv, iv⟩ ⟨hi, g, hA⟩ next
 simp only at hi g hA next ⊢
 repeat' (first | refine ax.a_ ?_ | refine ai.s_ ?_ | (refine X 3 ?_; ((refine .cons (qc Z ?_ ?_)) <;> intro _) <;> (refine Y Z ?_)) | refine ai.t_ rfl ?_ | refine ai.f_ rfl ?_ | refine ai.k_ ?_ | refine ai.b_ ?_ | refine ai.e_ ?_ | refine ax.e_ ?_ | refine ax.c_ ?_)
 ·have hil : i < l.length := by omega
  have hgl := g.len
  have hdr : l.drop i = gW l i :: l.drop (i + 1) := by rw [List.drop_eq_getElem_cons hil]; simp [gW, List.getD, List.getElem?_eq_getElem hil]
  rw [hdr, iY] at hA
  refine ai.fact (p := dO iv = some c.aq.length) (fun h f => by have := (aL.rd (f.pick .h)).slice.len; simpa using this) fun hli => ?_
  refine ai.fact (p := dO sv = some c.shared.length) (fun h f => by have := (aL.rd (f.pick (.t .h))).slice.len; simpa using this) fun hls2 => ?_
  refine ai.fact (p := dO pv = some c.params.length) (fun h f => by have := (aL.rd (f.pick (.t (.t .h)))).slice.len; simpa using this) fun hlp => ?_
  have ht := hlw i
  have hwf := JP ht.1 ht.2 32
  generalize hgt : gW l i = t at hA ht hwf ⊢
  have hk0 : 1 ≤ (cutAt 32 t).length := by have := JQ 32 t; cases h : cutAt 32 t <;> simp_all
  have hws := fun j => Eg (t := t) ⟨ht.1, by omega⟩ 32 j
  have gn := DQ (i := i) (n := i) (c := c) (t := t) ⟨ht.1, by omega⟩ g
  repeat' (first | refine ax.a_ ?_ | refine ai.s_ ?_ | (refine X 4 ?_; (refine J Z ?_) <;> (refine .cons (qW (r := sB t) (j := i) hX Z Z Z Z Z (.t (.t (.t .h))) (Is [] hil hgt) Z Z Z ?_)) <;> (iterate 3 refine J Z ?_) <;> (refine Y Z ?_)) | (refine X 5 ?_; (refine J Z ?_) <;> ((refine .cons (fD Z Z Z Z Pd Z Z (fun h f => vA hR t 32 ht.1 (by decide) (by omega) h f.wf (f.ro (.of hB))) ?_)) <;> (rintro v C' ⟨kw, rfl, rfl⟩)) <;> (refine J Z ?_) <;> (refine Y Z ?_)) | (refine X 7 ?_; (iterate 2 refine J Z ?_) <;> (refine .cons (ql hX Z Z Z Z Z Z (by assumption) Z Z ?_)) <;> ((refine .cons (qc Z ?_ ?_)) <;> intro _) <;> (refine J Z ?_) <;> (refine Y Z ?_)) | (refine X 8 ?_; (iterate 3 refine J Z ?_) <;> (refine Y Z ?_)) | (refine X 9 ?_; (refine J Z ?_) <;> ((refine .cons (pW ht.1 dM.nil Z Z Z Z Z ?_ ?_)) <;> (intro _)) <;> (refine J Z ?_) <;> (refine Y Z ?_)) | (refine X 18 ?_; (refine .cons (qa Z Z Z Z Z (wI (by first | omega | (simp only [Int.ofNat_eq_natCast]; omega)) (by first | omega | (simp only [Int.ofNat_eq_natCast]; omega))) Z Z ?_)) <;> (refine J Z ?_) <;> (refine Y Z ?_)) | refine ai.r_ ?_ | refine ax.d_ ?_ | refine ax.f_ ?_ | refine ai.t_ rfl ?_ | refine ai.f_ rfl ?_ | refine ai.k_ ?_ | refine ai.b_ ?_ | refine ax.b_ ?_ | refine ax.r_ hX rfl ?_)
  ·have hbig : iY 0 l CM = none := by rw [hA, if_pos (by omega)]
   exact fun h f => ⟨[], f.aZ.bu .nil, .inr ⟨fun c hv hts => (by rw [hA0 c hv hts] at hbig; cases hbig), rfl, rfl⟩⟩
  all_goals
   rw [if_neg (by omega)] at hA
  ·rename_i et
   have e : dU i t c = c := by rw [et]; rfl
   rw [e] at gn hA
   exact next ⟨i + 1, _, _, _, _⟩ _ _ _ (by simp only; omega) ⟨⟨rfl, rfl, rfl, rfl, rfl, rfl, rfl, trivial⟩, ⟨_, rfl⟩, ⟨_, by exact .cons (by repeat (first | exact .h | apply aS.t)) (.cons (by repeat (first | exact .h | apply aS.t)) (.cons (by repeat (first | exact .h | apply aS.t)) (.cons (by repeat (first | exact .h | apply aS.t)) .nil)))⟩⟩ ⟨by simp only; omega, gn, hA⟩
  ·rename_i et
   have f1 := hwf.at 1
   have f2 := hwf.at 2
   have f3 := hwf.at 3
   repeat' (first | refine ax.a_ ?_ | refine ai.s_ ?_ | (refine X 10 ?_; (refine J Z ?_) <;> ((refine .cons (lG 0 Z Z ?_ ?_)) <;> (intro _)) <;> (iterate 3 refine J Z ?_) <;> (first | (refine J Z ?_) | (refine .cons (lG 4 Z Z ?_ ?_)) <;> (intro _)) <;> (iterate 2 refine J Z ?_) <;> (refine Y Z ?_)) | (refine ai.draw (id := 11) aw [0, 1, 2, 3, 4, 5, 7, 6, 8, 9, 10] #[0, 1, 3, 0, 8, 24, 56, 7, 255, 511, 1023] (by kernel_rfl) (by kernel_rfl) (by kernel_rfl) ?_; (refine O Z Z Z ?_) <;> ((refine .cons Z (qV (j := 1) hX Z Z Z Z Z (by omega) Z Z ?_)) <;> refine W_ Z ?_) <;> (refine iZ.O5 (k := kw) (off := 0) (j := 1) (rows := (cutAt 32 t).map sB) hX Z Z Z Z Z Z Z Z .h (aM [] (by omega)) (suB Z) Z Z ?_) <;> (refine O Z Z Z ?_) <;> ((refine .cons Z (qV (j := 3) hX Z Z Z Z Z (by omega) Z Z ?_)) <;> refine W_ Z ?_) <;> (refine iZ.O5 (k := kw) (off := 0) (j := 3) (rows := (cutAt 32 t).map sB) hX Z Z Z Z Z Z Z Z .h (aM [] (by omega)) (suB Z) Z Z ?_) <;> (refine O Z Z Z ?_) <;> ((refine .cons Z (aE Z Z Z Z qz Z Z (fun h f => bR hK hR (gW (cutAt 32 t) 3) f3.1 f3.2 h f.wf (f.ro (.of hB))) ?_)) <;> refine W_ Z ?_) <;> (iterate 3 refine O Z Z Z ?_) <;> (refine .nil ⟨?_, .intro Z ?_⟩ <;> (repeat' (first | exact trivial | exact .inl Z | exact .inr (.inr ⟨_, _, _, Z, (by repeat (first | exact .h | apply aS.t)), (by repeat (first | exact .h | apply aS.t))⟩) | refine ⟨?_, ?_⟩)))) | (refine X 12 ?_; (iterate 2 refine J Z ?_) <;> ((refine .cons (lG 2 Z Z ?_ ?_)) <;> (intro _; first | (exfalso; omega) | skip)) <;> (iterate 2 refine J Z ?_) <;> (first | (refine J Z ?_) | (refine .cons (qW (r := sB (gW (cutAt 32 t) 0)) (j := 0) hX Z Z Z Z Z .h (aM [] (by omega)) Z Z Z ?_))) <;> (refine J Z ?_) <;> (first | (refine J Z ?_) | (refine .cons (pW (hws 0).1 AI Z Z Z Z Z ?_ ?_)) <;> (intro _)) <;> (iterate 2 refine J Z ?_) <;> (refine Y Z ?_)) | (refine ai.draw (id := 13) aw [0, 1, 2, 3, 4, 5, 6, 7, 8, 9] #[0, 1, 0, 4, 12, 28, 60, 127, 255, 511] (by kernel_rfl) (by kernel_rfl) (by kernel_rfl) ?_; (refine O Z Z Z ?_) <;> ((refine .cons Z (q hX Z ?_)) <;> refine ⟨_, .ng hX.aw Z Z Z Z Z Z Z Z (beL (by assumption)) Z Z Z, ?_⟩) <;> (refine O Z Z Z ?_) <;> ((refine .cons Z (qV (j := 1) hX Z Z Z Z Z (by omega) Z Z ?_)) <;> refine W_ Z ?_) <;> (refine iZ.O5 (k := kw) (off := 0) (j := 1) (rows := (cutAt 32 t).map sB) hX Z Z Z Z Z Z Z Z .h (aM [] (by omega)) (suB Z) Z Z ?_) <;> (iterate 2 refine O Z Z Z ?_) <;> ((refine iZ.EF Z ?_); (refine .cons Z (sM hX Z Z Z Z Z Z Z Z Z Z Z Z PL Z Z Z Z Z (by repeat (first | exact .h | apply aS.t)) Z (by simp only [List.length_map]; omega) Z Z ?_)) <;> intro kp <;> refine W_ Z ?_) <;> (iterate 2 refine O Z Z Z ?_) <;> (refine .nil ⟨?_, .intro Z ?_⟩ <;> (repeat' (first | exact trivial | exact .inl Z | refine ⟨?_, ?_⟩)))) | (refine X 14 ?_; (iterate 2 refine J Z ?_) <;> ((refine .cons (lG 2 Z Z ?_ ?_)) <;> (intro _; first | (exfalso; omega) | skip)) <;> (iterate 2 refine J Z ?_) <;> (first | (refine J Z ?_) | (refine .cons (qW (r := sB (gW (cutAt 32 t) 0)) (j := 0) hX Z Z Z Z Z .h (aM [] (by omega)) Z Z Z ?_))) <;> (refine J Z ?_) <;> (first | (refine J Z ?_) | (refine .cons (pW (hws 0).1 I2 Z Z Z Z Z ?_ ?_)) <;> (intro _)) <;> (iterate 2 refine J Z ?_) <;> (refine Y Z ?_)) | (refine ai.draw (id := 15) aw [0, 1, 2, 3, 4, 5, 6, 7, 8, 9] #[0, 1, 0, 4, 12, 28, 60, 127, 255, 511] (by kernel_rfl) (by kernel_rfl) (by kernel_rfl) ?_; (refine O Z Z Z ?_) <;> ((refine .cons Z (q hX Z ?_)) <;> refine ⟨_, .ng hX.aw Z Z Z Z Z Z Z Z (beL (by assumption)) Z Z Z, ?_⟩) <;> (refine O Z Z Z ?_) <;> ((refine .cons Z (qV (j := 1) hX Z Z Z Z Z (by omega) Z Z ?_)) <;> refine W_ Z ?_) <;> (refine iZ.O5 (k := kw) (off := 0) (j := 1) (rows := (cutAt 32 t).map sB) hX Z Z Z Z Z Z Z Z .h (aM [] (by omega)) (suB Z) Z Z ?_) <;> (iterate 2 refine O Z Z Z ?_) <;> ((refine iZ.EF Z ?_); (refine .cons Z (sM hX Z Z Z Z Z Z Z Z Z Z Z Z PL Z Z Z Z Z (by repeat (first | exact .h | apply aS.t)) Z (by simp only [List.length_map]; omega) Z Z ?_)) <;> intro kp <;> refine W_ Z ?_) <;> (iterate 2 refine O Z Z Z ?_) <;> (refine .nil ⟨?_, .intro Z ?_⟩ <;> (repeat' (first | exact trivial | exact .inl Z | refine ⟨?_, ?_⟩)))) | (refine X 16 ?_; (iterate 2 refine J Z ?_) <;> ((refine .cons (lG 3 Z Z ?_ ?_)) <;> (intro _; first | (exfalso; omega) | skip)) <;> (iterate 2 refine J Z ?_) <;> (first | (refine J Z ?_) | (refine .cons (qW (r := sB (gW (cutAt 32 t) 0)) (j := 0) hX Z Z Z Z Z .h (aM [] (by omega)) Z Z Z ?_))) <;> (refine J Z ?_) <;> (first | (refine J Z ?_) | (refine .cons (pW (hws 0).1 AH Z Z Z Z Z ?_ ?_)) <;> (intro _)) <;> (iterate 2 refine J Z ?_) <;> (refine Y Z ?_)) | (refine ai.draw (id := 17) aw [0, 1, 2, 3, 4, 5, 6, 7, 8, 9, 10, 11, 12, 13] #[0, 1, 0, 4, 12, 0, 32, 96, 224, 508, 1020, 2047, 4095, 8191] (by kernel_rfl) (by kernel_rfl) (by kernel_rfl) ?_; (refine O Z Z Z ?_) <;> ((refine .cons Z (q hX Z ?_)) <;> refine ⟨_, .ng hX.aw Z Z Z Z Z Z Z Z (beL (by assumption)) Z Z Z, ?_⟩) <;> (refine O Z Z Z ?_) <;> ((refine .cons Z (qV (j := 1) hX Z Z Z Z Z (by omega) Z Z ?_)) <;> refine W_ Z ?_) <;> (refine iZ.O5 (k := kw) (off := 0) (j := 1) (rows := (cutAt 32 t).map sB) hX Z Z Z Z Z Z Z Z .h (aM [] (by omega)) (suB Z) Z Z ?_) <;> (refine O Z Z Z ?_) <;> ((refine .cons Z (qV (j := 2) hX Z Z Z Z Z (by omega) Z Z ?_)) <;> refine W_ Z ?_) <;> (refine iZ.O5 (k := kw) (off := 0) (j := 2) (rows := (cutAt 32 t).map sB) hX Z Z Z Z Z Z Z Z .h (aM [] (by omega)) (suB Z) Z Z ?_) <;> ((refine .cons Z (aE Z Z Z Z qz Z Z (fun h f => bR hK hR (gW (cutAt 32 t) 2) f2.1 f2.2 h f.wf (f.ro (.of hB))) ?_)) <;> refine W_ Z ?_) <;> (iterate 2 refine O Z Z Z ?_) <;> ((refine iZ.EF Z ?_); (refine .cons Z (sM hX Z Z Z Z Z Z Z Z Z Z Z Z QO Z Z Z Z Z (by repeat (first | exact .h | apply aS.t)) Z (by simp only [List.length_map]; omega) Z Z ?_)) <;> intro kp <;> refine W_ Z ?_) <;> (iterate 2 refine O Z Z Z ?_) <;> (refine .nil ⟨?_, .intro Z ?_⟩ <;> (repeat' (first | exact trivial | exact .inl Z | exact .inr (.inl ⟨_, _, _, _, Z, Z, Z⟩) | exact .inr (.inr ⟨_, _, _, Z, (by repeat (first | exact .h | apply aS.t)), (by repeat (first | exact .h | apply aS.t))⟩) | refine ⟨?_, ?_⟩)))) | (refine ai.draw (id := 6) aw [0, 1, 2, 3, 4, 5, 6, 7, 8] #[0, 1, 0, 4, 12, 28, 63, 127, 255] (by kernel_rfl) (by kernel_rfl) (by kernel_rfl) ?_; (refine O Z Z Z ?_) <;> ((refine .cons Z (q hX Z ?_)) <;> refine ⟨_, .ng hX.aw Z Z Z Z Z Z Z Z (beL (by assumption)) Z Z Z, ?_⟩) <;> (refine O Z Z Z ?_) <;> (refine iZ.PD (j := 1) hX Z Z Z Z Z Z Z Z Z hk0 Z Z ?_) <;> ((refine .cons Z (aE Z Z Z Z QE Z Z (fun h f => Hc hK hL hR kw (cutAt 32 t) hwf hk0 h f.wf (f.ro (.of hB)) (aL.rd (f.pick .h))) ?_)) <;> refine W_ Z ?_) <;> (refine O Z Z Z ?_) <;> ((refine iZ.EF Z ?_); (refine .cons Z (sM hX Z Z Z Z Z Z Z Z Z Z Z Z QN Z Z Z Z Z (by repeat (first | exact .h | apply aS.t)) Z (by simp only [List.length_map]; omega) Z Z ?_)) <;> intro kp <;> refine W_ Z ?_) <;> (iterate 2 refine O Z Z Z ?_) <;> (refine .nil ⟨?_, .intro Z ?_⟩ <;> (repeat' (first | exact trivial | exact .inl Z | exact .inr (.inl ⟨_, _, _, _, Z, Z, Z⟩) | refine ⟨?_, ?_⟩)))) | (refine X 18 ?_; (refine .cons (qa Z Z Z Z Z (wI (by first | omega | (simp only [Int.ofNat_eq_natCast]; omega)) (by first | omega | (simp only [Int.ofNat_eq_natCast]; omega))) Z Z ?_)) <;> (refine J Z ?_) <;> (refine Y Z ?_)) | refine ai.t_ rfl ?_ | refine ai.f_ rfl ?_ | refine ax.b_ ?_)
   all_goals first
    | (rw [DP et (by assumption) (by assumption)] at gn hA; exact next ⟨i + 1, { c with name := gW (cutAt 32 t) 1, «local» := eH (gW (cutAt 32 t) 3) }, _, _, _⟩ _ _ _ (by simp only; omega) ⟨⟨rfl, rfl, rfl, rfl, rfl, rfl, rfl, trivial⟩, ⟨_, rfl⟩, ⟨_, by exact .cons (by repeat (first | exact .h | apply aS.t)) (.cons (by repeat (first | exact .h | apply aS.t)) (.cons (by repeat (first | exact .h | apply aS.t)) (.cons (by repeat (first | exact .h | apply aS.t)) .nil)))⟩⟩ ⟨by simp only; omega, gn, hA⟩)
    | (rw [GY et (by assumption) (by assumption)] at gn hA; exact next ⟨i + 1, { c with params := c.params ++ [(gW (cutAt 32 t) 1, true)] }, _, _, _⟩ _ _ _ (by simp only; omega) ⟨⟨rfl, rfl, rfl, rfl, rfl, rfl, rfl, trivial⟩, ⟨_, rfl⟩, ⟨_, by dsimp only; rw [List.map_append]; exact .cons (by repeat (first | exact .h | apply aS.t)) (.cons (by repeat (first | exact .h | apply aS.t)) (.cons (by repeat (first | exact .h | apply aS.t)) (.cons (by repeat (first | exact .h | apply aS.t)) .nil)))⟩⟩ ⟨by simp only; omega, gn, hA⟩)
    | (rw [GW et (by assumption) (by assumption) (by assumption)] at gn hA; exact next ⟨i + 1, { c with params := c.params ++ [(gW (cutAt 32 t) 1, false)] }, _, _, _⟩ _ _ _ (by simp only; omega) ⟨⟨rfl, rfl, rfl, rfl, rfl, rfl, rfl, trivial⟩, ⟨_, rfl⟩, ⟨_, by dsimp only; rw [List.map_append]; exact .cons (by repeat (first | exact .h | apply aS.t)) (.cons (by repeat (first | exact .h | apply aS.t)) (.cons (by repeat (first | exact .h | apply aS.t)) (.cons (by repeat (first | exact .h | apply aS.t)) .nil)))⟩⟩ ⟨by simp only; omega, gn, hA⟩)
    | (rw [Jf et (by assumption) (by assumption)] at gn hA; exact next ⟨i + 1, { c with shared := c.shared ++ [(gW (cutAt 32 t) 1, eH (gW (cutAt 32 t) 2))] }, _, _, _⟩ _ _ _ (by simp only; omega) ⟨⟨rfl, rfl, rfl, rfl, rfl, rfl, rfl, trivial⟩, ⟨_, rfl⟩, ⟨_, by dsimp only; rw [List.map_append]; exact .cons (by repeat (first | exact .h | apply aS.t)) (.cons (by repeat (first | exact .h | apply aS.t)) (.cons (by repeat (first | exact .h | apply aS.t)) (.cons (by repeat (first | exact .h | apply aS.t)) .nil)))⟩⟩ ⟨by simp only; omega, gn, hA⟩)
    | (rw [GX et (fun q => by first | omega | exact absurd q.2 (by assumption)) (fun q => by first | omega | exact absurd q.2 (by assumption)) (fun q => by first | omega | exact absurd q.2 (by assumption)) (fun q => by first | omega | exact absurd q.2 (by assumption))] at gn hA; exact next ⟨i + 1, { c with aq := c.aq ++ [gE ((cutAt 32 t).drop 1)] }, _, _, _⟩ _ _ _ (by simp only; omega) ⟨⟨rfl, rfl, rfl, rfl, rfl, rfl, rfl, trivial⟩, ⟨_, rfl⟩, ⟨_, by dsimp only; rw [List.map_append]; exact .cons (by repeat (first | exact .h | apply aS.t)) (.cons (by repeat (first | exact .h | apply aS.t)) (.cons (by repeat (first | exact .h | apply aS.t)) (.cons (by repeat (first | exact .h | apply aS.t)) .nil)))⟩⟩ ⟨by simp only; omega, gn, hA⟩)
 ·have hil : i = l.length := by omega
  have hA2 : iY 0 l CM = some c := by rw [hA, hil, List.drop_length, iY]
  have hok : c.Ok := g.ok (by omega)
  have hno : ∀ c', V c' = true → bM c' = s → c.gM.dm = true ∧ bM c.CY = s := fun c' hv ht => by
   have e := hA0 c' hv ht
   rw [hA2] at e
   cases e
   rw [KV, zX]
   exact ⟨M3 hv, ht⟩
  refine ai.fact (p := dO sv = some c.shared.length) (fun h f => by have := (aL.rd (f.pick (.t .h))).slice.len; simpa using this) fun hls2 => ?_
  refine ai.fact (p := dO pv = some c.params.length) (fun h f => by have := (aL.rd (f.pick (.t (.t .h)))).slice.len; simpa using this) fun hlp => ?_
  refine ai.fact (p := dO iv = some c.aq.length) (fun h f => by have := (aL.rd (f.pick .h)).slice.len; simpa using this) fun hli => ?_
  cases hv : c.gM.dm with
  | false =>
   repeat' (first | refine ax.a_ ?_ | refine ai.s_ ?_ | (refine X 19 ?_; (refine J Z ?_) <;> (refine .cons (aE Z Z Z Z Er Z Z (fun h f => (hv ▸ lA hK c.gM pv sv iv h f.wf (f.ro (.of hB)) hok.ok (QP (aL.rd (f.pick (by repeat (first | exact .h | apply aS.t)))) (aL.rd (f.pick (by repeat (first | exact .h | apply aS.t)))) (aL.rd (f.pick (by repeat (first | exact .h | apply aS.t))))))) ?_)) <;> (iterate 7 refine J Z ?_) <;> (refine Y Z ?_)) | (refine X 20 ?_; (iterate 3 refine J Z ?_) <;> (refine Y Z ?_)) | refine ai.r_ ?_ | refine ax.d_ ?_ | refine ai.t_ rfl ?_ | refine ax.r_ hX rfl ?_)
   exact fun h f => ⟨[], f.aZ.bu .nil, .inr ⟨fun c' h1 h2 => (by have := (hno c' h1 h2).1; rw [hv] at this; cases this), rfl, rfl⟩⟩
  | true =>
   have hV := I5 hok hv
   repeat' (first | refine ax.a_ ?_ | refine ai.s_ ?_ | (refine X 19 ?_; (refine J Z ?_) <;> (refine .cons (aE Z Z Z Z Er Z Z (fun h f => (hv ▸ lA hK c.gM pv sv iv h f.wf (f.ro (.of hB)) hok.ok (QP (aL.rd (f.pick (by repeat (first | exact .h | apply aS.t)))) (aL.rd (f.pick (by repeat (first | exact .h | apply aS.t)))) (aL.rd (f.pick (by repeat (first | exact .h | apply aS.t))))))) ?_)) <;> (iterate 3 refine J Z ?_) <;> (refine .cons (aE Z Z Z Z Pe Z Z (fun h f => CN hK hL c hok hv pv sv iv h f.wf (f.ro (.of hB)) (QP (aL.rd (f.pick (by repeat (first | exact .h | apply aS.t)))) (aL.rd (f.pick (by repeat (first | exact .h | apply aS.t)))) (aL.rd (f.pick (by repeat (first | exact .h | apply aS.t)))))) ?_)) <;> (refine J Z ?_) <;> ((refine .cons (Iz (su (mj hV)) hb Z Z Z Z Z ?_ ?_)) <;> (intro _)) <;> (refine J Z ?_) <;> (refine Y Z ?_)) | (refine X 20 ?_; (iterate 3 refine J Z ?_) <;> (refine Y Z ?_)) | (refine X 21 ?_; (iterate 3 refine J Z ?_) <;> (refine Y Z ?_)) | refine ai.r_ ?_ | refine ax.d_ ?_ | refine ai.t_ rfl ?_ | refine ai.f_ rfl ?_ | refine ai.k_ ?_ | refine ax.r_ hX rfl ?_)
   ·rename_i e
    exact fun h f => ⟨[], f.aZ.bu .nil, .inr ⟨fun c' h1 h2 => e (hno c' h1 h2).2, rfl, rfl⟩⟩
   ·rename_i e
    exact fun h f => ⟨_, f.aZ.bu (.cons (by repeat (first | exact .h | apply aS.t)) (.cons (by repeat (first | exact .h | apply aS.t)) (.cons (by repeat (first | exact .h | apply aS.t)) .nil))), .inl ⟨c.CY, pv, sv, iv, hV, e, by rw [CX hv]; rfl, (G5 hv pv sv iv).symm⟩⟩
end Ev
end Go.HL
