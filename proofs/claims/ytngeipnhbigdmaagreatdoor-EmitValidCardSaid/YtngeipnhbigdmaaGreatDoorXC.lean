/- Runs of HL, the state known by signs: more rules. No statement of the seat stands here. -/
import Derived.Test.YtngeipnhbigdmaaGreatDoorXB
set_option linter.unusedVariables false
set_option linter.unusedSimpArgs false
namespace Go.HL
open Go
noncomputable section
section
variable {P : Program} {K : CallFn} {E : Env0} {ops : Array Oper} {o : Oper} {l : List Oper} {L L' : SL} {B B' : List Blk} {G G' G2 : List Part} {m n : Nat} {R : SL → List Blk → List Part → Prop} {Q : Ex → St → Prop} {a b c : Code} {tab : Tab} {zl : List (Nat × List HVal)} {h h' : Heap}
theorem qbuild {t u : Nat} {parts : Array (Nat × Operand)} {fs : List (Nat × Nat)} {ps : List (Nat × Nat × HVal)} {z cs : List HVal} (hX : TK P tab zl) (ho : o.op = .build t parts) (ht : tyL tab t = some (.struct fs, u)) (hz : zL zl t = some z) (ha : allTyped tab fs = true) (hp : placesX P tab L fs parts.toList = some ps) (hc : fillH ps z = some cs)
  (hw : wantX ops o L = some true) (hf : fits o.dst n = true) (hr : R (putX o.dst (.ext (.agg cs)) L) B G) : Op1X P K E ops o L B G m n R :=
 qv hw hf (fun κ h L0 r M => V.build hX.tab ho ht (hX.zero.look hz) (placesX_eq r hp) ha hc) hr
def bcell (b : Nat) : List HVal := [.int .u8 (b : Int)]
theorem bcells_flatten (bs : List Nat) : (bs.map bcell).flatten = byteCells bs := by
 induction bs with
 | nil => rfl
 | cons b bs ih => rw [List.map_cons, List.flatten_cons, ih]; rfl
theorem qstr {s t e e' u w q : Nat} {x : Operand} {v : HVal} {bs : List Nat} (hX : TK P tab zl) (ho : o.op = .convert s t x) (hs : tyL tab s = some (.slice e, u)) (he : tyL tab e = some (.int .u8, q)) (ht : tyL tab t = some (.str, w)) (hx : evH P L x = some v)
  (hG : Pick G (ownS e' 1 v (bs.map bcell)) G2) (hn : ∀ k, v ≠ .rest k) (hb : ∀ b ∈ bs, b < 256) (hw : wantX ops o L = some true) (hf : fits o.dst n = true) (hr : R (putX o.dst (.ext (.str bs.length (codeN bs 0))) L) B G) : Op1X P K E ops o L B G m n R :=
 qv hw hf (fun κ h L0 r M => by
  obtain ⟨⟨d, ha⟩, _⟩ := M.chg.all _ (List.mem_append_right _ hG.mem)
  exact V.strOf hX.tab ho hs he ht (evH_eq r hx) hn ha (bcells_flatten bs) hb) hr
theorem Sp.mono {f : Nat} {args : List HVal} {R R' : HVal → Heap → Prop} (s : Sp P K f args h R) (hr : ∀ v h', R v h' → R' v h') : Sp P K f args h R' := let ⟨v, h', d, r⟩ := s; ⟨v, h', d, hr v h' r⟩
theorem Tr.mono {φ ψ : HVal → List Part → Prop} {h h' : Heap} {v : HVal} (t : Tr φ h v h') (hφ : ∀ v C', φ v C' → ψ v C') : Tr ψ h v h' := let ⟨C', c, p⟩ := t; ⟨C', c, hφ _ _ p⟩
theorem wrap_sub {i k : Nat} (h : i ≤ k) (hk : k < 9223372036854775808) : wrapF .i64 ((k : Int) - (i : Int)) = ((k - i : Nat) : Int) := by rw [wI (by omega) (by omega)]; omega
theorem wrap_mul64 {a b : Nat} (h : a * b < 18446744073709551616) : wrapF .u64 ((a : Int) * (b : Int)) = ((a * b : Nat) : Int) := by
 rw [← Int.natCast_mul]; exact wrapF_u64_nat h
end
end
end Go.HL
namespace Go.HL
open Go
noncomputable section
section
variable {P : Program} {K : CallFn} {E : Env0} {ops : Array Oper} {o : Oper} {l : List Oper} {L L' : SL} {B B' : List Blk} {G G' G2 : List Part} {m n : Nat} {R : SL → List Blk → List Part → Prop} {Q : Ex → St → Prop} {a b c : Code} {tab : Tab} {zl : List (Nat × List HVal)} {h h' : Heap}
def leakL (i k : Nat) : SL → (SL → Option SL) → Option SL
 | [], f => f []
 | (t, v) :: l, f => match v with
  | .ext u => leakL i k l fun r => f ((t, .ext u) :: r)
  | .ptr j off => bcase (Nat.beq j i) (leakL i k l fun r => f ((t, .ext (.ptr k off)) :: r)) (leakL i k l fun r => f ((t, .ptr j off) :: r))
  | .sl j n => bcase (Nat.beq j i) (leakL i k l fun r => f ((t, .ext (.slice k 0 n (some n))) :: r)) (leakL i k l fun r => f ((t, .sl j n) :: r))
theorem leakL_rep {κ : PlX} {i k : Nat} (hk : nth κ i = some (k, 0)) : ∀ {L : SL} {L0 : Sts}, RepL κ L L0 → ∀ {f : SL → Option SL} {R : SL}, leakL i k L f = some R → ∃ L', f L' = some R ∧ RepL κ L' L0
 | [], _, .nil, f, R, h => ⟨[], h, .nil⟩
 | (t, v) :: L, _, .cons (v := w) hx ht, f, R, h => by
  cases v with
  | ext u =>
   obtain ⟨L', h1, h2⟩ := leakL_rep hk ht (show leakL i k L _ = some R from h)
   exact ⟨_, h1, .cons hx h2⟩
  | ptr j off =>
   have h : bcase (Nat.beq j i) (leakL i k L fun r => f ((t, .ext (.ptr k off)) :: r)) (leakL i k L fun r => f ((t, .ptr j off) :: r)) = some R := h
   cases hb : Nat.beq j i with
   | true =>
    rw [hb, bcT] at h
    obtain ⟨L', h1, h2⟩ := leakL_rep hk ht h
    refine ⟨_, h1, .cons ?_ h2⟩
    have := Nat.eq_of_beq_eq_true hb
    subst this
    cases hx with
    | ptr hk2 => rw [hk] at hk2; cases hk2; simp only [Nat.add_eq, Nat.zero_add]; exact .ext _
   | false =>
    rw [hb, bcF] at h
    obtain ⟨L', h1, h2⟩ := leakL_rep hk ht h
    exact ⟨_, h1, .cons hx h2⟩
  | sl j q =>
   have h : bcase (Nat.beq j i) (leakL i k L fun r => f ((t, .ext (.slice k 0 q (some q))) :: r)) (leakL i k L fun r => f ((t, .sl j q) :: r)) = some R := h
   cases hb : Nat.beq j i with
   | true =>
    rw [hb, bcT] at h
    obtain ⟨L', h1, h2⟩ := leakL_rep hk ht h
    refine ⟨_, h1, .cons ?_ h2⟩
    have := Nat.eq_of_beq_eq_true hb
    subst this
    cases hx with
    | sl hk2 => rw [hk] at hk2; cases hk2; exact .ext _
   | false =>
    rw [hb, bcF] at h
    obtain ⟨L', h1, h2⟩ := leakL_rep hk ht h
    exact ⟨_, h1, .cons hx h2⟩
theorem Mem.leak {κ : PlX} (M : Mem E κ B G h) {i k e : Nat} {lc : List HVal} {s : Bool} (hb : nth B i = some (.own lc e s)) (hk : nth κ i = some (k, 0)) {p : Part} (hp : (pts k lc e s).holds h → p.holds h) (hf : ∀ j, p.foot j → j = k) : Mem E κ (B.set i .gone) (p :: G) h := by
 obtain ⟨R, h3, _, h5⟩ := partsB_split hb hk
 have c := M.chg.perm (B' := pts k lc e s :: (R ++ G)) (by simpa using List.Perm.append_right G h3)
 have c2 : Chg E.C E.h (p :: (R ++ G)) h := by
  have hd := List.pairwise_cons.1 c.disj
  refine ⟨c.wf, c.next, c.keep, ?_, List.pairwise_cons.2 ⟨fun r hr j hj hrj => hd.1 r hr j (hf j hj) hrj, hd.2⟩, ?_⟩
  ·intro r hr
   rcases List.mem_cons.1 hr with rfl | hr
   ·exact hp (c.all _ (by simp))
   ·exact c.all r (by simp [hr])
  ·intro r hr j hj
   rcases List.mem_cons.1 hr with rfl | hr
   ·exact c.own (pts k lc e s) (by simp) j (hf j hj)
   ·exact c.own r (by simp [hr]) j hj
 refine ⟨c2.perm ?_, M.pre, by rw [List.length_set]; exact M.len, ?_, ?_, ?_⟩
 ·exact (List.Perm.cons _ (List.Perm.append_right G h5.symm)).trans List.perm_middle.symm
 ·intro j l' a b hj
  rcases nth_set hj with ⟨rfl, e⟩ | ⟨_, hj⟩
  ·cases e
  ·exact M.own j l' a b hj
 ·intro j l' hj
  rcases nth_set hj with ⟨rfl, e⟩ | ⟨_, hj⟩
  ·cases e
  ·exact M.ro j l' hj
 ·intro j l' hj
  rcases nth_set hj with ⟨rfl, e⟩ | ⟨_, hj⟩
  ·cases e
  ·obtain ⟨k2, o, g1, g2, g, g3, g4⟩ := M.tmp j l' hj
   exact ⟨k2, o, g1, g2, g, by simp [g3], g4⟩
structure AsPart (k : Nat) (lc : List HVal) (e : Nat) (s : Bool) (p : Part) : Prop where
 holds : ∀ h, (pts k lc e s).holds h → p.holds h
 foot : ∀ j, p.foot j → j = k
theorem AsPart.own {k e e' w n : Nat} {lc : List HVal} {s : Bool} {rows : List (List HVal)} (hl : rows.flatten = lc) (hw : ∀ r ∈ rows, r.length = w) (hn : rows.length = n) : AsPart k lc e s (ownS e' w (.slice k 0 n (some n)) rows) := by
 subst hn
 refine ⟨fun h hh => ⟨⟨none, .full hh (flatten_len hw) ?_⟩, hw⟩, fun j hj => ?_⟩
 ·rw [← hl, List.drop_zero, List.take_of_length_le (by rw [flatten_len hw]; exact Nat.le_refl _)]
 ·have : k = j := by simpa [ownS, keyW] using hj
  exact this.symm
theorem WOX.leak (i : Nat) (p : Nat → Part) {lc : List HVal} {e : Nat} {s : Bool} {L2 : Nat → SL} (hb : nth B i = some (.own lc e s)) (hp : ∀ k, AsPart k lc e s (p k)) (hL : ∀ k, leakL i k L some = some (L2 k)) (hB : setBX B i .gone some = some B') (hw : ∀ k, WOX P K E ops l (L2 k) B' (p k :: G) m n R) : WOX P K E ops l L B G m n R := by
 refine ⟨fun κ h L0 r M => ?_⟩
 obtain ⟨k, hk⟩ := M.own _ _ _ _ hb
 obtain ⟨L', h1, h2⟩ := leakL_rep hk r (hL k)
 cases h1
 rw [setBX_eq] at hB
 cases hB
 exact (hw k).run κ h L0 h2 (M.leak hb hk ((hp k).holds h) (hp k).foot)
theorem WCX.leak (i : Nat) (p : Nat → Part) {lc : List HVal} {e : Nat} {s : Bool} {L2 : Nat → SL} (hb : nth B i = some (.own lc e s)) (hp : ∀ k, AsPart k lc e s (p k)) (hL : ∀ k, leakL i k L some = some (L2 k)) (hB : setBX B i .gone some = some B') (hw : ∀ k, WCX P K E c (L2 k) B' (p k :: G) m n Q) : WCX P K E c L B G m n Q := by
 refine ⟨fun κ h L0 r M => ?_⟩
 obtain ⟨k, hk⟩ := M.own _ _ _ _ hb
 obtain ⟨L', h1, h2⟩ := leakL_rep hk r (hL k)
 cases h1
 rw [setBX_eq] at hB
 cases hB
 exact (hw k).run κ h L0 h2 (M.leak hb hk ((hp k).holds h) (hp k).foot)
theorem ToX.leak {ex : Ex} (i : Nat) (p : Nat → Part) {lc : List HVal} {e : Nat} {s : Bool} {L2 : Nat → SL} (hb : nth B i = some (.own lc e s)) (hp : ∀ k, AsPart k lc e s (p k)) (hL : ∀ k, leakL i k L some = some (L2 k)) (hB : setBX B i .gone some = some B') (hw : ∀ k, ToX E Q ex (L2 k) B' (p k :: G) m n) : ToX E Q ex L B G m n := by
 refine ⟨fun κ h L0 r M => ?_⟩
 obtain ⟨k, hk⟩ := M.own _ _ _ _ hb
 obtain ⟨L', h1, h2⟩ := leakL_rep hk r (hL k)
 cases h1
 rw [setBX_eq] at hB
 cases hB
 exact (hw k).run κ h L0 h2 (M.leak hb hk ((hp k).holds h) (hp k).foot)
theorem rd_len {v : HVal} {w : Nat} {α : Type} {g : α → List HVal} {l : List α} (f : (rd v w (l.map g)).holds h) : lenV v = some l.length := by
 have := f.slice.len; rwa [List.length_map] at this
theorem Sp.known {f : Nat} {args : List HVal} {v : HVal} {φ : HVal → Heap → Prop} (hk : K f args h = some (.ret v, h')) (hr : φ v h') : Sp P K f args h φ := ⟨v, h', .known hk, hr⟩
theorem qce {t p u c u' c' : Nat} {x y : Operand} (ho : o.op = .binOp .eql t x y p) (hx : evH P L x = some (.str u c)) (hy : evH P L y = some (.str u' c')) (hw : wantX ops o L = some true) (hf : fits o.dst n = true) (h1 : (u = u' ∧ c = c') → R (putX o.dst (.ext (.bool true)) L) B G) (h0 : ¬ (u = u' ∧ c = c') → R (putX o.dst (.ext (.bool false)) L) B G) : Op1X P K E ops o L B G m n R := by
 by_cases hp : u = u' ∧ c = c'
 ·exact qv hw hf (fun κ h L0 r M => by have := V.eqS (h := h) ho (evH_eq r hx) (evH_eq r hy); rwa [decide_eq_true hp] at this) (h1 hp)
 ·exact qv hw hf (fun κ h L0 r M => by have := V.eqS (h := h) ho (evH_eq r hx) (evH_eq r hy); rwa [decide_eq_false hp] at this) (h0 hp)
def takeV (v : HVal) (j : Nat) : HVal := match v with
 | .slice k off _ none => .slice k off j none
 | v => v
theorem rd.take {v : HVal} {w j : Nat} {rows : List (List HVal)} (hl : Loose v) (f : (rd v w rows).holds h) (hj : j < rows.length) : (rd (takeV v j) w (rows.take j)).holds h := by
 have hlen := f.slice.len
 cases hl with
 | nils => exact absurd (Option.some.inj hlen) (by omega)
 | empty => exact absurd (Option.some.inj hlen) (by omega)
 | slice k off c =>
  refine ⟨⟨by simp [takeV, lenV]; omega, fun i r hr => ?_⟩, fun k2 hk2 => f.live k2 hk2⟩
  rw [List.getElem?_take] at hr
  split at hr
  ·obtain ⟨k', off', cap', e1, hrow⟩ := f.slice.2 i r hr
   cases e1
   refine ⟨k, off, none, ?_, hrow⟩
   rw [List.length_take, Nat.min_eq_left (by omega)]; rfl
  ·cases hr
theorem V.hi {L : Sts} {t e w q j : Nat} {i : TI} {x y : Operand} {v : HVal} {rows : List (List HVal)} (hT : tabOk P tab = true) (ho : o.op = .slice t x none (some y) none) (ht : tyL tab t = some (.slice e, q)) (he : tyL tab e = some (i, w))
  (hx : evL P L x = some v) (hy : evL P L y = some (.int .i64 (.ofNat j))) (hl : Loose v) (f : (rd v w rows).holds h) (hj : j < rows.length) : OpV P o L h (takeV v j) h := by
 have hslice := (tab_slice hT ht).1
 obtain ⟨inf, hinf⟩ := (tab_slice hT ht).2
 have hel : elemOk P t = true := by simp only [elemOk, hslice, hinf]
 have hop : ∀ {v' : HVal}, sliceH P h t v none (some (.int .i64 (.ofNat j))) none = some v' → OpV P o L h v' h := fun {v'} e => OpV.mk ho fun ev ha d ty ps aft g => by
  simp only [opH, hel, bcT, evS ha hx, Option.map_some, evS ha hy, Option.map_none, e, HL.val, obS]
 have hb1 : ∀ y d, j ≤ y → boundO (some (.int .i64 (.ofNat j))) y d = some j := by
  intro y d hy
  have : Nat.ble j y = true := by rw [nble]; exact decide_eq_true hy
  show bcase (Nat.ble j y) (some j) none = some j
  rw [this]; rfl
 have hlen := f.slice.len
 cases hl with
 | nils => exact absurd (Option.some.inj hlen) (by omega)
 | empty => exact absurd (Option.some.inj hlen) (by omega)
 | slice k off c =>
  have hc : c = rows.length := by simpa [lenV] using hlen
  refine hop ?_
  have htop : topH P h k off c e (some (.int .i64 (.ofNat j))) = c := by
   unfold topH
   show bcase (Nat.ble j c) c _ = c
   have : Nat.ble j c = true := by rw [nble]; exact decide_eq_true (by omega)
   rw [this]; rfl
  simp only [sliceH, hslice, htop, hb1 c c (by omega), obS]; rfl
theorem qhi {t e w q j : Nat} {i : TI} {x y : Operand} {v : HVal} {rows : List (List HVal)} (hX : TK P tab zl) (ho : o.op = .slice t x none (some y) none) (ht : tyL tab t = some (.slice e, q)) (he : tyL tab e = some (i, w))
  (hx : evH P L x = some v) (hy : evH P L y = some (.int .i64 (.ofNat j))) (hl : Loose v) (hs : ∀ h, Fin E B G h → (rd v w rows).holds h) (hj : j < rows.length) (hw : wantX ops o L = some true) (hf : fits o.dst n = true) (hr : R (putX o.dst (.ext (takeV v j)) L) B G) : Op1X P K E ops o L B G m n R :=
 qv hw hf (fun κ h L0 r M => V.hi hX.tab ho ht he (evH_eq r hx) (evH_eq r hy) hl (hs h ⟨κ, M⟩) hj) hr
theorem qlG {cl : Call} {x : Operand} {t e e' w q : Nat} {v : HVal} {rows : List (List HVal)} (hX : TK P tab zl) (ho : o.op = .call cl) (hc : cl.callee = .builtin .len) (hx : cl.args = #[x]) (hts : cl.argTypes[0]? = some t) (ht : tyL tab t = some (.slice e, q)) (hs : evH P L x = some v) (hG : Pick G (ownS e' w v rows) G2) (hw : wantX ops o L = some true) (hf : fits o.dst n = true) (hr : R (putX o.dst (.ext (.int .i64 (rows.length : Int))) L) B G) : Op1X P K E ops o L B G m n R :=
 qv hw hf (fun κ h L0 r M => V.len hX.tab ho hc hx hts ht (evH_eq r hs) (ownS.rd (M.chg.all _ (List.mem_append_right _ hG.mem))).slice.len) hr
theorem qidxA {t e w i u off lim : Nat} {z : Int} {ti : TI} {x y : Operand} {kd : IntKind} (hX : TK P tab zl) (ho : o.op = .indexAddr t x y) (ht : tyL tab t = some (.array lim e, u)) (he : tyL tab e = some (ti, w)) (hx : evX P L x = some (.ptr i off)) (hy : evH P L y = some (.int kd z)) (h0 : 0 ≤ z) (hj : z < (lim : Int)) (hw : wantX ops o L = some true) (hf : fits o.dst n = true)
  (hr : R (putX o.dst (.ptr i (Nat.add off (Nat.mul z.toNat w))) L) B G) : Op1X P K E ops o L B G m n R := by
 obtain ⟨j, rfl⟩ := Int.eq_ofNat_of_zero_le h0
 refine .comp hw hf (fun κ h L0 r M => ?_) hr
 obtain ⟨v, g1, g2⟩ := evX_rep r hx
 cases g2 with
 | @ptr _ _ k o2 hk =>
  refine .same (v := .ptr k (Nat.add (Nat.add o2 off) (Nat.mul j w))) (OpV.mk ho fun ev ha d ty ps aft g => ?_) ?_ M
  ·obtain ⟨hu, inf, hi⟩ := tab_array hX.tab ht
   have h1 : elemOk P t = true := by simp only [elemOk, hu, hi]
   have h2 : Nat.blt j lim = true := by rw [nblt]; exact decide_eq_true (by omega)
   have e1 := evS ha g1
   have e2 := evS ha (evH_eq r hy)
   simp only [opH, h1, bcT, e1, e2, HVal.isNat, natOf, obS, hu, HVal.isPtr, h2, (tab_ok hX.tab he).2]
  ·have := Rep.ptr (κ := κ) (off := Nat.add off (Nat.mul (Int.toNat (j : Int)) w)) hk
   simp only [Nat.add_eq, ← Nat.add_assoc, Int.toNat_natCast] at this ⊢
   exact this
theorem qld {t i off : Nat} {x : Operand} {b : Blk} {lc m' : List HVal} {w : TI × Nat} (hX : TK P tab zl) (ho : o.op = .load t x) (hx : evX P L x = some (.ptr i off)) (hb : nth B i = some b) (hl : b.cells = some lc) (ht : tyL tab t = some w) (ha : w.1.agg = true) (hm : takeK (dropN lc off) w.2 some = some m') (hw : wantX ops o L = some true) (hf : fits o.dst n = true) (hr : R (putX o.dst (.ext (.agg m')) L) B G) : Op1X P K E ops o L B G m n R := by
 refine .comp hw hf (fun κ h L0 r M => evQ_sound hX r M (sv := .ext (.agg m')) ?_) hr
 rw [ho]
 simp only [evQ, hx, obS, hb, hl, ht, ha, bcT]
 rw [takeK_eq] at hm ⊢
 split at hm
 ·rename_i hle
  cases hm
  rw [if_pos hle]
 ·cases hm
end
end
end Go.HL
namespace Go.HL
open Go
noncomputable section
section
variable {P : Program} {K : CallFn} {E : Env0} {ops : Array Oper} {o : Oper} {l : List Oper} {L L' : SL} {B B' : List Blk} {G G' G2 : List Part} {m n : Nat} {R : SL → List Blk → List Part → Prop} {Q : Ex → St → Prop} {a b c : Code} {tab : Tab} {zl : List (Nat × List HVal)} {h h' : Heap}
theorem Mem.startG {g : Part} (w : Wf h) (hg : g.holds h) : Mem ⟨[g], h, []⟩ [] [] [g] h := by
 refine ⟨⟨w, Nat.le_refl _, fun e _ => e, ?_, List.pairwise_singleton _ _, ?_⟩, ⟨[], rfl⟩, rfl, ?_, ?_, ?_⟩
 ·intro r hr
  have : r = g := by simpa [partsB] using hr
  subst this; exact hg
 ·intro r hr j hj
  exact .inl ⟨r, by simpa [partsB] using hr, hj⟩
 ·intro i l' e' s' hb
  rw [nth_eq] at hb
  simp at hb
 all_goals
  intro i l' hb
  rw [nth_eq] at hb
  simp at hb
theorem Sp.startG {f : Nat} {g : Part} {fn : Func} {c : Code} {args : List HVal} {R : HVal → Heap → Prop} (w : Wf h) (hg : g.holds h) (hK : K f args h = none) (hf : P.funcs[f]? = some fn) (hb : fn.body = some c) (hlt : Nat.blt f roundNo = true)
  (hm : Nat.lor (maskOf fn) (Nat.sub (Nat.pow 2 args.length) 1) = m) (hl : Nat.add args.length (Nat.sub fn.ntmps args.length) = n) (hn : numE args = some L)
  (hw : WCX P K ⟨[g], h, []⟩ c L [] [g] m n (FnQ P fn R)) : Sp P K f args h R :=
 Sp.all hK hf hb hlt hm hl (hw.run [] h _ (numE_rep hn) (Mem.startG w hg))
def TrG (g : Part) (φ : HVal → List Part → Prop) (h : Heap) (v : HVal) (h' : Heap) : Prop := ∃ C', Chg [g] h C' h' ∧ φ v C'
theorem qcallG {cl : Call} {x : Operand} {f : Nat} {args : List HVal} {g : Part} {φ : HVal → List Part → Prop} (ho : o.op = .call cl) (hc : cl.callee = .value x) (hx : evH P L x = some (.func f [] [])) (ha : argsH P L cl.args.toList = some args) (hf : Callable P f) (hw : wantX ops o L = some true) (hfit : fits o.dst n = true) (hG : Pick G g G2) (hn : noTmp B = true)
  (hs : ∀ h, Fin E B G h → g.holds h → (∀ a, Ro E.C E.h a → Ro [g] h a) → (∀ a ∈ G2, Ro [g] h a) → Sp P K f args h (TrG g φ h)) (hr : ∀ v C', φ v C' → R (putX o.dst (.ext v) L) B (C' ++ G2)) : Op1X P K E ops o L B G m n R := by
 refine ⟨fun κ h L0 r M => ?_⟩
 have hmem : g ∈ partsB B κ ++ G := List.mem_append_right _ hG.mem
 have hap : ∀ a ∈ G2, Ro [g] h a := fun a hag => by
  have hp := M.chg.disj
  have hd := (List.pairwise_append.1 hp).2.1
  have hd2 := pairwise_perm hG.perm hd
  refine ⟨M.chg.all a (List.mem_append_right _ (hG.perm.mem_iff.2 (by simp [hag]))), fun q hq => ?_⟩
  have : q = g := by simpa using hq
  subst this
  exact ((List.pairwise_cons.1 hd2).1 a hag).symm
 refine Op1.sp (C.call ho hc (evH_eq r hx) (argsH_eq r ha) hf) (wantX_eq r hw) hfit (hs h ⟨κ, M⟩ (M.chg.all _ hmem) (fun a ra => ra.narrow M hmem) hap) ?_
 rintro v h' ⟨C', d, hφ⟩
 exact ⟨κ, _, _, _, pfx_refl κ, r.put (.ext v) o.dst, M.callG hG d hn, hr v C' hφ⟩
theorem qidxW {t e q j len k off w : Nat} {i : TI} {x y : Operand} {kd : IntKind} {cap : Option Nat} (hX : TK P tab zl) (ho : o.op = .indexAddr t x y) (ht : tyL tab t = some (.slice e, q)) (he : tyL tab e = some (i, w)) (hx : evH P L x = some (.slice k off len cap)) (hy : evH P L y = some (.int kd (.ofNat j))) (hj : j < len) (hw : wantX ops o L = some true) (hf : fits o.dst n = true) (hk : R (putX o.dst (.ext (.ptr k (Nat.add off (Nat.mul j w)))) L) B G) : Op1X P K E ops o L B G m n R :=
 qv hw hf (fun κ h L0 r M => V.indexAddr hX.tab ho ht he (evH_eq r hx) (evH_eq r hy) hj) hk
theorem ones {rows : List (List HVal)} (hr : ∀ r ∈ rows, r.length = 1) {j : Nat} {v : HVal} : (rows.set j [v]).flatten = rows.flatten.set j v := by
 induction rows generalizing j with
 | nil => rfl
 | cons r rows ih =>
  have h1 := hr r (by simp)
  obtain ⟨u, rfl⟩ : ∃ u, r = [u] := by cases r with | nil => cases h1 | cons u r => cases r with | nil => exact ⟨u, rfl⟩ | cons => cases h1
  cases j with
  | zero => rfl
  | succ j =>
   have := ih (fun q hq => hr q (by simp [hq])) (j := j)
   simp [this]
theorem qstW {t e k off len j : Nat} {ti : TI} {x y : Operand} {v : HVal} {rows : List (List HVal)} (hX : TK P tab zl) (ho : o.op = .store t x y) (ht : tyL tab t = some (ti, 1)) (hx : evH P L x = some (.ptr k (Nat.add off (Nat.mul j 1)))) (hy : evH P L y = some v) (hc : v.cells = some [v]) (hG : Pick G (ownS e 1 (.slice k off len none) rows) G2) (hj : j < rows.length) (hn : noTmp B = true) (hw : wantX ops o L = some true) (hf : fits o.dst n = true)
  (hr : R (putX o.dst (.ext undefH) L) B (ownS e 1 (.slice k off len none) (rows.set j [v]) :: G2)) : Op1X P K E ops o L B G m n R := by
 refine ⟨fun κ h L0 r M => ?_⟩
 obtain ⟨⟨d, ha⟩, hrl⟩ := M.chg.all _ (List.mem_append_right _ hG.mem)
 have hfl := flatten_len hrl
 generalize hcc : rows.length = cc at ha hj hfl
 generalize hll : rows.flatten = fl at ha hfl
 cases ha with
 | @own _ _ _ LL _ hg hl hd =>
  have hov : overK LL (Nat.add off (Nat.mul j 1)) [v] some = some (LL.set (off + j) v) := by
   rw [overK_eq]
   simp only [Nat.add_eq, Nat.mul_eq, Nat.mul_one, List.length_singleton]
   rw [if_pos (.inr (by omega)), List.set_eq_take_append_cons_drop, if_pos (by omega)]
   simp
  refine Op1.val (V.storeP hX.tab ho ht (evH_eq r hx) (evH_eq r hy) hc rfl hg hov) (wantX_eq r hw) hf ?_
  have p := put_put M.wf (.cells (LL.set (off + j) v) e true true) (M.wf.lt hg)
  refine ⟨κ, _, _, _, pfx_refl κ, r.put (.ext _) o.dst, M.callG (C' := [ownS e 1 (.slice k off len none) (rows.set j [v])]) hG ?_ hn, hr⟩
  refine ⟨p.wf, Nat.le_of_eq p.next.symm, fun {i o} hi hno => ?_, ?_, List.pairwise_singleton _ _, ?_⟩
  ·rw [p.old i (fun e => hno _ (List.mem_singleton.2 rfl) (by rw [e]; rfl))]; exact hi
  ·intro q hq
   simp only [List.mem_singleton] at hq
   subst hq
   refine ⟨⟨some k, ?_⟩, fun r hr => ?_⟩
   ·rw [ones hrl, hll, List.length_set, hcc]
    refine .own p.get (by rw [List.length_set]; exact hl) ?_
    rw [← hd, List.drop_set]
    rw [if_neg (by omega), Nat.add_sub_cancel_left]
   ·rcases List.mem_or_eq_of_mem_set hr with hr | hr
    ·exact hrl r hr
    ·rw [hr]; rfl
  ·intro q hq i hi
   simp only [List.mem_singleton] at hq
   subst hq
   exact .inl ⟨_, List.mem_singleton.2 rfl, hi⟩
theorem Ro.sl {C : List Part} {k e w n : Nat} {lc : List HVal} {s : Bool} {rows : List (List HVal)} (r : Ro C h (pts k lc e s)) (hl : rows.flatten = lc) (hw : ∀ r ∈ rows, r.length = w) (hn : rows.length = n) : Ro C h (rd (.slice k 0 n (some n)) w rows) := by
 have a : AsPart k lc e s (ownS e w (.slice k 0 n (some n)) rows) := .own hl hw hn
 refine ⟨ownS.rd (a.holds h r.holds), fun q hq j hj => r.away q hq j ?_⟩
 have : k = j := by simpa [rd, keyV] using hj
 exact this.symm
theorem Mem.ptsRo {κ : PlX} (M : Mem E κ B G h) {g : Part} (hG : Pick G g G2) {i k e : Nat} {lc : List HVal} {s : Bool} (hb : nth B i = some (.own lc e s)) (hk : nth κ i = some (k, 0)) : Ro [g] h (pts k lc e s) :=
 ⟨M.chg.all _ (List.mem_append_left _ (partsB_mem hb hk)), fun q hq => by
  have : q = g := by simpa using hq
  subst this
  exact (List.pairwise_append.1 M.chg.disj).2.2 _ (partsB_mem hb hk) _ hG.mem⟩
theorem qcallGS {cl : Call} {x x1 y : Operand} {f i sn e : Nat} {lc : List HVal} {s : Bool} {v1 : HVal} {g : Part} {φ : HVal → List Part → Prop} (ho : o.op = .call cl) (hc : cl.callee = .value x) (hx : evH P L x = some (.func f [] [])) (ha : cl.args.toList = [x1, y]) (h1 : evH P L x1 = some v1) (hy : evX P L y = some (.sl i sn)) (hb : nth B i = some (.own lc e s)) (hf : Callable P f) (hw : wantX ops o L = some true) (hfit : fits o.dst n = true) (hG : Pick G g G2) (hn : noTmp B = true)
  (hs : ∀ k h, Fin E B G h → g.holds h → Ro [g] h (pts k lc e s) → Sp P K f [v1, .slice k 0 sn (some sn)] h (TrG g φ h)) (hr : ∀ v C', φ v C' → R (putX o.dst (.ext v) L) B (C' ++ G2)) : Op1X P K E ops o L B G m n R := by
 refine ⟨fun κ h L0 r M => ?_⟩
 obtain ⟨k, hk⟩ := M.own _ _ _ _ hb
 obtain ⟨w, g1, g2⟩ := evX_rep r hy
 have hw0 : w = .slice k 0 sn (some sn) := by
  cases g2 with
  | sl hk2 => rw [hk] at hk2; cases hk2; rfl
 subst hw0
 have hargs : argsV P L0 cl.args.toList = some [v1, .slice k 0 sn (some sn)] := by rw [ha]; simp only [argsV, evH_eq r h1, g1, obS]
 refine Op1.sp (C.call ho hc (evH_eq r hx) hargs hf) (wantX_eq r hw) hfit (hs k h ⟨κ, M⟩ (M.chg.all _ (List.mem_append_right _ hG.mem)) (M.ptsRo hG hb hk)) ?_
 rintro v h' ⟨C', d, hφ⟩
 exact ⟨κ, _, _, _, pfx_refl κ, r.put (.ext v) o.dst, M.callG hG d hn, hr v C' hφ⟩
theorem Pick.he {a b : Part} {B : List Part} (e : a = b) : Pick (a :: B) b B := e ▸ .h
theorem ownS_snoc {α : Type} {g : α → List HVal} {e w : Nat} {v : HVal} {l l2 : List α} {x : α} (he : l2 = l ++ [x]) : ownS e w v (l.map g ++ [g x]) = ownS e w v (l2.map g) := by rw [he, List.map_append]; rfl
theorem WCX.fact {p : Prop} (hp : ∀ h, Fin E B G h → p) (hw : p → WCX P K E c L B G m n Q) : WCX P K E c L B G m n Q := ⟨fun κ h L0 r M => (hw (hp h ⟨κ, M⟩)).run κ h L0 r M⟩
theorem ownS.len_eq {α : Type} {g : α → List HVal} {e w k off n : Nat} {cap : Option Nat} {l : List α} (a : (ownS e w (.slice k off n cap) (l.map g)).holds h) : n = l.length := by
 have := (ownS.rd a).slice.len
 simpa [lenV] using this
theorem qappN {t t2 e w q q2 bs j e2 cm : Nat} {s2 : Bool} {i : TI} {cl : Call} {x y : Operand} {v : HVal} {z lc : List HVal} {rows : List (List HVal)} (new : List (List HVal)) (hX : TK P tab zl)
  (ho : o.op = .call cl) (hc : cl.callee = .builtin .append) (ha : cl.args = #[x, y]) (h0 : cl.argTypes[0]? = some t) (h2 : cl.argTypes[1]? = some t2) (ht : tyL tab t = some (.slice e, q)) (ht2 : tyL tab t2 = some (.slice e, q2))
  (he : tyL tab e = some (i, w)) (hz : zL zl e = some z) (hzl : Nat.beq z.length w = true) (he0 : Nat.beq e 0 = false) (hw0 : Nat.beq w 0 = false) (hb : P.bytesOf e = bs) (hb0 : Nat.beq bs 0 = false)
  (hx : evH P L x = some v) (hy : evX P L y = some (.sl j cm)) (hbk : nth B j = some (.own lc e2 s2)) (hfl : new.flatten = lc) (hnl : ∀ r ∈ new, r.length = w) (hcm : new.length = cm) (hpos : 0 < cm) (hG : Pick G (ownS e w v rows) G2) (hn : noTmp B = true) (hroom : (rows.length + new.length) * bs ≤ 140737488355328)
  (hw : wantX ops o L = some true) (hf : fits o.dst n = true) (hr : ∀ k, R (putX o.dst (.ext (.slice k 0 (rows.length + new.length) none)) L) B (ownS e w (.slice k 0 (rows.length + new.length) none) (rows ++ new) :: G2)) : Op1X P K E ops o L B G m n R := by
 refine ⟨fun κ h L0 r M => ?_⟩
 subst hcm
 obtain ⟨⟨d, hv⟩, hrl⟩ := M.chg.all _ (List.mem_append_right _ hG.mem)
 obtain ⟨k2, hk2⟩ := M.own _ _ _ _ hbk
 obtain ⟨w2, g1, g2⟩ := evX_rep r hy
 have hw2 : w2 = .slice k2 0 new.length (some new.length) := by
  cases g2 with
  | sl hk => rw [hk2] at hk; cases hk; rfl
 subst hw2
 have hblk : (pts k2 lc e2 s2).holds h := M.chg.all _ (List.mem_append_left _ (partsB_mem hbk hk2))
 rw [← hfl] at hblk
 refine Op1.append hX.tab ho hc ha h0 h2 ht ht2 he (hX.zero.look hz) hzl he0 hw0 hb hb0 (evH_eq r hx) g1 hv (row_all hblk) (by rw [nbeq]; exact decide_eq_true (flatten_len hnl)) (by rw [nbeq]; exact decide_eq_false (by omega)) hroom M.wf (wantX_eq r hw) hf ?_
 intro k h' p
 exact ⟨κ, _, _, _, pfx_refl κ, r.put (.ext _) o.dst, M.callG hG (Appended.chg hv hrl hnl p) hn, hr k⟩
end
end
end Go.HL
namespace Go.HL
open Go
noncomputable section
section
variable {P : Program} {K : CallFn} {E : Env0} {ops : Array Oper} {o : Oper} {l : List Oper} {L L' : SL} {B B' : List Blk} {G G' G2 : List Part} {m n : Nat} {R : SL → List Blk → List Part → Prop} {Q : Ex → St → Prop} {a b c : Code} {tab : Tab} {zl : List (Nat × List HVal)} {h h' : Heap}
/-! ## Values of several cells compared -/
end
end
end Go.HL
namespace Go.HL
open Go
noncomputable section
section
variable {P : Program} {K : CallFn} {E : Env0} {ops : Array Oper} {o : Oper} {L : SL} {B : List Blk} {G : List Part} {m n : Nat} {R : SL → List Blk → List Part → Prop} {h : Heap} {tab : Tab} {zl : List (Nat × List HVal)}
theorem codeN_shift : ∀ (b : List Nat) (s : Nat), codeN b s = s * 256 ^ b.length + codeN b 0
 | [], s => by simp [codeN]
 | x :: b, s => by
  show codeN b (s * 256 + x) = s * 256 ^ (b.length + 1) + codeN b (0 * 256 + x)
  rw [codeN_shift b (s * 256 + x), codeN_shift b (0 * 256 + x), Nat.pow_succ, Nat.add_mul, Nat.mul_assoc, Nat.mul_comm 256, Nat.zero_mul, Nat.zero_add]
  omega
theorem codeN_cat (a b : List Nat) : codeN (a ++ b) 0 = codeN a 0 * 2 ^ (8 * b.length) + codeN b 0 := by
 rw [codeN, List.foldl_append]
 show codeN b (codeN a 0) = _
 rw [codeN_shift, Nat.pow_mul]
theorem V.cat {L : Sts} {t p : Nat} {x y : Operand} {a b : List Nat} (ho : o.op = .binOp .add t x y p) (hx : evL P L x = some (.str a.length (codeN a 0))) (hy : evL P L y = some (.str b.length (codeN b 0))) (hl : a.length + b.length ≤ 9223372036854775807) : OpV P o L h (.str (a ++ b).length (codeN (a ++ b) 0)) h := OpV.mk ho fun ev ha d ty ps aft g => by
 have e : binH P .add t (.str a.length (codeN a 0)) (.str b.length (codeN b 0)) = some (.str (a ++ b).length (codeN (a ++ b) 0)) := by
  show strOp .add _ _ _ _ = _
  unfold strOp
  have : Nat.ble (Nat.add a.length b.length) 9223372036854775807 = true := by rw [nble]; exact decide_eq_true hl
  simp only [this, bcT]
  rw [codeN_cat, List.length_append]; rfl
 simp only [opH, evS ha hx, evS ha hy, binC, e, HL.val, obS]
theorem qcat {t p : Nat} {x y : Operand} {a b : List Nat} (ho : o.op = .binOp .add t x y p) (hx : evH P L x = some (.str a.length (codeN a 0))) (hy : evH P L y = some (.str b.length (codeN b 0))) (hl : a.length + b.length ≤ 9223372036854775807) (hw : wantX ops o L = some true) (hf : fits o.dst n = true) (hr : R (putX o.dst (.ext (.str (a ++ b).length (codeN (a ++ b) 0))) L) B G) : Op1X P K E ops o L B G m n R :=
 qv hw hf (fun κ h L0 r M => V.cat ho (evH_eq r hx) (evH_eq r hy) hl) hr
theorem qidxS {t e w i sn j q : Nat} {ti : TI} {x y : Operand} {kd : IntKind} (hX : TK P tab zl) (ho : o.op = .indexAddr t x y) (ht : tyL tab t = some (.slice e, q)) (he : tyL tab e = some (ti, w)) (hx : evX P L x = some (.sl i sn)) (hy : evH P L y = some (.int kd (.ofNat j))) (hj : j < sn) (hw : wantX ops o L = some true) (hf : fits o.dst n = true)
  (hr : R (putX o.dst (.ptr i (Nat.mul j w)) L) B G) : Op1X P K E ops o L B G m n R := by
 refine .comp hw hf (fun κ h L0 r M => ?_) hr
 obtain ⟨v, g1, g2⟩ := evX_rep r hx
 cases g2 with
 | @sl _ k _ hk =>
  refine .same (V.indexAddr hX.tab ho ht he g1 (evH_eq r hy) hj) ?_ M
  have := Rep.ptr (κ := κ) (off := Nat.mul j w) hk
  exact this
end
end
end Go.HL
namespace Go.HL
open Go
noncomputable section
section
variable {P : Program} {K : CallFn} {E : Env0} {ops : Array Oper} {o : Oper} {l : List Oper} {L L' : SL} {B B' : List Blk} {G G' G2 : List Part} {m n : Nat} {R : SL → List Blk → List Part → Prop} {Q : Ex → St → Prop} {a b c : Code} {tab : Tab} {zl : List (Nat × List HVal)} {h h' : Heap}
structure SplitP (g : Part) (Ds : List Part) : Prop where
 all : ∀ h, g.holds h → ∀ r ∈ Ds, r.holds h
 disj : ∀ h, g.holds h → Ds.Pairwise Apart
 foot : ∀ r ∈ Ds, ∀ k, r.foot k → g.foot k
theorem SplitP.chg {g : Part} {Ds : List Part} (s : SplitP g Ds) (w : Wf h) (hg : g.holds h) : Chg [g] h Ds h :=
 ⟨w, Nat.le_refl _, fun e _ => e, s.all h hg, s.disj h hg, fun r hr k hk => .inl ⟨g, by simp, s.foot r hr k hk⟩⟩
theorem WCX.split {g : Part} {Ds : List Part} (s : SplitP g Ds) (hG : Pick G g G2) (hn : noTmp B = true) (hw : WCX P K E c L B (Ds ++ G2) m n Q) : WCX P K E c L B G m n Q :=
 ⟨fun κ h L0 r M => hw.run κ h L0 r (M.callG hG (s.chg M.wf (M.chg.all _ (List.mem_append_right _ hG.mem))) hn)⟩
theorem Chg.join {g : Part} {C Ds R : List Part} {h0 : Heap} (d : Chg C h0 (Ds ++ R) h) (hg : (∀ r ∈ Ds, r.holds h) → Ds.Pairwise Apart → g.holds h) (hf : ∀ k, g.foot k → ∃ r ∈ Ds, r.foot k) : Chg C h0 (g :: R) h := by
 have hd := List.pairwise_append.1 d.disj
 refine ⟨d.wf, d.next, d.keep, fun r hr => ?_, List.pairwise_cons.2 ⟨fun r hr k hk hrk => ?_, hd.2.1⟩, fun r hr k hk => ?_⟩
 ·rcases List.mem_cons.1 hr with rfl | hr
  ·exact hg (fun r hr => d.all r (List.mem_append_left _ hr)) hd.1
  ·exact d.all r (List.mem_append_right _ hr)
 ·obtain ⟨q, hq, hqk⟩ := hf k hk
  exact hd.2.2 q hq r hr k hqk hrk
 ·rcases List.mem_cons.1 hr with rfl | hr
  ·obtain ⟨q, hq, hqk⟩ := hf k hk
   exact d.own q (List.mem_append_left _ hq) k hqk
  ·exact d.own r (List.mem_append_right _ hr) k hk
theorem qldE {t e k off w : Nat} {s : Bool} {i : TI} {x : Operand} {v : HVal} {lc : List HVal} (hX : TK P tab zl) (ho : o.op = .load t x) (ht : tyL tab t = some (i, w)) (hi : i.agg = false) (hx : evH P L x = some (.ptr k off)) (hG : Pick G (pts k lc e s) G2) (hv : nth lc off = some v) (hw : wantX ops o L = some true) (hf : fits o.dst n = true) (hr : R (putX o.dst (.ext v) L) B G) : Op1X P K E ops o L B G m n R :=
 qv hw hf (fun κ h L0 r M => by
  have hp := M.chg.all _ (List.mem_append_right _ hG.mem)
  have hx' : evL P L0 x = some (.ptr k (Nat.add 0 off)) := by rw [Nat.add_eq, Nat.zero_add]; exact evH_eq r hx
  exact V.loadR hX.tab ho ht hi hx' (row_all hp) hv) hr
theorem qstE {t e k off : Nat} {s : Bool} {ti : TI} {x y : Operand} {v : HVal} {lc l' : List HVal} (hX : TK P tab zl) (ho : o.op = .store t x y) (ht : tyL tab t = some (ti, 1)) (hx : evH P L x = some (.ptr k off)) (hy : evH P L y = some v) (hc : v.cells = some [v]) (hG : Pick G (pts k lc e s) G2) (hov : overK lc off [v] some = some l') (hn : noTmp B = true) (hw : wantX ops o L = some true) (hf : fits o.dst n = true)
  (hr : R (putX o.dst (.ext undefH) L) B (pts k l' e s :: G2)) : Op1X P K E ops o L B G m n R := by
 refine ⟨fun κ h L0 r M => ?_⟩
 have hp := M.chg.all _ (List.mem_append_right _ hG.mem)
 refine Op1.val (V.storeP hX.tab ho ht (evH_eq r hx) (evH_eq r hy) hc rfl hp hov) (wantX_eq r hw) hf ?_
 exact ⟨κ, _, _, _, pfx_refl κ, r.put (.ext _) o.dst, M.callG (C' := [pts k l' e s]) hG (chg_put (put_put M.wf _ (M.wf.lt hp))) hn, hr⟩
theorem qappB {t t2 e w q2 bs j c : Nat} {i : TI} {cl : Call} {x y : Operand} {v : HVal} {z : List HVal} {rows : List (List HVal)} (new : List Nat) (hX : TK P tab zl)
  (ho : o.op = .call cl) (hc : cl.callee = .builtin .append) (ha : cl.args = #[x, y]) (h0 : cl.argTypes[0]? = some t) (h2 : cl.argTypes[1]? = some t2) (ht : tyL tab t = some (.slice e, w)) (ht2 : tyL tab t2 = some (.str, q2))
  (he : tyL tab e = some (i, 1)) (hz : zL zl e = some z) (hzl : Nat.beq z.length 1 = true) (he0 : Nat.beq e 0 = false) (hb : P.bytesOf e = bs) (hb0 : Nat.beq bs 0 = false)
  (hx : evH P L x = some v) (hy : evH P L y = some (.str j c)) (hj : j = new.length) (hcode : sBytes j c 0 j = byteCells new) (hpos : 0 < new.length) (hG : Pick G (ownS e 1 v rows) G2) (hn : noTmp B = true) (hroom : (rows.length + new.length) * bs ≤ 140737488355328)
  (hw : wantX ops o L = some true) (hf : fits o.dst n = true) (hr : ∀ k, R (putX o.dst (.ext (.slice k 0 (rows.length + new.length) none)) L) B (ownS e 1 (.slice k 0 (rows.length + new.length) none) (rows ++ new.map bcell) :: G2)) : Op1X P K E ops o L B G m n R := by
 refine ⟨fun κ h L0 r M => ?_⟩
 obtain ⟨⟨d, hv⟩, hrl⟩ := M.chg.all _ (List.mem_append_right _ hG.mem)
 have hlen : (byteCells new).length = new.length := by simp [byteCells]
 have happ : appended P e (.str j c) h = some (new.length, byteCells new) := by
  unfold appended
  rw [(tab_ok hX.tab he).2]
  show bcase true _ _ = _
  rw [bcT, hcode, hj]
 refine Op1.appendOf hX.tab ho hc ha h0 (by simp only [noNumber, h2, tab_str hX.tab ht2]) ht he (hX.zero.look hz) hzl he0 rfl hb hb0 (evH_eq r hx) (evH_eq r hy) hv happ (by rw [hlen, Nat.mul_one]) (by rw [nbeq]; exact decide_eq_false (by omega)) hroom M.wf (wantX_eq r hw) hf ?_
 intro k h' p
 have hnl : ∀ r ∈ new.map bcell, r.length = 1 := by
  intro r hr
  obtain ⟨q, _, rfl⟩ := List.mem_map.1 hr
  rfl
 have p' : Appended h e 1 (rows.length + (new.map bcell).length) (rows.flatten ++ (new.map bcell).flatten) d k h' := by
  rw [List.length_map, bcells_flatten]; exact p
 have c := Appended.chg hv hrl hnl p'
 rw [List.length_map] at c
 exact ⟨κ, _, _, _, pfx_refl κ, r.put (.ext _) o.dst, M.callG hG c hn, hr k⟩
theorem qsd {cl : Call} {x : Operand} {k off c : Nat} (ho : o.op = .call cl) (hc : cl.callee = .builtin .unsafeSliceData) (hx : cl.args = #[x]) (hs : evH P L x = some (.slice k off c none)) (h0 : 0 < c) (hw : wantX ops o L = some true) (hf : fits o.dst n = true) (hr : R (putX o.dst (.ext (.ptr k off)) L) B G) : Op1X P K E ops o L B G m n R :=
 qv hw hf (fun κ h L0 r M => OpV.mk ho fun ev ha d ty ps aft g => by
  have hb : Nat.beq c 0 = false := by rw [nbeq]; exact decide_eq_false (by omega)
  simp only [opH, hc, hx, List.map_cons, List.map_nil, builtinH, evS ha (evH_eq r hs), hb, bcF]) hr
theorem qus {cl : Call} {x y : Operand} {t e k c : Nat} {bs : List Nat} (ho : o.op = .call cl) (hc : cl.callee = .builtin .unsafeString) (ha : cl.args = #[x, y]) (h0 : cl.argTypes[0]? = some t) (hpt : P.underlying t = some (.pointer e)) (he : P.underlying e = some (.int .u8)) (hce : P.cellsOf e = 1) (hne : Nat.beq e 0 = false)
  (hx : evH P L x = some (.ptr k 0)) (hy : evH P L y = some (.int .i64 (.ofNat c))) (hcl : c = bs.length) (hG : Pick G (ownS e 1 (.slice k 0 c none) (bs.map bcell)) G2) (hpos : 0 < bs.length) (hmax : bs.length ≤ 9223372036854775807) (hb : ∀ b ∈ bs, b < 256) (hn : noTmp B = true) (hw : wantX ops o L = some true) (hf : fits o.dst n = true)
  (hr : R (putX o.dst (.ext (.str bs.length (codeN bs 0))) L) B G2) : Op1X P K E ops o L B G m n R := by
 subst hcl
 refine ⟨fun κ h L0 r M => ?_⟩
 obtain ⟨⟨d, hv⟩, hrl⟩ := M.chg.all _ (List.mem_append_right _ hG.mem)
 rw [List.length_map, bcells_flatten] at hv
 generalize hbs : byteCells bs = l at hv
 have hll : l.length = bs.length := by rw [← hbs]; simp [byteCells]
 cases hv with
 | @own _ _ _ LL _ hg hl hd =>
  rw [List.drop_zero] at hd
  subst hd
  refine Op1.val (v := .str bs.length (codeN bs 0)) (h' := h.put k (.cells LL e true false)) (fun ev hag => ?_) (wantX_eq r hw) hf ?_
  ·obtain ⟨dd, op, ty, ps, aft, g⟩ := o
   simp only at ho
   subst ho
   have n0 : Nat.beq bs.length 0 = false := by rw [nbeq]; exact decide_eq_false (by omega)
   have n1 : Nat.ble bs.length 9223372036854775807 = true := by rw [nble]; exact decide_eq_true hmax
   have n2 : takeK (dropN LL 0) bs.length (fun l => ob (bytesCode l 0) fun c => some (Out.val (.str bs.length c) (h.put k (.cells LL e true false)))) = some (Out.val (.str bs.length (codeN bs 0)) (h.put k (.cells LL e true false))) := by
    rw [takeK_eq, dropN_eq, List.drop_zero, if_pos (by rw [hll]; exact Nat.le_refl _), List.take_of_length_le (by rw [hll]; exact Nat.le_refl _), ← hbs, bytesCode_cells 0 hb, obS]
   have n3 : (HVal.int .i64 (.ofNat bs.length)).isNat = some bs.length := rfl
   simp only [opH, hc, ha, List.map_cons, List.map_nil, builtinH, evS hag (evH_eq r hx), evS hag (evH_eq r hy), n3, obS, unsafeStringH, h0, n0, bcF, n1, bcT, HVal.isPtr, hpt, he, cells_get hg, hne, hce, Nat.beq_refl, n2]
  ·refine ⟨κ, _, _, _, pfx_refl κ, r.put (.ext _) o.dst, M.callG (C' := []) hG ?_ hn, hr⟩
   have p := put_put M.wf (.cells LL e true false) (M.wf.lt hg)
   refine ⟨p.wf, Nat.le_of_eq p.next.symm, fun {j o} hj hno => ?_, fun r hr => by simp at hr, .nil, fun r hr => by simp at hr⟩
   rw [p.old j (fun e => hno _ (List.mem_singleton.2 rfl) (by rw [e]; rfl))]; exact hj
theorem qcvA {s t k off e ee : Nat} {sp : Bool} {x : Operand} {lc : List HVal} {v : HVal} (ho : o.op = .convert s t x) (hs : P.underlying s = some (.pointer ee)) (ht : P.underlying t = some .unsafePointer) (hce : Nat.beq (P.cellsOf ee) 0 = false) (hx : evH P L x = some (.ptr k off)) (hG : Pick G (pts k lc e sp) G2) (hv : nth lc off = some v) (hw : wantX ops o L = some true) (hf : fits o.dst n = true) (hr : R (putX o.dst (.ext (.ptr k off)) L) B G) : Op1X P K E ops o L B G m n R :=
 qv hw hf (fun κ h L0 r M => OpV.mk ho fun ev ha d ty ps aft g => by
  have hp : h.get k = some (.cells lc e sp true) := M.chg.all _ (List.mem_append_right _ hG.mem)
  have h1 : toBytes P s t = none := by simp only [toBytes, hs]
  simp only [opH, h1, convH, ht, hs, evS ha (evH_eq r hx), HVal.isPtr, obS, hce, bcF, load1, cells_get hp, hv]) hr
theorem qcvB {s t k off e u : Nat} {x : Operand} {lc : List HVal} (ho : o.op = .convert s t x) (hs : P.underlying s = some .unsafePointer) (ht : P.underlying t = some (.pointer u)) (hce : Nat.beq (P.cellsOf u) 0 = false) (he : Nat.beq e 0 = false) (hlies : liesAt P P.depth e (Nat.div lc.length (P.cellsOf e)) off u 1 = true) (hx : evH P L x = some (.ptr k off)) (hG : Pick G (pts k lc e false) G2) (hw : wantX ops o L = some true) (hf : fits o.dst n = true) (hr : R (putX o.dst (.ext (.ptr k off)) L) B G) : Op1X P K E ops o L B G m n R :=
 qv hw hf (fun κ h L0 r M => OpV.mk ho fun ev ha d ty ps aft g => by
  have hp : h.get k = some (.cells lc e false true) := M.chg.all _ (List.mem_append_right _ hG.mem)
  have h1 : toBytes P s t = none := by simp only [toBytes, hs]
  simp only [opH, h1, convH, ht, hs, evS ha (evH_eq r hx), HVal.isPtr, obS, cells_get hp, he, bcF, hce, hlies, bcT]) hr
theorem qne {cl : Call} {x y : Operand} {f : Nat} {fn : Func} {v : HVal} (ho : o.op = .call cl) (hc : cl.callee = .value x) (hx : evH P L x = some (.func f [] [])) (ha : cl.args = #[y]) (hy : evH P L y = some v) (hf : P.funcs[f]? = some fn) (hb : fn.body = none) (hor : (fn.origin == "") = true) (h1 : (fn.name == "maps.clone") = false) (h2 : (fn.name == "internal/abi.NoEscape") = true) (hw : wantX ops o L = some true) (hfit : fits o.dst n = true) (hr : R (putX o.dst (.ext v) L) B G) : Op1X P K E ops o L B G m n R :=
 qv hw hfit (fun κ h L0 r M => OpV.mk ho fun ev hag d ty ps aft g => by
  simp only [opH, hc, evS hag (evH_eq r hx), ha, List.map_cons, List.map_nil, evS hag (evH_eq r hy), List.nil_append, List.append_nil, callH, hf, obS, hb, externH, hor, bcT, h1, bcF, h2]) hr
theorem qbin {bo : BinOp} {t p : Nat} {x y : Operand} {a b v : HVal} (ho : o.op = .binOp bo t x y p) (hx : evH P L x = some a) (hy : evH P L y = some b) (hd : ∀ lit, binC P bo t lit a b = some v) (hw : wantX ops o L = some true) (hf : fits o.dst n = true) (hr : R (putX o.dst (.ext v) L) B G) : Op1X P K E ops o L B G m n R :=
 qv hw hf (fun κ h L0 r M => OpV.mk ho fun ev ha d ty ps aft g => by
  simp only [opH, evS ha (evH_eq r hx), evS ha (evH_eq r hy), hd, HL.val, obS]) hr
theorem qcallVS {cl : Call} {x y : Operand} {f i sn e : Nat} {lc : List HVal} {s : Bool} {v0 : HVal} (ho : o.op = .call cl) (hc : cl.callee = .value x) (hx : evH P L x = some (.func f [] [])) (ha : cl.args.toList = [y]) (hy : evX P L y = some (.sl i sn)) (hb : nth B i = some (.own lc e s)) (hf : Callable P f) (hw : wantX ops o L = some true) (hfit : fits o.dst n = true)
  (hs : ∀ k h, Fin E B G h → (pts k lc e s).holds h → Sp P K f [.slice k 0 sn (some sn)] h (Val v0 h)) (hr : R (putX o.dst (.ext v0) L) B G) : Op1X P K E ops o L B G m n R := by
 refine ⟨fun κ h L0 r M => ?_⟩
 obtain ⟨k, hk⟩ := M.own _ _ _ _ hb
 obtain ⟨w2, g1, g2⟩ := evX_rep r hy
 have hw2 : w2 = .slice k 0 sn (some sn) := by
  cases g2 with
  | sl hk2 => rw [hk] at hk2; cases hk2; rfl
 subst hw2
 have hblk := M.chg.all _ (List.mem_append_left _ (partsB_mem hb hk))
 refine Op1.sp (C.call ho hc (evH_eq r hx) (by rw [ha]; simp only [argsV, g1, obS]) hf) (wantX_eq r hw) hfit (hs k h ⟨κ, M⟩ hblk) ?_
 rintro v h' ⟨rfl, d⟩
 exact ⟨κ, _, _, _, pfx_refl κ, r.put (.ext v) o.dst, M.call (C' := []) d, hr⟩
theorem qappSL {t t2 e e0 e2 w q q2 bs j jn : Nat} {s2 : Bool} {i : TI} {cl : Call} {x y : Operand} {v2 : HVal} {z lc : List HVal} {rows new : List (List HVal)} (hX : TK P tab zl)
  (ho : o.op = .call cl) (hc : cl.callee = .builtin .append) (ha : cl.args = #[x, y]) (h0 : cl.argTypes[0]? = some t) (h2 : cl.argTypes[1]? = some t2) (ht : tyL tab t = some (.slice e, q)) (ht2 : tyL tab t2 = some (.slice e, q2))
  (he : tyL tab e = some (i, w)) (hz : zL zl e = some z) (hzl : Nat.beq z.length w = true) (he0 : Nat.beq e 0 = false) (hw0 : Nat.beq w 0 = false) (hb : P.bytesOf e = bs) (hb0 : Nat.beq bs 0 = false)
  (hx : evX P L x = some (.sl j jn)) (hbk : nth B j = some (.own lc e0 s2)) (hlc : rows.flatten = lc) (hrl : ∀ r ∈ rows, r.length = w) (hjn : rows.length = jn) (hy : evH P L y = some v2) (hG : Pick G (ownS e2 w v2 new) G2) (hpos : 0 < new.length) (hnr : ∀ k, v2 ≠ .rest k) (hn : noTmp B = true) (hroom : (jn + new.length) * bs ≤ 140737488355328)
  (hw : wantX ops o L = some true) (hf : fits o.dst n = true) (hr : ∀ k, R (putX o.dst (.ext (.slice k 0 (jn + new.length) none)) L) B (ownS e w (.slice k 0 (jn + new.length) none) (rows ++ new) :: G)) : Op1X P K E ops o L B G m n R := by
 subst hlc hjn
 refine ⟨fun κ h L0 r M => ?_⟩
 have hown2 := M.chg.all _ (List.mem_append_right _ hG.mem)
 obtain ⟨k2, off2, cap2, rfl, hrow⟩ := ownS.row hown2 hpos hnr
 have hnl := hown2.2
 obtain ⟨k, hk⟩ := M.own _ _ _ _ hbk
 obtain ⟨w2, g1, g2⟩ := evX_rep r hx
 have hw2 : w2 = .slice k 0 rows.length (some rows.length) := by
  cases g2 with
  | sl hk2 => rw [hk] at hk2; cases hk2; rfl
 subst hw2
 have hblk : h.get k = some (.cells rows.flatten e0 s2 true) := M.chg.all _ (List.mem_append_left _ (partsB_mem hbk hk))
 have hv : App h e w (.slice k 0 rows.length (some rows.length)) rows.length rows.flatten none := .full hblk (flatten_len hrl) (by rw [List.drop_zero, List.take_of_length_le (by rw [flatten_len hrl]; exact Nat.le_refl _)])
 refine Op1.append hX.tab ho hc ha h0 h2 ht ht2 he (hX.zero.look hz) hzl he0 hw0 hb hb0 g1 (evH_eq r hy) hv hrow (by rw [nbeq]; exact decide_eq_true (flatten_len hnl)) (by rw [nbeq]; exact decide_eq_false (by omega)) hroom M.wf (wantX_eq r hw) hf ?_
 intro k3 h' p
 have c : Chg [] h [ownS e w (.slice k3 0 (rows.length + new.length) none) (rows ++ new)] h' := by
  refine ⟨p.wf, p.next, fun {j o} hj _ => ?_, ?_, List.pairwise_singleton _ _, ?_⟩
  ·rw [p.old j (by simp) ?_]
   ·exact hj
   ·rintro rfl
    rw [p.fresh] at hj; cases hj
  ·intro r hr
   simp only [List.mem_singleton] at hr
   subst hr
   refine ⟨⟨some k3, ?_⟩, fun r hr => ?_⟩
   ·have := p.app
    rw [← List.flatten_append, ← List.length_append] at this
    rw [← List.length_append]
    exact this
   ·rcases List.mem_append.1 hr with hr | hr
    ·exact hrl r hr
    ·exact hnl r hr
  ·intro r hr j hj
   simp only [List.mem_singleton] at hr
   subst hr
   have hj : k3 = j := by simpa [ownS, keyW] using hj
   subst hj
   exact .inr p.fresh
 exact ⟨κ, _, _, _, pfx_refl κ, r.put (.ext _) o.dst, M.call c, hr k3⟩
theorem qixA {t e u lim j w : Nat} {x y : Operand} {kd : IntKind} {cs : List HVal} {v : HVal} {ti : TI} (hX : TK P tab zl) (ho : o.op = .index t x y) (ht : tyL tab t = some (.array lim e, u)) (he : tyL tab e = some (ti, w)) (hag : ti.agg = false) (hx : evH P L x = some (.agg cs)) (hy : evH P L y = some (.int kd (.ofNat j))) (hj : Nat.blt j lim = true) (hv : nth cs (Nat.mul j w) = some v) (hw : wantX ops o L = some true) (hf : fits o.dst n = true) (hr : R (putX o.dst (.ext v) L) B G) : Op1X P K E ops o L B G m n R :=
 qv hw hf (fun κ h L0 r M => OpV.mk ho fun ev ha d ty ps aft g => by
  obtain ⟨hu, inf, hi⟩ := tab_array hX.tab ht
  have hel : elemOk P t = true := by simp only [elemOk, hu, hi]
  have hnat : (HVal.int kd (.ofNat j)).isNat = some j := rfl
  have hwid := (tab_ok hX.tab he).2
  have hpart : partH P e cs (Nat.mul j w) = some v := by
   have := tab_agg hX.tab he
   rw [hag] at this
   unfold partH
   rw [this]
   exact hv
  simp only [opH, hel, bcT, evS ha (evH_eq r hy), hnat, obS, hu, evS ha (evH_eq r hx), HVal.isAgg, hj, hwid, hpart, HL.val]) hr
theorem qidxGI {t e e' q w nb : Nat} {z : Int} {i : TI} {x y : Operand} {v : HVal} {kd : IntKind} {rows : List (List HVal)} {r : List HVal} (hX : TK P tab zl) (ho : o.op = .indexAddr t x y) (ht : tyL tab t = some (.slice e, q)) (he : tyL tab e = some (i, w)) (hx : evH P L x = some v) (hy : evH P L y = some (.int kd z)) (h0 : 0 ≤ z)
  (hG : Pick G (ownS e' w v rows) G2) (hr : rows[z.toNat]? = some r) (hB : snocN B (.tmp r) = some (nb, B')) (hw : wantX ops o L = some true) (hf : fits o.dst n = true) (hk : R (putX o.dst (.ptr nb 0) L) B' G) : Op1X P K E ops o L B G m n R := by
 obtain ⟨j, rfl⟩ := Int.eq_ofNat_of_zero_le h0
 exact qidxG hX ho ht he hx hy hG hr hB hw hf hk
end
end
end Go.HL
