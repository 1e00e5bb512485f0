/- Runs of HL, the state known by signs: more rules. No statement of the seat stands here. -/
import Derived.Test.YtolkehkjhpnioaaGreatDoorXB
set_option linter.unusedVariables false
set_option linter.unusedSimpArgs false
namespace Go.HL
open Go
noncomputable section
section
variable {P : Program} {K : CallFn} {E : Env0} {ops : Array Oper} {o : Oper} {l : List Oper} {L L' : SL} {B B' : List Blk} {G G' G2 : List Part} {m n : Nat} {R : SL → List Blk → List Part → Prop} {Q : Ex → St → Prop} {a b c : Code} {tab : Tab} {zl : List (Nat × List HVal)} {h h' : Heap}
def bcell (b : Nat) : List HVal := [.int .u8 (b : Int)]
theorem bcells_flatten (bs : List Nat) : (bs.map bcell).flatten = byteCells bs := by
 induction bs with
 | nil => rfl
 | cons b bs ih => rw [List.map_cons, List.flatten_cons, ih]; rfl
theorem qstr {s t e e' u w q : Nat} {x : Operand} {v : HVal} {bs : List Nat} (hX : TK P tab zl) (ho : o.op = .convert s t x) (hs : tyL tab s = some (.slice e, u)) (he : tyL tab e = some (.int .u8, q)) (ht : tyL tab t = some (.str, w)) (hx : evH P L x = some v)
  (hG : Pick G (ownS e' 1 v (bs.map bcell)) G2) (hn : ∀ k, v ≠ .rest k) (hb : ∀ b ∈ bs, b < 256) (hw : wantX ops o L = some true) (hf : fits o.dst n = true) (hr : R (putX o.dst (.ext (.str bs.length (codeN bs 0))) L) B G) : Op1X P K E ops o L B G m n R :=
 qv hw hf (fun κ h L0 r M => by
  obtain ⟨⟨d, ha⟩, _⟩ := M.chg.all _ (List.mem_append_right _ hG.mem)
  exact V.strOf hX.tab ho hs he ht (evH_eq r hx) hn ha (bcells_flatten bs) hb) hr
theorem Sp.mono {f : Nat} {args : List HVal} {R R' : HVal → Heap → Prop} (s : Sp P K f args h R) (hr : ∀ v h', R v h' → R' v h') : Sp P K f args h R' := let ⟨v, h', d, r⟩ := s; ⟨v, h', d, hr v h' r⟩
theorem TrP.mono {k : Nat} {l : List HVal} {e : Nat} {s : Bool} {φ ψ : HVal → List HVal → List Part → Prop} {h h' : Heap} {v : HVal} (t : TrP k l e s φ h v h') (hφ : ∀ v l' C', φ v l' C' → ψ v l' C') : TrP k l e s ψ h v h' := let ⟨l', C', c, p⟩ := t; ⟨l', C', c, hφ _ _ _ p⟩
theorem Tr.mono {φ ψ : HVal → List Part → Prop} {h h' : Heap} {v : HVal} (t : Tr φ h v h') (hφ : ∀ v C', φ v C' → ψ v C') : Tr ψ h v h' := let ⟨C', c, p⟩ := t; ⟨C', c, hφ _ _ p⟩
end
end
end Go.HL
namespace Go.HL
open Go
noncomputable section
section
variable {P : Program} {K : CallFn} {E : Env0} {ops : Array Oper} {o : Oper} {l : List Oper} {L L' : SL} {B B' : List Blk} {G G' G2 : List Part} {m n : Nat} {R : SL → List Blk → List Part → Prop} {Q : Ex → St → Prop} {a b c : Code} {tab : Tab} {zl : List (Nat × List HVal)} {h h' : Heap}
def leakL (i k : Nat) : SL → (SL → Option SL) → Option SL
 | [], f => f []
 | (t, v) :: l, f => match v with
  | .ext u => leakL i k l fun r => f ((t, .ext u) :: r)
  | .ptr j off => bcase (Nat.beq j i) (leakL i k l fun r => f ((t, .ext (.ptr k off)) :: r)) (leakL i k l fun r => f ((t, .ptr j off) :: r))
  | .sl j n => bcase (Nat.beq j i) (leakL i k l fun r => f ((t, .ext (.slice k 0 n (some n))) :: r)) (leakL i k l fun r => f ((t, .sl j n) :: r))
theorem leakL_rep {κ : PlX} {i k : Nat} (hk : nth κ i = some (k, 0)) : ∀ {L : SL} {L0 : Sts}, RepL κ L L0 → ∀ {f : SL → Option SL} {R : SL}, leakL i k L f = some R → ∃ L', f L' = some R ∧ RepL κ L' L0
 | [], _, .nil, f, R, h => ⟨[], h, .nil⟩
 | (t, v) :: L, _, .cons (v := w) hx ht, f, R, h => by
  cases v with
  | ext u =>
   obtain ⟨L', h1, h2⟩ := leakL_rep hk ht (show leakL i k L _ = some R from h)
   exact ⟨_, h1, .cons hx h2⟩
  | ptr j off =>
   have h : bcase (Nat.beq j i) (leakL i k L fun r => f ((t, .ext (.ptr k off)) :: r)) (leakL i k L fun r => f ((t, .ptr j off) :: r)) = some R := h
   cases hb : Nat.beq j i with
   | true =>
    rw [hb, bcT] at h
    obtain ⟨L', h1, h2⟩ := leakL_rep hk ht h
    refine ⟨_, h1, .cons ?_ h2⟩
    have := Nat.eq_of_beq_eq_true hb
    subst this
    cases hx with
    | ptr hk2 => rw [hk] at hk2; cases hk2; simp only [Nat.add_eq, Nat.zero_add]; exact .ext _
   | false =>
    rw [hb, bcF] at h
    obtain ⟨L', h1, h2⟩ := leakL_rep hk ht h
    exact ⟨_, h1, .cons hx h2⟩
  | sl j q =>
   have h : bcase (Nat.beq j i) (leakL i k L fun r => f ((t, .ext (.slice k 0 q (some q))) :: r)) (leakL i k L fun r => f ((t, .sl j q) :: r)) = some R := h
   cases hb : Nat.beq j i with
   | true =>
    rw [hb, bcT] at h
    obtain ⟨L', h1, h2⟩ := leakL_rep hk ht h
    refine ⟨_, h1, .cons ?_ h2⟩
    have := Nat.eq_of_beq_eq_true hb
    subst this
    cases hx with
    | sl hk2 => rw [hk] at hk2; cases hk2; exact .ext _
   | false =>
    rw [hb, bcF] at h
    obtain ⟨L', h1, h2⟩ := leakL_rep hk ht h
    exact ⟨_, h1, .cons hx h2⟩
theorem Mem.leak {κ : PlX} (M : Mem E κ B G h) {i k e : Nat} {lc : List HVal} {s : Bool} (hb : nth B i = some (.own lc e s)) (hk : nth κ i = some (k, 0)) {p : Part} (hp : (pts k lc e s).holds h → p.holds h) (hf : ∀ j, p.foot j → j = k) : Mem E κ (B.set i .gone) (p :: G) h := by
 obtain ⟨R, h3, _, h5⟩ := partsB_split hb hk
 have c := M.chg.perm (B' := pts k lc e s :: (R ++ G)) (by simpa using List.Perm.append_right G h3)
 have c2 : Chg E.C E.h (p :: (R ++ G)) h := by
  have hd := List.pairwise_cons.1 c.disj
  refine ⟨c.wf, c.next, c.keep, ?_, List.pairwise_cons.2 ⟨fun r hr j hj hrj => hd.1 r hr j (hf j hj) hrj, hd.2⟩, ?_⟩
  ·intro r hr
   rcases List.mem_cons.1 hr with rfl | hr
   ·exact hp (c.all _ (by simp))
   ·exact c.all r (by simp [hr])
  ·intro r hr j hj
   rcases List.mem_cons.1 hr with rfl | hr
   ·exact c.own (pts k lc e s) (by simp) j (hf j hj)
   ·exact c.own r (by simp [hr]) j hj
 refine ⟨c2.perm ?_, M.pre, by rw [List.length_set]; exact M.len, ?_, ?_, ?_⟩
 ·exact (List.Perm.cons _ (List.Perm.append_right G h5.symm)).trans List.perm_middle.symm
 ·intro j l' a b hj
  rcases nth_set hj with ⟨rfl, e⟩ | ⟨_, hj⟩
  ·cases e
  ·exact M.own j l' a b hj
 ·intro j l' hj
  rcases nth_set hj with ⟨rfl, e⟩ | ⟨_, hj⟩
  ·cases e
  ·exact M.ro j l' hj
 ·intro j l' hj
  rcases nth_set hj with ⟨rfl, e⟩ | ⟨_, hj⟩
  ·cases e
  ·obtain ⟨k2, o, g1, g2, g, g3, g4⟩ := M.tmp j l' hj
   exact ⟨k2, o, g1, g2, g, by simp [g3], g4⟩
structure AsPart (k : Nat) (lc : List HVal) (e : Nat) (s : Bool) (p : Part) : Prop where
 holds : ∀ h, (pts k lc e s).holds h → p.holds h
 foot : ∀ j, p.foot j → j = k
theorem AsPart.pts (k : Nat) (lc : List HVal) (e : Nat) (s : Bool) : AsPart k lc e s (HL.pts k lc e s) := ⟨fun _ hh => hh, fun _ e => e⟩
theorem AsPart.own {k e e' w n : Nat} {lc : List HVal} {s : Bool} {rows : List (List HVal)} (hl : rows.flatten = lc) (hw : ∀ r ∈ rows, r.length = w) (hn : rows.length = n) : AsPart k lc e s (ownS e' w (.slice k 0 n (some n)) rows) := by
 subst hn
 refine ⟨fun h hh => ⟨⟨none, .full hh (flatten_len hw) ?_⟩, hw⟩, fun j hj => ?_⟩
 ·rw [← hl, List.drop_zero, List.take_of_length_le (by rw [flatten_len hw]; exact Nat.le_refl _)]
 ·have : k = j := by simpa [ownS, keyW] using hj
  exact this.symm
theorem WOX.leak (i : Nat) (p : Nat → Part) {lc : List HVal} {e : Nat} {s : Bool} {L2 : Nat → SL} (hb : nth B i = some (.own lc e s)) (hp : ∀ k, AsPart k lc e s (p k)) (hL : ∀ k, leakL i k L some = some (L2 k)) (hB : setBX B i .gone some = some B') (hw : ∀ k, WOX P K E ops l (L2 k) B' (p k :: G) m n R) : WOX P K E ops l L B G m n R := by
 refine ⟨fun κ h L0 r M => ?_⟩
 obtain ⟨k, hk⟩ := M.own _ _ _ _ hb
 obtain ⟨L', h1, h2⟩ := leakL_rep hk r (hL k)
 cases h1
 rw [setBX_eq] at hB
 cases hB
 exact (hw k).run κ h L0 h2 (M.leak hb hk ((hp k).holds h) (hp k).foot)
theorem WCX.leak (i : Nat) (p : Nat → Part) {lc : List HVal} {e : Nat} {s : Bool} {L2 : Nat → SL} (hb : nth B i = some (.own lc e s)) (hp : ∀ k, AsPart k lc e s (p k)) (hL : ∀ k, leakL i k L some = some (L2 k)) (hB : setBX B i .gone some = some B') (hw : ∀ k, WCX P K E c (L2 k) B' (p k :: G) m n Q) : WCX P K E c L B G m n Q := by
 refine ⟨fun κ h L0 r M => ?_⟩
 obtain ⟨k, hk⟩ := M.own _ _ _ _ hb
 obtain ⟨L', h1, h2⟩ := leakL_rep hk r (hL k)
 cases h1
 rw [setBX_eq] at hB
 cases hB
 exact (hw k).run κ h L0 h2 (M.leak hb hk ((hp k).holds h) (hp k).foot)
theorem rd_len {v : HVal} {w : Nat} {α : Type} {g : α → List HVal} {l : List α} (f : (rd v w (l.map g)).holds h) : lenV v = some l.length := by
 have := f.slice.len; rwa [List.length_map] at this
theorem Sp.known {f : Nat} {args : List HVal} {v : HVal} {φ : HVal → Heap → Prop} (hk : K f args h = some (.ret v, h')) (hr : φ v h') : Sp P K f args h φ := ⟨v, h', .known hk, hr⟩
def takeV (v : HVal) (j : Nat) : HVal := match v with
 | .slice k off _ none => .slice k off j none
 | v => v
theorem rd.take {v : HVal} {w j : Nat} {rows : List (List HVal)} (hl : Loose v) (f : (rd v w rows).holds h) (hj : j < rows.length) : (rd (takeV v j) w (rows.take j)).holds h := by
 have hlen := f.slice.len
 cases hl with
 | nils => exact absurd (Option.some.inj hlen) (by omega)
 | empty => exact absurd (Option.some.inj hlen) (by omega)
 | slice k off c =>
  refine ⟨⟨by simp [takeV, lenV]; omega, fun i r hr => ?_⟩, fun k2 hk2 => f.live k2 hk2⟩
  rw [List.getElem?_take] at hr
  split at hr
  ·obtain ⟨k', off', cap', e1, hrow⟩ := f.slice.2 i r hr
   cases e1
   refine ⟨k, off, none, ?_, hrow⟩
   rw [List.length_take, Nat.min_eq_left (by omega)]; rfl
  ·cases hr
theorem V.hi {L : Sts} {t e w q j : Nat} {i : TI} {x y : Operand} {v : HVal} {rows : List (List HVal)} (hT : tabOk P tab = true) (ho : o.op = .slice t x none (some y) none) (ht : tyL tab t = some (.slice e, q)) (he : tyL tab e = some (i, w))
  (hx : evL P L x = some v) (hy : evL P L y = some (.int .i64 (.ofNat j))) (hl : Loose v) (f : (rd v w rows).holds h) (hj : j < rows.length) : OpV P o L h (takeV v j) h := by
 have hslice := (tab_slice hT ht).1
 obtain ⟨inf, hinf⟩ := (tab_slice hT ht).2
 have hel : elemOk P t = true := by simp only [elemOk, hslice, hinf]
 have hop : ∀ {v' : HVal}, sliceH P h t v none (some (.int .i64 (.ofNat j))) none = some v' → OpV P o L h v' h := fun {v'} e => OpV.mk ho fun ev ha d ty ps aft g => by
  simp only [opH, hel, bcT, evS ha hx, Option.map_some, evS ha hy, Option.map_none, e, HL.val, obS]
 have hb1 : ∀ y d, j ≤ y → boundO (some (.int .i64 (.ofNat j))) y d = some j := by
  intro y d hy
  have : Nat.ble j y = true := by rw [nble]; exact decide_eq_true hy
  show bcase (Nat.ble j y) (some j) none = some j
  rw [this]; rfl
 have hlen := f.slice.len
 cases hl with
 | nils => exact absurd (Option.some.inj hlen) (by omega)
 | empty => exact absurd (Option.some.inj hlen) (by omega)
 | slice k off c =>
  have hc : c = rows.length := by simpa [lenV] using hlen
  refine hop ?_
  have htop : topH P h k off c e (some (.int .i64 (.ofNat j))) = c := by
   unfold topH
   show bcase (Nat.ble j c) c _ = c
   have : Nat.ble j c = true := by rw [nble]; exact decide_eq_true (by omega)
   rw [this]; rfl
  simp only [sliceH, hslice, htop, hb1 c c (by omega), obS]; rfl
theorem qidxA {t e w i u off lim : Nat} {z : Int} {ti : TI} {x y : Operand} {kd : IntKind} (hX : TK P tab zl) (ho : o.op = .indexAddr t x y) (ht : tyL tab t = some (.array lim e, u)) (he : tyL tab e = some (ti, w)) (hx : evX P L x = some (.ptr i off)) (hy : evH P L y = some (.int kd z)) (h0 : 0 ≤ z) (hj : z < (lim : Int)) (hw : wantX ops o L = some true) (hf : fits o.dst n = true)
  (hr : R (putX o.dst (.ptr i (Nat.add off (Nat.mul z.toNat w))) L) B G) : Op1X P K E ops o L B G m n R := by
 obtain ⟨j, rfl⟩ := Int.eq_ofNat_of_zero_le h0
 refine .comp hw hf (fun κ h L0 r M => ?_) hr
 obtain ⟨v, g1, g2⟩ := evX_rep r hx
 cases g2 with
 | @ptr _ _ k o2 hk =>
  refine .same (v := .ptr k (Nat.add (Nat.add o2 off) (Nat.mul j w))) (OpV.mk ho fun ev ha d ty ps aft g => ?_) ?_ M
  ·obtain ⟨hu, inf, hi⟩ := tab_array hX.tab ht
   have h1 : elemOk P t = true := by simp only [elemOk, hu, hi]
   have h2 : Nat.blt j lim = true := by rw [nblt]; exact decide_eq_true (by omega)
   have e1 := evS ha g1
   have e2 := evS ha (evH_eq r hy)
   simp only [opH, h1, bcT, e1, e2, HVal.isNat, natOf, obS, hu, HVal.isPtr, h2, (tab_ok hX.tab he).2]
  ·have := Rep.ptr (κ := κ) (off := Nat.add off (Nat.mul (Int.toNat (j : Int)) w)) hk
   simp only [Nat.add_eq, ← Nat.add_assoc, Int.toNat_natCast] at this ⊢
   exact this
end
end
end Go.HL
namespace Go.HL
open Go
noncomputable section
section
variable {P : Program} {K : CallFn} {E : Env0} {ops : Array Oper} {o : Oper} {l : List Oper} {L L' : SL} {B B' : List Blk} {G G' G2 : List Part} {m n : Nat} {R : SL → List Blk → List Part → Prop} {Q : Ex → St → Prop} {a b c : Code} {tab : Tab} {zl : List (Nat × List HVal)} {h h' : Heap}
theorem Mem.startG {g : Part} (w : Wf h) (hg : g.holds h) : Mem ⟨[g], h, []⟩ [] [] [g] h := by
 refine ⟨⟨w, Nat.le_refl _, fun e _ => e, ?_, List.pairwise_singleton _ _, ?_⟩, ⟨[], rfl⟩, rfl, ?_, ?_, ?_⟩
 ·intro r hr
  have : r = g := by simpa [partsB] using hr
  subst this; exact hg
 ·intro r hr j hj
  exact .inl ⟨r, by simpa [partsB] using hr, hj⟩
 ·intro i l' e' s' hb
  rw [nth_eq] at hb
  simp at hb
 all_goals
  intro i l' hb
  rw [nth_eq] at hb
  simp at hb
theorem Sp.startG {f : Nat} {g : Part} {fn : Func} {c : Code} {args : List HVal} {R : HVal → Heap → Prop} (w : Wf h) (hg : g.holds h) (hK : K f args h = none) (hf : P.funcs[f]? = some fn) (hb : fn.body = some c) (hlt : Nat.blt f roundNo = true)
  (hm : Nat.lor (maskOf fn) (Nat.sub (Nat.pow 2 args.length) 1) = m) (hl : Nat.add args.length (Nat.sub fn.ntmps args.length) = n) (hn : numE args = some L)
  (hw : WCX P K ⟨[g], h, []⟩ c L [] [g] m n (FnQ P fn R)) : Sp P K f args h R :=
 Sp.all hK hf hb hlt hm hl (hw.run [] h _ (numE_rep hn) (Mem.startG w hg))
def TrG (g : Part) (φ : HVal → List Part → Prop) (h : Heap) (v : HVal) (h' : Heap) : Prop := ∃ C', Chg [g] h C' h' ∧ φ v C'
theorem qcallG {cl : Call} {x : Operand} {f : Nat} {args : List HVal} {g : Part} {φ : HVal → List Part → Prop} (ho : o.op = .call cl) (hc : cl.callee = .value x) (hx : evH P L x = some (.func f [] [])) (ha : argsH P L cl.args.toList = some args) (hf : Callable P f) (hw : wantX ops o L = some true) (hfit : fits o.dst n = true) (hG : Pick G g G2) (hn : noTmp B = true)
  (hs : ∀ h, Fin E B G h → g.holds h → (∀ a, Ro E.C E.h a → Ro [g] h a) → (∀ a ∈ G2, Ro [g] h a) → Sp P K f args h (TrG g φ h)) (hr : ∀ v C', φ v C' → R (putX o.dst (.ext v) L) B (C' ++ G2)) : Op1X P K E ops o L B G m n R := by
 refine ⟨fun κ h L0 r M => ?_⟩
 have hmem : g ∈ partsB B κ ++ G := List.mem_append_right _ hG.mem
 have hap : ∀ a ∈ G2, Ro [g] h a := fun a hag => by
  have hp := M.chg.disj
  have hd := (List.pairwise_append.1 hp).2.1
  have hd2 := pairwise_perm hG.perm hd
  refine ⟨M.chg.all a (List.mem_append_right _ (hG.perm.mem_iff.2 (by simp [hag]))), fun q hq => ?_⟩
  have : q = g := by simpa using hq
  subst this
  exact ((List.pairwise_cons.1 hd2).1 a hag).symm
 refine Op1.sp (C.call ho hc (evH_eq r hx) (argsH_eq r ha) hf) (wantX_eq r hw) hfit (hs h ⟨κ, M⟩ (M.chg.all _ hmem) (fun a ra => ra.narrow M hmem) hap) ?_
 rintro v h' ⟨C', d, hφ⟩
 exact ⟨κ, _, _, _, pfx_refl κ, r.put (.ext v) o.dst, M.callG hG d hn, hr v C' hφ⟩
theorem qidxW {t e q j len k off w : Nat} {i : TI} {x y : Operand} {kd : IntKind} {cap : Option Nat} (hX : TK P tab zl) (ho : o.op = .indexAddr t x y) (ht : tyL tab t = some (.slice e, q)) (he : tyL tab e = some (i, w)) (hx : evH P L x = some (.slice k off len cap)) (hy : evH P L y = some (.int kd (.ofNat j))) (hj : j < len) (hw : wantX ops o L = some true) (hf : fits o.dst n = true) (hk : R (putX o.dst (.ext (.ptr k (Nat.add off (Nat.mul j w)))) L) B G) : Op1X P K E ops o L B G m n R :=
 qv hw hf (fun κ h L0 r M => V.indexAddr hX.tab ho ht he (evH_eq r hx) (evH_eq r hy) hj) hk
theorem ones {rows : List (List HVal)} (hr : ∀ r ∈ rows, r.length = 1) {j : Nat} {v : HVal} : (rows.set j [v]).flatten = rows.flatten.set j v := by
 induction rows generalizing j with
 | nil => rfl
 | cons r rows ih =>
  have h1 := hr r (by simp)
  obtain ⟨u, rfl⟩ : ∃ u, r = [u] := by cases r with | nil => cases h1 | cons u r => cases r with | nil => exact ⟨u, rfl⟩ | cons => cases h1
  cases j with
  | zero => rfl
  | succ j =>
   have := ih (fun q hq => hr q (by simp [hq])) (j := j)
   simp [this]
theorem Pick.he {a b : Part} {B : List Part} (e : a = b) : Pick (a :: B) b B := e ▸ .h
end
end
end Go.HL
namespace Go.HL
open Go
noncomputable section
section
variable {P : Program} {K : CallFn} {E : Env0} {ops : Array Oper} {o : Oper} {l : List Oper} {L L' : SL} {B B' : List Blk} {G G' G2 : List Part} {m n : Nat} {R : SL → List Blk → List Part → Prop} {Q : Ex → St → Prop} {a b c : Code} {tab : Tab} {zl : List (Nat × List HVal)} {h h' : Heap}
/-! ## Values of several cells compared -/
end
end
end Go.HL
namespace Go.HL
open Go
noncomputable section
section
variable {P : Program} {K : CallFn} {E : Env0} {ops : Array Oper} {o : Oper} {L : SL} {B : List Blk} {G : List Part} {m n : Nat} {R : SL → List Blk → List Part → Prop} {h : Heap} {tab : Tab} {zl : List (Nat × List HVal)}
theorem codeN_shift : ∀ (b : List Nat) (s : Nat), codeN b s = s * 256 ^ b.length + codeN b 0
 | [], s => by simp [codeN]
 | x :: b, s => by
  show codeN b (s * 256 + x) = s * 256 ^ (b.length + 1) + codeN b (0 * 256 + x)
  rw [codeN_shift b (s * 256 + x), codeN_shift b (0 * 256 + x), Nat.pow_succ, Nat.add_mul, Nat.mul_assoc, Nat.mul_comm 256, Nat.zero_mul, Nat.zero_add]
  omega
theorem codeN_cat (a b : List Nat) : codeN (a ++ b) 0 = codeN a 0 * 2 ^ (8 * b.length) + codeN b 0 := by
 rw [codeN, List.foldl_append]
 show codeN b (codeN a 0) = _
 rw [codeN_shift, Nat.pow_mul]
theorem V.cat {L : Sts} {t p : Nat} {x y : Operand} {a b : List Nat} (ho : o.op = .binOp .add t x y p) (hx : evL P L x = some (.str a.length (codeN a 0))) (hy : evL P L y = some (.str b.length (codeN b 0))) (hl : a.length + b.length ≤ 9223372036854775807) : OpV P o L h (.str (a ++ b).length (codeN (a ++ b) 0)) h := OpV.mk ho fun ev ha d ty ps aft g => by
 have e : binH P .add t (.str a.length (codeN a 0)) (.str b.length (codeN b 0)) = some (.str (a ++ b).length (codeN (a ++ b) 0)) := by
  show strOp .add _ _ _ _ = _
  unfold strOp
  have : Nat.ble (Nat.add a.length b.length) 9223372036854775807 = true := by rw [nble]; exact decide_eq_true hl
  simp only [this, bcT]
  rw [codeN_cat, List.length_append]; rfl
 simp only [opH, evS ha hx, evS ha hy, binC, e, HL.val, obS]
theorem qcat {t p : Nat} {x y : Operand} {a b : List Nat} (ho : o.op = .binOp .add t x y p) (hx : evH P L x = some (.str a.length (codeN a 0))) (hy : evH P L y = some (.str b.length (codeN b 0))) (hl : a.length + b.length ≤ 9223372036854775807) (hw : wantX ops o L = some true) (hf : fits o.dst n = true) (hr : R (putX o.dst (.ext (.str (a ++ b).length (codeN (a ++ b) 0))) L) B G) : Op1X P K E ops o L B G m n R :=
 qv hw hf (fun κ h L0 r M => V.cat ho (evH_eq r hx) (evH_eq r hy) hl) hr
end
end
end Go.HL
namespace Go.HL
open Go
noncomputable section
section
variable {P : Program} {K : CallFn} {E : Env0} {ops : Array Oper} {o : Oper} {l : List Oper} {L L' : SL} {B B' : List Blk} {G G' G2 : List Part} {m n : Nat} {R : SL → List Blk → List Part → Prop} {Q : Ex → St → Prop} {a b c : Code} {tab : Tab} {zl : List (Nat × List HVal)} {h h' : Heap}
structure SplitP (g : Part) (Ds : List Part) : Prop where
 all : ∀ h, g.holds h → ∀ r ∈ Ds, r.holds h
 disj : ∀ h, g.holds h → Ds.Pairwise Apart
 foot : ∀ r ∈ Ds, ∀ k, r.foot k → g.foot k
theorem SplitP.chg {g : Part} {Ds : List Part} (s : SplitP g Ds) (w : Wf h) (hg : g.holds h) : Chg [g] h Ds h :=
 ⟨w, Nat.le_refl _, fun e _ => e, s.all h hg, s.disj h hg, fun r hr k hk => .inl ⟨g, by simp, s.foot r hr k hk⟩⟩
theorem WCX.split {g : Part} {Ds : List Part} (s : SplitP g Ds) (hG : Pick G g G2) (hn : noTmp B = true) (hw : WCX P K E c L B (Ds ++ G2) m n Q) : WCX P K E c L B G m n Q :=
 ⟨fun κ h L0 r M => hw.run κ h L0 r (M.callG hG (s.chg M.wf (M.chg.all _ (List.mem_append_right _ hG.mem))) hn)⟩
theorem qldE {t e k off w : Nat} {s : Bool} {i : TI} {x : Operand} {v : HVal} {lc : List HVal} (hX : TK P tab zl) (ho : o.op = .load t x) (ht : tyL tab t = some (i, w)) (hi : i.agg = false) (hx : evH P L x = some (.ptr k off)) (hG : Pick G (pts k lc e s) G2) (hv : nth lc off = some v) (hw : wantX ops o L = some true) (hf : fits o.dst n = true) (hr : R (putX o.dst (.ext v) L) B G) : Op1X P K E ops o L B G m n R :=
 qv hw hf (fun κ h L0 r M => by
  have hp := M.chg.all _ (List.mem_append_right _ hG.mem)
  have hx' : evL P L0 x = some (.ptr k (Nat.add 0 off)) := by rw [Nat.add_eq, Nat.zero_add]; exact evH_eq r hx
  exact V.loadR hX.tab ho ht hi hx' (row_all hp) hv) hr
theorem qstE {t e k off : Nat} {s : Bool} {ti : TI} {x y : Operand} {v : HVal} {lc l' : List HVal} (hX : TK P tab zl) (ho : o.op = .store t x y) (ht : tyL tab t = some (ti, 1)) (hx : evH P L x = some (.ptr k off)) (hy : evH P L y = some v) (hc : v.cells = some [v]) (hG : Pick G (pts k lc e s) G2) (hov : overK lc off [v] some = some l') (hn : noTmp B = true) (hw : wantX ops o L = some true) (hf : fits o.dst n = true)
  (hr : R (putX o.dst (.ext undefH) L) B (pts k l' e s :: G2)) : Op1X P K E ops o L B G m n R := by
 refine ⟨fun κ h L0 r M => ?_⟩
 have hp := M.chg.all _ (List.mem_append_right _ hG.mem)
 refine Op1.val (V.storeP hX.tab ho ht (evH_eq r hx) (evH_eq r hy) hc rfl hp hov) (wantX_eq r hw) hf ?_
 exact ⟨κ, _, _, _, pfx_refl κ, r.put (.ext _) o.dst, M.callG (C' := [pts k l' e s]) hG (chg_put (put_put M.wf _ (M.wf.lt hp))) hn, hr⟩
theorem qbin {bo : BinOp} {t p : Nat} {x y : Operand} {a b v : HVal} (ho : o.op = .binOp bo t x y p) (hx : evH P L x = some a) (hy : evH P L y = some b) (hd : ∀ lit, binC P bo t lit a b = some v) (hw : wantX ops o L = some true) (hf : fits o.dst n = true) (hr : R (putX o.dst (.ext v) L) B G) : Op1X P K E ops o L B G m n R :=
 qv hw hf (fun κ h L0 r M => OpV.mk ho fun ev ha d ty ps aft g => by
  simp only [opH, evS ha (evH_eq r hx), evS ha (evH_eq r hy), hd, HL.val, obS]) hr
theorem qcallVS {cl : Call} {x y : Operand} {f i sn e : Nat} {lc : List HVal} {s : Bool} {v0 : HVal} (ho : o.op = .call cl) (hc : cl.callee = .value x) (hx : evH P L x = some (.func f [] [])) (ha : cl.args.toList = [y]) (hy : evX P L y = some (.sl i sn)) (hb : nth B i = some (.own lc e s)) (hf : Callable P f) (hw : wantX ops o L = some true) (hfit : fits o.dst n = true)
  (hs : ∀ k h, Fin E B G h → (pts k lc e s).holds h → Sp P K f [.slice k 0 sn (some sn)] h (Val v0 h)) (hr : R (putX o.dst (.ext v0) L) B G) : Op1X P K E ops o L B G m n R := by
 refine ⟨fun κ h L0 r M => ?_⟩
 obtain ⟨k, hk⟩ := M.own _ _ _ _ hb
 obtain ⟨w2, g1, g2⟩ := evX_rep r hy
 have hw2 : w2 = .slice k 0 sn (some sn) := by
  cases g2 with
  | sl hk2 => rw [hk] at hk2; cases hk2; rfl
 subst hw2
 have hblk := M.chg.all _ (List.mem_append_left _ (partsB_mem hb hk))
 refine Op1.sp (C.call ho hc (evH_eq r hx) (by rw [ha]; simp only [argsV, g1, obS]) hf) (wantX_eq r hw) hfit (hs k h ⟨κ, M⟩ hblk) ?_
 rintro v h' ⟨rfl, d⟩
 exact ⟨κ, _, _, _, pfx_refl κ, r.put (.ext v) o.dst, M.call (C' := []) d, hr⟩
end
end
end Go.HL
namespace Go.HL
open Go
noncomputable section
section
variable {P : Program} {K : CallFn} {E : Env0} {ops : Array Oper} {o : Oper} {l : List Oper} {L L' : SL} {B B' : List Blk} {G G' G2 : List Part} {m n : Nat} {R : SL → List Blk → List Part → Prop} {Q : Ex → St → Prop} {a b c : Code} {tab : Tab} {zl : List (Nat × List HVal)} {h h' : Heap}
/-! ## Strings -/
theorem codeN_lt : ∀ {l : List Nat}, (∀ x ∈ l, x < 256) → codeN l 0 < 256 ^ l.length := by
 intro l
 induction l with
 | nil => intro _; decide
 | cons x l ih =>
  intro h
  have hx := h x (by simp)
  have := ih fun y hy => h y (by simp [hy])
  have e : codeN (x :: l) 0 = codeN l (0 * 256 + x) := rfl
  rw [e, codeN_shift, Nat.zero_mul, Nat.zero_add, List.length_cons, Nat.pow_succ]
  have h2 : x * 256 ^ l.length + 256 ^ l.length ≤ 256 * 256 ^ l.length := by
   rw [← Nat.succ_mul]; exact Nat.mul_le_mul_right _ (by omega)
  rw [Nat.mul_comm (256 ^ l.length)]
  omega
theorem codeN_cat256 (a b : List Nat) : codeN (a ++ b) 0 = codeN a 0 * 256 ^ b.length + codeN b 0 := by
 rw [codeN_cat, Nat.pow_mul]
theorem sExtract_code {b : List Nat} (h : ∀ x ∈ b, x < 256) {l k : Nat} (hl : l ≤ k) (hk : k ≤ b.length) : sExtract b.length (codeN b 0) l k = .str ((b.take k).drop l).length (codeN ((b.take k).drop l) 0) := by
 have e1 : codeN b 0 = codeN (b.take k) 0 * 256 ^ (b.drop k).length + codeN (b.drop k) 0 := by rw [← codeN_cat256, List.take_append_drop]
 have e2 := codeN_lt (l := b.drop k) fun x hx => h x (List.mem_of_mem_drop hx)
 have e3 : codeN (b.take k) 0 = codeN ((b.take k).take l) 0 * 256 ^ ((b.take k).drop l).length + codeN ((b.take k).drop l) 0 := by rw [← codeN_cat256, List.take_append_drop]
 have e4 := codeN_lt (l := (b.take k).drop l) fun x hx => h x (List.mem_of_mem_take (List.mem_of_mem_drop hx))
 have l1 : (b.drop k).length = b.length - k := List.length_drop
 have l2 : ((b.take k).drop l).length = k - l := by rw [List.length_drop, List.length_take, Nat.min_eq_left hk]
 unfold sExtract
 rw [l2] at e3 e4 ⊢
 rw [l1] at e1 e2
 congr 1
 show codeN b 0 / 2 ^ (8 * (b.length - k)) % 2 ^ (8 * (k - l)) = _
 rw [Nat.pow_mul, Nat.pow_mul, show (2 : Nat) ^ 8 = 256 by decide, e1]
 have hp : 0 < 256 ^ (b.length - k) := Nat.pow_pos (by decide)
 rw [Nat.mul_comm, Nat.mul_add_div hp, Nat.div_eq_of_lt e2, Nat.add_zero, e3, Nat.mul_comm, Nat.mul_add_mod, Nat.mod_eq_of_lt e4]
def bndX (P : Program) (L : SL) (y : Option Operand) (d : Nat) : Option Nat := match y with
 | none => some d
 | some y => match evH P L y with
  | some (.int _ (.ofNat n)) => some n
  | _ => none
theorem bndX_sound {κ : PlX} {L0 : Sts} (r : RepL κ L L0) {ev : Env} (ha : Agree L0 ev) {y : Option Operand} {d top k : Nat} (hb : bndX P L y d = some k) (hk : k ≤ top) (hd : y = none → d = k) : boundO (y.map (ev.eval P)) top d = some k := by
 cases y with
 | none => cases hb; rfl
 | some y =>
  unfold bndX at hb
  simp only at hb
  split at hb
  ·rename_i kd nn e
   cases hb
   have := evS ha (evH_eq r e)
   show boundH (ev.eval P y) top = some _
   rw [this]
   unfold boundH
   show bcase (Nat.ble _ top) _ none = _
   rw [show Nat.ble _ top = true from by rw [nble]; exact decide_eq_true hk]; rfl
  ·cases hb
theorem V.subS {κ : PlX} {L0 : Sts} {t u lo hi : Nat} {x : Operand} {yl yh : Option Operand} {bs r : List Nat} (hX : TK P tab zl) (ho : o.op = .slice t x yl yh none) (ht : tyL tab t = some (.str, u)) (hx : evH P L x = some (.str bs.length (codeN bs 0))) (hh : bndX P L yh bs.length = some hi) (hl : bndX P L yl 0 = some lo) (h1 : lo ≤ hi) (h2 : hi ≤ bs.length) (hb : ∀ x ∈ bs, x < 256) (hr : (bs.take hi).drop lo = r) (rr : RepL κ L L0) (h : Heap) : OpV P o L0 h (.str r.length (codeN r 0)) h :=
 OpV.mk ho fun ev ha d ty ps aft g => by
  have hu := tab_str hX.tab ht
  have hel : elemOk P t = true := by simp only [elemOk, hu]
  have e1 := bndX_sound rr ha hh h2 (fun e => by subst e; exact Option.some.inj hh)
  have e2 := bndX_sound rr ha hl h1 (fun e => by subst e; exact Option.some.inj hl)
  simp only [opH, hel, bcT, evS ha (evH_eq rr hx), sliceH, hu, Option.map_none, e1, e2, obS, sExtract_code hb h1 h2, hr, HL.val]
def fullV (k off c j w : Nat) : HVal := .slice k (moved off j c w) (c - j) (some (c - j))
theorem V.slC {κ : PlX} {L0 : Sts} {t e w q k off c j : Nat} {i : TI} {x y : Operand} {kd : IntKind} (hX : TK P tab zl) (ho : o.op = .slice t x (some y) none none) (ht : tyL tab t = some (.slice e, q)) (he : tyL tab e = some (i, w)) (hx : evH P L x = some (.slice k off c (some c))) (hy : evH P L y = some (.int kd (.ofNat j))) (hj : j ≤ c) (rr : RepL κ L L0) (h : Heap) : OpV P o L0 h (fullV k off c j w) h :=
 OpV.mk ho fun ev ha d ty ps aft g => by
  have hslice := (tab_slice hX.tab ht).1
  obtain ⟨inf, hinf⟩ := (tab_slice hX.tab ht).2
  have hwid := (tab_ok hX.tab he).2
  have hel : elemOk P t = true := by simp only [elemOk, hslice, hinf]
  have hb1 : boundO (some (.int kd (.ofNat j))) c 0 = some j := by
   show boundH (.int kd (.ofNat j)) c = some j
   unfold boundH
   show bcase (Nat.ble j c) (some j) none = some j
   rw [show Nat.ble j c = true from by rw [nble]; exact decide_eq_true hj]; rfl
  have hb2 : boundO none c c = some c := rfl
  simp only [opH, hel, bcT, evS ha (evH_eq rr hx), Option.map_some, Option.map_none, evS ha (evH_eq rr hy), sliceH, hslice, hb1, hb2, obS, hwid, HL.val]
  rfl
theorem qslC {t e w q k off c j : Nat} {i : TI} {x y : Operand} {kd : IntKind} (hX : TK P tab zl) (ho : o.op = .slice t x (some y) none none) (ht : tyL tab t = some (.slice e, q)) (he : tyL tab e = some (i, w)) (hx : evH P L x = some (.slice k off c (some c))) (hy : evH P L y = some (.int kd (.ofNat j))) (hj : j ≤ c) (hw : wantX ops o L = some true) (hf : fits o.dst n = true)
  (hk : R (putX o.dst (.ext (fullV k off c j w)) L) B G) : Op1X P K E ops o L B G m n R :=
 qv hw hf (fun κ h L0 rr M => V.slC hX ho ht he hx hy hj rr h) hk
theorem rd.full {k off c j w : Nat} {rows : List (List HVal)} (f : (rd (.slice k off c (some c)) w rows).holds h) (hj : j ≤ c) : (rd (fullV k off c j w) w (rows.drop j)).holds h := by
 have hlen : c = rows.length := by
  have := f.slice.len
  simpa [lenV] using this
 refine ⟨⟨?_, fun i r hr => ?_⟩, fun k' hk' => ?_⟩
 ·show some (c - j) = _
  rw [List.length_drop, hlen]
 ·rw [List.getElem?_drop] at hr
  have hi : j + i < rows.length := (List.getElem?_eq_some_iff.1 hr).1
  obtain ⟨k2, off2, cap, e, hrow⟩ := f.slice.row (j + i) r hr
  injection e with e1 e2
  subst e1 e2
  refine ⟨k, moved off j c w, some (c - j), ?_, ?_⟩
  ·unfold fullV; rw [List.length_drop, ← hlen]
  ·have hne : Nat.beq j c = false := by rw [nbeq]; exact decide_eq_false (by omega)
   have : Nat.add (moved off j c w) (Nat.mul i w) = Nat.add off (Nat.mul (j + i) w) := by
    unfold moved
    rw [hne]
    simp only [bcF, Nat.add_eq, Nat.mul_eq, Nat.add_mul]
    omega
   rw [this]; exact hrow
 ·exact f.live k' (by simpa [keyV, fullV] using hk')
end
end
end Go.HL
namespace Go.HL
open Go
section
variable {P : Program} {K : CallFn} {tab : Tab} {zl : List (Nat × List HVal)} {E : Env0} {ops : Array Oper} {o : Oper} {L : SL} {B B' : List Blk} {G : List Part} {m n : Nat} {R : SL → List Blk → List Part → Prop} {pl : List Nat} {al : List AX} {RA : List AX → SL → List Blk → List Part → Prop}
theorem WDX.leak (i : Nat) (p : Nat → Part) {lc : List HVal} {e : Nat} {s : Bool} {L2 : Nat → SL} (hb : nth B i = some (.own lc e s)) (hp : ∀ k, AsPart k lc e s (p k)) (hL : ∀ k, leakL i k L some = some (L2 k)) (hB : setBX B i .gone some = some B') (hw : ∀ k, WDX P K E tab ops pl al (L2 k) B' (p k :: G) m n RA) : WDX P K E tab ops pl al L B G m n RA := by
 refine ⟨fun κ h L0 al0 r M ha => ?_⟩
 obtain ⟨k, hk⟩ := M.own _ _ _ _ hb
 obtain ⟨L', h1, h2⟩ := leakL_rep hk r (hL k)
 cases h1
 rw [setBX_eq] at hB
 cases hB
 exact (hw k).run κ h L0 al0 h2 (M.leak hb hk ((hp k).holds h) (hp k).foot) ha
theorem WDX.consV {i d : Nat} {v : HVal} (hi : ops[i]? = some o) (hc : isChange P o = false) (hr : isRead P o = true) (hd : o.dst = some d) (hw : wantX ops o L = some true) (hf : fits o.dst n = true) (hs : HVal.beq v v = true) (hv : ∀ κ L0, RepL κ L L0 → ∀ h, OpV P o L0 h v h) (hk : WDX P K E tab ops pl (.rdS i :: al) (putX o.dst (.ext v) L) B G m n RA) : WDX P K E tab ops (i :: pl) al L B G m n RA := by
 refine ⟨fun κ h L0 al0 r M ha => WD.cons hi (Op1.mono ((qv (R := fun L' B' G' => L' = putX o.dst (.ext v) L ∧ B' = B ∧ G' = G) hw hf (fun κ h L0 r _ => hv κ L0 r h) ⟨rfl, rfl, rfl⟩).run κ h L0 r M) ?_)⟩
 rintro L1 h1 ⟨κ', L', B', G', ⟨t, rfl⟩, r', M', rfl, rfl, rfl⟩
 refine ⟨.read i o L0 v :: al0, ?_, hk.run _ h1 L1 _ r' M' ⟨⟨rfl, hs, fun h2 _ _ => hv κ L0 r h2⟩, ha.more⟩⟩
 have hl : lookX (putX o.dst (.ext v) L) d = some (.ext v) := by
  rw [hd]
  show bcase (Nat.beq d d) (some (SV.ext v)) _ = _
  rw [Nat.beq_refl]; rfl
 obtain ⟨u, g1, g2⟩ := r'.look hl
 cases g2
 unfold upd
 rw [hc, hr, bcF, bcT, hd]
 simp only [wantX_eq r hw, g1]
theorem WDX.sub {i d t u lo hi : Nat} {x : Operand} {yl yh : Option Operand} {bs r : List Nat} (hX : TK P tab zl) (hi0 : ops[i]? = some o) (hc : isChange P o = false) (hrd : isRead P o = true) (hd : o.dst = some d) (ho : o.op = .slice t x yl yh none) (ht : tyL tab t = some (.str, u)) (hx : evH P L x = some (.str bs.length (codeN bs 0))) (hh : bndX P L yh bs.length = some hi) (hl : bndX P L yl 0 = some lo) (h1 : lo ≤ hi) (h2 : hi ≤ bs.length) (hb : ∀ x ∈ bs, x < 256) (hr : (bs.take hi).drop lo = r) (hw : wantX ops o L = some true) (hf : fits o.dst n = true)
  (hk : WDX P K E tab ops pl (.rdS i :: al) (putX o.dst (.ext (.str r.length (codeN r 0))) L) B G m n RA) : WDX P K E tab ops (i :: pl) al L B G m n RA :=
 .consV hi0 hc hrd hd hw hf (suB rfl) (fun _ _ rr h => V.subS hX ho ht hx hh hl h1 h2 hb hr rr h) hk
end
end Go.HL
namespace Go.HL
open Go
section
variable {P : Program} {K : CallFn} {tab : Tab} {zl : List (Nat × List HVal)} {E : Env0} {ops : Array Oper} {o : Oper} {L : SL} {B B' : List Blk} {G G2 : List Part} {m n : Nat} {pl : List Nat} {al : List AX} {RA : List AX → SL → List Blk → List Part → Prop}
theorem V.loadO {κ : PlX} {L0 : Sts} {h : Heap} {t e k off c j q : Nat} {ti : TI} {x : Operand} {v : HVal} {rows : List (List HVal)} {cap : Option Nat} (hX : TK P tab zl) (ho : o.op = .load t x) (ht : tyL tab t = some (ti, q)) (hag : ti.agg = false) (hx : evH P L x = some (.ptr k (Nat.add off (Nat.mul j 1)))) (hr : rows[j]? = some [v]) (r : RepL κ L L0) (hh : (ownS e 1 (.slice k off c cap) rows).holds h) : OpV P o L0 h v h := by
 obtain ⟨k2, off2, cap2, e2, hrow⟩ := (ownS.rd hh).slice.row j [v] hr
 injection e2 with e3 e4
 subst e3 e4
 exact V.loadR0 hX.tab ho ht hag (evH_eq r hx) hrow rfl
theorem WDX.ldO {p d t e k off c j q : Nat} {ti : TI} {x : Operand} {v : HVal} {rows : List (List HVal)} {cap : Option Nat} (hX : TK P tab zl) (hi0 : ops[p]? = some o) (hc : isChange P o = false) (hrd : isRead P o = true) (hd : o.dst = some d) (ho : o.op = .load t x) (ht : tyL tab t = some (ti, q)) (hag : ti.agg = false) (hx : evH P L x = some (.ptr k (Nat.add off (Nat.mul j 1)))) (hG : Pick G (ownS e 1 (.slice k off c cap) rows) G2) (hr : rows[j]? = some [v]) (hs : HVal.beq v v = true) (hw : wantX ops o L = some true) (hf : fits o.dst n = true)
  (hk : WDX P K E tab ops pl (.rdG p (ownS e 1 (.slice k off c cap) rows) :: al) (putX o.dst (.ext v) L) B G m n RA) : WDX P K E tab ops (p :: pl) al L B G m n RA := by
 refine ⟨fun κ h L0 al0 r M ha => WD.cons hi0 (Op1.mono ((qv (R := fun L' B' G' => L' = putX o.dst (.ext v) L ∧ B' = B ∧ G' = G) hw hf (fun κ h L0 r M => V.loadO hX ho ht hag hx hr r (M.chg.all _ (List.mem_append_right _ hG.mem))) ⟨rfl, rfl, rfl⟩).run κ h L0 r M) ?_)⟩
 rintro L1 h1 ⟨κ', L', B', G', ⟨t, rfl⟩, r', M', rfl, rfl, rfl⟩
 refine ⟨.read p o L0 v :: al0, ?_, hk.run _ h1 L1 _ r' M' ⟨⟨rfl, hs, fun h2 hh => V.loadO hX ho ht hag hx hr r hh⟩, ha.more⟩⟩
 have hl : lookX (putX o.dst (.ext v) L) d = some (.ext v) := by
  rw [hd]
  show bcase (Nat.beq d d) (some (SV.ext v)) _ = _
  rw [Nat.beq_refl]; rfl
 obtain ⟨u, g1, g2⟩ := r'.look hl
 cases g2
 unfold upd
 rw [hc, hrd, bcF, bcT, hd]
 simp only [wantX_eq r hw, g1]
end
end Go.HL
namespace Go.HL
open Go
theorem Row.at {h : Heap} {k off : Nat} {l : List HVal} (r : Row h k off l) : ∃ o, h.cells k = some o ∧ l.length ≤ (o.1.drop off).length ∧ (o.1.drop off).take l.length = l := by
 have hr := r.load
 unfold loadN at hr
 obtain ⟨o, ho, e⟩ := ob_eq_some.1 hr
 rw [takeK_eq, dropN_eq] at e
 split at e
 ·rename_i hle
  exact ⟨o, ho, hle, Option.some.inj e⟩
 ·cases e
theorem Row.of {h : Heap} {k off : Nat} {l : List HVal} {o : List HVal × Nat × Bool × Bool} (ho : h.cells k = some o) (h1 : l.length ≤ (o.1.drop off).length) (h2 : (o.1.drop off).take l.length = l) : Row h k off l := by
 constructor
 unfold loadN
 rw [ho, obS, takeK_eq, dropN_eq, if_pos h1, h2]
theorem Row.cat {h : Heap} {k off : Nat} {a b : List HVal} (ra : Row h k off a) (rb : Row h k (off + a.length) b) : Row h k off (a ++ b) := by
 obtain ⟨o, ho, a1, a2⟩ := ra.at
 obtain ⟨o2, ho2, b1, b2⟩ := rb.at
 rw [ho] at ho2
 cases ho2
 rw [← List.drop_drop] at b1 b2
 refine .of ho (by rw [List.length_drop] at b1; rw [List.length_append]; omega) ?_
 rw [List.length_append, List.take_add, a2, b2]
theorem rd.rows {h : Heap} {v : HVal} {w : Nat} {rows : List (List HVal)} (a : (rd v w rows).holds h) (h0 : 0 < rows.length) (hw : ∀ r ∈ rows, r.length = w) : ∃ k off cap, v = .slice k off rows.length cap ∧ Row h k off rows.flatten := by
 obtain ⟨k, off, cap, e, _⟩ := a.slice.row 0 _ (List.getElem?_eq_getElem h0)
 refine ⟨k, off, cap, e, ?_⟩
 have key : ∀ n, n ≤ rows.length → 0 < n → Row h k off (rows.take n).flatten := by
  intro n
  induction n with
  | zero => intro _ h; cases h
  | succ n ih =>
   intro hn _
   obtain ⟨k2, off2, cap2, e2, hrow⟩ := a.slice.row n _ (List.getElem?_eq_getElem (by omega))
   rw [e] at e2
   cases e2
   have ht : rows.take (n + 1) = rows.take n ++ [rows[n]] := by rw [List.take_add_one, List.getElem?_eq_getElem (by omega)]; rfl
   have hf : (rows.take n).flatten.length = n * w := by rw [flatten_len fun r hr => hw r (List.mem_of_mem_take hr), List.length_take, Nat.min_eq_left (by omega)]
   rw [ht, List.flatten_append, List.flatten_cons, List.flatten_nil, List.append_nil]
   rcases Nat.eq_zero_or_pos n with rfl | hp
   ·have : Row h k (Nat.add off (Nat.mul 0 w)) rows[0] := hrow
    rw [Nat.mul_eq, Nat.zero_mul, Nat.add_eq, Nat.add_zero] at this
    exact this
   ·refine (ih (by omega) hp).cat ?_
    rw [hf]
    exact hrow
 have := key rows.length (Nat.le_refl _) h0
 rwa [List.take_length] at this
section
variable {P : Program} {K : CallFn} {tab : Tab} {zl : List (Nat × List HVal)} {E : Env0} {ops : Array Oper} {o : Oper} {L : SL} {B B' : List Blk} {G G2 : List Part} {m n : Nat} {R : SL → List Blk → List Part → Prop}
theorem qappRo {t t2 e e0 w q q2 bs j jn : Nat} {s2 : Bool} {i : TI} {cl : Call} {x y : Operand} {v2 : HVal} {z lc : List HVal} {rows new : List (List HVal)} (hX : TK P tab zl)
  (ho : o.op = .call cl) (hc : cl.callee = .builtin .append) (ha : cl.args = #[x, y]) (h0 : cl.argTypes[0]? = some t) (h2 : cl.argTypes[1]? = some t2) (ht : tyL tab t = some (.slice e, q)) (ht2 : tyL tab t2 = some (.slice e, q2))
  (he : tyL tab e = some (i, w)) (hz : zL zl e = some z) (hzl : Nat.beq z.length w = true) (he0 : Nat.beq e 0 = false) (hw0 : Nat.beq w 0 = false) (hb : P.bytesOf e = bs) (hb0 : Nat.beq bs 0 = false)
  (hx : evX P L x = some (.sl j jn)) (hbk : nth B j = some (.own lc e0 s2)) (hlc : rows.flatten = lc) (hrl : ∀ r ∈ rows, r.length = w) (hjn : rows.length = jn) (hy : evH P L y = some v2) (hro : Ro E.C E.h (rd v2 w new)) (hnl : ∀ r ∈ new, r.length = w) (hpos : 0 < new.length) (hn : noTmp B = true) (hroom : (jn + new.length) * bs ≤ 140737488355328)
  (hw : wantX ops o L = some true) (hf : fits o.dst n = true) (hr : ∀ k, R (putX o.dst (.ext (.slice k 0 (jn + new.length) none)) L) B (ownS e w (.slice k 0 (jn + new.length) none) (rows ++ new) :: G)) : Op1X P K E ops o L B G m n R := by
 subst hlc hjn
 refine ⟨fun κ h L0 r M => ?_⟩
 obtain ⟨k2, off2, cap2, rfl, hrow⟩ := rd.rows (hro.at M.chg) hpos hnl
 obtain ⟨k, hk⟩ := M.own _ _ _ _ hbk
 obtain ⟨w2, g1, g2⟩ := evX_rep r hx
 have hw2 : w2 = .slice k 0 rows.length (some rows.length) := by
  cases g2 with
  | sl hk2 => rw [hk] at hk2; cases hk2; rfl
 subst hw2
 have hblk : h.get k = some (.cells rows.flatten e0 s2 true) := M.chg.all _ (List.mem_append_left _ (partsB_mem hbk hk))
 have hv : App h e w (.slice k 0 rows.length (some rows.length)) rows.length rows.flatten none := .full hblk (flatten_len hrl) (by rw [List.drop_zero, List.take_of_length_le (by rw [flatten_len hrl]; exact Nat.le_refl _)])
 refine Op1.append hX.tab ho hc ha h0 h2 ht ht2 he (hX.zero.look hz) hzl he0 hw0 hb hb0 g1 (evH_eq r hy) hv hrow (by rw [nbeq]; exact decide_eq_true (flatten_len hnl)) (by rw [nbeq]; exact decide_eq_false (by omega)) hroom M.wf (wantX_eq r hw) hf ?_
 intro k3 h' p
 have c : Chg [] h [ownS e w (.slice k3 0 (rows.length + new.length) none) (rows ++ new)] h' := by
  refine ⟨p.wf, p.next, fun {j o} hj _ => ?_, ?_, List.pairwise_singleton _ _, ?_⟩
  ·rw [p.old j (by simp) ?_]
   ·exact hj
   ·rintro rfl
    rw [p.fresh] at hj; cases hj
  ·intro r hr
   simp only [List.mem_singleton] at hr
   subst hr
   refine ⟨⟨some k3, ?_⟩, fun r hr => ?_⟩
   ·have := p.app
    rw [← List.flatten_append, ← List.length_append] at this
    rw [← List.length_append]
    exact this
   ·rcases List.mem_append.1 hr with hr | hr
    ·exact hrl r hr
    ·exact hnl r hr
  ·intro r hr j hj
   simp only [List.mem_singleton] at hr
   subst hr
   have hj : k3 = j := by simpa [ownS, keyW] using hj
   subst hj
   exact .inr p.fresh
 exact ⟨κ, _, _, _, pfx_refl κ, r.put (.ext _) o.dst, M.call c, hr k3⟩
theorem App.none {h : Heap} {e w : Nat} {v : HVal} {d : Option Nat} (hP : P.cellsOf e = w) (a : App h e w v 0 [] d) : appended P e v h = some (0, []) := by
 cases a with
 | nils => rfl
 | rest => rfl
 | full hg hl hd => simp only [appended, loadN, cells_get hg, obS, Nat.mul_eq, Nat.zero_mul, takeK_eq, Nat.zero_le, if_true, List.take_zero]
 | own hg hl hd => simp only [appended, loadN, cells_get hg, obS, Nat.mul_eq, Nat.zero_mul, takeK_eq, Nat.zero_le, if_true, List.take_zero]
theorem qappZ {t t2 e w q q2 j jn e0 bs : Nat} {z : List HVal} {i : TI} {s2 : Bool} {lc : List HVal} {v2 : HVal} {cl : Call} {x y : Operand} (hX : TK P tab zl)
  (ho : o.op = .call cl) (hc : cl.callee = .builtin .append) (ha : cl.args = #[x, y]) (h0 : cl.argTypes[0]? = some t) (h2 : cl.argTypes[1]? = some t2) (ht : tyL tab t = some (.slice e, q)) (ht2 : tyL tab t2 = some (.slice e, q2)) (he : tyL tab e = some (i, w)) (hz : zL zl e = some z) (hzl : Nat.beq z.length w = true) (he0 : Nat.beq e 0 = false) (hw0 : Nat.beq w 0 = false) (hb : P.bytesOf e = bs) (hb0 : Nat.beq bs 0 = false)
  (hx : evX P L x = some (.sl j jn)) (hbk : nth B j = some (.own lc e0 s2)) (hy : evH P L y = some v2) (hro : Ro E.C E.h (ownS e w v2 []))
  (hw : wantX ops o L = some true) (hf : fits o.dst n = true) (hr : R (putX o.dst (.sl j jn) L) B G) : Op1X P K E ops o L B G m n R := by
 refine .comp hw hf (fun κ h L0 r M => ?_) hr
 obtain ⟨k, hk⟩ := M.own _ _ _ _ hbk
 obtain ⟨w2, g1, g2⟩ := evX_rep r hx
 have hw2 : w2 = .slice k 0 jn (some jn) := by
  cases g2 with
  | sl hk2 => rw [hk] at hk2; cases hk2; rfl
 subst hw2
 obtain ⟨⟨d, happ⟩, _⟩ := hro.at M.chg
 have hz2 := App.none (P := P) (tab_ok hX.tab he).2 happ
 refine .same (OpV.mk ho fun ev hag d ty ps aft g => ?_) (.sl hk) M
 have hnn : noNumber P cl.argTypes = true := by simp only [noNumber, h2, (tab_slice hX.tab ht2).1]
 have hse : sliceElem P cl.argTypes = some e := by simp only [sliceElem, h0, (tab_slice hX.tab ht).1]
 simp only [opH, hc, ha, List.map_cons, List.map_nil, builtinH, evS hag g1, evS hag (evH_eq r hy), hnn, hse, obS, bcT, bcF, he0, (tab_ok hX.tab he).2, hw0, hb, hb0, hX.zero.look hz, hzl, hz2, appendH, show Nat.beq 0 0 = true from rfl, HL.val]
end
end Go.HL
namespace Go.HL
open Go
section
variable {P : Program} {K : CallFn} {tab : Tab} {zl : List (Nat × List HVal)} {E : Env0} {ops : Array Oper} {o : Oper} {L : SL} {B B' : List Blk} {G G2 : List Part} {m n : Nat} {pl : List Nat} {al : List AX} {RA : List AX → SL → List Blk → List Part → Prop}
end
end Go.HL
