/- Runs of HL, the state known by signs: more rules. No statement of the seat stands here. -/
import Derived.Test.YtngeipnhbigdmaaGreatDoorXB
set_option linter.unusedVariables false
set_option linter.unusedSimpArgs false
namespace Go.HL
open Go
noncomputable section
section
variable {P : Program} {K : ai} {E : eT} {ops : Array Oper} {o : Oper} {l : List Oper} {L L' : SL} {B B' : List cj} {G G' G2 : List Part} {m n : Nat} {R : SL → List cj → List Part → Prop} {Q : Ex → St → Prop} {a b c : Code} {ax : iF} {zl : List (Nat × List ad)} {h h' : Heap}
def gx (b : Nat) : List ad := [.int .u8 (b : Int)]
theorem jD (bs : List Nat) : (bs.map gx).flatten = byteCells bs := by
 induction bs with
 | nil => rfl
 | cons b bs ih => rw [List.map_cons, List.flatten_cons, ih]; rfl
theorem Nd {s t e e' u w q : Nat} {x : Operand} {v : ad} {bs : List Nat} (hX : TK P ax zl) (ho : o.op = .convert s t x) (hs : bN ax s = some (.slice e, u)) (he : bN ax e = some (.int .u8, q)) (ht : bN ax t = some (.str, w)) (hx : cM P L x = some v)
  (hG : aI G (aH e' 1 v (bs.map gx)) G2) (hn : ∀ k, v ≠ .rest k) (hb : ∀ b ∈ bs, b < 256) (hw : aU ops o L = some true) (hf : fits o.dst n = true) (hr : R (bf o.dst (.ext (.str bs.length (aO bs 0))) L) B G) : ca P K E ops o L B G m n R :=
 qv hw hf (fun κ h L0 r M => by
  obtain ⟨⟨d, ha⟩, _⟩ := M.aS.all _ (List.mem_append_right _ hG.mem)
  exact V.strOf hX.ax ho hs he ht (aF r hx) hn ha (jD bs) hb) hr
theorem tM {i k : Nat} (h : i ≤ k) (hk : k < 9223372036854775808) : dj .i64 ((k : Int) - (i : Int)) = ((k - i : Nat) : Int) := by rw [wI (by omega) (by omega)]; omega
end
end
end Go.HL
namespace Go.HL
open Go
noncomputable section
section
variable {P : Program} {K : ai} {E : eT} {ops : Array Oper} {o : Oper} {l : List Oper} {L L' : SL} {B B' : List cj} {G G' G2 : List Part} {m n : Nat} {R : SL → List cj → List Part → Prop} {Q : Ex → St → Prop} {a b c : Code} {ax : iF} {zl : List (Nat × List ad)} {h h' : Heap}
def jr (i k : Nat) : SL → (SL → Option SL) → Option SL
 | [], f => f []
 | (t, v) :: l, f => match v with
  | .ext u => jr i k l fun r => f ((t, .ext u) :: r)
  | .ptr j off => ae (Nat.beq j i) (jr i k l fun r => f ((t, .ext (.ptr k off)) :: r)) (jr i k l fun r => f ((t, .ptr j off) :: r))
  | .sl j n => ae (Nat.beq j i) (jr i k l fun r => f ((t, .ext (.slice k 0 n (some n))) :: r)) (jr i k l fun r => f ((t, .sl j n) :: r))
theorem eM {κ : j0} {i k : Nat} (hk : nth κ i = some (k, 0)) : ∀ {L : SL} {L0 : c6}, di κ L L0 → ∀ {f : SL → Option SL} {R : SL}, jr i k L f = some R → ∃ L', f L' = some R ∧ di κ L' L0
 | [], _, .nil, f, R, h => ⟨[], h, .nil⟩
 | (t, v) :: L, _, .cons (v := w) hx ht, f, R, h => by
  cases v with
  | ext u =>
   obtain ⟨L', h1, h2⟩ := eM hk ht (show jr i k L _ = some R from h)
   exact ⟨_, h1, .cons hx h2⟩
  | ptr j off =>
   have h : ae (Nat.beq j i) (jr i k L fun r => f ((t, .ext (.ptr k off)) :: r)) (jr i k L fun r => f ((t, .ptr j off) :: r)) = some R := h
   cases hb : Nat.beq j i with
   | true =>
    rw [hb, bcT] at h
    obtain ⟨L', h1, h2⟩ := eM hk ht h
    refine ⟨_, h1, .cons ?_ h2⟩
    have := Nat.eq_of_beq_eq_true hb
    subst this
    cases hx with
    | ptr hk2 => rw [hk] at hk2; cases hk2; simp only [Nat.add_eq, Nat.zero_add]; exact .ext _
   | false =>
    rw [hb, bcF] at h
    obtain ⟨L', h1, h2⟩ := eM hk ht h
    exact ⟨_, h1, .cons hx h2⟩
  | sl j q =>
   have h : ae (Nat.beq j i) (jr i k L fun r => f ((t, .ext (.slice k 0 q (some q))) :: r)) (jr i k L fun r => f ((t, .sl j q) :: r)) = some R := h
   cases hb : Nat.beq j i with
   | true =>
    rw [hb, bcT] at h
    obtain ⟨L', h1, h2⟩ := eM hk ht h
    refine ⟨_, h1, .cons ?_ h2⟩
    have := Nat.eq_of_beq_eq_true hb
    subst this
    cases hx with
    | sl hk2 => rw [hk] at hk2; cases hk2; exact .ext _
   | false =>
    rw [hb, bcF] at h
    obtain ⟨L', h1, h2⟩ := eM hk ht h
    exact ⟨_, h1, .cons hx h2⟩
theorem Mem.eF {κ : j0} (M : Mem E κ B G h) {i k e : Nat} {lc : List ad} {s : Bool} (hb : nth B i = some (.own lc e s)) (hk : nth κ i = some (k, 0)) {p : Part} (hp : (kB k lc e s).holds h → p.holds h) (hf : ∀ j, p.dG j → j = k) : Mem E κ (B.set i .gone) (p :: G) h := by
 obtain ⟨R, h3, _, h5⟩ := iO hb hk
 have c := M.aS.perm (B' := kB k lc e s :: (R ++ G)) (by simpa using List.Perm.append_right G h3)
 have c2 : fL E.C E.h (p :: (R ++ G)) h := by
  have hd := List.pairwise_cons.1 c.vz
  refine ⟨c.wf, c.next, c.jJ, ?_, List.pairwise_cons.2 ⟨fun r hr j hj hrj => hd.1 r hr j (hf j hj) hrj, hd.2⟩, ?_⟩
  ·intro r hr
   rcases List.mem_cons.1 hr with rfl | hr
   ·exact hp (c.all _ (by simp))
   ·exact c.all r (by simp [hr])
  ·intro r hr j hj
   rcases List.mem_cons.1 hr with rfl | hr
   ·exact c.own (kB k lc e s) (by simp) j (hf j hj)
   ·exact c.own r (by simp [hr]) j hj
 refine ⟨c2.perm ?_, M.pre, by rw [List.length_set]; exact M.len, ?_, ?_, ?_⟩
 ·exact (List.Perm.cons _ (List.Perm.append_right G h5.symm)).trans List.perm_middle.symm
 ·intro j l' a b hj
  rcases nW hj with ⟨rfl, e⟩ | ⟨_, hj⟩
  ·cases e
  ·exact M.own j l' a b hj
 ·intro j l' hj
  rcases nW hj with ⟨rfl, e⟩ | ⟨_, hj⟩
  ·cases e
  ·exact M.ro j l' hj
 ·intro j l' hj
  rcases nW hj with ⟨rfl, e⟩ | ⟨_, hj⟩
  ·cases e
  ·obtain ⟨k2, o, g1, g2, g, g3, g4⟩ := M.tmp j l' hj
   exact ⟨k2, o, g1, g2, g, by simp [g3], g4⟩
structure nH (k : Nat) (lc : List ad) (e : Nat) (s : Bool) (p : Part) : Prop where
 holds : ∀ h, (kB k lc e s).holds h → p.holds h
 dG : ∀ j, p.dG j → j = k
theorem nH.own {k e e' w n : Nat} {lc : List ad} {s : Bool} {rows : List (List ad)} (hl : rows.flatten = lc) (hw : ∀ r ∈ rows, r.length = w) (hn : rows.length = n) : nH k lc e s (aH e' w (.slice k 0 n (some n)) rows) := by
 subst hn
 refine ⟨fun h hh => ⟨⟨none, .full hh (bQ hw) ?_⟩, hw⟩, fun j hj => ?_⟩
 ·rw [← hl, List.drop_zero, List.take_of_length_le (by rw [bQ hw]; exact Nat.le_refl _)]
 ·have : k = j := by simpa [aH, th] using hj
  exact this.symm
theorem w4.eF (i : Nat) (p : Nat → Part) {lc : List ad} {e : Nat} {s : Bool} {L2 : Nat → SL} (hb : nth B i = some (.own lc e s)) (hp : ∀ k, nH k lc e s (p k)) (hL : ∀ k, jr i k L some = some (L2 k)) (hB : sj B i .gone some = some B') (hw : ∀ k, w4 P K E ops l (L2 k) B' (p k :: G) m n R) : w4 P K E ops l L B G m n R := by
 refine ⟨fun κ h L0 r M => ?_⟩
 obtain ⟨k, hk⟩ := M.own _ _ _ _ hb
 obtain ⟨L', h1, h2⟩ := eM hk r (hL k)
 cases h1
 rw [kS] at hB
 cases hB
 exact (hw k).run κ h L0 h2 (M.eF hb hk ((hp k).holds h) (hp k).dG)
theorem ag.eF (i : Nat) (p : Nat → Part) {lc : List ad} {e : Nat} {s : Bool} {L2 : Nat → SL} (hb : nth B i = some (.own lc e s)) (hp : ∀ k, nH k lc e s (p k)) (hL : ∀ k, jr i k L some = some (L2 k)) (hB : sj B i .gone some = some B') (hw : ∀ k, ag P K E c (L2 k) B' (p k :: G) m n Q) : ag P K E c L B G m n Q := by
 refine ⟨fun κ h L0 r M => ?_⟩
 obtain ⟨k, hk⟩ := M.own _ _ _ _ hb
 obtain ⟨L', h1, h2⟩ := eM hk r (hL k)
 cases h1
 rw [kS] at hB
 cases hB
 exact (hw k).run κ h L0 h2 (M.eF hb hk ((hp k).holds h) (hp k).dG)
theorem aw.eF {ex : Ex} (i : Nat) (p : Nat → Part) {lc : List ad} {e : Nat} {s : Bool} {L2 : Nat → SL} (hb : nth B i = some (.own lc e s)) (hp : ∀ k, nH k lc e s (p k)) (hL : ∀ k, jr i k L some = some (L2 k)) (hB : sj B i .gone some = some B') (hw : ∀ k, aw E Q ex (L2 k) B' (p k :: G) m n) : aw E Q ex L B G m n := by
 refine ⟨fun κ h L0 r M => ?_⟩
 obtain ⟨k, hk⟩ := M.own _ _ _ _ hb
 obtain ⟨L', h1, h2⟩ := eM hk r (hL k)
 cases h1
 rw [kS] at hB
 cases hB
 exact (hw k).run κ h L0 h2 (M.eF hb hk ((hp k).holds h) (hp k).dG)
theorem bG {v : ad} {w : Nat} {α : Type} {g : α → List ad} {l : List α} (f : (rd v w (l.map g)).holds h) : dA v = some l.length := by
 have := f.slice.len; rwa [List.length_map] at this
theorem Sp.known {f : Nat} {args : List ad} {v : ad} {φ : ad → Heap → Prop} (hk : K f args h = some (.ret v, h')) (hr : φ v h') : Sp P K f args h φ := ⟨v, h', .known hk, hr⟩
theorem Lu {t p u c u' c' : Nat} {x y : Operand} (ho : o.op = .binOp .eql t x y p) (hx : cM P L x = some (.str u c)) (hy : cM P L y = some (.str u' c')) (hw : aU ops o L = some true) (hf : fits o.dst n = true) (h1 : (u = u' ∧ c = c') → R (bf o.dst (.ext (.bool true)) L) B G) (h0 : ¬ (u = u' ∧ c = c') → R (bf o.dst (.ext (.bool false)) L) B G) : ca P K E ops o L B G m n R := by
 by_cases hp : u = u' ∧ c = c'
 ·exact qv hw hf (fun κ h L0 r M => by have := V.Nv (h := h) ho (aF r hx) (aF r hy); rwa [decide_eq_true hp] at this) (h1 hp)
 ·exact qv hw hf (fun κ h L0 r M => by have := V.Nv (h := h) ho (aF r hx) (aF r hy); rwa [decide_eq_false hp] at this) (h0 hp)
theorem qcn {t p u c u' c' : Nat} {x y : Operand} (ho : o.op = .binOp .neq t x y p) (hx : cM P L x = some (.str u c)) (hy : cM P L y = some (.str u' c')) (hw : aU ops o L = some true) (hf : fits o.dst n = true) (h1 : ¬ (u = u' ∧ c = c') → R (bf o.dst (.ext (.bool true)) L) B G) (h0 : (u = u' ∧ c = c') → R (bf o.dst (.ext (.bool false)) L) B G) : ca P K E ops o L B G m n R := by
 by_cases hp : u = u' ∧ c = c'
 ·exact qv hw hf (fun κ h L0 r M => by have := V.Kl (h := h) ho (aF r hx) (aF r hy); rwa [decide_eq_false (fun hn => hn hp)] at this) (h0 hp)
 ·exact qv hw hf (fun κ h L0 r M => by have := V.Kl (h := h) ho (aF r hx) (aF r hy); rwa [decide_eq_true hp] at this) (h1 hp)
def D0 (v : ad) (j : Nat) : ad := match v with
 | .slice k off _ none => .slice k off j none
 | v => v
theorem rd.take {v : ad} {w j : Nat} {rows : List (List ad)} (hl : sY v) (f : (rd v w rows).holds h) (hj : j < rows.length) : (rd (D0 v j) w (rows.take j)).holds h := by
 have hlen := f.slice.len
 cases hl with
 | aD => exact absurd (Option.some.inj hlen) (by omega)
 | empty => exact absurd (Option.some.inj hlen) (by omega)
 | slice k off c =>
  refine ⟨⟨by simp [D0, dA]; omega, fun i r hr => ?_⟩, fun k2 hk2 => f.live k2 hk2⟩
  rw [List.getElem?_take] at hr
  split at hr
  ·obtain ⟨k', off', cap', e1, hrow⟩ := f.slice.2 i r hr
   cases e1
   refine ⟨k, off, none, ?_, hrow⟩
   rw [List.length_take, Nat.min_eq_left (by omega)]; rfl
  ·cases hr
theorem V.hi {L : c6} {t e w q j : Nat} {i : TI} {x y : Operand} {v : ad} {rows : List (List ad)} (hT : bH P ax = true) (ho : o.op = .slice t x none (some y) none) (ht : bN ax t = some (.slice e, q)) (he : bN ax e = some (i, w))
  (hx : eI P L x = some v) (hy : eI P L y = some (.int .i64 (.ofNat j))) (hl : sY v) (f : (rd v w rows).holds h) (hj : j < rows.length) : cD P o L h (D0 v j) h := by
 have hslice := (c7 hT ht).1
 obtain ⟨inf, hinf⟩ := (c7 hT ht).2
 have hel : cg P t = true := by simp only [cg, hslice, hinf]
 have hop : ∀ {v' : ad}, iy P h t v none (some (.int .i64 (.ofNat j))) none = some v' → cD P o L h v' h := fun {v'} e => cD.mk ho fun ev ha d ty ps aft g => by
  simp only [bO, hel, bcT, evS ha hx, Option.map_some, evS ha hy, Option.map_none, e, HL.val, obS]
 have hb1 : ∀ y d, j ≤ y → bZ (some (.int .i64 (.ofNat j))) y d = some j := by
  intro y d hy
  have : Nat.ble j y = true := by rw [eE]; exact decide_eq_true hy
  show ae (Nat.ble j y) (some j) none = some j
  rw [this]; rfl
 have hlen := f.slice.len
 cases hl with
 | aD => exact absurd (Option.some.inj hlen) (by omega)
 | empty => exact absurd (Option.some.inj hlen) (by omega)
 | slice k off c =>
  have hc : c = rows.length := by simpa [dA] using hlen
  refine hop ?_
  have htop : zj P h k off c e (some (.int .i64 (.ofNat j))) = c := by
   unfold zj
   show ae (Nat.ble j c) c _ = c
   have : Nat.ble j c = true := by rw [eE]; exact decide_eq_true (by omega)
   rw [this]; rfl
  simp only [iy, hslice, htop, hb1 c c (by omega), obS]; rfl
theorem qhi {t e w q j : Nat} {i : TI} {x y : Operand} {v : ad} {rows : List (List ad)} (hX : TK P ax zl) (ho : o.op = .slice t x none (some y) none) (ht : bN ax t = some (.slice e, q)) (he : bN ax e = some (i, w))
  (hx : cM P L x = some v) (hy : cM P L y = some (.int .i64 (.ofNat j))) (hl : sY v) (hs : ∀ h, Fin E B G h → (rd v w rows).holds h) (hj : j < rows.length) (hw : aU ops o L = some true) (hf : fits o.dst n = true) (hr : R (bf o.dst (.ext (D0 v j)) L) B G) : ca P K E ops o L B G m n R :=
 qv hw hf (fun κ h L0 r M => V.hi hX.ax ho ht he (aF r hx) (aF r hy) hl (hs h ⟨κ, M⟩) hj) hr
theorem qlG {cl : Call} {x : Operand} {t e e' w q : Nat} {v : ad} {rows : List (List ad)} (hX : TK P ax zl) (ho : o.op = .call cl) (hc : cl.callee = .builtin .len) (hx : cl.args = #[x]) (hts : cl.argTypes[0]? = some t) (ht : bN ax t = some (.slice e, q)) (hs : cM P L x = some v) (hG : aI G (aH e' w v rows) G2) (hw : aU ops o L = some true) (hf : fits o.dst n = true) (hr : R (bf o.dst (.ext (.int .i64 (rows.length : Int))) L) B G) : ca P K E ops o L B G m n R :=
 qv hw hf (fun κ h L0 r M => V.len hX.ax ho hc hx hts ht (aF r hs) (aH.rd (M.aS.all _ (List.mem_append_right _ hG.mem))).slice.len) hr
theorem Lt {t e w i u off bX : Nat} {z : Int} {ti : TI} {x y : Operand} {kd : IntKind} (hX : TK P ax zl) (ho : o.op = .indexAddr t x y) (ht : bN ax t = some (.array bX e, u)) (he : bN ax e = some (ti, w)) (hx : sO P L x = some (.ptr i off)) (hy : cM P L y = some (.int kd z)) (h0 : 0 ≤ z) (hj : z < (bX : Int)) (hw : aU ops o L = some true) (hf : fits o.dst n = true)
  (hr : R (bf o.dst (.ptr i (Nat.add off (Nat.mul z.toNat w))) L) B G) : ca P K E ops o L B G m n R := by
 obtain ⟨j, rfl⟩ := Int.eq_ofNat_of_zero_le h0
 refine .comp hw hf (fun κ h L0 r M => ?_) hr
 obtain ⟨v, g1, g2⟩ := ch r hx
 cases g2 with
 | @ptr _ _ k o2 hk =>
  refine .same (v := .ptr k (Nat.add (Nat.add o2 off) (Nat.mul j w))) (cD.mk ho fun ev ha d ty ps aft g => ?_) ?_ M
  ·obtain ⟨hu, inf, hi⟩ := nM hX.ax ht
   have h1 : cg P t = true := by simp only [cg, hu, hi]
   have h2 : Nat.blt j bX = true := by rw [fe]; exact decide_eq_true (by omega)
   have e1 := evS ha g1
   have e2 := evS ha (aF r hy)
   simp only [bO, h1, bcT, e1, e2, ad.isNat, qh, obS, hu, ad.dv, h2, (cA hX.ax he).2]
  ·have := zc.ptr (κ := κ) (off := Nat.add off (Nat.mul (Int.toNat (j : Int)) w)) hk
   simp only [Nat.add_eq, ← Nat.add_assoc, Int.toNat_natCast] at this ⊢
   exact this
theorem qld {t i off : Nat} {x : Operand} {b : cj} {lc m' : List ad} {w : TI × Nat} (hX : TK P ax zl) (ho : o.op = .load t x) (hx : sO P L x = some (.ptr i off)) (hb : nth B i = some b) (hl : b.cells = some lc) (ht : bN ax t = some w) (ha : w.1.agg = true) (hm : eV (jz lc off) w.2 some = some m') (hw : aU ops o L = some true) (hf : fits o.dst n = true) (hr : R (bf o.dst (.ext (.agg m')) L) B G) : ca P K E ops o L B G m n R := by
 refine .comp hw hf (fun κ h L0 r M => xy hX r M (sv := .ext (.agg m')) ?_) hr
 rw [ho]
 simp only [LX, hx, obS, hb, hl, ht, ha, bcT]
 rw [br] at hm ⊢
 split at hm
 ·rename_i hle
  cases hm
  rw [if_pos hle]
 ·cases hm
end
end
end Go.HL
namespace Go.HL
open Go
noncomputable section
section
variable {P : Program} {K : ai} {E : eT} {ops : Array Oper} {o : Oper} {l : List Oper} {L L' : SL} {B B' : List cj} {G G' G2 : List Part} {m n : Nat} {R : SL → List cj → List Part → Prop} {Q : Ex → St → Prop} {a b c : Code} {ax : iF} {zl : List (Nat × List ad)} {h h' : Heap}
theorem Mem.rl {g : Part} (w : Wf h) (hg : g.holds h) : Mem ⟨[g], h, []⟩ [] [] [g] h := by
 refine ⟨⟨w, Nat.le_refl _, fun e _ => e, ?_, List.pairwise_singleton _ _, ?_⟩, ⟨[], rfl⟩, rfl, ?_, ?_, ?_⟩
 ·intro r hr
  have : r = g := by simpa [bj] using hr
  subst this; exact hg
 ·intro r hr j hj
  exact .inl ⟨r, by simpa [bj] using hr, hj⟩
 ·intro i l' e' s' hb
  rw [cf] at hb
  simp at hb
 all_goals
  intro i l' hb
  rw [cf] at hb
  simp at hb
theorem Sp.rl {f : Nat} {g : Part} {fn : Func} {c : Code} {args : List ad} {R : ad → Heap → Prop} (w : Wf h) (hg : g.holds h) (hK : K f args h = none) (hf : P.funcs[f]? = some fn) (hb : fn.body = some c) (hlt : Nat.blt f b7 = true)
  (hm : Nat.lor (jm fn) (Nat.sub (Nat.pow 2 args.length) 1) = m) (hl : Nat.add args.length (Nat.sub fn.ntmps args.length) = n) (hn : IC args = some L)
  (hw : ag P K ⟨[g], h, []⟩ c L [] [g] m n (JV P fn R)) : Sp P K f args h R :=
 Sp.all hK hf hb hlt hm hl (hw.run [] h _ (zU hn) (Mem.rl w hg))
def MP (g : Part) (φ : ad → List Part → Prop) (h : Heap) (v : ad) (h' : Heap) : Prop := ∃ C', fL [g] h C' h' ∧ φ v C'
theorem oY {cl : Call} {x : Operand} {f : Nat} {args : List ad} {g : Part} {φ : ad → List Part → Prop} (ho : o.op = .call cl) (hc : cl.callee = .value x) (hx : cM P L x = some (.func f [] [])) (ha : w0 P L cl.args.toList = some args) (hf : ar P f) (hw : aU ops o L = some true) (hfit : fits o.dst n = true) (hG : aI G g G2) (hn : gv B = true)
  (hs : ∀ h, Fin E B G h → g.holds h → (∀ a, Ro E.C E.h a → Ro [g] h a) → (∀ a ∈ G2, Ro [g] h a) → Sp P K f args h (MP g φ h)) (hr : ∀ v C', φ v C' → R (bf o.dst (.ext v) L) B (C' ++ G2)) : ca P K E ops o L B G m n R := by
 refine ⟨fun κ h L0 r M => ?_⟩
 have hmem : g ∈ bj B κ ++ G := List.mem_append_right _ hG.mem
 have hap : ∀ a ∈ G2, Ro [g] h a := fun a hag => by
  have hp := M.aS.vz
  have hd := (List.pairwise_append.1 hp).2.1
  have hd2 := oI hG.perm hd
  refine ⟨M.aS.all a (List.mem_append_right _ (hG.perm.mem_iff.2 (by simp [hag]))), fun q hq => ?_⟩
  have : q = g := by simpa using hq
  subst this
  exact ((List.pairwise_cons.1 hd2).1 a hag).symm
 refine gy.sp (C.call ho hc (aF r hx) (vZ r ha) hf) (bc r hw) hfit (hs h ⟨κ, M⟩ (M.aS.all _ hmem) (fun a ra => ra.narrow M hmem) hap) ?_
 rintro v h' ⟨C', d, hφ⟩
 exact ⟨κ, _, _, _, cW κ, r.put (.ext v) o.dst, M.mB hG d hn, hr v C' hφ⟩
theorem jh {t e q j len k off w : Nat} {i : TI} {x y : Operand} {kd : IntKind} {cap : Option Nat} (hX : TK P ax zl) (ho : o.op = .indexAddr t x y) (ht : bN ax t = some (.slice e, q)) (he : bN ax e = some (i, w)) (hx : cM P L x = some (.slice k off len cap)) (hy : cM P L y = some (.int kd (.ofNat j))) (hj : j < len) (hw : aU ops o L = some true) (hf : fits o.dst n = true) (hk : R (bf o.dst (.ext (.ptr k (Nat.add off (Nat.mul j w)))) L) B G) : ca P K E ops o L B G m n R :=
 qv hw hf (fun κ h L0 r M => V.indexAddr hX.ax ho ht he (aF r hx) (aF r hy) hj) hk
theorem aI.he {a b : Part} {B : List Part} (e : a = b) : aI (a :: B) b B := e ▸ .h
theorem ag.fact {p : Prop} (hp : ∀ h, Fin E B G h → p) (hw : p → ag P K E c L B G m n Q) : ag P K E c L B G m n Q := ⟨fun κ h L0 r M => (hw (hp h ⟨κ, M⟩)).run κ h L0 r M⟩
theorem Gp {t t2 e w q q2 bs j e2 cm : Nat} {s2 : Bool} {i : TI} {cl : Call} {x y : Operand} {v : ad} {z lc : List ad} {rows : List (List ad)} (new : List (List ad)) (hX : TK P ax zl)
  (ho : o.op = .call cl) (hc : cl.callee = .builtin .append) (ha : cl.args = #[x, y]) (h0 : cl.argTypes[0]? = some t) (h2 : cl.argTypes[1]? = some t2) (ht : bN ax t = some (.slice e, q)) (ht2 : bN ax t2 = some (.slice e, q2))
  (he : bN ax e = some (i, w)) (hz : zL zl e = some z) (hzl : Nat.beq z.length w = true) (he0 : Nat.beq e 0 = false) (hw0 : Nat.beq w 0 = false) (hb : P.bytesOf e = bs) (hb0 : Nat.beq bs 0 = false)
  (hx : cM P L x = some v) (hy : sO P L y = some (.sl j cm)) (hbk : nth B j = some (.own lc e2 s2)) (hfl : new.flatten = lc) (hnl : ∀ r ∈ new, r.length = w) (hcm : new.length = cm) (hpos : 0 < cm) (hG : aI G (aH e w v rows) G2) (hn : gv B = true) (hroom : (rows.length + new.length) * bs ≤ 140737488355328)
  (hw : aU ops o L = some true) (hf : fits o.dst n = true) (hr : ∀ k, R (bf o.dst (.ext (.slice k 0 (rows.length + new.length) none)) L) B (aH e w (.slice k 0 (rows.length + new.length) none) (rows ++ new) :: G2)) : ca P K E ops o L B G m n R := by
 refine ⟨fun κ h L0 r M => ?_⟩
 subst hcm
 obtain ⟨⟨d, hv⟩, hrl⟩ := M.aS.all _ (List.mem_append_right _ hG.mem)
 obtain ⟨k2, hk2⟩ := M.own _ _ _ _ hbk
 obtain ⟨w2, g1, g2⟩ := ch r hy
 have hw2 : w2 = .slice k2 0 new.length (some new.length) := by
  cases g2 with
  | sl hk => rw [hk2] at hk; cases hk; rfl
 subst hw2
 have hblk : (kB k2 lc e2 s2).holds h := M.aS.all _ (List.mem_append_left _ (dz hbk hk2))
 rw [← hfl] at hblk
 refine gy.append hX.ax ho hc ha h0 h2 ht ht2 he (hX.zero.look hz) hzl he0 hw0 hb hb0 (aF r hx) g1 hv (nQ hblk) (by rw [bm]; exact decide_eq_true (bQ hnl)) (by rw [bm]; exact decide_eq_false (by omega)) hroom M.wf (bc r hw) hf ?_
 intro k h' p
 exact ⟨κ, _, _, _, cW κ, r.put (.ext _) o.dst, M.mB hG (ft.aS hv hrl hnl p) hn, hr k⟩
end
end
end Go.HL
namespace Go.HL
open Go
noncomputable section
section
variable {P : Program} {K : ai} {E : eT} {ops : Array Oper} {o : Oper} {l : List Oper} {L L' : SL} {B B' : List cj} {G G' G2 : List Part} {m n : Nat} {R : SL → List cj → List Part → Prop} {Q : Ex → St → Prop} {a b c : Code} {ax : iF} {zl : List (Nat × List ad)} {h h' : Heap}
/-! ## Values of several cells compared -/
theorem V.NX {L : c6} {op : BinOp} {t p : Nat} {x y : Operand} {a b : List ad} {v : ad} (ho : o.op = .binOp op t x y p) (hx : eI P L x = some (.agg a)) (hy : eI P L y = some (.agg b)) (hr : eH P op t (.agg a) (.agg b) = some v) : cD P o L h v h := cD.mk ho fun ev ha d ty ps aft g => by
 simp only [bO, evS ha hx, evS ha hy, jK, hr, HL.val, obS]
theorem Nf {bo : BinOp} {t p : Nat} {x y : Operand} {a b : List ad} {v : ad} (ho : o.op = .binOp bo t x y p) (hx : cM P L x = some (.agg a)) (hy : cM P L y = some (.agg b)) (hd : eH P bo t (.agg a) (.agg b) = some v) (hw : aU ops o L = some true) (hf : fits o.dst n = true) (hr : R (bf o.dst (.ext v) L) B G) : ca P K E ops o L B G m n R :=
 qv hw hf (fun κ h L0 r M => V.NX ho (aF r hx) (aF r hy) hd) hr
end
end
end Go.HL
namespace Go.HL
open Go
noncomputable section
section
variable {P : Program} {K : ai} {E : eT} {ops : Array Oper} {o : Oper} {L : SL} {B : List cj} {G : List Part} {m n : Nat} {R : SL → List cj → List Part → Prop} {h : Heap} {ax : iF} {zl : List (Nat × List ad)}
theorem kf : ∀ (b : List Nat) (s : Nat), aO b s = s * 256 ^ b.length + aO b 0
 | [], s => by simp [aO]
 | x :: b, s => by
  show aO b (s * 256 + x) = s * 256 ^ (b.length + 1) + aO b (0 * 256 + x)
  rw [kf b (s * 256 + x), kf b (0 * 256 + x), Nat.pow_succ, Nat.add_mul, Nat.mul_assoc, Nat.mul_comm 256, Nat.zero_mul, Nat.zero_add]
  omega
theorem xJ (a b : List Nat) : aO (a ++ b) 0 = aO a 0 * 2 ^ (8 * b.length) + aO b 0 := by
 rw [aO, List.foldl_append]
 show aO b (aO a 0) = _
 rw [kf, Nat.pow_mul]
theorem V.cat {L : c6} {t p : Nat} {x y : Operand} {a b : List Nat} (ho : o.op = .binOp .add t x y p) (hx : eI P L x = some (.str a.length (aO a 0))) (hy : eI P L y = some (.str b.length (aO b 0))) (hl : a.length + b.length ≤ 9223372036854775807) : cD P o L h (.str (a ++ b).length (aO (a ++ b) 0)) h := cD.mk ho fun ev ha d ty ps aft g => by
 have e : eH P .add t (.str a.length (aO a 0)) (.str b.length (aO b 0)) = some (.str (a ++ b).length (aO (a ++ b) 0)) := by
  show tZ .add _ _ _ _ = _
  unfold tZ
  have : Nat.ble (Nat.add a.length b.length) 9223372036854775807 = true := by rw [eE]; exact decide_eq_true hl
  simp only [this, bcT]
  rw [xJ, List.length_append]; rfl
 simp only [bO, evS ha hx, evS ha hy, jK, e, HL.val, obS]
theorem bd {t p : Nat} {x y : Operand} {a b : List Nat} (ho : o.op = .binOp .add t x y p) (hx : cM P L x = some (.str a.length (aO a 0))) (hy : cM P L y = some (.str b.length (aO b 0))) (hl : a.length + b.length ≤ 9223372036854775807) (hw : aU ops o L = some true) (hf : fits o.dst n = true) (hr : R (bf o.dst (.ext (.str (a ++ b).length (aO (a ++ b) 0))) L) B G) : ca P K E ops o L B G m n R :=
 qv hw hf (fun κ h L0 r M => V.cat ho (aF r hx) (aF r hy) hl) hr
theorem Gm {t e w i sn j q : Nat} {ti : TI} {x y : Operand} {kd : IntKind} (hX : TK P ax zl) (ho : o.op = .indexAddr t x y) (ht : bN ax t = some (.slice e, q)) (he : bN ax e = some (ti, w)) (hx : sO P L x = some (.sl i sn)) (hy : cM P L y = some (.int kd (.ofNat j))) (hj : j < sn) (hw : aU ops o L = some true) (hf : fits o.dst n = true)
  (hr : R (bf o.dst (.ptr i (Nat.mul j w)) L) B G) : ca P K E ops o L B G m n R := by
 refine .comp hw hf (fun κ h L0 r M => ?_) hr
 obtain ⟨v, g1, g2⟩ := ch r hx
 cases g2 with
 | @sl _ k _ hk =>
  refine .same (V.indexAddr hX.ax ho ht he g1 (aF r hy) hj) ?_ M
  have := zc.ptr (κ := κ) (off := Nat.mul j w) hk
  exact this
end
end
end Go.HL
namespace Go.HL
open Go
noncomputable section
section
variable {P : Program} {K : ai} {E : eT} {ops : Array Oper} {o : Oper} {l : List Oper} {L L' : SL} {B B' : List cj} {G G' G2 : List Part} {m n : Nat} {R : SL → List cj → List Part → Prop} {Q : Ex → St → Prop} {a b c : Code} {ax : iF} {zl : List (Nat × List ad)} {h h' : Heap}
structure z1 (g : Part) (Ds : List Part) : Prop where
 all : ∀ h, g.holds h → ∀ r ∈ Ds, r.holds h
 vz : ∀ h, g.holds h → Ds.Pairwise oQ
 dG : ∀ r ∈ Ds, ∀ k, r.dG k → g.dG k
theorem z1.aS {g : Part} {Ds : List Part} (s : z1 g Ds) (w : Wf h) (hg : g.holds h) : fL [g] h Ds h :=
 ⟨w, Nat.le_refl _, fun e _ => e, s.all h hg, s.vz h hg, fun r hr k hk => .inl ⟨g, by simp, s.dG r hr k hk⟩⟩
theorem ag.split {g : Part} {Ds : List Part} (s : z1 g Ds) (hG : aI G g G2) (hn : gv B = true) (hw : ag P K E c L B (Ds ++ G2) m n Q) : ag P K E c L B G m n Q :=
 ⟨fun κ h L0 r M => hw.run κ h L0 r (M.mB hG (s.aS M.wf (M.aS.all _ (List.mem_append_right _ hG.mem))) hn)⟩
theorem fL.join {g : Part} {C Ds R : List Part} {h0 : Heap} (d : fL C h0 (Ds ++ R) h) (hg : (∀ r ∈ Ds, r.holds h) → Ds.Pairwise oQ → g.holds h) (hf : ∀ k, g.dG k → ∃ r ∈ Ds, r.dG k) : fL C h0 (g :: R) h := by
 have hd := List.pairwise_append.1 d.vz
 refine ⟨d.wf, d.next, d.jJ, fun r hr => ?_, List.pairwise_cons.2 ⟨fun r hr k hk hrk => ?_, hd.2.1⟩, fun r hr k hk => ?_⟩
 ·rcases List.mem_cons.1 hr with rfl | hr
  ·exact hg (fun r hr => d.all r (List.mem_append_left _ hr)) hd.1
  ·exact d.all r (List.mem_append_right _ hr)
 ·obtain ⟨q, hq, hqk⟩ := hf k hk
  exact hd.2.2 q hq r hr k hqk hrk
 ·rcases List.mem_cons.1 hr with rfl | hr
  ·obtain ⟨q, hq, hqk⟩ := hf k hk
   exact d.own q (List.mem_append_left _ hq) k hqk
  ·exact d.own r (List.mem_append_right _ hr) k hk
theorem Ej {t e k off w : Nat} {s : Bool} {i : TI} {x : Operand} {v : ad} {lc : List ad} (hX : TK P ax zl) (ho : o.op = .load t x) (ht : bN ax t = some (i, w)) (hi : i.agg = false) (hx : cM P L x = some (.ptr k off)) (hG : aI G (kB k lc e s) G2) (hv : nth lc off = some v) (hw : aU ops o L = some true) (hf : fits o.dst n = true) (hr : R (bf o.dst (.ext v) L) B G) : ca P K E ops o L B G m n R :=
 qv hw hf (fun κ h L0 r M => by
  have hp := M.aS.all _ (List.mem_append_right _ hG.mem)
  have hx' : eI P L0 x = some (.ptr k (Nat.add 0 off)) := by rw [Nat.add_eq, Nat.zero_add]; exact aF r hx
  exact V.Dn hX.ax ho ht hi hx' (nQ hp) hv) hr
theorem Lq {t e k off : Nat} {s : Bool} {ti : TI} {x y : Operand} {v : ad} {lc l' : List ad} (hX : TK P ax zl) (ho : o.op = .store t x y) (ht : bN ax t = some (ti, 1)) (hx : cM P L x = some (.ptr k off)) (hy : cM P L y = some v) (hc : v.cells = some [v]) (hG : aI G (kB k lc e s) G2) (hov : gu lc off [v] some = some l') (hn : gv B = true) (hw : aU ops o L = some true) (hf : fits o.dst n = true)
  (hr : R (bf o.dst (.ext bD) L) B (kB k l' e s :: G2)) : ca P K E ops o L B G m n R := by
 refine ⟨fun κ h L0 r M => ?_⟩
 have hp := M.aS.all _ (List.mem_append_right _ hG.mem)
 refine gy.val (V.Gb hX.ax ho ht (aF r hx) (aF r hy) hc rfl hp hov) (bc r hw) hf ?_
 exact ⟨κ, _, _, _, cW κ, r.put (.ext _) o.dst, M.mB (C' := [kB k l' e s]) hG (DI (pT M.wf _ (M.wf.lt hp))) hn, hr⟩
theorem Lw {t t2 e w q2 bs j c : Nat} {i : TI} {cl : Call} {x y : Operand} {v : ad} {z : List ad} {rows : List (List ad)} (new : List Nat) (hX : TK P ax zl)
  (ho : o.op = .call cl) (hc : cl.callee = .builtin .append) (ha : cl.args = #[x, y]) (h0 : cl.argTypes[0]? = some t) (h2 : cl.argTypes[1]? = some t2) (ht : bN ax t = some (.slice e, w)) (ht2 : bN ax t2 = some (.str, q2))
  (he : bN ax e = some (i, 1)) (hz : zL zl e = some z) (hzl : Nat.beq z.length 1 = true) (he0 : Nat.beq e 0 = false) (hb : P.bytesOf e = bs) (hb0 : Nat.beq bs 0 = false)
  (hx : cM P L x = some v) (hy : cM P L y = some (.str j c)) (hj : j = new.length) (hcode : fc j c 0 j = byteCells new) (hpos : 0 < new.length) (hG : aI G (aH e 1 v rows) G2) (hn : gv B = true) (hroom : (rows.length + new.length) * bs ≤ 140737488355328)
  (hw : aU ops o L = some true) (hf : fits o.dst n = true) (hr : ∀ k, R (bf o.dst (.ext (.slice k 0 (rows.length + new.length) none)) L) B (aH e 1 (.slice k 0 (rows.length + new.length) none) (rows ++ new.map gx) :: G2)) : ca P K E ops o L B G m n R := by
 refine ⟨fun κ h L0 r M => ?_⟩
 obtain ⟨⟨d, hv⟩, hrl⟩ := M.aS.all _ (List.mem_append_right _ hG.mem)
 have hlen : (byteCells new).length = new.length := by simp [byteCells]
 have happ : dM P e (.str j c) h = some (new.length, byteCells new) := by
  unfold dM
  rw [(cA hX.ax he).2]
  show ae true _ _ = _
  rw [bcT, hcode, hj]
 refine gy.Bd hX.ax ho hc ha h0 (by simp only [dY, h2, lD hX.ax ht2]) ht he (hX.zero.look hz) hzl he0 rfl hb hb0 (aF r hx) (aF r hy) hv happ (by rw [hlen, Nat.mul_one]) (by rw [bm]; exact decide_eq_false (by omega)) hroom M.wf (bc r hw) hf ?_
 intro k h' p
 have hnl : ∀ r ∈ new.map gx, r.length = 1 := by
  intro r hr
  obtain ⟨q, _, rfl⟩ := List.mem_map.1 hr
  rfl
 have p' : ft h e 1 (rows.length + (new.map gx).length) (rows.flatten ++ (new.map gx).flatten) d k h' := by
  rw [List.length_map, jD]; exact p
 have c := ft.aS hv hrl hnl p'
 rw [List.length_map] at c
 exact ⟨κ, _, _, _, cW κ, r.put (.ext _) o.dst, M.mB hG c hn, hr k⟩
theorem qsd {cl : Call} {x : Operand} {k off c : Nat} (ho : o.op = .call cl) (hc : cl.callee = .builtin .unsafeSliceData) (hx : cl.args = #[x]) (hs : cM P L x = some (.slice k off c none)) (h0 : 0 < c) (hw : aU ops o L = some true) (hf : fits o.dst n = true) (hr : R (bf o.dst (.ext (.ptr k off)) L) B G) : ca P K E ops o L B G m n R :=
 qv hw hf (fun κ h L0 r M => cD.mk ho fun ev ha d ty ps aft g => by
  have hb : Nat.beq c 0 = false := by rw [bm]; exact decide_eq_false (by omega)
  simp only [bO, hc, hx, List.map_cons, List.map_nil, dc, evS ha (aF r hs), hb, bcF]) hr
theorem qus {cl : Call} {x y : Operand} {t e k c : Nat} {bs : List Nat} (ho : o.op = .call cl) (hc : cl.callee = .builtin .unsafeString) (ha : cl.args = #[x, y]) (h0 : cl.argTypes[0]? = some t) (hpt : P.underlying t = some (.pointer e)) (he : P.underlying e = some (.int .u8)) (hce : P.cellsOf e = 1) (hne : Nat.beq e 0 = false)
  (hx : cM P L x = some (.ptr k 0)) (hy : cM P L y = some (.int .i64 (.ofNat c))) (hcl : c = bs.length) (hG : aI G (aH e 1 (.slice k 0 c none) (bs.map gx)) G2) (hpos : 0 < bs.length) (hmax : bs.length ≤ 9223372036854775807) (hb : ∀ b ∈ bs, b < 256) (hn : gv B = true) (hw : aU ops o L = some true) (hf : fits o.dst n = true)
  (hr : R (bf o.dst (.ext (.str bs.length (aO bs 0))) L) B G2) : ca P K E ops o L B G m n R := by
 subst hcl
 refine ⟨fun κ h L0 r M => ?_⟩
 obtain ⟨⟨d, hv⟩, hrl⟩ := M.aS.all _ (List.mem_append_right _ hG.mem)
 rw [List.length_map, jD] at hv
 generalize hbs : byteCells bs = l at hv
 have hll : l.length = bs.length := by rw [← hbs]; simp [byteCells]
 cases hv with
 | @own _ _ _ LL _ hg hl hd =>
  rw [List.drop_zero] at hd
  subst hd
  refine gy.val (v := .str bs.length (aO bs 0)) (h' := h.put k (.cells LL e true false)) (fun ev hag => ?_) (bc r hw) hf ?_
  ·obtain ⟨dd, op, ty, ps, aft, g⟩ := o
   simp only at ho
   subst ho
   have n0 : Nat.beq bs.length 0 = false := by rw [bm]; exact decide_eq_false (by omega)
   have n1 : Nat.ble bs.length 9223372036854775807 = true := by rw [eE]; exact decide_eq_true hmax
   have n2 : eV (jz LL 0) bs.length (fun l => ob (dq l 0) fun c => some (Out.val (.str bs.length c) (h.put k (.cells LL e true false)))) = some (Out.val (.str bs.length (aO bs 0)) (h.put k (.cells LL e true false))) := by
    rw [br, cZ, List.drop_zero, if_pos (by rw [hll]; exact Nat.le_refl _), List.take_of_length_le (by rw [hll]; exact Nat.le_refl _), ← hbs, iD 0 hb, obS]
   have n3 : (ad.int .i64 (.ofNat bs.length)).isNat = some bs.length := rfl
   simp only [bO, hc, ha, List.map_cons, List.map_nil, dc, evS hag (aF r hx), evS hag (aF r hy), n3, obS, gV, h0, n0, bcF, n1, bcT, ad.dv, hpt, he, bR hg, hne, hce, Nat.beq_refl, n2]
  ·refine ⟨κ, _, _, _, cW κ, r.put (.ext _) o.dst, M.mB (C' := []) hG ?_ hn, hr⟩
   have p := pT M.wf (.cells LL e true false) (M.wf.lt hg)
   refine ⟨p.wf, Nat.le_of_eq p.next.symm, fun {j o} hj hno => ?_, fun r hr => by simp at hr, .nil, fun r hr => by simp at hr⟩
   rw [p.td j (fun e => hno _ (List.mem_singleton.2 rfl) (by rw [e]; rfl))]; exact hj
theorem Nj {s t k off e ee : Nat} {sp : Bool} {x : Operand} {lc : List ad} {v : ad} (ho : o.op = .convert s t x) (hs : P.underlying s = some (.pointer ee)) (ht : P.underlying t = some .unsafePointer) (hce : Nat.beq (P.cellsOf ee) 0 = false) (hx : cM P L x = some (.ptr k off)) (hG : aI G (kB k lc e sp) G2) (hv : nth lc off = some v) (hw : aU ops o L = some true) (hf : fits o.dst n = true) (hr : R (bf o.dst (.ext (.ptr k off)) L) B G) : ca P K E ops o L B G m n R :=
 qv hw hf (fun κ h L0 r M => cD.mk ho fun ev ha d ty ps aft g => by
  have hp : h.get k = some (.cells lc e sp true) := M.aS.all _ (List.mem_append_right _ hG.mem)
  have h1 : cN P s t = none := by simp only [cN, hs]
  simp only [bO, h1, k9, ht, hs, evS ha (aF r hx), ad.dv, obS, hce, bcF, my, bR hp, hv]) hr
theorem Ni {s t k off e u : Nat} {x : Operand} {lc : List ad} (ho : o.op = .convert s t x) (hs : P.underlying s = some .unsafePointer) (ht : P.underlying t = some (.pointer u)) (hce : Nat.beq (P.cellsOf u) 0 = false) (he : Nat.beq e 0 = false) (hlies : liesAt P P.depth e (Nat.div lc.length (P.cellsOf e)) off u 1 = true) (hx : cM P L x = some (.ptr k off)) (hG : aI G (kB k lc e false) G2) (hw : aU ops o L = some true) (hf : fits o.dst n = true) (hr : R (bf o.dst (.ext (.ptr k off)) L) B G) : ca P K E ops o L B G m n R :=
 qv hw hf (fun κ h L0 r M => cD.mk ho fun ev ha d ty ps aft g => by
  have hp : h.get k = some (.cells lc e false true) := M.aS.all _ (List.mem_append_right _ hG.mem)
  have h1 : cN P s t = none := by simp only [cN, hs]
  simp only [bO, h1, k9, ht, hs, evS ha (aF r hx), ad.dv, obS, bR hp, he, bcF, hce, hlies, bcT]) hr
theorem qne {cl : Call} {x y : Operand} {f : Nat} {fn : Func} {v : ad} (ho : o.op = .call cl) (hc : cl.callee = .value x) (hx : cM P L x = some (.func f [] [])) (ha : cl.args = #[y]) (hy : cM P L y = some v) (hf : P.funcs[f]? = some fn) (hb : fn.body = none) (hor : (fn.origin == "") = true) (h1 : (fn.name == "maps.clone") = false) (h2 : (fn.name == "internal/abi.NoEscape") = true) (hw : aU ops o L = some true) (hfit : fits o.dst n = true) (hr : R (bf o.dst (.ext v) L) B G) : ca P K E ops o L B G m n R :=
 qv hw hfit (fun κ h L0 r M => cD.mk ho fun ev hag d ty ps aft g => by
  simp only [bO, hc, evS hag (aF r hx), ha, List.map_cons, List.map_nil, evS hag (aF r hy), List.nil_append, List.append_nil, oO, hf, obS, hb, yK, hor, bcT, h1, bcF, h2]) hr
theorem K8 {bo : BinOp} {t p : Nat} {x y : Operand} {a b v : ad} (ho : o.op = .binOp bo t x y p) (hx : cM P L x = some a) (hy : cM P L y = some b) (hd : ∀ lit, jK P bo t lit a b = some v) (hw : aU ops o L = some true) (hf : fits o.dst n = true) (hr : R (bf o.dst (.ext v) L) B G) : ca P K E ops o L B G m n R :=
 qv hw hf (fun κ h L0 r M => cD.mk ho fun ev ha d ty ps aft g => by
  simp only [bO, evS ha (aF r hx), evS ha (aF r hy), hd, HL.val, obS]) hr
theorem tz {cl : Call} {x y : Operand} {f i sn e : Nat} {lc : List ad} {s : Bool} {v0 : ad} (ho : o.op = .call cl) (hc : cl.callee = .value x) (hx : cM P L x = some (.func f [] [])) (ha : cl.args.toList = [y]) (hy : sO P L y = some (.sl i sn)) (hb : nth B i = some (.own lc e s)) (hf : ar P f) (hw : aU ops o L = some true) (hfit : fits o.dst n = true)
  (hs : ∀ k h, Fin E B G h → (kB k lc e s).holds h → Sp P K f [.slice k 0 sn (some sn)] h (dE v0 h)) (hr : R (bf o.dst (.ext v0) L) B G) : ca P K E ops o L B G m n R := by
 refine ⟨fun κ h L0 r M => ?_⟩
 obtain ⟨k, hk⟩ := M.own _ _ _ _ hb
 obtain ⟨w2, g1, g2⟩ := ch r hy
 have hw2 : w2 = .slice k 0 sn (some sn) := by
  cases g2 with
  | sl hk2 => rw [hk] at hk2; cases hk2; rfl
 subst hw2
 have hblk := M.aS.all _ (List.mem_append_left _ (dz hb hk))
 refine gy.sp (C.call ho hc (aF r hx) (by rw [ha]; simp only [vY, g1, obS]) hf) (bc r hw) hfit (hs k h ⟨κ, M⟩ hblk) ?_
 rintro v h' ⟨rfl, d⟩
 exact ⟨κ, _, _, _, cW κ, r.put (.ext v) o.dst, M.call (C' := []) d, hr⟩
theorem K9 {t t2 e e0 e2 w q q2 bs j jn : Nat} {s2 : Bool} {i : TI} {cl : Call} {x y : Operand} {v2 : ad} {z lc : List ad} {rows new : List (List ad)} (hX : TK P ax zl)
  (ho : o.op = .call cl) (hc : cl.callee = .builtin .append) (ha : cl.args = #[x, y]) (h0 : cl.argTypes[0]? = some t) (h2 : cl.argTypes[1]? = some t2) (ht : bN ax t = some (.slice e, q)) (ht2 : bN ax t2 = some (.slice e, q2))
  (he : bN ax e = some (i, w)) (hz : zL zl e = some z) (hzl : Nat.beq z.length w = true) (he0 : Nat.beq e 0 = false) (hw0 : Nat.beq w 0 = false) (hb : P.bytesOf e = bs) (hb0 : Nat.beq bs 0 = false)
  (hx : sO P L x = some (.sl j jn)) (hbk : nth B j = some (.own lc e0 s2)) (hlc : rows.flatten = lc) (hrl : ∀ r ∈ rows, r.length = w) (hjn : rows.length = jn) (hy : cM P L y = some v2) (hG : aI G (aH e2 w v2 new) G2) (hpos : 0 < new.length) (hnr : ∀ k, v2 ≠ .rest k) (hn : gv B = true) (hroom : (jn + new.length) * bs ≤ 140737488355328)
  (hw : aU ops o L = some true) (hf : fits o.dst n = true) (hr : ∀ k, R (bf o.dst (.ext (.slice k 0 (jn + new.length) none)) L) B (aH e w (.slice k 0 (jn + new.length) none) (rows ++ new) :: G)) : ca P K E ops o L B G m n R := by
 subst hlc hjn
 refine ⟨fun κ h L0 r M => ?_⟩
 have hown2 := M.aS.all _ (List.mem_append_right _ hG.mem)
 obtain ⟨k2, off2, cap2, rfl, hrow⟩ := aH.row hown2 hpos hnr
 have hnl := hown2.2
 obtain ⟨k, hk⟩ := M.own _ _ _ _ hbk
 obtain ⟨w2, g1, g2⟩ := ch r hx
 have hw2 : w2 = .slice k 0 rows.length (some rows.length) := by
  cases g2 with
  | sl hk2 => rw [hk] at hk2; cases hk2; rfl
 subst hw2
 have hblk : h.get k = some (.cells rows.flatten e0 s2 true) := M.aS.all _ (List.mem_append_left _ (dz hbk hk))
 have hv : App h e w (.slice k 0 rows.length (some rows.length)) rows.length rows.flatten none := .full hblk (bQ hrl) (by rw [List.drop_zero, List.take_of_length_le (by rw [bQ hrl]; exact Nat.le_refl _)])
 refine gy.append hX.ax ho hc ha h0 h2 ht ht2 he (hX.zero.look hz) hzl he0 hw0 hb hb0 g1 (aF r hy) hv hrow (by rw [bm]; exact decide_eq_true (bQ hnl)) (by rw [bm]; exact decide_eq_false (by omega)) hroom M.wf (bc r hw) hf ?_
 intro k3 h' p
 have c : fL [] h [aH e w (.slice k3 0 (rows.length + new.length) none) (rows ++ new)] h' := by
  refine ⟨p.wf, p.next, fun {j o} hj _ => ?_, ?_, List.pairwise_singleton _ _, ?_⟩
  ·rw [p.td j (by simp) ?_]
   ·exact hj
   ·rintro rfl
    rw [p.fresh] at hj; cases hj
  ·intro r hr
   simp only [List.mem_singleton] at hr
   subst hr
   refine ⟨⟨some k3, ?_⟩, fun r hr => ?_⟩
   ·have := p.app
    rw [← List.flatten_append, ← List.length_append] at this
    rw [← List.length_append]
    exact this
   ·rcases List.mem_append.1 hr with hr | hr
    ·exact hrl r hr
    ·exact hnl r hr
  ·intro r hr j hj
   simp only [List.mem_singleton] at hr
   subst hr
   have hj : k3 = j := by simpa [aH, th] using hj
   subst hj
   exact .inr p.fresh
 exact ⟨κ, _, _, _, cW κ, r.put (.ext _) o.dst, M.call c, hr k3⟩
theorem Nh {t e u bX j w : Nat} {x y : Operand} {kd : IntKind} {cs : List ad} {v : ad} {ti : TI} (hX : TK P ax zl) (ho : o.op = .index t x y) (ht : bN ax t = some (.array bX e, u)) (he : bN ax e = some (ti, w)) (hag : ti.agg = false) (hx : cM P L x = some (.agg cs)) (hy : cM P L y = some (.int kd (.ofNat j))) (hj : Nat.blt j bX = true) (hv : nth cs (Nat.mul j w) = some v) (hw : aU ops o L = some true) (hf : fits o.dst n = true) (hr : R (bf o.dst (.ext v) L) B G) : ca P K E ops o L B G m n R :=
 qv hw hf (fun κ h L0 r M => cD.mk ho fun ev ha d ty ps aft g => by
  obtain ⟨hu, inf, hi⟩ := nM hX.ax ht
  have hel : cg P t = true := by simp only [cg, hu, hi]
  have hnat : (ad.int kd (.ofNat j)).isNat = some j := rfl
  have hwid := (cA hX.ax he).2
  have hpart : jS P e cs (Nat.mul j w) = some v := by
   have := iM hX.ax he
   rw [hag] at this
   unfold jS
   rw [this]
   exact hv
  simp only [bO, hel, bcT, evS ha (aF r hy), hnat, obS, hu, evS ha (aF r hx), ad.isAgg, hj, hwid, hpart, HL.val]) hr
theorem Gn {t e e' q w nb : Nat} {z : Int} {i : TI} {x y : Operand} {v : ad} {kd : IntKind} {rows : List (List ad)} {r : List ad} (hX : TK P ax zl) (ho : o.op = .indexAddr t x y) (ht : bN ax t = some (.slice e, q)) (he : bN ax e = some (i, w)) (hx : cM P L x = some v) (hy : cM P L y = some (.int kd z)) (h0 : 0 ≤ z)
  (hG : aI G (aH e' w v rows) G2) (hr : rows[z.toNat]? = some r) (hB : wW B (.tmp r) = some (nb, B')) (hw : aU ops o L = some true) (hf : fits o.dst n = true) (hk : R (bf o.dst (.ptr nb 0) L) B' G) : ca P K E ops o L B G m n R := by
 obtain ⟨j, rfl⟩ := Int.eq_ofNat_of_zero_le h0
 exact fQ hX ho ht he hx hy hG hr hB hw hf hk
end
end
end Go.HL
namespace Go.HL
open Go
noncomputable section
section
variable {P : Program} {K : ai} {E : eT} {ops : Array Oper} {o : Oper} {l : List Oper} {L L' : SL} {B B' : List cj} {G G' G2 : List Part} {m n : Nat} {R : SL → List cj → List Part → Prop} {Q : Ex → St → Prop} {a b c : Code} {ax : iF} {zl : List (Nat × List ad)} {h h' : Heap}
/-! ## Strings -/
theorem AO : ∀ {l : List Nat}, (∀ x ∈ l, x < 256) → aO l 0 < 256 ^ l.length := by
 intro l
 induction l with
 | nil => intro _; decide
 | cons x l ih =>
  intro h
  have hx := h x (by simp)
  have := ih fun y hy => h y (by simp [hy])
  have e : aO (x :: l) 0 = aO l (0 * 256 + x) := rfl
  rw [e, kf, Nat.zero_mul, Nat.zero_add, List.length_cons, Nat.pow_succ]
  have h2 : x * 256 ^ l.length + 256 ^ l.length ≤ 256 * 256 ^ l.length := by
   rw [← Nat.succ_mul]; exact Nat.mul_le_mul_right _ (by omega)
  rw [Nat.mul_comm (256 ^ l.length)]
  omega
theorem qG (a b : List Nat) : aO (a ++ b) 0 = aO a 0 * 256 ^ b.length + aO b 0 := by
 rw [xJ, Nat.pow_mul]
theorem wi {b : List Nat} (h : ∀ x ∈ b, x < 256) {l k : Nat} (hl : l ≤ k) (hk : k ≤ b.length) : pP b.length (aO b 0) l k = .str ((b.take k).drop l).length (aO ((b.take k).drop l) 0) := by
 have e1 : aO b 0 = aO (b.take k) 0 * 256 ^ (b.drop k).length + aO (b.drop k) 0 := by rw [← qG, List.take_append_drop]
 have e2 := AO (l := b.drop k) fun x hx => h x (List.mem_of_mem_drop hx)
 have e3 : aO (b.take k) 0 = aO ((b.take k).take l) 0 * 256 ^ ((b.take k).drop l).length + aO ((b.take k).drop l) 0 := by rw [← qG, List.take_append_drop]
 have e4 := AO (l := (b.take k).drop l) fun x hx => h x (List.mem_of_mem_take (List.mem_of_mem_drop hx))
 have l1 : (b.drop k).length = b.length - k := List.length_drop
 have l2 : ((b.take k).drop l).length = k - l := by rw [List.length_drop, List.length_take, Nat.min_eq_left hk]
 unfold pP
 rw [l2] at e3 e4 ⊢
 rw [l1] at e1 e2
 congr 1
 show aO b 0 / 2 ^ (8 * (b.length - k)) % 2 ^ (8 * (k - l)) = _
 rw [Nat.pow_mul, Nat.pow_mul, show (2 : Nat) ^ 8 = 256 by decide, e1]
 have hp : 0 < 256 ^ (b.length - k) := Nat.pow_pos (by decide)
 rw [Nat.mul_comm, Nat.mul_add_div hp, Nat.div_eq_of_lt e2, Nat.add_zero, e3, Nat.mul_comm, Nat.mul_add_mod, Nat.mod_eq_of_lt e4]
def B1 (P : Program) (L : SL) (y : Option Operand) (d : Nat) : Option Nat := match y with
 | none => some d
 | some y => match cM P L y with
  | some (.int _ (.ofNat n)) => some n
  | _ => none
theorem vT {κ : j0} {L0 : c6} (r : di κ L L0) {ev : Env} (ha : fu L0 ev) {y : Option Operand} {d top k : Nat} (hb : B1 P L y d = some k) (hk : k ≤ top) (hd : y = none → d = k) : bZ (y.map (ev.eval P)) top d = some k := by
 cases y with
 | none => cases hb; rfl
 | some y =>
  unfold B1 at hb
  simp only at hb
  split at hb
  ·rename_i kd nn e
   cases hb
   have := evS ha (aF r e)
   show dD (ev.eval P y) top = some _
   rw [this]
   unfold dD
   show ae (Nat.ble _ top) _ none = _
   rw [show Nat.ble _ top = true from by rw [eE]; exact decide_eq_true hk]; rfl
  ·cases hb
theorem V.Lj {κ : j0} {L0 : c6} {t u lo hi : Nat} {x : Operand} {yl yh : Option Operand} {bs r : List Nat} (hX : TK P ax zl) (ho : o.op = .slice t x yl yh none) (ht : bN ax t = some (.str, u)) (hx : cM P L x = some (.str bs.length (aO bs 0))) (hh : B1 P L yh bs.length = some hi) (hl : B1 P L yl 0 = some lo) (h1 : lo ≤ hi) (h2 : hi ≤ bs.length) (hb : ∀ x ∈ bs, x < 256) (hr : (bs.take hi).drop lo = r) (rr : di κ L L0) (h : Heap) : cD P o L0 h (.str r.length (aO r 0)) h :=
 cD.mk ho fun ev ha d ty ps aft g => by
  have hu := lD hX.ax ht
  have hel : cg P t = true := by simp only [cg, hu]
  have e1 := vT rr ha hh h2 (fun e => by subst e; exact Option.some.inj hh)
  have e2 := vT rr ha hl h1 (fun e => by subst e; exact Option.some.inj hl)
  simp only [bO, hel, bcT, evS ha (aF rr hx), iy, hu, Option.map_none, e1, e2, obS, wi hb h1 h2, hr, HL.val]
theorem Ei {t u lo hi : Nat} {x : Operand} {yl yh : Option Operand} {bs r : List Nat} (hX : TK P ax zl) (ho : o.op = .slice t x yl yh none) (ht : bN ax t = some (.str, u)) (hx : cM P L x = some (.str bs.length (aO bs 0))) (hh : B1 P L yh bs.length = some hi) (hl : B1 P L yl 0 = some lo) (h1 : lo ≤ hi) (h2 : hi ≤ bs.length) (hb : ∀ x ∈ bs, x < 256) (hr : (bs.take hi).drop lo = r) (hw : aU ops o L = some true) (hf : fits o.dst n = true)
  (hk : R (bf o.dst (.ext (.str r.length (aO r 0))) L) B G) : ca P K E ops o L B G m n R :=
 qv hw hf (fun κ h L0 rr M => V.Lj hX ho ht hx hh hl h1 h2 hb hr rr h) hk
def oM (k off c j w : Nat) : ad := .slice k (eX off j c w) (c - j) (some (c - j))
theorem V.MJ {κ : j0} {L0 : c6} {t e w q k off c j : Nat} {i : TI} {x y : Operand} {kd : IntKind} (hX : TK P ax zl) (ho : o.op = .slice t x (some y) none none) (ht : bN ax t = some (.slice e, q)) (he : bN ax e = some (i, w)) (hx : cM P L x = some (.slice k off c (some c))) (hy : cM P L y = some (.int kd (.ofNat j))) (hj : j ≤ c) (rr : di κ L L0) (h : Heap) : cD P o L0 h (oM k off c j w) h :=
 cD.mk ho fun ev ha d ty ps aft g => by
  have hslice := (c7 hX.ax ht).1
  obtain ⟨inf, hinf⟩ := (c7 hX.ax ht).2
  have hwid := (cA hX.ax he).2
  have hel : cg P t = true := by simp only [cg, hslice, hinf]
  have hb1 : bZ (some (.int kd (.ofNat j))) c 0 = some j := by
   show dD (.int kd (.ofNat j)) c = some j
   unfold dD
   show ae (Nat.ble j c) (some j) none = some j
   rw [show Nat.ble j c = true from by rw [eE]; exact decide_eq_true hj]; rfl
  have hb2 : bZ none c c = some c := rfl
  simp only [bO, hel, bcT, evS ha (aF rr hx), Option.map_some, Option.map_none, evS ha (aF rr hy), iy, hslice, hb1, hb2, obS, hwid, HL.val]
  rfl
theorem rd.full {k off c j w : Nat} {rows : List (List ad)} (f : (rd (.slice k off c (some c)) w rows).holds h) (hj : j ≤ c) : (rd (oM k off c j w) w (rows.drop j)).holds h := by
 have hlen : c = rows.length := by
  have := f.slice.len
  simpa [dA] using this
 refine ⟨⟨?_, fun i r hr => ?_⟩, fun k' hk' => ?_⟩
 ·show some (c - j) = _
  rw [List.length_drop, hlen]
 ·rw [List.getElem?_drop] at hr
  have hi : j + i < rows.length := (List.getElem?_eq_some_iff.1 hr).1
  obtain ⟨k2, off2, cap, e, hrow⟩ := f.slice.row (j + i) r hr
  injection e with e1 e2
  subst e1 e2
  refine ⟨k, eX off j c w, some (c - j), ?_, ?_⟩
  ·unfold oM; rw [List.length_drop, ← hlen]
  ·have hne : Nat.beq j c = false := by rw [bm]; exact decide_eq_false (by omega)
   have : Nat.add (eX off j c w) (Nat.mul i w) = Nat.add off (Nat.mul (j + i) w) := by
    unfold eX
    rw [hne]
    simp only [bcF, Nat.add_eq, Nat.mul_eq, Nat.add_mul]
    omega
   rw [this]; exact hrow
 ·exact f.live k' (by simpa [Ac, oM] using hk')
theorem Ls {cl : Call} {x y : Operand} {k j : IntKind} {a b : Int} (ho : o.op = .call cl) (hc : cl.callee = .builtin .max) (ha : cl.args = #[x, y]) (hx : cM P L x = some (.int k a)) (hy : cM P L y = some (.int j b)) (hw : aU ops o L = some true) (hf : fits o.dst n = true) (hr : R (bf o.dst (.ext (.int k (max a b))) L) B G) : ca P K E ops o L B G m n R :=
 qv hw hf (fun κ h L0 rr M => cD.mk ho fun ev hag d ty ps aft g => by
  have e : ae (FZ a b) b a = max a b := by
   rw [lY]
   by_cases hab : a < b
   ·rw [decide_eq_true hab, bcT]; omega
   ·rw [decide_eq_false hab, bcF]; omega
  simp only [bO, hc, ha, List.map_cons, List.map_nil, dc, evS hag (aF rr hx), evS hag (aF rr hy), ad.isInt, obS, e]) hr
end
end
end Go.HL
namespace Go.HL
open Go
section
variable {P : Program} {K : ai} {ax : iF} {zl : List (Nat × List ad)} {E : eT} {ops : Array Oper} {o : Oper} {L : SL} {B B' : List cj} {G : List Part} {m n : Nat} {R : SL → List cj → List Part → Prop} {pl : List Nat} {al : List AX} {RA : List AX → SL → List cj → List Part → Prop}
theorem gp.eF (i : Nat) (p : Nat → Part) {lc : List ad} {e : Nat} {s : Bool} {L2 : Nat → SL} (hb : nth B i = some (.own lc e s)) (hp : ∀ k, nH k lc e s (p k)) (hL : ∀ k, jr i k L some = some (L2 k)) (hB : sj B i .gone some = some B') (hw : ∀ k, gp P K E ax ops pl al (L2 k) B' (p k :: G) m n RA) : gp P K E ax ops pl al L B G m n RA := by
 refine ⟨fun κ h L0 al0 r M ha => ?_⟩
 obtain ⟨k, hk⟩ := M.own _ _ _ _ hb
 obtain ⟨L', h1, h2⟩ := eM hk r (hL k)
 cases h1
 rw [kS] at hB
 cases hB
 exact (hw k).run κ h L0 al0 h2 (M.eF hb hk ((hp k).holds h) (hp k).dG) ha
theorem gp.JJ {i d : Nat} {v : ad} (hi : ops[i]? = some o) (hc : aB P o = false) (hr : bY P o = true) (hd : o.dst = some d) (hw : aU ops o L = some true) (hf : fits o.dst n = true) (hs : ad.beq v v = true) (hv : ∀ κ L0, di κ L L0 → ∀ h, cD P o L0 h v h) (hk : gp P K E ax ops pl (.iI i :: al) (bf o.dst (.ext v) L) B G m n RA) : gp P K E ax ops (i :: pl) al L B G m n RA := by
 refine ⟨fun κ h L0 al0 r M ha => WD.cons hi (gy.mono ((qv (R := fun L' B' G' => L' = bf o.dst (.ext v) L ∧ B' = B ∧ G' = G) hw hf (fun κ h L0 r _ => hv κ L0 r h) ⟨rfl, rfl, rfl⟩).run κ h L0 r M) ?_)⟩
 rintro L1 h1 ⟨κ', L', B', G', ⟨t, rfl⟩, r', M', rfl, rfl, rfl⟩
 refine ⟨.read i o L0 v :: al0, ?_, hk.run _ h1 L1 _ r' M' ⟨⟨rfl, hs, fun h2 _ _ => hv κ L0 r h2⟩, ha.more⟩⟩
 have hl : fY (bf o.dst (.ext v) L) d = some (.ext v) := by
  rw [hd]
  show ae (Nat.beq d d) (some (SV.ext v)) _ = _
  rw [Nat.beq_refl]; rfl
 obtain ⟨u, g1, g2⟩ := r'.look hl
 cases g2
 unfold mK
 rw [hc, hr, bcF, bcT, hd]
 simp only [bc r hw, g1]
theorem gp.sub {i d t u lo hi : Nat} {x : Operand} {yl yh : Option Operand} {bs r : List Nat} (hX : TK P ax zl) (hi0 : ops[i]? = some o) (hc : aB P o = false) (hrd : bY P o = true) (hd : o.dst = some d) (ho : o.op = .slice t x yl yh none) (ht : bN ax t = some (.str, u)) (hx : cM P L x = some (.str bs.length (aO bs 0))) (hh : B1 P L yh bs.length = some hi) (hl : B1 P L yl 0 = some lo) (h1 : lo ≤ hi) (h2 : hi ≤ bs.length) (hb : ∀ x ∈ bs, x < 256) (hr : (bs.take hi).drop lo = r) (hw : aU ops o L = some true) (hf : fits o.dst n = true)
  (hk : gp P K E ax ops pl (.iI i :: al) (bf o.dst (.ext (.str r.length (aO r 0))) L) B G m n RA) : gp P K E ax ops (i :: pl) al L B G m n RA :=
 .JJ hi0 hc hrd hd hw hf (suB rfl) (fun _ _ rr h => V.Lj hX ho ht hx hh hl h1 h2 hb hr rr h) hk
theorem gp.MJ {d t e w q k off c j p : Nat} {i : TI} {x y : Operand} {kd : IntKind} (hX : TK P ax zl) (hi0 : ops[p]? = some o) (hc : aB P o = false) (hrd : bY P o = true) (hd : o.dst = some d) (ho : o.op = .slice t x (some y) none none) (ht : bN ax t = some (.slice e, q)) (he : bN ax e = some (i, w)) (hx : cM P L x = some (.slice k off c (some c))) (hy : cM P L y = some (.int kd (.ofNat j))) (hj : j ≤ c) (hw : aU ops o L = some true) (hf : fits o.dst n = true)
  (hk : gp P K E ax ops pl (.iI p :: al) (bf o.dst (.ext (oM k off c j w)) L) B G m n RA) : gp P K E ax ops (p :: pl) al L B G m n RA :=
 .JJ hi0 hc hrd hd hw hf (suB rfl) (fun _ _ rr h => V.MJ hX ho ht he hx hy hj rr h) hk
theorem ji {p : Prop} {a : Nat} (b : Nat) (he : Gc P ops o L n = some p) (hp : p = ((a : Int) = (b : Int))) (h1 : a = b → R (bf o.dst (.ext (.bool true)) L) B G) (h0 : a ≠ b → R (bf o.dst (.ext (.bool false)) L) B G) : ca P K E ops o L B G m n R := by
 subst hp
 exact qc he (fun e => h1 (Int.ofNat.inj e)) fun e => h0 fun e' => e (congrArg Int.ofNat e')
end
end Go.HL
namespace Go.HL
open Go
section
variable {P : Program} {K : ai} {ax : iF} {zl : List (Nat × List ad)} {E : eT} {ops : Array Oper} {o : Oper} {L : SL} {B B' : List cj} {G G2 : List Part} {m n : Nat} {pl : List Nat} {al : List AX} {RA : List AX → SL → List cj → List Part → Prop}
def iH : List cj → List cj
 | [] => []
 | b :: B => match b with
  | .tmp _ => .gone :: iH B
  | .own l e s => .own l e s :: iH B
  | .ro l => .ro l :: iH B
  | .gone => .gone :: iH B
theorem wS : ∀ B : List cj, (iH B).length = B.length
 | [] => rfl
 | b :: B => by cases b <;> simp [iH, wS B]
theorem se : ∀ (B : List cj) (κ : j0), bj (iH B) κ = bj B κ
 | [], κ => rfl
 | b :: B, [] => by cases b <;> rfl
 | b :: B, p :: κ => by
  have ih := se B κ
  cases b with
  | own l e s => show kB p.1 l e s :: bj (iH B) κ = kB p.1 l e s :: bj B κ; rw [ih]
  | ro l => exact ih
  | tmp l => exact ih
  | gone => exact ih
theorem nL : ∀ {B : List cj} {i : Nat} {b : cj}, nth (iH B) i = some b → b = .gone ∨ nth B i = some b ∧ ∀ l, b ≠ .tmp l
 | [], i, b, h => by cases i <;> cases h
 | c :: B, 0, b, h => by
  cases c with
  | own l e s => cases h; exact .inr ⟨rfl, fun _ e => by cases e⟩
  | ro l => cases h; exact .inr ⟨rfl, fun _ e => by cases e⟩
  | tmp l => cases h; exact .inl rfl
  | gone => cases h; exact .inl rfl
 | c :: B, i + 1, b, h => by
  have : nth (iH B) i = some b := by cases c <;> exact h
  exact nL (B := B) (i := i) this
theorem Mem.iH {κ : j0} {h : Heap} (M : Mem E κ B G h) : Mem E κ (HL.iH B) G h := by
 refine ⟨by rw [se]; exact M.aS, M.pre, by rw [wS]; exact M.len, ?_, ?_, ?_⟩
 ·intro i l e s hb
  rcases nL hb with h | ⟨h, _⟩
  ·cases h
  ·exact M.own i l e s h
 ·intro i l hb
  rcases nL hb with h | ⟨h, _⟩
  ·cases h
  ·exact M.ro i l h
 ·intro i l hb
  rcases nL hb with h | ⟨_, h⟩
  ·cases h
  ·exact absurd rfl (h l)
theorem gp.pI {ops : Array Oper} (hB : HL.iH B = B') (hw : gp P K E ax ops pl al L B' G m n RA) : gp P K E ax ops pl al L B G m n RA := by
 subst hB
 exact ⟨fun κ h L0 al0 r M ha => hw.run κ h L0 al0 r M.iH ha⟩
theorem V.JE {κ : j0} {L0 : c6} {h : Heap} {t e k off c j q : Nat} {ti : TI} {x : Operand} {v : ad} {rows : List (List ad)} {cap : Option Nat} (hX : TK P ax zl) (ho : o.op = .load t x) (ht : bN ax t = some (ti, q)) (hag : ti.agg = false) (hx : cM P L x = some (.ptr k (Nat.add off (Nat.mul j 1)))) (hr : rows[j]? = some [v]) (r : di κ L L0) (hh : (aH e 1 (.slice k off c cap) rows).holds h) : cD P o L0 h v h := by
 obtain ⟨k2, off2, cap2, e2, hrow⟩ := (aH.rd hh).slice.row j [v] hr
 injection e2 with e3 e4
 subst e3 e4
 exact V.Kn hX.ax ho ht hag (aF r hx) hrow rfl
theorem gp.Cn {p d t e k off c j q : Nat} {ti : TI} {x : Operand} {v : ad} {rows : List (List ad)} {cap : Option Nat} (hX : TK P ax zl) (hi0 : ops[p]? = some o) (hc : aB P o = false) (hrd : bY P o = true) (hd : o.dst = some d) (ho : o.op = .load t x) (ht : bN ax t = some (ti, q)) (hag : ti.agg = false) (hx : cM P L x = some (.ptr k (Nat.add off (Nat.mul j 1)))) (hG : aI G (aH e 1 (.slice k off c cap) rows) G2) (hr : rows[j]? = some [v]) (hs : ad.beq v v = true) (hw : aU ops o L = some true) (hf : fits o.dst n = true)
  (hk : gp P K E ax ops pl (.zI p (aH e 1 (.slice k off c cap) rows) :: al) (bf o.dst (.ext v) L) B G m n RA) : gp P K E ax ops (p :: pl) al L B G m n RA := by
 refine ⟨fun κ h L0 al0 r M ha => WD.cons hi0 (gy.mono ((qv (R := fun L' B' G' => L' = bf o.dst (.ext v) L ∧ B' = B ∧ G' = G) hw hf (fun κ h L0 r M => V.JE hX ho ht hag hx hr r (M.aS.all _ (List.mem_append_right _ hG.mem))) ⟨rfl, rfl, rfl⟩).run κ h L0 r M) ?_)⟩
 rintro L1 h1 ⟨κ', L', B', G', ⟨t, rfl⟩, r', M', rfl, rfl, rfl⟩
 refine ⟨.read p o L0 v :: al0, ?_, hk.run _ h1 L1 _ r' M' ⟨⟨rfl, hs, fun h2 hh => V.JE hX ho ht hag hx hr r hh⟩, ha.more⟩⟩
 have hl : fY (bf o.dst (.ext v) L) d = some (.ext v) := by
  rw [hd]
  show ae (Nat.beq d d) (some (SV.ext v)) _ = _
  rw [Nat.beq_refl]; rfl
 obtain ⟨u, g1, g2⟩ := r'.look hl
 cases g2
 unfold mK
 rw [hc, hrd, bcF, bcT, hd]
 simp only [bc r hw, g1]
end
end Go.HL
namespace Go.HL
open Go
theorem Row.at {h : Heap} {k off : Nat} {l : List ad} (r : Row h k off l) : ∃ o, h.cells k = some o ∧ l.length ≤ (o.1.drop off).length ∧ (o.1.drop off).take l.length = l := by
 have hr := r.load
 unfold dZ at hr
 obtain ⟨o, ho, e⟩ := aa.1 hr
 rw [br, cZ] at e
 split at e
 ·rename_i hle
  exact ⟨o, ho, hle, Option.some.inj e⟩
 ·cases e
theorem Row.of {h : Heap} {k off : Nat} {l : List ad} {o : List ad × Nat × Bool × Bool} (ho : h.cells k = some o) (h1 : l.length ≤ (o.1.drop off).length) (h2 : (o.1.drop off).take l.length = l) : Row h k off l := by
 constructor
 unfold dZ
 rw [ho, obS, br, cZ, if_pos h1, h2]
theorem Row.cat {h : Heap} {k off : Nat} {a b : List ad} (ra : Row h k off a) (rb : Row h k (off + a.length) b) : Row h k off (a ++ b) := by
 obtain ⟨o, ho, a1, a2⟩ := ra.at
 obtain ⟨o2, ho2, b1, b2⟩ := rb.at
 rw [ho] at ho2
 cases ho2
 rw [← List.drop_drop] at b1 b2
 refine .of ho (by rw [List.length_drop] at b1; rw [List.length_append]; omega) ?_
 rw [List.length_append, List.take_add, a2, b2]
theorem rd.rows {h : Heap} {v : ad} {w : Nat} {rows : List (List ad)} (a : (rd v w rows).holds h) (h0 : 0 < rows.length) (hw : ∀ r ∈ rows, r.length = w) : ∃ k off cap, v = .slice k off rows.length cap ∧ Row h k off rows.flatten := by
 obtain ⟨k, off, cap, e, _⟩ := a.slice.row 0 _ (List.getElem?_eq_getElem h0)
 refine ⟨k, off, cap, e, ?_⟩
 have key : ∀ n, n ≤ rows.length → 0 < n → Row h k off (rows.take n).flatten := by
  intro n
  induction n with
  | zero => intro _ h; cases h
  | succ n ih =>
   intro hn _
   obtain ⟨k2, off2, cap2, e2, hrow⟩ := a.slice.row n _ (List.getElem?_eq_getElem (by omega))
   rw [e] at e2
   cases e2
   have ht : rows.take (n + 1) = rows.take n ++ [rows[n]] := by rw [List.take_add_one, List.getElem?_eq_getElem (by omega)]; rfl
   have hf : (rows.take n).flatten.length = n * w := by rw [bQ fun r hr => hw r (List.mem_of_mem_take hr), List.length_take, Nat.min_eq_left (by omega)]
   rw [ht, List.flatten_append, List.flatten_cons, List.flatten_nil, List.append_nil]
   rcases Nat.eq_zero_or_pos n with rfl | hp
   ·have : Row h k (Nat.add off (Nat.mul 0 w)) rows[0] := hrow
    rw [Nat.mul_eq, Nat.zero_mul, Nat.add_eq, Nat.add_zero] at this
    exact this
   ·refine (ih (by omega) hp).cat ?_
    rw [hf]
    exact hrow
 have := key rows.length (Nat.le_refl _) h0
 rwa [List.take_length] at this
section
variable {P : Program} {K : ai} {ax : iF} {zl : List (Nat × List ad)} {E : eT} {ops : Array Oper} {o : Oper} {L : SL} {B B' : List cj} {G G2 : List Part} {m n : Nat} {R : SL → List cj → List Part → Prop}
theorem Ka {t t2 e e0 w q q2 bs j jn : Nat} {s2 : Bool} {i : TI} {cl : Call} {x y : Operand} {v2 : ad} {z lc : List ad} {rows new : List (List ad)} (hX : TK P ax zl)
  (ho : o.op = .call cl) (hc : cl.callee = .builtin .append) (ha : cl.args = #[x, y]) (h0 : cl.argTypes[0]? = some t) (h2 : cl.argTypes[1]? = some t2) (ht : bN ax t = some (.slice e, q)) (ht2 : bN ax t2 = some (.slice e, q2))
  (he : bN ax e = some (i, w)) (hz : zL zl e = some z) (hzl : Nat.beq z.length w = true) (he0 : Nat.beq e 0 = false) (hw0 : Nat.beq w 0 = false) (hb : P.bytesOf e = bs) (hb0 : Nat.beq bs 0 = false)
  (hx : sO P L x = some (.sl j jn)) (hbk : nth B j = some (.own lc e0 s2)) (hlc : rows.flatten = lc) (hrl : ∀ r ∈ rows, r.length = w) (hjn : rows.length = jn) (hy : cM P L y = some v2) (hro : Ro E.C E.h (rd v2 w new)) (hnl : ∀ r ∈ new, r.length = w) (hpos : 0 < new.length) (hn : gv B = true) (hroom : (jn + new.length) * bs ≤ 140737488355328)
  (hw : aU ops o L = some true) (hf : fits o.dst n = true) (hr : ∀ k, R (bf o.dst (.ext (.slice k 0 (jn + new.length) none)) L) B (aH e w (.slice k 0 (jn + new.length) none) (rows ++ new) :: G)) : ca P K E ops o L B G m n R := by
 subst hlc hjn
 refine ⟨fun κ h L0 r M => ?_⟩
 obtain ⟨k2, off2, cap2, rfl, hrow⟩ := rd.rows (hro.at M.aS) hpos hnl
 obtain ⟨k, hk⟩ := M.own _ _ _ _ hbk
 obtain ⟨w2, g1, g2⟩ := ch r hx
 have hw2 : w2 = .slice k 0 rows.length (some rows.length) := by
  cases g2 with
  | sl hk2 => rw [hk] at hk2; cases hk2; rfl
 subst hw2
 have hblk : h.get k = some (.cells rows.flatten e0 s2 true) := M.aS.all _ (List.mem_append_left _ (dz hbk hk))
 have hv : App h e w (.slice k 0 rows.length (some rows.length)) rows.length rows.flatten none := .full hblk (bQ hrl) (by rw [List.drop_zero, List.take_of_length_le (by rw [bQ hrl]; exact Nat.le_refl _)])
 refine gy.append hX.ax ho hc ha h0 h2 ht ht2 he (hX.zero.look hz) hzl he0 hw0 hb hb0 g1 (aF r hy) hv hrow (by rw [bm]; exact decide_eq_true (bQ hnl)) (by rw [bm]; exact decide_eq_false (by omega)) hroom M.wf (bc r hw) hf ?_
 intro k3 h' p
 have c : fL [] h [aH e w (.slice k3 0 (rows.length + new.length) none) (rows ++ new)] h' := by
  refine ⟨p.wf, p.next, fun {j o} hj _ => ?_, ?_, List.pairwise_singleton _ _, ?_⟩
  ·rw [p.td j (by simp) ?_]
   ·exact hj
   ·rintro rfl
    rw [p.fresh] at hj; cases hj
  ·intro r hr
   simp only [List.mem_singleton] at hr
   subst hr
   refine ⟨⟨some k3, ?_⟩, fun r hr => ?_⟩
   ·have := p.app
    rw [← List.flatten_append, ← List.length_append] at this
    rw [← List.length_append]
    exact this
   ·rcases List.mem_append.1 hr with hr | hr
    ·exact hrl r hr
    ·exact hnl r hr
  ·intro r hr j hj
   simp only [List.mem_singleton] at hr
   subst hr
   have hj : k3 = j := by simpa [aH, th] using hj
   subst hj
   exact .inr p.fresh
 exact ⟨κ, _, _, _, cW κ, r.put (.ext _) o.dst, M.call c, hr k3⟩
theorem App.none {h : Heap} {e w : Nat} {v : ad} {d : Option Nat} (hP : P.cellsOf e = w) (a : App h e w v 0 [] d) : dM P e v h = some (0, []) := by
 cases a with
 | aD => rfl
 | rest => rfl
 | full hg hl hd => simp only [dM, dZ, bR hg, obS, Nat.mul_eq, Nat.zero_mul, br, Nat.zero_le, if_true, List.take_zero]
 | own hg hl hd => simp only [dM, dZ, bR hg, obS, Nat.mul_eq, Nat.zero_mul, br, Nat.zero_le, if_true, List.take_zero]
theorem Lv {t t2 e w q q2 j jn e0 bs : Nat} {z : List ad} {i : TI} {s2 : Bool} {lc : List ad} {v2 : ad} {cl : Call} {x y : Operand} (hX : TK P ax zl)
  (ho : o.op = .call cl) (hc : cl.callee = .builtin .append) (ha : cl.args = #[x, y]) (h0 : cl.argTypes[0]? = some t) (h2 : cl.argTypes[1]? = some t2) (ht : bN ax t = some (.slice e, q)) (ht2 : bN ax t2 = some (.slice e, q2)) (he : bN ax e = some (i, w)) (hz : zL zl e = some z) (hzl : Nat.beq z.length w = true) (he0 : Nat.beq e 0 = false) (hw0 : Nat.beq w 0 = false) (hb : P.bytesOf e = bs) (hb0 : Nat.beq bs 0 = false)
  (hx : sO P L x = some (.sl j jn)) (hbk : nth B j = some (.own lc e0 s2)) (hy : cM P L y = some v2) (hro : Ro E.C E.h (aH e w v2 []))
  (hw : aU ops o L = some true) (hf : fits o.dst n = true) (hr : R (bf o.dst (.sl j jn) L) B G) : ca P K E ops o L B G m n R := by
 refine .comp hw hf (fun κ h L0 r M => ?_) hr
 obtain ⟨k, hk⟩ := M.own _ _ _ _ hbk
 obtain ⟨w2, g1, g2⟩ := ch r hx
 have hw2 : w2 = .slice k 0 jn (some jn) := by
  cases g2 with
  | sl hk2 => rw [hk] at hk2; cases hk2; rfl
 subst hw2
 obtain ⟨⟨d, happ⟩, _⟩ := hro.at M.aS
 have hz2 := App.none (P := P) (cA hX.ax he).2 happ
 refine .same (cD.mk ho fun ev hag d ty ps aft g => ?_) (.sl hk) M
 have hnn : dY P cl.argTypes = true := by simp only [dY, h2, (c7 hX.ax ht2).1]
 have hse : fD P cl.argTypes = some e := by simp only [fD, h0, (c7 hX.ax ht).1]
 simp only [bO, hc, ha, List.map_cons, List.map_nil, dc, evS hag g1, evS hag (aF r hy), hnn, hse, obS, bcT, bcF, he0, (cA hX.ax he).2, hw0, hb, hb0, hX.zero.look hz, hzl, hz2, iU, show Nat.beq 0 0 = true from rfl, HL.val]
end
end Go.HL
namespace Go.HL
open Go
noncomputable def jc (k n w : Nat) : ad := ae (Nat.beq n 1) (.rest k) (.slice k (Nat.add 0 (Nat.mul 1 w)) (Nat.sub n 1) none)
section
variable {P : Program} {K : ai} {ax : iF} {zl : List (Nat × List ad)} {E : eT} {ops : Array Oper} {o : Oper} {L : SL} {B B' : List cj} {G G2 : List Part} {m n : Nat} {pl : List Nat} {al : List AX} {RA : List AX → SL → List cj → List Part → Prop}
theorem V.Jt {κ : j0} {L0 : c6} {h : Heap} {t e w q k c : Nat} {i : TI} {x y : Operand} {rows : List (List ad)} (hX : TK P ax zl) (ho : o.op = .slice t x (some y) none none) (ht : bN ax t = some (.slice e, q)) (he : bN ax e = some (i, w)) (hx : cM P L x = some (.slice k 0 c none)) (hy : cM P L y = some (.int .i64 1)) (hc : 0 < c) (r : di κ L L0) (hh : (aH e w (.slice k 0 c none) rows).holds h) : cD P o L0 h (jc k c w) h := by
 have hslice := (c7 hX.ax ht).1
 obtain ⟨inf, hinf⟩ := (c7 hX.ax ht).2
 have hwid := (cA hX.ax he).2
 have hel : cg P t = true := by simp only [cg, hslice, hinf]
 have hb1 : ∀ y, 1 ≤ y → bZ (some (.int .i64 1)) y 0 = some 1 := by
  intro y hy
  have : Nat.ble 1 y = true := by rw [eE]; exact decide_eq_true hy
  show dD (.int .i64 1) y = some 1
  unfold dD
  show ob (qh 1) (fun i => ae (Nat.ble i y) (some i) none) = some 1
  show ae (Nat.ble 1 y) (some 1) none = some 1
  rw [this]; rfl
 have hb2 : ∀ a b, bZ none a b = some b := fun _ _ => rfl
 obtain ⟨⟨d, happ⟩, _⟩ := hh
 obtain rfl : c = rows.length := by have := happ.len; simpa [dA] using this
 cases happ with
 | @own _ _ _ LL _ hg hl hd =>
  have htop : zj P h k 0 rows.length e none = rows.length := rfl
  refine cD.mk ho fun ev ha d ty ps aft g => ?_
  have key : iy P h t (.slice k 0 rows.length none) (some (.int .i64 1)) none none = some (jc k rows.length w) := by
   unfold jc
   by_cases h1 : rows.length = 1
   ·rw [h1]
    rw [h1] at htop
    simp only [iy, hslice, hb2, htop, hb1 1 (by omega), obS]
    show ae false _ (ae (ae false true false) _ (ae true (ob (h.cells k) fun o => some (ae (Nat.beq o.2.1 e) (ad.rest k) ad.empty)) none)) = _
    simp only [bcF, bcT, bR hg, obS, Nat.beq_refl]
   ·have h3 : Nat.blt 1 rows.length = true := by rw [fe]; exact decide_eq_true (by omega)
    have h4 : Nat.beq rows.length 1 = false := by rw [bm]; exact decide_eq_false h1
    simp only [iy, hslice, hb2, htop, hb1 rows.length (by omega), obS, h3, bcT, bR hg, Nat.beq_refl, hwid, h4, bcF]
    rfl
  simp only [bO, hel, bcT, evS ha (aF r hx), Option.map_some, evS ha (aF r hy), Option.map_none, key, HL.val, obS]
theorem aH.tail {h : Heap} {e w k c : Nat} {rows : List (List ad)} (hh : (aH e w (.slice k 0 c none) rows).holds h) (hc : 0 < rows.length) : (aH e w (jc k c w) (rows.drop 1)).holds h := by
 obtain ⟨⟨d, happ⟩, hw⟩ := hh
 refine ⟨⟨d, ?_⟩, fun r hr => hw r (List.mem_of_mem_drop hr)⟩
 have hcl : c = rows.length := by have := happ.len; simpa [dA] using this
 subst hcl
 have hlen := bQ hw
 have hfl : (rows.drop 1).flatten = rows.flatten.drop w := by
  cases rows with
  | nil => cases hc
  | cons r rows =>
   have hr := hw r (by simp)
   rw [List.drop_one, List.tail_cons, List.flatten_cons, List.drop_append_of_le_length (by omega), List.drop_eq_nil_of_le (by omega), List.nil_append]
 rw [hfl, List.length_drop]
 cases happ with
 | @own _ _ _ LL _ hg hl hd =>
  unfold jc
  by_cases h1 : rows.length = 1
  ·rw [h1, Nat.beq_refl, bcT, List.drop_eq_nil_of_le (by rw [hlen, h1]; omega)]
   exact .rest hg
  ·have h4 : Nat.beq rows.length 1 = false := by rw [bm]; exact decide_eq_false h1
   rw [h4, bcF]
   refine .own hg ?_ ?_
   ·simp only [Nat.add_eq, Nat.mul_eq, Nat.one_mul, Nat.sub_eq]
    obtain ⟨q, hq⟩ : ∃ q, rows.length = q + 1 := ⟨rows.length - 1, by omega⟩
    rw [hl, hq, Nat.add_mul]; simp; omega
   ·simp only [Nat.add_eq, Nat.mul_eq, Nat.one_mul]; rw [← hd, List.drop_drop]
theorem gp.tlO {p d t e w q k c : Nat} {i : TI} {x y : Operand} {rows : List (List ad)} (hX : TK P ax zl) (hi0 : ops[p]? = some o) (hc : aB P o = false) (hrd : bY P o = true) (hd : o.dst = some d) (ho : o.op = .slice t x (some y) none none) (ht : bN ax t = some (.slice e, q)) (he : bN ax e = some (i, w)) (hx : cM P L x = some (.slice k 0 c none)) (hy : cM P L y = some (.int .i64 1)) (h0 : 0 < c) (hG : aI G (aH e w (.slice k 0 c none) rows) G2) (hw : aU ops o L = some true) (hf : fits o.dst n = true)
  (hk : gp P K E ax ops pl (.zI p (aH e w (.slice k 0 c none) rows) :: al) (bf o.dst (.ext (jc k c w)) L) B G m n RA) : gp P K E ax ops (p :: pl) al L B G m n RA := by
 have hs : ad.beq (jc k c w) (jc k c w) = true := by
  unfold jc
  cases Nat.beq c 1 with
  | true => rw [bcT]; simp [ad.beq]
  | false => rw [bcF]; exact suB rfl
 refine ⟨fun κ h L0 al0 r M ha => WD.cons hi0 (gy.mono ((qv (R := fun L' B' G' => L' = bf o.dst (.ext (jc k c w)) L ∧ B' = B ∧ G' = G) hw hf (fun κ h L0 r M => V.Jt hX ho ht he hx hy h0 r (M.aS.all _ (List.mem_append_right _ hG.mem))) ⟨rfl, rfl, rfl⟩).run κ h L0 r M) ?_)⟩
 rintro L1 h1 ⟨κ', L', B', G', ⟨t, rfl⟩, r', M', rfl, rfl, rfl⟩
 refine ⟨.read p o L0 (jc k c w) :: al0, ?_, hk.run _ h1 L1 _ r' M' ⟨⟨rfl, hs, fun h2 hh => V.Jt hX ho ht he hx hy h0 r hh⟩, ha.more⟩⟩
 have hl : fY (bf o.dst (.ext (jc k c w)) L) d = some (.ext (jc k c w)) := by
  rw [hd]
  show ae (Nat.beq d d) (some (SV.ext (jc k c w))) _ = _
  rw [Nat.beq_refl]; rfl
 obtain ⟨u, g1, g2⟩ := r'.look hl
 cases g2
 unfold mK
 rw [hc, hrd, bcF, bcT, hd]
 simp only [bc r hw, g1]
theorem w4.pI {l : List Oper} {R : SL → List cj → List Part → Prop} (hB : HL.iH B = B') (hw : w4 P K E ops l L B' G m n R) : w4 P K E ops l L B G m n R := by
 subst hB
 exact ⟨fun κ h L0 r M => hw.run κ h L0 r M.iH⟩
end
end Go.HL
