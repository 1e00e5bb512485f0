/- Runs of HL, the state known by signs: more rules. No statement of the seat stands here. -/
import Derived.Test.YtngeipnhbigdmaaGreatDoorXB
set_option linter.unusedVariables false
set_option linter.unusedSimpArgs false
namespace Go.HL
open Go
noncomputable section
section
variable {P : Program} {K : ah} {E : eK} {ops : Array Oper} {o : Oper} {l : List Oper} {L L' : SL} {B B' : List bX} {G G' G2 : List Part} {m n : Nat} {R : SL → List bX → List Part → Prop} {Q : Ex → St → Prop} {a b c : Code} {aw : iO} {zl : List (Nat × List aa)} {h h' : Heap}
theorem qst {t i off e : Nat} {s : Bool} {x y : Operand} {v : aa} {lc l' new : List aa} {ty : TI × Nat} (hX : TK P aw zl) (ho : o.op = .store t x y) (ht : bY aw t = some ty) (hx : uE P L x = some (.ptr i off)) (hb : nth B i = some (.own lc e s)) (hy : cU P L y = some v) (hc : v.cells = some new) (hl : Nat.beq new.length ty.2 = true) (hov : fV lc off new some = some l') (hB : qP B i (.own l' e s) some = some B')
  (hw : aT ops o L = some true) (hf : fits o.dst n = true) (hr : R (bm o.dst (.ext bw) L) B' G) : bW P K E ops o L B G m n R := by
 refine .comp hw hf (fun κ h L0 r M => tj hX r M (sv := .ext bw) ?_) hr
 rw [ho]
 simp only [O8, hx, obS, hb, hy, hc, ht, hl, bcT]
 rw [iz] at hB
 cases hB
 rw [dn] at hov ⊢
 split at hov
 ·rename_i hle
  cases hov
  rw [if_pos hle, iz]
 ·cases hov
theorem IA {t u : Nat} {parts : Array (Nat × Operand)} {fs : List (Nat × Nat)} {ps : List (Nat × Nat × aa)} {z cs : List aa} (hX : TK P aw zl) (ho : o.op = .build t parts) (ht : bY aw t = some (.struct fs, u)) (hz : zL zl t = some z) (ha : mc aw fs = true) (hp : qY P aw L fs parts.toList = some ps) (hc : eI ps z = some cs)
  (hw : aT ops o L = some true) (hf : fits o.dst n = true) (hr : R (bm o.dst (.ext (.agg cs)) L) B G) : bW P K E ops o L B G m n R :=
 qv hw hf (fun κ h L0 r M => V.build hX.aw ho ht (hX.zero.look hz) (pX r hp) ha hc) hr
def gQ (b : Nat) : List aa := [.int .u8 (b : Int)]
theorem jX (bs : List Nat) : (bs.map gQ).flatten = byteCells bs := by
 induction bs with
 | nil => rfl
 | cons b bs ih => rw [List.map_cons, List.flatten_cons, ih]; rfl
theorem Qa {s t e e' u w q : Nat} {x : Operand} {v : aa} {bs : List Nat} (hX : TK P aw zl) (ho : o.op = .convert s t x) (hs : bY aw s = some (.slice e, u)) (he : bY aw e = some (.int .u8, q)) (ht : bY aw t = some (.str, w)) (hx : cU P L x = some v)
  (hG : aS G (aL e' 1 v (bs.map gQ)) G2) (hn : ∀ k, v ≠ .rest k) (hb : ∀ b ∈ bs, b < 256) (hw : aT ops o L = some true) (hf : fits o.dst n = true) (hr : R (bm o.dst (.ext (.str bs.length (aO bs 0))) L) B G) : bW P K E ops o L B G m n R :=
 qv hw hf (fun κ h L0 r M => by
  obtain ⟨⟨d, ha⟩, _⟩ := M.aZ.all _ (List.mem_append_right _ hG.mem)
  exact V.strOf hX.aw ho hs he ht (aF r hx) hn ha (jX bs) hb) hr
theorem Sp.mono {f : Nat} {args : List aa} {R R' : aa → Heap → Prop} (s : Sp P K f args h R) (hr : ∀ v h', R v h' → R' v h') : Sp P K f args h R' := let ⟨v, h', d, r⟩ := s; ⟨v, h', d, hr v h' r⟩
theorem NY.mono {k : Nat} {l : List aa} {e : Nat} {s : Bool} {φ ψ : aa → List aa → List Part → Prop} {h h' : Heap} {v : aa} (t : NY k l e s φ h v h') (hφ : ∀ v l' C', φ v l' C' → ψ v l' C') : NY k l e s ψ h v h' := let ⟨l', C', c, p⟩ := t; ⟨l', C', c, hφ _ _ _ p⟩
theorem lx {i k : Nat} (h : i ≤ k) (hk : k < 9223372036854775808) : cx .i64 ((k : Int) - (i : Int)) = ((k - i : Nat) : Int) := by rw [wI (by omega) (by omega)]; omega
theorem vi {a b : Nat} (h : a * b < 18446744073709551616) : cx .u64 ((a : Int) * (b : Int)) = ((a * b : Nat) : Int) := by
 rw [← Int.natCast_mul]; exact fz h
end
end
end Go.HL
namespace Go.HL
open Go
noncomputable section
section
variable {P : Program} {K : ah} {E : eK} {ops : Array Oper} {o : Oper} {l : List Oper} {L L' : SL} {B B' : List bX} {G G' G2 : List Part} {m n : Nat} {R : SL → List bX → List Part → Prop} {Q : Ex → St → Prop} {a b c : Code} {aw : iO} {zl : List (Nat × List aa)} {h h' : Heap}
def kF (i k : Nat) : SL → (SL → Option SL) → Option SL
 | [], f => f []
 | (t, v) :: l, f => match v with
  | .ext u => kF i k l fun r => f ((t, .ext u) :: r)
  | .ptr j off => ae (Nat.beq j i) (kF i k l fun r => f ((t, .ext (.ptr k off)) :: r)) (kF i k l fun r => f ((t, .ptr j off) :: r))
  | .sl j n => ae (Nat.beq j i) (kF i k l fun r => f ((t, .ext (.slice k 0 n (some n))) :: r)) (kF i k l fun r => f ((t, .sl j n) :: r))
theorem fX {κ : jq} {i k : Nat} (hk : nth κ i = some (k, 0)) : ∀ {L : SL} {L0 : cj}, dx κ L L0 → ∀ {f : SL → Option SL} {R : SL}, kF i k L f = some R → ∃ L', f L' = some R ∧ dx κ L' L0
 | [], _, .nil, f, R, h => ⟨[], h, .nil⟩
 | (t, v) :: L, _, .cons (v := w) hx ht, f, R, h => by
  cases v with
  | ext u =>
   obtain ⟨L', h1, h2⟩ := fX hk ht (show kF i k L _ = some R from h)
   exact ⟨_, h1, .cons hx h2⟩
  | ptr j off =>
   have h : ae (Nat.beq j i) (kF i k L fun r => f ((t, .ext (.ptr k off)) :: r)) (kF i k L fun r => f ((t, .ptr j off) :: r)) = some R := h
   cases hb : Nat.beq j i with
   | true =>
    rw [hb, bcT] at h
    obtain ⟨L', h1, h2⟩ := fX hk ht h
    refine ⟨_, h1, .cons ?_ h2⟩
    have := Nat.eq_of_beq_eq_true hb
    subst this
    cases hx with
    | ptr hk2 => rw [hk] at hk2; cases hk2; simp only [Nat.add_eq, Nat.zero_add]; exact .ext _
   | false =>
    rw [hb, bcF] at h
    obtain ⟨L', h1, h2⟩ := fX hk ht h
    exact ⟨_, h1, .cons hx h2⟩
  | sl j q =>
   have h : ae (Nat.beq j i) (kF i k L fun r => f ((t, .ext (.slice k 0 q (some q))) :: r)) (kF i k L fun r => f ((t, .sl j q) :: r)) = some R := h
   cases hb : Nat.beq j i with
   | true =>
    rw [hb, bcT] at h
    obtain ⟨L', h1, h2⟩ := fX hk ht h
    refine ⟨_, h1, .cons ?_ h2⟩
    have := Nat.eq_of_beq_eq_true hb
    subst this
    cases hx with
    | sl hk2 => rw [hk] at hk2; cases hk2; exact .ext _
   | false =>
    rw [hb, bcF] at h
    obtain ⟨L', h1, h2⟩ := fX hk ht h
    exact ⟨_, h1, .cons hx h2⟩
theorem Mem.gD {κ : jq} (M : Mem E κ B G h) {i k e : Nat} {lc : List aa} {s : Bool} (hb : nth B i = some (.own lc e s)) (hk : nth κ i = some (k, 0)) {p : Part} (hp : (eR k lc e s).holds h → p.holds h) (hf : ∀ j, p.dR j → j = k) : Mem E κ (B.set i .gone) (p :: G) h := by
 obtain ⟨R, h3, _, h5⟩ := gv hb hk
 have c := M.aZ.perm (B' := eR k lc e s :: (R ++ G)) (by simpa using List.Perm.append_right G h3)
 have c2 : fU E.C E.h (p :: (R ++ G)) h := by
  have hd := List.pairwise_cons.1 c.tk
  refine ⟨c.wf, c.next, c.ji, ?_, List.pairwise_cons.2 ⟨fun r hr j hj hrj => hd.1 r hr j (hf j hj) hrj, hd.2⟩, ?_⟩
  ·intro r hr
   rcases List.mem_cons.1 hr with rfl | hr
   ·exact hp (c.all _ (by simp))
   ·exact c.all r (by simp [hr])
  ·intro r hr j hj
   rcases List.mem_cons.1 hr with rfl | hr
   ·exact c.own (eR k lc e s) (by simp) j (hf j hj)
   ·exact c.own r (by simp [hr]) j hj
 refine ⟨c2.perm ?_, M.pre, by rw [List.length_set]; exact M.len, ?_, ?_, ?_⟩
 ·exact (List.Perm.cons _ (List.Perm.append_right G h5.symm)).trans List.perm_middle.symm
 ·intro j l' a b hj
  rcases jg hj with ⟨rfl, e⟩ | ⟨_, hj⟩
  ·cases e
  ·exact M.own j l' a b hj
 ·intro j l' hj
  rcases jg hj with ⟨rfl, e⟩ | ⟨_, hj⟩
  ·cases e
  ·exact M.ro j l' hj
 ·intro j l' hj
  rcases jg hj with ⟨rfl, e⟩ | ⟨_, hj⟩
  ·cases e
  ·obtain ⟨k2, o, g1, g2, g, g3, g4⟩ := M.tmp j l' hj
   exact ⟨k2, o, g1, g2, g, by simp [g3], g4⟩
structure oF (k : Nat) (lc : List aa) (e : Nat) (s : Bool) (p : Part) : Prop where
 holds : ∀ h, (eR k lc e s).holds h → p.holds h
 dR : ∀ j, p.dR j → j = k
theorem oF.own {k e e' w n : Nat} {lc : List aa} {s : Bool} {rows : List (List aa)} (hl : rows.flatten = lc) (hw : ∀ r ∈ rows, r.length = w) (hn : rows.length = n) : oF k lc e s (aL e' w (.slice k 0 n (some n)) rows) := by
 subst hn
 refine ⟨fun h hh => ⟨⟨none, .full hh (dJ hw) ?_⟩, hw⟩, fun j hj => ?_⟩
 ·rw [← hl, List.drop_zero, List.take_of_length_le (by rw [dJ hw]; exact Nat.le_refl _)]
 ·have : k = j := by simpa [aL, wA] using hj
  exact this.symm
theorem ai.gD (i : Nat) (p : Nat → Part) {lc : List aa} {e : Nat} {s : Bool} {L2 : Nat → SL} (hb : nth B i = some (.own lc e s)) (hp : ∀ k, oF k lc e s (p k)) (hL : ∀ k, kF i k L some = some (L2 k)) (hB : qP B i .gone some = some B') (hw : ∀ k, ai P K E c (L2 k) B' (p k :: G) m n Q) : ai P K E c L B G m n Q := by
 refine ⟨fun κ h L0 r M => ?_⟩
 obtain ⟨k, hk⟩ := M.own _ _ _ _ hb
 obtain ⟨L', h1, h2⟩ := fX hk r (hL k)
 cases h1
 rw [iz] at hB
 cases hB
 exact (hw k).run κ h L0 h2 (M.gD hb hk ((hp k).holds h) (hp k).dR)
theorem ax.gD {ex : Ex} (i : Nat) (p : Nat → Part) {lc : List aa} {e : Nat} {s : Bool} {L2 : Nat → SL} (hb : nth B i = some (.own lc e s)) (hp : ∀ k, oF k lc e s (p k)) (hL : ∀ k, kF i k L some = some (L2 k)) (hB : qP B i .gone some = some B') (hw : ∀ k, ax E Q ex (L2 k) B' (p k :: G) m n) : ax E Q ex L B G m n := by
 refine ⟨fun κ h L0 r M => ?_⟩
 obtain ⟨k, hk⟩ := M.own _ _ _ _ hb
 obtain ⟨L', h1, h2⟩ := fX hk r (hL k)
 cases h1
 rw [iz] at hB
 cases hB
 exact (hw k).run κ h L0 h2 (M.gD hb hk ((hp k).holds h) (hp k).dR)
theorem aV {v : aa} {w : Nat} {α : Type} {g : α → List aa} {l : List α} (f : (rd v w (l.map g)).holds h) : dO v = some l.length := by
 have := f.slice.len; rwa [List.length_map] at this
theorem Sp.known {f : Nat} {args : List aa} {v : aa} {φ : aa → Heap → Prop} (hk : K f args h = some (.ret v, h')) (hr : φ v h') : Sp P K f args h φ := ⟨v, h', .known hk, hr⟩
theorem PE {t p u c u' c' : Nat} {x y : Operand} (ho : o.op = .binOp .eql t x y p) (hx : cU P L x = some (.str u c)) (hy : cU P L y = some (.str u' c')) (hw : aT ops o L = some true) (hf : fits o.dst n = true) (h1 : (u = u' ∧ c = c') → R (bm o.dst (.ext (.bool true)) L) B G) (h0 : ¬ (u = u' ∧ c = c') → R (bm o.dst (.ext (.bool false)) L) B G) : bW P K E ops o L B G m n R := by
 by_cases hp : u = u' ∧ c = c'
 ·exact qv hw hf (fun κ h L0 r M => by have := V.Qt (h := h) ho (aF r hx) (aF r hy); rwa [decide_eq_true hp] at this) (h1 hp)
 ·exact qv hw hf (fun κ h L0 r M => by have := V.Qt (h := h) ho (aF r hx) (aF r hy); rwa [decide_eq_false hp] at this) (h0 hp)
theorem qcn {t p u c u' c' : Nat} {x y : Operand} (ho : o.op = .binOp .neq t x y p) (hx : cU P L x = some (.str u c)) (hy : cU P L y = some (.str u' c')) (hw : aT ops o L = some true) (hf : fits o.dst n = true) (h1 : ¬ (u = u' ∧ c = c') → R (bm o.dst (.ext (.bool true)) L) B G) (h0 : (u = u' ∧ c = c') → R (bm o.dst (.ext (.bool false)) L) B G) : bW P K E ops o L B G m n R := by
 by_cases hp : u = u' ∧ c = c'
 ·exact qv hw hf (fun κ h L0 r M => by have := V.MX (h := h) ho (aF r hx) (aF r hy); rwa [decide_eq_false (fun hn => hn hp)] at this) (h0 hp)
 ·exact qv hw hf (fun κ h L0 r M => by have := V.MX (h := h) ho (aF r hx) (aF r hy); rwa [decide_eq_true hp] at this) (h1 hp)
def Md (v : aa) (j : Nat) : aa := match v with
 | .slice k off _ none => .slice k off j none
 | v => v
theorem rd.take {v : aa} {w j : Nat} {rows : List (List aa)} (hl : FT v) (f : (rd v w rows).holds h) (hj : j < rows.length) : (rd (Md v j) w (rows.take j)).holds h := by
 have hlen := f.slice.len
 cases hl with
 | aC => exact absurd (Option.some.inj hlen) (by omega)
 | empty => exact absurd (Option.some.inj hlen) (by omega)
 | slice k off c =>
  refine ⟨⟨by simp [Md, dO]; omega, fun i r hr => ?_⟩, fun k2 hk2 => f.live k2 hk2⟩
  rw [List.getElem?_take] at hr
  split at hr
  ·obtain ⟨k', off', cap', e1, hrow⟩ := f.slice.2 i r hr
   cases e1
   refine ⟨k, off, none, ?_, hrow⟩
   rw [List.length_take, Nat.min_eq_left (by omega)]; rfl
  ·cases hr
theorem qlG {cl : Call} {x : Operand} {t e e' w q : Nat} {v : aa} {rows : List (List aa)} (hX : TK P aw zl) (ho : o.op = .call cl) (hc : cl.callee = .builtin .len) (hx : cl.args = #[x]) (hts : cl.argTypes[0]? = some t) (ht : bY aw t = some (.slice e, q)) (hs : cU P L x = some v) (hG : aS G (aL e' w v rows) G2) (hw : aT ops o L = some true) (hf : fits o.dst n = true) (hr : R (bm o.dst (.ext (.int .i64 (rows.length : Int))) L) B G) : bW P K E ops o L B G m n R :=
 qv hw hf (fun κ h L0 r M => V.len hX.aw ho hc hx hts ht (aF r hs) (aL.rd (M.aZ.all _ (List.mem_append_right _ hG.mem))).slice.len) hr
theorem Oz {t e w i u off bt : Nat} {z : Int} {ti : TI} {x y : Operand} {kd : IntKind} (hX : TK P aw zl) (ho : o.op = .indexAddr t x y) (ht : bY aw t = some (.array bt e, u)) (he : bY aw e = some (ti, w)) (hx : uE P L x = some (.ptr i off)) (hy : cU P L y = some (.int kd z)) (h0 : 0 ≤ z) (hj : z < (bt : Int)) (hw : aT ops o L = some true) (hf : fits o.dst n = true)
  (hr : R (bm o.dst (.ptr i (Nat.add off (Nat.mul z.toNat w))) L) B G) : bW P K E ops o L B G m n R := by
 obtain ⟨j, rfl⟩ := Int.eq_ofNat_of_zero_le h0
 refine .comp hw hf (fun κ h L0 r M => ?_) hr
 obtain ⟨v, g1, g2⟩ := cN r hx
 cases g2 with
 | @ptr _ _ k o2 hk =>
  refine .same (v := .ptr k (Nat.add (Nat.add o2 off) (Nat.mul j w))) (cK.mk ho fun ev ha d ty ps aft g => ?_) ?_ M
  ·obtain ⟨hu, inf, hi⟩ := oL hX.aw ht
   have h1 : cw P t = true := by simp only [cw, hu, hi]
   have h2 : Nat.blt j bt = true := by rw [eW]; exact decide_eq_true (by omega)
   have e1 := evS ha g1
   have e2 := evS ha (aF r hy)
   simp only [bS, h1, bcT, e1, e2, aa.isNat, tY, obS, hu, aa.dI, h2, (cP hX.aw he).2]
  ·have := Az.ptr (κ := κ) (off := Nat.add off (Nat.mul (Int.toNat (j : Int)) w)) hk
   simp only [Nat.add_eq, ← Nat.add_assoc, Int.toNat_natCast] at this ⊢
   exact this
theorem qld {t i off : Nat} {x : Operand} {b : bX} {lc m' : List aa} {w : TI × Nat} (hX : TK P aw zl) (ho : o.op = .load t x) (hx : uE P L x = some (.ptr i off)) (hb : nth B i = some b) (hl : b.cells = some lc) (ht : bY aw t = some w) (ha : w.1.agg = true) (hm : fp (jS lc off) w.2 some = some m') (hw : aT ops o L = some true) (hf : fits o.dst n = true) (hr : R (bm o.dst (.ext (.agg m')) L) B G) : bW P K E ops o L B G m n R := by
 refine .comp hw hf (fun κ h L0 r M => tj hX r M (sv := .ext (.agg m')) ?_) hr
 rw [ho]
 simp only [O8, hx, obS, hb, hl, ht, ha, bcT]
 rw [bz] at hm ⊢
 split at hm
 ·rename_i hle
  cases hm
  rw [if_pos hle]
 ·cases hm
end
end
end Go.HL
namespace Go.HL
open Go
noncomputable section
section
variable {P : Program} {K : ah} {E : eK} {ops : Array Oper} {o : Oper} {l : List Oper} {L L' : SL} {B B' : List bX} {G G' G2 : List Part} {m n : Nat} {R : SL → List bX → List Part → Prop} {Q : Ex → St → Prop} {a b c : Code} {aw : iO} {zl : List (Nat × List aa)} {h h' : Heap}
theorem Mem.mn {g : Part} (w : Wf h) (hg : g.holds h) : Mem ⟨[g], h, []⟩ [] [] [g] h := by
 refine ⟨⟨w, Nat.le_refl _, fun e _ => e, ?_, List.pairwise_singleton _ _, ?_⟩, ⟨[], rfl⟩, rfl, ?_, ?_, ?_⟩
 ·intro r hr
  have : r = g := by simpa [bg] using hr
  subst this; exact hg
 ·intro r hr j hj
  exact .inl ⟨r, by simpa [bg] using hr, hj⟩
 ·intro i l' e' s' hb
  rw [bU] at hb
  simp at hb
 all_goals
  intro i l' hb
  rw [bU] at hb
  simp at hb
theorem Sp.mn {f : Nat} {g : Part} {fn : Func} {c : Code} {args : List aa} {R : aa → Heap → Prop} (w : Wf h) (hg : g.holds h) (hK : K f args h = none) (hf : P.funcs[f]? = some fn) (hb : fn.body = some c) (hlt : Nat.blt f bd = true)
  (hm : Nat.lor (bB fn) (Nat.sub (Nat.pow 2 args.length) 1) = m) (hl : Nat.add args.length (Nat.sub fn.ntmps args.length) = n) (hn : KX args = some L)
  (hw : ai P K ⟨[g], h, []⟩ c L [] [g] m n (M7 P fn R)) : Sp P K f args h R :=
 Sp.all hK hf hb hlt hm hl (hw.run [] h _ (Bj hn) (Mem.mn w hg))
def Mx (g : Part) (φ : aa → List Part → Prop) (h : Heap) (v : aa) (h' : Heap) : Prop := ∃ C', fU [g] h C' h' ∧ φ v C'
theorem la {cl : Call} {x : Operand} {f : Nat} {args : List aa} {g : Part} {φ : aa → List Part → Prop} (ho : o.op = .call cl) (hc : cl.callee = .value x) (hx : cU P L x = some (.func f [] [])) (ha : ux P L cl.args.toList = some args) (hf : az P f) (hw : aT ops o L = some true) (hfit : fits o.dst n = true) (hG : aS G g G2) (hn : gy B = true)
  (hs : ∀ h, Fin E B G h → g.holds h → (∀ a, Ro E.C E.h a → Ro [g] h a) → (∀ a ∈ G2, Ro [g] h a) → Sp P K f args h (Mx g φ h)) (hr : ∀ v C', φ v C' → R (bm o.dst (.ext v) L) B (C' ++ G2)) : bW P K E ops o L B G m n R := by
 refine ⟨fun κ h L0 r M => ?_⟩
 have hmem : g ∈ bg B κ ++ G := List.mem_append_right _ hG.mem
 have hap : ∀ a ∈ G2, Ro [g] h a := fun a hag => by
  have hp := M.aZ.tk
  have hd := (List.pairwise_append.1 hp).2.1
  have hd2 := pG hG.perm hd
  refine ⟨M.aZ.all a (List.mem_append_right _ (hG.perm.mem_iff.2 (by simp [hag]))), fun q hq => ?_⟩
  have : q = g := by simpa using hq
  subst this
  exact ((List.pairwise_cons.1 hd2).1 a hag).symm
 refine gK.sp (C.call ho hc (aF r hx) (rX r ha) hf) (bj r hw) hfit (hs h ⟨κ, M⟩ (M.aZ.all _ hmem) (fun a ra => ra.narrow M hmem) hap) ?_
 rintro v h' ⟨C', d, hφ⟩
 exact ⟨κ, _, _, _, cI κ, r.put (.ext v) o.dst, M.ma hG d hn, hr v C' hφ⟩
theorem qV {t e q j len k off w : Nat} {i : TI} {x y : Operand} {kd : IntKind} {cap : Option Nat} (hX : TK P aw zl) (ho : o.op = .indexAddr t x y) (ht : bY aw t = some (.slice e, q)) (he : bY aw e = some (i, w)) (hx : cU P L x = some (.slice k off len cap)) (hy : cU P L y = some (.int kd (.ofNat j))) (hj : j < len) (hw : aT ops o L = some true) (hf : fits o.dst n = true) (hk : R (bm o.dst (.ext (.ptr k (Nat.add off (Nat.mul j w)))) L) B G) : bW P K E ops o L B G m n R :=
 qv hw hf (fun κ h L0 r M => V.indexAddr hX.aw ho ht he (aF r hx) (aF r hy) hj) hk
theorem Qk {rows : List (List aa)} (hr : ∀ r ∈ rows, r.length = 1) {j : Nat} {v : aa} : (rows.set j [v]).flatten = rows.flatten.set j v := by
 induction rows generalizing j with
 | nil => rfl
 | cons r rows ih =>
  have h1 := hr r (by simp)
  obtain ⟨u, rfl⟩ : ∃ u, r = [u] := by cases r with | nil => cases h1 | cons u r => cases r with | nil => exact ⟨u, rfl⟩ | cons => cases h1
  cases j with
  | zero => rfl
  | succ j =>
   have := ih (fun q hq => hr q (by simp [hq])) (j := j)
   simp [this]
theorem Ow {t e k off len j : Nat} {ti : TI} {x y : Operand} {v : aa} {rows : List (List aa)} (hX : TK P aw zl) (ho : o.op = .store t x y) (ht : bY aw t = some (ti, 1)) (hx : cU P L x = some (.ptr k (Nat.add off (Nat.mul j 1)))) (hy : cU P L y = some v) (hc : v.cells = some [v]) (hG : aS G (aL e 1 (.slice k off len none) rows) G2) (hj : j < rows.length) (hn : gy B = true) (hw : aT ops o L = some true) (hf : fits o.dst n = true)
  (hr : R (bm o.dst (.ext bw) L) B (aL e 1 (.slice k off len none) (rows.set j [v]) :: G2)) : bW P K E ops o L B G m n R := by
 refine ⟨fun κ h L0 r M => ?_⟩
 obtain ⟨⟨d, ha⟩, hrl⟩ := M.aZ.all _ (List.mem_append_right _ hG.mem)
 have hfl := dJ hrl
 generalize hcc : rows.length = cc at ha hj hfl
 generalize hll : rows.flatten = fl at ha hfl
 cases ha with
 | @own _ _ _ LL _ hg hl hd =>
  have hov : fV LL (Nat.add off (Nat.mul j 1)) [v] some = some (LL.set (off + j) v) := by
   rw [dn]
   simp only [Nat.add_eq, Nat.mul_eq, Nat.mul_one, List.length_singleton]
   rw [if_pos (.inr (by omega)), List.set_eq_take_append_cons_drop, if_pos (by omega)]
   simp
  refine gK.val (V.D3 hX.aw ho ht (aF r hx) (aF r hy) hc rfl hg hov) (bj r hw) hf ?_
  have p := oP M.wf (.cells (LL.set (off + j) v) e true true) (M.wf.lt hg)
  refine ⟨κ, _, _, _, cI κ, r.put (.ext _) o.dst, M.ma (C' := [aL e 1 (.slice k off len none) (rows.set j [v])]) hG ?_ hn, hr⟩
  refine ⟨p.wf, Nat.le_of_eq p.next.symm, fun {i o} hi hno => ?_, ?_, List.pairwise_singleton _ _, ?_⟩
  ·rw [p.uR i (fun e => hno _ (List.mem_singleton.2 rfl) (by rw [e]; rfl))]; exact hi
  ·intro q hq
   simp only [List.mem_singleton] at hq
   subst hq
   refine ⟨⟨some k, ?_⟩, fun r hr => ?_⟩
   ·rw [Qk hrl, hll, List.length_set, hcc]
    refine .own p.get (by rw [List.length_set]; exact hl) ?_
    rw [← hd, List.drop_set]
    rw [if_neg (by omega), Nat.add_sub_cancel_left]
   ·rcases List.mem_or_eq_of_mem_set hr with hr | hr
    ·exact hrl r hr
    ·rw [hr]; rfl
  ·intro q hq i hi
   simp only [List.mem_singleton] at hq
   subst hq
   exact .inl ⟨_, List.mem_singleton.2 rfl, hi⟩
theorem Ro.sl {C : List Part} {k e w n : Nat} {lc : List aa} {s : Bool} {rows : List (List aa)} (r : Ro C h (eR k lc e s)) (hl : rows.flatten = lc) (hw : ∀ r ∈ rows, r.length = w) (hn : rows.length = n) : Ro C h (rd (.slice k 0 n (some n)) w rows) := by
 have a : oF k lc e s (aL e w (.slice k 0 n (some n)) rows) := .own hl hw hn
 refine ⟨aL.rd (a.holds h r.holds), fun q hq j hj => r.Ez q hq j ?_⟩
 have : k = j := by simpa [rd, sW] using hj
 exact this.symm
theorem Mem.OC {κ : jq} (M : Mem E κ B G h) {g : Part} (hG : aS G g G2) {i k e : Nat} {lc : List aa} {s : Bool} (hb : nth B i = some (.own lc e s)) (hk : nth κ i = some (k, 0)) : Ro [g] h (eR k lc e s) :=
 ⟨M.aZ.all _ (List.mem_append_left _ (cQ hb hk)), fun q hq => by
  have : q = g := by simpa using hq
  subst this
  exact (List.pairwise_append.1 M.aZ.tk).2.2 _ (cQ hb hk) _ hG.mem⟩
theorem jf {cl : Call} {x x1 y : Operand} {f i sn e : Nat} {lc : List aa} {s : Bool} {v1 : aa} {g : Part} {φ : aa → List Part → Prop} (ho : o.op = .call cl) (hc : cl.callee = .value x) (hx : cU P L x = some (.func f [] [])) (ha : cl.args.toList = [x1, y]) (h1 : cU P L x1 = some v1) (hy : uE P L y = some (.sl i sn)) (hb : nth B i = some (.own lc e s)) (hf : az P f) (hw : aT ops o L = some true) (hfit : fits o.dst n = true) (hG : aS G g G2) (hn : gy B = true)
  (hs : ∀ k h, Fin E B G h → g.holds h → Ro [g] h (eR k lc e s) → Sp P K f [v1, .slice k 0 sn (some sn)] h (Mx g φ h)) (hr : ∀ v C', φ v C' → R (bm o.dst (.ext v) L) B (C' ++ G2)) : bW P K E ops o L B G m n R := by
 refine ⟨fun κ h L0 r M => ?_⟩
 obtain ⟨k, hk⟩ := M.own _ _ _ _ hb
 obtain ⟨w, g1, g2⟩ := cN r hy
 have hw0 : w = .slice k 0 sn (some sn) := by
  cases g2 with
  | sl hk2 => rw [hk] at hk2; cases hk2; rfl
 subst hw0
 have hargs : oA P L0 cl.args.toList = some [v1, .slice k 0 sn (some sn)] := by rw [ha]; simp only [oA, aF r h1, g1, obS]
 refine gK.sp (C.call ho hc (aF r hx) hargs hf) (bj r hw) hfit (hs k h ⟨κ, M⟩ (M.aZ.all _ (List.mem_append_right _ hG.mem)) (M.OC hG hb hk)) ?_
 rintro v h' ⟨C', d, hφ⟩
 exact ⟨κ, _, _, _, cI κ, r.put (.ext v) o.dst, M.ma hG d hn, hr v C' hφ⟩
theorem aS.he {a b : Part} {B : List Part} (e : a = b) : aS (a :: B) b B := e ▸ .h
theorem lH {α : Type} {g : α → List aa} {e w : Nat} {v : aa} {l l2 : List α} {x : α} (he : l2 = l ++ [x]) : aL e w v (l.map g ++ [g x]) = aL e w v (l2.map g) := by rw [he, List.map_append]; rfl
theorem ai.fact {p : Prop} (hp : ∀ h, Fin E B G h → p) (hw : p → ai P K E c L B G m n Q) : ai P K E c L B G m n Q := ⟨fun κ h L0 r M => (hw (hp h ⟨κ, M⟩)).run κ h L0 r M⟩
theorem aL.Np {α : Type} {g : α → List aa} {e w k off n : Nat} {cap : Option Nat} {l : List α} (a : (aL e w (.slice k off n cap) (l.map g)).holds h) : n = l.length := by
 have := (aL.rd a).slice.len
 simpa [dO] using this
end
end
end Go.HL
namespace Go.HL
open Go
noncomputable section
section
variable {P : Program} {K : ah} {E : eK} {ops : Array Oper} {o : Oper} {l : List Oper} {L L' : SL} {B B' : List bX} {G G' G2 : List Part} {m n : Nat} {R : SL → List bX → List Part → Prop} {Q : Ex → St → Prop} {a b c : Code} {aw : iO} {zl : List (Nat × List aa)} {h h' : Heap}
def Eh (v : aa) (j b w : Nat) : aa := match v with
 | .slice k off _ _ => .slice k (Nat.add off (Nat.mul j w)) (Nat.sub b j) none
 | v => v
theorem Cc {v : aa} {j b w k : Nat} (h : sW (Eh v j b w) = some k) : sW v = some k := by
 cases v <;> exact h
theorem V.cut {L : cj} {t e w q j b : Nat} {i : TI} {x y z : Operand} {v : aa} {rows : List (List aa)} (hT : bH P aw = true) (ho : o.op = .slice t x (some y) (some z) none) (ht : bY aw t = some (.slice e, q)) (he : bY aw e = some (i, w)) (hne : Nat.beq 0 e = false)
  (hx : eS P L x = some v) (hy : eS P L y = some (.int .i64 (.ofNat j))) (hz : eS P L z = some (.int .i64 (.ofNat b))) (hs : (xX e v w rows).holds h) (h0 : 0 < j) (hj : j < rows.length) (hjb : j ≤ b) (hb : b ≤ rows.length) : cK P o L h (Eh v j b w) h := by
 have hslice := (cM hT ht).1
 obtain ⟨inf, hinf⟩ := (cM hT ht).2
 have hel : cw P t = true := by simp only [cw, hslice, hinf]
 have hop : ∀ {v' : aa}, fw P h t v (some (.int .i64 (.ofNat j))) (some (.int .i64 (.ofNat b))) none = some v' → cK P o L h v' h := fun {v'} e => cK.mk ho fun ev ha d ty ps aft g => by
  simp only [bS, hel, bcT, evS ha hx, Option.map_some, evS ha hy, evS ha hz, Option.map_none, e, HL.val, obS]
 have hb1 : ∀ (j : Nat) y d, j ≤ y → ch (some (.int .i64 (.ofNat j))) y d = some j := by
  intro j y d hy
  have : Nat.ble j y = true := by rw [eX]; exact decide_eq_true hy
  show ae (Nat.ble j y) (some j) none = some j
  rw [this]; rfl
 have hlen := hs.2.slice.1
 cases hs.1 with
 | aC => exact absurd (Option.some.inj hlen) (by omega)
 | empty => exact absurd (Option.some.inj hlen) (by omega)
 | rest => exact absurd (Option.some.inj hlen) (by omega)
 | slice k off c l t0 s r hg ht0 =>
  have hc : c = rows.length := by simpa [dO] using hlen
  subst hc
  have hcl := bQ hg
  have hwid : P.cellsOf e = w := (cP hT he).2
  have htop : AP P h k off rows.length e (some (.int .i64 (.ofNat b))) = rows.length := by
   unfold AP
   show ae (Nat.ble b rows.length) rows.length _ = rows.length
   have : Nat.ble b rows.length = true := by rw [eX]; exact decide_eq_true hb
   rw [this]; rfl
  have hjn : Nat.beq j 0 = false := by rw [bD]; exact decide_eq_false (by omega)
  refine hop (v' := .slice k (Nat.add off (Nat.mul j w)) (Nat.sub b j) none) ?_
  have hlt : Nat.blt j rows.length = true := by rw [eW]; exact decide_eq_true hj
  rcases ht0 with rfl | rfl
  ·simp only [fw, hslice, htop, hb1 _ _ _ hb, hb1 _ _ _ hjb, obS, hjn, bcF, hlt, bcT, hcl, hne, hwid]
   rfl
  ·have hee : Nat.beq t0 t0 = true := Nat.beq_refl t0
   simp only [fw, hslice, htop, hb1 _ _ _ hb, hb1 _ _ _ hjb, obS, hjn, bcF, hlt, bcT, hcl, hee, hwid]
theorem xX.cut {e : Nat} {v : aa} {w j b : Nat} {rows : List (List aa)} (hs : (xX e v w rows).holds h) (hj : j < rows.length) (hb : b ≤ rows.length) : (xX e (Eh v j b w) w ((rows.drop j).take (b - j))).holds h := by
 have hlen := hs.2.slice.1
 have hlive := hs.2.live
 refine ⟨?_, ⟨?_, fun k hk => hlive k (Cc hk)⟩⟩
 ·cases hs.1 with
  | aC => exact .aC
  | empty => exact .empty
  | rest k => exact .rest k
  | slice k off c l t s r hg ht => exact .slice _ _ _ _ _ _ _ hg ht
 ·cases hs.1 with
  | aC => exact absurd (Option.some.inj hlen) (by omega)
  | empty => exact absurd (Option.some.inj hlen) (by omega)
  | rest => exact absurd (Option.some.inj hlen) (by omega)
  | slice k off c l t s r hg ht =>
   have hc : c = rows.length := by simpa [dO] using hlen
   subst hc
   have hbl : ((rows.drop j).take (b - j)).length = b - j := by rw [List.length_take, List.length_drop]; omega
   refine ⟨by rw [hbl]; rfl, fun i' r' hr' => ?_⟩
   rw [List.getElem?_take] at hr'
   split at hr'
   ·rw [List.getElem?_drop] at hr'
    obtain ⟨k', off'', cap', e3, hrow⟩ := hs.2.slice.2 _ _ hr'
    cases e3
    refine ⟨k, _, none, by rw [hbl]; rfl, ?_⟩
    have : Nat.add (Nat.add off (Nat.mul j w)) (Nat.mul i' w) = Nat.add off (Nat.mul (j + i') w) := by
     simp only [Nat.add_eq, Nat.mul_eq, Nat.add_mul]; omega
    rw [this]; exact hrow
   ·cases hr'
theorem Ro.cut {C : List Part} {e : Nat} {v : aa} {w j b : Nat} {rows : List (List aa)} (r : Ro C h (HL.xX e v w rows)) (hj : j < rows.length) (hb : b ≤ rows.length) : Ro C h (HL.xX e (Eh v j b w) w ((rows.drop j).take (b - j))) := ⟨HL.xX.cut r.holds hj hb, fun q hq k hk => r.Ez q hq k (Cc hk)⟩
theorem Qh {t e w q j b : Nat} {i : TI} {x y z : Operand} {v : aa} {rows : List (List aa)} (hX : TK P aw zl) (ho : o.op = .slice t x (some y) (some z) none) (ht : bY aw t = some (.slice e, q)) (he : bY aw e = some (i, w)) (hne : Nat.beq 0 e = false)
  (hx : cU P L x = some v) (hy : cU P L y = some (.int .i64 (.ofNat j))) (hz : cU P L z = some (.int .i64 (.ofNat b))) (hs : Ro E.C E.h (HL.xX e v w rows)) (h0 : 0 < j) (hj : j < rows.length) (hjb : j ≤ b) (hb : b ≤ rows.length) (hw : aT ops o L = some true) (hf : fits o.dst n = true) (hr : R (bm o.dst (.ext (Eh v j b w)) L) B G) : bW P K E ops o L B G m n R :=
 qv hw hf (fun κ h L0 r M => V.cut hX.aw ho ht he hne (aF r hx) (aF r hy) (aF r hz) (hs.at M.aZ) h0 hj hjb hb) hr
/-! ## Values of several cells compared -/
theorem V.QL {L : cj} {op : BinOp} {t p : Nat} {x y : Operand} {a b : List aa} {v : aa} (ho : o.op = .binOp op t x y p) (hx : eS P L x = some (.agg a)) (hy : eS P L y = some (.agg b)) (hr : df P op t (.agg a) (.agg b) = some v) : cK P o L h v h := cK.mk ho fun ev ha d ty ps aft g => by
 simp only [bS, evS ha hx, evS ha hy, kc, hr, HL.val, obS]
theorem KK {bo : BinOp} {t p : Nat} {x y : Operand} {a b : List aa} {v : aa} (ho : o.op = .binOp bo t x y p) (hx : cU P L x = some (.agg a)) (hy : cU P L y = some (.agg b)) (hd : df P bo t (.agg a) (.agg b) = some v) (hw : aT ops o L = some true) (hf : fits o.dst n = true) (hr : R (bm o.dst (.ext v) L) B G) : bW P K E ops o L B G m n R :=
 qv hw hf (fun κ h L0 r M => V.QL ho (aF r hx) (aF r hy) hd) hr
end
end
end Go.HL
namespace Go.HL
open Go
noncomputable section
section
variable {P : Program} {K : ah} {E : eK} {ops : Array Oper} {o : Oper} {L : SL} {B : List bX} {G : List Part} {m n : Nat} {R : SL → List bX → List Part → Prop} {h : Heap} {aw : iO} {zl : List (Nat × List aa)}
theorem kM : ∀ (b : List Nat) (s : Nat), aO b s = s * 256 ^ b.length + aO b 0
 | [], s => by simp [aO]
 | x :: b, s => by
  show aO b (s * 256 + x) = s * 256 ^ (b.length + 1) + aO b (0 * 256 + x)
  rw [kM b (s * 256 + x), kM b (0 * 256 + x), Nat.pow_succ, Nat.add_mul, Nat.mul_assoc, Nat.mul_comm 256, Nat.zero_mul, Nat.zero_add]
  omega
theorem ze (a b : List Nat) : aO (a ++ b) 0 = aO a 0 * 2 ^ (8 * b.length) + aO b 0 := by
 rw [aO, List.foldl_append]
 show aO b (aO a 0) = _
 rw [kM, Nat.pow_mul]
theorem V.cat {L : cj} {t p : Nat} {x y : Operand} {a b : List Nat} (ho : o.op = .binOp .add t x y p) (hx : eS P L x = some (.str a.length (aO a 0))) (hy : eS P L y = some (.str b.length (aO b 0))) (hl : a.length + b.length ≤ 9223372036854775807) : cK P o L h (.str (a ++ b).length (aO (a ++ b) 0)) h := cK.mk ho fun ev ha d ty ps aft g => by
 have e : df P .add t (.str a.length (aO a 0)) (.str b.length (aO b 0)) = some (.str (a ++ b).length (aO (a ++ b) 0)) := by
  show vz .add _ _ _ _ = _
  unfold vz
  have : Nat.ble (Nat.add a.length b.length) 9223372036854775807 = true := by rw [eX]; exact decide_eq_true hl
  simp only [this, bcT]
  rw [ze, List.length_append]; rfl
 simp only [bS, evS ha hx, evS ha hy, kc, e, HL.val, obS]
theorem MK {t p : Nat} {x y : Operand} {a b : List Nat} (ho : o.op = .binOp .add t x y p) (hx : cU P L x = some (.str a.length (aO a 0))) (hy : cU P L y = some (.str b.length (aO b 0))) (hl : a.length + b.length ≤ 9223372036854775807) (hw : aT ops o L = some true) (hf : fits o.dst n = true) (hr : R (bm o.dst (.ext (.str (a ++ b).length (aO (a ++ b) 0))) L) B G) : bW P K E ops o L B G m n R :=
 qv hw hf (fun κ h L0 r M => V.cat ho (aF r hx) (aF r hy) hl) hr
end
end
end Go.HL
namespace Go.HL
open Go
noncomputable section
section
variable {P : Program} {K : ah} {E : eK} {ops : Array Oper} {o : Oper} {l : List Oper} {L L' : SL} {B B' : List bX} {G G' G2 : List Part} {m n : Nat} {R : SL → List bX → List Part → Prop} {Q : Ex → St → Prop} {a b c : Code} {aw : iO} {zl : List (Nat × List aa)} {h h' : Heap}
structure At (g : Part) (Ds : List Part) : Prop where
 all : ∀ h, g.holds h → ∀ r ∈ Ds, r.holds h
 tk : ∀ h, g.holds h → Ds.Pairwise pO
 dR : ∀ r ∈ Ds, ∀ k, r.dR k → g.dR k
theorem At.aZ {g : Part} {Ds : List Part} (s : At g Ds) (w : Wf h) (hg : g.holds h) : fU [g] h Ds h :=
 ⟨w, Nat.le_refl _, fun e _ => e, s.all h hg, s.tk h hg, fun r hr k hk => .inl ⟨g, by simp, s.dR r hr k hk⟩⟩
theorem ai.split {g : Part} {Ds : List Part} (s : At g Ds) (hG : aS G g G2) (hn : gy B = true) (hw : ai P K E c L B (Ds ++ G2) m n Q) : ai P K E c L B G m n Q :=
 ⟨fun κ h L0 r M => hw.run κ h L0 r (M.ma hG (s.aZ M.wf (M.aZ.all _ (List.mem_append_right _ hG.mem))) hn)⟩
theorem fU.join {g : Part} {C Ds R : List Part} {h0 : Heap} (d : fU C h0 (Ds ++ R) h) (hg : (∀ r ∈ Ds, r.holds h) → Ds.Pairwise pO → g.holds h) (hf : ∀ k, g.dR k → ∃ r ∈ Ds, r.dR k) : fU C h0 (g :: R) h := by
 have hd := List.pairwise_append.1 d.tk
 refine ⟨d.wf, d.next, d.ji, fun r hr => ?_, List.pairwise_cons.2 ⟨fun r hr k hk hrk => ?_, hd.2.1⟩, fun r hr k hk => ?_⟩
 ·rcases List.mem_cons.1 hr with rfl | hr
  ·exact hg (fun r hr => d.all r (List.mem_append_left _ hr)) hd.1
  ·exact d.all r (List.mem_append_right _ hr)
 ·obtain ⟨q, hq, hqk⟩ := hf k hk
  exact hd.2.2 q hq r hr k hqk hrk
 ·rcases List.mem_cons.1 hr with rfl | hr
  ·obtain ⟨q, hq, hqk⟩ := hf k hk
   exact d.own q (List.mem_append_left _ hq) k hqk
  ·exact d.own r (List.mem_append_right _ hr) k hk
theorem Gl {t e k off w : Nat} {s : Bool} {i : TI} {x : Operand} {v : aa} {lc : List aa} (hX : TK P aw zl) (ho : o.op = .load t x) (ht : bY aw t = some (i, w)) (hi : i.agg = false) (hx : cU P L x = some (.ptr k off)) (hG : aS G (eR k lc e s) G2) (hv : nth lc off = some v) (hw : aT ops o L = some true) (hf : fits o.dst n = true) (hr : R (bm o.dst (.ext v) L) B G) : bW P K E ops o L B G m n R :=
 qv hw hf (fun κ h L0 r M => by
  have hp := M.aZ.all _ (List.mem_append_right _ hG.mem)
  have hx' : eS P L0 x = some (.ptr k (Nat.add 0 off)) := by rw [Nat.add_eq, Nat.zero_add]; exact aF r hx
  exact V.Fe hX.aw ho ht hi hx' (qT hp) hv) hr
theorem Ox {t e k off : Nat} {s : Bool} {ti : TI} {x y : Operand} {v : aa} {lc l' : List aa} (hX : TK P aw zl) (ho : o.op = .store t x y) (ht : bY aw t = some (ti, 1)) (hx : cU P L x = some (.ptr k off)) (hy : cU P L y = some v) (hc : v.cells = some [v]) (hG : aS G (eR k lc e s) G2) (hov : fV lc off [v] some = some l') (hn : gy B = true) (hw : aT ops o L = some true) (hf : fits o.dst n = true)
  (hr : R (bm o.dst (.ext bw) L) B (eR k l' e s :: G2)) : bW P K E ops o L B G m n R := by
 refine ⟨fun κ h L0 r M => ?_⟩
 have hp := M.aZ.all _ (List.mem_append_right _ hG.mem)
 refine gK.val (V.D3 hX.aw ho ht (aF r hx) (aF r hy) hc rfl hp hov) (bj r hw) hf ?_
 exact ⟨κ, _, _, _, cI κ, r.put (.ext _) o.dst, M.ma (C' := [eR k l' e s]) hG (FA (oP M.wf _ (M.wf.lt hp))) hn, hr⟩
theorem OB {t t2 e w q2 bs j c : Nat} {i : TI} {cl : Call} {x y : Operand} {v : aa} {z : List aa} {rows : List (List aa)} (new : List Nat) (hX : TK P aw zl)
  (ho : o.op = .call cl) (hc : cl.callee = .builtin .append) (ha : cl.args = #[x, y]) (h0 : cl.argTypes[0]? = some t) (h2 : cl.argTypes[1]? = some t2) (ht : bY aw t = some (.slice e, w)) (ht2 : bY aw t2 = some (.str, q2))
  (he : bY aw e = some (i, 1)) (hz : zL zl e = some z) (hzl : Nat.beq z.length 1 = true) (he0 : Nat.beq e 0 = false) (hb : P.bytesOf e = bs) (hb0 : Nat.beq bs 0 = false)
  (hx : cU P L x = some v) (hy : cU P L y = some (.str j c)) (hj : j = new.length) (hcode : fx j c 0 j = byteCells new) (hpos : 0 < new.length) (hG : aS G (aL e 1 v rows) G2) (hn : gy B = true) (hroom : (rows.length + new.length) * bs ≤ 140737488355328)
  (hw : aT ops o L = some true) (hf : fits o.dst n = true) (hr : ∀ k, R (bm o.dst (.ext (.slice k 0 (rows.length + new.length) none)) L) B (aL e 1 (.slice k 0 (rows.length + new.length) none) (rows ++ new.map gQ) :: G2)) : bW P K E ops o L B G m n R := by
 refine ⟨fun κ h L0 r M => ?_⟩
 obtain ⟨⟨d, hv⟩, hrl⟩ := M.aZ.all _ (List.mem_append_right _ hG.mem)
 have hlen : (byteCells new).length = new.length := by simp [byteCells]
 have happ : dX P e (.str j c) h = some (new.length, byteCells new) := by
  unfold dX
  rw [(cP hX.aw he).2]
  show ae true _ _ = _
  rw [bcT, hcode, hj]
 refine gK.CG hX.aw ho hc ha h0 (by simp only [fG, h2, ml hX.aw ht2]) ht he (hX.zero.look hz) hzl he0 rfl hb hb0 (aF r hx) (aF r hy) hv happ (by rw [hlen, Nat.mul_one]) (by rw [bD]; exact decide_eq_false (by omega)) hroom M.wf (bj r hw) hf ?_
 intro k h' p
 have hnl : ∀ r ∈ new.map gQ, r.length = 1 := by
  intro r hr
  obtain ⟨q, _, rfl⟩ := List.mem_map.1 hr
  rfl
 have p' : gI h e 1 (rows.length + (new.map gQ).length) (rows.flatten ++ (new.map gQ).flatten) d k h' := by
  rw [List.length_map, jX]; exact p
 have c := gI.aZ hv hrl hnl p'
 rw [List.length_map] at c
 exact ⟨κ, _, _, _, cI κ, r.put (.ext _) o.dst, M.ma hG c hn, hr k⟩
theorem qsd {cl : Call} {x : Operand} {k off c : Nat} (ho : o.op = .call cl) (hc : cl.callee = .builtin .unsafeSliceData) (hx : cl.args = #[x]) (hs : cU P L x = some (.slice k off c none)) (h0 : 0 < c) (hw : aT ops o L = some true) (hf : fits o.dst n = true) (hr : R (bm o.dst (.ext (.ptr k off)) L) B G) : bW P K E ops o L B G m n R :=
 qv hw hf (fun κ h L0 r M => cK.mk ho fun ev ha d ty ps aft g => by
  have hb : Nat.beq c 0 = false := by rw [bD]; exact decide_eq_false (by omega)
  simp only [bS, hc, hx, List.map_cons, List.map_nil, dL, evS ha (aF r hs), hb, bcF]) hr
theorem qus {cl : Call} {x y : Operand} {t e k c : Nat} {bs : List Nat} (ho : o.op = .call cl) (hc : cl.callee = .builtin .unsafeString) (ha : cl.args = #[x, y]) (h0 : cl.argTypes[0]? = some t) (hpt : P.underlying t = some (.pointer e)) (he : P.underlying e = some (.int .u8)) (hce : P.cellsOf e = 1) (hne : Nat.beq e 0 = false)
  (hx : cU P L x = some (.ptr k 0)) (hy : cU P L y = some (.int .i64 (.ofNat c))) (hcl : c = bs.length) (hG : aS G (aL e 1 (.slice k 0 c none) (bs.map gQ)) G2) (hpos : 0 < bs.length) (hmax : bs.length ≤ 9223372036854775807) (hb : ∀ b ∈ bs, b < 256) (hn : gy B = true) (hw : aT ops o L = some true) (hf : fits o.dst n = true)
  (hr : R (bm o.dst (.ext (.str bs.length (aO bs 0))) L) B G2) : bW P K E ops o L B G m n R := by
 subst hcl
 refine ⟨fun κ h L0 r M => ?_⟩
 obtain ⟨⟨d, hv⟩, hrl⟩ := M.aZ.all _ (List.mem_append_right _ hG.mem)
 rw [List.length_map, jX] at hv
 generalize hbs : byteCells bs = l at hv
 have hll : l.length = bs.length := by rw [← hbs]; simp [byteCells]
 cases hv with
 | @own _ _ _ LL _ hg hl hd =>
  rw [List.drop_zero] at hd
  subst hd
  refine gK.val (v := .str bs.length (aO bs 0)) (h' := h.put k (.cells LL e true false)) (fun ev hag => ?_) (bj r hw) hf ?_
  ·obtain ⟨dd, op, ty, ps, aft, g⟩ := o
   simp only at ho
   subst ho
   have n0 : Nat.beq bs.length 0 = false := by rw [bD]; exact decide_eq_false (by omega)
   have n1 : Nat.ble bs.length 9223372036854775807 = true := by rw [eX]; exact decide_eq_true hmax
   have n2 : fp (jS LL 0) bs.length (fun l => ob (dC l 0) fun c => some (Out.val (.str bs.length c) (h.put k (.cells LL e true false)))) = some (Out.val (.str bs.length (aO bs 0)) (h.put k (.cells LL e true false))) := by
    rw [bz, dr, List.drop_zero, if_pos (by rw [hll]; exact Nat.le_refl _), List.take_of_length_le (by rw [hll]; exact Nat.le_refl _), ← hbs, iW 0 hb, obS]
   have n3 : (aa.int .i64 (.ofNat bs.length)).isNat = some bs.length := rfl
   simp only [bS, hc, ha, List.map_cons, List.map_nil, dL, evS hag (aF r hx), evS hag (aF r hy), n3, obS, il, h0, n0, bcF, n1, bcT, aa.dI, hpt, he, bQ hg, hne, hce, Nat.beq_refl, n2]
  ·refine ⟨κ, _, _, _, cI κ, r.put (.ext _) o.dst, M.ma (C' := []) hG ?_ hn, hr⟩
   have p := oP M.wf (.cells LL e true false) (M.wf.lt hg)
   refine ⟨p.wf, Nat.le_of_eq p.next.symm, fun {j o} hj hno => ?_, fun r hr => by simp at hr, .nil, fun r hr => by simp at hr⟩
   rw [p.uR j (fun e => hno _ (List.mem_singleton.2 rfl) (by rw [e]; rfl))]; exact hj
theorem Qg {s t k off e ee : Nat} {sp : Bool} {x : Operand} {lc : List aa} {v : aa} (ho : o.op = .convert s t x) (hs : P.underlying s = some (.pointer ee)) (ht : P.underlying t = some .unsafePointer) (hce : Nat.beq (P.cellsOf ee) 0 = false) (hx : cU P L x = some (.ptr k off)) (hG : aS G (eR k lc e sp) G2) (hv : nth lc off = some v) (hw : aT ops o L = some true) (hf : fits o.dst n = true) (hr : R (bm o.dst (.ext (.ptr k off)) L) B G) : bW P K E ops o L B G m n R :=
 qv hw hf (fun κ h L0 r M => cK.mk ho fun ev ha d ty ps aft g => by
  have hp : h.get k = some (.cells lc e sp true) := M.aZ.all _ (List.mem_append_right _ hG.mem)
  have h1 : cY P s t = none := by simp only [cY, hs]
  simp only [bS, h1, kJ, ht, hs, evS ha (aF r hx), aa.dI, obS, hce, bcF, mZ, bQ hp, hv]) hr
theorem Qf {s t k off e u : Nat} {x : Operand} {lc : List aa} (ho : o.op = .convert s t x) (hs : P.underlying s = some .unsafePointer) (ht : P.underlying t = some (.pointer u)) (hce : Nat.beq (P.cellsOf u) 0 = false) (he : Nat.beq e 0 = false) (hlies : liesAt P P.depth e (Nat.div lc.length (P.cellsOf e)) off u 1 = true) (hx : cU P L x = some (.ptr k off)) (hG : aS G (eR k lc e false) G2) (hw : aT ops o L = some true) (hf : fits o.dst n = true) (hr : R (bm o.dst (.ext (.ptr k off)) L) B G) : bW P K E ops o L B G m n R :=
 qv hw hf (fun κ h L0 r M => cK.mk ho fun ev ha d ty ps aft g => by
  have hp : h.get k = some (.cells lc e false true) := M.aZ.all _ (List.mem_append_right _ hG.mem)
  have h1 : cY P s t = none := by simp only [cY, hs]
  simp only [bS, h1, kJ, ht, hs, evS ha (aF r hx), aa.dI, obS, bQ hp, he, bcF, hce, hlies, bcT]) hr
theorem qne {cl : Call} {x y : Operand} {f : Nat} {fn : Func} {v : aa} (ho : o.op = .call cl) (hc : cl.callee = .value x) (hx : cU P L x = some (.func f [] [])) (ha : cl.args = #[y]) (hy : cU P L y = some v) (hf : P.funcs[f]? = some fn) (hb : fn.body = none) (hor : (fn.origin == "") = true) (h1 : (fn.name == "maps.clone") = false) (h2 : (fn.name == "internal/abi.NoEscape") = true) (hw : aT ops o L = some true) (hfit : fits o.dst n = true) (hr : R (bm o.dst (.ext v) L) B G) : bW P K E ops o L B G m n R :=
 qv hw hfit (fun κ h L0 r M => cK.mk ho fun ev hag d ty ps aft g => by
  simp only [bS, hc, evS hag (aF r hx), ha, List.map_cons, List.map_nil, evS hag (aF r hy), List.nil_append, List.append_nil, pM, hf, obS, hb, Ab, hor, bcT, h1, bcF, h2]) hr
theorem ML {bo : BinOp} {t p : Nat} {x y : Operand} {a b v : aa} (ho : o.op = .binOp bo t x y p) (hx : cU P L x = some a) (hy : cU P L y = some b) (hd : ∀ lit, kc P bo t lit a b = some v) (hw : aT ops o L = some true) (hf : fits o.dst n = true) (hr : R (bm o.dst (.ext v) L) B G) : bW P K E ops o L B G m n R :=
 qv hw hf (fun κ h L0 r M => cK.mk ho fun ev ha d ty ps aft g => by
  simp only [bS, evS ha (aF r hx), evS ha (aF r hy), hd, HL.val, obS]) hr
theorem uO {cl : Call} {x y : Operand} {f i sn e : Nat} {lc : List aa} {s : Bool} {v0 : aa} (ho : o.op = .call cl) (hc : cl.callee = .value x) (hx : cU P L x = some (.func f [] [])) (ha : cl.args.toList = [y]) (hy : uE P L y = some (.sl i sn)) (hb : nth B i = some (.own lc e s)) (hf : az P f) (hw : aT ops o L = some true) (hfit : fits o.dst n = true)
  (hs : ∀ k h, Fin E B G h → (eR k lc e s).holds h → Sp P K f [.slice k 0 sn (some sn)] h (iw v0 h)) (hr : R (bm o.dst (.ext v0) L) B G) : bW P K E ops o L B G m n R := by
 refine ⟨fun κ h L0 r M => ?_⟩
 obtain ⟨k, hk⟩ := M.own _ _ _ _ hb
 obtain ⟨w2, g1, g2⟩ := cN r hy
 have hw2 : w2 = .slice k 0 sn (some sn) := by
  cases g2 with
  | sl hk2 => rw [hk] at hk2; cases hk2; rfl
 subst hw2
 have hblk := M.aZ.all _ (List.mem_append_left _ (cQ hb hk))
 refine gK.sp (C.call ho hc (aF r hx) (by rw [ha]; simp only [oA, g1, obS]) hf) (bj r hw) hfit (hs k h ⟨κ, M⟩ hblk) ?_
 rintro v h' ⟨rfl, d⟩
 exact ⟨κ, _, _, _, cI κ, r.put (.ext v) o.dst, M.call (C' := []) d, hr⟩
theorem IB {t t2 e e0 e2 w q q2 bs j jn : Nat} {s2 : Bool} {i : TI} {cl : Call} {x y : Operand} {v2 : aa} {z lc : List aa} {rows new : List (List aa)} (hX : TK P aw zl)
  (ho : o.op = .call cl) (hc : cl.callee = .builtin .append) (ha : cl.args = #[x, y]) (h0 : cl.argTypes[0]? = some t) (h2 : cl.argTypes[1]? = some t2) (ht : bY aw t = some (.slice e, q)) (ht2 : bY aw t2 = some (.slice e, q2))
  (he : bY aw e = some (i, w)) (hz : zL zl e = some z) (hzl : Nat.beq z.length w = true) (he0 : Nat.beq e 0 = false) (hw0 : Nat.beq w 0 = false) (hb : P.bytesOf e = bs) (hb0 : Nat.beq bs 0 = false)
  (hx : uE P L x = some (.sl j jn)) (hbk : nth B j = some (.own lc e0 s2)) (hlc : rows.flatten = lc) (hrl : ∀ r ∈ rows, r.length = w) (hjn : rows.length = jn) (hy : cU P L y = some v2) (hG : aS G (aL e2 w v2 new) G2) (hpos : 0 < new.length) (hnr : ∀ k, v2 ≠ .rest k) (hn : gy B = true) (hroom : (jn + new.length) * bs ≤ 140737488355328)
  (hw : aT ops o L = some true) (hf : fits o.dst n = true) (hr : ∀ k, R (bm o.dst (.ext (.slice k 0 (jn + new.length) none)) L) B (aL e w (.slice k 0 (jn + new.length) none) (rows ++ new) :: G)) : bW P K E ops o L B G m n R := by
 subst hlc hjn
 refine ⟨fun κ h L0 r M => ?_⟩
 have hown2 := M.aZ.all _ (List.mem_append_right _ hG.mem)
 obtain ⟨k2, off2, cap2, rfl, hrow⟩ := aL.row hown2 hpos hnr
 have hnl := hown2.2
 obtain ⟨k, hk⟩ := M.own _ _ _ _ hbk
 obtain ⟨w2, g1, g2⟩ := cN r hx
 have hw2 : w2 = .slice k 0 rows.length (some rows.length) := by
  cases g2 with
  | sl hk2 => rw [hk] at hk2; cases hk2; rfl
 subst hw2
 have hblk : h.get k = some (.cells rows.flatten e0 s2 true) := M.aZ.all _ (List.mem_append_left _ (cQ hbk hk))
 have hv : App h e w (.slice k 0 rows.length (some rows.length)) rows.length rows.flatten none := .full hblk (dJ hrl) (by rw [List.drop_zero, List.take_of_length_le (by rw [dJ hrl]; exact Nat.le_refl _)])
 refine gK.append hX.aw ho hc ha h0 h2 ht ht2 he (hX.zero.look hz) hzl he0 hw0 hb hb0 g1 (aF r hy) hv hrow (by rw [bD]; exact decide_eq_true (dJ hnl)) (by rw [bD]; exact decide_eq_false (by omega)) hroom M.wf (bj r hw) hf ?_
 intro k3 h' p
 have c : fU [] h [aL e w (.slice k3 0 (rows.length + new.length) none) (rows ++ new)] h' := by
  refine ⟨p.wf, p.next, fun {j o} hj _ => ?_, ?_, List.pairwise_singleton _ _, ?_⟩
  ·rw [p.uR j (by simp) ?_]
   ·exact hj
   ·rintro rfl
    rw [p.fresh] at hj; cases hj
  ·intro r hr
   simp only [List.mem_singleton] at hr
   subst hr
   refine ⟨⟨some k3, ?_⟩, fun r hr => ?_⟩
   ·have := p.app
    rw [← List.flatten_append, ← List.length_append] at this
    rw [← List.length_append]
    exact this
   ·rcases List.mem_append.1 hr with hr | hr
    ·exact hrl r hr
    ·exact hnl r hr
  ·intro r hr j hj
   simp only [List.mem_singleton] at hr
   subst hr
   have hj : k3 = j := by simpa [aL, wA] using hj
   subst hj
   exact .inr p.fresh
 exact ⟨κ, _, _, _, cI κ, r.put (.ext _) o.dst, M.call c, hr k3⟩
theorem Qe {t e u bt j w : Nat} {x y : Operand} {kd : IntKind} {cs : List aa} {v : aa} {ti : TI} (hX : TK P aw zl) (ho : o.op = .index t x y) (ht : bY aw t = some (.array bt e, u)) (he : bY aw e = some (ti, w)) (hag : ti.agg = false) (hx : cU P L x = some (.agg cs)) (hy : cU P L y = some (.int kd (.ofNat j))) (hj : Nat.blt j bt = true) (hv : nth cs (Nat.mul j w) = some v) (hw : aT ops o L = some true) (hf : fits o.dst n = true) (hr : R (bm o.dst (.ext v) L) B G) : bW P K E ops o L B G m n R :=
 qv hw hf (fun κ h L0 r M => cK.mk ho fun ev ha d ty ps aft g => by
  obtain ⟨hu, inf, hi⟩ := oL hX.aw ht
  have hel : cw P t = true := by simp only [cw, hu, hi]
  have hnat : (aa.int kd (.ofNat j)).isNat = some j := rfl
  have hwid := (cP hX.aw he).2
  have hpart : ku P e cs (Nat.mul j w) = some v := by
   have := jd hX.aw he
   rw [hag] at this
   unfold ku
   rw [this]
   exact hv
  simp only [bS, hel, bcT, evS ha (aF r hy), hnat, obS, hu, evS ha (aF r hx), aa.isAgg, hj, hwid, hpart, HL.val]) hr
theorem Iy {t e e' q w nb : Nat} {z : Int} {i : TI} {x y : Operand} {v : aa} {kd : IntKind} {rows : List (List aa)} {r : List aa} (hX : TK P aw zl) (ho : o.op = .indexAddr t x y) (ht : bY aw t = some (.slice e, q)) (he : bY aw e = some (i, w)) (hx : cU P L x = some v) (hy : cU P L y = some (.int kd z)) (h0 : 0 ≤ z)
  (hG : aS G (aL e' w v rows) G2) (hr : rows[z.toNat]? = some r) (hB : ym B (.tmp r) = some (nb, B')) (hw : aT ops o L = some true) (hf : fits o.dst n = true) (hk : R (bm o.dst (.ptr nb 0) L) B' G) : bW P K E ops o L B G m n R := by
 obtain ⟨j, rfl⟩ := Int.eq_ofNat_of_zero_le h0
 exact qW hX ho ht he hx hy hG hr hB hw hf hk
end
end
end Go.HL
namespace Go.HL
open Go
noncomputable section
section
variable {P : Program} {K : ah} {E : eK} {ops : Array Oper} {o : Oper} {l : List Oper} {L L' : SL} {B B' : List bX} {G G' G2 : List Part} {m n : Nat} {R : SL → List bX → List Part → Prop} {Q : Ex → St → Prop} {a b c : Code} {aw : iO} {zl : List (Nat × List aa)} {h h' : Heap}
/-! ## Strings -/
theorem Cf : ∀ {l : List Nat}, (∀ x ∈ l, x < 256) → aO l 0 < 256 ^ l.length := by
 intro l
 induction l with
 | nil => intro _; decide
 | cons x l ih =>
  intro h
  have hx := h x (by simp)
  have := ih fun y hy => h y (by simp [hy])
  have e : aO (x :: l) 0 = aO l (0 * 256 + x) := rfl
  rw [e, kM, Nat.zero_mul, Nat.zero_add, List.length_cons, Nat.pow_succ]
  have h2 : x * 256 ^ l.length + 256 ^ l.length ≤ 256 * 256 ^ l.length := by
   rw [← Nat.succ_mul]; exact Nat.mul_le_mul_right _ (by omega)
  rw [Nat.mul_comm (256 ^ l.length)]
  omega
theorem rK (a b : List Nat) : aO (a ++ b) 0 = aO a 0 * 256 ^ b.length + aO b 0 := by
 rw [ze, Nat.pow_mul]
theorem xI {b : List Nat} (h : ∀ x ∈ b, x < 256) {l k : Nat} (hl : l ≤ k) (hk : k ≤ b.length) : qR b.length (aO b 0) l k = .str ((b.take k).drop l).length (aO ((b.take k).drop l) 0) := by
 have e1 : aO b 0 = aO (b.take k) 0 * 256 ^ (b.drop k).length + aO (b.drop k) 0 := by rw [← rK, List.take_append_drop]
 have e2 := Cf (l := b.drop k) fun x hx => h x (List.mem_of_mem_drop hx)
 have e3 : aO (b.take k) 0 = aO ((b.take k).take l) 0 * 256 ^ ((b.take k).drop l).length + aO ((b.take k).drop l) 0 := by rw [← rK, List.take_append_drop]
 have e4 := Cf (l := (b.take k).drop l) fun x hx => h x (List.mem_of_mem_take (List.mem_of_mem_drop hx))
 have l1 : (b.drop k).length = b.length - k := List.length_drop
 have l2 : ((b.take k).drop l).length = k - l := by rw [List.length_drop, List.length_take, Nat.min_eq_left hk]
 unfold qR
 rw [l2] at e3 e4 ⊢
 rw [l1] at e1 e2
 congr 1
 show aO b 0 / 2 ^ (8 * (b.length - k)) % 2 ^ (8 * (k - l)) = _
 rw [Nat.pow_mul, Nat.pow_mul, show (2 : Nat) ^ 8 = 256 by decide, e1]
 have hp : 0 < 256 ^ (b.length - k) := Nat.pow_pos (by decide)
 rw [Nat.mul_comm, Nat.mul_add_div hp, Nat.div_eq_of_lt e2, Nat.add_zero, e3, Nat.mul_comm, Nat.mul_add_mod, Nat.mod_eq_of_lt e4]
def Cw (P : Program) (L : SL) (y : Option Operand) (d : Nat) : Option Nat := match y with
 | none => some d
 | some y => match cU P L y with
  | some (.int _ (.ofNat n)) => some n
  | _ => none
theorem xx {κ : jq} {L0 : cj} (r : dx κ L L0) {ev : Env} (ha : fL L0 ev) {y : Option Operand} {d top k : Nat} (hb : Cw P L y d = some k) (hk : k ≤ top) (hd : y = none → d = k) : ch (y.map (ev.eval P)) top d = some k := by
 cases y with
 | none => cases hb; rfl
 | some y =>
  unfold Cw at hb
  simp only at hb
  split at hb
  ·rename_i kd nn e
   cases hb
   have := evS ha (aF r e)
   show eE (ev.eval P y) top = some _
   rw [this]
   unfold eE
   show ae (Nat.ble _ top) _ none = _
   rw [show Nat.ble _ top = true from by rw [eX]; exact decide_eq_true hk]; rfl
  ·cases hb
theorem V.Om {κ : jq} {L0 : cj} {t u lo hi : Nat} {x : Operand} {yl yh : Option Operand} {bs r : List Nat} (hX : TK P aw zl) (ho : o.op = .slice t x yl yh none) (ht : bY aw t = some (.str, u)) (hx : cU P L x = some (.str bs.length (aO bs 0))) (hh : Cw P L yh bs.length = some hi) (hl : Cw P L yl 0 = some lo) (h1 : lo ≤ hi) (h2 : hi ≤ bs.length) (hb : ∀ x ∈ bs, x < 256) (hr : (bs.take hi).drop lo = r) (rr : dx κ L L0) (h : Heap) : cK P o L0 h (.str r.length (aO r 0)) h :=
 cK.mk ho fun ev ha d ty ps aft g => by
  have hu := ml hX.aw ht
  have hel : cw P t = true := by simp only [cw, hu]
  have e1 := xx rr ha hh h2 (fun e => by subst e; exact Option.some.inj hh)
  have e2 := xx rr ha hl h1 (fun e => by subst e; exact Option.some.inj hl)
  simp only [bS, hel, bcT, evS ha (aF rr hx), fw, hu, Option.map_none, e1, e2, obS, xI hb h1 h2, hr, HL.val]
theorem Ov {t u lo hi : Nat} {x : Operand} {yl yh : Option Operand} {bs r : List Nat} (hX : TK P aw zl) (ho : o.op = .slice t x yl yh none) (ht : bY aw t = some (.str, u)) (hx : cU P L x = some (.str bs.length (aO bs 0))) (hh : Cw P L yh bs.length = some hi) (hl : Cw P L yl 0 = some lo) (h1 : lo ≤ hi) (h2 : hi ≤ bs.length) (hb : ∀ x ∈ bs, x < 256) (hr : (bs.take hi).drop lo = r) (hw : aT ops o L = some true) (hf : fits o.dst n = true)
  (hk : R (bm o.dst (.ext (.str r.length (aO r 0))) L) B G) : bW P K E ops o L B G m n R :=
 qv hw hf (fun κ h L0 rr M => V.Om hX ho ht hx hh hl h1 h2 hb hr rr h) hk
def pK (k off c j w : Nat) : aa := .slice k (fq off j c w) (c - j) (some (c - j))
theorem V.PD {κ : jq} {L0 : cj} {t e w q k off c j : Nat} {i : TI} {x y : Operand} {kd : IntKind} (hX : TK P aw zl) (ho : o.op = .slice t x (some y) none none) (ht : bY aw t = some (.slice e, q)) (he : bY aw e = some (i, w)) (hx : cU P L x = some (.slice k off c (some c))) (hy : cU P L y = some (.int kd (.ofNat j))) (hj : j ≤ c) (rr : dx κ L L0) (h : Heap) : cK P o L0 h (pK k off c j w) h :=
 cK.mk ho fun ev ha d ty ps aft g => by
  have hslice := (cM hX.aw ht).1
  obtain ⟨inf, hinf⟩ := (cM hX.aw ht).2
  have hwid := (cP hX.aw he).2
  have hel : cw P t = true := by simp only [cw, hslice, hinf]
  have hb1 : ch (some (.int kd (.ofNat j))) c 0 = some j := by
   show eE (.int kd (.ofNat j)) c = some j
   unfold eE
   show ae (Nat.ble j c) (some j) none = some j
   rw [show Nat.ble j c = true from by rw [eX]; exact decide_eq_true hj]; rfl
  have hb2 : ch none c c = some c := rfl
  simp only [bS, hel, bcT, evS ha (aF rr hx), Option.map_some, Option.map_none, evS ha (aF rr hy), fw, hslice, hb1, hb2, obS, hwid, HL.val]
  rfl
theorem rd.full {k off c j w : Nat} {rows : List (List aa)} (f : (rd (.slice k off c (some c)) w rows).holds h) (hj : j ≤ c) : (rd (pK k off c j w) w (rows.drop j)).holds h := by
 have hlen : c = rows.length := by
  have := f.slice.len
  simpa [dO] using this
 refine ⟨⟨?_, fun i r hr => ?_⟩, fun k' hk' => ?_⟩
 ·show some (c - j) = _
  rw [List.length_drop, hlen]
 ·rw [List.getElem?_drop] at hr
  have hi : j + i < rows.length := (List.getElem?_eq_some_iff.1 hr).1
  obtain ⟨k2, off2, cap, e, hrow⟩ := f.slice.row (j + i) r hr
  injection e with e1 e2
  subst e1 e2
  refine ⟨k, fq off j c w, some (c - j), ?_, ?_⟩
  ·unfold pK; rw [List.length_drop, ← hlen]
  ·have hne : Nat.beq j c = false := by rw [bD]; exact decide_eq_false (by omega)
   have : Nat.add (fq off j c w) (Nat.mul i w) = Nat.add off (Nat.mul (j + i) w) := by
    unfold fq
    rw [hne]
    simp only [bcF, Nat.add_eq, Nat.mul_eq, Nat.add_mul]
    omega
   rw [this]; exact hrow
 ·exact f.live k' (by simpa [sW, pK] using hk')
theorem Qb {cl : Call} {x y : Operand} {k j : IntKind} {a b : Int} (ho : o.op = .call cl) (hc : cl.callee = .builtin .max) (ha : cl.args = #[x, y]) (hx : cU P L x = some (.int k a)) (hy : cU P L y = some (.int j b)) (hw : aT ops o L = some true) (hf : fits o.dst n = true) (hr : R (bm o.dst (.ext (.int k (max a b))) L) B G) : bW P K E ops o L B G m n R :=
 qv hw hf (fun κ h L0 rr M => cK.mk ho fun ev hag d ty ps aft g => by
  have e : ae (HX a b) b a = max a b := by
   rw [mI]
   by_cases hab : a < b
   ·rw [decide_eq_true hab, bcT]; omega
   ·rw [decide_eq_false hab, bcF]; omega
  simp only [bS, hc, ha, List.map_cons, List.map_nil, dL, evS hag (aF rr hx), evS hag (aF rr hy), aa.isInt, obS, e]) hr
end
end
end Go.HL
namespace Go.HL
open Go
section
variable {P : Program} {K : ah} {aw : iO} {zl : List (Nat × List aa)} {E : eK} {ops : Array Oper} {o : Oper} {L : SL} {B B' : List bX} {G : List Part} {m n : Nat} {R : SL → List bX → List Part → Prop} {pl : List Nat} {al : List AX} {RA : List AX → SL → List bX → List Part → Prop}
theorem iZ.gD (i : Nat) (p : Nat → Part) {lc : List aa} {e : Nat} {s : Bool} {L2 : Nat → SL} (hb : nth B i = some (.own lc e s)) (hp : ∀ k, oF k lc e s (p k)) (hL : ∀ k, kF i k L some = some (L2 k)) (hB : qP B i .gone some = some B') (hw : ∀ k, iZ P K E aw ops pl al (L2 k) B' (p k :: G) m n RA) : iZ P K E aw ops pl al L B G m n RA := by
 refine ⟨fun κ h L0 al0 r M ha => ?_⟩
 obtain ⟨k, hk⟩ := M.own _ _ _ _ hb
 obtain ⟨L', h1, h2⟩ := fX hk r (hL k)
 cases h1
 rw [iz] at hB
 cases hB
 exact (hw k).run κ h L0 al0 h2 (M.gD hb hk ((hp k).holds h) (hp k).dR) ha
theorem iZ.Mq {i d : Nat} {v : aa} (hi : ops[i]? = some o) (hc : aB P o = false) (hr : cu P o = true) (hd : o.dst = some d) (hw : aT ops o L = some true) (hf : fits o.dst n = true) (hs : aa.beq v v = true) (hv : ∀ κ L0, dx κ L L0 → ∀ h, cK P o L0 h v h) (hk : iZ P K E aw ops pl (.je i :: al) (bm o.dst (.ext v) L) B G m n RA) : iZ P K E aw ops (i :: pl) al L B G m n RA := by
 refine ⟨fun κ h L0 al0 r M ha => WD.cons hi (gK.mono ((qv (R := fun L' B' G' => L' = bm o.dst (.ext v) L ∧ B' = B ∧ G' = G) hw hf (fun κ h L0 r _ => hv κ L0 r h) ⟨rfl, rfl, rfl⟩).run κ h L0 r M) ?_)⟩
 rintro L1 h1 ⟨κ', L', B', G', ⟨t, rfl⟩, r', M', rfl, rfl, rfl⟩
 refine ⟨.read i o L0 v :: al0, ?_, hk.run _ h1 L1 _ r' M' ⟨⟨rfl, hs, fun h2 _ _ => hv κ L0 r h2⟩, ha.more⟩⟩
 have hl : gO (bm o.dst (.ext v) L) d = some (.ext v) := by
  rw [hd]
  show ae (Nat.beq d d) (some (SV.ext v)) _ = _
  rw [Nat.beq_refl]; rfl
 obtain ⟨u, g1, g2⟩ := r'.look hl
 cases g2
 unfold oJ
 rw [hc, hr, bcF, bcT, hd]
 simp only [bj r hw, g1]
theorem iZ.sub {i d t u lo hi : Nat} {x : Operand} {yl yh : Option Operand} {bs r : List Nat} (hX : TK P aw zl) (hi0 : ops[i]? = some o) (hc : aB P o = false) (hrd : cu P o = true) (hd : o.dst = some d) (ho : o.op = .slice t x yl yh none) (ht : bY aw t = some (.str, u)) (hx : cU P L x = some (.str bs.length (aO bs 0))) (hh : Cw P L yh bs.length = some hi) (hl : Cw P L yl 0 = some lo) (h1 : lo ≤ hi) (h2 : hi ≤ bs.length) (hb : ∀ x ∈ bs, x < 256) (hr : (bs.take hi).drop lo = r) (hw : aT ops o L = some true) (hf : fits o.dst n = true)
  (hk : iZ P K E aw ops pl (.je i :: al) (bm o.dst (.ext (.str r.length (aO r 0))) L) B G m n RA) : iZ P K E aw ops (i :: pl) al L B G m n RA :=
 .Mq hi0 hc hrd hd hw hf (suB rfl) (fun _ _ rr h => V.Om hX ho ht hx hh hl h1 h2 hb hr rr h) hk
theorem iZ.PD {d t e w q k off c j p : Nat} {i : TI} {x y : Operand} {kd : IntKind} (hX : TK P aw zl) (hi0 : ops[p]? = some o) (hc : aB P o = false) (hrd : cu P o = true) (hd : o.dst = some d) (ho : o.op = .slice t x (some y) none none) (ht : bY aw t = some (.slice e, q)) (he : bY aw e = some (i, w)) (hx : cU P L x = some (.slice k off c (some c))) (hy : cU P L y = some (.int kd (.ofNat j))) (hj : j ≤ c) (hw : aT ops o L = some true) (hf : fits o.dst n = true)
  (hk : iZ P K E aw ops pl (.je p :: al) (bm o.dst (.ext (pK k off c j w)) L) B G m n RA) : iZ P K E aw ops (p :: pl) al L B G m n RA :=
 .Mq hi0 hc hrd hd hw hf (suB rfl) (fun _ _ rr h => V.PD hX ho ht he hx hy hj rr h) hk
theorem lG {p : Prop} {a : Nat} (b : Nat) (he : Ij P ops o L n = some p) (hp : p = ((a : Int) = (b : Int))) (h1 : a = b → R (bm o.dst (.ext (.bool true)) L) B G) (h0 : a ≠ b → R (bm o.dst (.ext (.bool false)) L) B G) : bW P K E ops o L B G m n R := by
 subst hp
 exact qc he (fun e => h1 (Int.ofNat.inj e)) fun e => h0 fun e' => e (congrArg Int.ofNat e')
end
end Go.HL
namespace Go.HL
open Go
section
variable {P : Program} {K : ah} {aw : iO} {zl : List (Nat × List aa)} {E : eK} {ops : Array Oper} {o : Oper} {L : SL} {B B' : List bX} {G G2 : List Part} {m n : Nat} {pl : List Nat} {al : List AX} {RA : List AX → SL → List bX → List Part → Prop}
def kj : List bX → List bX
 | [] => []
 | b :: B => match b with
  | .tmp _ => .gone :: kj B
  | .own l e s => .own l e s :: kj B
  | .ro l => .ro l :: kj B
  | .gone => .gone :: kj B
theorem yf : ∀ B : List bX, (kj B).length = B.length
 | [] => rfl
 | b :: B => by cases b <;> simp [kj, yf B]
theorem tJ : ∀ (B : List bX) (κ : jq), bg (kj B) κ = bg B κ
 | [], κ => rfl
 | b :: B, [] => by cases b <;> rfl
 | b :: B, p :: κ => by
  have ih := tJ B κ
  cases b with
  | own l e s => show eR p.1 l e s :: bg (kj B) κ = eR p.1 l e s :: bg B κ; rw [ih]
  | ro l => exact ih
  | tmp l => exact ih
  | gone => exact ih
theorem oK : ∀ {B : List bX} {i : Nat} {b : bX}, nth (kj B) i = some b → b = .gone ∨ nth B i = some b ∧ ∀ l, b ≠ .tmp l
 | [], i, b, h => by cases i <;> cases h
 | c :: B, 0, b, h => by
  cases c with
  | own l e s => cases h; exact .inr ⟨rfl, fun _ e => by cases e⟩
  | ro l => cases h; exact .inr ⟨rfl, fun _ e => by cases e⟩
  | tmp l => cases h; exact .inl rfl
  | gone => cases h; exact .inl rfl
 | c :: B, i + 1, b, h => by
  have : nth (kj B) i = some b := by cases c <;> exact h
  exact oK (B := B) (i := i) this
theorem Mem.kj {κ : jq} {h : Heap} (M : Mem E κ B G h) : Mem E κ (HL.kj B) G h := by
 refine ⟨by rw [tJ]; exact M.aZ, M.pre, by rw [yf]; exact M.len, ?_, ?_, ?_⟩
 ·intro i l e s hb
  rcases oK hb with h | ⟨h, _⟩
  ·cases h
  ·exact M.own i l e s h
 ·intro i l hb
  rcases oK hb with h | ⟨h, _⟩
  ·cases h
  ·exact M.ro i l h
 ·intro i l hb
  rcases oK hb with h | ⟨_, h⟩
  ·cases h
  ·exact absurd rfl (h l)
theorem iZ.EF {ops : Array Oper} (hB : HL.kj B = B') (hw : iZ P K E aw ops pl al L B' G m n RA) : iZ P K E aw ops pl al L B G m n RA := by
 subst hB
 exact ⟨fun κ h L0 al0 r M ha => hw.run κ h L0 al0 r M.kj ha⟩
theorem V.Je {κ : jq} {L0 : cj} {h : Heap} {t e k off c j q : Nat} {ti : TI} {x : Operand} {v : aa} {rows : List (List aa)} {cap : Option Nat} (hX : TK P aw zl) (ho : o.op = .load t x) (ht : bY aw t = some (ti, q)) (hag : ti.agg = false) (hx : cU P L x = some (.ptr k (Nat.add off (Nat.mul j 1)))) (hr : rows[j]? = some [v]) (r : dx κ L L0) (hh : (aL e 1 (.slice k off c cap) rows).holds h) : cK P o L0 h v h := by
 obtain ⟨k2, off2, cap2, e2, hrow⟩ := (aL.rd hh).slice.row j [v] hr
 injection e2 with e3 e4
 subst e3 e4
 exact V.Ni hX.aw ho ht hag (aF r hx) hrow rfl
theorem iZ.O5 {p d t e k off c j q : Nat} {ti : TI} {x : Operand} {v : aa} {rows : List (List aa)} {cap : Option Nat} (hX : TK P aw zl) (hi0 : ops[p]? = some o) (hc : aB P o = false) (hrd : cu P o = true) (hd : o.dst = some d) (ho : o.op = .load t x) (ht : bY aw t = some (ti, q)) (hag : ti.agg = false) (hx : cU P L x = some (.ptr k (Nat.add off (Nat.mul j 1)))) (hG : aS G (aL e 1 (.slice k off c cap) rows) G2) (hr : rows[j]? = some [v]) (hs : aa.beq v v = true) (hw : aT ops o L = some true) (hf : fits o.dst n = true)
  (hk : iZ P K E aw ops pl (.CL p (aL e 1 (.slice k off c cap) rows) :: al) (bm o.dst (.ext v) L) B G m n RA) : iZ P K E aw ops (p :: pl) al L B G m n RA := by
 refine ⟨fun κ h L0 al0 r M ha => WD.cons hi0 (gK.mono ((qv (R := fun L' B' G' => L' = bm o.dst (.ext v) L ∧ B' = B ∧ G' = G) hw hf (fun κ h L0 r M => V.Je hX ho ht hag hx hr r (M.aZ.all _ (List.mem_append_right _ hG.mem))) ⟨rfl, rfl, rfl⟩).run κ h L0 r M) ?_)⟩
 rintro L1 h1 ⟨κ', L', B', G', ⟨t, rfl⟩, r', M', rfl, rfl, rfl⟩
 refine ⟨.read p o L0 v :: al0, ?_, hk.run _ h1 L1 _ r' M' ⟨⟨rfl, hs, fun h2 hh => V.Je hX ho ht hag hx hr r hh⟩, ha.more⟩⟩
 have hl : gO (bm o.dst (.ext v) L) d = some (.ext v) := by
  rw [hd]
  show ae (Nat.beq d d) (some (SV.ext v)) _ = _
  rw [Nat.beq_refl]; rfl
 obtain ⟨u, g1, g2⟩ := r'.look hl
 cases g2
 unfold oJ
 rw [hc, hrd, bcF, bcT, hd]
 simp only [bj r hw, g1]
end
end Go.HL
namespace Go.HL
open Go
theorem Row.at {h : Heap} {k off : Nat} {l : List aa} (r : Row h k off l) : ∃ o, h.cells k = some o ∧ l.length ≤ (o.1.drop off).length ∧ (o.1.drop off).take l.length = l := by
 have hr := r.load
 unfold eh at hr
 obtain ⟨o, ho, e⟩ := ad.1 hr
 rw [bz, dr] at e
 split at e
 ·rename_i hle
  exact ⟨o, ho, hle, Option.some.inj e⟩
 ·cases e
theorem Row.of {h : Heap} {k off : Nat} {l : List aa} {o : List aa × Nat × Bool × Bool} (ho : h.cells k = some o) (h1 : l.length ≤ (o.1.drop off).length) (h2 : (o.1.drop off).take l.length = l) : Row h k off l := by
 constructor
 unfold eh
 rw [ho, obS, bz, dr, if_pos h1, h2]
theorem Row.cat {h : Heap} {k off : Nat} {a b : List aa} (ra : Row h k off a) (rb : Row h k (off + a.length) b) : Row h k off (a ++ b) := by
 obtain ⟨o, ho, a1, a2⟩ := ra.at
 obtain ⟨o2, ho2, b1, b2⟩ := rb.at
 rw [ho] at ho2
 cases ho2
 rw [← List.drop_drop] at b1 b2
 refine .of ho (by rw [List.length_drop] at b1; rw [List.length_append]; omega) ?_
 rw [List.length_append, List.take_add, a2, b2]
theorem rd.rows {h : Heap} {v : aa} {w : Nat} {rows : List (List aa)} (a : (rd v w rows).holds h) (h0 : 0 < rows.length) (hw : ∀ r ∈ rows, r.length = w) : ∃ k off cap, v = .slice k off rows.length cap ∧ Row h k off rows.flatten := by
 obtain ⟨k, off, cap, e, _⟩ := a.slice.row 0 _ (List.getElem?_eq_getElem h0)
 refine ⟨k, off, cap, e, ?_⟩
 have key : ∀ n, n ≤ rows.length → 0 < n → Row h k off (rows.take n).flatten := by
  intro n
  induction n with
  | zero => intro _ h; cases h
  | succ n ih =>
   intro hn _
   obtain ⟨k2, off2, cap2, e2, hrow⟩ := a.slice.row n _ (List.getElem?_eq_getElem (by omega))
   rw [e] at e2
   cases e2
   have ht : rows.take (n + 1) = rows.take n ++ [rows[n]] := by rw [List.take_add_one, List.getElem?_eq_getElem (by omega)]; rfl
   have hf : (rows.take n).flatten.length = n * w := by rw [dJ fun r hr => hw r (List.mem_of_mem_take hr), List.length_take, Nat.min_eq_left (by omega)]
   rw [ht, List.flatten_append, List.flatten_cons, List.flatten_nil, List.append_nil]
   rcases Nat.eq_zero_or_pos n with rfl | hp
   ·have : Row h k (Nat.add off (Nat.mul 0 w)) rows[0] := hrow
    rw [Nat.mul_eq, Nat.zero_mul, Nat.add_eq, Nat.add_zero] at this
    exact this
   ·refine (ih (by omega) hp).cat ?_
    rw [hf]
    exact hrow
 have := key rows.length (Nat.le_refl _) h0
 rwa [List.take_length] at this
section
variable {P : Program} {K : ah} {aw : iO} {zl : List (Nat × List aa)} {E : eK} {ops : Array Oper} {o : Oper} {L : SL} {B B' : List bX} {G G2 : List Part} {m n : Nat} {R : SL → List bX → List Part → Prop}
theorem App.none {h : Heap} {e w : Nat} {v : aa} {d : Option Nat} (hP : P.cellsOf e = w) (a : App h e w v 0 [] d) : dX P e v h = some (0, []) := by
 cases a with
 | aC => rfl
 | rest => rfl
 | full hg hl hd => simp only [dX, eh, bQ hg, obS, Nat.mul_eq, Nat.zero_mul, bz, Nat.zero_le, if_true, List.take_zero]
 | own hg hl hd => simp only [dX, eh, bQ hg, obS, Nat.mul_eq, Nat.zero_mul, bz, Nat.zero_le, if_true, List.take_zero]
end
end Go.HL
namespace Go.HL
open Go
section
variable {P : Program} {K : ah} {aw : iO} {zl : List (Nat × List aa)} {E : eK} {ops : Array Oper} {o : Oper} {L : SL} {B B' : List bX} {G G2 : List Part} {m n : Nat} {pl : List Nat} {al : List AX} {RA : List AX → SL → List bX → List Part → Prop}
end
end Go.HL
