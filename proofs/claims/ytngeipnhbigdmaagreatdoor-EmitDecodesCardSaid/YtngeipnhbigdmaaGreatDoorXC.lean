/- Runs of HL, the state known by signs: more rules. No statement of the seat stands here. -/
import Derived.Test.YtngeipnhbigdmaaGreatDoorXB
set_option linter.unusedVariables false
set_option linter.unusedSimpArgs false
namespace Go.HL
open Go
noncomputable section
section
variable {P : Program} {K : CallFn} {E : Env0} {ops : Array Oper} {o : Oper} {l : List Oper} {L L' : SL} {B B' : List Blk} {G G' G2 : List Part} {m n : Nat} {R : SL → List Blk → List Part → Prop} {Q : Ex → St → Prop} {a b c : Code} {tab : Tab} {zl : List (Nat × List HVal)} {h h' : Heap}
/-- a store of a value whose cells are said -/
theorem qst {t i off e : Nat} {s : Bool} {x y : Operand} {v : HVal} {lc l' new : List HVal} {ty : TI × Nat} (hX : TK P tab zl) (ho : o.op = .store t x y) (ht : tyL tab t = some ty) (hx : evX P L x = some (.ptr i off)) (hb : nth B i = some (.own lc e s)) (hy : evH P L y = some v) (hc : v.cells = some new) (hl : Nat.beq new.length ty.2 = true) (hov : overK lc off new some = some l') (hB : setBX B i (.own l' e s) some = some B')
    (hw : wantX ops o L = some true) (hf : fits o.dst n = true) (hr : R (putX o.dst (.ext undefH) L) B' G) : Op1X P K E ops o L B G m n R := by
  refine .comp hw hf (fun κ h L0 r M => evQ_sound hX r M (sv := .ext undefH) ?_) hr
  rw [ho]
  simp only [evQ, hx, ob_some, hb, hy, hc, ht, hl, bcase_true]
  rw [setBX_eq] at hB
  cases hB
  rw [overK_eq] at hov ⊢
  split at hov
  · rename_i hle
    cases hov
    rw [if_pos hle, setBX_eq]
  · cases hov
/-- a struct built of values whose cells are said -/
theorem qbuild {t u : Nat} {parts : Array (Nat × Operand)} {fs : List (Nat × Nat)} {ps : List (Nat × Nat × HVal)} {z cs : List HVal} (hX : TK P tab zl) (ho : o.op = .build t parts) (ht : tyL tab t = some (.struct fs, u)) (hz : zL zl t = some z) (ha : allTyped tab fs = true) (hp : placesX P tab L fs parts.toList = some ps) (hc : fillH ps z = some cs)
    (hw : wantX ops o L = some true) (hf : fits o.dst n = true) (hr : R (putX o.dst (.ext (.agg cs)) L) B G) : Op1X P K E ops o L B G m n R :=
  qv hw hf (fun κ h L0 r M => V.build hX.tab ho ht (hX.zero.look hz) (placesX_eq r hp) ha hc) hr
/-- a byte as cells -/
def bcell (b : Nat) : List HVal := [.int .u8 (b : Int)]
theorem bcells_flatten (bs : List Nat) : (bs.map bcell).flatten = byteCells bs := by
  induction bs with
  | nil => rfl
  | cons b bs ih => rw [List.map_cons, List.flatten_cons, ih]; rfl
/-- bytes of one's own, as a string -/
theorem qstr {s t e e' u w q : Nat} {x : Operand} {v : HVal} {bs : List Nat} (hX : TK P tab zl) (ho : o.op = .convert s t x) (hs : tyL tab s = some (.slice e, u)) (he : tyL tab e = some (.int .u8, q)) (ht : tyL tab t = some (.str, w)) (hx : evH P L x = some v)
    (hG : Pick G (ownS e' 1 v (bs.map bcell)) G2) (hn : ∀ k, v ≠ .rest k) (hb : ∀ b ∈ bs, b < 256) (hw : wantX ops o L = some true) (hf : fits o.dst n = true) (hr : R (putX o.dst (.ext (.str bs.length (codeN bs 0))) L) B G) : Op1X P K E ops o L B G m n R :=
  qv hw hf (fun κ h L0 r M => by
    obtain ⟨⟨d, ha⟩, _⟩ := M.chg.all _ (List.mem_append_right _ hG.mem)
    exact V.strOf hX.tab ho hs he ht (evH_eq r hx) hn ha (bcells_flatten bs) hb) hr
theorem Sp.mono {f : Nat} {args : List HVal} {R R' : HVal → Heap → Prop} (s : Sp P K f args h R) (hr : ∀ v h', R v h' → R' v h') : Sp P K f args h R' := let ⟨v, h', d, r⟩ := s; ⟨v, h', d, hr v h' r⟩
theorem TrP.mono {k : Nat} {l : List HVal} {e : Nat} {s : Bool} {φ ψ : HVal → List HVal → List Part → Prop} {h h' : Heap} {v : HVal} (t : TrP k l e s φ h v h') (hφ : ∀ v l' C', φ v l' C' → ψ v l' C') : TrP k l e s ψ h v h' := let ⟨l', C', c, p⟩ := t; ⟨l', C', c, hφ _ _ _ p⟩
theorem Tr.mono {φ ψ : HVal → List Part → Prop} {h h' : Heap} {v : HVal} (t : Tr φ h v h') (hφ : ∀ v C', φ v C' → ψ v C') : Tr ψ h v h' := let ⟨C', c, p⟩ := t; ⟨C', c, hφ _ _ p⟩
theorem wrap_sub {i k : Nat} (h : i ≤ k) (hk : k < 9223372036854775808) : wrapF .i64 ((k : Int) - (i : Int)) = ((k - i : Nat) : Int) := by rw [wrapF_i64 (by omega) (by omega)]; omega
theorem wrap_mul64 {a b : Nat} (h : a * b < 18446744073709551616) : wrapF .u64 ((a : Int) * (b : Int)) = ((a * b : Nat) : Int) := by
  rw [← Int.natCast_mul]; exact wrapF_u64_nat h
end
end
end Go.HL
namespace Go.HL
open Go
noncomputable section
section
variable {P : Program} {K : CallFn} {E : Env0} {ops : Array Oper} {o : Oper} {l : List Oper} {L L' : SL} {B B' : List Blk} {G G' G2 : List Part} {m n : Nat} {R : SL → List Blk → List Part → Prop} {Q : Ex → St → Prop} {a b c : Code} {tab : Tab} {zl : List (Nat × List HVal)} {h h' : Heap}
/-- block i has the key k from now on -/
def leakL (i k : Nat) : SL → (SL → Option SL) → Option SL
  | [], f => f []
  | (t, v) :: l, f => match v with
    | .ext u => leakL i k l fun r => f ((t, .ext u) :: r)
    | .ptr j off => bcase (Nat.beq j i) (leakL i k l fun r => f ((t, .ext (.ptr k off)) :: r)) (leakL i k l fun r => f ((t, .ptr j off) :: r))
    | .sl j n => bcase (Nat.beq j i) (leakL i k l fun r => f ((t, .ext (.slice k 0 n (some n))) :: r)) (leakL i k l fun r => f ((t, .sl j n) :: r))
theorem leakL_rep {κ : PlX} {i k : Nat} (hk : nth κ i = some (k, 0)) : ∀ {L : SL} {L0 : Sts}, RepL κ L L0 → ∀ {f : SL → Option SL} {R : SL}, leakL i k L f = some R → ∃ L', f L' = some R ∧ RepL κ L' L0
  | [], _, .nil, f, R, h => ⟨[], h, .nil⟩
  | (t, v) :: L, _, .cons (v := w) hx ht, f, R, h => by
    cases v with
    | ext u =>
      obtain ⟨L', h1, h2⟩ := leakL_rep hk ht (show leakL i k L _ = some R from h)
      exact ⟨_, h1, .cons hx h2⟩
    | ptr j off =>
      have h : bcase (Nat.beq j i) (leakL i k L fun r => f ((t, .ext (.ptr k off)) :: r)) (leakL i k L fun r => f ((t, .ptr j off) :: r)) = some R := h
      cases hb : Nat.beq j i with
      | true =>
        rw [hb, bcase_true] at h
        obtain ⟨L', h1, h2⟩ := leakL_rep hk ht h
        refine ⟨_, h1, .cons ?_ h2⟩
        have := Nat.eq_of_beq_eq_true hb
        subst this
        cases hx with
        | ptr hk2 => rw [hk] at hk2; cases hk2; simp only [Nat.add_eq, Nat.zero_add]; exact .ext _
      | false =>
        rw [hb, bcase_false] at h
        obtain ⟨L', h1, h2⟩ := leakL_rep hk ht h
        exact ⟨_, h1, .cons hx h2⟩
    | sl j q =>
      have h : bcase (Nat.beq j i) (leakL i k L fun r => f ((t, .ext (.slice k 0 q (some q))) :: r)) (leakL i k L fun r => f ((t, .sl j q) :: r)) = some R := h
      cases hb : Nat.beq j i with
      | true =>
        rw [hb, bcase_true] at h
        obtain ⟨L', h1, h2⟩ := leakL_rep hk ht h
        refine ⟨_, h1, .cons ?_ h2⟩
        have := Nat.eq_of_beq_eq_true hb
        subst this
        cases hx with
        | sl hk2 => rw [hk] at hk2; cases hk2; exact .ext _
      | false =>
        rw [hb, bcase_false] at h
        obtain ⟨L', h1, h2⟩ := leakL_rep hk ht h
        exact ⟨_, h1, .cons hx h2⟩
theorem Mem.leak {κ : PlX} (M : Mem E κ B G h) {i k e : Nat} {lc : List HVal} {s : Bool} (hb : nth B i = some (.own lc e s)) (hk : nth κ i = some (k, 0)) {p : Part} (hp : (pts k lc e s).holds h → p.holds h) (hf : ∀ j, p.foot j → j = k) : Mem E κ (B.set i .gone) (p :: G) h := by
  obtain ⟨R, h3, _, h5⟩ := partsB_split hb hk
  have c := M.chg.perm (B' := pts k lc e s :: (R ++ G)) (by simpa using List.Perm.append_right G h3)
  have c2 : Chg E.C E.h (p :: (R ++ G)) h := by
    have hd := List.pairwise_cons.1 c.disj
    refine ⟨c.wf, c.next, c.keep, ?_, List.pairwise_cons.2 ⟨fun r hr j hj hrj => hd.1 r hr j (hf j hj) hrj, hd.2⟩, ?_⟩
    · intro r hr
      rcases List.mem_cons.1 hr with rfl | hr
      · exact hp (c.all _ (by simp))
      · exact c.all r (by simp [hr])
    · intro r hr j hj
      rcases List.mem_cons.1 hr with rfl | hr
      · exact c.own (pts k lc e s) (by simp) j (hf j hj)
      · exact c.own r (by simp [hr]) j hj
  refine ⟨c2.perm ?_, M.pre, by rw [List.length_set]; exact M.len, ?_, ?_, ?_⟩
  · exact (List.Perm.cons _ (List.Perm.append_right G h5.symm)).trans List.perm_middle.symm
  · intro j l' a b hj
    rcases nth_set hj with ⟨rfl, e⟩ | ⟨_, hj⟩
    · cases e
    · exact M.own j l' a b hj
  · intro j l' hj
    rcases nth_set hj with ⟨rfl, e⟩ | ⟨_, hj⟩
    · cases e
    · exact M.ro j l' hj
  · intro j l' hj
    rcases nth_set hj with ⟨rfl, e⟩ | ⟨_, hj⟩
    · cases e
    · obtain ⟨k2, o, g1, g2, g, g3, g4⟩ := M.tmp j l' hj
      exact ⟨k2, o, g1, g2, g, by simp [g3], g4⟩
/-- what a block with the key k is as a part -/
structure AsPart (k : Nat) (lc : List HVal) (e : Nat) (s : Bool) (p : Part) : Prop where
  holds : ∀ h, (pts k lc e s).holds h → p.holds h
  foot : ∀ j, p.foot j → j = k
theorem AsPart.pts (k : Nat) (lc : List HVal) (e : Nat) (s : Bool) : AsPart k lc e s (HL.pts k lc e s) := ⟨fun _ hh => hh, fun _ e => e⟩
theorem AsPart.own {k e e' w n : Nat} {lc : List HVal} {s : Bool} {rows : List (List HVal)} (hl : rows.flatten = lc) (hw : ∀ r ∈ rows, r.length = w) (hn : rows.length = n) : AsPart k lc e s (ownS e' w (.slice k 0 n (some n)) rows) := by
  subst hn
  refine ⟨fun h hh => ⟨⟨none, .full hh (flatten_len hw) ?_⟩, hw⟩, fun j hj => ?_⟩
  · rw [← hl, List.drop_zero, List.take_of_length_le (by rw [flatten_len hw]; exact Nat.le_refl _)]
  · have : k = j := by simpa [ownS, keyW] using hj
    exact this.symm
theorem WOX.leak (i : Nat) (p : Nat → Part) {lc : List HVal} {e : Nat} {s : Bool} {L2 : Nat → SL} (hb : nth B i = some (.own lc e s)) (hp : ∀ k, AsPart k lc e s (p k)) (hL : ∀ k, leakL i k L some = some (L2 k)) (hB : setBX B i .gone some = some B') (hw : ∀ k, WOX P K E ops l (L2 k) B' (p k :: G) m n R) : WOX P K E ops l L B G m n R := by
  refine ⟨fun κ h L0 r M => ?_⟩
  obtain ⟨k, hk⟩ := M.own _ _ _ _ hb
  obtain ⟨L', h1, h2⟩ := leakL_rep hk r (hL k)
  cases h1
  rw [setBX_eq] at hB
  cases hB
  exact (hw k).run κ h L0 h2 (M.leak hb hk ((hp k).holds h) (hp k).foot)
theorem WCX.leak (i : Nat) (p : Nat → Part) {lc : List HVal} {e : Nat} {s : Bool} {L2 : Nat → SL} (hb : nth B i = some (.own lc e s)) (hp : ∀ k, AsPart k lc e s (p k)) (hL : ∀ k, leakL i k L some = some (L2 k)) (hB : setBX B i .gone some = some B') (hw : ∀ k, WCX P K E c (L2 k) B' (p k :: G) m n Q) : WCX P K E c L B G m n Q := by
  refine ⟨fun κ h L0 r M => ?_⟩
  obtain ⟨k, hk⟩ := M.own _ _ _ _ hb
  obtain ⟨L', h1, h2⟩ := leakL_rep hk r (hL k)
  cases h1
  rw [setBX_eq] at hB
  cases hB
  exact (hw k).run κ h L0 h2 (M.leak hb hk ((hp k).holds h) (hp k).foot)
theorem ToX.leak {ex : Ex} (i : Nat) (p : Nat → Part) {lc : List HVal} {e : Nat} {s : Bool} {L2 : Nat → SL} (hb : nth B i = some (.own lc e s)) (hp : ∀ k, AsPart k lc e s (p k)) (hL : ∀ k, leakL i k L some = some (L2 k)) (hB : setBX B i .gone some = some B') (hw : ∀ k, ToX E Q ex (L2 k) B' (p k :: G) m n) : ToX E Q ex L B G m n := by
  refine ⟨fun κ h L0 r M => ?_⟩
  obtain ⟨k, hk⟩ := M.own _ _ _ _ hb
  obtain ⟨L', h1, h2⟩ := leakL_rep hk r (hL k)
  cases h1
  rw [setBX_eq] at hB
  cases hB
  exact (hw k).run κ h L0 h2 (M.leak hb hk ((hp k).holds h) (hp k).foot)
theorem rd_len {v : HVal} {w : Nat} {α : Type} {g : α → List HVal} {l : List α} (f : (rd v w (l.map g)).holds h) : lenV v = some l.length := by
  have := f.slice.len; rwa [List.length_map] at this
/-- a call of which all is known beforehand -/
theorem Sp.known {f : Nat} {args : List HVal} {v : HVal} {φ : HVal → Heap → Prop} (hk : K f args h = some (.ret v, h')) (hr : φ v h') : Sp P K f args h φ := ⟨v, h', .known hk, hr⟩
/-- is a string a known one? -/
theorem qce {t p u c u' c' : Nat} {x y : Operand} (ho : o.op = .binOp .eql t x y p) (hx : evH P L x = some (.str u c)) (hy : evH P L y = some (.str u' c')) (hw : wantX ops o L = some true) (hf : fits o.dst n = true) (h1 : (u = u' ∧ c = c') → R (putX o.dst (.ext (.bool true)) L) B G) (h0 : ¬ (u = u' ∧ c = c') → R (putX o.dst (.ext (.bool false)) L) B G) : Op1X P K E ops o L B G m n R := by
  by_cases hp : u = u' ∧ c = c'
  · exact qv hw hf (fun κ h L0 r M => by have := V.eqS (h := h) ho (evH_eq r hx) (evH_eq r hy); rwa [decide_eq_true hp] at this) (h1 hp)
  · exact qv hw hf (fun κ h L0 r M => by have := V.eqS (h := h) ho (evH_eq r hx) (evH_eq r hy); rwa [decide_eq_false hp] at this) (h0 hp)
theorem qcn {t p u c u' c' : Nat} {x y : Operand} (ho : o.op = .binOp .neq t x y p) (hx : evH P L x = some (.str u c)) (hy : evH P L y = some (.str u' c')) (hw : wantX ops o L = some true) (hf : fits o.dst n = true) (h1 : ¬ (u = u' ∧ c = c') → R (putX o.dst (.ext (.bool true)) L) B G) (h0 : (u = u' ∧ c = c') → R (putX o.dst (.ext (.bool false)) L) B G) : Op1X P K E ops o L B G m n R := by
  by_cases hp : u = u' ∧ c = c'
  · exact qv hw hf (fun κ h L0 r M => by have := V.neqS (h := h) ho (evH_eq r hx) (evH_eq r hy); rwa [decide_eq_false (fun hn => hn hp)] at this) (h0 hp)
  · exact qv hw hf (fun κ h L0 r M => by have := V.neqS (h := h) ho (evH_eq r hx) (evH_eq r hy); rwa [decide_eq_true hp] at this) (h1 hp)
/-- the first elements -/
def takeV (v : HVal) (j : Nat) : HVal := match v with
  | .slice k off _ none => .slice k off j none
  | v => v
theorem rd.take {v : HVal} {w j : Nat} {rows : List (List HVal)} (hl : Loose v) (f : (rd v w rows).holds h) (hj : j < rows.length) : (rd (takeV v j) w (rows.take j)).holds h := by
  have hlen := f.slice.len
  cases hl with
  | nils => exact absurd (Option.some.inj hlen) (by omega)
  | empty => exact absurd (Option.some.inj hlen) (by omega)
  | slice k off c =>
    refine ⟨⟨by simp [takeV, lenV]; omega, fun i r hr => ?_⟩, fun k2 hk2 => f.live k2 hk2⟩
    rw [List.getElem?_take] at hr
    split at hr
    · obtain ⟨k', off', cap', e1, hrow⟩ := f.slice.2 i r hr
      cases e1
      refine ⟨k, off, none, ?_, hrow⟩
      rw [List.length_take, Nat.min_eq_left (by omega)]; rfl
    · cases hr
theorem V.hi {L : Sts} {t e w q j : Nat} {i : TI} {x y : Operand} {v : HVal} {rows : List (List HVal)} (hT : tabOk P tab = true) (ho : o.op = .slice t x none (some y) none) (ht : tyL tab t = some (.slice e, q)) (he : tyL tab e = some (i, w))
    (hx : evL P L x = some v) (hy : evL P L y = some (.int .i64 (.ofNat j))) (hl : Loose v) (f : (rd v w rows).holds h) (hj : j < rows.length) : OpV P o L h (takeV v j) h := by
  have hslice := (tab_slice hT ht).1
  obtain ⟨inf, hinf⟩ := (tab_slice hT ht).2
  have hel : elemOk P t = true := by simp only [elemOk, hslice, hinf]
  have hop : ∀ {v' : HVal}, sliceH P h t v none (some (.int .i64 (.ofNat j))) none = some v' → OpV P o L h v' h := fun {v'} e => OpV.mk ho fun ev ha d ty ps aft g => by
    simp only [opH, hel, bcase_true, evL_sound ha hx, Option.map_some, evL_sound ha hy, Option.map_none, e, HL.val, ob_some]
  have hb1 : ∀ y d, j ≤ y → boundO (some (.int .i64 (.ofNat j))) y d = some j := by
    intro y d hy
    have : Nat.ble j y = true := by rw [nble]; exact decide_eq_true hy
    show bcase (Nat.ble j y) (some j) none = some j
    rw [this]; rfl
  have hlen := f.slice.len
  cases hl with
  | nils => exact absurd (Option.some.inj hlen) (by omega)
  | empty => exact absurd (Option.some.inj hlen) (by omega)
  | slice k off c =>
    have hc : c = rows.length := by simpa [lenV] using hlen
    refine hop ?_
    have htop : topH P h k off c e (some (.int .i64 (.ofNat j))) = c := by
      unfold topH
      show bcase (Nat.ble j c) c _ = c
      have : Nat.ble j c = true := by rw [nble]; exact decide_eq_true (by omega)
      rw [this]; rfl
    simp only [sliceH, hslice, htop, hb1 c c (by omega), ob_some]; rfl
theorem qhi {t e w q j : Nat} {i : TI} {x y : Operand} {v : HVal} {rows : List (List HVal)} (hX : TK P tab zl) (ho : o.op = .slice t x none (some y) none) (ht : tyL tab t = some (.slice e, q)) (he : tyL tab e = some (i, w))
    (hx : evH P L x = some v) (hy : evH P L y = some (.int .i64 (.ofNat j))) (hl : Loose v) (hs : ∀ h, Fin E B G h → (rd v w rows).holds h) (hj : j < rows.length) (hw : wantX ops o L = some true) (hf : fits o.dst n = true) (hr : R (putX o.dst (.ext (takeV v j)) L) B G) : Op1X P K E ops o L B G m n R :=
  qv hw hf (fun κ h L0 r M => V.hi hX.tab ho ht he (evH_eq r hx) (evH_eq r hy) hl (hs h ⟨κ, M⟩) hj) hr
/-- how long a slice of one's own is -/
theorem qlG {cl : Call} {x : Operand} {t e e' w q : Nat} {v : HVal} {rows : List (List HVal)} (hX : TK P tab zl) (ho : o.op = .call cl) (hc : cl.callee = .builtin .len) (hx : cl.args = #[x]) (hts : cl.argTypes[0]? = some t) (ht : tyL tab t = some (.slice e, q)) (hs : evH P L x = some v) (hG : Pick G (ownS e' w v rows) G2) (hw : wantX ops o L = some true) (hf : fits o.dst n = true) (hr : R (putX o.dst (.ext (.int .i64 (rows.length : Int))) L) B G) : Op1X P K E ops o L B G m n R :=
  qv hw hf (fun κ h L0 r M => V.len hX.tab ho hc hx hts ht (evH_eq r hs) (ownS.rd (M.chg.all _ (List.mem_append_right _ hG.mem))).slice.len) hr
/-- an element of an array in a block of one's own -/
theorem qidxA {t e w i u off lim : Nat} {z : Int} {ti : TI} {x y : Operand} {kd : IntKind} (hX : TK P tab zl) (ho : o.op = .indexAddr t x y) (ht : tyL tab t = some (.array lim e, u)) (he : tyL tab e = some (ti, w)) (hx : evX P L x = some (.ptr i off)) (hy : evH P L y = some (.int kd z)) (h0 : 0 ≤ z) (hj : z < (lim : Int)) (hw : wantX ops o L = some true) (hf : fits o.dst n = true)
    (hr : R (putX o.dst (.ptr i (Nat.add off (Nat.mul z.toNat w))) L) B G) : Op1X P K E ops o L B G m n R := by
  obtain ⟨j, rfl⟩ := Int.eq_ofNat_of_zero_le h0
  refine .comp hw hf (fun κ h L0 r M => ?_) hr
  obtain ⟨v, g1, g2⟩ := evX_rep r hx
  cases g2 with
  | @ptr _ _ k o2 hk =>
    refine .same (v := .ptr k (Nat.add (Nat.add o2 off) (Nat.mul j w))) (OpV.mk ho fun ev ha d ty ps aft g => ?_) ?_ M
    · obtain ⟨hu, inf, hi⟩ := tab_array hX.tab ht
      have h1 : elemOk P t = true := by simp only [elemOk, hu, hi]
      have h2 : Nat.blt j lim = true := by rw [nblt]; exact decide_eq_true (by omega)
      have e1 := evL_sound ha g1
      have e2 := evL_sound ha (evH_eq r hy)
      simp only [opH, h1, bcase_true, e1, e2, HVal.isNat, natOf, ob_some, hu, HVal.isPtr, h2, (tab_ok hX.tab he).2]
    · have := Rep.ptr (κ := κ) (off := Nat.add off (Nat.mul (Int.toNat (j : Int)) w)) hk
      simp only [Nat.add_eq, ← Nat.add_assoc, Int.toNat_natCast] at this ⊢
      exact this
/-- a load of which the cells are said -/
theorem qld {t i off : Nat} {x : Operand} {b : Blk} {lc m' : List HVal} {w : TI × Nat} (hX : TK P tab zl) (ho : o.op = .load t x) (hx : evX P L x = some (.ptr i off)) (hb : nth B i = some b) (hl : b.cells = some lc) (ht : tyL tab t = some w) (ha : w.1.agg = true) (hm : takeK (dropN lc off) w.2 some = some m') (hw : wantX ops o L = some true) (hf : fits o.dst n = true) (hr : R (putX o.dst (.ext (.agg m')) L) B G) : Op1X P K E ops o L B G m n R := by
  refine .comp hw hf (fun κ h L0 r M => evQ_sound hX r M (sv := .ext (.agg m')) ?_) hr
  rw [ho]
  simp only [evQ, hx, ob_some, hb, hl, ht, ha, bcase_true]
  rw [takeK_eq] at hm ⊢
  split at hm
  · rename_i hle
    cases hm
    rw [if_pos hle]
  · cases hm
end
end
end Go.HL
namespace Go.HL
open Go
noncomputable section
section
variable {P : Program} {K : CallFn} {E : Env0} {ops : Array Oper} {o : Oper} {l : List Oper} {L L' : SL} {B B' : List Blk} {G G' G2 : List Part} {m n : Nat} {R : SL → List Blk → List Part → Prop} {Q : Ex → St → Prop} {a b c : Code} {tab : Tab} {zl : List (Nat × List HVal)} {h h' : Heap}
theorem Mem.startG {g : Part} (w : Wf h) (hg : g.holds h) : Mem ⟨[g], h, []⟩ [] [] [g] h := by
  refine ⟨⟨w, Nat.le_refl _, fun e _ => e, ?_, List.pairwise_singleton _ _, ?_⟩, ⟨[], rfl⟩, rfl, ?_, ?_, ?_⟩
  · intro r hr
    have : r = g := by simpa [partsB] using hr
    subst this; exact hg
  · intro r hr j hj
    exact .inl ⟨r, by simpa [partsB] using hr, hj⟩
  · intro i l' e' s' hb
    rw [nth_eq] at hb
    simp at hb
  all_goals
    intro i l' hb
    rw [nth_eq] at hb
    simp at hb
/-- a function that may change a part -/
theorem Sp.startG {f : Nat} {g : Part} {fn : Func} {c : Code} {args : List HVal} {R : HVal → Heap → Prop} (w : Wf h) (hg : g.holds h) (hK : K f args h = none) (hf : P.funcs[f]? = some fn) (hb : fn.body = some c) (hlt : Nat.blt f roundNo = true)
    (hm : Nat.lor (maskOf fn) (Nat.sub (Nat.pow 2 args.length) 1) = m) (hl : Nat.add args.length (Nat.sub fn.ntmps args.length) = n) (hn : numE args = some L)
    (hw : WCX P K ⟨[g], h, []⟩ c L [] [g] m n (FnQ P fn R)) : Sp P K f args h R :=
  Sp.all hK hf hb hlt hm hl (hw.run [] h _ (numE_rep hn) (Mem.startG w hg))
/-- the contract of a function that may change a part -/
def TrG (g : Part) (φ : HVal → List Part → Prop) (h : Heap) (v : HVal) (h' : Heap) : Prop := ∃ C', Chg [g] h C' h' ∧ φ v C'
theorem qcallG {cl : Call} {x : Operand} {f : Nat} {args : List HVal} {g : Part} {φ : HVal → List Part → Prop} (ho : o.op = .call cl) (hc : cl.callee = .value x) (hx : evH P L x = some (.func f [] [])) (ha : argsH P L cl.args.toList = some args) (hf : Callable P f) (hw : wantX ops o L = some true) (hfit : fits o.dst n = true) (hG : Pick G g G2) (hn : noTmp B = true)
    (hs : ∀ h, Fin E B G h → g.holds h → (∀ a, Ro E.C E.h a → Ro [g] h a) → (∀ a ∈ G2, Ro [g] h a) → Sp P K f args h (TrG g φ h)) (hr : ∀ v C', φ v C' → R (putX o.dst (.ext v) L) B (C' ++ G2)) : Op1X P K E ops o L B G m n R := by
  refine ⟨fun κ h L0 r M => ?_⟩
  have hmem : g ∈ partsB B κ ++ G := List.mem_append_right _ hG.mem
  have hap : ∀ a ∈ G2, Ro [g] h a := fun a hag => by
    have hp := M.chg.disj
    have hd := (List.pairwise_append.1 hp).2.1
    have hd2 := pairwise_perm hG.perm hd
    refine ⟨M.chg.all a (List.mem_append_right _ (hG.perm.mem_iff.2 (by simp [hag]))), fun q hq => ?_⟩
    have : q = g := by simpa using hq
    subst this
    exact ((List.pairwise_cons.1 hd2).1 a hag).symm
  refine Op1.sp (C.call ho hc (evH_eq r hx) (argsH_eq r ha) hf) (wantX_eq r hw) hfit (hs h ⟨κ, M⟩ (M.chg.all _ hmem) (fun a ra => ra.narrow M hmem) hap) ?_
  rintro v h' ⟨C', d, hφ⟩
  exact ⟨κ, _, _, _, pfx_refl κ, r.put (.ext v) o.dst, M.callG hG d hn, hr v C' hφ⟩
/-- the place of an element of one cell of a slice of one's own -/
theorem qidxW {t e q j len k off w : Nat} {i : TI} {x y : Operand} {kd : IntKind} {cap : Option Nat} (hX : TK P tab zl) (ho : o.op = .indexAddr t x y) (ht : tyL tab t = some (.slice e, q)) (he : tyL tab e = some (i, w)) (hx : evH P L x = some (.slice k off len cap)) (hy : evH P L y = some (.int kd (.ofNat j))) (hj : j < len) (hw : wantX ops o L = some true) (hf : fits o.dst n = true) (hk : R (putX o.dst (.ext (.ptr k (Nat.add off (Nat.mul j w)))) L) B G) : Op1X P K E ops o L B G m n R :=
  qv hw hf (fun κ h L0 r M => V.indexAddr hX.tab ho ht he (evH_eq r hx) (evH_eq r hy) hj) hk
theorem ones {rows : List (List HVal)} (hr : ∀ r ∈ rows, r.length = 1) {j : Nat} {v : HVal} : (rows.set j [v]).flatten = rows.flatten.set j v := by
  induction rows generalizing j with
  | nil => rfl
  | cons r rows ih =>
    have h1 := hr r (by simp)
    obtain ⟨u, rfl⟩ : ∃ u, r = [u] := by cases r with | nil => cases h1 | cons u r => cases r with | nil => exact ⟨u, rfl⟩ | cons => cases h1
    cases j with
    | zero => rfl
    | succ j =>
      have := ih (fun q hq => hr q (by simp [hq])) (j := j)
      simp [this]
/-- a store into such a place -/
theorem qstW {t e k off len j : Nat} {ti : TI} {x y : Operand} {v : HVal} {rows : List (List HVal)} (hX : TK P tab zl) (ho : o.op = .store t x y) (ht : tyL tab t = some (ti, 1)) (hx : evH P L x = some (.ptr k (Nat.add off (Nat.mul j 1)))) (hy : evH P L y = some v) (hc : v.cells = some [v]) (hG : Pick G (ownS e 1 (.slice k off len none) rows) G2) (hj : j < rows.length) (hn : noTmp B = true) (hw : wantX ops o L = some true) (hf : fits o.dst n = true)
    (hr : R (putX o.dst (.ext undefH) L) B (ownS e 1 (.slice k off len none) (rows.set j [v]) :: G2)) : Op1X P K E ops o L B G m n R := by
  refine ⟨fun κ h L0 r M => ?_⟩
  obtain ⟨⟨d, ha⟩, hrl⟩ := M.chg.all _ (List.mem_append_right _ hG.mem)
  have hfl := flatten_len hrl
  generalize hcc : rows.length = cc at ha hj hfl
  generalize hll : rows.flatten = fl at ha hfl
  cases ha with
  | @own _ _ _ LL _ hg hl hd =>
    have hov : overK LL (Nat.add off (Nat.mul j 1)) [v] some = some (LL.set (off + j) v) := by
      rw [overK_eq]
      simp only [Nat.add_eq, Nat.mul_eq, Nat.mul_one, List.length_singleton]
      rw [if_pos (.inr (by omega)), List.set_eq_take_append_cons_drop, if_pos (by omega)]
      simp
    refine Op1.val (V.storeP hX.tab ho ht (evH_eq r hx) (evH_eq r hy) hc rfl hg hov) (wantX_eq r hw) hf ?_
    have p := put_put M.wf (.cells (LL.set (off + j) v) e true true) (M.wf.lt hg)
    refine ⟨κ, _, _, _, pfx_refl κ, r.put (.ext _) o.dst, M.callG (C' := [ownS e 1 (.slice k off len none) (rows.set j [v])]) hG ?_ hn, hr⟩
    refine ⟨p.wf, Nat.le_of_eq p.next.symm, fun {i o} hi hno => ?_, ?_, List.pairwise_singleton _ _, ?_⟩
    · rw [p.old i (fun e => hno _ (List.mem_singleton.2 rfl) (by rw [e]; rfl))]; exact hi
    · intro q hq
      simp only [List.mem_singleton] at hq
      subst hq
      refine ⟨⟨some k, ?_⟩, fun r hr => ?_⟩
      · rw [ones hrl, hll, List.length_set, hcc]
        refine .own p.get (by rw [List.length_set]; exact hl) ?_
        rw [← hd, List.drop_set]
        rw [if_neg (by omega), Nat.add_sub_cancel_left]
      · rcases List.mem_or_eq_of_mem_set hr with hr | hr
        · exact hrl r hr
        · rw [hr]; rfl
    · intro q hq i hi
      simp only [List.mem_singleton] at hq
      subst hq
      exact .inl ⟨_, List.mem_singleton.2 rfl, hi⟩
/-- all of a block, as a slice that is read -/
theorem Ro.sl {C : List Part} {k e w n : Nat} {lc : List HVal} {s : Bool} {rows : List (List HVal)} (r : Ro C h (pts k lc e s)) (hl : rows.flatten = lc) (hw : ∀ r ∈ rows, r.length = w) (hn : rows.length = n) : Ro C h (rd (.slice k 0 n (some n)) w rows) := by
  have a : AsPart k lc e s (ownS e w (.slice k 0 n (some n)) rows) := .own hl hw hn
  refine ⟨ownS.rd (a.holds h r.holds), fun q hq j hj => r.away q hq j ?_⟩
  have : k = j := by simpa [rd, keyV] using hj
  exact this.symm
theorem Mem.ptsRo {κ : PlX} (M : Mem E κ B G h) {g : Part} (hG : Pick G g G2) {i k e : Nat} {lc : List HVal} {s : Bool} (hb : nth B i = some (.own lc e s)) (hk : nth κ i = some (k, 0)) : Ro [g] h (pts k lc e s) :=
  ⟨M.chg.all _ (List.mem_append_left _ (partsB_mem hb hk)), fun q hq => by
    have : q = g := by simpa using hq
    subst this
    exact (List.pairwise_append.1 M.chg.disj).2.2 _ (partsB_mem hb hk) _ hG.mem⟩
/-- a call that may change a part; its last argument is all of a block -/
theorem qcallGS {cl : Call} {x x1 y : Operand} {f i sn e : Nat} {lc : List HVal} {s : Bool} {v1 : HVal} {g : Part} {φ : HVal → List Part → Prop} (ho : o.op = .call cl) (hc : cl.callee = .value x) (hx : evH P L x = some (.func f [] [])) (ha : cl.args.toList = [x1, y]) (h1 : evH P L x1 = some v1) (hy : evX P L y = some (.sl i sn)) (hb : nth B i = some (.own lc e s)) (hf : Callable P f) (hw : wantX ops o L = some true) (hfit : fits o.dst n = true) (hG : Pick G g G2) (hn : noTmp B = true)
    (hs : ∀ k h, Fin E B G h → g.holds h → Ro [g] h (pts k lc e s) → Sp P K f [v1, .slice k 0 sn (some sn)] h (TrG g φ h)) (hr : ∀ v C', φ v C' → R (putX o.dst (.ext v) L) B (C' ++ G2)) : Op1X P K E ops o L B G m n R := by
  refine ⟨fun κ h L0 r M => ?_⟩
  obtain ⟨k, hk⟩ := M.own _ _ _ _ hb
  obtain ⟨w, g1, g2⟩ := evX_rep r hy
  have hw0 : w = .slice k 0 sn (some sn) := by
    cases g2 with
    | sl hk2 => rw [hk] at hk2; cases hk2; rfl
  subst hw0
  have hargs : argsV P L0 cl.args.toList = some [v1, .slice k 0 sn (some sn)] := by rw [ha]; simp only [argsV, evH_eq r h1, g1, ob_some]
  refine Op1.sp (C.call ho hc (evH_eq r hx) hargs hf) (wantX_eq r hw) hfit (hs k h ⟨κ, M⟩ (M.chg.all _ (List.mem_append_right _ hG.mem)) (M.ptsRo hG hb hk)) ?_
  rintro v h' ⟨C', d, hφ⟩
  exact ⟨κ, _, _, _, pfx_refl κ, r.put (.ext v) o.dst, M.callG hG d hn, hr v C' hφ⟩
theorem Pick.he {a b : Part} {B : List Part} (e : a = b) : Pick (a :: B) b B := e ▸ .h
/-- one more element -/
theorem ownS_snoc {α : Type} {g : α → List HVal} {e w : Nat} {v : HVal} {l l2 : List α} {x : α} (he : l2 = l ++ [x]) : ownS e w v (l.map g ++ [g x]) = ownS e w v (l2.map g) := by rw [he, List.map_append]; rfl
/-- what the memory tells -/
theorem WCX.fact {p : Prop} (hp : ∀ h, Fin E B G h → p) (hw : p → WCX P K E c L B G m n Q) : WCX P K E c L B G m n Q := ⟨fun κ h L0 r M => (hw (hp h ⟨κ, M⟩)).run κ h L0 r M⟩
theorem ownS.len_eq {α : Type} {g : α → List HVal} {e w k off n : Nat} {cap : Option Nat} {l : List α} (a : (ownS e w (.slice k off n cap) (l.map g)).holds h) : n = l.length := by
  have := (ownS.rd a).slice.len
  simpa [lenV] using this
/-- an append of elements that were just built -/
theorem qappN {t t2 e w q q2 bs j e2 cm : Nat} {s2 : Bool} {i : TI} {cl : Call} {x y : Operand} {v : HVal} {z lc : List HVal} {rows : List (List HVal)} (new : List (List HVal)) (hX : TK P tab zl)
    (ho : o.op = .call cl) (hc : cl.callee = .builtin .append) (ha : cl.args = #[x, y]) (h0 : cl.argTypes[0]? = some t) (h2 : cl.argTypes[1]? = some t2) (ht : tyL tab t = some (.slice e, q)) (ht2 : tyL tab t2 = some (.slice e, q2))
    (he : tyL tab e = some (i, w)) (hz : zL zl e = some z) (hzl : Nat.beq z.length w = true) (he0 : Nat.beq e 0 = false) (hw0 : Nat.beq w 0 = false) (hb : P.bytesOf e = bs) (hb0 : Nat.beq bs 0 = false)
    (hx : evH P L x = some v) (hy : evX P L y = some (.sl j cm)) (hbk : nth B j = some (.own lc e2 s2)) (hfl : new.flatten = lc) (hnl : ∀ r ∈ new, r.length = w) (hcm : new.length = cm) (hpos : 0 < cm) (hG : Pick G (ownS e w v rows) G2) (hn : noTmp B = true) (hroom : (rows.length + new.length) * bs ≤ 140737488355328)
    (hw : wantX ops o L = some true) (hf : fits o.dst n = true) (hr : ∀ k, R (putX o.dst (.ext (.slice k 0 (rows.length + new.length) none)) L) B (ownS e w (.slice k 0 (rows.length + new.length) none) (rows ++ new) :: G2)) : Op1X P K E ops o L B G m n R := by
  refine ⟨fun κ h L0 r M => ?_⟩
  subst hcm
  obtain ⟨⟨d, hv⟩, hrl⟩ := M.chg.all _ (List.mem_append_right _ hG.mem)
  obtain ⟨k2, hk2⟩ := M.own _ _ _ _ hbk
  obtain ⟨w2, g1, g2⟩ := evX_rep r hy
  have hw2 : w2 = .slice k2 0 new.length (some new.length) := by
    cases g2 with
    | sl hk => rw [hk2] at hk; cases hk; rfl
  subst hw2
  have hblk : (pts k2 lc e2 s2).holds h := M.chg.all _ (List.mem_append_left _ (partsB_mem hbk hk2))
  rw [← hfl] at hblk
  refine Op1.append hX.tab ho hc ha h0 h2 ht ht2 he (hX.zero.look hz) hzl he0 hw0 hb hb0 (evH_eq r hx) g1 hv (row_all hblk) (by rw [nbeq]; exact decide_eq_true (flatten_len hnl)) (by rw [nbeq]; exact decide_eq_false (by omega)) hroom M.wf (wantX_eq r hw) hf ?_
  intro k h' p
  exact ⟨κ, _, _, _, pfx_refl κ, r.put (.ext _) o.dst, M.callG hG (Appended.chg hv hrl hnl p) hn, hr k⟩
end
end
end Go.HL
namespace Go.HL
open Go
noncomputable section
section
variable {P : Program} {K : CallFn} {E : Env0} {ops : Array Oper} {o : Oper} {l : List Oper} {L L' : SL} {B B' : List Blk} {G G' G2 : List Part} {m n : Nat} {R : SL → List Blk → List Part → Prop} {Q : Ex → St → Prop} {a b c : Code} {tab : Tab} {zl : List (Nat × List HVal)} {h h' : Heap}
/-- what is left of a slice between two places, the first of them not its start -/
def cutV (v : HVal) (j b w : Nat) : HVal := match v with
  | .slice k off _ _ => .slice k (Nat.add off (Nat.mul j w)) (Nat.sub b j) none
  | v => v
theorem cutV_key {v : HVal} {j b w k : Nat} (h : keyV (cutV v j b w) = some k) : keyV v = some k := by
  cases v <;> exact h
theorem V.cut {L : Sts} {t e w q j b : Nat} {i : TI} {x y z : Operand} {v : HVal} {rows : List (List HVal)} (hT : tabOk P tab = true) (ho : o.op = .slice t x (some y) (some z) none) (ht : tyL tab t = some (.slice e, q)) (he : tyL tab e = some (i, w)) (hne : Nat.beq 0 e = false)
    (hx : evL P L x = some v) (hy : evL P L y = some (.int .i64 (.ofNat j))) (hz : evL P L z = some (.int .i64 (.ofNat b))) (hs : (frd v w rows).holds h) (h0 : 0 < j) (hj : j < rows.length) (hjb : j ≤ b) (hb : b ≤ rows.length) : OpV P o L h (cutV v j b w) h := by
  have hslice := (tab_slice hT ht).1
  obtain ⟨inf, hinf⟩ := (tab_slice hT ht).2
  have hel : elemOk P t = true := by simp only [elemOk, hslice, hinf]
  have hop : ∀ {v' : HVal}, sliceH P h t v (some (.int .i64 (.ofNat j))) (some (.int .i64 (.ofNat b))) none = some v' → OpV P o L h v' h := fun {v'} e => OpV.mk ho fun ev ha d ty ps aft g => by
    simp only [opH, hel, bcase_true, evL_sound ha hx, Option.map_some, evL_sound ha hy, evL_sound ha hz, Option.map_none, e, HL.val, ob_some]
  have hb1 : ∀ (j : Nat) y d, j ≤ y → boundO (some (.int .i64 (.ofNat j))) y d = some j := by
    intro j y d hy
    have : Nat.ble j y = true := by rw [nble]; exact decide_eq_true hy
    show bcase (Nat.ble j y) (some j) none = some j
    rw [this]; rfl
  have hlen := hs.2.slice.1
  cases hs.1 with
  | nils => exact absurd (Option.some.inj hlen) (by omega)
  | empty => exact absurd (Option.some.inj hlen) (by omega)
  | slice k off c l s r hg =>
    have hc : c = rows.length := by simpa [lenV] using hlen
    subst hc
    have hcl := cells_get hg
    have hwid : P.cellsOf e = w := (tab_ok hT he).2
    have htop : topH P h k off rows.length e (some (.int .i64 (.ofNat b))) = rows.length := by
      unfold topH
      show bcase (Nat.ble b rows.length) rows.length _ = rows.length
      have : Nat.ble b rows.length = true := by rw [nble]; exact decide_eq_true hb
      rw [this]; rfl
    have hjn : Nat.beq j 0 = false := by rw [nbeq]; exact decide_eq_false (by omega)
    refine hop (v' := .slice k (Nat.add off (Nat.mul j w)) (Nat.sub b j) none) ?_
    have hlt : Nat.blt j rows.length = true := by rw [nblt]; exact decide_eq_true hj
    simp only [sliceH, hslice, htop, hb1 _ _ _ hb, hb1 _ _ _ hjb, ob_some, hjn, bcase_false, hlt, bcase_true, hcl, hne, hwid]
    rfl
theorem frd.cut {v : HVal} {w j b : Nat} {rows : List (List HVal)} (hs : (frd v w rows).holds h) (hj : j < rows.length) (hb : b ≤ rows.length) : (frd (cutV v j b w) w ((rows.drop j).take (b - j))).holds h := by
  have hlen := hs.2.slice.1
  have hlive := hs.2.live
  refine ⟨?_, ⟨?_, fun k hk => hlive k (cutV_key hk)⟩⟩
  · cases hs.1 with
    | nils => exact .nils
    | empty => exact .empty
    | slice k off c l s r hg => exact .slice _ _ _ _ _ _ hg
  · cases hs.1 with
    | nils => exact absurd (Option.some.inj hlen) (by omega)
    | empty => exact absurd (Option.some.inj hlen) (by omega)
    | slice k off c l s r hg =>
      have hc : c = rows.length := by simpa [lenV] using hlen
      subst hc
      have hbl : ((rows.drop j).take (b - j)).length = b - j := by rw [List.length_take, List.length_drop]; omega
      refine ⟨by rw [hbl]; rfl, fun i' r' hr' => ?_⟩
      rw [List.getElem?_take] at hr'
      split at hr'
      · rw [List.getElem?_drop] at hr'
        obtain ⟨k', off'', cap', e3, hrow⟩ := hs.2.slice.2 _ _ hr'
        cases e3
        refine ⟨k, _, none, by rw [hbl]; rfl, ?_⟩
        have : Nat.add (Nat.add off (Nat.mul j w)) (Nat.mul i' w) = Nat.add off (Nat.mul (j + i') w) := by
          simp only [Nat.add_eq, Nat.mul_eq, Nat.add_mul]; omega
        rw [this]; exact hrow
      · cases hr'
theorem Ro.cut {C : List Part} {v : HVal} {w j b : Nat} {rows : List (List HVal)} (r : Ro C h (HL.frd v w rows)) (hj : j < rows.length) (hb : b ≤ rows.length) : Ro C h (HL.frd (cutV v j b w) w ((rows.drop j).take (b - j))) := ⟨HL.frd.cut r.holds hj hb, fun q hq k hk => r.away q hq k (cutV_key hk)⟩
theorem qcut {t e w q j b : Nat} {i : TI} {x y z : Operand} {v : HVal} {rows : List (List HVal)} (hX : TK P tab zl) (ho : o.op = .slice t x (some y) (some z) none) (ht : tyL tab t = some (.slice e, q)) (he : tyL tab e = some (i, w)) (hne : Nat.beq 0 e = false)
    (hx : evH P L x = some v) (hy : evH P L y = some (.int .i64 (.ofNat j))) (hz : evH P L z = some (.int .i64 (.ofNat b))) (hs : Ro E.C E.h (HL.frd v w rows)) (h0 : 0 < j) (hj : j < rows.length) (hjb : j ≤ b) (hb : b ≤ rows.length) (hw : wantX ops o L = some true) (hf : fits o.dst n = true) (hr : R (putX o.dst (.ext (cutV v j b w)) L) B G) : Op1X P K E ops o L B G m n R :=
  qv hw hf (fun κ h L0 r M => V.cut hX.tab ho ht he hne (evH_eq r hx) (evH_eq r hy) (evH_eq r hz) (hs.at M.chg) h0 hj hjb hb) hr
/-! ## Values of several cells compared -/
theorem V.binA {L : Sts} {op : BinOp} {t p : Nat} {x y : Operand} {a b : List HVal} {v : HVal} (ho : o.op = .binOp op t x y p) (hx : evL P L x = some (.agg a)) (hy : evL P L y = some (.agg b)) (hr : binH P op t (.agg a) (.agg b) = some v) : OpV P o L h v h := OpV.mk ho fun ev ha d ty ps aft g => by
  simp only [opH, evL_sound ha hx, evL_sound ha hy, binC, hr, HL.val, ob_some]
theorem qnA {bo : BinOp} {t p : Nat} {x y : Operand} {a b : List HVal} {v : HVal} (ho : o.op = .binOp bo t x y p) (hx : evH P L x = some (.agg a)) (hy : evH P L y = some (.agg b)) (hd : binH P bo t (.agg a) (.agg b) = some v) (hw : wantX ops o L = some true) (hf : fits o.dst n = true) (hr : R (putX o.dst (.ext v) L) B G) : Op1X P K E ops o L B G m n R :=
  qv hw hf (fun κ h L0 r M => V.binA ho (evH_eq r hx) (evH_eq r hy) hd) hr
end
end
end Go.HL
