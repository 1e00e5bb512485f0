/- Runs of HL, the state known by signs: the memory by parts; the operations that are computed. No statement of the seat stands here. -/
import Derived.Test.YtngeipnhbigdmaaGreatDoorSC
set_option linter.unusedVariables false
set_option linter.unusedSimpArgs false
namespace Go.HL
open Go
noncomputable section
structure Part where
 dR : Nat → Prop
 holds : Heap → Prop
 loc : ∀ {h h' : Heap}, (∀ k, dR k → h'.get k = h.get k) → holds h → holds h'
 live : ∀ {h : Heap} {k : Nat}, holds h → dR k → ∃ o, h.get k = some o
def pO (a b : Part) : Prop := ∀ k, a.dR k → ¬ b.dR k
structure fU (C : List Part) (h : Heap) (C' : List Part) (h' : Heap) : Prop where
 wf : Wf h'
 next : h.next ≤ h'.next
 ji : ∀ {k : Nat} {o : aG}, h.get k = some o → (∀ r ∈ C, ¬ r.dR k) → h'.get k = some o
 all : ∀ r ∈ C', r.holds h'
 tk : C'.Pairwise pO
 own : ∀ r ∈ C', ∀ k, r.dR k → (∃ q ∈ C, q.dR k) ∨ h.get k = none
theorem pO.symm {a b : Part} (h : pO a b) : pO b a := fun k hb ha => h k ha hb
theorem fU.refl {h : Heap} (w : Wf h) : fU [] h [] h := ⟨w, Nat.le_refl _, fun e _ => e, fun r hr => by simp at hr, .nil, fun r hr => by simp at hr⟩
theorem fU.KU {h h' : Heap} (g : Grow h h') (w : Wf h') : fU [] h [] h' := ⟨w, g.next, fun e _ => g.get e, fun r hr => by simp at hr, .nil, fun r hr => by simp at hr⟩
inductive aS : List Part → Part → List Part → Prop
 | h {a : Part} {B : List Part} : aS (a :: B) a B
 | t {a b : Part} {B R : List Part} (p : aS B a R) : aS (b :: B) a (b :: R)
theorem aS.perm {B R : List Part} {a : Part} (p : aS B a R) : List.Perm B (a :: R) := by
 induction p with
 | h => exact List.Perm.refl _
 | t p ih => exact (List.Perm.cons _ ih).trans (List.Perm.swap _ _ _)
theorem aS.mem {B R : List Part} {a : Part} (p : aS B a R) : a ∈ B := p.perm.mem_iff.2 (by simp)
inductive s7 : List Part → List Part → List Part → Prop
 | nil {B : List Part} : s7 B [] B
 | cons {B C R S : List Part} {a : Part} (p : aS B a R) (q : s7 R C S) : s7 B (a :: C) S
theorem s7.perm {B C R : List Part} (p : s7 B C R) : List.Perm B (C ++ R) := by
 induction p with
 | nil => exact List.Perm.refl _
 | cons p q ih => exact p.perm.trans (List.Perm.cons _ ih)
theorem pG {B C : List Part} (p : List.Perm B C) (h : B.Pairwise pO) : C.Pairwise pO := p.pairwise h fun h => h.symm
theorem fU.perm {C B B' : List Part} {h h' : Heap} (p : List.Perm B B') (c : fU C h B h') : fU C h B' h' :=
 ⟨c.wf, c.next, c.ji, fun r hr => c.all r (p.mem_iff.2 hr), pG p c.tk, fun r hr => c.own r (p.mem_iff.2 hr)⟩
theorem fU.drop {C B R : List Part} {h h' : Heap} (c : fU C h (B ++ R) h') : fU C h B h' :=
 ⟨c.wf, c.next, c.ji, fun r hr => c.all r (by simp [hr]), (List.pairwise_append.1 c.tk).1, fun r hr => c.own r (by simp [hr])⟩
theorem fU.bu {C B D R : List Part} {h h' : Heap} (p : s7 B D R) (c : fU C h B h') : fU C h D h' := (c.perm p.perm).drop
theorem fU.trans {C B D R D' : List Part} {h h' h2 : Heap} (c : fU C h B h') (p : List.Perm B (D ++ R)) (d : fU D h' D' h2) : fU C h (D' ++ R) h2 := by
 have c := c.perm p
 have hd := List.pairwise_append.1 c.tk
 have stay : ∀ r ∈ R, ∀ k, r.dR k → h2.get k = h'.get k := by
  intro r hr k hk
  obtain ⟨o, ho⟩ := r.live (c.all r (by simp [hr])) hk
  rw [ho]
  exact d.ji ho fun q hq hqk => hd.2.2 q hq r hr k hqk hk
 have back : ∀ k, h'.get k = none → (∃ q ∈ C, q.dR k) ∨ h.get k = none := by
  intro k hk
  cases e : h.get k with
  | none => exact .inr rfl
  | some o =>
   refine .inl (Classical.byContradiction fun hn => ?_)
   have := c.ji e fun r hr hrk => hn ⟨r, hr, hrk⟩
   rw [hk] at this; cases this
 refine ⟨d.wf, Nat.le_trans c.next d.next, fun {k o} e hn => ?_, ?_, ?_, ?_⟩
 ·have e2 := c.ji e hn
  refine d.ji e2 fun r hr hrk => ?_
  rcases c.own r (by simp [hr]) k hrk with ⟨q, hq, hqk⟩ | hno
  ·exact hn q hq hqk
  ·rw [e] at hno; cases hno
 ·intro r hr
  rcases List.mem_append.1 hr with hr | hr
  ·exact d.all r hr
  ·exact r.loc (fun k hk => stay r hr k hk) (c.all r (by simp [hr]))
 ·refine List.pairwise_append.2 ⟨d.tk, hd.2.1, fun a ha b hb k hak hbk => ?_⟩
  rcases d.own a ha k hak with ⟨q, hq, hqk⟩ | hno
  ·exact hd.2.2 q hq b hb k hqk hbk
  ·obtain ⟨o, ho⟩ := b.live (c.all b (by simp [hb])) hbk
   rw [ho] at hno; cases hno
 ·intro r hr k hk
  rcases List.mem_append.1 hr with hr | hr
  ·rcases d.own r hr k hk with ⟨q, hq, hqk⟩ | hno
   ·exact c.own q (by simp [hq]) k hqk
   ·exact back k hno
  ·exact c.own r (by simp [hr]) k hk
structure Ro (C : List Part) (h : Heap) (a : Part) : Prop where
 holds : a.holds h
 Ez : ∀ r ∈ C, pO a r
theorem Ro.of {h : Heap} {a : Part} (ha : a.holds h) : Ro [] h a := ⟨ha, fun r hr => by simp at hr⟩
theorem Ro.get {C C' : List Part} {h h' : Heap} {a : Part} (r : Ro C h a) (c : fU C h C' h') {k : Nat} (hk : a.dR k) : h'.get k = h.get k := by
 obtain ⟨o, ho⟩ := a.live r.holds hk
 rw [ho]
 exact c.ji ho fun q hq hqk => r.Ez q hq k hk hqk
theorem Ro.at {C C' : List Part} {h h' : Heap} {a : Part} (r : Ro C h a) (c : fU C h C' h') : a.holds h' := a.loc (fun _ hk => r.get c hk) r.holds
theorem Ro.sep {C C' : List Part} {h h' : Heap} {a b : Part} (r : Ro C h a) (c : fU C h C' h') (hb : b ∈ C') : pO a b := by
 intro k hk hbk
 rcases c.own b hb k hbk with ⟨q, hq, hqk⟩ | hno
 ·exact r.Ez q hq k hk hqk
 ·obtain ⟨o, ho⟩ := a.live r.holds hk
  rw [ho] at hno; cases hno
/-! ## Parts -/
def eR (k : Nat) (l : List aa) (e : Nat) (s : Bool) : Part where
 dR j := j = k
 holds h := h.get k = some (.cells l e s true)
 loc e' hh := by rw [e' k rfl]; exact hh
 live {h j} hh e' := ⟨.cells l e s true, by rw [show j = k from e']; exact hh⟩
def Part.both (a b : Part) : Part where
 dR k := a.dR k ∨ b.dR k
 holds h := a.holds h ∧ b.holds h
 loc e hh := ⟨a.loc (fun k hk => e k (.inl hk)) hh.1, b.loc (fun k hk => e k (.inr hk)) hh.2⟩
 live hh hk := hk.elim (fun hk => a.live hh.1 hk) fun hk => b.live hh.2 hk
def rd (v : aa) (w : Nat) (rows : List (List aa)) : Part where
 dR k := sW v = some k
 holds h := Kr h v w rows
 loc e hh := hh.ji e
 live hh hk := hh.live _ hk
inductive zq (e : Nat) (h : Heap) : aa → Prop
 | aC : zq e h .aC
 | empty : zq e h .empty
 | rest (k : Nat) : zq e h (.rest k)
 | slice (k off c : Nat) (l : List aa) (t : Nat) (s r : Bool) (hg : h.get k = some (.cells l t s r)) (ht : t = 0 ∨ t = e) : zq e h (.slice k off c none)
def xX (e : Nat) (v : aa) (w : Nat) (rows : List (List aa)) : Part where
 dR k := sW v = some k
 holds h := zq e h v ∧ Kr h v w rows
 loc {h h'} e hh := by
  refine ⟨?_, hh.2.ji e⟩
  cases hh.1 with
  | aC => exact .aC
  | empty => exact .empty
  | rest k => exact .rest k
  | slice k off c l t s r hg ht => exact .slice k off c l t s r (by rw [e k rfl]; exact hg) ht
 live hh hk := hh.2.live _ hk
def aL (e w : Nat) (v : aa) (rows : List (List aa)) : Part where
 dR k := wA v = some k
 holds h := (∃ d, App h e w v rows.length rows.flatten d) ∧ ∀ r ∈ rows, r.length = w
 loc e hh := ⟨let ⟨d, a⟩ := hh.1; ⟨d, a.ji e⟩, hh.2⟩
 live hh hk := let ⟨_, a⟩ := hh.1; a.live hk
def wo {α : Type} (key : α → aa) (k : Nat) (l : List (α × aa)) : Part where
 dR j := j = k
 holds h := pN key h k l
 loc e hh := hh.zW (e k rfl)
 live {h j} hh e := by
  obtain ⟨es, c, a, _⟩ := hh
  exact ⟨.map es c true, by rw [show j = k from e]; exact a⟩
def lies (base : List (Nat × aG)) : Part where
 dR k := ∃ p ∈ base, p.1 = k
 holds h := ∀ p ∈ base, h.get p.1 = some p.2
 loc e hh := fun p hp => by rw [e p.1 ⟨p, hp, rfl⟩]; exact hh p hp
 live hh hk := by obtain ⟨p, hp, rfl⟩ := hk; exact ⟨_, hh p hp⟩
theorem dJ {w : Nat} : ∀ {rows : List (List aa)}, (∀ r ∈ rows, r.length = w) → rows.flatten.length = rows.length * w
 | [], _ => by simp
 | r :: rows, h => by
  rw [List.flatten_cons, List.length_append, h r (by simp), dJ fun q hq => h q (by simp [hq]), List.length_cons, Nat.add_mul, Nat.one_mul, Nat.add_comm]
theorem ud {w : Nat} : ∀ {rows : List (List aa)}, (∀ r ∈ rows, r.length = w) → ∀ {i : Nat} {r : List aa}, rows[i]? = some r → (rows.flatten.drop (i * w)).take r.length = r
 | [], _, i, r, hr => by simp at hr
 | q :: rows, h, 0, r, hr => by
  simp only [List.getElem?_cons_zero, Option.some.injEq] at hr
  subst hr
  simp
 | q :: rows, h, i + 1, r, hr => by
  have hq := h q (by simp)
  simp only [List.getElem?_cons_succ] at hr
  have ih := ud (fun q hq => h q (by simp [hq])) hr
  rw [List.flatten_cons, List.drop_append, List.drop_of_length_le (by rw [hq, Nat.add_mul]; omega), List.nil_append, hq, Nat.add_mul, Nat.one_mul, Nat.add_sub_cancel]
  exact ih
theorem aL.rd {e w : Nat} {v : aa} {rows : List (List aa)} {h : Heap} (a : (aL e w v rows).holds h) : (rd v w rows).holds h := by
 obtain ⟨⟨d, ha⟩, hw⟩ := a
 have hlen := ha.length
 refine ⟨⟨ha.len, fun i r hr => ?_⟩, fun k hk => ha.live (by cases v <;> first | exact hk | cases hk)⟩
 have hi := (List.getElem?_eq_some_iff.1 hr).1
 have hrow := ud hw hr
 have hrl := hw r (List.mem_of_getElem? hr)
 have hmul : i * w + w ≤ rows.length * w := by rw [← Nat.succ_mul]; exact Nat.mul_le_mul_right w hi
 generalize hc : rows.length = c at ha hlen hi hmul ⊢
 generalize hf : rows.flatten = l at ha hrow
 cases ha with
 | aC => omega
 | rest hg => omega
 | @full k off n e' L _ s q hg hl hd =>
  refine ⟨k, off, _, rfl, zH hg ?_⟩
  simp only [Nat.add_eq, Nat.mul_eq]
  rw [← hd] at hrow
  rw [List.drop_take, List.take_take, List.drop_drop] at hrow
  rw [hrl] at hrow ⊢
  rw [Nat.min_eq_left (by omega)] at hrow
  exact hrow
 | @own k off n L _ hg hl hd =>
  refine ⟨k, off, _, rfl, zH hg ?_⟩
  simp only [Nat.add_eq, Nat.mul_eq]
  rw [← hd, List.drop_drop] at hrow
  exact hrow
end
end Go.HL
namespace Go.HL
open Go
noncomputable section
inductive SV where
 | ext (v : aa)
 | ptr (i off : Nat)
 | sl (i n : Nat)
inductive bX where
 | own (l : List aa) (e : Nat) (s : Bool)
 | ro (l : List aa)
 | tmp (l : List aa)
 | gone
abbrev SL := List (Nat × SV)
abbrev jq := List (Nat × Nat)
inductive Az (κ : jq) : SV → aa → Prop
 | ext (v : aa) : Az κ (.ext v) v
 | ptr {i off k o : Nat} (h : nth κ i = some (k, o)) : Az κ (.ptr i off) (.ptr k (Nat.add o off))
 | sl {i n k : Nat} (h : nth κ i = some (k, 0)) : Az κ (.sl i n) (.slice k 0 n (some n))
inductive dx (κ : jq) : SL → cj → Prop
 | nil : dx κ [] []
 | cons {i : Nat} {x : SV} {v : aa} {L : SL} {L0 : cj} (h : Az κ x v) (t : dx κ L L0) : dx κ ((i, x) :: L) ((i, v) :: L0)
theorem dp {α : Type} {l t : List α} {i : Nat} {a : α} (h : nth l i = some a) : nth (l ++ t) i = some a := by
 rw [bU] at h ⊢
 rw [List.getElem?_append_left (List.getElem?_eq_some_iff.1 h).1]; exact h
theorem Az.more {κ t : jq} {x : SV} {v : aa} (r : Az κ x v) : Az (κ ++ t) x v := by
 cases r with
 | ext => exact .ext _
 | ptr h => exact .ptr (dp h)
 | sl h => exact .sl (dp h)
theorem dx.more {κ t : jq} {L : SL} {L0 : cj} (r : dx κ L L0) : dx (κ ++ t) L L0 := by
 induction r with
 | nil => exact .nil
 | cons h _ ih => exact .cons h.more ih
def gO : SL → Nat → Option SV
 | [], _ => none
 | (j, v) :: l, i => ae (Nat.beq j i) (some v) (gO l i)
theorem dx.look {κ : jq} {L : SL} {L0 : cj} (r : dx κ L L0) : ∀ {i : Nat} {x : SV}, gO L i = some x → ∃ v, HL.look L0 i = some v ∧ Az κ x v := by
 induction r with
 | nil => intro i x h; cases h
 | @cons j y v L L0 h t ih =>
  intro i x hx
  simp only [gO] at hx
  simp only [HL.look]
  cases hb : Nat.beq j i with
  | true => rw [hb] at hx; cases hx; exact ⟨v, rfl, h⟩
  | false => rw [hb] at hx; exact ih hx
def uE (P : Program) (L : SL) : Operand → Option SV
 | .tmp t => gO L t
 | .const v => match ofValue v with | some x => some (.ext x) | none => none
 | .global g => ae (Nat.blt g P.globals.size) (some (.ext (.ptr g 0))) none
 | .func f => some (.ext (.func f [] []))
def JG : SV → Option aa
 | .ext v => some v
 | _ => none
def cU (P : Program) (L : SL) (x : Operand) : Option aa := ob (uE P L x) JG
section
variable {P : Program} {κ : jq} {L : SL} {L0 : cj}
theorem cN (r : dx κ L L0) {x : Operand} {y : SV} (h : uE P L x = some y) : ∃ v, eS P L0 x = some v ∧ Az κ y v := by
 cases x with
 | tmp t => exact r.look h
 | const c =>
  simp only [uE] at h
  cases hc : ofValue c with
  | none => rw [hc] at h; cases h
  | some v => rw [hc] at h; cases h; exact ⟨v, hc, .ext v⟩
 | global g =>
  simp only [uE] at h
  simp only [eS]
  cases hb : Nat.blt g P.globals.size with
  | false => rw [hb] at h; cases h
  | true => rw [hb] at h; cases h; exact ⟨_, rfl, .ext _⟩
 | func f => cases h; exact ⟨_, rfl, .ext _⟩
theorem aF (r : dx κ L L0) {x : Operand} {v : aa} (h : cU P L x = some v) : eS P L0 x = some v := by
 obtain ⟨y, h1, h2⟩ := ad.1 h
 obtain ⟨w, h3, h4⟩ := cN r h1
 cases y with
 | ext u => cases h2; cases h4; exact h3
 | ptr => cases h2
 | sl => cases h2
end
def aT (ops : Array Oper) (o : Oper) (L : SL) : Option Bool :=
 match o.guard with
 | none => some true
 | some g => match (ops[g.1]?).bind (·.dst) with
  | some d => match gO L d with
   | some (.ext (.bool b)) => some (ae g.2 b (ae b false true))
   | some (.ext (.tuple _)) => some false
   | _ => none
  | none => none
theorem bj {κ : jq} {L : SL} {L0 : cj} (r : dx κ L L0) {ops : Array Oper} {o : Oper} {b : Bool} (h : aT ops o L = some b) : jA ops o L0 = some b := by
 unfold aT at h
 unfold jA
 split at h
 ·rename_i hg; simp only [hg]; exact h
 ·rename_i g hg
  simp only [hg]
  split at h
  ·rename_i d hd
   simp only [hd]
   split at h
   ·rename_i b' hl
    obtain ⟨v, h1, h2⟩ := r.look hl
    cases h2
    simp only [h1]; exact h
   ·rename_i l hl
    obtain ⟨v, h1, h2⟩ := r.look hl
    cases h2
    simp only [h1]; exact h
   ·cases h
  ·cases h
def wB (m : Nat) : SL → (SL → Option SL) → Option SL
 | [], k => k []
 | (i, v) :: l, k => ae (bit m i) (wB m l fun r => k ((i, v) :: r)) (wB m l k)
theorem rq {κ : jq} {m : Nat} : ∀ {L : SL} {L0 : cj}, dx κ L L0 → ∀ {k : SL → Option SL} {R : SL}, wB m L k = some R → ∃ L' L0', k L' = some R ∧ ru m L0 some = some L0' ∧ dx κ L' L0'
 | [], _, .nil, k, R, h => ⟨[], [], h, rfl, .nil⟩
 | (i, x) :: L, _, .cons (v := v) (L0 := L0) hx t, k, R, h => by
  simp only [wB] at h
  rw [lR]
  cases hb : bit m i with
  | true =>
   rw [hb, bcT] at h
   obtain ⟨L', L0', h1, h2, h3⟩ := rq t h
   rw [lR] at h2
   refine ⟨(i, x) :: L', (i, v) :: L0', h1, ?_, .cons hx h3⟩
   have := Option.some.inj h2
   simp [kG, hb] at this ⊢
   exact this
  | false =>
   rw [hb, bcF] at h
   obtain ⟨L', L0', h1, h2, h3⟩ := rq t h
   rw [lR] at h2
   refine ⟨L', L0', h1, ?_, h3⟩
   have := Option.some.inj h2
   simp [kG, hb] at this ⊢
   exact this
/-! ## The memory -/
structure eK where
 C : List Part
 h : Heap
 κ : jq
def bg : List bX → jq → List Part
 | .own l e s :: B, p :: κ => eR p.1 l e s :: bg B κ
 | _ :: B, _ :: κ => bg B κ
 | _, _ => []
def I6 (k : Nat) : Part where
 dR j := j = k
 holds h := ∃ o, h.get k = some o
 loc e hh := let ⟨o, ho⟩ := hh; ⟨o, by rw [e k rfl]; exact ho⟩
 live {_ j} hh e := let ⟨o, ho⟩ := hh; ⟨o, by rw [show j = k from e]; exact ho⟩
structure Mem (E : eK) (κ : jq) (B : List bX) (G : List Part) (h : Heap) : Prop where
 aZ : fU E.C E.h (bg B κ ++ G) h
 pre : ∃ t, κ = E.κ ++ t
 len : κ.length = B.length
 own : ∀ i l e s, nth B i = some (.own l e s) → ∃ k, nth κ i = some (k, 0)
 ro : ∀ i l, nth B i = some (.ro l) → ∃ k off, nth κ i = some (k, off) ∧ Row E.h k off l ∧ Ro E.C E.h (I6 k)
 tmp : ∀ i l, nth B i = some (.tmp l) → ∃ k off, nth κ i = some (k, off) ∧ Row h k off l ∧ ∃ g ∈ G, g.dR k
theorem tU : ∀ {B : List bX} {κ : jq}, κ.length = B.length → ∀ (b : bX) (p : Nat × Nat), bg (B ++ [b]) (κ ++ [p]) = bg B κ ++ bg [b] [p]
 | [], [], _, b, p => rfl
 | [], _ :: _, h, _, _ => by simp at h
 | _ :: _, [], h, _, _ => by simp at h
 | c :: B, q :: κ, h, b, p => by
  have ih := tU (B := B) (κ := κ) (by simpa using h) b p
  cases c <;> simp [bg, ih]
theorem gv : ∀ {B : List bX} {κ : jq} {i : Nat} {l : List aa} {e k o : Nat} {s : Bool}, nth B i = some (.own l e s) → nth κ i = some (k, o) →
  ∃ R, List.Perm (bg B κ) (eR k l e s :: R) ∧ (∀ l' e' s', List.Perm (bg (B.set i (.own l' e' s')) κ) (eR k l' e' s' :: R)) ∧ List.Perm (bg (B.set i .gone) κ) R
 | [], _, i, l, e, k, o, s, h, _ => by rw [bU] at h; simp at h
 | _ :: _, [], i, l, e, k, o, s, _, h => by rw [bU] at h; simp at h
 | b :: B, p :: κ, 0, l, e, k, o, s, h1, h2 => by
  rw [bU] at h1 h2
  simp only [List.getElem?_cons_zero, Option.some.injEq] at h1 h2
  subst h1
  subst h2
  exact ⟨bg B κ, List.Perm.refl _, fun l' e' s' => List.Perm.refl _, List.Perm.refl _⟩
 | b :: B, p :: κ, i + 1, l, e, k, o, s, h1, h2 => by
  rw [bU] at h1 h2
  simp only [List.getElem?_cons_succ] at h1 h2
  rw [← bU] at h1 h2
  obtain ⟨R, h3, h4, h5⟩ := gv h1 h2
  cases b with
  | own l0 e0 s0 => exact ⟨eR p.1 l0 e0 s0 :: R, (List.Perm.cons _ h3).trans (List.Perm.swap _ _ _), fun l' e' s' => (List.Perm.cons _ (h4 l' e' s')).trans (List.Perm.swap _ _ _), List.Perm.cons _ h5⟩
  | ro l0 => exact ⟨R, h3, h4, h5⟩
  | tmp l0 => exact ⟨R, h3, h4, h5⟩
  | gone => exact ⟨R, h3, h4, h5⟩
theorem cQ {B : List bX} {κ : jq} {i : Nat} {l : List aa} {e k o : Nat} {s : Bool} (h1 : nth B i = some (.own l e s)) (h2 : nth κ i = some (k, o)) : eR k l e s ∈ bg B κ :=
 let ⟨_, h3, _, _⟩ := gv h1 h2; h3.mem_iff.2 (by simp)
def bX.cells : bX → Option (List aa)
 | .own l _ _ => some l
 | .ro l => some l
 | .tmp l => some l
 | .gone => none
section
variable {E : eK} {κ : jq} {B : List bX} {G : List Part} {h h' : Heap}
theorem Mem.wf (M : Mem E κ B G h) : Wf h := M.aZ.wf
theorem Ro.row {C C' : List Part} {h h' : Heap} {k off : Nat} {l : List aa} (r : Ro C h (I6 k)) (c : fU C h C' h') (w : Row h k off l) : Row h' k off l := w.ji (r.get c rfl)
theorem Mem.row (M : Mem E κ B G h) {i : Nat} {b : bX} {l : List aa} (hb : nth B i = some b) (hl : b.cells = some l) : ∃ k o, nth κ i = some (k, o) ∧ Row h k o l := by
 cases b with
 | own l' e s =>
  cases hl
  obtain ⟨k, hk⟩ := M.own i _ _ _ hb
  exact ⟨k, 0, hk, qT (M.aZ.all _ (List.mem_append_left _ (cQ hb hk)))⟩
 | ro l' =>
  cases hl
  obtain ⟨k, o, hk, hr, ha⟩ := M.ro i _ hb
  exact ⟨k, o, hk, ha.row M.aZ hr⟩
 | tmp l' =>
  cases hl
  obtain ⟨k, o, hk, hr, _⟩ := M.tmp i _ hb
  exact ⟨k, o, hk, hr⟩
 | gone => cases hl
theorem wb {α : Type} {l : List α} {a : α} {i : Nat} {b : α} (h : nth (l ++ [a]) i = some b) : nth l i = some b ∨ i = l.length ∧ b = a := by
 rw [bU] at h ⊢
 by_cases hi : i < l.length
 ·rw [List.getElem?_append_left hi] at h; exact .inl h
 ·rw [List.getElem?_append_right (by omega)] at h
  obtain ⟨h1, h2⟩ := List.getElem?_eq_some_iff.1 h
  have : i = l.length := by simp at h1; omega
  subst this
  simp at h2
  exact .inr ⟨rfl, h2.symm⟩
theorem r9 {α : Type} (l : List α) (a : α) : nth (l ++ [a]) l.length = some a := by rw [bU]; simp
theorem Mem.snoc (M : Mem E κ B G h) (p : Nat × Nat) (b : bX) (c : fU E.C E.h (bg [b] [p] ++ (bg B κ ++ G)) h') (hg : ∀ k, (∃ g ∈ G, g.dR k) → h'.get k = h.get k)
  (h1 : ∀ l e s, b = .own l e s → p.2 = 0) (h2 : ∀ l, b = .ro l → Row E.h p.1 p.2 l ∧ Ro E.C E.h (I6 p.1)) (h3 : ∀ l, b = .tmp l → Row h' p.1 p.2 l ∧ ∃ g ∈ G, g.dR p.1) : Mem E (κ ++ [p]) (B ++ [b]) G h' := by
 have last : nth (κ ++ [p]) B.length = some p := by rw [← M.len]; exact r9 κ p
 refine ⟨?_, ?_, by simp [M.len], ?_, ?_, ?_⟩
 ·rw [tU M.len]
  refine c.perm ?_
  rw [← List.append_assoc]
  exact List.Perm.append_right _ List.perm_append_comm
 ·obtain ⟨t, ht⟩ := M.pre
  exact ⟨t ++ [p], by rw [ht, List.append_assoc]⟩
 ·intro i l e s hb
  rcases wb hb with hb | ⟨rfl, hq⟩
  ·obtain ⟨k, hk⟩ := M.own i l e s hb
   exact ⟨k, dp hk⟩
  ·obtain ⟨k, o⟩ := p
   have := h1 l e s hq.symm
   simp only at this
   subst this
   exact ⟨k, last⟩
 ·intro i l hb
  rcases wb hb with hb | ⟨rfl, hq⟩
  ·obtain ⟨k, o, hk, hr⟩ := M.ro i l hb
   exact ⟨k, o, dp hk, hr⟩
  ·obtain ⟨k, o⟩ := p
   exact ⟨k, o, last, h2 l hq.symm⟩
 ·intro i l hb
  rcases wb hb with hb | ⟨rfl, hq⟩
  ·obtain ⟨k, o, hk, hr, hg'⟩ := M.tmp i l hb
   exact ⟨k, o, dp hk, hr.ji (hg k hg'), hg'⟩
  ·obtain ⟨k, o⟩ := p
   exact ⟨k, o, last, h3 l hq.symm⟩
theorem K5 {C B : List Part} {h0 h h' : Heap} {k : Nat} {l : List aa} {e : Nat} {s : Bool} (c : fU C h0 B h) (m : Made h k (.cells l e s true) h') : fU C h0 (eR k l e s :: B) h' := by
 have d : fU [] h [eR k l e s] h' := by
  refine ⟨m.wf, m.ext.next, fun e _ => m.ext.get e, ?_, List.pairwise_singleton _ _, ?_⟩
  ·intro r hr
   simp only [List.mem_singleton] at hr
   subst hr
   exact m.get
  ·intro r hr j hj
   simp only [List.mem_singleton] at hr
   subst hr
   refine .inr ?_
   rw [show j = k from hj]; exact m.fresh
 exact c.trans (D := []) (R := B) (List.Perm.refl _) d
theorem Mem.stay (M : Mem E κ B G h) {C' : List Part} (d : fU [] h C' h') : ∀ k, (∃ g ∈ G, g.dR k) → h'.get k = h.get k := by
 rintro k ⟨g, hg, hk⟩
 obtain ⟨o, ho⟩ := g.live (M.aZ.all g (List.mem_append_right _ hg)) hk
 rw [ho]; exact d.ji ho fun r hr => by simp at hr
theorem Mem.made (M : Mem E κ B G h) {k : Nat} {l : List aa} {e : Nat} {s : Bool} (m : Made h k (.cells l e s true) h') : Mem E (κ ++ [(k, 0)]) (B ++ [.own l e s]) G h' := by
 refine M.snoc (k, 0) (.own l e s) (K5 M.aZ m) ?_ (fun _ _ _ _ => rfl) (fun _ h => by cases h) (fun _ h => by cases h)
 exact M.stay (C' := []) (fU.KU m.ext m.wf)
theorem Mem.Px (M : Mem E κ B G h) {k off : Nat} {l : List aa} (hr : Row E.h k off l) (ha : Ro E.C E.h (I6 k)) : Mem E (κ ++ [(k, off)]) (B ++ [.ro l]) G h :=
 M.snoc (k, off) (.ro l) M.aZ (fun _ _ => rfl) (fun _ _ _ h => by cases h) (fun _ h => by cases h; exact ⟨hr, ha⟩) (fun _ h => by cases h)
theorem Mem.NW (M : Mem E κ B G h) {k off : Nat} {l : List aa} (hr : Row h k off l) (ha : ∃ g ∈ G, g.dR k) : Mem E (κ ++ [(k, off)]) (B ++ [.tmp l]) G h :=
 M.snoc (k, off) (.tmp l) M.aZ (fun _ _ => rfl) (fun _ _ _ h => by cases h) (fun _ h => by cases h) (fun _ h => by cases h; exact ⟨hr, ha⟩)
theorem jg {α : Type} {l : List α} {i j : Nat} {a b : α} (h : nth (l.set i a) j = some b) : j = i ∧ b = a ∨ j ≠ i ∧ nth l j = some b := by
 rw [bU] at h ⊢
 by_cases hj : i = j
 ·subst hj
  rw [List.getElem?_set] at h
  split at h <;> simp_all
 ·rw [List.getElem?_set_ne hj] at h
  exact .inr ⟨fun e => hj e.symm, h⟩
theorem Mem.set (M : Mem E κ B G h) {i k : Nat} {l l' : List aa} {e e' : Nat} {s s' : Bool} (hb : nth B i = some (.own l e s)) (hk : nth κ i = some (k, 0)) (d : fU [eR k l e s] h [eR k l' e' s'] h') : Mem E κ (B.set i (.own l' e' s')) G h' := by
 obtain ⟨R, h3, h4, _⟩ := gv hb hk
 have c := M.aZ.trans (D := [eR k l e s]) (R := R ++ G) (D' := [eR k l' e' s']) (by simpa using List.Perm.append_right G h3) d
 have stay : ∀ j, (∃ g ∈ G, g.dR j) → h'.get j = h.get j := by
  rintro j ⟨g, hg, hj⟩
  obtain ⟨o, ho⟩ := g.live (M.aZ.all g (List.mem_append_right _ hg)) hj
  rw [ho]
  refine d.ji ho fun r hr hrj => ?_
  simp only [List.mem_singleton] at hr
  subst hr
  exact (List.pairwise_append.1 M.aZ.tk).2.2 _ (cQ hb hk) g hg j hrj hj
 refine ⟨c.perm (List.Perm.append_right G (h4 l' e' s')).symm, M.pre, by rw [List.length_set]; exact M.len, ?_, ?_, ?_⟩
 ·intro j m a b hj
  rcases jg hj with ⟨rfl, _⟩ | ⟨_, hj⟩
  ·exact ⟨k, hk⟩
  ·exact M.own j m a b hj
 ·intro j m hj
  rcases jg hj with ⟨rfl, e⟩ | ⟨_, hj⟩
  ·cases e
  ·exact M.ro j m hj
 ·intro j m hj
  rcases jg hj with ⟨rfl, e⟩ | ⟨_, hj⟩
  ·cases e
  ·obtain ⟨k2, o, g1, g2, g3⟩ := M.tmp j m hj
   exact ⟨k2, o, g1, g2.ji (stay k2 g3), g3⟩
theorem FA {h h' : Heap} {k : Nat} {l l' : List aa} {e e' : Nat} {s s' : Bool} (p : QT h k (.cells l' e' s' true) h') : fU [eR k l e s] h [eR k l' e' s'] h' := by
 refine ⟨p.wf, Nat.le_of_eq p.next.symm, fun {j o} hj hn => ?_, ?_, List.pairwise_singleton _ _, ?_⟩
 ·rw [p.uR j (fun e => hn _ (List.mem_singleton.2 rfl) e)]; exact hj
 ·intro r hr
  simp only [List.mem_singleton] at hr
  subst hr
  exact p.get
 ·intro r hr j hj
  simp only [List.mem_singleton] at hr
  subst hr
  exact .inl ⟨_, List.mem_singleton.2 rfl, hj⟩
theorem Mem.put (M : Mem E κ B G h) {i k : Nat} {l l' : List aa} {e : Nat} {s : Bool} (hb : nth B i = some (.own l e s)) (hk : nth κ i = some (k, 0)) (p : QT h k (.cells l' e s true) h') : Mem E κ (B.set i (.own l' e s)) G h' := M.set hb hk (FA p)
end
end
end Go.HL
namespace Go.HL
open Go
noncomputable section
def PM (P : Program) : List (Nat × List aa) → Prop
 | [] => True
 | p :: l => ag P p.1 = some p.2 ∧ PM P l
def zL : List (Nat × List aa) → Nat → Option (List aa)
 | [], _ => none
 | p :: l, t => ae (Nat.beq p.1 t) (some p.2) (zL l t)
theorem PM.look {P : Program} : ∀ {zl : List (Nat × List aa)}, PM P zl → ∀ {t : Nat} {z : List aa}, zL zl t = some z → ag P t = some z
 | p :: l, hz, t, z, h => by
  simp only [zL] at h
  cases hb : Nat.beq p.1 t with
  | true => rw [hb] at h; cases h; rw [← Nat.eq_of_beq_eq_true hb]; exact hz.1
  | false => rw [hb] at h; exact hz.2.look h
structure TK (P : Program) (aw : iO) (zl : List (Nat × List aa)) : Prop where
 aw : bH P aw = true
 zero : PM P zl
def Jh {β : Type} : List bX → Nat → (Nat → Option β) → Option β
 | [], n, k => k n
 | _ :: B, n, k => Jh B (Nat.succ n) k
theorem A5 {β : Type} : ∀ (B : List bX) (n : Nat) (k : Nat → Option β), Jh B n k = k (n + B.length)
 | [], n, k => rfl
 | b :: B, n, k => by rw [Jh, A5 B]; simp [Nat.add_comm, Nat.add_left_comm]
def qP {β : Type} : List bX → Nat → bX → (List bX → Option β) → Option β
 | [], _, _, k => k []
 | b :: B, i, x, k => Nat.rec (motive := fun _ => Option β) (k (x :: B)) (fun j _ => qP B j x fun r => k (b :: r)) i
theorem iz {β : Type} : ∀ (B : List bX) (i : Nat) (x : bX) (k : List bX → Option β), qP B i x k = k (B.set i x)
 | [], _, _, _ => rfl
 | b :: B, 0, x, k => rfl
 | b :: B, i + 1, x, k => by
  show qP B i x (fun r => k (b :: r)) = _
  rw [iz B]; rfl
def qY (P : Program) (aw : iO) (L : SL) (fs : List (Nat × Nat)) : List (Nat × Operand) → Option (List (Nat × Nat × aa))
 | [] => some []
 | p :: l => ob (nth fs p.1) fun f => ob (bY aw f.2) fun w => ob (cU P L p.2) fun v => ob (qY P aw L fs l) fun r => some ((f.1, w.2, v) :: r)
def C0 (P : Program) (L : SL) (w : Nat) : List (Nat × Operand) → Option (List (Nat × Nat × aa))
 | [] => some []
 | p :: l => ob (cU P L p.2) fun v => ob (C0 P L w l) fun r => some ((Nat.mul p.1 w, w, v) :: r)
theorem dD {α : Type} {b : Bool} {t : Option α} {r : α} (h : ae b t none = some r) : b = true ∧ t = some r := by
 cases b
 ·cases h
 ·exact ⟨rfl, h⟩
theorem xz {α : Type} {b : Bool} {t : Option α} {r : α} (h : ae b none t = some r) : b = false ∧ t = some r := by
 cases b
 ·exact ⟨rfl, h⟩
 ·cases h
def J7 (B : List bX) (l : List aa) (e : Nat) (k : Nat → SV) : Option (SV × List bX) := Aq B [.own l e false] fun B' => Jh B 0 fun n => some (k n, B')
def OR (P : Program) (aw : iO) (L : SL) (B : List bX) (t : Nat) (x : Operand) : Option (SV × List bX) :=
 ob (bY aw t) fun w => ob (uE P L x) fun v => match w.1 with
  | .slice _ => match v with
   | .ext v => ob (dO v) fun n => some (.ext (.int .i64 (n : Int)), B)
   | .sl _ n => some (.ext (.int .i64 (n : Int)), B)
   | _ => none
  | .str => match v with
   | .ext (.str n _) => some (.ext (.int .i64 (n : Int)), B)
   | _ => none
  | _ => none
def Mb (b : Bool) (B : List bX) : Option (SV × List bX) := ae b (some (.ext (.bool true), B)) (some (.ext (.bool false), B))
def NH : BinOp → Int → Int → Option Bool
 | .eql, a, b => some (n7 a b)
 | .neq, a, b => some (ae (n7 a b) false true)
 | .lss, a, b => some (HX a b)
 | .leq, a, b => some (Lh a b)
 | .gtr, a, b => some (HX b a)
 | .geq, a, b => some (Lh b a)
 | _, _, _ => none
def O8 (P : Program) (aw : iO) (zl : List (Nat × List aa)) (L : SL) (B : List bX) (op : Op) : Option (SV × List bX) :=
 match op with
 | .move x => ob (uE P L x) fun v => some (v, B)
 | .assign x => ob (uE P L x) fun v => some (v, B)
 | .pick c x y => ob (cU P L c) fun c => match c with
  | .bool b => ae b (ob (uE P L x) fun v => some (v, B)) (ob (uE P L y) fun v => some (v, B))
  | _ => none
 | .unOp u _ x => match u with
  | .not => ob (cU P L x) fun v => match v with
   | .bool b => ae b (some (.ext (.bool false), B)) (some (.ext (.bool true), B))
   | _ => none
  | _ => none
 | .nilCheck x => ob (uE P L x) fun v => match v with
  | .ptr i off => some (.ptr i off, B)
  | .ext (.ptr k off) => some (.ext (.ptr k off), B)
  | _ => none
 | .extract x i => ob (cU P L x) fun v => match v with
  | .tuple l => ob (nth l i) fun v => some (.ext v, B)
  | _ => none
 | .alloc e => ob (zL zl e) fun z => J7 B z e fun n => .ptr n 0
 | .box e x => ob (cU P L x) fun v => ob v.cells fun l => J7 B l e fun n => .ptr n 0
 | .build t parts => ob (zL zl t) fun z => ob (bY aw t) fun w => match w.1 with
  | .struct fs => ae (mc aw fs) (ob (qY P aw L fs parts.toList) fun ps => ob (eI ps z) fun cs => some (.ext (.agg cs), B)) none
  | .array _ e => ob (bY aw e) fun we => ob (C0 P L we.2 parts.toList) fun ps => ob (eI ps z) fun cs => some (.ext (.agg cs), B)
  | _ => none
 | .buildSlice t len parts => ob (bY aw t) fun w => match w.1 with
  | .slice e => ob (bY aw e) fun we => ae (Nat.ble (Nat.mul len we.2) 16777216) (ob (zL zl e) fun z => ae (Nat.beq z.length we.2) (ob (C0 P L we.2 parts.toList) fun ps => ob (eI ps (gp len z)) fun cs => J7 B cs e fun n => .sl n len) none) none
  | _ => none
 | .load t x => ob (uE P L x) fun v => match v with
  | .ptr i off => ob (nth B i) fun b => ob b.cells fun l => ob (bY aw t) fun w => ae w.1.agg (fp (jS l off) w.2 fun m => some (.ext (.agg m), B)) (ob (nth l off) fun v => some (.ext v, B))
  | _ => none
 | .store t x y => ob (uE P L x) fun v => match v with
  | .ptr i off => ob (nth B i) fun b => match b with
   | .own l e s => ob (cU P L y) fun w => ob w.cells fun new => ob (bY aw t) fun ty => ae (Nat.beq new.length ty.2) (fV l off new fun l' => qP B i (.own l' e s) fun B' => some (.ext bw, B')) none
   | _ => none
  | _ => none
 | .fieldAddr t x f => ob (bY aw t) fun w => match w.1 with
  | .struct fs => ob (nth fs f) fun q => ob (bY aw q.2) fun wq => ae (Nat.beq wq.2 0) none (ob (uE P L x) fun v => match v with
   | .ptr i off => some (.ptr i (Nat.add off q.1), B)
   | .ext (.ptr k off) => some (.ext (.ptr k (Nat.add off q.1)), B)
   | _ => none)
  | _ => none
 | .binOp bo _ x y _ => ob (cU P L x) fun a => ob (cU P L y) fun b => match a with
  | .int k a => match b with
   | .int j b => ae (sameKind k j) (ob (NH bo a b) fun r => Mb r B) none
   | _ => none
  | _ => none
 | .call c => match c.callee with
  | .builtin b => match b with
   | .len => match c.args.toList with
    | [x] => ob c.argTypes[0]? fun t => OR P aw L B t x
    | _ => none
   | _ => none
  | _ => none
 | _ => none
section
variable {P : Program} {aw : iO} {zl : List (Nat × List aa)} {κ : jq} {L : SL} {L0 : cj} {B B' : List bX} {G : List Part} {E : eK} {h : Heap} {o : Oper} {sv : SV}
theorem pX (r : dx κ L L0) {fs : List (Nat × Nat)} : ∀ {l : List (Nat × Operand)} {ps : List (Nat × Nat × aa)}, qY P aw L fs l = some ps → oQ P aw L0 fs l = some ps
 | [], ps, e => e
 | p :: l, ps, e => by
  simp only [qY] at e
  obtain ⟨f, e1, e2⟩ := ad.1 e
  obtain ⟨w, e3, e4⟩ := ad.1 e2
  obtain ⟨v, e5, e6⟩ := ad.1 e4
  obtain ⟨q, e7, e8⟩ := ad.1 e6
  simp only [oQ, e1, e3, obS, aF r e5, pX r e7, e8]
theorem wS (r : dx κ L L0) {w : Nat} : ∀ {l : List (Nat × Operand)} {ps : List (Nat × Nat × aa)}, C0 P L w l = some ps → wT P L0 w l = some ps
 | [], ps, e => e
 | p :: l, ps, e => by
  simp only [C0] at e
  obtain ⟨v, e1, e2⟩ := ad.1 e
  obtain ⟨q, e3, e4⟩ := ad.1 e2
  simp only [wT, aF r e1, obS, wS r e3, e4]
theorem zi {β : Type} (B : List bX) (b : bX) (k : List bX → Option β) : Aq B [b] k = k (B ++ [b]) := rZ _ _ _
def Ks (P : Program) (o : Oper) (L0 : cj) (h : Heap) (E : eK) (κ : jq) (G : List Part) (sv : SV) (B' : List bX) : Prop := ∃ κ' v h', cK P o L0 h v h' ∧ Az κ' sv v ∧ Mem E κ' B' G h' ∧ ∃ t, κ' = κ ++ t
theorem Ks.same {v : aa} (hv : cK P o L0 h v h) (r : Az κ sv v) (M : Mem E κ B G h) : Ks P o L0 h E κ G sv B := ⟨κ, v, h, hv, r, M, [], by simp⟩
theorem sS {l : List aa} {e : Nat} {k : Nat → SV} (he : J7 B l e k = some (sv, B')) (M : Mem E κ B G h) {f : Nat → aa} (hm : FR P o L0 h f (.cells l e false true)) (hr : ∀ κ' n j, nth κ' n = some (j, 0) → Az κ' (k n) (f j)) : Ks P o L0 h E κ G sv B' := by
 unfold J7 at he
 rw [zi, A5, Nat.zero_add] at he
 cases he
 have mk := jL M.wf (.cells l e false true)
 refine ⟨κ ++ [(h.next, 0)], _, _, fun ev ha => hm ev ha, hr _ _ _ ?_, M.made mk, _, rfl⟩
 rw [← M.len]; exact r9 _ _
theorem Row.sub {k o' off n : Nat} {l m : List aa} (hr : Row h k o' l) (hm : fp (jS l off) n some = some m) : Row h k (Nat.add o' off) m := by
 have h1 := hr.load
 unfold eh at h1
 obtain ⟨q, hq, e⟩ := ad.1 h1
 rw [bz, dr] at e hm
 split at hm
 ·rename_i hle
  split at e
  ·rename_i hle2
   have e := Option.some.inj e
   have hm := Option.some.inj hm
   refine ⟨?_⟩
   unfold eh
   rw [hq, obS, bz, dr]
   have hml : m.length = n := by rw [← hm, List.length_take, Nat.min_eq_left hle]
   have hl : l.length ≤ (q.1.drop o').length := hle2
   rw [List.length_drop] at hle hl
   rw [if_pos (by rw [hml, List.length_drop]; simp only [Nat.add_eq]; omega), hml, ← hm, ← e]
   simp only [Nat.add_eq]
   rw [List.drop_take, List.take_take, List.drop_drop]
   congr 2
   omega
  ·cases e
 ·cases hm
theorem V.NS {t q w len e : Nat} {i : TI} {parts : Array (Nat × Operand)} {ps : List (Nat × Nat × aa)} {z cs : List aa} (hT : bH P aw = true) (ho : o.op = .build t parts) (ht : bY aw t = some (.array len e, q)) (he : bY aw e = some (i, w)) (hz : ag P t = some z) (hp : wT P L0 w parts.toList = some ps) (hc : eI ps z = some cs) : cK P o L0 h (.agg cs) h := cK.mk ho fun ev hag d ty pp aft g => by
 obtain ⟨hu, inf, hi⟩ := oL hT ht
 simp only [bS, hz, obS, hu, hi, (cP hT he).2, oj hag hp, hc]
theorem V.D3 {t k off w : Nat} {i : TI} {x y : Operand} {v : aa} {l l' new : List aa} {e : Nat} {s : Bool} (hT : bH P aw = true) (ho : o.op = .store t x y) (ht : bY aw t = some (i, w))
  (hx : eS P L0 x = some (.ptr k off)) (hy : eS P L0 y = some v) (hc : v.cells = some new) (hl : Nat.beq new.length w = true) (hg : h.get k = some (.cells l e s true)) (hov : fV l off new some = some l') : cK P o L0 h bw (h.put k (.cells l' e s true)) := cK.mk ho fun ev ha d ty ps aft g => by
 have hag := jd hT ht
 unfold gH at hag
 obtain ⟨dd, hd, _⟩ := ad.1 hag
 obtain ⟨inf, hi⟩ := info_of_underlying hd
 have e1 : iS h k off new = some (h.put k (.cells l' e s true)) := by
  unfold iS
  rw [bQ hg, obS, bcT]
  rw [dn] at hov ⊢
  split at hov
  ·rename_i hle
   have := Option.some.inj hov
   rw [if_pos hle, this]
  ·cases hov
 simp only [bS, hi, obS, evS ha hx, evS ha hy, aa.dI, hc, (cP hT ht).2, hl, bcT, e1]
theorem Dr {l l' new : List aa} {off : Nat} {β : Type} {k : List aa → Option β} {b : β} (h : fV l off new k = some b) : ∃ l', fV l off new some = some l' ∧ k l' = some b := by
 rw [dn] at h
 split at h
 ·rename_i hle
  exact ⟨_, by rw [dn, if_pos hle], h⟩
 ·cases h
theorem vw {l : List aa} {n : Nat} {β : Type} {k : List aa → Option β} {b : β} (h : fp l n k = some b) : ∃ m, fp l n some = some m ∧ k m = some b := by
 rw [bz] at h
 split at h
 ·rename_i hle
  exact ⟨_, by rw [bz, if_pos hle], h⟩
 ·cases h
theorem CV {b : Bool} (h : Mb b B = some (sv, B')) : sv = .ext (.bool b) ∧ B' = B := by
 cases b <;> (cases h; exact ⟨rfl, rfl⟩)
theorem V.Qu {bo : BinOp} {t p : Nat} {x y : Operand} {k j : IntKind} {a b : Int} {r : Bool} (ho : o.op = .binOp bo t x y p) (hx : eS P L0 x = some (.int k a)) (hy : eS P L0 y = some (.int j b)) (hk : sameKind k j = true) (hr : NH bo a b = some r) : cK P o L0 h (.bool r) h := cK.mk ho fun ev ha d ty ps aft g => by
 cases bo <;> simp only [NH] at hr <;> try (cases hr; done)
 all_goals cases hr; simp only [bS, evS ha hx, evS ha hy, kc, df, hk, bcT, jb, HL.val, obS]
theorem tj (hX : TK P aw zl) (r : dx κ L L0) (M : Mem E κ B G h) (he : O8 P aw zl L B o.op = some (sv, B')) : Ks P o L0 h E κ G sv B' := by
 cases ho : o.op
 all_goals rw [ho] at he
 all_goals simp only [O8] at he
 all_goals try (cases he; done)
 case move x =>
  obtain ⟨v, h1, h2⟩ := ad.1 he
  cases h2
  obtain ⟨w, h3, h4⟩ := cN r h1
  exact .same (V.move ho h3) h4 M
 case assign x =>
  obtain ⟨v, h1, h2⟩ := ad.1 he
  cases h2
  obtain ⟨w, h3, h4⟩ := cN r h1
  exact .same (V.assign ho h3) h4 M
 case pick c x y =>
  obtain ⟨v, h1, h2⟩ := ad.1 he
  have h1' := aF r h1
  cases v <;> simp only at h2 <;> try (cases h2; done)
  rename_i b
  cases b with
  | true =>
   rw [bcT] at h2
   obtain ⟨v, h3, h4⟩ := ad.1 h2
   cases h4
   obtain ⟨w, h5, h6⟩ := cN r h3
   exact .same (V.Gu ho h1' h5) h6 M
  | false =>
   rw [bcF] at h2
   obtain ⟨v, h3, h4⟩ := ad.1 h2
   cases h4
   obtain ⟨w, h5, h6⟩ := cN r h3
   exact .same (V.Dn ho h1' h5) h6 M
 case unOp u t x =>
  cases u <;> simp only at he <;> try (cases he; done)
  obtain ⟨v, h1, h2⟩ := ad.1 he
  have h1' := aF r h1
  cases v <;> simp only at h2 <;> try (cases h2; done)
  rename_i b
  cases b with
  | true => rw [bcT] at h2; cases h2; exact .same (V.not_true ho h1') (.ext _) M
  | false => rw [bcF] at h2; cases h2; exact .same (V.not_false ho h1') (.ext _) M
 case nilCheck x =>
  obtain ⟨v, h1, h2⟩ := ad.1 he
  obtain ⟨w, h3, h4⟩ := cN r h1
  cases v with
  | ptr i off => cases h2; cases h4 with | ptr hk => exact .same (V.nilCheck ho h3) (.ptr hk) M
  | sl => cases h2
  | ext u =>
   cases h4
   cases w <;> simp only at h2 <;> try (cases h2; done)
   cases h2
   exact .same (V.nilCheck ho h3) (.ext _) M
 case extract x i =>
  obtain ⟨v, h1, h2⟩ := ad.1 he
  have h1' := aF r h1
  cases v <;> simp only at h2 <;> try (cases h2; done)
  obtain ⟨v, h3, h4⟩ := ad.1 h2
  cases h4
  exact .same (V.extract ho h1' h3) (.ext _) M
 case alloc e =>
  obtain ⟨z, h1, h2⟩ := ad.1 he
  exact sS h2 M (Go.HL.M.alloc ho (hX.zero.look h1)) fun κ' n j hj => .ptr hj
 case box e x =>
  obtain ⟨v, h1, h2⟩ := ad.1 he
  obtain ⟨l, h3, h4⟩ := ad.1 h2
  exact sS h4 M (Go.HL.M.box ho (aF r h1) h3) fun κ' n j hj => .ptr hj
 case build t parts =>
  obtain ⟨z, h1, h2⟩ := ad.1 he
  obtain ⟨⟨ti, n⟩, h3, h4⟩ := ad.1 h2
  cases ti <;> simp only at h4 <;> try (cases h4; done)
  ·obtain ⟨h5, h6⟩ := dD h4
   obtain ⟨ps, h7, h8⟩ := ad.1 h6
   obtain ⟨cs, h9, h10⟩ := ad.1 h8
   cases h10
   exact .same (V.build hX.aw ho h3 (hX.zero.look h1) (pX r h7) h5 h9) (.ext _) M
  ·obtain ⟨⟨te, we⟩, h5, h6⟩ := ad.1 h4
   obtain ⟨ps, h7, h8⟩ := ad.1 h6
   obtain ⟨cs, h9, h10⟩ := ad.1 h8
   cases h10
   exact .same (V.NS hX.aw ho h3 h5 (hX.zero.look h1) (wS r h7) h9) (.ext _) M
 case buildSlice t len parts =>
  obtain ⟨⟨ti, n⟩, h1, h2⟩ := ad.1 he
  cases ti <;> simp only at h2 <;> try (cases h2; done)
  obtain ⟨⟨te, we⟩, h3, h4⟩ := ad.1 h2
  obtain ⟨h5, h6⟩ := dD h4
  obtain ⟨z, h7, h8⟩ := ad.1 h6
  obtain ⟨h9, h10⟩ := dD h8
  obtain ⟨ps, h11, h12⟩ := ad.1 h10
  obtain ⟨cs, h13, h14⟩ := ad.1 h12
  exact sS h14 M (Go.HL.M.buildSlice hX.aw ho h1 h3 h5 (hX.zero.look h7) h9 (wS r h11) h13) fun κ' n j hj => .sl hj
 case load t x =>
  obtain ⟨v, h1, h2⟩ := ad.1 he
  obtain ⟨w, h3, h4⟩ := cN r h1
  cases v <;> simp only at h2 <;> try (cases h2; done)
  obtain ⟨b, h5, h6⟩ := ad.1 h2
  obtain ⟨l, h7, h8⟩ := ad.1 h6
  obtain ⟨⟨ti, n⟩, h9, h10⟩ := ad.1 h8
  cases h4 with
  | ptr hk =>
   obtain ⟨k, o2, g1, g2⟩ := M.row h5 h7
   rw [hk] at g1
   cases g1
   cases hag : ti.agg with
   | true =>
    simp only [hag, bcT] at h10
    obtain ⟨m, h11, h12⟩ := vw h10
    cases h12
    refine .same (V.DO hX.aw ho h9 hag h3 (g2.sub h11) ?_) (.ext _) M
    rw [bz] at h11
    split at h11
    ·rename_i hle
     have := Option.some.inj h11
     rw [bD]
     refine decide_eq_true ?_
     rw [← this, List.length_take, Nat.min_eq_left hle]
    ·cases h11
   | false =>
    simp only [hag, bcF] at h10
    obtain ⟨v, h11, h12⟩ := ad.1 h10
    cases h12
    exact .same (V.Fe hX.aw ho h9 hag h3 g2 h11) (.ext _) M
 case store t x y =>
  obtain ⟨v, h1, h2⟩ := ad.1 he
  obtain ⟨w, h3, h4⟩ := cN r h1
  cases v <;> simp only at h2 <;> try (cases h2; done)
  obtain ⟨b, h5, h6⟩ := ad.1 h2
  cases b <;> simp only at h6 <;> try (cases h6; done)
  obtain ⟨u, h7, h8⟩ := ad.1 h6
  obtain ⟨new, h9, h10⟩ := ad.1 h8
  obtain ⟨⟨ti, n⟩, h11, h12⟩ := ad.1 h10
  obtain ⟨h13, h14⟩ := dD h12
  obtain ⟨l', h15, h16⟩ := Dr (l' := []) h14
  rw [iz] at h16
  cases h16
  cases h4 with
  | ptr hk =>
   obtain ⟨k, g1⟩ := M.own _ _ _ _ h5
   rw [hk] at g1
   cases g1
   have hg := M.aZ.all _ (List.mem_append_left _ (cQ h5 hk))
   refine ⟨κ, _, _, V.D3 hX.aw ho h11 h3 (aF r h7) h9 h13 hg ?_, .ext _, M.put h5 hk (oP M.wf _ (M.wf.lt hg)), [], by simp⟩
   simp only [Nat.add_eq, Nat.zero_add]
   exact h15
 case fieldAddr t x f =>
  obtain ⟨⟨ti, n⟩, h1, h2⟩ := ad.1 he
  cases ti <;> simp only at h2 <;> try (cases h2; done)
  obtain ⟨q, h3, h4⟩ := ad.1 h2
  obtain ⟨⟨tq, nq⟩, h5, h6⟩ := ad.1 h4
  obtain ⟨h7, h8⟩ := xz h6
  obtain ⟨v, h9, h10⟩ := ad.1 h8
  obtain ⟨w, h11, h12⟩ := cN r h9
  cases v with
  | sl => cases h10
  | ptr i off =>
   cases h10
   cases h12 with
   | @ptr _ _ k o2 hk =>
    refine .same (V.fieldAddr hX.aw ho h1 h3 h5 h7 h11) ?_ M
    have := Az.ptr (κ := κ) (off := Nat.add off q.1) hk
    simp only [Nat.add_eq, ← Nat.add_assoc] at this ⊢
    exact this
  | ext u =>
   cases h12
   cases w <;> simp only at h10 <;> try (cases h10; done)
   cases h10
   exact .same (V.fieldAddr hX.aw ho h1 h3 h5 h7 h11) (.ext _) M
 case binOp bo t x y p =>
  obtain ⟨a, h1, h2⟩ := ad.1 he
  obtain ⟨b, h3, h4⟩ := ad.1 h2
  cases a <;> simp only at h4 <;> try (cases h4; done)
  cases b <;> simp only at h4 <;> try (cases h4; done)
  obtain ⟨h5, h6⟩ := dD h4
  obtain ⟨c, h7, h8⟩ := ad.1 h6
  obtain ⟨rfl, rfl⟩ := CV h8
  exact .same (V.Qu ho (aF r h1) (aF r h3) h5 h7) (.ext _) M
 case call c =>
  split at he
  ·rename_i b hc
   cases b <;> simp only at he <;> try (cases he; done)
   split at he
   ·rename_i x hx
    obtain ⟨t, h1, h2⟩ := ad.1 he
    unfold OR at h2
    obtain ⟨⟨ti, n⟩, h3, h4⟩ := ad.1 h2
    obtain ⟨v, h5, h6⟩ := ad.1 h4
    obtain ⟨w, h7, h8⟩ := cN r h5
    have hx' : c.args = #[x] := by
     rcases c with ⟨_, ⟨l⟩, _⟩
     simp only at hx ⊢
     rw [hx]
    cases ti <;> simp only at h6 <;> try (cases h6; done)
    ·cases v with
     | ptr => cases h6
     | sl i m => cases h6
     | ext u =>
      cases h8
      cases w <;> simp only at h6 <;> try (cases h6; done)
      cases h6
      exact .same (V.Qq hX.aw ho hc hx' h1 h3 h7) (.ext _) M
    ·cases v with
     | ptr => cases h6
     | sl i m => cases h6; cases h8; exact .same (V.len hX.aw ho hc hx' h1 h3 h7 rfl) (.ext _) M
     | ext u =>
      cases h8
      obtain ⟨m, h9, h10⟩ := ad.1 h6
      cases h10
      exact .same (V.len hX.aw ho hc hx' h1 h3 h7 h9) (.ext _) M
   ·cases he
  ·cases he
end
end
end Go.HL
