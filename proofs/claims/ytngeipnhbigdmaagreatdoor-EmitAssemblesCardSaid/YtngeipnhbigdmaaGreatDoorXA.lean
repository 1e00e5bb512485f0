/- Runs of HL, the state known by signs: the memory by parts; the operations that are computed. No statement of the seat stands here. -/
import Derived.Test.YtngeipnhbigdmaaGreatDoorSC
set_option linter.unusedVariables false
set_option linter.unusedSimpArgs false
namespace Go.HL
open Go
noncomputable section
structure Part where
 dG : Nat → Prop
 holds : Heap → Prop
 loc : ∀ {h h' : Heap}, (∀ k, dG k → h'.get k = h.get k) → holds h → holds h'
 live : ∀ {h : Heap} {k : Nat}, holds h → dG k → ∃ o, h.get k = some o
def oQ (a b : Part) : Prop := ∀ k, a.dG k → ¬ b.dG k
structure fL (C : List Part) (h : Heap) (C' : List Part) (h' : Heap) : Prop where
 wf : Wf h'
 next : h.next ≤ h'.next
 jJ : ∀ {k : Nat} {o : aE}, h.get k = some o → (∀ r ∈ C, ¬ r.dG k) → h'.get k = some o
 all : ∀ r ∈ C', r.holds h'
 vz : C'.Pairwise oQ
 own : ∀ r ∈ C', ∀ k, r.dG k → (∃ q ∈ C, q.dG k) ∨ h.get k = none
theorem oQ.symm {a b : Part} (h : oQ a b) : oQ b a := fun k hb ha => h k ha hb
theorem fL.refl {h : Heap} (w : Wf h) : fL [] h [] h := ⟨w, Nat.le_refl _, fun e _ => e, fun r hr => by simp at hr, .nil, fun r hr => by simp at hr⟩
theorem fL.IA {h h' : Heap} (g : Grow h h') (w : Wf h') : fL [] h [] h' := ⟨w, g.next, fun e _ => g.get e, fun r hr => by simp at hr, .nil, fun r hr => by simp at hr⟩
inductive aI : List Part → Part → List Part → Prop
 | h {a : Part} {B : List Part} : aI (a :: B) a B
 | t {a b : Part} {B R : List Part} (p : aI B a R) : aI (b :: B) a (b :: R)
theorem aI.perm {B R : List Part} {a : Part} (p : aI B a R) : List.Perm B (a :: R) := by
 induction p with
 | h => exact List.Perm.refl _
 | t p ih => exact (List.Perm.cons _ ih).trans (List.Perm.swap _ _ _)
theorem aI.mem {B R : List Part} {a : Part} (p : aI B a R) : a ∈ B := p.perm.mem_iff.2 (by simp)
inductive qU : List Part → List Part → List Part → Prop
 | nil {B : List Part} : qU B [] B
 | cons {B C R S : List Part} {a : Part} (p : aI B a R) (q : qU R C S) : qU B (a :: C) S
theorem qU.perm {B C R : List Part} (p : qU B C R) : List.Perm B (C ++ R) := by
 induction p with
 | nil => exact List.Perm.refl _
 | cons p q ih => exact p.perm.trans (List.Perm.cons _ ih)
theorem oI {B C : List Part} (p : List.Perm B C) (h : B.Pairwise oQ) : C.Pairwise oQ := p.pairwise h fun h => h.symm
theorem fL.perm {C B B' : List Part} {h h' : Heap} (p : List.Perm B B') (c : fL C h B h') : fL C h B' h' :=
 ⟨c.wf, c.next, c.jJ, fun r hr => c.all r (p.mem_iff.2 hr), oI p c.vz, fun r hr => c.own r (p.mem_iff.2 hr)⟩
theorem fL.drop {C B R : List Part} {h h' : Heap} (c : fL C h (B ++ R) h') : fL C h B h' :=
 ⟨c.wf, c.next, c.jJ, fun r hr => c.all r (by simp [hr]), (List.pairwise_append.1 c.vz).1, fun r hr => c.own r (by simp [hr])⟩
theorem fL.bx {C B D R : List Part} {h h' : Heap} (p : qU B D R) (c : fL C h B h') : fL C h D h' := (c.perm p.perm).drop
theorem fL.trans {C B D R D' : List Part} {h h' h2 : Heap} (c : fL C h B h') (p : List.Perm B (D ++ R)) (d : fL D h' D' h2) : fL C h (D' ++ R) h2 := by
 have c := c.perm p
 have hd := List.pairwise_append.1 c.vz
 have stay : ∀ r ∈ R, ∀ k, r.dG k → h2.get k = h'.get k := by
  intro r hr k hk
  obtain ⟨o, ho⟩ := r.live (c.all r (by simp [hr])) hk
  rw [ho]
  exact d.jJ ho fun q hq hqk => hd.2.2 q hq r hr k hqk hk
 have back : ∀ k, h'.get k = none → (∃ q ∈ C, q.dG k) ∨ h.get k = none := by
  intro k hk
  cases e : h.get k with
  | none => exact .inr rfl
  | some o =>
   refine .inl (Classical.byContradiction fun hn => ?_)
   have := c.jJ e fun r hr hrk => hn ⟨r, hr, hrk⟩
   rw [hk] at this; cases this
 refine ⟨d.wf, Nat.le_trans c.next d.next, fun {k o} e hn => ?_, ?_, ?_, ?_⟩
 ·have e2 := c.jJ e hn
  refine d.jJ e2 fun r hr hrk => ?_
  rcases c.own r (by simp [hr]) k hrk with ⟨q, hq, hqk⟩ | hno
  ·exact hn q hq hqk
  ·rw [e] at hno; cases hno
 ·intro r hr
  rcases List.mem_append.1 hr with hr | hr
  ·exact d.all r hr
  ·exact r.loc (fun k hk => stay r hr k hk) (c.all r (by simp [hr]))
 ·refine List.pairwise_append.2 ⟨d.vz, hd.2.1, fun a ha b hb k hak hbk => ?_⟩
  rcases d.own a ha k hak with ⟨q, hq, hqk⟩ | hno
  ·exact hd.2.2 q hq b hb k hqk hbk
  ·obtain ⟨o, ho⟩ := b.live (c.all b (by simp [hb])) hbk
   rw [ho] at hno; cases hno
 ·intro r hr k hk
  rcases List.mem_append.1 hr with hr | hr
  ·rcases d.own r hr k hk with ⟨q, hq, hqk⟩ | hno
   ·exact c.own q (by simp [hq]) k hqk
   ·exact back k hno
  ·exact c.own r (by simp [hr]) k hk
structure Ro (C : List Part) (h : Heap) (a : Part) : Prop where
 holds : a.holds h
 CT : ∀ r ∈ C, oQ a r
theorem Ro.of {h : Heap} {a : Part} (ha : a.holds h) : Ro [] h a := ⟨ha, fun r hr => by simp at hr⟩
theorem Ro.get {C C' : List Part} {h h' : Heap} {a : Part} (r : Ro C h a) (c : fL C h C' h') {k : Nat} (hk : a.dG k) : h'.get k = h.get k := by
 obtain ⟨o, ho⟩ := a.live r.holds hk
 rw [ho]
 exact c.jJ ho fun q hq hqk => r.CT q hq k hk hqk
theorem Ro.at {C C' : List Part} {h h' : Heap} {a : Part} (r : Ro C h a) (c : fL C h C' h') : a.holds h' := a.loc (fun _ hk => r.get c hk) r.holds
theorem Ro.sep {C C' : List Part} {h h' : Heap} {a b : Part} (r : Ro C h a) (c : fL C h C' h') (hb : b ∈ C') : oQ a b := by
 intro k hk hbk
 rcases c.own b hb k hbk with ⟨q, hq, hqk⟩ | hno
 ·exact r.CT q hq k hk hqk
 ·obtain ⟨o, ho⟩ := a.live r.holds hk
  rw [ho] at hno; cases hno
/-! ## Parts -/
def kB (k : Nat) (l : List ad) (e : Nat) (s : Bool) : Part where
 dG j := j = k
 holds h := h.get k = some (.cells l e s true)
 loc e' hh := by rw [e' k rfl]; exact hh
 live {h j} hh e' := ⟨.cells l e s true, by rw [show j = k from e']; exact hh⟩
def Part.both (a b : Part) : Part where
 dG k := a.dG k ∨ b.dG k
 holds h := a.holds h ∧ b.holds h
 loc e hh := ⟨a.loc (fun k hk => e k (.inl hk)) hh.1, b.loc (fun k hk => e k (.inr hk)) hh.2⟩
 live hh hk := hk.elim (fun hk => a.live hh.1 hk) fun hk => b.live hh.2 hk
theorem Ro.left {C : List Part} {h : Heap} {a b : Part} (r : Ro C h (a.both b)) : Ro C h a := ⟨r.holds.1, fun q hq k hk => r.CT q hq k (.inl hk)⟩
theorem Ro.right {C : List Part} {h : Heap} {a b : Part} (r : Ro C h (a.both b)) : Ro C h b := ⟨r.holds.2, fun q hq k hk => r.CT q hq k (.inr hk)⟩
def rd (v : ad) (w : Nat) (rows : List (List ad)) : Part where
 dG k := Ac v = some k
 holds h := I8 h v w rows
 loc e hh := hh.jJ e
 live hh hk := hh.live _ hk
def IV (v : ad) (w : Nat) (rows : List (List ad)) : Part where
 dG k := Ac v = some k
 holds h := w7 h v ∧ I8 h v w rows
 loc {h h'} e hh := by
  refine ⟨?_, hh.2.jJ e⟩
  cases hh.1 with
  | aD => exact .aD
  | empty => exact .empty
  | slice k off c l s r hg => exact .slice k off c l s r (by rw [e k rfl]; exact hg)
 live hh hk := hh.2.live _ hk
def aH (e w : Nat) (v : ad) (rows : List (List ad)) : Part where
 dG k := th v = some k
 holds h := (∃ d, App h e w v rows.length rows.flatten d) ∧ ∀ r ∈ rows, r.length = w
 loc e hh := ⟨let ⟨d, a⟩ := hh.1; ⟨d, a.jJ e⟩, hh.2⟩
 live hh hk := let ⟨_, a⟩ := hh.1; a.live hk
def uR {α : Type} (key : α → ad) (k : Nat) (l : List (α × ad)) : Part where
 dG j := j = k
 holds h := oP key h k l
 loc e hh := hh.yw (e k rfl)
 live {h j} hh e := by
  obtain ⟨es, c, a, _⟩ := hh
  exact ⟨.map es c true, by rw [show j = k from e]; exact a⟩
def lies (base : List (Nat × aE)) : Part where
 dG k := ∃ p ∈ base, p.1 = k
 holds h := ∀ p ∈ base, h.get p.1 = some p.2
 loc e hh := fun p hp => by rw [e p.1 ⟨p, hp, rfl⟩]; exact hh p hp
 live hh hk := by obtain ⟨p, hp, rfl⟩ := hk; exact ⟨_, hh p hp⟩
theorem bQ {w : Nat} : ∀ {rows : List (List ad)}, (∀ r ∈ rows, r.length = w) → rows.flatten.length = rows.length * w
 | [], _ => by simp
 | r :: rows, h => by
  rw [List.flatten_cons, List.length_append, h r (by simp), bQ fun q hq => h q (by simp [hq]), List.length_cons, Nat.add_mul, Nat.one_mul, Nat.add_comm]
theorem sL {w : Nat} : ∀ {rows : List (List ad)}, (∀ r ∈ rows, r.length = w) → ∀ {i : Nat} {r : List ad}, rows[i]? = some r → (rows.flatten.drop (i * w)).take r.length = r
 | [], _, i, r, hr => by simp at hr
 | q :: rows, h, 0, r, hr => by
  simp only [List.getElem?_cons_zero, Option.some.injEq] at hr
  subst hr
  simp
 | q :: rows, h, i + 1, r, hr => by
  have hq := h q (by simp)
  simp only [List.getElem?_cons_succ] at hr
  have ih := sL (fun q hq => h q (by simp [hq])) hr
  rw [List.flatten_cons, List.drop_append, List.drop_of_length_le (by rw [hq, Nat.add_mul]; omega), List.nil_append, hq, Nat.add_mul, Nat.one_mul, Nat.add_sub_cancel]
  exact ih
theorem aH.rd {e w : Nat} {v : ad} {rows : List (List ad)} {h : Heap} (a : (aH e w v rows).holds h) : (rd v w rows).holds h := by
 obtain ⟨⟨d, ha⟩, hw⟩ := a
 have hlen := ha.length
 refine ⟨⟨ha.len, fun i r hr => ?_⟩, fun k hk => ha.live (by cases v <;> first | exact hk | cases hk)⟩
 have hi := (List.getElem?_eq_some_iff.1 hr).1
 have hrow := sL hw hr
 have hrl := hw r (List.mem_of_getElem? hr)
 have hmul : i * w + w ≤ rows.length * w := by rw [← Nat.succ_mul]; exact Nat.mul_le_mul_right w hi
 generalize hc : rows.length = c at ha hlen hi hmul ⊢
 generalize hf : rows.flatten = l at ha hrow
 cases ha with
 | aD => omega
 | rest hg => omega
 | @full k off n e' L _ s q hg hl hd =>
  refine ⟨k, off, _, rfl, BF hg ?_⟩
  simp only [Nat.add_eq, Nat.mul_eq]
  rw [← hd] at hrow
  rw [List.drop_take, List.take_take, List.drop_drop] at hrow
  rw [hrl] at hrow ⊢
  rw [Nat.min_eq_left (by omega)] at hrow
  exact hrow
 | @own k off n L _ hg hl hd =>
  refine ⟨k, off, _, rfl, BF hg ?_⟩
  simp only [Nat.add_eq, Nat.mul_eq]
  rw [← hd, List.drop_drop] at hrow
  exact hrow
end
end Go.HL
namespace Go.HL
open Go
noncomputable section
inductive SV where
 | ext (v : ad)
 | ptr (i off : Nat)
 | sl (i n : Nat)
inductive cj where
 | own (l : List ad) (e : Nat) (s : Bool)
 | ro (l : List ad)
 | tmp (l : List ad)
 | gone
abbrev SL := List (Nat × SV)
abbrev j0 := List (Nat × Nat)
inductive zc (κ : j0) : SV → ad → Prop
 | ext (v : ad) : zc κ (.ext v) v
 | ptr {i off k o : Nat} (h : nth κ i = some (k, o)) : zc κ (.ptr i off) (.ptr k (Nat.add o off))
 | sl {i n k : Nat} (h : nth κ i = some (k, 0)) : zc κ (.sl i n) (.slice k 0 n (some n))
inductive di (κ : j0) : SL → c6 → Prop
 | nil : di κ [] []
 | cons {i : Nat} {x : SV} {v : ad} {L : SL} {L0 : c6} (h : zc κ x v) (t : di κ L L0) : di κ ((i, x) :: L) ((i, v) :: L0)
theorem cX {α : Type} {l t : List α} {i : Nat} {a : α} (h : nth l i = some a) : nth (l ++ t) i = some a := by
 rw [cf] at h ⊢
 rw [List.getElem?_append_left (List.getElem?_eq_some_iff.1 h).1]; exact h
theorem zc.more {κ t : j0} {x : SV} {v : ad} (r : zc κ x v) : zc (κ ++ t) x v := by
 cases r with
 | ext => exact .ext _
 | ptr h => exact .ptr (cX h)
 | sl h => exact .sl (cX h)
theorem di.more {κ t : j0} {L : SL} {L0 : c6} (r : di κ L L0) : di (κ ++ t) L L0 := by
 induction r with
 | nil => exact .nil
 | cons h _ ih => exact .cons h.more ih
def fY : SL → Nat → Option SV
 | [], _ => none
 | (j, v) :: l, i => ae (Nat.beq j i) (some v) (fY l i)
theorem di.look {κ : j0} {L : SL} {L0 : c6} (r : di κ L L0) : ∀ {i : Nat} {x : SV}, fY L i = some x → ∃ v, HL.look L0 i = some v ∧ zc κ x v := by
 induction r with
 | nil => intro i x h; cases h
 | @cons j y v L L0 h t ih =>
  intro i x hx
  simp only [fY] at hx
  simp only [HL.look]
  cases hb : Nat.beq j i with
  | true => rw [hb] at hx; cases hx; exact ⟨v, rfl, h⟩
  | false => rw [hb] at hx; exact ih hx
def sO (P : Program) (L : SL) : Operand → Option SV
 | .tmp t => fY L t
 | .const v => match ofValue v with | some x => some (.ext x) | none => none
 | .global g => ae (Nat.blt g P.globals.size) (some (.ext (.ptr g 0))) none
 | .func f => some (.ext (.func f [] []))
def Ht : SV → Option ad
 | .ext v => some v
 | _ => none
def cM (P : Program) (L : SL) (x : Operand) : Option ad := ob (sO P L x) Ht
section
variable {P : Program} {κ : j0} {L : SL} {L0 : c6}
theorem ch (r : di κ L L0) {x : Operand} {y : SV} (h : sO P L x = some y) : ∃ v, eI P L0 x = some v ∧ zc κ y v := by
 cases x with
 | tmp t => exact r.look h
 | const c =>
  simp only [sO] at h
  cases hc : ofValue c with
  | none => rw [hc] at h; cases h
  | some v => rw [hc] at h; cases h; exact ⟨v, hc, .ext v⟩
 | global g =>
  simp only [sO] at h
  simp only [eI]
  cases hb : Nat.blt g P.globals.size with
  | false => rw [hb] at h; cases h
  | true => rw [hb] at h; cases h; exact ⟨_, rfl, .ext _⟩
 | func f => cases h; exact ⟨_, rfl, .ext _⟩
theorem aF (r : di κ L L0) {x : Operand} {v : ad} (h : cM P L x = some v) : eI P L0 x = some v := by
 obtain ⟨y, h1, h2⟩ := aa.1 h
 obtain ⟨w, h3, h4⟩ := ch r h1
 cases y with
 | ext u => cases h2; cases h4; exact h3
 | ptr => cases h2
 | sl => cases h2
end
def aU (ops : Array Oper) (o : Oper) (L : SL) : Option Bool :=
 match o.guard with
 | none => some true
 | some g => match (ops[g.1]?).bind (·.dst) with
  | some d => match fY L d with
   | some (.ext (.bool b)) => some (ae g.2 b (ae b false true))
   | some (.ext (.tuple _)) => some false
   | _ => none
  | none => none
theorem bc {κ : j0} {L : SL} {L0 : c6} (r : di κ L L0) {ops : Array Oper} {o : Oper} {b : Bool} (h : aU ops o L = some b) : j9 ops o L0 = some b := by
 unfold aU at h
 unfold j9
 split at h
 ·rename_i hg; simp only [hg]; exact h
 ·rename_i g hg
  simp only [hg]
  split at h
  ·rename_i d hd
   simp only [hd]
   split at h
   ·rename_i b' hl
    obtain ⟨v, h1, h2⟩ := r.look hl
    cases h2
    simp only [h1]; exact h
   ·rename_i l hl
    obtain ⟨v, h1, h2⟩ := r.look hl
    cases h2
    simp only [h1]; exact h
   ·cases h
  ·cases h
def uZ (m : Nat) : SL → (SL → Option SL) → Option SL
 | [], k => k []
 | (i, v) :: l, k => ae (bit m i) (uZ m l fun r => k ((i, v) :: r)) (uZ m l k)
theorem qt {κ : j0} {m : Nat} : ∀ {L : SL} {L0 : c6}, di κ L L0 → ∀ {k : SL → Option SL} {R : SL}, uZ m L k = some R → ∃ L' L0', k L' = some R ∧ qu m L0 some = some L0' ∧ di κ L' L0'
 | [], _, .nil, k, R, h => ⟨[], [], h, rfl, .nil⟩
 | (i, x) :: L, _, .cons (v := v) (L0 := L0) hx t, k, R, h => by
  simp only [uZ] at h
  rw [lg]
  cases hb : bit m i with
  | true =>
   rw [hb, bcT] at h
   obtain ⟨L', L0', h1, h2, h3⟩ := qt t h
   rw [lg] at h2
   refine ⟨(i, x) :: L', (i, v) :: L0', h1, ?_, .cons hx h3⟩
   have := Option.some.inj h2
   simp [jX, hb] at this ⊢
   exact this
  | false =>
   rw [hb, bcF] at h
   obtain ⟨L', L0', h1, h2, h3⟩ := qt t h
   rw [lg] at h2
   refine ⟨L', L0', h1, ?_, h3⟩
   have := Option.some.inj h2
   simp [jX, hb] at this ⊢
   exact this
/-! ## The memory -/
structure eT where
 C : List Part
 h : Heap
 κ : j0
def bj : List cj → j0 → List Part
 | .own l e s :: B, p :: κ => kB p.1 l e s :: bj B κ
 | _ :: B, _ :: κ => bj B κ
 | _, _ => []
def G5 (k : Nat) : Part where
 dG j := j = k
 holds h := ∃ o, h.get k = some o
 loc e hh := let ⟨o, ho⟩ := hh; ⟨o, by rw [e k rfl]; exact ho⟩
 live {_ j} hh e := let ⟨o, ho⟩ := hh; ⟨o, by rw [show j = k from e]; exact ho⟩
structure Mem (E : eT) (κ : j0) (B : List cj) (G : List Part) (h : Heap) : Prop where
 aS : fL E.C E.h (bj B κ ++ G) h
 pre : ∃ t, κ = E.κ ++ t
 len : κ.length = B.length
 own : ∀ i l e s, nth B i = some (.own l e s) → ∃ k, nth κ i = some (k, 0)
 ro : ∀ i l, nth B i = some (.ro l) → ∃ k off, nth κ i = some (k, off) ∧ Row E.h k off l ∧ Ro E.C E.h (G5 k)
 tmp : ∀ i l, nth B i = some (.tmp l) → ∃ k off, nth κ i = some (k, off) ∧ Row h k off l ∧ ∃ g ∈ G, g.dG k
theorem ss : ∀ {B : List cj} {κ : j0}, κ.length = B.length → ∀ (b : cj) (p : Nat × Nat), bj (B ++ [b]) (κ ++ [p]) = bj B κ ++ bj [b] [p]
 | [], [], _, b, p => rfl
 | [], _ :: _, h, _, _ => by simp at h
 | _ :: _, [], h, _, _ => by simp at h
 | c :: B, q :: κ, h, b, p => by
  have ih := ss (B := B) (κ := κ) (by simpa using h) b p
  cases c <;> simp [bj, ih]
theorem iO : ∀ {B : List cj} {κ : j0} {i : Nat} {l : List ad} {e k o : Nat} {s : Bool}, nth B i = some (.own l e s) → nth κ i = some (k, o) →
  ∃ R, List.Perm (bj B κ) (kB k l e s :: R) ∧ (∀ l' e' s', List.Perm (bj (B.set i (.own l' e' s')) κ) (kB k l' e' s' :: R)) ∧ List.Perm (bj (B.set i .gone) κ) R
 | [], _, i, l, e, k, o, s, h, _ => by rw [cf] at h; simp at h
 | _ :: _, [], i, l, e, k, o, s, _, h => by rw [cf] at h; simp at h
 | b :: B, p :: κ, 0, l, e, k, o, s, h1, h2 => by
  rw [cf] at h1 h2
  simp only [List.getElem?_cons_zero, Option.some.injEq] at h1 h2
  subst h1
  subst h2
  exact ⟨bj B κ, List.Perm.refl _, fun l' e' s' => List.Perm.refl _, List.Perm.refl _⟩
 | b :: B, p :: κ, i + 1, l, e, k, o, s, h1, h2 => by
  rw [cf] at h1 h2
  simp only [List.getElem?_cons_succ] at h1 h2
  rw [← cf] at h1 h2
  obtain ⟨R, h3, h4, h5⟩ := iO h1 h2
  cases b with
  | own l0 e0 s0 => exact ⟨kB p.1 l0 e0 s0 :: R, (List.Perm.cons _ h3).trans (List.Perm.swap _ _ _), fun l' e' s' => (List.Perm.cons _ (h4 l' e' s')).trans (List.Perm.swap _ _ _), List.Perm.cons _ h5⟩
  | ro l0 => exact ⟨R, h3, h4, h5⟩
  | tmp l0 => exact ⟨R, h3, h4, h5⟩
  | gone => exact ⟨R, h3, h4, h5⟩
theorem dz {B : List cj} {κ : j0} {i : Nat} {l : List ad} {e k o : Nat} {s : Bool} (h1 : nth B i = some (.own l e s)) (h2 : nth κ i = some (k, o)) : kB k l e s ∈ bj B κ :=
 let ⟨_, h3, _, _⟩ := iO h1 h2; h3.mem_iff.2 (by simp)
def cj.cells : cj → Option (List ad)
 | .own l _ _ => some l
 | .ro l => some l
 | .tmp l => some l
 | .gone => none
section
variable {E : eT} {κ : j0} {B : List cj} {G : List Part} {h h' : Heap}
theorem Mem.wf (M : Mem E κ B G h) : Wf h := M.aS.wf
theorem Ro.row {C C' : List Part} {h h' : Heap} {k off : Nat} {l : List ad} (r : Ro C h (G5 k)) (c : fL C h C' h') (w : Row h k off l) : Row h' k off l := w.jJ (r.get c rfl)
theorem Mem.row (M : Mem E κ B G h) {i : Nat} {b : cj} {l : List ad} (hb : nth B i = some b) (hl : b.cells = some l) : ∃ k o, nth κ i = some (k, o) ∧ Row h k o l := by
 cases b with
 | own l' e s =>
  cases hl
  obtain ⟨k, hk⟩ := M.own i _ _ _ hb
  exact ⟨k, 0, hk, nQ (M.aS.all _ (List.mem_append_left _ (dz hb hk)))⟩
 | ro l' =>
  cases hl
  obtain ⟨k, o, hk, hr, ha⟩ := M.ro i _ hb
  exact ⟨k, o, hk, ha.row M.aS hr⟩
 | tmp l' =>
  cases hl
  obtain ⟨k, o, hk, hr, _⟩ := M.tmp i _ hb
  exact ⟨k, o, hk, hr⟩
 | gone => cases hl
theorem uN {α : Type} {l : List α} {a : α} {i : Nat} {b : α} (h : nth (l ++ [a]) i = some b) : nth l i = some b ∨ i = l.length ∧ b = a := by
 rw [cf] at h ⊢
 by_cases hi : i < l.length
 ·rw [List.getElem?_append_left hi] at h; exact .inl h
 ·rw [List.getElem?_append_right (by omega)] at h
  obtain ⟨h1, h2⟩ := List.getElem?_eq_some_iff.1 h
  have : i = l.length := by simp at h1; omega
  subst this
  simp at h2
  exact .inr ⟨rfl, h2.symm⟩
theorem qe {α : Type} (l : List α) (a : α) : nth (l ++ [a]) l.length = some a := by rw [cf]; simp
theorem Mem.snoc (M : Mem E κ B G h) (p : Nat × Nat) (b : cj) (c : fL E.C E.h (bj [b] [p] ++ (bj B κ ++ G)) h') (hg : ∀ k, (∃ g ∈ G, g.dG k) → h'.get k = h.get k)
  (h1 : ∀ l e s, b = .own l e s → p.2 = 0) (h2 : ∀ l, b = .ro l → Row E.h p.1 p.2 l ∧ Ro E.C E.h (G5 p.1)) (h3 : ∀ l, b = .tmp l → Row h' p.1 p.2 l ∧ ∃ g ∈ G, g.dG p.1) : Mem E (κ ++ [p]) (B ++ [b]) G h' := by
 have last : nth (κ ++ [p]) B.length = some p := by rw [← M.len]; exact qe κ p
 refine ⟨?_, ?_, by simp [M.len], ?_, ?_, ?_⟩
 ·rw [ss M.len]
  refine c.perm ?_
  rw [← List.append_assoc]
  exact List.Perm.append_right _ List.perm_append_comm
 ·obtain ⟨t, ht⟩ := M.pre
  exact ⟨t ++ [p], by rw [ht, List.append_assoc]⟩
 ·intro i l e s hb
  rcases uN hb with hb | ⟨rfl, hq⟩
  ·obtain ⟨k, hk⟩ := M.own i l e s hb
   exact ⟨k, cX hk⟩
  ·obtain ⟨k, o⟩ := p
   have := h1 l e s hq.symm
   simp only at this
   subst this
   exact ⟨k, last⟩
 ·intro i l hb
  rcases uN hb with hb | ⟨rfl, hq⟩
  ·obtain ⟨k, o, hk, hr⟩ := M.ro i l hb
   exact ⟨k, o, cX hk, hr⟩
  ·obtain ⟨k, o⟩ := p
   exact ⟨k, o, last, h2 l hq.symm⟩
 ·intro i l hb
  rcases uN hb with hb | ⟨rfl, hq⟩
  ·obtain ⟨k, o, hk, hr, hg'⟩ := M.tmp i l hb
   exact ⟨k, o, cX hk, hr.jJ (hg k hg'), hg'⟩
  ·obtain ⟨k, o⟩ := p
   exact ⟨k, o, last, h3 l hq.symm⟩
theorem HO {C B : List Part} {h0 h h' : Heap} {k : Nat} {l : List ad} {e : Nat} {s : Bool} (c : fL C h0 B h) (m : Made h k (.cells l e s true) h') : fL C h0 (kB k l e s :: B) h' := by
 have d : fL [] h [kB k l e s] h' := by
  refine ⟨m.wf, m.ext.next, fun e _ => m.ext.get e, ?_, List.pairwise_singleton _ _, ?_⟩
  ·intro r hr
   simp only [List.mem_singleton] at hr
   subst hr
   exact m.get
  ·intro r hr j hj
   simp only [List.mem_singleton] at hr
   subst hr
   refine .inr ?_
   rw [show j = k from hj]; exact m.fresh
 exact c.trans (D := []) (R := B) (List.Perm.refl _) d
theorem Mem.stay (M : Mem E κ B G h) {C' : List Part} (d : fL [] h C' h') : ∀ k, (∃ g ∈ G, g.dG k) → h'.get k = h.get k := by
 rintro k ⟨g, hg, hk⟩
 obtain ⟨o, ho⟩ := g.live (M.aS.all g (List.mem_append_right _ hg)) hk
 rw [ho]; exact d.jJ ho fun r hr => by simp at hr
theorem Mem.made (M : Mem E κ B G h) {k : Nat} {l : List ad} {e : Nat} {s : Bool} (m : Made h k (.cells l e s true) h') : Mem E (κ ++ [(k, 0)]) (B ++ [.own l e s]) G h' := by
 refine M.snoc (k, 0) (.own l e s) (HO M.aS m) ?_ (fun _ _ _ _ => rfl) (fun _ h => by cases h) (fun _ h => by cases h)
 exact M.stay (C' := []) (fL.IA m.ext m.wf)
theorem Mem.MD (M : Mem E κ B G h) {k off : Nat} {l : List ad} (hr : Row E.h k off l) (ha : Ro E.C E.h (G5 k)) : Mem E (κ ++ [(k, off)]) (B ++ [.ro l]) G h :=
 M.snoc (k, off) (.ro l) M.aS (fun _ _ => rfl) (fun _ _ _ h => by cases h) (fun _ h => by cases h; exact ⟨hr, ha⟩) (fun _ h => by cases h)
theorem Mem.KW (M : Mem E κ B G h) {k off : Nat} {l : List ad} (hr : Row h k off l) (ha : ∃ g ∈ G, g.dG k) : Mem E (κ ++ [(k, off)]) (B ++ [.tmp l]) G h :=
 M.snoc (k, off) (.tmp l) M.aS (fun _ _ => rfl) (fun _ _ _ h => by cases h) (fun _ h => by cases h) (fun _ h => by cases h; exact ⟨hr, ha⟩)
theorem nW {α : Type} {l : List α} {i j : Nat} {a b : α} (h : nth (l.set i a) j = some b) : j = i ∧ b = a ∨ j ≠ i ∧ nth l j = some b := by
 rw [cf] at h ⊢
 by_cases hj : i = j
 ·subst hj
  rw [List.getElem?_set] at h
  split at h <;> simp_all
 ·rw [List.getElem?_set_ne hj] at h
  exact .inr ⟨fun e => hj e.symm, h⟩
theorem Mem.set (M : Mem E κ B G h) {i k : Nat} {l l' : List ad} {e e' : Nat} {s s' : Bool} (hb : nth B i = some (.own l e s)) (hk : nth κ i = some (k, 0)) (d : fL [kB k l e s] h [kB k l' e' s'] h') : Mem E κ (B.set i (.own l' e' s')) G h' := by
 obtain ⟨R, h3, h4, _⟩ := iO hb hk
 have c := M.aS.trans (D := [kB k l e s]) (R := R ++ G) (D' := [kB k l' e' s']) (by simpa using List.Perm.append_right G h3) d
 have stay : ∀ j, (∃ g ∈ G, g.dG j) → h'.get j = h.get j := by
  rintro j ⟨g, hg, hj⟩
  obtain ⟨o, ho⟩ := g.live (M.aS.all g (List.mem_append_right _ hg)) hj
  rw [ho]
  refine d.jJ ho fun r hr hrj => ?_
  simp only [List.mem_singleton] at hr
  subst hr
  exact (List.pairwise_append.1 M.aS.vz).2.2 _ (dz hb hk) g hg j hrj hj
 refine ⟨c.perm (List.Perm.append_right G (h4 l' e' s')).symm, M.pre, by rw [List.length_set]; exact M.len, ?_, ?_, ?_⟩
 ·intro j m a b hj
  rcases nW hj with ⟨rfl, _⟩ | ⟨_, hj⟩
  ·exact ⟨k, hk⟩
  ·exact M.own j m a b hj
 ·intro j m hj
  rcases nW hj with ⟨rfl, e⟩ | ⟨_, hj⟩
  ·cases e
  ·exact M.ro j m hj
 ·intro j m hj
  rcases nW hj with ⟨rfl, e⟩ | ⟨_, hj⟩
  ·cases e
  ·obtain ⟨k2, o, g1, g2, g3⟩ := M.tmp j m hj
   exact ⟨k2, o, g1, g2.jJ (stay k2 g3), g3⟩
theorem DI {h h' : Heap} {k : Nat} {l l' : List ad} {e e' : Nat} {s s' : Bool} (p : MH h k (.cells l' e' s' true) h') : fL [kB k l e s] h [kB k l' e' s'] h' := by
 refine ⟨p.wf, Nat.le_of_eq p.next.symm, fun {j o} hj hn => ?_, ?_, List.pairwise_singleton _ _, ?_⟩
 ·rw [p.td j (fun e => hn _ (List.mem_singleton.2 rfl) e)]; exact hj
 ·intro r hr
  simp only [List.mem_singleton] at hr
  subst hr
  exact p.get
 ·intro r hr j hj
  simp only [List.mem_singleton] at hr
  subst hr
  exact .inl ⟨_, List.mem_singleton.2 rfl, hj⟩
theorem Mem.put (M : Mem E κ B G h) {i k : Nat} {l l' : List ad} {e : Nat} {s : Bool} (hb : nth B i = some (.own l e s)) (hk : nth κ i = some (k, 0)) (p : MH h k (.cells l' e s true) h') : Mem E κ (B.set i (.own l' e s)) G h' := M.set hb hk (DI p)
end
end
end Go.HL
namespace Go.HL
open Go
noncomputable section
def MO (P : Program) : List (Nat × List ad) → Prop
 | [] => True
 | p :: l => ah P p.1 = some p.2 ∧ MO P l
def zL : List (Nat × List ad) → Nat → Option (List ad)
 | [], _ => none
 | p :: l, t => ae (Nat.beq p.1 t) (some p.2) (zL l t)
theorem MO.look {P : Program} : ∀ {zl : List (Nat × List ad)}, MO P zl → ∀ {t : Nat} {z : List ad}, zL zl t = some z → ah P t = some z
 | p :: l, hz, t, z, h => by
  simp only [zL] at h
  cases hb : Nat.beq p.1 t with
  | true => rw [hb] at h; cases h; rw [← Nat.eq_of_beq_eq_true hb]; exact hz.1
  | false => rw [hb] at h; exact hz.2.look h
structure TK (P : Program) (ax : iF) (zl : List (Nat × List ad)) : Prop where
 ax : bH P ax = true
 zero : MO P zl
def H2 {β : Type} : List cj → Nat → (Nat → Option β) → Option β
 | [], n, k => k n
 | _ :: B, n, k => H2 B (Nat.succ n) k
theorem yE {β : Type} : ∀ (B : List cj) (n : Nat) (k : Nat → Option β), H2 B n k = k (n + B.length)
 | [], n, k => rfl
 | b :: B, n, k => by rw [H2, yE B]; simp [Nat.add_comm, Nat.add_left_comm]
def sj {β : Type} : List cj → Nat → cj → (List cj → Option β) → Option β
 | [], _, _, k => k []
 | b :: B, i, x, k => Nat.rec (motive := fun _ => Option β) (k (x :: B)) (fun j _ => sj B j x fun r => k (b :: r)) i
theorem kS {β : Type} : ∀ (B : List cj) (i : Nat) (x : cj) (k : List cj → Option β), sj B i x k = k (B.set i x)
 | [], _, _, _ => rfl
 | b :: B, 0, x, k => rfl
 | b :: B, i + 1, x, k => by
  show sj B i x (fun r => k (b :: r)) = _
  rw [kS B]; rfl
def tA (P : Program) (ax : iF) (L : SL) (fs : List (Nat × Nat)) : List (Nat × Operand) → Option (List (Nat × Nat × ad))
 | [] => some []
 | p :: l => ob (nth fs p.1) fun f => ob (bN ax f.2) fun w => ob (cM P L p.2) fun v => ob (tA P ax L fs l) fun r => some ((f.1, w.2, v) :: r)
def Ay (P : Program) (L : SL) (w : Nat) : List (Nat × Operand) → Option (List (Nat × Nat × ad))
 | [] => some []
 | p :: l => ob (cM P L p.2) fun v => ob (Ay P L w l) fun r => some ((Nat.mul p.1 w, w, v) :: r)
theorem dr {α : Type} {b : Bool} {t : Option α} {r : α} (h : ae b t none = some r) : b = true ∧ t = some r := by
 cases b
 ·cases h
 ·exact ⟨rfl, h⟩
theorem vV {α : Type} {b : Bool} {t : Option α} {r : α} (h : ae b none t = some r) : b = false ∧ t = some r := by
 cases b
 ·exact ⟨rfl, h⟩
 ·cases h
def GS (B : List cj) (l : List ad) (e : Nat) (k : Nat → SV) : Option (SV × List cj) := yY B [.own l e false] fun B' => H2 B 0 fun n => some (k n, B')
def LK (P : Program) (ax : iF) (L : SL) (B : List cj) (t : Nat) (x : Operand) : Option (SV × List cj) :=
 ob (bN ax t) fun w => ob (sO P L x) fun v => match w.1 with
  | .slice _ => match v with
   | .ext v => ob (dA v) fun n => some (.ext (.int .i64 (n : Int)), B)
   | .sl _ n => some (.ext (.int .i64 (n : Int)), B)
   | _ => none
  | .str => match v with
   | .ext (.str n _) => some (.ext (.int .i64 (n : Int)), B)
   | _ => none
  | _ => none
def Jr (b : Bool) (B : List cj) : Option (SV × List cj) := ae b (some (.ext (.bool true), B)) (some (.ext (.bool false), B))
def KI : BinOp → Int → Int → Option Bool
 | .eql, a, b => some (sH a b)
 | .neq, a, b => some (ae (sH a b) false true)
 | .lss, a, b => some (FZ a b)
 | .leq, a, b => some (IP a b)
 | .gtr, a, b => some (FZ b a)
 | .geq, a, b => some (IP b a)
 | _, _, _ => none
def LX (P : Program) (ax : iF) (zl : List (Nat × List ad)) (L : SL) (B : List cj) (op : Op) : Option (SV × List cj) :=
 match op with
 | .move x => ob (sO P L x) fun v => some (v, B)
 | .assign x => ob (sO P L x) fun v => some (v, B)
 | .pick c x y => ob (cM P L c) fun c => match c with
  | .bool b => ae b (ob (sO P L x) fun v => some (v, B)) (ob (sO P L y) fun v => some (v, B))
  | _ => none
 | .unOp u _ x => match u with
  | .not => ob (cM P L x) fun v => match v with
   | .bool b => ae b (some (.ext (.bool false), B)) (some (.ext (.bool true), B))
   | _ => none
  | _ => none
 | .nilCheck x => ob (sO P L x) fun v => match v with
  | .ptr i off => some (.ptr i off, B)
  | .ext (.ptr k off) => some (.ext (.ptr k off), B)
  | _ => none
 | .extract x i => ob (cM P L x) fun v => match v with
  | .tuple l => ob (nth l i) fun v => some (.ext v, B)
  | _ => none
 | .alloc e => ob (zL zl e) fun z => GS B z e fun n => .ptr n 0
 | .box e x => ob (cM P L x) fun v => ob v.cells fun l => GS B l e fun n => .ptr n 0
 | .build t parts => ob (zL zl t) fun z => ob (bN ax t) fun w => match w.1 with
  | .struct fs => ae (nD ax fs) (ob (tA P ax L fs parts.toList) fun ps => ob (eY ps z) fun cs => some (.ext (.agg cs), B)) none
  | .array _ e => ob (bN ax e) fun we => ob (Ay P L we.2 parts.toList) fun ps => ob (eY ps z) fun cs => some (.ext (.agg cs), B)
  | _ => none
 | .buildSlice t len parts => ob (bN ax t) fun w => match w.1 with
  | .slice e => ob (bN ax e) fun we => ae (Nat.ble (Nat.mul len we.2) 16777216) (ob (zL zl e) fun z => ae (Nat.beq z.length we.2) (ob (Ay P L we.2 parts.toList) fun ps => ob (eY ps (fO len z)) fun cs => GS B cs e fun n => .sl n len) none) none
  | _ => none
 | .load t x => ob (sO P L x) fun v => match v with
  | .ptr i off => ob (nth B i) fun b => ob b.cells fun l => ob (bN ax t) fun w => ae w.1.agg (eV (jz l off) w.2 fun m => some (.ext (.agg m), B)) (ob (nth l off) fun v => some (.ext v, B))
  | _ => none
 | .store t x y => ob (sO P L x) fun v => match v with
  | .ptr i off => ob (nth B i) fun b => match b with
   | .own l e s => ob (cM P L y) fun w => ob w.cells fun new => ob (bN ax t) fun ty => ae (Nat.beq new.length ty.2) (gu l off new fun l' => sj B i (.own l' e s) fun B' => some (.ext bD, B')) none
   | _ => none
  | _ => none
 | .fieldAddr t x f => ob (bN ax t) fun w => match w.1 with
  | .struct fs => ob (nth fs f) fun q => ob (bN ax q.2) fun wq => ae (Nat.beq wq.2 0) none (ob (sO P L x) fun v => match v with
   | .ptr i off => some (.ptr i (Nat.add off q.1), B)
   | .ext (.ptr k off) => some (.ext (.ptr k (Nat.add off q.1)), B)
   | _ => none)
  | _ => none
 | .binOp bo _ x y _ => ob (cM P L x) fun a => ob (cM P L y) fun b => match a with
  | .int k a => match b with
   | .int j b => ae (sameKind k j) (ob (KI bo a b) fun r => Jr r B) none
   | _ => none
  | _ => none
 | .call c => match c.callee with
  | .builtin b => match b with
   | .len => match c.args.toList with
    | [x] => ob c.argTypes[0]? fun t => LK P ax L B t x
    | _ => none
   | _ => none
  | _ => none
 | _ => none
section
variable {P : Program} {ax : iF} {zl : List (Nat × List ad)} {κ : j0} {L : SL} {L0 : c6} {B B' : List cj} {G : List Part} {E : eT} {h : Heap} {o : Oper} {sv : SV}
theorem uC (r : di κ L L0) {fs : List (Nat × Nat)} : ∀ {l : List (Nat × Operand)} {ps : List (Nat × Nat × ad)}, tA P ax L fs l = some ps → nR P ax L0 fs l = some ps
 | [], ps, e => e
 | p :: l, ps, e => by
  simp only [tA] at e
  obtain ⟨f, e1, e2⟩ := aa.1 e
  obtain ⟨w, e3, e4⟩ := aa.1 e2
  obtain ⟨v, e5, e6⟩ := aa.1 e4
  obtain ⟨q, e7, e8⟩ := aa.1 e6
  simp only [nR, e1, e3, obS, aF r e5, uC r e7, e8]
theorem vq (r : di κ L L0) {w : Nat} : ∀ {l : List (Nat × Operand)} {ps : List (Nat × Nat × ad)}, Ay P L w l = some ps → vr P L0 w l = some ps
 | [], ps, e => e
 | p :: l, ps, e => by
  simp only [Ay] at e
  obtain ⟨v, e1, e2⟩ := aa.1 e
  obtain ⟨q, e3, e4⟩ := aa.1 e2
  simp only [vr, aF r e1, obS, vq r e3, e4]
theorem xO {β : Type} (B : List cj) (b : cj) (k : List cj → Option β) : yY B [b] k = k (B ++ [b]) := qR _ _ _
def I9 (P : Program) (o : Oper) (L0 : c6) (h : Heap) (E : eT) (κ : j0) (G : List Part) (sv : SV) (B' : List cj) : Prop := ∃ κ' v h', cD P o L0 h v h' ∧ zc κ' sv v ∧ Mem E κ' B' G h' ∧ ∃ t, κ' = κ ++ t
theorem I9.same {v : ad} (hv : cD P o L0 h v h) (r : zc κ sv v) (M : Mem E κ B G h) : I9 P o L0 h E κ G sv B := ⟨κ, v, h, hv, r, M, [], by simp⟩
theorem rC {l : List ad} {e : Nat} {k : Nat → SV} (he : GS B l e k = some (sv, B')) (M : Mem E κ B G h) {f : Nat → ad} (hm : DW P o L0 h f (.cells l e false true)) (hr : ∀ κ' n j, nth κ' n = some (j, 0) → zc κ' (k n) (f j)) : I9 P o L0 h E κ G sv B' := by
 unfold GS at he
 rw [xO, yE, Nat.zero_add] at he
 cases he
 have mk := kZ M.wf (.cells l e false true)
 refine ⟨κ ++ [(h.next, 0)], _, _, fun ev ha => hm ev ha, hr _ _ _ ?_, M.made mk, _, rfl⟩
 rw [← M.len]; exact qe _ _
theorem Row.sub {k o' off n : Nat} {l m : List ad} (hr : Row h k o' l) (hm : eV (jz l off) n some = some m) : Row h k (Nat.add o' off) m := by
 have h1 := hr.load
 unfold dZ at h1
 obtain ⟨q, hq, e⟩ := aa.1 h1
 rw [br, cZ] at e hm
 split at hm
 ·rename_i hle
  split at e
  ·rename_i hle2
   have e := Option.some.inj e
   have hm := Option.some.inj hm
   refine ⟨?_⟩
   unfold dZ
   rw [hq, obS, br, cZ]
   have hml : m.length = n := by rw [← hm, List.length_take, Nat.min_eq_left hle]
   have hl : l.length ≤ (q.1.drop o').length := hle2
   rw [List.length_drop] at hle hl
   rw [if_pos (by rw [hml, List.length_drop]; simp only [Nat.add_eq]; omega), hml, ← hm, ← e]
   simp only [Nat.add_eq]
   rw [List.drop_take, List.take_take, List.drop_drop]
   congr 2
   omega
  ·cases e
 ·cases hm
theorem V.KU {t q w len e : Nat} {i : TI} {parts : Array (Nat × Operand)} {ps : List (Nat × Nat × ad)} {z cs : List ad} (hT : bH P ax = true) (ho : o.op = .build t parts) (ht : bN ax t = some (.array len e, q)) (he : bN ax e = some (i, w)) (hz : ah P t = some z) (hp : vr P L0 w parts.toList = some ps) (hc : eY ps z = some cs) : cD P o L0 h (.agg cs) h := cD.mk ho fun ev hag d ty pp aft g => by
 obtain ⟨hu, inf, hi⟩ := nM hT ht
 simp only [bO, hz, obS, hu, hi, (cA hT he).2, nt hag hp, hc]
theorem V.Gb {t k off w : Nat} {i : TI} {x y : Operand} {v : ad} {l l' new : List ad} {e : Nat} {s : Bool} (hT : bH P ax = true) (ho : o.op = .store t x y) (ht : bN ax t = some (i, w))
  (hx : eI P L0 x = some (.ptr k off)) (hy : eI P L0 y = some v) (hc : v.cells = some new) (hl : Nat.beq new.length w = true) (hg : h.get k = some (.cells l e s true)) (hov : gu l off new some = some l') : cD P o L0 h bD (h.put k (.cells l' e s true)) := cD.mk ho fun ev ha d ty ps aft g => by
 have hag := iM hT ht
 unfold gj at hag
 obtain ⟨dd, hd, _⟩ := aa.1 hag
 obtain ⟨inf, hi⟩ := info_of_underlying hd
 have e1 : ix h k off new = some (h.put k (.cells l' e s true)) := by
  unfold ix
  rw [bR hg, obS, bcT]
  rw [dJ] at hov ⊢
  split at hov
  ·rename_i hle
   have := Option.some.inj hov
   rw [if_pos hle, this]
  ·cases hov
 simp only [bO, hi, obS, evS ha hx, evS ha hy, ad.dv, hc, (cA hT ht).2, hl, bcT, e1]
theorem BU {l l' new : List ad} {off : Nat} {β : Type} {k : List ad → Option β} {b : β} (h : gu l off new k = some b) : ∃ l', gu l off new some = some l' ∧ k l' = some b := by
 rw [dJ] at h
 split at h
 ·rename_i hle
  exact ⟨_, by rw [dJ, if_pos hle], h⟩
 ·cases h
theorem tW {l : List ad} {n : Nat} {β : Type} {k : List ad → Option β} {b : β} (h : eV l n k = some b) : ∃ m, eV l n some = some m ∧ k m = some b := by
 rw [br] at h
 split at h
 ·rename_i hle
  exact ⟨_, by rw [br, if_pos hle], h⟩
 ·cases h
theorem Bn {b : Bool} (h : Jr b B = some (sv, B')) : sv = .ext (.bool b) ∧ B' = B := by
 cases b <;> (cases h; exact ⟨rfl, rfl⟩)
theorem V.Nw {bo : BinOp} {t p : Nat} {x y : Operand} {k j : IntKind} {a b : Int} {r : Bool} (ho : o.op = .binOp bo t x y p) (hx : eI P L0 x = some (.int k a)) (hy : eI P L0 y = some (.int j b)) (hk : sameKind k j = true) (hr : KI bo a b = some r) : cD P o L0 h (.bool r) h := cD.mk ho fun ev ha d ty ps aft g => by
 cases bo <;> simp only [KI] at hr <;> try (cases hr; done)
 all_goals cases hr; simp only [bO, evS ha hx, evS ha hy, jK, eH, hk, bcT, iL, HL.val, obS]
theorem xy (hX : TK P ax zl) (r : di κ L L0) (M : Mem E κ B G h) (he : LX P ax zl L B o.op = some (sv, B')) : I9 P o L0 h E κ G sv B' := by
 cases ho : o.op
 all_goals rw [ho] at he
 all_goals simp only [LX] at he
 all_goals try (cases he; done)
 case move x =>
  obtain ⟨v, h1, h2⟩ := aa.1 he
  cases h2
  obtain ⟨w, h3, h4⟩ := ch r h1
  exact .same (V.move ho h3) h4 M
 case assign x =>
  obtain ⟨v, h1, h2⟩ := aa.1 he
  cases h2
  obtain ⟨w, h3, h4⟩ := ch r h1
  exact .same (V.assign ho h3) h4 M
 case pick c x y =>
  obtain ⟨v, h1, h2⟩ := aa.1 he
  have h1' := aF r h1
  cases v <;> simp only at h2 <;> try (cases h2; done)
  rename_i b
  cases b with
  | true =>
   rw [bcT] at h2
   obtain ⟨v, h3, h4⟩ := aa.1 h2
   cases h4
   obtain ⟨w, h5, h6⟩ := ch r h3
   exact .same (V.Er ho h1' h5) h6 M
  | false =>
   rw [bcF] at h2
   obtain ⟨v, h3, h4⟩ := aa.1 h2
   cases h4
   obtain ⟨w, h5, h6⟩ := ch r h3
   exact .same (V.BR ho h1' h5) h6 M
 case unOp u t x =>
  cases u <;> simp only at he <;> try (cases he; done)
  obtain ⟨v, h1, h2⟩ := aa.1 he
  have h1' := aF r h1
  cases v <;> simp only at h2 <;> try (cases h2; done)
  rename_i b
  cases b with
  | true => rw [bcT] at h2; cases h2; exact .same (V.not_true ho h1') (.ext _) M
  | false => rw [bcF] at h2; cases h2; exact .same (V.not_false ho h1') (.ext _) M
 case nilCheck x =>
  obtain ⟨v, h1, h2⟩ := aa.1 he
  obtain ⟨w, h3, h4⟩ := ch r h1
  cases v with
  | ptr i off => cases h2; cases h4 with | ptr hk => exact .same (V.nilCheck ho h3) (.ptr hk) M
  | sl => cases h2
  | ext u =>
   cases h4
   cases w <;> simp only at h2 <;> try (cases h2; done)
   cases h2
   exact .same (V.nilCheck ho h3) (.ext _) M
 case extract x i =>
  obtain ⟨v, h1, h2⟩ := aa.1 he
  have h1' := aF r h1
  cases v <;> simp only at h2 <;> try (cases h2; done)
  obtain ⟨v, h3, h4⟩ := aa.1 h2
  cases h4
  exact .same (V.extract ho h1' h3) (.ext _) M
 case alloc e =>
  obtain ⟨z, h1, h2⟩ := aa.1 he
  exact rC h2 M (Go.HL.M.alloc ho (hX.zero.look h1)) fun κ' n j hj => .ptr hj
 case box e x =>
  obtain ⟨v, h1, h2⟩ := aa.1 he
  obtain ⟨l, h3, h4⟩ := aa.1 h2
  exact rC h4 M (Go.HL.M.box ho (aF r h1) h3) fun κ' n j hj => .ptr hj
 case build t parts =>
  obtain ⟨z, h1, h2⟩ := aa.1 he
  obtain ⟨⟨ti, n⟩, h3, h4⟩ := aa.1 h2
  cases ti <;> simp only at h4 <;> try (cases h4; done)
  ·obtain ⟨h5, h6⟩ := dr h4
   obtain ⟨ps, h7, h8⟩ := aa.1 h6
   obtain ⟨cs, h9, h10⟩ := aa.1 h8
   cases h10
   exact .same (V.build hX.ax ho h3 (hX.zero.look h1) (uC r h7) h5 h9) (.ext _) M
  ·obtain ⟨⟨te, we⟩, h5, h6⟩ := aa.1 h4
   obtain ⟨ps, h7, h8⟩ := aa.1 h6
   obtain ⟨cs, h9, h10⟩ := aa.1 h8
   cases h10
   exact .same (V.KU hX.ax ho h3 h5 (hX.zero.look h1) (vq r h7) h9) (.ext _) M
 case buildSlice t len parts =>
  obtain ⟨⟨ti, n⟩, h1, h2⟩ := aa.1 he
  cases ti <;> simp only at h2 <;> try (cases h2; done)
  obtain ⟨⟨te, we⟩, h3, h4⟩ := aa.1 h2
  obtain ⟨h5, h6⟩ := dr h4
  obtain ⟨z, h7, h8⟩ := aa.1 h6
  obtain ⟨h9, h10⟩ := dr h8
  obtain ⟨ps, h11, h12⟩ := aa.1 h10
  obtain ⟨cs, h13, h14⟩ := aa.1 h12
  exact rC h14 M (Go.HL.M.buildSlice hX.ax ho h1 h3 h5 (hX.zero.look h7) h9 (vq r h11) h13) fun κ' n j hj => .sl hj
 case load t x =>
  obtain ⟨v, h1, h2⟩ := aa.1 he
  obtain ⟨w, h3, h4⟩ := ch r h1
  cases v <;> simp only at h2 <;> try (cases h2; done)
  obtain ⟨b, h5, h6⟩ := aa.1 h2
  obtain ⟨l, h7, h8⟩ := aa.1 h6
  obtain ⟨⟨ti, n⟩, h9, h10⟩ := aa.1 h8
  cases h4 with
  | ptr hk =>
   obtain ⟨k, o2, g1, g2⟩ := M.row h5 h7
   rw [hk] at g1
   cases g1
   cases hag : ti.agg with
   | true =>
    simp only [hag, bcT] at h10
    obtain ⟨m, h11, h12⟩ := tW h10
    cases h12
    refine .same (V.Ce hX.ax ho h9 hag h3 (g2.sub h11) ?_) (.ext _) M
    rw [br] at h11
    split at h11
    ·rename_i hle
     have := Option.some.inj h11
     rw [bm]
     refine decide_eq_true ?_
     rw [← this, List.length_take, Nat.min_eq_left hle]
    ·cases h11
   | false =>
    simp only [hag, bcF] at h10
    obtain ⟨v, h11, h12⟩ := aa.1 h10
    cases h12
    exact .same (V.Dn hX.ax ho h9 hag h3 g2 h11) (.ext _) M
 case store t x y =>
  obtain ⟨v, h1, h2⟩ := aa.1 he
  obtain ⟨w, h3, h4⟩ := ch r h1
  cases v <;> simp only at h2 <;> try (cases h2; done)
  obtain ⟨b, h5, h6⟩ := aa.1 h2
  cases b <;> simp only at h6 <;> try (cases h6; done)
  obtain ⟨u, h7, h8⟩ := aa.1 h6
  obtain ⟨new, h9, h10⟩ := aa.1 h8
  obtain ⟨⟨ti, n⟩, h11, h12⟩ := aa.1 h10
  obtain ⟨h13, h14⟩ := dr h12
  obtain ⟨l', h15, h16⟩ := BU (l' := []) h14
  rw [kS] at h16
  cases h16
  cases h4 with
  | ptr hk =>
   obtain ⟨k, g1⟩ := M.own _ _ _ _ h5
   rw [hk] at g1
   cases g1
   have hg := M.aS.all _ (List.mem_append_left _ (dz h5 hk))
   refine ⟨κ, _, _, V.Gb hX.ax ho h11 h3 (aF r h7) h9 h13 hg ?_, .ext _, M.put h5 hk (pT M.wf _ (M.wf.lt hg)), [], by simp⟩
   simp only [Nat.add_eq, Nat.zero_add]
   exact h15
 case fieldAddr t x f =>
  obtain ⟨⟨ti, n⟩, h1, h2⟩ := aa.1 he
  cases ti <;> simp only at h2 <;> try (cases h2; done)
  obtain ⟨q, h3, h4⟩ := aa.1 h2
  obtain ⟨⟨tq, nq⟩, h5, h6⟩ := aa.1 h4
  obtain ⟨h7, h8⟩ := vV h6
  obtain ⟨v, h9, h10⟩ := aa.1 h8
  obtain ⟨w, h11, h12⟩ := ch r h9
  cases v with
  | sl => cases h10
  | ptr i off =>
   cases h10
   cases h12 with
   | @ptr _ _ k o2 hk =>
    refine .same (V.fieldAddr hX.ax ho h1 h3 h5 h7 h11) ?_ M
    have := zc.ptr (κ := κ) (off := Nat.add off q.1) hk
    simp only [Nat.add_eq, ← Nat.add_assoc] at this ⊢
    exact this
  | ext u =>
   cases h12
   cases w <;> simp only at h10 <;> try (cases h10; done)
   cases h10
   exact .same (V.fieldAddr hX.ax ho h1 h3 h5 h7 h11) (.ext _) M
 case binOp bo t x y p =>
  obtain ⟨a, h1, h2⟩ := aa.1 he
  obtain ⟨b, h3, h4⟩ := aa.1 h2
  cases a <;> simp only at h4 <;> try (cases h4; done)
  cases b <;> simp only at h4 <;> try (cases h4; done)
  obtain ⟨h5, h6⟩ := dr h4
  obtain ⟨c, h7, h8⟩ := aa.1 h6
  obtain ⟨rfl, rfl⟩ := Bn h8
  exact .same (V.Nw ho (aF r h1) (aF r h3) h5 h7) (.ext _) M
 case call c =>
  split at he
  ·rename_i b hc
   cases b <;> simp only at he <;> try (cases he; done)
   split at he
   ·rename_i x hx
    obtain ⟨t, h1, h2⟩ := aa.1 he
    unfold LK at h2
    obtain ⟨⟨ti, n⟩, h3, h4⟩ := aa.1 h2
    obtain ⟨v, h5, h6⟩ := aa.1 h4
    obtain ⟨w, h7, h8⟩ := ch r h5
    have hx' : c.args = #[x] := by
     rcases c with ⟨_, ⟨l⟩, _⟩
     simp only at hx ⊢
     rw [hx]
    cases ti <;> simp only at h6 <;> try (cases h6; done)
    ·cases v with
     | ptr => cases h6
     | sl i m => cases h6
     | ext u =>
      cases h8
      cases w <;> simp only at h6 <;> try (cases h6; done)
      cases h6
      exact .same (V.Ns hX.ax ho hc hx' h1 h3 h7) (.ext _) M
    ·cases v with
     | ptr => cases h6
     | sl i m => cases h6; cases h8; exact .same (V.len hX.ax ho hc hx' h1 h3 h7 rfl) (.ext _) M
     | ext u =>
      cases h8
      obtain ⟨m, h9, h10⟩ := aa.1 h6
      cases h10
      exact .same (V.len hX.ax ho hc hx' h1 h3 h7 h9) (.ext _) M
   ·cases he
  ·cases he
end
end
end Go.HL
