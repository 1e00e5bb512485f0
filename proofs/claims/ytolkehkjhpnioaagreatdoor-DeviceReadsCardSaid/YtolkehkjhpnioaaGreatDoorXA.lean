/- Runs of HL, the state known by signs: the memory by parts; the operations that are computed. No statement of the seat stands here. -/
import Derived.Test.YtolkehkjhpnioaaGreatDoorSC
set_option linter.unusedVariables false
set_option linter.unusedSimpArgs false
namespace Go.HL
open Go
noncomputable section
structure Part where
 foot : Nat → Prop
 holds : Heap → Prop
 loc : ∀ {h h' : Heap}, (∀ k, foot k → h'.get k = h.get k) → holds h → holds h'
 live : ∀ {h : Heap} {k : Nat}, holds h → foot k → ∃ o, h.get k = some o
def Apart (a b : Part) : Prop := ∀ k, a.foot k → ¬ b.foot k
structure Chg (C : List Part) (h : Heap) (C' : List Part) (h' : Heap) : Prop where
 wf : Wf h'
 next : h.next ≤ h'.next
 keep : ∀ {k : Nat} {o : HObj}, h.get k = some o → (∀ r ∈ C, ¬ r.foot k) → h'.get k = some o
 all : ∀ r ∈ C', r.holds h'
 disj : C'.Pairwise Apart
 own : ∀ r ∈ C', ∀ k, r.foot k → (∃ q ∈ C, q.foot k) ∨ h.get k = none
theorem Apart.symm {a b : Part} (h : Apart a b) : Apart b a := fun k hb ha => h k ha hb
theorem Chg.refl {h : Heap} (w : Wf h) : Chg [] h [] h := ⟨w, Nat.le_refl _, fun e _ => e, fun r hr => by simp at hr, .nil, fun r hr => by simp at hr⟩
theorem Chg.of_grow {h h' : Heap} (g : Grow h h') (w : Wf h') : Chg [] h [] h' := ⟨w, g.next, fun e _ => g.get e, fun r hr => by simp at hr, .nil, fun r hr => by simp at hr⟩
inductive Pick : List Part → Part → List Part → Prop
 | h {a : Part} {B : List Part} : Pick (a :: B) a B
 | t {a b : Part} {B R : List Part} (p : Pick B a R) : Pick (b :: B) a (b :: R)
theorem Pick.perm {B R : List Part} {a : Part} (p : Pick B a R) : List.Perm B (a :: R) := by
 induction p with
 | h => exact List.Perm.refl _
 | t p ih => exact (List.Perm.cons _ ih).trans (List.Perm.swap _ _ _)
theorem Pick.mem {B R : List Part} {a : Part} (p : Pick B a R) : a ∈ B := p.perm.mem_iff.2 (by simp)
inductive Picks : List Part → List Part → List Part → Prop
 | nil {B : List Part} : Picks B [] B
 | cons {B C R S : List Part} {a : Part} (p : Pick B a R) (q : Picks R C S) : Picks B (a :: C) S
theorem Picks.perm {B C R : List Part} (p : Picks B C R) : List.Perm B (C ++ R) := by
 induction p with
 | nil => exact List.Perm.refl _
 | cons p q ih => exact p.perm.trans (List.Perm.cons _ ih)
theorem pairwise_perm {B C : List Part} (p : List.Perm B C) (h : B.Pairwise Apart) : C.Pairwise Apart := p.pairwise h fun h => h.symm
theorem Chg.perm {C B B' : List Part} {h h' : Heap} (p : List.Perm B B') (c : Chg C h B h') : Chg C h B' h' :=
 ⟨c.wf, c.next, c.keep, fun r hr => c.all r (p.mem_iff.2 hr), pairwise_perm p c.disj, fun r hr => c.own r (p.mem_iff.2 hr)⟩
theorem Chg.drop {C B R : List Part} {h h' : Heap} (c : Chg C h (B ++ R) h') : Chg C h B h' :=
 ⟨c.wf, c.next, c.keep, fun r hr => c.all r (by simp [hr]), (List.pairwise_append.1 c.disj).1, fun r hr => c.own r (by simp [hr])⟩
theorem Chg.picks {C B D R : List Part} {h h' : Heap} (p : Picks B D R) (c : Chg C h B h') : Chg C h D h' := (c.perm p.perm).drop
theorem Chg.trans {C B D R D' : List Part} {h h' h2 : Heap} (c : Chg C h B h') (p : List.Perm B (D ++ R)) (d : Chg D h' D' h2) : Chg C h (D' ++ R) h2 := by
 have c := c.perm p
 have hd := List.pairwise_append.1 c.disj
 have stay : ∀ r ∈ R, ∀ k, r.foot k → h2.get k = h'.get k := by
  intro r hr k hk
  obtain ⟨o, ho⟩ := r.live (c.all r (by simp [hr])) hk
  rw [ho]
  exact d.keep ho fun q hq hqk => hd.2.2 q hq r hr k hqk hk
 have back : ∀ k, h'.get k = none → (∃ q ∈ C, q.foot k) ∨ h.get k = none := by
  intro k hk
  cases e : h.get k with
  | none => exact .inr rfl
  | some o =>
   refine .inl (Classical.byContradiction fun hn => ?_)
   have := c.keep e fun r hr hrk => hn ⟨r, hr, hrk⟩
   rw [hk] at this; cases this
 refine ⟨d.wf, Nat.le_trans c.next d.next, fun {k o} e hn => ?_, ?_, ?_, ?_⟩
 ·have e2 := c.keep e hn
  refine d.keep e2 fun r hr hrk => ?_
  rcases c.own r (by simp [hr]) k hrk with ⟨q, hq, hqk⟩ | hno
  ·exact hn q hq hqk
  ·rw [e] at hno; cases hno
 ·intro r hr
  rcases List.mem_append.1 hr with hr | hr
  ·exact d.all r hr
  ·exact r.loc (fun k hk => stay r hr k hk) (c.all r (by simp [hr]))
 ·refine List.pairwise_append.2 ⟨d.disj, hd.2.1, fun a ha b hb k hak hbk => ?_⟩
  rcases d.own a ha k hak with ⟨q, hq, hqk⟩ | hno
  ·exact hd.2.2 q hq b hb k hqk hbk
  ·obtain ⟨o, ho⟩ := b.live (c.all b (by simp [hb])) hbk
   rw [ho] at hno; cases hno
 ·intro r hr k hk
  rcases List.mem_append.1 hr with hr | hr
  ·rcases d.own r hr k hk with ⟨q, hq, hqk⟩ | hno
   ·exact c.own q (by simp [hq]) k hqk
   ·exact back k hno
  ·exact c.own r (by simp [hr]) k hk
structure Ro (C : List Part) (h : Heap) (a : Part) : Prop where
 holds : a.holds h
 away : ∀ r ∈ C, Apart a r
theorem Ro.of {h : Heap} {a : Part} (ha : a.holds h) : Ro [] h a := ⟨ha, fun r hr => by simp at hr⟩
theorem Ro.get {C C' : List Part} {h h' : Heap} {a : Part} (r : Ro C h a) (c : Chg C h C' h') {k : Nat} (hk : a.foot k) : h'.get k = h.get k := by
 obtain ⟨o, ho⟩ := a.live r.holds hk
 rw [ho]
 exact c.keep ho fun q hq hqk => r.away q hq k hk hqk
theorem Ro.at {C C' : List Part} {h h' : Heap} {a : Part} (r : Ro C h a) (c : Chg C h C' h') : a.holds h' := a.loc (fun _ hk => r.get c hk) r.holds
theorem Ro.sep {C C' : List Part} {h h' : Heap} {a b : Part} (r : Ro C h a) (c : Chg C h C' h') (hb : b ∈ C') : Apart a b := by
 intro k hk hbk
 rcases c.own b hb k hbk with ⟨q, hq, hqk⟩ | hno
 ·exact r.away q hq k hk hqk
 ·obtain ⟨o, ho⟩ := a.live r.holds hk
  rw [ho] at hno; cases hno
/-! ## Parts -/
def pts (k : Nat) (l : List HVal) (e : Nat) (s : Bool) : Part where
 foot j := j = k
 holds h := h.get k = some (.cells l e s true)
 loc e' hh := by rw [e' k rfl]; exact hh
 live {h j} hh e' := ⟨.cells l e s true, by rw [show j = k from e']; exact hh⟩
def Part.both (a b : Part) : Part where
 foot k := a.foot k ∨ b.foot k
 holds h := a.holds h ∧ b.holds h
 loc e hh := ⟨a.loc (fun k hk => e k (.inl hk)) hh.1, b.loc (fun k hk => e k (.inr hk)) hh.2⟩
 live hh hk := hk.elim (fun hk => a.live hh.1 hk) fun hk => b.live hh.2 hk
def rd (v : HVal) (w : Nat) (rows : List (List HVal)) : Part where
 foot k := keyV v = some k
 holds h := Held h v w rows
 loc e hh := hh.keep e
 live hh hk := hh.live _ hk
inductive FreeE (e : Nat) (h : Heap) : HVal → Prop
 | nils : FreeE e h .nils
 | empty : FreeE e h .empty
 | rest (k : Nat) : FreeE e h (.rest k)
 | slice (k off c : Nat) (l : List HVal) (t : Nat) (s r : Bool) (hg : h.get k = some (.cells l t s r)) (ht : t = 0 ∨ t = e) : FreeE e h (.slice k off c none)
def frd (e : Nat) (v : HVal) (w : Nat) (rows : List (List HVal)) : Part where
 foot k := keyV v = some k
 holds h := FreeE e h v ∧ Held h v w rows
 loc {h h'} e hh := by
  refine ⟨?_, hh.2.keep e⟩
  cases hh.1 with
  | nils => exact .nils
  | empty => exact .empty
  | rest k => exact .rest k
  | slice k off c l t s r hg ht => exact .slice k off c l t s r (by rw [e k rfl]; exact hg) ht
 live hh hk := hh.2.live _ hk
def ownS (e w : Nat) (v : HVal) (rows : List (List HVal)) : Part where
 foot k := keyW v = some k
 holds h := (∃ d, App h e w v rows.length rows.flatten d) ∧ ∀ r ∈ rows, r.length = w
 loc e hh := ⟨let ⟨d, a⟩ := hh.1; ⟨d, a.keep e⟩, hh.2⟩
 live hh hk := let ⟨_, a⟩ := hh.1; a.live hk
def lies (base : List (Nat × HObj)) : Part where
 foot k := ∃ p ∈ base, p.1 = k
 holds h := ∀ p ∈ base, h.get p.1 = some p.2
 loc e hh := fun p hp => by rw [e p.1 ⟨p, hp, rfl⟩]; exact hh p hp
 live hh hk := by obtain ⟨p, hp, rfl⟩ := hk; exact ⟨_, hh p hp⟩
theorem flatten_len {w : Nat} : ∀ {rows : List (List HVal)}, (∀ r ∈ rows, r.length = w) → rows.flatten.length = rows.length * w
 | [], _ => by simp
 | r :: rows, h => by
  rw [List.flatten_cons, List.length_append, h r (by simp), flatten_len fun q hq => h q (by simp [hq]), List.length_cons, Nat.add_mul, Nat.one_mul, Nat.add_comm]
theorem flatten_row {w : Nat} : ∀ {rows : List (List HVal)}, (∀ r ∈ rows, r.length = w) → ∀ {i : Nat} {r : List HVal}, rows[i]? = some r → (rows.flatten.drop (i * w)).take r.length = r
 | [], _, i, r, hr => by simp at hr
 | q :: rows, h, 0, r, hr => by
  simp only [List.getElem?_cons_zero, Option.some.injEq] at hr
  subst hr
  simp
 | q :: rows, h, i + 1, r, hr => by
  have hq := h q (by simp)
  simp only [List.getElem?_cons_succ] at hr
  have ih := flatten_row (fun q hq => h q (by simp [hq])) hr
  rw [List.flatten_cons, List.drop_append, List.drop_of_length_le (by rw [hq, Nat.add_mul]; omega), List.nil_append, hq, Nat.add_mul, Nat.one_mul, Nat.add_sub_cancel]
  exact ih
theorem ownS.rd {e w : Nat} {v : HVal} {rows : List (List HVal)} {h : Heap} (a : (ownS e w v rows).holds h) : (rd v w rows).holds h := by
 obtain ⟨⟨d, ha⟩, hw⟩ := a
 have hlen := ha.length
 refine ⟨⟨ha.len, fun i r hr => ?_⟩, fun k hk => ha.live (by cases v <;> first | exact hk | cases hk)⟩
 have hi := (List.getElem?_eq_some_iff.1 hr).1
 have hrow := flatten_row hw hr
 have hrl := hw r (List.mem_of_getElem? hr)
 have hmul : i * w + w ≤ rows.length * w := by rw [← Nat.succ_mul]; exact Nat.mul_le_mul_right w hi
 generalize hc : rows.length = c at ha hlen hi hmul ⊢
 generalize hf : rows.flatten = l at ha hrow
 cases ha with
 | nils => omega
 | rest hg => omega
 | @full k off n e' L _ s q hg hl hd =>
  refine ⟨k, off, _, rfl, row_of hg ?_⟩
  simp only [Nat.add_eq, Nat.mul_eq]
  rw [← hd] at hrow
  rw [List.drop_take, List.take_take, List.drop_drop] at hrow
  rw [hrl] at hrow ⊢
  rw [Nat.min_eq_left (by omega)] at hrow
  exact hrow
 | @own k off n L _ hg hl hd =>
  refine ⟨k, off, _, rfl, row_of hg ?_⟩
  simp only [Nat.add_eq, Nat.mul_eq]
  rw [← hd, List.drop_drop] at hrow
  exact hrow
end
end Go.HL
namespace Go.HL
open Go
noncomputable section
inductive SV where
 | ext (v : HVal)
 | ptr (i off : Nat)
 | sl (i n : Nat)
inductive Blk where
 | own (l : List HVal) (e : Nat) (s : Bool)
 | ro (l : List HVal)
 | tmp (l : List HVal)
 | gone
abbrev SL := List (Nat × SV)
abbrev PlX := List (Nat × Nat)
inductive Rep (κ : PlX) : SV → HVal → Prop
 | ext (v : HVal) : Rep κ (.ext v) v
 | ptr {i off k o : Nat} (h : nth κ i = some (k, o)) : Rep κ (.ptr i off) (.ptr k (Nat.add o off))
 | sl {i n k : Nat} (h : nth κ i = some (k, 0)) : Rep κ (.sl i n) (.slice k 0 n (some n))
inductive RepL (κ : PlX) : SL → Sts → Prop
 | nil : RepL κ [] []
 | cons {i : Nat} {x : SV} {v : HVal} {L : SL} {L0 : Sts} (h : Rep κ x v) (t : RepL κ L L0) : RepL κ ((i, x) :: L) ((i, v) :: L0)
theorem nth_append {α : Type} {l t : List α} {i : Nat} {a : α} (h : nth l i = some a) : nth (l ++ t) i = some a := by
 rw [nth_eq] at h ⊢
 rw [List.getElem?_append_left (List.getElem?_eq_some_iff.1 h).1]; exact h
theorem Rep.more {κ t : PlX} {x : SV} {v : HVal} (r : Rep κ x v) : Rep (κ ++ t) x v := by
 cases r with
 | ext => exact .ext _
 | ptr h => exact .ptr (nth_append h)
 | sl h => exact .sl (nth_append h)
theorem RepL.more {κ t : PlX} {L : SL} {L0 : Sts} (r : RepL κ L L0) : RepL (κ ++ t) L L0 := by
 induction r with
 | nil => exact .nil
 | cons h _ ih => exact .cons h.more ih
def lookX : SL → Nat → Option SV
 | [], _ => none
 | (j, v) :: l, i => bcase (Nat.beq j i) (some v) (lookX l i)
theorem RepL.look {κ : PlX} {L : SL} {L0 : Sts} (r : RepL κ L L0) : ∀ {i : Nat} {x : SV}, lookX L i = some x → ∃ v, HL.look L0 i = some v ∧ Rep κ x v := by
 induction r with
 | nil => intro i x h; cases h
 | @cons j y v L L0 h t ih =>
  intro i x hx
  simp only [lookX] at hx
  simp only [HL.look]
  cases hb : Nat.beq j i with
  | true => rw [hb] at hx; cases hx; exact ⟨v, rfl, h⟩
  | false => rw [hb] at hx; exact ih hx
def evX (P : Program) (L : SL) : Operand → Option SV
 | .tmp t => lookX L t
 | .const v => match ofValue v with | some x => some (.ext x) | none => none
 | .global g => bcase (Nat.blt g P.globals.size) (some (.ext (.ptr g 0))) none
 | .func f => some (.ext (.func f [] []))
def extOf : SV → Option HVal
 | .ext v => some v
 | _ => none
def evH (P : Program) (L : SL) (x : Operand) : Option HVal := ob (evX P L x) extOf
section
variable {P : Program} {κ : PlX} {L : SL} {L0 : Sts}
theorem evX_rep (r : RepL κ L L0) {x : Operand} {y : SV} (h : evX P L x = some y) : ∃ v, evL P L0 x = some v ∧ Rep κ y v := by
 cases x with
 | tmp t => exact r.look h
 | const c =>
  simp only [evX] at h
  cases hc : ofValue c with
  | none => rw [hc] at h; cases h
  | some v => rw [hc] at h; cases h; exact ⟨v, hc, .ext v⟩
 | global g =>
  simp only [evX] at h
  simp only [evL]
  cases hb : Nat.blt g P.globals.size with
  | false => rw [hb] at h; cases h
  | true => rw [hb] at h; cases h; exact ⟨_, rfl, .ext _⟩
 | func f => cases h; exact ⟨_, rfl, .ext _⟩
theorem evH_eq (r : RepL κ L L0) {x : Operand} {v : HVal} (h : evH P L x = some v) : evL P L0 x = some v := by
 obtain ⟨y, h1, h2⟩ := ob_eq_some.1 h
 obtain ⟨w, h3, h4⟩ := evX_rep r h1
 cases y with
 | ext u => cases h2; cases h4; exact h3
 | ptr => cases h2
 | sl => cases h2
end
def wantX (ops : Array Oper) (o : Oper) (L : SL) : Option Bool :=
 match o.guard with
 | none => some true
 | some g => match (ops[g.1]?).bind (·.dst) with
  | some d => match lookX L d with
   | some (.ext (.bool b)) => some (bcase g.2 b (bcase b false true))
   | some (.ext (.tuple _)) => some false
   | _ => none
  | none => none
theorem wantX_eq {κ : PlX} {L : SL} {L0 : Sts} (r : RepL κ L L0) {ops : Array Oper} {o : Oper} {b : Bool} (h : wantX ops o L = some b) : wantL ops o L0 = some b := by
 unfold wantX at h
 unfold wantL
 split at h
 ·rename_i hg; simp only [hg]; exact h
 ·rename_i g hg
  simp only [hg]
  split at h
  ·rename_i d hd
   simp only [hd]
   split at h
   ·rename_i b' hl
    obtain ⟨v, h1, h2⟩ := r.look hl
    cases h2
    simp only [h1]; exact h
   ·rename_i l hl
    obtain ⟨v, h1, h2⟩ := r.look hl
    cases h2
    simp only [h1]; exact h
   ·cases h
  ·cases h
def keepX (m : Nat) : SL → (SL → Option SL) → Option SL
 | [], k => k []
 | (i, v) :: l, k => bcase (bit m i) (keepX m l fun r => k ((i, v) :: r)) (keepX m l k)
theorem keepX_eq {κ : PlX} {m : Nat} : ∀ {L : SL} {L0 : Sts}, RepL κ L L0 → ∀ {k : SL → Option SL} {R : SL}, keepX m L k = some R → ∃ L' L0', k L' = some R ∧ keepL m L0 some = some L0' ∧ RepL κ L' L0'
 | [], _, .nil, k, R, h => ⟨[], [], h, rfl, .nil⟩
 | (i, x) :: L, _, .cons (v := v) (L0 := L0) hx t, k, R, h => by
  simp only [keepX] at h
  rw [keepL_eq]
  cases hb : bit m i with
  | true =>
   rw [hb, bcT] at h
   obtain ⟨L', L0', h1, h2, h3⟩ := keepX_eq t h
   rw [keepL_eq] at h2
   refine ⟨(i, x) :: L', (i, v) :: L0', h1, ?_, .cons hx h3⟩
   have := Option.some.inj h2
   simp [keepF, hb] at this ⊢
   exact this
  | false =>
   rw [hb, bcF] at h
   obtain ⟨L', L0', h1, h2, h3⟩ := keepX_eq t h
   rw [keepL_eq] at h2
   refine ⟨L', L0', h1, ?_, h3⟩
   have := Option.some.inj h2
   simp [keepF, hb] at this ⊢
   exact this
/-! ## The memory -/
structure Env0 where
 C : List Part
 h : Heap
 κ : PlX
def partsB : List Blk → PlX → List Part
 | .own l e s :: B, p :: κ => pts p.1 l e s :: partsB B κ
 | _ :: B, _ :: κ => partsB B κ
 | _, _ => []
def ther (k : Nat) : Part where
 foot j := j = k
 holds h := ∃ o, h.get k = some o
 loc e hh := let ⟨o, ho⟩ := hh; ⟨o, by rw [e k rfl]; exact ho⟩
 live {_ j} hh e := let ⟨o, ho⟩ := hh; ⟨o, by rw [show j = k from e]; exact ho⟩
structure Mem (E : Env0) (κ : PlX) (B : List Blk) (G : List Part) (h : Heap) : Prop where
 chg : Chg E.C E.h (partsB B κ ++ G) h
 pre : ∃ t, κ = E.κ ++ t
 len : κ.length = B.length
 own : ∀ i l e s, nth B i = some (.own l e s) → ∃ k, nth κ i = some (k, 0)
 ro : ∀ i l, nth B i = some (.ro l) → ∃ k off, nth κ i = some (k, off) ∧ Row E.h k off l ∧ Ro E.C E.h (ther k)
 tmp : ∀ i l, nth B i = some (.tmp l) → ∃ k off, nth κ i = some (k, off) ∧ Row h k off l ∧ ∃ g ∈ G, g.foot k
theorem partsB_snoc : ∀ {B : List Blk} {κ : PlX}, κ.length = B.length → ∀ (b : Blk) (p : Nat × Nat), partsB (B ++ [b]) (κ ++ [p]) = partsB B κ ++ partsB [b] [p]
 | [], [], _, b, p => rfl
 | [], _ :: _, h, _, _ => by simp at h
 | _ :: _, [], h, _, _ => by simp at h
 | c :: B, q :: κ, h, b, p => by
  have ih := partsB_snoc (B := B) (κ := κ) (by simpa using h) b p
  cases c <;> simp [partsB, ih]
theorem partsB_split : ∀ {B : List Blk} {κ : PlX} {i : Nat} {l : List HVal} {e k o : Nat} {s : Bool}, nth B i = some (.own l e s) → nth κ i = some (k, o) →
  ∃ R, List.Perm (partsB B κ) (pts k l e s :: R) ∧ (∀ l' e' s', List.Perm (partsB (B.set i (.own l' e' s')) κ) (pts k l' e' s' :: R)) ∧ List.Perm (partsB (B.set i .gone) κ) R
 | [], _, i, l, e, k, o, s, h, _ => by rw [nth_eq] at h; simp at h
 | _ :: _, [], i, l, e, k, o, s, _, h => by rw [nth_eq] at h; simp at h
 | b :: B, p :: κ, 0, l, e, k, o, s, h1, h2 => by
  rw [nth_eq] at h1 h2
  simp only [List.getElem?_cons_zero, Option.some.injEq] at h1 h2
  subst h1
  subst h2
  exact ⟨partsB B κ, List.Perm.refl _, fun l' e' s' => List.Perm.refl _, List.Perm.refl _⟩
 | b :: B, p :: κ, i + 1, l, e, k, o, s, h1, h2 => by
  rw [nth_eq] at h1 h2
  simp only [List.getElem?_cons_succ] at h1 h2
  rw [← nth_eq] at h1 h2
  obtain ⟨R, h3, h4, h5⟩ := partsB_split h1 h2
  cases b with
  | own l0 e0 s0 => exact ⟨pts p.1 l0 e0 s0 :: R, (List.Perm.cons _ h3).trans (List.Perm.swap _ _ _), fun l' e' s' => (List.Perm.cons _ (h4 l' e' s')).trans (List.Perm.swap _ _ _), List.Perm.cons _ h5⟩
  | ro l0 => exact ⟨R, h3, h4, h5⟩
  | tmp l0 => exact ⟨R, h3, h4, h5⟩
  | gone => exact ⟨R, h3, h4, h5⟩
theorem partsB_mem {B : List Blk} {κ : PlX} {i : Nat} {l : List HVal} {e k o : Nat} {s : Bool} (h1 : nth B i = some (.own l e s)) (h2 : nth κ i = some (k, o)) : pts k l e s ∈ partsB B κ :=
 let ⟨_, h3, _, _⟩ := partsB_split h1 h2; h3.mem_iff.2 (by simp)
def Blk.cells : Blk → Option (List HVal)
 | .own l _ _ => some l
 | .ro l => some l
 | .tmp l => some l
 | .gone => none
section
variable {E : Env0} {κ : PlX} {B : List Blk} {G : List Part} {h h' : Heap}
theorem Mem.wf (M : Mem E κ B G h) : Wf h := M.chg.wf
theorem Ro.row {C C' : List Part} {h h' : Heap} {k off : Nat} {l : List HVal} (r : Ro C h (ther k)) (c : Chg C h C' h') (w : Row h k off l) : Row h' k off l := w.keep (r.get c rfl)
theorem Mem.row (M : Mem E κ B G h) {i : Nat} {b : Blk} {l : List HVal} (hb : nth B i = some b) (hl : b.cells = some l) : ∃ k o, nth κ i = some (k, o) ∧ Row h k o l := by
 cases b with
 | own l' e s =>
  cases hl
  obtain ⟨k, hk⟩ := M.own i _ _ _ hb
  exact ⟨k, 0, hk, row_all (M.chg.all _ (List.mem_append_left _ (partsB_mem hb hk)))⟩
 | ro l' =>
  cases hl
  obtain ⟨k, o, hk, hr, ha⟩ := M.ro i _ hb
  exact ⟨k, o, hk, ha.row M.chg hr⟩
 | tmp l' =>
  cases hl
  obtain ⟨k, o, hk, hr, _⟩ := M.tmp i _ hb
  exact ⟨k, o, hk, hr⟩
 | gone => cases hl
theorem nth_snoc {α : Type} {l : List α} {a : α} {i : Nat} {b : α} (h : nth (l ++ [a]) i = some b) : nth l i = some b ∨ i = l.length ∧ b = a := by
 rw [nth_eq] at h ⊢
 by_cases hi : i < l.length
 ·rw [List.getElem?_append_left hi] at h; exact .inl h
 ·rw [List.getElem?_append_right (by omega)] at h
  obtain ⟨h1, h2⟩ := List.getElem?_eq_some_iff.1 h
  have : i = l.length := by simp at h1; omega
  subst this
  simp at h2
  exact .inr ⟨rfl, h2.symm⟩
theorem nth_last {α : Type} (l : List α) (a : α) : nth (l ++ [a]) l.length = some a := by rw [nth_eq]; simp
theorem Mem.snoc (M : Mem E κ B G h) (p : Nat × Nat) (b : Blk) (c : Chg E.C E.h (partsB [b] [p] ++ (partsB B κ ++ G)) h') (hg : ∀ k, (∃ g ∈ G, g.foot k) → h'.get k = h.get k)
  (h1 : ∀ l e s, b = .own l e s → p.2 = 0) (h2 : ∀ l, b = .ro l → Row E.h p.1 p.2 l ∧ Ro E.C E.h (ther p.1)) (h3 : ∀ l, b = .tmp l → Row h' p.1 p.2 l ∧ ∃ g ∈ G, g.foot p.1) : Mem E (κ ++ [p]) (B ++ [b]) G h' := by
 have last : nth (κ ++ [p]) B.length = some p := by rw [← M.len]; exact nth_last κ p
 refine ⟨?_, ?_, by simp [M.len], ?_, ?_, ?_⟩
 ·rw [partsB_snoc M.len]
  refine c.perm ?_
  rw [← List.append_assoc]
  exact List.Perm.append_right _ List.perm_append_comm
 ·obtain ⟨t, ht⟩ := M.pre
  exact ⟨t ++ [p], by rw [ht, List.append_assoc]⟩
 ·intro i l e s hb
  rcases nth_snoc hb with hb | ⟨rfl, hq⟩
  ·obtain ⟨k, hk⟩ := M.own i l e s hb
   exact ⟨k, nth_append hk⟩
  ·obtain ⟨k, o⟩ := p
   have := h1 l e s hq.symm
   simp only at this
   subst this
   exact ⟨k, last⟩
 ·intro i l hb
  rcases nth_snoc hb with hb | ⟨rfl, hq⟩
  ·obtain ⟨k, o, hk, hr⟩ := M.ro i l hb
   exact ⟨k, o, nth_append hk, hr⟩
  ·obtain ⟨k, o⟩ := p
   exact ⟨k, o, last, h2 l hq.symm⟩
 ·intro i l hb
  rcases nth_snoc hb with hb | ⟨rfl, hq⟩
  ·obtain ⟨k, o, hk, hr, hg'⟩ := M.tmp i l hb
   exact ⟨k, o, nth_append hk, hr.keep (hg k hg'), hg'⟩
  ·obtain ⟨k, o⟩ := p
   exact ⟨k, o, last, h3 l hq.symm⟩
theorem chg_made {C B : List Part} {h0 h h' : Heap} {k : Nat} {l : List HVal} {e : Nat} {s : Bool} (c : Chg C h0 B h) (m : Made h k (.cells l e s true) h') : Chg C h0 (pts k l e s :: B) h' := by
 have d : Chg [] h [pts k l e s] h' := by
  refine ⟨m.wf, m.ext.next, fun e _ => m.ext.get e, ?_, List.pairwise_singleton _ _, ?_⟩
  ·intro r hr
   simp only [List.mem_singleton] at hr
   subst hr
   exact m.get
  ·intro r hr j hj
   simp only [List.mem_singleton] at hr
   subst hr
   refine .inr ?_
   rw [show j = k from hj]; exact m.fresh
 exact c.trans (D := []) (R := B) (List.Perm.refl _) d
theorem Mem.stay (M : Mem E κ B G h) {C' : List Part} (d : Chg [] h C' h') : ∀ k, (∃ g ∈ G, g.foot k) → h'.get k = h.get k := by
 rintro k ⟨g, hg, hk⟩
 obtain ⟨o, ho⟩ := g.live (M.chg.all g (List.mem_append_right _ hg)) hk
 rw [ho]; exact d.keep ho fun r hr => by simp at hr
theorem Mem.made (M : Mem E κ B G h) {k : Nat} {l : List HVal} {e : Nat} {s : Bool} (m : Made h k (.cells l e s true) h') : Mem E (κ ++ [(k, 0)]) (B ++ [.own l e s]) G h' := by
 refine M.snoc (k, 0) (.own l e s) (chg_made M.chg m) ?_ (fun _ _ _ _ => rfl) (fun _ h => by cases h) (fun _ h => by cases h)
 exact M.stay (C' := []) (Chg.of_grow m.ext m.wf)
theorem Mem.addRo (M : Mem E κ B G h) {k off : Nat} {l : List HVal} (hr : Row E.h k off l) (ha : Ro E.C E.h (ther k)) : Mem E (κ ++ [(k, off)]) (B ++ [.ro l]) G h :=
 M.snoc (k, off) (.ro l) M.chg (fun _ _ => rfl) (fun _ _ _ h => by cases h) (fun _ h => by cases h; exact ⟨hr, ha⟩) (fun _ h => by cases h)
theorem nth_set {α : Type} {l : List α} {i j : Nat} {a b : α} (h : nth (l.set i a) j = some b) : j = i ∧ b = a ∨ j ≠ i ∧ nth l j = some b := by
 rw [nth_eq] at h ⊢
 by_cases hj : i = j
 ·subst hj
  rw [List.getElem?_set] at h
  split at h <;> simp_all
 ·rw [List.getElem?_set_ne hj] at h
  exact .inr ⟨fun e => hj e.symm, h⟩
theorem Mem.set (M : Mem E κ B G h) {i k : Nat} {l l' : List HVal} {e e' : Nat} {s s' : Bool} (hb : nth B i = some (.own l e s)) (hk : nth κ i = some (k, 0)) (d : Chg [pts k l e s] h [pts k l' e' s'] h') : Mem E κ (B.set i (.own l' e' s')) G h' := by
 obtain ⟨R, h3, h4, _⟩ := partsB_split hb hk
 have c := M.chg.trans (D := [pts k l e s]) (R := R ++ G) (D' := [pts k l' e' s']) (by simpa using List.Perm.append_right G h3) d
 have stay : ∀ j, (∃ g ∈ G, g.foot j) → h'.get j = h.get j := by
  rintro j ⟨g, hg, hj⟩
  obtain ⟨o, ho⟩ := g.live (M.chg.all g (List.mem_append_right _ hg)) hj
  rw [ho]
  refine d.keep ho fun r hr hrj => ?_
  simp only [List.mem_singleton] at hr
  subst hr
  exact (List.pairwise_append.1 M.chg.disj).2.2 _ (partsB_mem hb hk) g hg j hrj hj
 refine ⟨c.perm (List.Perm.append_right G (h4 l' e' s')).symm, M.pre, by rw [List.length_set]; exact M.len, ?_, ?_, ?_⟩
 ·intro j m a b hj
  rcases nth_set hj with ⟨rfl, _⟩ | ⟨_, hj⟩
  ·exact ⟨k, hk⟩
  ·exact M.own j m a b hj
 ·intro j m hj
  rcases nth_set hj with ⟨rfl, e⟩ | ⟨_, hj⟩
  ·cases e
  ·exact M.ro j m hj
 ·intro j m hj
  rcases nth_set hj with ⟨rfl, e⟩ | ⟨_, hj⟩
  ·cases e
  ·obtain ⟨k2, o, g1, g2, g3⟩ := M.tmp j m hj
   exact ⟨k2, o, g1, g2.keep (stay k2 g3), g3⟩
theorem chg_put {h h' : Heap} {k : Nat} {l l' : List HVal} {e e' : Nat} {s s' : Bool} (p : Put h k (.cells l' e' s' true) h') : Chg [pts k l e s] h [pts k l' e' s'] h' := by
 refine ⟨p.wf, Nat.le_of_eq p.next.symm, fun {j o} hj hn => ?_, ?_, List.pairwise_singleton _ _, ?_⟩
 ·rw [p.old j (fun e => hn _ (List.mem_singleton.2 rfl) e)]; exact hj
 ·intro r hr
  simp only [List.mem_singleton] at hr
  subst hr
  exact p.get
 ·intro r hr j hj
  simp only [List.mem_singleton] at hr
  subst hr
  exact .inl ⟨_, List.mem_singleton.2 rfl, hj⟩
theorem Mem.put (M : Mem E κ B G h) {i k : Nat} {l l' : List HVal} {e : Nat} {s : Bool} (hb : nth B i = some (.own l e s)) (hk : nth κ i = some (k, 0)) (p : Put h k (.cells l' e s true) h') : Mem E κ (B.set i (.own l' e s)) G h' := M.set hb hk (chg_put p)
end
end
end Go.HL
namespace Go.HL
open Go
noncomputable section
def ZOk (P : Program) : List (Nat × List HVal) → Prop
 | [] => True
 | p :: l => zeroCells? P p.1 = some p.2 ∧ ZOk P l
def zL : List (Nat × List HVal) → Nat → Option (List HVal)
 | [], _ => none
 | p :: l, t => bcase (Nat.beq p.1 t) (some p.2) (zL l t)
theorem ZOk.look {P : Program} : ∀ {zl : List (Nat × List HVal)}, ZOk P zl → ∀ {t : Nat} {z : List HVal}, zL zl t = some z → zeroCells? P t = some z
 | p :: l, hz, t, z, h => by
  simp only [zL] at h
  cases hb : Nat.beq p.1 t with
  | true => rw [hb] at h; cases h; rw [← Nat.eq_of_beq_eq_true hb]; exact hz.1
  | false => rw [hb] at h; exact hz.2.look h
structure TK (P : Program) (tab : Tab) (zl : List (Nat × List HVal)) : Prop where
 tab : tabOk P tab = true
 zero : ZOk P zl
def lenK {β : Type} : List Blk → Nat → (Nat → Option β) → Option β
 | [], n, k => k n
 | _ :: B, n, k => lenK B (Nat.succ n) k
theorem lenK_eq {β : Type} : ∀ (B : List Blk) (n : Nat) (k : Nat → Option β), lenK B n k = k (n + B.length)
 | [], n, k => rfl
 | b :: B, n, k => by rw [lenK, lenK_eq B]; simp [Nat.add_comm, Nat.add_left_comm]
def setBX {β : Type} : List Blk → Nat → Blk → (List Blk → Option β) → Option β
 | [], _, _, k => k []
 | b :: B, i, x, k => Nat.rec (motive := fun _ => Option β) (k (x :: B)) (fun j _ => setBX B j x fun r => k (b :: r)) i
theorem setBX_eq {β : Type} : ∀ (B : List Blk) (i : Nat) (x : Blk) (k : List Blk → Option β), setBX B i x k = k (B.set i x)
 | [], _, _, _ => rfl
 | b :: B, 0, x, k => rfl
 | b :: B, i + 1, x, k => by
  show setBX B i x (fun r => k (b :: r)) = _
  rw [setBX_eq B]; rfl
def placesX (P : Program) (tab : Tab) (L : SL) (fs : List (Nat × Nat)) : List (Nat × Operand) → Option (List (Nat × Nat × HVal))
 | [] => some []
 | p :: l => ob (nth fs p.1) fun f => ob (tyL tab f.2) fun w => ob (evH P L p.2) fun v => ob (placesX P tab L fs l) fun r => some ((f.1, w.2, v) :: r)
def fillX (P : Program) (L : SL) (w : Nat) : List (Nat × Operand) → Option (List (Nat × Nat × HVal))
 | [] => some []
 | p :: l => ob (evH P L p.2) fun v => ob (fillX P L w l) fun r => some ((Nat.mul p.1 w, w, v) :: r)
theorem bcase_false_eq' {α : Type} {b : Bool} {t : Option α} {r : α} (h : bcase b t none = some r) : b = true ∧ t = some r := by
 cases b
 ·cases h
 ·exact ⟨rfl, h⟩
theorem bcase_true_eq' {α : Type} {b : Bool} {t : Option α} {r : α} (h : bcase b none t = some r) : b = false ∧ t = some r := by
 cases b
 ·exact ⟨rfl, h⟩
 ·cases h
def newQ (B : List Blk) (l : List HVal) (e : Nat) (k : Nat → SV) : Option (SV × List Blk) := appK B [.own l e false] fun B' => lenK B 0 fun n => some (k n, B')
def lenQ (P : Program) (tab : Tab) (L : SL) (B : List Blk) (t : Nat) (x : Operand) : Option (SV × List Blk) :=
 ob (tyL tab t) fun w => ob (evX P L x) fun v => match w.1 with
  | .slice _ => match v with
   | .ext v => ob (lenV v) fun n => some (.ext (.int .i64 (n : Int)), B)
   | .sl _ n => some (.ext (.int .i64 (n : Int)), B)
   | _ => none
  | .str => match v with
   | .ext (.str n _) => some (.ext (.int .i64 (n : Int)), B)
   | _ => none
  | _ => none
def truth (b : Bool) (B : List Blk) : Option (SV × List Blk) := bcase b (some (.ext (.bool true), B)) (some (.ext (.bool false), B))
def cmpB : BinOp → Int → Int → Option Bool
 | .eql, a, b => some (ieq a b)
 | .neq, a, b => some (bcase (ieq a b) false true)
 | .lss, a, b => some (ilt a b)
 | .leq, a, b => some (ile a b)
 | .gtr, a, b => some (ilt b a)
 | .geq, a, b => some (ile b a)
 | _, _, _ => none
def evQ (P : Program) (tab : Tab) (zl : List (Nat × List HVal)) (L : SL) (B : List Blk) (op : Op) : Option (SV × List Blk) :=
 match op with
 | .move x => ob (evX P L x) fun v => some (v, B)
 | .assign x => ob (evX P L x) fun v => some (v, B)
 | .pick c x y => ob (evH P L c) fun c => match c with
  | .bool b => bcase b (ob (evX P L x) fun v => some (v, B)) (ob (evX P L y) fun v => some (v, B))
  | _ => none
 | .unOp u _ x => match u with
  | .not => ob (evH P L x) fun v => match v with
   | .bool b => bcase b (some (.ext (.bool false), B)) (some (.ext (.bool true), B))
   | _ => none
  | _ => none
 | .nilCheck x => ob (evX P L x) fun v => match v with
  | .ptr i off => some (.ptr i off, B)
  | .ext (.ptr k off) => some (.ext (.ptr k off), B)
  | _ => none
 | .extract x i => ob (evH P L x) fun v => match v with
  | .tuple l => ob (nth l i) fun v => some (.ext v, B)
  | _ => none
 | .alloc e => ob (zL zl e) fun z => newQ B z e fun n => .ptr n 0
 | .box e x => ob (evH P L x) fun v => ob v.cells fun l => newQ B l e fun n => .ptr n 0
 | .build t parts => ob (zL zl t) fun z => ob (tyL tab t) fun w => match w.1 with
  | .struct fs => bcase (allTyped tab fs) (ob (placesX P tab L fs parts.toList) fun ps => ob (fillH ps z) fun cs => some (.ext (.agg cs), B)) none
  | .array _ e => ob (tyL tab e) fun we => ob (fillX P L we.2 parts.toList) fun ps => ob (fillH ps z) fun cs => some (.ext (.agg cs), B)
  | _ => none
 | .buildSlice t len parts => ob (tyL tab t) fun w => match w.1 with
  | .slice e => ob (tyL tab e) fun we => bcase (Nat.ble (Nat.mul len we.2) 16777216) (ob (zL zl e) fun z => bcase (Nat.beq z.length we.2) (ob (fillX P L we.2 parts.toList) fun ps => ob (fillH ps (repl len z)) fun cs => newQ B cs e fun n => .sl n len) none) none
  | _ => none
 | .load t x => ob (evX P L x) fun v => match v with
  | .ptr i off => ob (nth B i) fun b => ob b.cells fun l => ob (tyL tab t) fun w => bcase w.1.agg (takeK (dropN l off) w.2 fun m => some (.ext (.agg m), B)) (ob (nth l off) fun v => some (.ext v, B))
  | _ => none
 | .store t x y => ob (evX P L x) fun v => match v with
  | .ptr i off => ob (nth B i) fun b => match b with
   | .own l e s => ob (evH P L y) fun w => ob w.cells fun new => ob (tyL tab t) fun ty => bcase (Nat.beq new.length ty.2) (overK l off new fun l' => setBX B i (.own l' e s) fun B' => some (.ext undefH, B')) none
   | _ => none
  | _ => none
 | .fieldAddr t x f => ob (tyL tab t) fun w => match w.1 with
  | .struct fs => ob (nth fs f) fun q => ob (tyL tab q.2) fun wq => bcase (Nat.beq wq.2 0) none (ob (evX P L x) fun v => match v with
   | .ptr i off => some (.ptr i (Nat.add off q.1), B)
   | .ext (.ptr k off) => some (.ext (.ptr k (Nat.add off q.1)), B)
   | _ => none)
  | _ => none
 | .binOp bo _ x y _ => ob (evH P L x) fun a => ob (evH P L y) fun b => match a with
  | .int k a => match b with
   | .int j b => bcase (sameKind k j) (ob (cmpB bo a b) fun r => truth r B) none
   | _ => none
  | _ => none
 | .call c => match c.callee with
  | .builtin b => match b with
   | .len => match c.args.toList with
    | [x] => ob c.argTypes[0]? fun t => lenQ P tab L B t x
    | _ => none
   | _ => none
  | _ => none
 | _ => none
section
variable {P : Program} {tab : Tab} {zl : List (Nat × List HVal)} {κ : PlX} {L : SL} {L0 : Sts} {B B' : List Blk} {G : List Part} {E : Env0} {h : Heap} {o : Oper} {sv : SV}
theorem placesX_eq (r : RepL κ L L0) {fs : List (Nat × Nat)} : ∀ {l : List (Nat × Operand)} {ps : List (Nat × Nat × HVal)}, placesX P tab L fs l = some ps → placesV P tab L0 fs l = some ps
 | [], ps, e => e
 | p :: l, ps, e => by
  simp only [placesX] at e
  obtain ⟨f, e1, e2⟩ := ob_eq_some.1 e
  obtain ⟨w, e3, e4⟩ := ob_eq_some.1 e2
  obtain ⟨v, e5, e6⟩ := ob_eq_some.1 e4
  obtain ⟨q, e7, e8⟩ := ob_eq_some.1 e6
  simp only [placesV, e1, e3, obS, evH_eq r e5, placesX_eq r e7, e8]
theorem fillX_eq (r : RepL κ L L0) {w : Nat} : ∀ {l : List (Nat × Operand)} {ps : List (Nat × Nat × HVal)}, fillX P L w l = some ps → fillV P L0 w l = some ps
 | [], ps, e => e
 | p :: l, ps, e => by
  simp only [fillX] at e
  obtain ⟨v, e1, e2⟩ := ob_eq_some.1 e
  obtain ⟨q, e3, e4⟩ := ob_eq_some.1 e2
  simp only [fillV, evH_eq r e1, obS, fillX_eq r e3, e4]
theorem appK_snoc {β : Type} (B : List Blk) (b : Blk) (k : List Blk → Option β) : appK B [b] k = k (B ++ [b]) := appK_eq _ _ _
def Comp (P : Program) (o : Oper) (L0 : Sts) (h : Heap) (E : Env0) (κ : PlX) (G : List Part) (sv : SV) (B' : List Blk) : Prop := ∃ κ' v h', OpV P o L0 h v h' ∧ Rep κ' sv v ∧ Mem E κ' B' G h' ∧ ∃ t, κ' = κ ++ t
theorem Comp.same {v : HVal} (hv : OpV P o L0 h v h) (r : Rep κ sv v) (M : Mem E κ B G h) : Comp P o L0 h E κ G sv B := ⟨κ, v, h, hv, r, M, [], by simp⟩
theorem newQ_comp {l : List HVal} {e : Nat} {k : Nat → SV} (he : newQ B l e k = some (sv, B')) (M : Mem E κ B G h) {f : Nat → HVal} (hm : OpM P o L0 h f (.cells l e false true)) (hr : ∀ κ' n j, nth κ' n = some (j, 0) → Rep κ' (k n) (f j)) : Comp P o L0 h E κ G sv B' := by
 unfold newQ at he
 rw [appK_snoc, lenK_eq, Nat.zero_add] at he
 cases he
 have mk := made_new M.wf (.cells l e false true)
 refine ⟨κ ++ [(h.next, 0)], _, _, fun ev ha => hm ev ha, hr _ _ _ ?_, M.made mk, _, rfl⟩
 rw [← M.len]; exact nth_last _ _
theorem Row.sub {k o' off n : Nat} {l m : List HVal} (hr : Row h k o' l) (hm : takeK (dropN l off) n some = some m) : Row h k (Nat.add o' off) m := by
 have h1 := hr.load
 unfold loadN at h1
 obtain ⟨q, hq, e⟩ := ob_eq_some.1 h1
 rw [takeK_eq, dropN_eq] at e hm
 split at hm
 ·rename_i hle
  split at e
  ·rename_i hle2
   have e := Option.some.inj e
   have hm := Option.some.inj hm
   refine ⟨?_⟩
   unfold loadN
   rw [hq, obS, takeK_eq, dropN_eq]
   have hml : m.length = n := by rw [← hm, List.length_take, Nat.min_eq_left hle]
   have hl : l.length ≤ (q.1.drop o').length := hle2
   rw [List.length_drop] at hle hl
   rw [if_pos (by rw [hml, List.length_drop]; simp only [Nat.add_eq]; omega), hml, ← hm, ← e]
   simp only [Nat.add_eq]
   rw [List.drop_take, List.take_take, List.drop_drop]
   congr 2
   omega
  ·cases e
 ·cases hm
theorem V.buildA {t q w len e : Nat} {i : TI} {parts : Array (Nat × Operand)} {ps : List (Nat × Nat × HVal)} {z cs : List HVal} (hT : tabOk P tab = true) (ho : o.op = .build t parts) (ht : tyL tab t = some (.array len e, q)) (he : tyL tab e = some (i, w)) (hz : zeroCells? P t = some z) (hp : fillV P L0 w parts.toList = some ps) (hc : fillH ps z = some cs) : OpV P o L0 h (.agg cs) h := OpV.mk ho fun ev hag d ty pp aft g => by
 obtain ⟨hu, inf, hi⟩ := tab_array hT ht
 simp only [opH, hz, obS, hu, hi, (tab_ok hT he).2, fillV_sound hag hp, hc]
theorem V.storeP {t k off w : Nat} {i : TI} {x y : Operand} {v : HVal} {l l' new : List HVal} {e : Nat} {s : Bool} (hT : tabOk P tab = true) (ho : o.op = .store t x y) (ht : tyL tab t = some (i, w))
  (hx : evL P L0 x = some (.ptr k off)) (hy : evL P L0 y = some v) (hc : v.cells = some new) (hl : Nat.beq new.length w = true) (hg : h.get k = some (.cells l e s true)) (hov : overK l off new some = some l') : OpV P o L0 h undefH (h.put k (.cells l' e s true)) := OpV.mk ho fun ev ha d ty ps aft g => by
 have hag := tab_agg hT ht
 unfold aggOf at hag
 obtain ⟨dd, hd, _⟩ := ob_eq_some.1 hag
 obtain ⟨inf, hi⟩ := info_of_underlying hd
 have e1 : storeN h k off new = some (h.put k (.cells l' e s true)) := by
  unfold storeN
  rw [cells_get hg, obS, bcT]
  rw [overK_eq] at hov ⊢
  split at hov
  ·rename_i hle
   have := Option.some.inj hov
   rw [if_pos hle, this]
  ·cases hov
 simp only [opH, hi, obS, evS ha hx, evS ha hy, HVal.isPtr, hc, (tab_ok hT ht).2, hl, bcT, e1]
theorem overK_some {l l' new : List HVal} {off : Nat} {β : Type} {k : List HVal → Option β} {b : β} (h : overK l off new k = some b) : ∃ l', overK l off new some = some l' ∧ k l' = some b := by
 rw [overK_eq] at h
 split at h
 ·rename_i hle
  exact ⟨_, by rw [overK_eq, if_pos hle], h⟩
 ·cases h
theorem takeK_some {l : List HVal} {n : Nat} {β : Type} {k : List HVal → Option β} {b : β} (h : takeK l n k = some b) : ∃ m, takeK l n some = some m ∧ k m = some b := by
 rw [takeK_eq] at h
 split at h
 ·rename_i hle
  exact ⟨_, by rw [takeK_eq, if_pos hle], h⟩
 ·cases h
theorem truth_some {b : Bool} (h : truth b B = some (sv, B')) : sv = .ext (.bool b) ∧ B' = B := by
 cases b <;> (cases h; exact ⟨rfl, rfl⟩)
theorem V.cmpQ {bo : BinOp} {t p : Nat} {x y : Operand} {k j : IntKind} {a b : Int} {r : Bool} (ho : o.op = .binOp bo t x y p) (hx : evL P L0 x = some (.int k a)) (hy : evL P L0 y = some (.int j b)) (hk : sameKind k j = true) (hr : cmpB bo a b = some r) : OpV P o L0 h (.bool r) h := OpV.mk ho fun ev ha d ty ps aft g => by
 cases bo <;> simp only [cmpB] at hr <;> try (cases hr; done)
 all_goals cases hr; simp only [opH, evS ha hx, evS ha hy, binC, binH, hk, bcT, intOp, HL.val, obS]
theorem evQ_sound (hX : TK P tab zl) (r : RepL κ L L0) (M : Mem E κ B G h) (he : evQ P tab zl L B o.op = some (sv, B')) : Comp P o L0 h E κ G sv B' := by
 cases ho : o.op
 all_goals rw [ho] at he
 all_goals simp only [evQ] at he
 all_goals try (cases he; done)
 case move x =>
  obtain ⟨v, h1, h2⟩ := ob_eq_some.1 he
  cases h2
  obtain ⟨w, h3, h4⟩ := evX_rep r h1
  exact .same (V.move ho h3) h4 M
 case assign x =>
  obtain ⟨v, h1, h2⟩ := ob_eq_some.1 he
  cases h2
  obtain ⟨w, h3, h4⟩ := evX_rep r h1
  exact .same (V.assign ho h3) h4 M
 case pick c x y =>
  obtain ⟨v, h1, h2⟩ := ob_eq_some.1 he
  have h1' := evH_eq r h1
  cases v <;> simp only at h2 <;> try (cases h2; done)
  rename_i b
  cases b with
  | true =>
   rw [bcT] at h2
   obtain ⟨v, h3, h4⟩ := ob_eq_some.1 h2
   cases h4
   obtain ⟨w, h5, h6⟩ := evX_rep r h3
   exact .same (V.pick_true ho h1' h5) h6 M
  | false =>
   rw [bcF] at h2
   obtain ⟨v, h3, h4⟩ := ob_eq_some.1 h2
   cases h4
   obtain ⟨w, h5, h6⟩ := evX_rep r h3
   exact .same (V.pick_false ho h1' h5) h6 M
 case unOp u t x =>
  cases u <;> simp only at he <;> try (cases he; done)
  obtain ⟨v, h1, h2⟩ := ob_eq_some.1 he
  have h1' := evH_eq r h1
  cases v <;> simp only at h2 <;> try (cases h2; done)
  rename_i b
  cases b with
  | true => rw [bcT] at h2; cases h2; exact .same (V.not_true ho h1') (.ext _) M
  | false => rw [bcF] at h2; cases h2; exact .same (V.not_false ho h1') (.ext _) M
 case nilCheck x =>
  obtain ⟨v, h1, h2⟩ := ob_eq_some.1 he
  obtain ⟨w, h3, h4⟩ := evX_rep r h1
  cases v with
  | ptr i off => cases h2; cases h4 with | ptr hk => exact .same (V.nilCheck ho h3) (.ptr hk) M
  | sl => cases h2
  | ext u =>
   cases h4
   cases w <;> simp only at h2 <;> try (cases h2; done)
   cases h2
   exact .same (V.nilCheck ho h3) (.ext _) M
 case extract x i =>
  obtain ⟨v, h1, h2⟩ := ob_eq_some.1 he
  have h1' := evH_eq r h1
  cases v <;> simp only at h2 <;> try (cases h2; done)
  obtain ⟨v, h3, h4⟩ := ob_eq_some.1 h2
  cases h4
  exact .same (V.extract ho h1' h3) (.ext _) M
 case alloc e =>
  obtain ⟨z, h1, h2⟩ := ob_eq_some.1 he
  exact newQ_comp h2 M (Go.HL.M.alloc ho (hX.zero.look h1)) fun κ' n j hj => .ptr hj
 case box e x =>
  obtain ⟨v, h1, h2⟩ := ob_eq_some.1 he
  obtain ⟨l, h3, h4⟩ := ob_eq_some.1 h2
  exact newQ_comp h4 M (Go.HL.M.box ho (evH_eq r h1) h3) fun κ' n j hj => .ptr hj
 case build t parts =>
  obtain ⟨z, h1, h2⟩ := ob_eq_some.1 he
  obtain ⟨⟨ti, n⟩, h3, h4⟩ := ob_eq_some.1 h2
  cases ti <;> simp only at h4 <;> try (cases h4; done)
  ·obtain ⟨h5, h6⟩ := bcase_false_eq' h4
   obtain ⟨ps, h7, h8⟩ := ob_eq_some.1 h6
   obtain ⟨cs, h9, h10⟩ := ob_eq_some.1 h8
   cases h10
   exact .same (V.build hX.tab ho h3 (hX.zero.look h1) (placesX_eq r h7) h5 h9) (.ext _) M
  ·obtain ⟨⟨te, we⟩, h5, h6⟩ := ob_eq_some.1 h4
   obtain ⟨ps, h7, h8⟩ := ob_eq_some.1 h6
   obtain ⟨cs, h9, h10⟩ := ob_eq_some.1 h8
   cases h10
   exact .same (V.buildA hX.tab ho h3 h5 (hX.zero.look h1) (fillX_eq r h7) h9) (.ext _) M
 case buildSlice t len parts =>
  obtain ⟨⟨ti, n⟩, h1, h2⟩ := ob_eq_some.1 he
  cases ti <;> simp only at h2 <;> try (cases h2; done)
  obtain ⟨⟨te, we⟩, h3, h4⟩ := ob_eq_some.1 h2
  obtain ⟨h5, h6⟩ := bcase_false_eq' h4
  obtain ⟨z, h7, h8⟩ := ob_eq_some.1 h6
  obtain ⟨h9, h10⟩ := bcase_false_eq' h8
  obtain ⟨ps, h11, h12⟩ := ob_eq_some.1 h10
  obtain ⟨cs, h13, h14⟩ := ob_eq_some.1 h12
  exact newQ_comp h14 M (Go.HL.M.buildSlice hX.tab ho h1 h3 h5 (hX.zero.look h7) h9 (fillX_eq r h11) h13) fun κ' n j hj => .sl hj
 case load t x =>
  obtain ⟨v, h1, h2⟩ := ob_eq_some.1 he
  obtain ⟨w, h3, h4⟩ := evX_rep r h1
  cases v <;> simp only at h2 <;> try (cases h2; done)
  obtain ⟨b, h5, h6⟩ := ob_eq_some.1 h2
  obtain ⟨l, h7, h8⟩ := ob_eq_some.1 h6
  obtain ⟨⟨ti, n⟩, h9, h10⟩ := ob_eq_some.1 h8
  cases h4 with
  | ptr hk =>
   obtain ⟨k, o2, g1, g2⟩ := M.row h5 h7
   rw [hk] at g1
   cases g1
   cases hag : ti.agg with
   | true =>
    simp only [hag, bcT] at h10
    obtain ⟨m, h11, h12⟩ := takeK_some h10
    cases h12
    refine .same (V.loadRS hX.tab ho h9 hag h3 (g2.sub h11) ?_) (.ext _) M
    rw [takeK_eq] at h11
    split at h11
    ·rename_i hle
     have := Option.some.inj h11
     rw [nbeq]
     refine decide_eq_true ?_
     rw [← this, List.length_take, Nat.min_eq_left hle]
    ·cases h11
   | false =>
    simp only [hag, bcF] at h10
    obtain ⟨v, h11, h12⟩ := ob_eq_some.1 h10
    cases h12
    exact .same (V.loadR hX.tab ho h9 hag h3 g2 h11) (.ext _) M
 case store t x y =>
  obtain ⟨v, h1, h2⟩ := ob_eq_some.1 he
  obtain ⟨w, h3, h4⟩ := evX_rep r h1
  cases v <;> simp only at h2 <;> try (cases h2; done)
  obtain ⟨b, h5, h6⟩ := ob_eq_some.1 h2
  cases b <;> simp only at h6 <;> try (cases h6; done)
  obtain ⟨u, h7, h8⟩ := ob_eq_some.1 h6
  obtain ⟨new, h9, h10⟩ := ob_eq_some.1 h8
  obtain ⟨⟨ti, n⟩, h11, h12⟩ := ob_eq_some.1 h10
  obtain ⟨h13, h14⟩ := bcase_false_eq' h12
  obtain ⟨l', h15, h16⟩ := overK_some (l' := []) h14
  rw [setBX_eq] at h16
  cases h16
  cases h4 with
  | ptr hk =>
   obtain ⟨k, g1⟩ := M.own _ _ _ _ h5
   rw [hk] at g1
   cases g1
   have hg := M.chg.all _ (List.mem_append_left _ (partsB_mem h5 hk))
   refine ⟨κ, _, _, V.storeP hX.tab ho h11 h3 (evH_eq r h7) h9 h13 hg ?_, .ext _, M.put h5 hk (put_put M.wf _ (M.wf.lt hg)), [], by simp⟩
   simp only [Nat.add_eq, Nat.zero_add]
   exact h15
 case fieldAddr t x f =>
  obtain ⟨⟨ti, n⟩, h1, h2⟩ := ob_eq_some.1 he
  cases ti <;> simp only at h2 <;> try (cases h2; done)
  obtain ⟨q, h3, h4⟩ := ob_eq_some.1 h2
  obtain ⟨⟨tq, nq⟩, h5, h6⟩ := ob_eq_some.1 h4
  obtain ⟨h7, h8⟩ := bcase_true_eq' h6
  obtain ⟨v, h9, h10⟩ := ob_eq_some.1 h8
  obtain ⟨w, h11, h12⟩ := evX_rep r h9
  cases v with
  | sl => cases h10
  | ptr i off =>
   cases h10
   cases h12 with
   | @ptr _ _ k o2 hk =>
    refine .same (V.fieldAddr hX.tab ho h1 h3 h5 h7 h11) ?_ M
    have := Rep.ptr (κ := κ) (off := Nat.add off q.1) hk
    simp only [Nat.add_eq, ← Nat.add_assoc] at this ⊢
    exact this
  | ext u =>
   cases h12
   cases w <;> simp only at h10 <;> try (cases h10; done)
   cases h10
   exact .same (V.fieldAddr hX.tab ho h1 h3 h5 h7 h11) (.ext _) M
 case binOp bo t x y p =>
  obtain ⟨a, h1, h2⟩ := ob_eq_some.1 he
  obtain ⟨b, h3, h4⟩ := ob_eq_some.1 h2
  cases a <;> simp only at h4 <;> try (cases h4; done)
  cases b <;> simp only at h4 <;> try (cases h4; done)
  obtain ⟨h5, h6⟩ := bcase_false_eq' h4
  obtain ⟨c, h7, h8⟩ := ob_eq_some.1 h6
  obtain ⟨rfl, rfl⟩ := truth_some h8
  exact .same (V.cmpQ ho (evH_eq r h1) (evH_eq r h3) h5 h7) (.ext _) M
 case call c =>
  split at he
  ·rename_i b hc
   cases b <;> simp only at he <;> try (cases he; done)
   split at he
   ·rename_i x hx
    obtain ⟨t, h1, h2⟩ := ob_eq_some.1 he
    unfold lenQ at h2
    obtain ⟨⟨ti, n⟩, h3, h4⟩ := ob_eq_some.1 h2
    obtain ⟨v, h5, h6⟩ := ob_eq_some.1 h4
    obtain ⟨w, h7, h8⟩ := evX_rep r h5
    have hx' : c.args = #[x] := by
     rcases c with ⟨_, ⟨l⟩, _⟩
     simp only at hx ⊢
     rw [hx]
    cases ti <;> simp only at h6 <;> try (cases h6; done)
    ·cases v with
     | ptr => cases h6
     | sl i m => cases h6
     | ext u =>
      cases h8
      cases w <;> simp only at h6 <;> try (cases h6; done)
      cases h6
      exact .same (V.lenS hX.tab ho hc hx' h1 h3 h7) (.ext _) M
    ·cases v with
     | ptr => cases h6
     | sl i m => cases h6; cases h8; exact .same (V.len hX.tab ho hc hx' h1 h3 h7 rfl) (.ext _) M
     | ext u =>
      cases h8
      obtain ⟨m, h9, h10⟩ := ob_eq_some.1 h6
      cases h10
      exact .same (V.len hX.tab ho hc hx' h1 h3 h7 h9) (.ext _) M
   ·cases he
  ·cases he
end
end
end Go.HL
