/- Runs of HL with an argument that is not closed: known calls at any memory; an argument as data, laid into the memory. No statement of the seat stands here. -/
import Derived.Test.YtngeipnhbigdmaaGreatDoorSB
import Derived.Deep.Slices
import GoSem.ClaimJoined
set_option linter.unusedVariables false
set_option linter.unusedSimpArgs false
namespace Go.HL
open Go
noncomputable section
section
variable {P : Program}
def eR : ad → Bool
 | .bool _ => true
 | .int _ _ => true
 | .str _ _ => true
 | .fK => true
 | .aD => true
 | .lV => true
 | .mF => true
 | .hZ => true
 | _ => false
theorem kg {σ τ : aj} {x : ad} {v : Value} (hc : eR x = true) (h : aC σ x v) : aC τ x v := by
 cases x <;> first | exact h | (cases hc; done)
theorem qJ {σ τ : aj} : ∀ {l : List ad} {m : List Value}, (∀ x ∈ l, eR x = true) → aq σ l m → aq τ l m
 | [], m, _, h => h
 | x :: l, m, hc, h => by
  obtain ⟨v, m', rfl, hv, h'⟩ := h.cons_inv
  exact aq.cons (kg (hc x (by simp)) hv) (qJ (fun y hy => hc y (by simp [hy])) h')
inductive kl : aE → Prop
 | cells {l : List ad} {e : Nat} {s r : Bool} (h : ∀ x ∈ l, eR x = true) : kl (.cells l e s r)
 | map {es : List cH} {c : Nat} {r : Bool} (h : ∀ x ∈ es, eR x.key = true ∧ eR x.val = true) : kl (.map es c r)
theorem qI {σ τ : aj} : ∀ {l : List cH} {m : List MapEntry}, (∀ x ∈ l, eR x.key = true ∧ eR x.val = true) → cS σ l m → cS τ l m
 | [], m, _, h => h
 | x :: l, m, hc, ⟨y, m', e, he, h'⟩ => ⟨y, m', e, ⟨kg (hc x (by simp)).1 he.1, kg (hc x (by simp)).2 he.2.1, he.2.2⟩, qI (fun z hz => hc z (by simp [hz])) h'⟩
theorem kl.rel {σ τ : aj} {p : Place} {o : aE} {b : Option Obj} (hc : kl o) (h : mn P σ p o b) : mn P τ p o b := by
 cases hc with
 | cells hl => obtain ⟨C, elem, fr, e1, e2, e3⟩ := h; exact ⟨C, elem, fr, e1, qJ hl e2, e3⟩
 | map hl => obtain ⟨es', e1, e2⟩ := h; exact ⟨es', e1, qI hl e2⟩
theorem AR {o : aE} (hc : kl o) : o.live = true := by cases hc <;> rfl
structure rZ (P : Program) (e : qZ) : Prop where
 dB : oA P e
 args : e.args = []
 next : e.next = P.globals.size
 ro : ∀ p ∈ e.ln, p.2.owned = false ∧ kl p.2 ∧ p.1 < P.globals.size
def A6 (P : Program) (σ : aj) : aj := fun k => if k < P.globals.size then σ k else none
theorem BH {e : qZ} (r : rZ P e) {h : Heap} (hs : ∀ p ∈ e.ln, h.get p.1 = some p.2) {σ : aj} {w : World} (hr : Rel P σ h w) : Rel P (A6 P σ) e.lk w := by
 have hmem : ∀ {k o}, e.lk.get k = some o → (k, o) ∈ e.ln := fun {k o} hk => by rw [lj] at hk; exact dL hk
 refine ⟨fun k o p hk hl hp => ?_, fun k hk => ?_, fun k o hk => ?_, fun k p hp => ?_, fun k k' o o' p p' hk _ ho => ?_, fun g hg => ?_⟩
 ·have hm := hmem hk
  obtain ⟨_, h2, h3⟩ := r.ro _ hm
  have h3 : k < P.globals.size := h3
  unfold A6 at hp
  rw [if_pos h3] at hp
  exact h2.rel (hr.obj k o p (hs _ hm) hl hp)
 ·unfold A6
  have hk : e.next ≤ k := hk
  rw [if_neg (by rw [r.next] at hk; omega)]
 ·show k < e.next
  rw [r.next]; exact (r.ro _ (hmem hk)).2.2
 ·unfold A6 at hp
  split at hp
  ·exact hr.o5 k p hp
  ·cases hp
 ·have := (r.ro _ (hmem hk)).1
  rw [show (k, o).2 = o from rfl, ho] at this; cases this
 ·obtain ⟨p, h1, h2⟩ := hr.oz g hg
  exact ⟨p, by unfold A6; rw [if_pos hg]; exact h1, h2⟩
theorem uv {e : qZ} (r : rZ P e) {h : Heap} (hs : ∀ p ∈ e.ln, h.get p.1 = some p.2) {σ : aj} {w : World} (hr : Rel P σ h w) :
  Calls P e.f #[] w fun x w' => ∃ τ h1, Step P (A6 P σ) e.lk w τ h1 w' ∧ r5 τ (.ret e.res) x ∧ (∀ k o, dm e.bJ k = some o → h1.get k = some o) ∧ (∀ b, ¬ JS (A6 P σ) e.lk b) := by
 have hf := r.dB
 have hlt := hf.lt
 obtain ⟨run, hrun, hp0⟩ := hf
 have hp := (bcFe.1 hp0).2
 unfold Gl at hp
 cases he : run e.f e.args e.lk with
 | none => rw [he] at hp; cases hp
 | some rr =>
  obtain ⟨cr, h1⟩ := rr
  rw [he] at hp
  cases cr with
  | bV v => cases hp
  | ret v =>
   simp only [bcFe] at hp
   obtain ⟨e1, e2, e3, e4, e5⟩ := hp
   have hres := gO _ _ e1
   subst hres
   refine ((hrun e.f e.args e.lk _ h1 he (A6 P σ) w [] (BH r hs hr) (by rw [r.args]; exact aq.nil)).1 hlt).mono fun x w' ⟨τ, st, hc⟩ => ⟨τ, h1, st, hc, fun k o hk => kQ e3 (dL hk), ?_⟩
   rintro b ⟨k, o, p, hk, ho, _⟩
   rw [lj] at hk
   have := (r.ro _ (dL hk)).1
   rw [show (k, o).2 = o from rfl, ho] at this; cases this
theorem wm {e : qZ} (r : rZ P e) (hc : eR e.res = true) {h : Heap} (hs : ∀ p ∈ e.ln, h.get p.1 = some p.2) {σ : aj} {w : World} (hr : Rel P σ h w) :
  Calls P e.f #[] w fun x w' => Step P σ h w σ h w' ∧ r5 σ (.ret e.res) x := by
 refine (uv r hs hr).mono fun x w' ⟨τ, h1, st, hcr, _, hno⟩ => ?_
 have hk : ∀ b, b < w.heap.size → w'.heap[b]? = w.heap[b]? := fun b hb => st.kept.block b hb (hno b)
 refine ⟨⟨σ.le_refl, ⟨fun k o p hk' hl hp => by rw [hk p.bM (hr.o5 k p hp)]; exact hr.obj k o p hk' hl hp, hr.fresh, hr.vy, fun k p hp => Nat.lt_of_lt_of_le (hr.o5 k p hp) st.kept.size, hr.inj, hr.oz⟩,
  ⟨st.kept.os, st.kept.tape, st.kept.output, st.kept.size, fun b hb _ => hk b hb⟩, fun _ _ e => e, Nat.le_refl _, fun _ _ => rfl, fun _ _ _ => rfl⟩, ?_⟩
 obtain ⟨v, hv, hx⟩ := hcr
 exact ⟨v, hv, kg hc hx⟩
theorem uw {e : qZ} (r : rZ P e) {k0 : Nat} {ob : aE} (hres : e.res = .map k0) (hob : dm e.bJ k0 = some ob) (hcl : kl ob) (how : ob.owned = true) {h : Heap} (hs : ∀ p ∈ e.ln, h.get p.1 = some p.2) {σ : aj} {w : World} (hr : Rel P σ h w) :
  Calls P e.f #[] w fun x w' => ∃ σ', Step P σ h w σ' (h.new ob) w' ∧ r5 σ' (.ret (.map h.next)) x := by
 refine (uv r hs hr).mono fun x w' ⟨τ, h1, st, hcr, bJ, hno⟩ => ?_
 have hk : ∀ b, b < w.heap.size → w'.heap[b]? = w.heap[b]? := fun b hb => st.kept.block b hb (hno b)
 rw [hres] at hcr
 obtain ⟨v, hv, p, hp, hvp⟩ := hcr
 have hlive := AR hcl
 have hor : mn P τ p ob w'.heap[p.bM]? := st.rel.obj k0 ob p (bJ k0 ob hob) hlive hp
 have hge : w.heap.size ≤ p.bM := by
  apply Nat.le_of_not_lt
  intro hlt
  exact hno _ (st.own p.bM hlt ⟨k0, ob, p, bJ k0 ob hob, how, hp, rfl⟩)
 have hn : σ h.next = none := hr.fresh h.next (Nat.le_refl _)
 let σ' : aj := fun k => if k = h.next then some p else σ k
 have hσn : σ' h.next = some p := if_pos rfl
 have hσo : ∀ k, k ≠ h.next → σ' k = σ k := fun k hk => if_neg hk
 have hle : σ.le σ' := fun k q hq => by
  have : k ≠ h.next := by rintro rfl; rw [hn] at hq; cases hq
  rw [hσo k this]; exact hq
 have hgn : (h.new ob).get h.next = some ob := by simp
 have hgo : ∀ k, k ≠ h.next → (h.new ob).get k = h.get k := fun k hk => by simp [hk]
 refine ⟨σ', ⟨hle, ⟨?_, ?_, ?_, ?_, ?_, ?_⟩, ⟨st.kept.os, st.kept.tape, st.kept.output, st.kept.size, fun b hb _ => hk b hb⟩, ?_, Nat.le_succ _, fun k hk => hσo k (by omega), fun k hk _ => hgo k (by omega)⟩, v, hv, p, hσn, hvp⟩
 ·intro k o q hk' hl hq
  by_cases hkn : k = h.next
  ·subst hkn
   rw [hgn] at hk'; rw [hσn] at hq
   cases hk'; cases hq
   exact hcl.rel hor
  ·rw [hgo k hkn] at hk'; rw [hσo k hkn] at hq
   rw [hk q.bM (hr.o5 k q hq)]
   exact (hr.obj k o q hk' hl hq).mono hle
 ·intro k hk'
  have hk' : h.next + 1 ≤ k := hk'
  rw [hσo k (by omega)]; exact hr.fresh k (by omega)
 ·intro k o hk'
  show k < h.next + 1
  by_cases hkn : k = h.next
  ·omega
  ·rw [hgo k hkn] at hk'; have := hr.vy k o hk'; omega
 ·intro k q hq
  by_cases hkn : k = h.next
  ·subst hkn; rw [hσn] at hq; cases hq; exact st.rel.o5 k0 p hp
  ·rw [hσo k hkn] at hq; exact Nat.lt_of_lt_of_le (hr.o5 k q hq) st.kept.size
 ·intro k k' o o' q q' h1' h2' ho hl hne hq hq'
  by_cases hkn : k = h.next
  ·subst hkn
   rw [hσn] at hq; cases hq
   have hkn' : k' ≠ h.next := fun e => hne e.symm
   rw [hσo k' hkn'] at hq'
   have := hr.o5 k' q' hq'
   omega
  ·rw [hσo k hkn] at hq
   by_cases hkn' : k' = h.next
   ·subst hkn'
    rw [hσn] at hq'; cases hq'
    have := hr.o5 k q hq
    omega
   ·rw [hσo k' hkn'] at hq'; rw [hgo k hkn] at h1'; rw [hgo k' hkn'] at h2'
    exact hr.inj k k' o o' q q' h1' h2' ho hl hne hq hq'
 ·intro g hg
  obtain ⟨q, h1', h2'⟩ := hr.oz g hg
  exact ⟨q, hle _ _ h1', h2'⟩
 ·rintro b hb ⟨k, o, q, hk', ho, hq, hqb⟩
  by_cases hkn : k = h.next
  ·subst hkn; rw [hσn] at hq; cases hq; omega
  ·rw [hgo k hkn] at hk'; rw [hσo k hkn] at hq
   exact ⟨k, o, q, hk', ho, hq, hqb⟩
theorem s7.calls {K : ai} (hk : aW P K) {f : Nat} {args : List ad} {h h' : Heap} {v : ad} (d : s7 P K f args h v h') (hf : f < b7) {σ : aj} {w : World} {vs : List Value} (hr : Rel P σ h w) (hv : aq σ args vs) :
  Calls P f ⟨vs⟩ w fun x w' => ∃ τ, Step P σ h w τ h' w' ∧ r5 τ (.ret v) x := by
 obtain ⟨n, g⟩ := d
 exact (iR hk (x3 hk n) f args h _ h' (g n (Nat.le_refl _)) σ w vs hr hv).1 hf
end
end
end Go.HL
namespace Go.HL
open Go Go.Deep
noncomputable section
section
variable {P : Program} {W : World}
structure LS (P : Program) (W : World) (σ : aj) (h : Heap) : Prop where
 rel : Rel P σ h W
 wf : Wf h
 ro : ∀ k o, h.get k = some o → o.owned = false
def L6 (P : Program) (W : World) {α : Type} (cells : α → List ad) (Ok : Heap → α → Prop) (cs : List Value) : Prop :=
 ∀ σ h, LS P W σ h → ∃ σ' h' a, LS P W σ' h' ∧ σ.le σ' ∧ Grow h h' ∧ aq σ' (cells a) cs ∧ (∀ x ∈ cells a, x.scalar = true) ∧ Ok h' a
theorem L6.here {α : Type} {cells : α → List ad} {Ok : Heap → α → Prop} {cs : List Value} (a : α) (hv : ∀ σ, aq σ (cells a) cs) (hs : ∀ x ∈ cells a, x.scalar = true) (hok : ∀ h, Ok h a) : L6 P W cells Ok cs :=
 fun σ h s => ⟨σ, h, a, s, σ.le_refl, Grow.refl h, hv σ, hs, hok h⟩
/-! ## Slices -/
def Sz {H : Type} (P : Program) (t : Nat) (d : DataW H) : Prop := ∀ n ∈ DataW.weights P t d, n ≤ reachBytes
theorem mr {H : Type} : ∀ {ts : List Nat} {l : List (DataW H)} {i : Nat} {t : Nat} {d : DataW H} {n : Nat}, ts[i]? = some t → l[i]? = some d → n ∈ DataW.weights P t d → n ∈ DataW.weightsEach P ts l
 | t :: ts, d :: l, 0, _, _, n, ht, hd, hn => by
  simp only [List.getElem?_cons_zero, Option.some.injEq] at ht hd
  subst ht hd
  rw [DataW.weightsEach, List.mem_append]
  exact .inl hn
 | t :: ts, d :: l, i + 1, _, _, n, ht, hd, hn => by
  rw [DataW.weightsEach, List.mem_append]
  exact .inr (mr (by simpa using ht) (by simpa using hd) hn)
 | [], _, _, _, _, _, ht, _, _ => by simp at ht
 | _ :: _, [], _, _, _, _, _, hd, _ => by simp at hd
end
end
end Go.HL
namespace Go.HL
open Go
noncomputable section
theorem tN (n : Int) : dj .u8 n = n % 256 := by
 rw [fg]
 simp [IntKind.wrap, IntKind.bits, IntKind.signed]
section
variable {P : Program} {K : ai} {ops : Array Oper} {o : Oper} {L : c6} {h h' : Heap} {m n : Nat} {R : c6 → Heap → Prop} {ax : iF} {v : ad}
theorem V.bin {op : BinOp} {t p : Nat} {x y : Operand} {k j : IntKind} {a b : Int} (ho : o.op = .binOp op t x y p) (hx : eI P L x = some (.int k a)) (hy : eI P L y = some (.int j b)) (hr : eH P op t (.int k a) (.int j b) = some v) : cD P o L h v h := cD.mk ho fun ev ha d ty ps aft g => by
 simp only [bO, evS ha hx, evS ha hy, jK, hr, HL.val, obS]
theorem V.M3 {s t n m : Nat} {x : Operand} {k j k' : IntKind} {a b : Int} (hT : bH P ax = true) (ho : o.op = .convert s t x) (hs : bN ax s = some (.int k, n)) (ht : bN ax t = some (.int k', m)) (hx : eI P L x = some (.int j a)) (hr : dj k' a = b) : cD P o L h (.int k' b) h := cD.mk ho fun ev ha d ty ps aft g => by
 have e1 := tv hT hs
 have e2 := tv hT ht
 have e3 : cN P s t = none := by simp only [cN, e1]
 simp only [bO, e3, k9, e1, e2, evS ha hx, ad.isInt, obS, hr]
end
theorem Jh {P : Program} {t : Nat} {k : IntKind} {a b : Int} : eH P .mul t (.int k a) (.int k b) = some (.int k (dj k (a * b))) := by
 cases k <;> rfl
theorem Ji {P : Program} {t : Nat} {k : IntKind} {a b : Int} : eH P .add t (.int k a) (.int k b) = some (.int k (dj k (a + b))) := by
 cases k <;> rfl
theorem Je {P : Program} {t : Nat} {k : IntKind} {a b : Int} : eH P .sub t (.int k a) (.int k b) = some (.int k (dj k (a - b))) := by
 cases k <;> rfl
theorem Jf {P : Program} {t : Nat} {k : IntKind} {a b : Nat} (hb : b ≠ 0) : eH P .rem t (.int k (a : Int)) (.int k (b : Int)) = some (.int k ((a % b : Nat) : Int)) := by
 have h : sH (b : Int) (.ofNat 0) = false := by
  cases b with
  | zero => exact absurd rfl hb
  | succ b => rfl
 have e : eH P .rem t (.int k (a : Int)) (.int k (b : Int)) = ae (sH (b : Int) (.ofNat 0)) none (some (.int k (Int.tmod a b))) := by cases k <;> rfl
 rw [e, h, bcF]
 rfl
theorem Jg {P : Program} {t : Nat} {k : IntKind} {a b : Nat} (hb : b ≠ 0) : eH P .quo t (.int k (a : Int)) (.int k (b : Int)) = some (.int k (dj k ((a / b : Nat) : Int))) := by
 have h : sH (b : Int) (.ofNat 0) = false := by
  cases b with
  | zero => exact absurd rfl hb
  | succ b => rfl
 have e : eH P .quo t (.int k (a : Int)) (.int k (b : Int)) = ae (sH (b : Int) (.ofNat 0)) none (some (.int k (dj k (Int.tdiv a b)))) := by cases k <;> rfl
 rw [e, h, bcF]
 rfl
end
end Go.HL
namespace Go.HL
open Go
noncomputable section
inductive w7 (h : Heap) : ad → Prop
 | aD : w7 h .aD
 | empty : w7 h .empty
 | slice (k off c : Nat) (l : List ad) (s r : Bool) (hg : h.get k = some (.cells l 0 s r)) : w7 h (.slice k off c none)
section
variable {P : Program} {K : ai} {ops : Array Oper} {o : Oper} {L : c6} {h h' : Heap} {m n : Nat} {R : c6 → Heap → Prop} {ax : iF}
end
end
end Go.HL
namespace Go.HL
open Go
noncomputable section
def byteCells (l : List Nat) : List ad := l.map fun b => .int .u8 (.ofNat b)
def aO (l : List Nat) (a : Nat) : Nat := l.foldl (fun a b => a * 256 + b) a
theorem iD : ∀ {l : List Nat} (a : Nat), (∀ x ∈ l, x < 256) → dq (byteCells l) a = some (aO l a)
 | [], a, _ => rfl
 | b :: l, a, h => by
  have hb : Nat.blt b 256 = true := by rw [fe]; exact decide_eq_true (h b (by simp))
  show ae (Nat.blt b 256) (dq (byteCells l) (Nat.add (Nat.mul a 256) b)) none = _
  rw [hb, bcT, iD _ fun x hx => h x (by simp [hx])]
  rfl
theorem xk {h : Heap} {e w c : Nat} {v : ad} {l : List ad} {d : Option Nat} (a : App h e w v c l d) {k off n : Nat} {cap : Option Nat} (hv : v = .slice k off n cap) : dZ h k off (n * w) = some l := by
 cases a with
 | aD => cases hv
 | @full _ _ _ _ L _ _ _ hg hl hd =>
  cases hv
  have h1 := congrArg List.length hd
  rw [List.length_take] at h1
  unfold dZ
  rw [bR hg, obS]
  show eV (jz _ _) _ some = _
  have h2 : c * w ≤ (List.drop off L).length := Nat.le_trans (by omega) (Nat.min_le_right (c * w) _)
  rw [cZ, br, if_pos h2, hd]
 | own hg hl hd =>
  cases hv
  have h1 := congrArg List.length hd
  rw [List.length_drop] at h1
  unfold dZ
  rw [bR hg, obS]
  show eV (jz _ _) _ some = _
  rw [cZ, br, hd, if_pos (by omega), List.take_of_length_le (by omega)]
 | rest hg => cases hv
variable {P : Program} {o : Oper} {L : c6} {h : Heap} {ax : iF}
theorem V.strOf {s t e n m q : Nat} {x : Operand} {v : ad} {bs : List Nat} {c : Nat} {d : Option Nat} {e' : Nat} (hT : bH P ax = true) (ho : o.op = .convert s t x) (hs : bN ax s = some (.slice e, n)) (he : bN ax e = some (.int .u8, q)) (ht : bN ax t = some (.str, m)) (hx : eI P L x = some v)
  (hn : ∀ k, v ≠ .rest k) {l : List ad} (ha : App h e' 1 v c l d) (hl : l = byteCells bs) (hb : ∀ b ∈ bs, b < 256) : cD P o L h (.str bs.length (aO bs 0)) h := cD.mk ho fun ev hag dd ty ps aft g => by
 have e1 := (c7 hT hs).1
 have e2 := tv hT he
 have e3 := lD hT ht
 have e4 : cN P s t = none := by simp only [cN, e1]
 have hlen : bs.length = c := by have := ha.length; rw [hl] at this; simpa [byteCells] using this
 have hv : v = .aD ∨ ∃ k off cap, v = .slice k off c cap := by
  cases ha with
  | aD => exact .inl rfl
  | full _ _ _ => exact .inr ⟨_, _, _, rfl⟩
  | own _ _ _ => exact .inr ⟨_, _, _, rfl⟩
  | rest _ => exact absurd rfl (hn _)
 rcases hv with rfl | ⟨k, off, cap, rfl⟩
 ·have hz : bs = [] := by
   cases ha with
   | aD => simpa [byteCells] using hl.symm
  subst hz
  simp only [bO, e4, k9, e1, e2, e3, evS hag hx]
  rfl
 ·have h2 := xk ha rfl
  rw [Nat.mul_one, hl] at h2
  simp only [bO, e4, k9, e1, e2, e3, evS hag hx, h2, obS, iD 0 hb, hlen]
end
end Go.HL
namespace Go.HL
open Go
noncomputable section
variable {P : Program} {K : ai} {ops : Array Oper} {o : Oper} {L : c6} {h h' : Heap} {m n : Nat} {R : c6 → Heap → Prop} {ax : iF}
end
end Go.HL
namespace Go.HL
open Go
noncomputable section
end
end Go.HL
namespace Go.HL
open Go
noncomputable section
theorem wb {n : Nat} (h : n < 9223372036854775808) : dj .i64 (n : Int) = (n : Int) := wI (by omega) (by omega)
variable {P : Program} {K : ai} {ops : Array Oper} {o : Oper} {L : c6} {h h' : Heap} {m n : Nat} {R : c6 → Heap → Prop} {ax : iF}
theorem V.nilCheck {x : Operand} {k off : Nat} (ho : o.op = .nilCheck x) (hx : eI P L x = some (.ptr k off)) : cD P o L h (.ptr k off) h := cD.mk ho fun ev ha d ty ps aft g => by
 simp only [bO, evS ha hx]
end
end Go.HL
