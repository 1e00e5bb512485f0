/- Runs of HL with an argument that is not closed: known calls at any memory; an argument as data, laid into the memory. No statement of the seat stands here. -/
import Derived.Test.YtngeipnhbigdmaaGreatDoorSB
import Derived.Deep.Slices
import GoSem.ClaimJoined
set_option linter.unusedVariables false
set_option linter.unusedSimpArgs false
namespace Go.HL
open Go
noncomputable section
section
variable {P : Program}
def fo : aa → Bool
 | .bool _ => true
 | .int _ _ => true
 | .str _ _ => true
 | .gi => true
 | .aC => true
 | .mG => true
 | .nj => true
 | .iD => true
 | _ => false
theorem kN {σ τ : aj} {x : aa} {v : Value} (hc : fo x = true) (h : aA σ x v) : aA τ x v := by
 cases x <;> first | exact h | (cases hc; done)
theorem rN {σ τ : aj} : ∀ {l : List aa} {m : List Value}, (∀ x ∈ l, fo x = true) → ao σ l m → ao τ l m
 | [], m, _, h => h
 | x :: l, m, hc, h => by
  obtain ⟨v, m', rfl, hv, h'⟩ := h.cons_inv
  exact ao.cons (kN (hc x (by simp)) hv) (rN (fun y hy => hc y (by simp [hy])) h')
inductive kU : aG → Prop
 | cells {l : List aa} {e : Nat} {s r : Bool} (h : ∀ x ∈ l, fo x = true) : kU (.cells l e s r)
 | map {es : List cS} {c : Nat} {r : Bool} (h : ∀ x ∈ es, fo x.key = true ∧ fo x.val = true) : kU (.map es c r)
theorem rM {σ τ : aj} : ∀ {l : List cS} {m : List MapEntry}, (∀ x ∈ l, fo x.key = true ∧ fo x.val = true) → di σ l m → di τ l m
 | [], m, _, h => h
 | x :: l, m, hc, ⟨y, m', e, he, h'⟩ => ⟨y, m', e, ⟨kN (hc x (by simp)).1 he.1, kN (hc x (by simp)).2 he.2.1, he.2.2⟩, rM (fun z hz => hc z (by simp [hz])) h'⟩
theorem kU.rel {σ τ : aj} {p : Place} {o : aG} {b : Option Obj} (hc : kU o) (h : lu P σ p o b) : lu P τ p o b := by
 cases hc with
 | cells hl => obtain ⟨C, elem, fr, e1, e2, e3⟩ := h; exact ⟨C, elem, fr, e1, rN hl e2, e3⟩
 | map hl => obtain ⟨es', e1, e2⟩ := h; exact ⟨es', e1, rM hl e2⟩
theorem Cl {o : aG} (hc : kU o) : o.live = true := by cases hc <;> rfl
structure tC (P : Program) (e : sh) : Prop where
 gJ : pz P e
 args : e.args = []
 next : e.next = P.globals.size
 ro : ∀ p ∈ e.nk, p.2.owned = false ∧ kU p.2 ∧ p.1 < P.globals.size
def By (P : Program) (σ : aj) : aj := fun k => if k < P.globals.size then σ k else none
theorem Dd {e : sh} (r : tC P e) {h : Heap} (hs : ∀ p ∈ e.nk, h.get p.1 = some p.2) {σ : aj} {w : World} (hr : Rel P σ h w) : Rel P (By P σ) e.lU w := by
 have hmem : ∀ {k o}, e.lU.get k = some o → (k, o) ∈ e.nk := fun {k o} hk => by rw [lT] at hk; exact dV hk
 refine ⟨fun k o p hk hl hp => ?_, fun k hk => ?_, fun k o hk => ?_, fun k p hp => ?_, fun k k' o o' p p' hk _ ho => ?_, fun g hg => ?_⟩
 ·have hm := hmem hk
  obtain ⟨_, h2, h3⟩ := r.ro _ hm
  have h3 : k < P.globals.size := h3
  unfold By at hp
  rw [if_pos h3] at hp
  exact h2.rel (hr.obj k o p (hs _ hm) hl hp)
 ·unfold By
  have hk : e.next ≤ k := hk
  rw [if_neg (by rw [r.next] at hk; omega)]
 ·show k < e.next
  rw [r.next]; exact (r.ro _ (hmem hk)).2.2
 ·unfold By at hp
  split at hp
  ·exact hr.o7 k p hp
  ·cases hp
 ·have := (r.ro _ (hmem hk)).1
  rw [show (k, o).2 = o from rfl, ho] at this; cases this
 ·obtain ⟨p, h1, h2⟩ := hr.od g hg
  exact ⟨p, by unfold By; rw [if_pos hg]; exact h1, h2⟩
theorem vQ {e : sh} (r : tC P e) {h : Heap} (hs : ∀ p ∈ e.nk, h.get p.1 = some p.2) {σ : aj} {w : World} (hr : Rel P σ h w) :
  Calls P e.f #[] w fun x w' => ∃ τ h1, Step P (By P σ) e.lU w τ h1 w' ∧ si τ (.ret e.res) x ∧ (∀ k o, dy e.bO k = some o → h1.get k = some o) ∧ (∀ b, ¬ My (By P σ) e.lU b) := by
 have hf := r.gJ
 have hlt := hf.lt
 obtain ⟨run, hrun, hp0⟩ := hf
 have hp := (bcFe.1 hp0).2
 unfold Ix at hp
 cases he : run e.f e.args e.lU with
 | none => rw [he] at hp; cases hp
 | some rr =>
  obtain ⟨cr, h1⟩ := rr
  rw [he] at hp
  cases cr with
  | c8 v => cases hp
  | ret v =>
   simp only [bcFe] at hp
   obtain ⟨e1, e2, e3, e4, e5⟩ := hp
   have hres := ig _ _ e1
   subst hres
   refine ((hrun e.f e.args e.lU _ h1 he (By P σ) w [] (Dd r hs hr) (by rw [r.args]; exact ao.nil)).1 hlt).mono fun x w' ⟨τ, st, hc⟩ => ⟨τ, h1, st, hc, fun k o hk => lF e3 (dV hk), ?_⟩
   rintro b ⟨k, o, p, hk, ho, _⟩
   rw [lT] at hk
   have := (r.ro _ (dV hk)).1
   rw [show (k, o).2 = o from rfl, ho] at this; cases this
theorem xM {e : sh} (r : tC P e) (hc : fo e.res = true) {h : Heap} (hs : ∀ p ∈ e.nk, h.get p.1 = some p.2) {σ : aj} {w : World} (hr : Rel P σ h w) :
  Calls P e.f #[] w fun x w' => Step P σ h w σ h w' ∧ si σ (.ret e.res) x := by
 refine (vQ r hs hr).mono fun x w' ⟨τ, h1, st, hcr, _, hno⟩ => ?_
 have hk : ∀ b, b < w.heap.size → w'.heap[b]? = w.heap[b]? := fun b hb => st.kept.block b hb (hno b)
 refine ⟨⟨σ.le_refl, ⟨fun k o p hk' hl hp => by rw [hk p.bN (hr.o7 k p hp)]; exact hr.obj k o p hk' hl hp, hr.fresh, hr.uZ, fun k p hp => Nat.lt_of_lt_of_le (hr.o7 k p hp) st.kept.size, hr.inj, hr.od⟩,
  ⟨st.kept.os, st.kept.tape, st.kept.output, st.kept.size, fun b hb _ => hk b hb⟩, fun _ _ e => e, Nat.le_refl _, fun _ _ => rfl, fun _ _ _ => rfl⟩, ?_⟩
 obtain ⟨v, hv, hx⟩ := hcr
 exact ⟨v, hv, kN hc hx⟩
theorem vR {e : sh} (r : tC P e) {k0 : Nat} {ob : aG} (hres : e.res = .map k0) (hob : dy e.bO k0 = some ob) (hcl : kU ob) (how : ob.owned = true) {h : Heap} (hs : ∀ p ∈ e.nk, h.get p.1 = some p.2) {σ : aj} {w : World} (hr : Rel P σ h w) :
  Calls P e.f #[] w fun x w' => ∃ σ', Step P σ h w σ' (h.new ob) w' ∧ si σ' (.ret (.map h.next)) x := by
 refine (vQ r hs hr).mono fun x w' ⟨τ, h1, st, hcr, bO, hno⟩ => ?_
 have hk : ∀ b, b < w.heap.size → w'.heap[b]? = w.heap[b]? := fun b hb => st.kept.block b hb (hno b)
 rw [hres] at hcr
 obtain ⟨v, hv, p, hp, hvp⟩ := hcr
 have hlive := Cl hcl
 have hor : lu P τ p ob w'.heap[p.bN]? := st.rel.obj k0 ob p (bO k0 ob hob) hlive hp
 have hge : w.heap.size ≤ p.bN := by
  apply Nat.le_of_not_lt
  intro hlt
  exact hno _ (st.own p.bN hlt ⟨k0, ob, p, bO k0 ob hob, how, hp, rfl⟩)
 have hn : σ h.next = none := hr.fresh h.next (Nat.le_refl _)
 let σ' : aj := fun k => if k = h.next then some p else σ k
 have hσn : σ' h.next = some p := if_pos rfl
 have hσo : ∀ k, k ≠ h.next → σ' k = σ k := fun k hk => if_neg hk
 have hle : σ.le σ' := fun k q hq => by
  have : k ≠ h.next := by rintro rfl; rw [hn] at hq; cases hq
  rw [hσo k this]; exact hq
 have hgn : (h.new ob).get h.next = some ob := by simp
 have hgo : ∀ k, k ≠ h.next → (h.new ob).get k = h.get k := fun k hk => by simp [hk]
 refine ⟨σ', ⟨hle, ⟨?_, ?_, ?_, ?_, ?_, ?_⟩, ⟨st.kept.os, st.kept.tape, st.kept.output, st.kept.size, fun b hb _ => hk b hb⟩, ?_, Nat.le_succ _, fun k hk => hσo k (by omega), fun k hk _ => hgo k (by omega)⟩, v, hv, p, hσn, hvp⟩
 ·intro k o q hk' hl hq
  by_cases hkn : k = h.next
  ·subst hkn
   rw [hgn] at hk'; rw [hσn] at hq
   cases hk'; cases hq
   exact hcl.rel hor
  ·rw [hgo k hkn] at hk'; rw [hσo k hkn] at hq
   rw [hk q.bN (hr.o7 k q hq)]
   exact (hr.obj k o q hk' hl hq).mono hle
 ·intro k hk'
  have hk' : h.next + 1 ≤ k := hk'
  rw [hσo k (by omega)]; exact hr.fresh k (by omega)
 ·intro k o hk'
  show k < h.next + 1
  by_cases hkn : k = h.next
  ·omega
  ·rw [hgo k hkn] at hk'; have := hr.uZ k o hk'; omega
 ·intro k q hq
  by_cases hkn : k = h.next
  ·subst hkn; rw [hσn] at hq; cases hq; exact st.rel.o7 k0 p hp
  ·rw [hσo k hkn] at hq; exact Nat.lt_of_lt_of_le (hr.o7 k q hq) st.kept.size
 ·intro k k' o o' q q' h1' h2' ho hl hne hq hq'
  by_cases hkn : k = h.next
  ·subst hkn
   rw [hσn] at hq; cases hq
   have hkn' : k' ≠ h.next := fun e => hne e.symm
   rw [hσo k' hkn'] at hq'
   have := hr.o7 k' q' hq'
   omega
  ·rw [hσo k hkn] at hq
   by_cases hkn' : k' = h.next
   ·subst hkn'
    rw [hσn] at hq'; cases hq'
    have := hr.o7 k q hq
    omega
   ·rw [hσo k' hkn'] at hq'; rw [hgo k hkn] at h1'; rw [hgo k' hkn'] at h2'
    exact hr.inj k k' o o' q q' h1' h2' ho hl hne hq hq'
 ·intro g hg
  obtain ⟨q, h1', h2'⟩ := hr.od g hg
  exact ⟨q, hle _ _ h1', h2'⟩
 ·rintro b hb ⟨k, o, q, hk', ho, hq, hqb⟩
  by_cases hkn : k = h.next
  ·subst hkn; rw [hσn] at hq; cases hq; omega
  ·rw [hgo k hkn] at hk'; rw [hσo k hkn] at hq
   exact ⟨k, o, q, hk', ho, hq, hqb⟩
theorem tF.calls {K : ah} (hk : aX P K) {f : Nat} {args : List aa} {h h' : Heap} {v : aa} (d : tF P K f args h v h') (hf : f < bd) {σ : aj} {w : World} {vs : List Value} (hr : Rel P σ h w) (hv : ao σ args vs) :
  Calls P f ⟨vs⟩ w fun x w' => ∃ τ, Step P σ h w τ h' w' ∧ si τ (.ret v) x := by
 obtain ⟨n, g⟩ := d
 exact (jl hk (yu hk n) f args h _ h' (g n (Nat.le_refl _)) σ w vs hr hv).1 hf
end
end
end Go.HL
namespace Go.HL
open Go Go.Deep
noncomputable section
section
variable {P : Program} {W : World}
structure LS (P : Program) (W : World) (σ : aj) (h : Heap) : Prop where
 rel : Rel P σ h W
 wf : Wf h
 ro : ∀ k o, h.get k = some o → o.owned = false
theorem LS.new {σ : aj} {h : Heap} (s : LS P W σ h) {p : Place} {o : aG} (ho : lu P σ p o W.heap[p.bN]?) (hro : o.owned = false) (hlt : p.bN < W.heap.size) :
  ∃ σ', LS P W σ' (h.new o) ∧ σ.le σ' ∧ Grow h (h.new o) ∧ σ' h.next = some p := by
 have hr := s.rel
 have hn : σ h.next = none := hr.fresh h.next (Nat.le_refl _)
 let σ' : aj := fun k => if k = h.next then some p else σ k
 have hσn : σ' h.next = some p := if_pos rfl
 have hσo : ∀ k, k ≠ h.next → σ' k = σ k := fun k hk => if_neg hk
 have hle : σ.le σ' := fun k q hq => by
  have : k ≠ h.next := by rintro rfl; rw [hn] at hq; cases hq
  rw [hσo k this]; exact hq
 have hgn : (h.new o).get h.next = some o := by simp
 have hgo : ∀ k, k ≠ h.next → (h.new o).get k = h.get k := fun k hk => by simp [hk]
 have mk := jL s.wf o
 have hro' : ∀ k o', (h.new o).get k = some o' → o'.owned = false := by
  intro k o' hk
  by_cases hkn : k = h.next
  ·subst hkn; rw [hgn] at hk; cases hk; exact hro
  ·rw [hgo k hkn] at hk; exact s.ro k o' hk
 refine ⟨σ', ⟨⟨?_, ?_, ?_, ?_, ?_, ?_⟩, mk.wf, hro'⟩, hle, mk.ext, hσn⟩
 ·intro k o' q hk hl hq
  by_cases hkn : k = h.next
  ·subst hkn
   rw [hgn] at hk; rw [hσn] at hq
   cases hk; cases hq
   exact ho.mono hle
  ·rw [hgo k hkn] at hk; rw [hσo k hkn] at hq
   exact (hr.obj k o' q hk hl hq).mono hle
 ·intro k hk
  have hk : h.next + 1 ≤ k := hk
  rw [hσo k (by omega)]; exact hr.fresh k (by omega)
 ·intro k o' hk
  show k < h.next + 1
  by_cases hkn : k = h.next
  ·omega
  ·rw [hgo k hkn] at hk; have := hr.uZ k o' hk; omega
 ·intro k q hq
  by_cases hkn : k = h.next
  ·subst hkn; rw [hσn] at hq; cases hq; exact hlt
  ·rw [hσo k hkn] at hq; exact hr.o7 k q hq
 ·intro k k' o1 o2 q q' h1 _ hown
  rw [hro' k o1 h1] at hown; cases hown
 ·intro g hg
  obtain ⟨q, h1, h2⟩ := hr.od g hg
  exact ⟨q, hle _ _ h1, h2⟩
def eb (P : Program) (W : World) {α : Type} (cells : α → List aa) (Ok : Heap → α → Prop) (cs : List Value) : Prop :=
 ∀ σ h, LS P W σ h → ∃ σ' h' a, LS P W σ' h' ∧ σ.le σ' ∧ Grow h h' ∧ ao σ' (cells a) cs ∧ (∀ x ∈ cells a, x.scalar = true) ∧ Ok h' a
def CH {α : Type} (Ok : Heap → α → Prop) : Prop := ∀ h h' a, Grow h h' → Ok h a → Ok h' a
theorem eb.here {α : Type} {cells : α → List aa} {Ok : Heap → α → Prop} {cs : List Value} (a : α) (hv : ∀ σ, ao σ (cells a) cs) (hs : ∀ x ∈ cells a, x.scalar = true) (hok : ∀ h, Ok h a) : eb P W cells Ok cs :=
 fun σ h s => ⟨σ, h, a, s, σ.le_refl, Grow.refl h, hv σ, hs, hok h⟩
theorem eb.conv {α β : Type} {cells : α → List aa} {Ok : Heap → α → Prop} {cells' : β → List aa} {Ok' : Heap → β → Prop} {cs : List Value} (l : eb P W cells Ok cs) (g : α → β) (hc : ∀ a, cells' (g a) = cells a) (ho : ∀ h a, Ok h a → Ok' h (g a)) : eb P W cells' Ok' cs := by
 intro σ h s
 obtain ⟨σ', h', a, s', hle, hg, hv, hs, hok⟩ := l σ h s
 exact ⟨σ', h', g a, s', hle, hg, by rw [hc]; exact hv, by rw [hc]; exact hs, ho _ _ hok⟩
theorem eb.pair {α β : Type} {ca : α → List aa} {Oa : Heap → α → Prop} {cb : β → List aa} {Ob : Heap → β → Prop} {cs ds : List Value} (ha : CH Oa) (l : eb P W ca Oa cs) (m : eb P W cb Ob ds) :
  eb P W (fun p : α × β => ca p.1 ++ cb p.2) (fun h p => Oa h p.1 ∧ Ob h p.2) (cs ++ ds) := by
 intro σ h s
 obtain ⟨σ1, h1, a, s1, hle1, hg1, hv1, hs1, hok1⟩ := l σ h s
 obtain ⟨σ2, h2, b, s2, hle2, hg2, hv2, hs2, hok2⟩ := m σ1 h1 s1
 refine ⟨σ2, h2, (a, b), s2, aj.le_trans hle1 hle2, hg1.trans hg2, ao.append (ao.mono hle2 hv1) hv2, fun x hx => ?_, ha _ _ _ hg2 hok1, hok2⟩
 rcases List.mem_append.1 hx with hx | hx
 ·exact hs1 x hx
 ·exact hs2 x hx
theorem eb.list {α : Type} {cells : α → List aa} {Ok : Heap → α → Prop} (hst : CH Ok) : ∀ {css : List (List Value)}, (∀ cs ∈ css, eb P W cells Ok cs) → eb P W (fun as : List α => as.flatMap cells) (fun h as => as.length = css.length ∧ ∀ a ∈ as, Ok h a) css.flatten
 | [], _ => .here [] (fun σ => ao.nil) (fun x hx => by simp at hx) (fun h => ⟨rfl, fun a ha => by cases ha⟩)
 | cs :: css, hl => by
  have h1 := hl cs (by simp)
  have h2 := eb.list hst (css := css) fun c hc => hl c (by simp [hc])
  refine (h1.pair hst h2).conv (fun p => p.1 :: p.2) (fun p => by simp) fun h p ⟨o1, o2, o3⟩ => ⟨by simp [o2], fun a ha => ?_⟩
  rcases List.mem_cons.1 ha with rfl | ha
  ·exact o1
  ·exact o3 a ha
/-! ## Slices -/
theorem ue {α : Type} {cells : α → List aa} {w : Nat} (hw : ∀ a, (cells a).length = w) : ∀ {as : List α} {i : Nat} {r : List aa}, (as.map cells)[i]? = some r → ((as.flatMap cells).drop (i * w)).take r.length = r
 | [], _, _, h => by simp at h
 | a :: as, 0, r, h => by
  simp only [List.map_cons, List.getElem?_cons_zero] at h
  cases h
  simp
 | a :: as, i + 1, r, h => by
  have h' : (as.map cells)[i]? = some r := by simpa using h
  have := ue hw h'
  have e : (cells a ++ as.flatMap cells).drop w = as.flatMap cells := by rw [← hw a, List.drop_left]
  rw [List.flatMap_cons, Nat.add_mul, Nat.one_mul, Nat.add_comm, ← List.drop_drop, e]
  exact this
theorem nc {w off : Nat} {L : List Value} {CS : Nat → List Value} : ∀ {n : Nat}, (∀ i, i < n → (CS i).length = w ∧ ∀ j, j < w → L[off + i * w + j]? = (CS i)[j]?) → ((List.range n).map CS).flatten = (L.drop off).take (n * w)
 | 0, _ => by simp
 | n + 1, h => by
  have ih := nc (n := n) fun i hi => h i (by omega)
  obtain ⟨h1, h2⟩ := h n (by omega)
  rw [List.range_succ, List.map_append, List.flatten_append, ih, Nat.add_mul, Nat.one_mul, List.take_add]
  congr 1
  simp only [List.map_cons, List.map_nil, List.flatten_cons, List.flatten_nil, List.append_nil]
  apply List.ext_getElem?
  intro j
  rw [List.getElem?_take]
  split
  ·rename_i hj
   rw [List.drop_drop, List.getElem?_drop, ← h2 j hj]
  ·rename_i hj
   rw [List.getElem?_eq_none (by omega)]
theorem zm (a : Addr) (n : Nat) : (a.add n).block = a.block ∧ (a.add n).off = a.off + n ∧ (a.spot = none → (a.add n).spot = none) := by
 unfold Addr.add
 split
 ·rename_i h; subst h; exact ⟨rfl, rfl, fun e => e⟩
 ·exact ⟨rfl, rfl, fun _ => rfl⟩
def Sz {H : Type} (P : Program) (t : Nat) (d : DataW H) : Prop := ∀ n ∈ DataW.weights P t d, n ≤ reachBytes
theorem nz {H : Type} {e : Nat} : ∀ {l : List (DataW H)} {d : DataW H} {n : Nat}, d ∈ l → n ∈ DataW.weights P e d → n ∈ DataW.weightsAll P e l
 | _ :: l, d, n, hd, hn => by
  rw [DataW.weightsAll, List.mem_append]
  rcases List.mem_cons.1 hd with rfl | hd
  ·exact .inl hn
  ·exact .inr (nz hd hn)
theorem iR {H : Type} : ∀ {ts : List Nat} {l : List (DataW H)} {i : Nat} {t : Nat} {d : DataW H} {n : Nat}, ts[i]? = some t → l[i]? = some d → n ∈ DataW.weights P t d → n ∈ DataW.weightsEach P ts l
 | t :: ts, d :: l, 0, _, _, n, ht, hd, hn => by
  simp only [List.getElem?_cons_zero, Option.some.injEq] at ht hd
  subst ht hd
  rw [DataW.weightsEach, List.mem_append]
  exact .inl hn
 | t :: ts, d :: l, i + 1, _, _, n, ht, hd, hn => by
  rw [DataW.weightsEach, List.mem_append]
  exact .inr (iR (by simpa using ht) (by simpa using hd) hn)
 | [], _, _, _, _, _, ht, _, _ => by simp at ht
 | _ :: _, [], _, _, _, _, _, hd, _ => by simp at hd
theorem Ie {H : Type} {t e : Nat} {es sp : List (DataW H)} (ht : P.underlying t = some (.slice e)) (h : Sz P t (.slice es sp)) : (es.length + sp.length) * P.bytesOf e ≤ reachBytes ∧ ∀ d ∈ es, Sz P e d := by
 have e1 : DataW.weights P t (.slice es sp) = (es.length + sp.length) * P.bytesOf e :: (DataW.weightsAll P e es ++ DataW.weightsAll P e sp) := by rw [DataW.weights, ht]
 refine ⟨h _ (by rw [e1]; simp), fun d hd n hn => h n ?_⟩
 rw [e1]
 exact List.mem_cons_of_mem _ (List.mem_append_left _ (nz hd hn))
theorem jv {H : Type} {t : Nat} {fs : Array Field} {parts : List (DataW H)} (ht : P.underlying t = some (.struct fs)) (h : Sz P t (.agg parts)) {i : Nat} {f : Field} {d : DataW H} (hf : fs[i]? = some f) (hd : parts[i]? = some d) : Sz P f.type d := by
 have e1 : DataW.weights P t (.agg parts) = DataW.weightsEach P (fs.toList.map (·.type)) parts := by rw [DataW.weights, ht]
 intro n hn
 refine h n ?_
 rw [e1]
 exact iR (i := i) (by simp [hf]) hd hn
theorem fH {H : Type} {enc : TypeId × Value → H} {t : Nat} {k : IntKind} (ht : P.underlying t = some (.int k)) {fuel : Nat} {cs : List Value} {x : DataW H × List MemPlace} (hd : DataW.trod enc P W 0 (fun _ => true) true fuel t cs = some x) : eb P W (fun a : Int => [aa.int k a]) (fun _ a => (Lit.int k a).wf = true) cs := by
 obtain ⟨n, rfl, _, hwf⟩ := DataW.trod_int ht hd
 exact .here n (fun σ => ao.cons rfl ao.nil) (fun x hx => by simp at hx; subst hx; rfl) fun _ => hwf
theorem H3 {H : Type} {enc : TypeId × Value → H} {t : Nat} (ht : P.underlying t = some .bool) {fuel : Nat} {cs : List Value} {x : DataW H × List MemPlace} (hd : DataW.trod enc P W 0 (fun _ => true) true fuel t cs = some x) : eb P W (fun a : Bool => [aa.bool a]) (fun _ _ => True) cs := by
 obtain ⟨b, rfl, _⟩ := DataW.trod_bool ht hd
 exact .here b (fun σ => ao.cons rfl ao.nil) (fun x hx => by simp at hx; subst hx; rfl) fun _ => trivial
end
end
end Go.HL
namespace Go.HL
open Go
noncomputable section
theorem ju (n : Int) : cx .u32 n = n % 4294967296 := by
 rw [dE]
 simp [IntKind.wrap, IntKind.bits, IntKind.signed]
theorem I0 (n : Int) : cx .u8 n = n % 256 := by
 rw [dE]
 simp [IntKind.wrap, IntKind.bits, IntKind.signed]
theorem FX (n : Int) : cx .u64 n = n % 18446744073709551616 := by
 rw [dE]
 simp [IntKind.wrap, IntKind.bits, IntKind.signed]
section
variable {P : Program} {K : ah} {ops : Array Oper} {o : Oper} {L : cj} {h h' : Heap} {m n : Nat} {R : cj → Heap → Prop} {aw : iO} {v : aa}
theorem V.bin {op : BinOp} {t p : Nat} {x y : Operand} {k j : IntKind} {a b : Int} (ho : o.op = .binOp op t x y p) (hx : eS P L x = some (.int k a)) (hy : eS P L y = some (.int j b)) (hr : df P op t (.int k a) (.int j b) = some v) : cK P o L h v h := cK.mk ho fun ev ha d ty ps aft g => by
 simp only [bS, evS ha hx, evS ha hy, kc, hr, HL.val, obS]
theorem V.P6 {s t n m : Nat} {x : Operand} {k j k' : IntKind} {a b : Int} (hT : bH P aw = true) (ho : o.op = .convert s t x) (hs : bY aw s = some (.int k, n)) (ht : bY aw t = some (.int k', m)) (hx : eS P L x = some (.int j a)) (hr : cx k' a = b) : cK P o L h (.int k' b) h := cK.mk ho fun ev ha d ty ps aft g => by
 have e1 := uK hT hs
 have e2 := uK hT ht
 have e3 : cY P s t = none := by simp only [cY, e1]
 simp only [bS, e3, kJ, e1, e2, evS ha hx, aa.isInt, obS, hr]
end
theorem LY {P : Program} {t : Nat} {k : IntKind} {a b : Int} : df P .mul t (.int k a) (.int k b) = some (.int k (cx k (a * b))) := by
 cases k <;> rfl
theorem LZ {P : Program} {t : Nat} {k : IntKind} {a b : Int} : df P .add t (.int k a) (.int k b) = some (.int k (cx k (a + b))) := by
 cases k <;> rfl
theorem LU {P : Program} {t : Nat} {k : IntKind} {a b : Int} : df P .sub t (.int k a) (.int k b) = some (.int k (cx k (a - b))) := by
 cases k <;> rfl
theorem rS {P : Program} {t : Nat} {k : IntKind} {a b : Nat} (hb : b ≠ 0) : df P .rem t (.int k (a : Int)) (.int k (b : Int)) = some (.int k ((a % b : Nat) : Int)) := by
 have h : n7 (b : Int) (.ofNat 0) = false := by
  cases b with
  | zero => exact absurd rfl hb
  | succ b => rfl
 have e : df P .rem t (.int k (a : Int)) (.int k (b : Int)) = ae (n7 (b : Int) (.ofNat 0)) none (some (.int k (Int.tmod a b))) := by cases k <;> rfl
 rw [e, h, bcF]
 rfl
theorem LW {P : Program} {t : Nat} {k j : IntKind} {a : Int} {b : Nat} : df P .shl t (.int k a) (.int j (b : Int)) = some (.int k (cx k (a * ((2 ^ min b k.bits : Nat) : Int)))) := rfl
theorem LV {P : Program} {t : Nat} {k j : IntKind} {a b : Nat} : df P .shr t (.int k (a : Int)) (.int j (b : Int)) = some (.int k ((a / 2 ^ min b k.bits : Nat) : Int)) := by
 have e : df P .shr t (.int k (a : Int)) (.int j (b : Int)) = some (.int k (Int.fdiv (a : Int) ((2 ^ min b k.bits : Nat) : Int))) := rfl
 rw [e, Int.fdiv_eq_ediv_of_nonneg _ (Int.natCast_nonneg _), Int.natCast_ediv]
theorem LX {P : Program} {t : Nat} {k : IntKind} {a b : Nat} (hb : b ≠ 0) : df P .quo t (.int k (a : Int)) (.int k (b : Int)) = some (.int k (cx k ((a / b : Nat) : Int))) := by
 have h : n7 (b : Int) (.ofNat 0) = false := by
  cases b with
  | zero => exact absurd rfl hb
  | succ b => rfl
 have e : df P .quo t (.int k (a : Int)) (.int k (b : Int)) = ae (n7 (b : Int) (.ofNat 0)) none (some (.int k (cx k (Int.tdiv a b)))) := by cases k <;> rfl
 rw [e, h, bcF]
 rfl
theorem EG {a : Nat} (h : a < 4294967296) : pA .u32 (a : Int) = a := by
 show (((a : Int) % ((2 ^ 32 : Int))).toNat) = a
 omega
theorem Kf {P : Program} {t a x i : Nat} (ha : a < 2 ^ i) (hx : 2 ^ i * x < 4294967296) (hs : 2 ^ i * x + a < 4294967296) : df P .or t (.int .u32 (a : Int)) (.int .u32 ((2 ^ i * x : Nat) : Int)) = some (.int .u32 ((2 ^ i * x + a : Nat) : Int)) := by
 have e : df P .or t (.int .u32 (a : Int)) (.int .u32 ((2 ^ i * x : Nat) : Int)) = some (.int .u32 (IntKind.wrap .u32 (Int.ofNat (Nat.lor (pA .u32 (a : Int)) (pA .u32 ((2 ^ i * x : Nat) : Int)))))) := rfl
 have e2 : Nat.lor a (2 ^ i * x) = 2 ^ i * x + a := by
  show a ||| 2 ^ i * x = _
  rw [Nat.two_pow_add_eq_or_of_lt ha, Nat.or_comm]
 rw [e, EG (by omega), EG hx, e2, ← dE, ju]
 congr 2
 simp only [Int.ofNat_eq_natCast]
 omega
end
end Go.HL
namespace Go.HL
open Go
noncomputable section
inductive oD (h : Heap) : aa → Prop
 | aC : oD h .aC
 | empty : oD h .empty
 | slice (k off c : Nat) (l : List aa) (s r : Bool) (hg : h.get k = some (.cells l 0 s r)) : oD h (.slice k off c none)
theorem oD.grow {h h' : Heap} {v : aa} (g : Grow h h') : oD h v → oD h' v
 | .aC => .aC
 | .empty => .empty
 | .slice k off c l s r hg => .slice k off c l s r (g.get hg)
section
variable {P : Program} {K : ah} {ops : Array Oper} {o : Oper} {L : cj} {h h' : Heap} {m n : Nat} {R : cj → Heap → Prop} {aw : iO}
end
end
end Go.HL
namespace Go.HL
open Go
noncomputable section
def byteCells (l : List Nat) : List aa := l.map fun b => .int .u8 (.ofNat b)
def aO (l : List Nat) (a : Nat) : Nat := l.foldl (fun a b => a * 256 + b) a
theorem iW : ∀ {l : List Nat} (a : Nat), (∀ x ∈ l, x < 256) → dC (byteCells l) a = some (aO l a)
 | [], a, _ => rfl
 | b :: l, a, h => by
  have hb : Nat.blt b 256 = true := by rw [eW]; exact decide_eq_true (h b (by simp))
  show ae (Nat.blt b 256) (dC (byteCells l) (Nat.add (Nat.mul a 256) b)) none = _
  rw [hb, bcT, iW _ fun x hx => h x (by simp [hx])]
  rfl
theorem yN {h : Heap} {e w c : Nat} {v : aa} {l : List aa} {d : Option Nat} (a : App h e w v c l d) {k off n : Nat} {cap : Option Nat} (hv : v = .slice k off n cap) : eh h k off (n * w) = some l := by
 cases a with
 | aC => cases hv
 | @full _ _ _ _ L _ _ _ hg hl hd =>
  cases hv
  have h1 := congrArg List.length hd
  rw [List.length_take] at h1
  unfold eh
  rw [bQ hg, obS]
  show fp (jS _ _) _ some = _
  have h2 : c * w ≤ (List.drop off L).length := Nat.le_trans (by omega) (Nat.min_le_right (c * w) _)
  rw [dr, bz, if_pos h2, hd]
 | own hg hl hd =>
  cases hv
  have h1 := congrArg List.length hd
  rw [List.length_drop] at h1
  unfold eh
  rw [bQ hg, obS]
  show fp (jS _ _) _ some = _
  rw [dr, bz, hd, if_pos (by omega), List.take_of_length_le (by omega)]
 | rest hg => cases hv
variable {P : Program} {o : Oper} {L : cj} {h : Heap} {aw : iO}
theorem V.strOf {s t e n m q : Nat} {x : Operand} {v : aa} {bs : List Nat} {c : Nat} {d : Option Nat} {e' : Nat} (hT : bH P aw = true) (ho : o.op = .convert s t x) (hs : bY aw s = some (.slice e, n)) (he : bY aw e = some (.int .u8, q)) (ht : bY aw t = some (.str, m)) (hx : eS P L x = some v)
  (hn : ∀ k, v ≠ .rest k) {l : List aa} (ha : App h e' 1 v c l d) (hl : l = byteCells bs) (hb : ∀ b ∈ bs, b < 256) : cK P o L h (.str bs.length (aO bs 0)) h := cK.mk ho fun ev hag dd ty ps aft g => by
 have e1 := (cM hT hs).1
 have e2 := uK hT he
 have e3 := ml hT ht
 have e4 : cY P s t = none := by simp only [cY, e1]
 have hlen : bs.length = c := by have := ha.length; rw [hl] at this; simpa [byteCells] using this
 have hv : v = .aC ∨ ∃ k off cap, v = .slice k off c cap := by
  cases ha with
  | aC => exact .inl rfl
  | full _ _ _ => exact .inr ⟨_, _, _, rfl⟩
  | own _ _ _ => exact .inr ⟨_, _, _, rfl⟩
  | rest _ => exact absurd rfl (hn _)
 rcases hv with rfl | ⟨k, off, cap, rfl⟩
 ·have hz : bs = [] := by
   cases ha with
   | aC => simpa [byteCells] using hl.symm
  subst hz
  simp only [bS, e4, kJ, e1, e2, e3, evS hag hx]
  rfl
 ·have h2 := yN ha rfl
  rw [Nat.mul_one, hl] at h2
  simp only [bS, e4, kJ, e1, e2, e3, evS hag hx, h2, obS, iW 0 hb, hlen]
end
end Go.HL
namespace Go.HL
open Go
noncomputable section
variable {P : Program} {K : ah} {ops : Array Oper} {o : Oper} {L : cj} {h h' : Heap} {m n : Nat} {R : cj → Heap → Prop} {aw : iO}
end
end Go.HL
namespace Go.HL
open Go
noncomputable section
end
end Go.HL
namespace Go.HL
open Go
noncomputable section
theorem fz {n : Nat} (h : n < 18446744073709551616) : cx .u64 (n : Int) = (n : Int) := by rw [FX]; omega
theorem wU {n : Nat} (h : n < 4294967296) : cx .u32 (n : Int) = (n : Int) := by rw [ju]; omega
theorem zr {n : Nat} : cx .u8 (n : Int) = ((n % 256 : Nat) : Int) := by rw [I0]; omega
theorem cC {n : Nat} (h : n < 9223372036854775808) : cx .i64 (n : Int) = (n : Int) := wI (by omega) (by omega)
variable {P : Program} {K : ah} {ops : Array Oper} {o : Oper} {L : cj} {h h' : Heap} {m n : Nat} {R : cj → Heap → Prop} {aw : iO}
theorem V.nilCheck {x : Operand} {k off : Nat} (ho : o.op = .nilCheck x) (hx : eS P L x = some (.ptr k off)) : cK P o L h (.ptr k off) h := cK.mk ho fun ev ha d ty ps aft g => by
 simp only [bS, evS ha hx]
end
end Go.HL
