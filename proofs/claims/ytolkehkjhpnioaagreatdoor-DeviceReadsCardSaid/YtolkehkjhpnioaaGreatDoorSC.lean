/- Runs of HL with an argument that is not closed: known calls at any memory; an argument as data, laid into the memory. No statement of the seat stands here. -/
import Derived.Test.YtolkehkjhpnioaaGreatDoorSB
import Derived.Deep.Slices
import GoSem.ClaimJoined
set_option linter.unusedVariables false
set_option linter.unusedSimpArgs false
namespace Go.HL
open Go
noncomputable section
section
variable {P : Program}
def closedV : HVal → Bool
 | .bool _ => true
 | .int _ _ => true
 | .str _ _ => true
 | .nilp => true
 | .nils => true
 | .nilm => true
 | .nilf => true
 | .nili => true
 | _ => false
theorem closedV_rel {σ τ : Places} {x : HVal} {v : Value} (hc : closedV x = true) (h : VRel σ x v) : VRel τ x v := by
 cases x <;> first | exact h | (cases hc; done)
theorem closedV_rels {σ τ : Places} : ∀ {l : List HVal} {m : List Value}, (∀ x ∈ l, closedV x = true) → VRels σ l m → VRels τ l m
 | [], m, _, h => h
 | x :: l, m, hc, h => by
  obtain ⟨v, m', rfl, hv, h'⟩ := h.cons_inv
  exact VRels.cons (closedV_rel (hc x (by simp)) hv) (closedV_rels (fun y hy => hc y (by simp [hy])) h')
inductive ClosedO : HObj → Prop
 | cells {l : List HVal} {e : Nat} {s r : Bool} (h : ∀ x ∈ l, closedV x = true) : ClosedO (.cells l e s r)
 | map {es : List HEnt} {c : Nat} {r : Bool} (h : ∀ x ∈ es, closedV x.key = true ∧ closedV x.val = true) : ClosedO (.map es c r)
theorem closed_erels {σ τ : Places} : ∀ {l : List HEnt} {m : List MapEntry}, (∀ x ∈ l, closedV x.key = true ∧ closedV x.val = true) → ERels σ l m → ERels τ l m
 | [], m, _, h => h
 | x :: l, m, hc, ⟨y, m', e, he, h'⟩ => ⟨y, m', e, ⟨closedV_rel (hc x (by simp)).1 he.1, closedV_rel (hc x (by simp)).2 he.2.1, he.2.2⟩, closed_erels (fun z hz => hc z (by simp [hz])) h'⟩
theorem ClosedO.rel {σ τ : Places} {p : Place} {o : HObj} {b : Option Obj} (hc : ClosedO o) (h : ORel P σ p o b) : ORel P τ p o b := by
 cases hc with
 | cells hl => obtain ⟨C, elem, fr, e1, e2, e3⟩ := h; exact ⟨C, elem, fr, e1, closedV_rels hl e2, e3⟩
 | map hl => obtain ⟨es', e1, e2⟩ := h; exact ⟨es', e1, closed_erels hl e2⟩
structure Rooted (P : Program) (e : Ent) : Prop where
 fine : Fine P e
 args : e.args = []
 next : e.next = P.globals.size
 ro : ∀ p ∈ e.hin, p.2.owned = false ∧ ClosedO p.2 ∧ p.1 < P.globals.size
def lowσ (P : Program) (σ : Places) : Places := fun k => if k < P.globals.size then σ k else none
theorem rooted_rel {e : Ent} (r : Rooted P e) {h : Heap} (hs : ∀ p ∈ e.hin, h.get p.1 = some p.2) {σ : Places} {w : World} (hr : Rel P σ h w) : Rel P (lowσ P σ) e.inMem w := by
 have hmem : ∀ {k o}, e.inMem.get k = some o → (k, o) ∈ e.hin := fun {k o} hk => by rw [inMem_get] at hk; exact findK_mem hk
 refine ⟨fun k o p hk hl hp => ?_, fun k hk => ?_, fun k o hk => ?_, fun k p hp => ?_, fun k k' o o' p p' hk _ ho => ?_, fun g hg => ?_⟩
 ·have hm := hmem hk
  obtain ⟨_, h2, h3⟩ := r.ro _ hm
  have h3 : k < P.globals.size := h3
  unfold lowσ at hp
  rw [if_pos h3] at hp
  exact h2.rel (hr.obj k o p (hs _ hm) hl hp)
 ·unfold lowσ
  have hk : e.next ≤ k := hk
  rw [if_neg (by rw [r.next] at hk; omega)]
 ·show k < e.next
  rw [r.next]; exact (r.ro _ (hmem hk)).2.2
 ·unfold lowσ at hp
  split at hp
  ·exact hr.inb k p hp
  ·cases hp
 ·have := (r.ro _ (hmem hk)).1
  rw [show (k, o).2 = o from rfl, ho] at this; cases this
 ·obtain ⟨p, h1, h2⟩ := hr.glob g hg
  exact ⟨p, by unfold lowσ; rw [if_pos hg]; exact h1, h2⟩
theorem rooted_run {e : Ent} (r : Rooted P e) {h : Heap} (hs : ∀ p ∈ e.hin, h.get p.1 = some p.2) {σ : Places} {w : World} (hr : Rel P σ h w) :
  Calls P e.f #[] w fun x w' => ∃ τ h1, Step P (lowσ P σ) e.inMem w τ h1 w' ∧ CRel τ (.ret e.res) x ∧ (∀ k o, findK e.hout k = some o → h1.get k = some o) ∧ (∀ b, ¬ Own (lowσ P σ) e.inMem b) := by
 have hf := r.fine
 have hlt := hf.lt
 obtain ⟨run, hrun, hp0⟩ := hf
 have hp := (bcFe.1 hp0).2
 unfold ranTo at hp
 cases he : run e.f e.args e.inMem with
 | none => rw [he] at hp; cases hp
 | some rr =>
  obtain ⟨cr, h1⟩ := rr
  rw [he] at hp
  cases cr with
  | pan v => cases hp
  | ret v =>
   simp only [bcFe] at hp
   obtain ⟨e1, e2, e3, e4, e5⟩ := hp
   have hres := beq_sound _ _ e1
   subst hres
   refine ((hrun e.f e.args e.inMem _ h1 he (lowσ P σ) w [] (rooted_rel r hs hr) (by rw [r.args]; exact VRels.nil)).1 hlt).mono fun x w' ⟨τ, st, hc⟩ => ⟨τ, h1, st, hc, fun k o hk => subH_mem e3 (findK_mem hk), ?_⟩
   rintro b ⟨k, o, p, hk, ho, _⟩
   rw [inMem_get] at hk
   have := (r.ro _ (findK_mem hk)).1
   rw [show (k, o).2 = o from rfl, ho] at this; cases this
theorem rooted_closed {e : Ent} (r : Rooted P e) (hc : closedV e.res = true) {h : Heap} (hs : ∀ p ∈ e.hin, h.get p.1 = some p.2) {σ : Places} {w : World} (hr : Rel P σ h w) :
  Calls P e.f #[] w fun x w' => Step P σ h w σ h w' ∧ CRel σ (.ret e.res) x := by
 refine (rooted_run r hs hr).mono fun x w' ⟨τ, h1, st, hcr, _, hno⟩ => ?_
 have hk : ∀ b, b < w.heap.size → w'.heap[b]? = w.heap[b]? := fun b hb => st.kept.block b hb (hno b)
 refine ⟨⟨σ.le_refl, ⟨fun k o p hk' hl hp => by rw [hk p.blk (hr.inb k p hp)]; exact hr.obj k o p hk' hl hp, hr.fresh, hr.dom, fun k p hp => Nat.lt_of_lt_of_le (hr.inb k p hp) st.kept.size, hr.inj, hr.glob⟩,
  ⟨st.kept.os, st.kept.tape, st.kept.output, st.kept.size, fun b hb _ => hk b hb⟩, fun _ _ e => e, Nat.le_refl _, fun _ _ => rfl, fun _ _ _ => rfl⟩, ?_⟩
 obtain ⟨v, hv, hx⟩ := hcr
 exact ⟨v, hv, closedV_rel hc hx⟩
theorem Does.calls {K : CallFn} (hk : CallSound P K) {f : Nat} {args : List HVal} {h h' : Heap} {v : HVal} (d : Does P K f args h v h') (hf : f < roundNo) {σ : Places} {w : World} {vs : List Value} (hr : Rel P σ h w) (hv : VRels σ args vs) :
  Calls P f ⟨vs⟩ w fun x w' => ∃ τ, Step P σ h w τ h' w' ∧ CRel τ (.ret v) x := by
 obtain ⟨n, g⟩ := d
 exact (callOr_sound hk (run_sound hk n) f args h _ h' (g n (Nat.le_refl _)) σ w vs hr hv).1 hf
end
end
end Go.HL
namespace Go.HL
open Go Go.Deep
noncomputable section
section
variable {P : Program} {W : World}
structure LS (P : Program) (W : World) (σ : Places) (h : Heap) : Prop where
 rel : Rel P σ h W
 wf : Wf h
 ro : ∀ k o, h.get k = some o → o.owned = false
theorem LS.new {σ : Places} {h : Heap} (s : LS P W σ h) {p : Place} {o : HObj} (ho : ORel P σ p o W.heap[p.blk]?) (hro : o.owned = false) (hlt : p.blk < W.heap.size) :
  ∃ σ', LS P W σ' (h.new o) ∧ σ.le σ' ∧ Grow h (h.new o) ∧ σ' h.next = some p := by
 have hr := s.rel
 have hn : σ h.next = none := hr.fresh h.next (Nat.le_refl _)
 let σ' : Places := fun k => if k = h.next then some p else σ k
 have hσn : σ' h.next = some p := if_pos rfl
 have hσo : ∀ k, k ≠ h.next → σ' k = σ k := fun k hk => if_neg hk
 have hle : σ.le σ' := fun k q hq => by
  have : k ≠ h.next := by rintro rfl; rw [hn] at hq; cases hq
  rw [hσo k this]; exact hq
 have hgn : (h.new o).get h.next = some o := by simp
 have hgo : ∀ k, k ≠ h.next → (h.new o).get k = h.get k := fun k hk => by simp [hk]
 have mk := made_new s.wf o
 have hro' : ∀ k o', (h.new o).get k = some o' → o'.owned = false := by
  intro k o' hk
  by_cases hkn : k = h.next
  ·subst hkn; rw [hgn] at hk; cases hk; exact hro
  ·rw [hgo k hkn] at hk; exact s.ro k o' hk
 refine ⟨σ', ⟨⟨?_, ?_, ?_, ?_, ?_, ?_⟩, mk.wf, hro'⟩, hle, mk.ext, hσn⟩
 ·intro k o' q hk hl hq
  by_cases hkn : k = h.next
  ·subst hkn
   rw [hgn] at hk; rw [hσn] at hq
   cases hk; cases hq
   exact ho.mono hle
  ·rw [hgo k hkn] at hk; rw [hσo k hkn] at hq
   exact (hr.obj k o' q hk hl hq).mono hle
 ·intro k hk
  have hk : h.next + 1 ≤ k := hk
  rw [hσo k (by omega)]; exact hr.fresh k (by omega)
 ·intro k o' hk
  show k < h.next + 1
  by_cases hkn : k = h.next
  ·omega
  ·rw [hgo k hkn] at hk; have := hr.dom k o' hk; omega
 ·intro k q hq
  by_cases hkn : k = h.next
  ·subst hkn; rw [hσn] at hq; cases hq; exact hlt
  ·rw [hσo k hkn] at hq; exact hr.inb k q hq
 ·intro k k' o1 o2 q q' h1 _ hown
  rw [hro' k o1 h1] at hown; cases hown
 ·intro g hg
  obtain ⟨q, h1, h2⟩ := hr.glob g hg
  exact ⟨q, hle _ _ h1, h2⟩
def Lift (P : Program) (W : World) {α : Type} (cells : α → List HVal) (Ok : Heap → α → Prop) (cs : List Value) : Prop :=
 ∀ σ h, LS P W σ h → ∃ σ' h' a, LS P W σ' h' ∧ σ.le σ' ∧ Grow h h' ∧ VRels σ' (cells a) cs ∧ (∀ x ∈ cells a, x.scalar = true) ∧ Ok h' a
def Stays {α : Type} (Ok : Heap → α → Prop) : Prop := ∀ h h' a, Grow h h' → Ok h a → Ok h' a
theorem Lift.here {α : Type} {cells : α → List HVal} {Ok : Heap → α → Prop} {cs : List Value} (a : α) (hv : ∀ σ, VRels σ (cells a) cs) (hs : ∀ x ∈ cells a, x.scalar = true) (hok : ∀ h, Ok h a) : Lift P W cells Ok cs :=
 fun σ h s => ⟨σ, h, a, s, σ.le_refl, Grow.refl h, hv σ, hs, hok h⟩
theorem Lift.conv {α β : Type} {cells : α → List HVal} {Ok : Heap → α → Prop} {cells' : β → List HVal} {Ok' : Heap → β → Prop} {cs : List Value} (l : Lift P W cells Ok cs) (g : α → β) (hc : ∀ a, cells' (g a) = cells a) (ho : ∀ h a, Ok h a → Ok' h (g a)) : Lift P W cells' Ok' cs := by
 intro σ h s
 obtain ⟨σ', h', a, s', hle, hg, hv, hs, hok⟩ := l σ h s
 exact ⟨σ', h', g a, s', hle, hg, by rw [hc]; exact hv, by rw [hc]; exact hs, ho _ _ hok⟩
theorem Lift.pair {α β : Type} {ca : α → List HVal} {Oa : Heap → α → Prop} {cb : β → List HVal} {Ob : Heap → β → Prop} {cs ds : List Value} (ha : Stays Oa) (l : Lift P W ca Oa cs) (m : Lift P W cb Ob ds) :
  Lift P W (fun p : α × β => ca p.1 ++ cb p.2) (fun h p => Oa h p.1 ∧ Ob h p.2) (cs ++ ds) := by
 intro σ h s
 obtain ⟨σ1, h1, a, s1, hle1, hg1, hv1, hs1, hok1⟩ := l σ h s
 obtain ⟨σ2, h2, b, s2, hle2, hg2, hv2, hs2, hok2⟩ := m σ1 h1 s1
 refine ⟨σ2, h2, (a, b), s2, Places.le_trans hle1 hle2, hg1.trans hg2, VRels.append (VRels.mono hle2 hv1) hv2, fun x hx => ?_, ha _ _ _ hg2 hok1, hok2⟩
 rcases List.mem_append.1 hx with hx | hx
 ·exact hs1 x hx
 ·exact hs2 x hx
theorem Lift.list {α : Type} {cells : α → List HVal} {Ok : Heap → α → Prop} (hst : Stays Ok) : ∀ {css : List (List Value)}, (∀ cs ∈ css, Lift P W cells Ok cs) → Lift P W (fun as : List α => as.flatMap cells) (fun h as => as.length = css.length ∧ ∀ a ∈ as, Ok h a) css.flatten
 | [], _ => .here [] (fun σ => VRels.nil) (fun x hx => by simp at hx) (fun h => ⟨rfl, fun a ha => by cases ha⟩)
 | cs :: css, hl => by
  have h1 := hl cs (by simp)
  have h2 := Lift.list hst (css := css) fun c hc => hl c (by simp [hc])
  refine (h1.pair hst h2).conv (fun p => p.1 :: p.2) (fun p => by simp) fun h p ⟨o1, o2, o3⟩ => ⟨by simp [o2], fun a ha => ?_⟩
  rcases List.mem_cons.1 ha with rfl | ha
  ·exact o1
  ·exact o3 a ha
/-! ## Slices -/
theorem flatMap_row {α : Type} {cells : α → List HVal} {w : Nat} (hw : ∀ a, (cells a).length = w) : ∀ {as : List α} {i : Nat} {r : List HVal}, (as.map cells)[i]? = some r → ((as.flatMap cells).drop (i * w)).take r.length = r
 | [], _, _, h => by simp at h
 | a :: as, 0, r, h => by
  simp only [List.map_cons, List.getElem?_cons_zero] at h
  cases h
  simp
 | a :: as, i + 1, r, h => by
  have h' : (as.map cells)[i]? = some r := by simpa using h
  have := flatMap_row hw h'
  have e : (cells a ++ as.flatMap cells).drop w = as.flatMap cells := by rw [← hw a, List.drop_left]
  rw [List.flatMap_cons, Nat.add_mul, Nat.one_mul, Nat.add_comm, ← List.drop_drop, e]
  exact this
theorem cellsOf_flatten {w off : Nat} {L : List Value} {CS : Nat → List Value} : ∀ {n : Nat}, (∀ i, i < n → (CS i).length = w ∧ ∀ j, j < w → L[off + i * w + j]? = (CS i)[j]?) → ((List.range n).map CS).flatten = (L.drop off).take (n * w)
 | 0, _ => by simp
 | n + 1, h => by
  have ih := cellsOf_flatten (n := n) fun i hi => h i (by omega)
  obtain ⟨h1, h2⟩ := h n (by omega)
  rw [List.range_succ, List.map_append, List.flatten_append, ih, Nat.add_mul, Nat.one_mul, List.take_add]
  congr 1
  simp only [List.map_cons, List.map_nil, List.flatten_cons, List.flatten_nil, List.append_nil]
  apply List.ext_getElem?
  intro j
  rw [List.getElem?_take]
  split
  ·rename_i hj
   rw [List.drop_drop, List.getElem?_drop, ← h2 j hj]
  ·rename_i hj
   rw [List.getElem?_eq_none (by omega)]
theorem addr_adds (a : Addr) (n : Nat) : (a.add n).block = a.block ∧ (a.add n).off = a.off + n ∧ (a.spot = none → (a.add n).spot = none) := by
 unfold Addr.add
 split
 ·rename_i h; subst h; exact ⟨rfl, rfl, fun e => e⟩
 ·exact ⟨rfl, rfl, fun _ => rfl⟩
def Sz {H : Type} (P : Program) (t : Nat) (d : DataW H) : Prop := ∀ n ∈ DataW.weights P t d, n ≤ reachBytes
theorem weightsAll_mem {H : Type} {e : Nat} : ∀ {l : List (DataW H)} {d : DataW H} {n : Nat}, d ∈ l → n ∈ DataW.weights P e d → n ∈ DataW.weightsAll P e l
 | _ :: l, d, n, hd, hn => by
  rw [DataW.weightsAll, List.mem_append]
  rcases List.mem_cons.1 hd with rfl | hd
  ·exact .inl hn
  ·exact .inr (weightsAll_mem hd hn)
theorem weightsEach_mem {H : Type} : ∀ {ts : List Nat} {l : List (DataW H)} {i : Nat} {t : Nat} {d : DataW H} {n : Nat}, ts[i]? = some t → l[i]? = some d → n ∈ DataW.weights P t d → n ∈ DataW.weightsEach P ts l
 | t :: ts, d :: l, 0, _, _, n, ht, hd, hn => by
  simp only [List.getElem?_cons_zero, Option.some.injEq] at ht hd
  subst ht hd
  rw [DataW.weightsEach, List.mem_append]
  exact .inl hn
 | t :: ts, d :: l, i + 1, _, _, n, ht, hd, hn => by
  rw [DataW.weightsEach, List.mem_append]
  exact .inr (weightsEach_mem (by simpa using ht) (by simpa using hd) hn)
 | [], _, _, _, _, _, ht, _, _ => by simp at ht
 | _ :: _, [], _, _, _, _, _, hd, _ => by simp at hd
theorem sz_slice {H : Type} {t e : Nat} {es sp : List (DataW H)} (ht : P.underlying t = some (.slice e)) (h : Sz P t (.slice es sp)) : (es.length + sp.length) * P.bytesOf e ≤ reachBytes ∧ ∀ d ∈ es, Sz P e d := by
 have e1 : DataW.weights P t (.slice es sp) = (es.length + sp.length) * P.bytesOf e :: (DataW.weightsAll P e es ++ DataW.weightsAll P e sp) := by rw [DataW.weights, ht]
 refine ⟨h _ (by rw [e1]; simp), fun d hd n hn => h n ?_⟩
 rw [e1]
 exact List.mem_cons_of_mem _ (List.mem_append_left _ (weightsAll_mem hd hn))
theorem lift_int {H : Type} {enc : TypeId × Value → H} {t : Nat} {k : IntKind} (ht : P.underlying t = some (.int k)) {fuel : Nat} {cs : List Value} {x : DataW H × List MemPlace} (hd : DataW.trod enc P W 0 (fun _ => true) true fuel t cs = some x) : Lift P W (fun a : Int => [HVal.int k a]) (fun _ a => (Lit.int k a).wf = true) cs := by
 obtain ⟨n, rfl, _, hwf⟩ := DataW.trod_int ht hd
 exact .here n (fun σ => VRels.cons rfl VRels.nil) (fun x hx => by simp at hx; subst hx; rfl) fun _ => hwf
end
end
end Go.HL
namespace Go.HL
open Go
noncomputable section
theorem wrapF_u8 (n : Int) : wrapF .u8 n = n % 256 := by
 rw [wrapF_eq]
 simp [IntKind.wrap, IntKind.bits, IntKind.signed]
section
variable {P : Program} {K : CallFn} {ops : Array Oper} {o : Oper} {L : Sts} {h h' : Heap} {m n : Nat} {R : Sts → Heap → Prop} {tab : Tab} {v : HVal}
theorem V.bin {op : BinOp} {t p : Nat} {x y : Operand} {k j : IntKind} {a b : Int} (ho : o.op = .binOp op t x y p) (hx : evL P L x = some (.int k a)) (hy : evL P L y = some (.int j b)) (hr : binH P op t (.int k a) (.int j b) = some v) : OpV P o L h v h := OpV.mk ho fun ev ha d ty ps aft g => by
 simp only [opH, evS ha hx, evS ha hy, binC, hr, HL.val, obS]
theorem V.convW {s t n m : Nat} {x : Operand} {k j k' : IntKind} {a b : Int} (hT : tabOk P tab = true) (ho : o.op = .convert s t x) (hs : tyL tab s = some (.int k, n)) (ht : tyL tab t = some (.int k', m)) (hx : evL P L x = some (.int j a)) (hr : wrapF k' a = b) : OpV P o L h (.int k' b) h := OpV.mk ho fun ev ha d ty ps aft g => by
 have e1 := tab_int hT hs
 have e2 := tab_int hT ht
 have e3 : toBytes P s t = none := by simp only [toBytes, e1]
 simp only [opH, e3, convH, e1, e2, evS ha hx, HVal.isInt, obS, hr]
end
theorem bin_mul {P : Program} {t : Nat} {k : IntKind} {a b : Int} : binH P .mul t (.int k a) (.int k b) = some (.int k (wrapF k (a * b))) := by
 cases k <;> rfl
theorem bin_add {P : Program} {t : Nat} {k : IntKind} {a b : Int} : binH P .add t (.int k a) (.int k b) = some (.int k (wrapF k (a + b))) := by
 cases k <;> rfl
theorem bin_sub {P : Program} {t : Nat} {k : IntKind} {a b : Int} : binH P .sub t (.int k a) (.int k b) = some (.int k (wrapF k (a - b))) := by
 cases k <;> rfl
theorem bin_rem {P : Program} {t : Nat} {k : IntKind} {a b : Nat} (hb : b ≠ 0) : binH P .rem t (.int k (a : Int)) (.int k (b : Int)) = some (.int k ((a % b : Nat) : Int)) := by
 have h : ieq (b : Int) (.ofNat 0) = false := by
  cases b with
  | zero => exact absurd rfl hb
  | succ b => rfl
 have e : binH P .rem t (.int k (a : Int)) (.int k (b : Int)) = bcase (ieq (b : Int) (.ofNat 0)) none (some (.int k (Int.tmod a b))) := by cases k <;> rfl
 rw [e, h, bcF]
 rfl
theorem bin_quo {P : Program} {t : Nat} {k : IntKind} {a b : Nat} (hb : b ≠ 0) : binH P .quo t (.int k (a : Int)) (.int k (b : Int)) = some (.int k (wrapF k ((a / b : Nat) : Int))) := by
 have h : ieq (b : Int) (.ofNat 0) = false := by
  cases b with
  | zero => exact absurd rfl hb
  | succ b => rfl
 have e : binH P .quo t (.int k (a : Int)) (.int k (b : Int)) = bcase (ieq (b : Int) (.ofNat 0)) none (some (.int k (wrapF k (Int.tdiv a b)))) := by cases k <;> rfl
 rw [e, h, bcF]
 rfl
end
end Go.HL
namespace Go.HL
open Go
noncomputable section
inductive FreeAt (h : Heap) : HVal → Prop
 | nils : FreeAt h .nils
 | empty : FreeAt h .empty
 | slice (k off c : Nat) (l : List HVal) (s r : Bool) (hg : h.get k = some (.cells l 0 s r)) : FreeAt h (.slice k off c none)
section
variable {P : Program} {K : CallFn} {ops : Array Oper} {o : Oper} {L : Sts} {h h' : Heap} {m n : Nat} {R : Sts → Heap → Prop} {tab : Tab}
end
end
end Go.HL
namespace Go.HL
open Go
noncomputable section
def byteCells (l : List Nat) : List HVal := l.map fun b => .int .u8 (.ofNat b)
def codeN (l : List Nat) (a : Nat) : Nat := l.foldl (fun a b => a * 256 + b) a
theorem bytesCode_cells : ∀ {l : List Nat} (a : Nat), (∀ x ∈ l, x < 256) → bytesCode (byteCells l) a = some (codeN l a)
 | [], a, _ => rfl
 | b :: l, a, h => by
  have hb : Nat.blt b 256 = true := by rw [nblt]; exact decide_eq_true (h b (by simp))
  show bcase (Nat.blt b 256) (bytesCode (byteCells l) (Nat.add (Nat.mul a 256) b)) none = _
  rw [hb, bcT, bytesCode_cells _ fun x hx => h x (by simp [hx])]
  rfl
theorem loadN_app {h : Heap} {e w c : Nat} {v : HVal} {l : List HVal} {d : Option Nat} (a : App h e w v c l d) {k off n : Nat} {cap : Option Nat} (hv : v = .slice k off n cap) : loadN h k off (n * w) = some l := by
 cases a with
 | nils => cases hv
 | @full _ _ _ _ L _ _ _ hg hl hd =>
  cases hv
  have h1 := congrArg List.length hd
  rw [List.length_take] at h1
  unfold loadN
  rw [cells_get hg, obS]
  show takeK (dropN _ _) _ some = _
  have h2 : c * w ≤ (List.drop off L).length := Nat.le_trans (by omega) (Nat.min_le_right (c * w) _)
  rw [dropN_eq, takeK_eq, if_pos h2, hd]
 | own hg hl hd =>
  cases hv
  have h1 := congrArg List.length hd
  rw [List.length_drop] at h1
  unfold loadN
  rw [cells_get hg, obS]
  show takeK (dropN _ _) _ some = _
  rw [dropN_eq, takeK_eq, hd, if_pos (by omega), List.take_of_length_le (by omega)]
 | rest hg => cases hv
variable {P : Program} {o : Oper} {L : Sts} {h : Heap} {tab : Tab}
theorem V.strOf {s t e n m q : Nat} {x : Operand} {v : HVal} {bs : List Nat} {c : Nat} {d : Option Nat} {e' : Nat} (hT : tabOk P tab = true) (ho : o.op = .convert s t x) (hs : tyL tab s = some (.slice e, n)) (he : tyL tab e = some (.int .u8, q)) (ht : tyL tab t = some (.str, m)) (hx : evL P L x = some v)
  (hn : ∀ k, v ≠ .rest k) {l : List HVal} (ha : App h e' 1 v c l d) (hl : l = byteCells bs) (hb : ∀ b ∈ bs, b < 256) : OpV P o L h (.str bs.length (codeN bs 0)) h := OpV.mk ho fun ev hag dd ty ps aft g => by
 have e1 := (tab_slice hT hs).1
 have e2 := tab_int hT he
 have e3 := tab_str hT ht
 have e4 : toBytes P s t = none := by simp only [toBytes, e1]
 have hlen : bs.length = c := by have := ha.length; rw [hl] at this; simpa [byteCells] using this
 have hv : v = .nils ∨ ∃ k off cap, v = .slice k off c cap := by
  cases ha with
  | nils => exact .inl rfl
  | full _ _ _ => exact .inr ⟨_, _, _, rfl⟩
  | own _ _ _ => exact .inr ⟨_, _, _, rfl⟩
  | rest _ => exact absurd rfl (hn _)
 rcases hv with rfl | ⟨k, off, cap, rfl⟩
 ·have hz : bs = [] := by
   cases ha with
   | nils => simpa [byteCells] using hl.symm
  subst hz
  simp only [opH, e4, convH, e1, e2, e3, evS hag hx]
  rfl
 ·have h2 := loadN_app ha rfl
  rw [Nat.mul_one, hl] at h2
  simp only [opH, e4, convH, e1, e2, e3, evS hag hx, h2, obS, bytesCode_cells 0 hb, hlen]
end
end Go.HL
namespace Go.HL
open Go
noncomputable section
variable {P : Program} {K : CallFn} {ops : Array Oper} {o : Oper} {L : Sts} {h h' : Heap} {m n : Nat} {R : Sts → Heap → Prop} {tab : Tab}
end
end Go.HL
namespace Go.HL
open Go
noncomputable section
structure But (k : Nat) (h h' : Heap) : Prop where
 keep : ∀ {j : Nat} {o : HObj}, j ≠ k → h.get j = some o → h'.get j = some o
 next : h.next ≤ h'.next
theorem But.trans {k : Nat} {h h' h2 : Heap} (a : But k h h') (b : But k h' h2) : But k h h2 := ⟨fun n e => b.keep n (a.keep n e), Nat.le_trans a.next b.next⟩
theorem Row.but {k j off : Nat} {h h' : Heap} {l : List HVal} (b : But k h h') (hj : j ≠ k) (r : Row h j off l) : Row h' j off l := by
 refine ⟨?_⟩
 have hr := r.load
 unfold loadN at hr ⊢
 obtain ⟨o, ho, e⟩ := ob_eq_some.1 hr
 have : h'.cells j = some o := by
  unfold Heap.cells at ho ⊢
  cases hg : h.get j with
  | none => rw [hg] at ho; cases ho
  | some ob => rw [b.keep hj hg]; rw [hg] at ho; exact ho
 rw [this]
 exact e
end
end Go.HL
namespace Go.HL
open Go
noncomputable section
theorem wrapF_i64_nat {n : Nat} (h : n < 9223372036854775808) : wrapF .i64 (n : Int) = (n : Int) := wI (by omega) (by omega)
variable {P : Program} {K : CallFn} {ops : Array Oper} {o : Oper} {L : Sts} {h h' : Heap} {m n : Nat} {R : Sts → Heap → Prop} {tab : Tab}
theorem V.nilCheck {x : Operand} {k off : Nat} (ho : o.op = .nilCheck x) (hx : evL P L x = some (.ptr k off)) : OpV P o L h (.ptr k off) h := OpV.mk ho fun ev ha d ty ps aft g => by
 simp only [opH, evS ha hx]
def Typed (h : Heap) (k : Nat) : Prop := ∀ l s r, h.get k ≠ some (.cells l 0 s r)
theorem FreeAt.but {k : Nat} {v : HVal} (b : But k h h') (hk : Typed h k) : FreeAt h v → FreeAt h' v
 | .nils => .nils
 | .empty => .empty
 | .slice j off c l s r hg => .slice j off c l s r (b.keep (fun e => by subst e; exact hk _ _ _ hg) hg)
theorem SliceAt.but {k w : Nat} {v : HVal} {rows : List (List HVal)} (b : But k h h') (hk : Typed h k) (f : FreeAt h v) (s : SliceAt h v w rows) : SliceAt h' v w rows := by
 refine ⟨s.1, fun i r hr => ?_⟩
 obtain ⟨j, off, cap, e, hrow⟩ := s.2 i r hr
 subst e
 refine ⟨j, off, cap, rfl, hrow.but b ?_⟩
 cases f with
 | slice j off c l s r hg => exact fun e => by subst e; exact hk _ _ _ hg
end
end Go.HL
