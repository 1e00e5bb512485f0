/- HL: operations, first part. No statement of the seat stands here. -/
import Derived.Test.YtolkehkjhpnioaaGreatDoorHlA
import Derived.Laws.StructEq
import Derived.IntWalk
import Derived.ChangeKeysEq
namespace Go.HL
open Go
section types
variable {P : Program}
theorem info_of_underlying {t : TypeId} {d : TypeDesc} (h : P.underlying t = some d) : ∃ i, P.info? t = some i := by
 unfold Program.underlying at h
 cases hi : P.info? t with
 | none => simp [hi] at h
 | some i => exact ⟨i, rfl⟩
theorem run_sizeOf' (w : World) {t : TypeId} {i : TypeInfo} (h : P.info? t = some i) : (sizeOf t).run P w = .ok (P.cellsOf t) w := by
 simp [sizeOf, typeInfo, h, Program.cellsOf]
theorem rU (w : World) {t : TypeId} {d : TypeDesc} (h : P.underlying t = some d) : (underlying t).run P w = .ok d w := by
 simp [underlying, h]
theorem run_isAgg' (w : World) {t : TypeId} {b : Bool} (h : aggOf P t = some b) : (isAgg t).run P w = .ok b w := by
 unfold aggOf at h
 obtain ⟨d, hd, e⟩ := ob_eq_some.1 h
 simp only [Option.some.injEq] at e
 subst e
 cases d <;> simp [isAgg, rU w hd, aggDesc]
theorem info_of_agg {t : TypeId} {b : Bool} (h : aggOf P t = some b) : ∃ i, P.info? t = some i := by
 unfold aggOf at h
 obtain ⟨d, hd, _⟩ := ob_eq_some.1 h
 exact info_of_underlying hd
end types
/-! ## Closed values -/
mutual
theorem ofValue_rel {σ : Places} : ∀ {v : Value} {x : HVal}, ofValue v = some x → VRel σ x v
 | .bool b, x, h => by simp [ofValue] at h; subst h; simp [VRel]
 | .int k n, x, h => by simp [ofValue] at h; subst h; simp [VRel]
 | .string s, x, h => by simp [ofValue] at h; subst h; exact ⟨s, rfl, rfl, rfl⟩
 | .pointer none, x, h => by simp [ofValue] at h; subst h; simp [VRel]
 | .pointer (some a), x, h => by simp [ofValue] at h
 | .slice none 0 0, x, h => by simp [ofValue] at h; subst h; simp [VRel]
 | .slice none 0 (n + 1), x, h => by simp [ofValue] at h
 | .slice none (n + 1) c, x, h => by simp [ofValue] at h
 | .slice (some a) n c, x, h => by simp [ofValue] at h
 | .map none, x, h => by simp [ofValue] at h; subst h; simp [VRel]
 | .map (some r), x, h => by simp [ofValue] at h
 | .nilFunc, x, h => by simp [ofValue] at h; subst h; simp [VRel]
 | .nilIface, x, h => by simp [ofValue] at h; subst h; simp [VRel]
 | .agg ⟨l⟩, x, h => by
  simp only [ofValue] at h
  cases hl : ofCells l with
  | none => simp [hl] at h
  | some m => simp [hl] at h; subst h; obtain ⟨a, b⟩ := ofCells_rel (σ := σ) hl; exact ⟨l, rfl, a, b⟩
 | .tuple ⟨[]⟩, x, h => by simp [ofValue] at h; subst h; exact ⟨[], rfl, VRels.nil⟩
 | .tuple ⟨_ :: _⟩, x, h => by simp [ofValue] at h
 | .func (.func f) ⟨[]⟩ ⟨[]⟩, x, h => by simp [ofValue] at h; subst h; exact ⟨[], [], rfl, VRels.nil, VRels.nil⟩
 | .func (.func f) ⟨[]⟩ ⟨_ :: _⟩, x, h => by simp [ofValue] at h
 | .func (.func f) ⟨_ :: _⟩ _, x, h => by simp [ofValue] at h
 | .func (.method _) _ _, x, h => by simp [ofValue] at h
 | .func (.methodOf _ _) _ _, x, h => by simp [ofValue] at h
 | .func (.via _ _ _ _) _ _, x, h => by simp [ofValue] at h
 | .func (.yield _) _ _, x, h => by simp [ofValue] at h
 | .float _ _, x, h => by simp [ofValue] at h
 | .complex _ _ _, x, h => by simp [ofValue] at h
 | .chan _, x, h => by simp [ofValue] at h
 | .iface _ _, x, h => by simp [ofValue] at h
theorem ofCells_rel {σ : Places} : ∀ {l : List Value} {m : List HVal}, ofCells l = some m → VRels σ m l ∧ ∀ x ∈ m, x.scalar = true
 | [], m, h => by simp [ofCells] at h; subst h; exact ⟨VRels.nil, by simp⟩
 | v :: l, m, h => by
  simp only [ofCells] at h
  cases hv : ofValue v with
  | none => simp [hv] at h
  | some x =>
   cases hs : x.scalar with
   | false => simp [hv, hs] at h
   | true =>
    cases hl : ofCells l with
    | none => simp [hv, hs, hl] at h
    | some y =>
     simp [hv, hs, hl] at h
     subst h
     obtain ⟨a, b⟩ := ofCells_rel (σ := σ) hl
     exact ⟨VRels.cons (ofValue_rel hv) a, fun z hz => by cases hz with | head => exact hs | tail _ hz => exact b z hz⟩
end
/-! ## Reading -/
section memory
variable {P : Program} {σ : Places} {h : Heap} {w : World}
theorem cells_inv {k : Nat} {o : List HVal × Nat × Bool × Bool} (e : h.cells k = some o) : h.get k = some (.cells o.1 o.2.1 o.2.2.1 o.2.2.2) := by
 unfold Heap.cells at e
 obtain ⟨b, hb, e⟩ := ob_eq_some.1 e
 cases b <;> simp [HObj.isCells] at e
 subst e; exact hb
theorem entries_inv {k : Nat} {o : List HEnt × Nat × Bool} (e : h.entries k = some o) : h.get k = some (.map o.1 o.2.1 o.2.2) := by
 unfold Heap.entries at e
 obtain ⟨b, hb, e⟩ := ob_eq_some.1 e
 cases b <;> simp [HObj.isMap] at e
 subst e; exact hb
theorem Rel.cells (r : Rel P σ h w) {k : Nat} {q : Place} (hq : σ k = some q) {o : List HVal × Nat × Bool × Bool} (e : h.cells k = some o) :
  ∃ p, σ k = some p ∧ ORel P σ p (.cells o.1 o.2.1 o.2.2.1 o.2.2.2) w.heap[p.blk]? := ⟨q, hq, r.obj k _ q (cells_inv e) rfl hq⟩
theorem ORel.cell {p : Place} {l : List HVal} {ety : Nat} {s rw : Bool} (e : ORel P σ p (.cells l ety s rw) w.heap[p.blk]?) {i : Nat} {x : HVal} (hx : l[i]? = some x) :
  ∃ v, w.cell? ⟨p.blk, p.base + i, none⟩ = some v ∧ VRel σ x v ∧ x.scalar = true := by
 obtain ⟨C, elem, fr, hb, hl, hs, _⟩ := e
 obtain ⟨v, hv, hr⟩ := hl.get hx
 refine ⟨v, ?_, hr, hs x (List.mem_of_getElem? hx)⟩
 have hi : i < l.length := (List.getElem?_eq_some_iff.1 hx).1
 rw [List.getElem?_take] at hv
 simp only [hi, if_true, List.getElem?_drop] at hv
 simp only [World.cell?, hb]
 simpa using hv
theorem load1_rel (r : Rel P σ h w) {k off : Nat} {x : HVal} {p : Place} (hp : σ k = some p) (e : load1 h k off = some x) :
  ∃ v, w.cell? ⟨p.blk, p.base + off, none⟩ = some v ∧ VRel σ x v ∧ x.scalar = true := by
 unfold load1 at e
 obtain ⟨o, ho, e⟩ := ob_eq_some.1 e
 obtain ⟨q, hq, ro⟩ := r.cells hp ho
 rw [hp] at hq; cases hq
 rw [nth_eq] at e
 exact ro.cell e
theorem addr_add (b o i : Nat) : Addr.add ⟨b, o, none⟩ i = ⟨b, o + i, none⟩ := by
 unfold Addr.add
 split
 ·subst_vars; rfl
 ·rfl
theorem cells_at {p : Place} {l : List HVal} {ety : Nat} {s rw : Bool} (e : ORel P σ p (.cells l ety s rw) w.heap[p.blk]?) {off n : Nat} (hn : n ≤ (l.drop off).length) :
  ∃ vs : List Value, VRels σ ((l.drop off).take n) vs ∧ vs.length = n ∧ (∀ x ∈ (l.drop off).take n, x.scalar = true) ∧ ∀ j v, vs[j]? = some v → w.cell? (Addr.add ⟨p.blk, p.base + off, none⟩ j) = some v := by
 have e' := e
 obtain ⟨C, elem, fr, hb, hl, hs, _⟩ := e
 refine ⟨((((C.toList.drop p.base).take l.length).drop off).take n), (hl.drop off).take n, by rw [← ((hl.drop off).take n).length]; simp at hn ⊢; omega, fun x hx => hs x (List.mem_of_mem_drop (List.mem_of_mem_take hx)), fun j v hv => ?_⟩
 rw [addr_add]
 simp only [List.getElem?_take, List.getElem?_drop] at hv
 by_cases hj : j < n
 ·simp only [hj, if_true] at hv
  by_cases hj' : off + j < l.length
  ·simp only [hj', if_true] at hv
   simp only [World.cell?, hb]
   simpa [Nat.add_assoc] using hv
  ·simp [hj'] at hv
 ·simp [hj] at hv
theorem loadN_rel (r : Rel P σ h w) {k off n : Nat} {l : List HVal} {p : Place} (hp : σ k = some p) (e : loadN h k off n = some l) :
  ∃ vs : List Value, VRels σ l vs ∧ l.length = n ∧ (∀ x ∈ l, x.scalar = true) ∧ (∀ j v, vs[j]? = some v → w.cell? (Addr.add ⟨p.blk, p.base + off, none⟩ j) = some v) ∧
   (loadCells ⟨p.blk, p.base + off, none⟩ n).run P w = .ok ⟨vs⟩ w := by
 unfold loadN at e
 obtain ⟨o, ho, e⟩ := ob_eq_some.1 e
 obtain ⟨q, hq, ro⟩ := r.cells hp ho
 rw [hp] at hq; cases hq
 rw [takeK_eq, dropN_eq] at e
 by_cases hn : n ≤ (o.1.drop off).length
 ·rw [if_pos hn] at e
  cases e
  obtain ⟨vs, h1, hlen, h2, h3⟩ := cells_at ro hn
  exact ⟨vs, h1, by rw [h1.length, hlen], h2, h3, by rw [← hlen]; exact run_loadCells_list w _ vs h3⟩
 ·rw [if_neg hn] at e; cases e
theorem loadT_rel (r : Rel P σ h w) {t : TypeId} {k off : Nat} {x : HVal} {p : Place} (hp : σ k = some p) (e : loadT P h t k off = some x) :
  ∃ v, (loadVar t ⟨p.blk, p.base + off, none⟩).run P w = .ok v w ∧ VRel σ x v := by
 unfold loadT at e
 obtain ⟨b, hb, e⟩ := ob_eq_some.1 e
 cases b with
 | true =>
  obtain ⟨l, hl, e⟩ := ob_eq_some.1 e
  cases e
  obtain ⟨vs, h1, _, h2, _, h3⟩ := loadN_rel r hp hl
  obtain ⟨i, hi⟩ := info_of_agg hb
  exact ⟨.agg ⟨vs⟩, by simp [loadVar, run_isAgg' w hb, run_sizeOf' w hi, h3], vs, rfl, h1, h2⟩
 | false =>
  obtain ⟨v, hv, hr, _⟩ := load1_rel r hp e
  exact ⟨v, by simp [loadVar, run_isAgg' w hb, hv], hr⟩
end memory
/-! ## Writing -/
theorem setCell_at (w : World) (b i : Nat) (v : Value) (C : Array Value) (elem : TypeId) (fr : Nat × Nat) (hb : w.heap[b]? = some (.cells C elem fr)) :
  (w.setCell ⟨b, i, none⟩ v).heap[b]? = some (.cells (C.setIfInBounds i v) elem fr) := by
 simp [World.setCell, Array.getElem?_modify, hb]
theorem setCell_other (w : World) (b i : Nat) (v : Value) (b' : Nat) (h : b' ≠ b) : (w.setCell ⟨b, i, none⟩ v).heap[b']? = w.heap[b']? := by
 simp [World.setCell, Array.getElem?_modify, Ne.symm h]
theorem run_storeCells' (P : Program) (b o : Nat) (elem : TypeId) : ∀ (vs : List Value) (i : Nat) (w : World) (C : Array Value),
  w.heap[b]? = some (.cells C elem (0, 0)) → o + i + vs.length ≤ C.size → (∀ v ∈ vs, v.oneCell' = true) →
  ∃ w' C', (storeCells ⟨b, o, none⟩ vs i).run P w = .ok () w' ∧ w'.heap[b]? = some (.cells C' elem (0, 0)) ∧
   C'.toList = C.toList.take (o + i) ++ vs ++ C.toList.drop (o + i + vs.length) ∧ (∀ b', b' ≠ b → w'.heap[b']? = w.heap[b']?) ∧
   w'.os = w.os ∧ w'.tape = w.tape ∧ w'.output = w.output ∧ w'.heap.size = w.heap.size
 | [], i, w, C, hb, _, _ => ⟨w, C, by simp [storeCells], hb, by simp, fun _ _ => rfl, rfl, rfl, rfl, rfl⟩
 | v :: vs, i, w, C, hb, hn, hv => by
  have hlt : o + i < C.size := by simp at hn; omega
  have hcell : w.cell? ⟨b, o + i, none⟩ = some C[o + i] := by simp [World.cell?, hb, hlt]
  have hfr : w.frozen? ⟨b, o + i, none⟩ = false := by simp [World.frozen?, hb]
  have hst : (store (Addr.add ⟨b, o, none⟩ i) v).run P w = .ok () (w.setCell ⟨b, o + i, none⟩ v) := by
   rw [addr_add, run_store P w _ v .plain (hv v (by simp)), hcell]
   simp [hfr]
  obtain ⟨w', C', h1, h2, h3, h4, h5, h6, h7, h8⟩ := run_storeCells' P b o elem vs (i + 1) (w.setCell ⟨b, o + i, none⟩ v) (C.setIfInBounds (o + i) v)
   (setCell_at w b (o + i) v C elem (0, 0) hb) (by simp at hn ⊢; omega) (fun u hu => hv u (by simp [hu]))
  refine ⟨w', C', ?_, h2, ?_, fun b' hb' => (h4 b' hb').trans (setCell_other w b (o + i) v b' hb'), h5, h6, h7, by rw [h8]; simp⟩
  ·simp [storeCells, hst, h1]
  ·rw [h3]
   simp only [Array.toList_setIfInBounds, List.length_cons]
   rw [← Nat.add_assoc o i 1, List.take_set, List.drop_set]
   have e1 : (C.toList.take (o + i + 1)).set (o + i) v = C.toList.take (o + i) ++ [v] := by
    rw [List.take_succ_eq_append_getElem (by simpa using hlt), List.set_append_right _ _ (by simp; omega)]
    simp [Nat.min_eq_left (Nat.le_of_lt hlt)]
   rw [e1, if_pos (by omega)]
   simp [Nat.add_assoc, Nat.add_comm 1]
end Go.HL
namespace Go.HL
open Go
@[simp] theorem Heap.get_put (h : Heap) (k j : Nat) (o : HObj) : (h.put k o).get j = if j = k then some o else h.get j := T.get_set _ _ _ _
@[simp] theorem Heap.get_new (h : Heap) (j : Nat) (o : HObj) : (h.new o).get j = if j = h.next then some o else h.get j := T.get_set _ _ _ _
@[simp] theorem Heap.next_put (h : Heap) (k : Nat) (o : HObj) : (h.put k o).next = h.next := rfl
@[simp] theorem Heap.next_new (h : Heap) (o : HObj) : (h.new o).next = h.next + 1 := rfl
theorem HObj.live_of_owned {o : HObj} (h : o.owned = true) : o.live = true := by cases o <;> simp [HObj.owned, HObj.live] at h ⊢
def Places.upd (σ : Places) (k : Nat) (p : Place) : Places := fun j => if j = k then some p else σ j
theorem Places.upd_same (σ : Places) (k : Nat) (p : Place) : σ.upd k p k = some p := by simp [Places.upd]
theorem Places.upd_other (σ : Places) {k j : Nat} (p : Place) (h : j ≠ k) : σ.upd k p j = σ j := by simp [Places.upd, h]
theorem Places.le_upd {σ : Places} {k : Nat} (p : Place) (h : σ k = none) : σ.le (σ.upd k p) := fun j q e => by
 by_cases hj : j = k
 ·subst hj; rw [h] at e; cases e
 ·rw [σ.upd_other p hj]; exact e
section
variable {P : Program} {σ : Places} {h : Heap} {w : World}
theorem Rel.next_none (r : Rel P σ h w) : σ h.next = none := r.fresh _ (Nat.le_refl _)
theorem Rel.lt_of_place (r : Rel P σ h w) {k : Nat} {p : Place} (hp : σ k = some p) : k < h.next := by
 rcases Nat.lt_or_ge k h.next with e | e
 ·exact e
 ·rw [r.fresh k e] at hp; cases hp
theorem Step.put (r : Rel P σ h w) {k : Nat} {o o' : HObj} {p : Place} {w' : World} (hk : h.get k = some o) (ho : o.owned = true) (hp : σ k = some p)
  (hr : ORel P σ p o' w'.heap[p.blk]?) (hoth : ∀ b, b ≠ p.blk → w'.heap[b]? = w.heap[b]?) (hsz : w'.heap.size = w.heap.size)
  (hos : w'.os = w.os) (htape : w'.tape = w.tape) (hout : w'.output = w.output) : Step P σ h w σ (h.put k o') w' := by
 have hown : Own σ h p.blk := ⟨k, o, p, hk, ho, hp, rfl⟩
 refine ⟨σ.le_refl, ⟨?_, r.fresh, fun j b hj => by
   rw [Heap.get_put] at hj
   by_cases e : j = k
   ·subst e; exact r.lt_of_place hp
   ·rw [if_neg e] at hj; exact r.dom j b hj, fun j q hj => by rw [hsz]; exact r.inb j q hj, ?_, r.glob⟩, ⟨hos, htape, hout, by omega, fun b hb hn => hoth b fun e => hn (e ▸ hown)⟩, ?_, Nat.le_refl _, fun _ _ => rfl, ?_⟩
 ·intro j b q hj hl hq
  rw [Heap.get_put] at hj
  by_cases e : j = k
  ·subst e
   rw [if_pos rfl] at hj; cases hj
   rw [hp] at hq; cases hq
   exact hr
  ·rw [if_neg e] at hj
   rw [hoth q.blk (r.inj k j o b p q hk hj ho hl (Ne.symm e) hp hq).symm]; exact r.obj j b q hj hl hq
 ·intro i j a b pi pj hi hj ha hb hne hpi hpj
  rw [Heap.get_put] at hi hj
  by_cases ei : i = k
  ·subst ei
   rw [hp] at hpi; cases hpi
   rw [if_neg (Ne.symm hne)] at hj
   exact r.inj i j o b p pj hk hj ho hb hne hp hpj
  ·rw [if_neg ei] at hi
   by_cases ej : j = k
   ·subst ej
    rw [hp] at hpj; cases hpj
    exact r.inj i j a o pi p hi hk ha (HObj.live_of_owned ho) hne hpi hp
   ·rw [if_neg ej] at hj
    exact r.inj i j a b pi pj hi hj ha hb hne hpi hpj
 ·rintro b hb ⟨i, a, q, hi, ha, hq, rfl⟩
  rw [Heap.get_put] at hi
  by_cases ei : i = k
  ·subst ei
   rw [hp] at hq; cases hq
   exact hown
  ·rw [if_neg ei] at hi
   exact ⟨i, a, q, hi, ha, hq, rfl⟩
 ·intro j _ hj
  rw [Heap.get_put, if_neg]
  rintro rfl
  rw [hp] at hj; cases hj
theorem Step.new (r : Rel P σ h w) {o : HObj} {p : Place} {b : Obj} (hp : p.blk = w.heap.size) (hr : ORel P (σ.upd h.next p) p o (some b)) :
  Step P σ h w (σ.upd h.next p) (h.new o) (w.alloc b) := by
 have hle := Places.le_upd p r.next_none
 have hold : ∀ q, q < w.heap.size → (w.alloc b).heap[q]? = w.heap[q]? := fun q hq => RowKit.Below.heap_alloc w b q hq
 have hnew : (w.alloc b).heap[w.heap.size]? = some b := by show (w.heap.push b)[w.heap.size]? = some b; simp
 refine ⟨hle, ⟨?_, ?_, fun j a hj => by
   rw [Heap.get_new] at hj
   by_cases e : j = h.next
   ·subst e; simp
   ·rw [if_neg e] at hj; have := r.dom j a hj; simp; omega, ?_, ?_, ?_⟩, ⟨rfl, rfl, rfl, by simp, fun q hq _ => hold q hq⟩, ?_, by simp, fun j hj => σ.upd_other p (Nat.ne_of_lt hj), fun j hj _ => by rw [Heap.get_new, if_neg (Nat.ne_of_lt hj)]⟩
 ·intro j a q hj hl hq
  rw [Heap.get_new] at hj
  by_cases e : j = h.next
  ·subst e
   rw [if_pos rfl] at hj; cases hj
   rw [σ.upd_same] at hq; cases hq
   rw [hp, hnew]; exact hr
  ·rw [if_neg e] at hj
   rw [σ.upd_other p e] at hq
   rw [hold _ (r.inb j q hq)]; exact (r.obj j a q hj hl hq).mono hle
 ·intro j hj
  rw [σ.upd_other p (by simp at hj; omega)]
  exact r.fresh j (by simp at hj; omega)
 ·intro j q hj
  by_cases e : j = h.next
  ·subst e
   rw [σ.upd_same] at hj; cases hj
   simp [hp]
  ·rw [σ.upd_other p e] at hj
   have := r.inb j q hj
   simp; omega
 ·intro i j a c pi pj hi hj ha hc hne hpi hpj
  rw [Heap.get_new] at hi hj
  by_cases ei : i = h.next
  ·subst ei
   rw [σ.upd_same] at hpi; cases hpi
   rw [σ.upd_other p (Ne.symm hne)] at hpj
   have := r.inb j pj hpj
   omega
  ·rw [if_neg ei] at hi
   rw [σ.upd_other p ei] at hpi
   by_cases ej : j = h.next
   ·subst ej
    rw [σ.upd_same] at hpj; cases hpj
    have := r.inb i pi hpi
    omega
   ·rw [if_neg ej] at hj
    rw [σ.upd_other p ej] at hpj
    exact r.inj i j a c pi pj hi hj ha hc hne hpi hpj
 ·intro g hg
  obtain ⟨q, hq, hb⟩ := r.glob g hg
  exact ⟨q, hle _ _ hq, hb⟩
 ·rintro q hq ⟨i, a, pi, hi, ha, hpi, rfl⟩
  rw [Heap.get_new] at hi
  by_cases ei : i = h.next
  ·subst ei
   rw [σ.upd_same] at hpi; cases hpi
   omega
  ·rw [if_neg ei] at hi
   rw [σ.upd_other p ei] at hpi
   exact ⟨i, a, pi, hi, ha, hpi, rfl⟩
theorem Step.take (r : Rel P σ h w) {k : Nat} {o o' : HObj} {p p' : Place} {w' : World} (hk : h.get k = some o) (ho : o.owned = true) (hp : σ k = some p) (hb : p'.blk = p.blk)
  (hr : ORel P (σ.upd h.next p') p' o' w'.heap[p.blk]?) (hoth : ∀ b, b ≠ p.blk → w'.heap[b]? = w.heap[b]?) (hsz : w'.heap.size = w.heap.size)
  (hos : w'.os = w.os) (htape : w'.tape = w.tape) (hout : w'.output = w.output) :
  Step P σ h w (σ.upd h.next p') ((h.put k .dead).new o') w' := by
 have hle := Places.le_upd p' r.next_none
 have hown : Own σ h p.blk := ⟨k, o, p, hk, ho, hp, rfl⟩
 have hkn : k ≠ h.next := Nat.ne_of_lt (r.lt_of_place hp)
 refine ⟨hle, ⟨?_, ?_, fun j a hj => by
   rw [Heap.get_new, Heap.next_put, Heap.get_put] at hj
   by_cases e : j = h.next
   ·subst e; simp
   ·rw [if_neg e] at hj
    by_cases ek : j = k
    ·subst ek; have := r.lt_of_place hp; simp; omega
    ·rw [if_neg ek] at hj; have := r.dom j a hj; simp; omega, ?_, ?_, ?_⟩, ⟨hos, htape, hout, by omega, fun q hq hn => hoth q fun e => hn (e ▸ hown)⟩, ?_, by simp, fun j hj => σ.upd_other p' (Nat.ne_of_lt hj), ?_⟩
 ·intro j a q hj hl hq
  rw [Heap.get_new, Heap.next_put, Heap.get_put] at hj
  by_cases e : j = h.next
  ·subst e
   rw [if_pos rfl] at hj; cases hj
   rw [σ.upd_same] at hq; cases hq
   rw [hb]; exact hr
  ·rw [if_neg e] at hj
   by_cases ek : j = k
   ·subst ek; rw [if_pos rfl] at hj; cases hj; simp [HObj.live] at hl
   ·rw [if_neg ek] at hj
    rw [σ.upd_other p' e] at hq
    rw [hoth q.blk (r.inj k j o a p q hk hj ho hl (Ne.symm ek) hp hq).symm]; exact (r.obj j a q hj hl hq).mono hle
 ·intro j hj
  simp at hj
  rw [σ.upd_other p' (by omega)]
  exact r.fresh j (by omega)
 ·intro j q hj
  rw [hsz]
  by_cases e : j = h.next
  ·subst e
   rw [σ.upd_same] at hj; cases hj
   rw [hb]; exact r.inb k p hp
  ·rw [σ.upd_other p' e] at hj
   exact r.inb j q hj
 ·intro i j a c pi pj hi hj ha hc hne hpi hpj
  rw [Heap.get_new, Heap.next_put, Heap.get_put] at hi hj
  by_cases ei : i = h.next
  ·subst ei
   rw [σ.upd_same] at hpi; cases hpi
   rw [if_neg (Ne.symm hne)] at hj
   rw [σ.upd_other p' (Ne.symm hne)] at hpj
   by_cases ek : j = k
   ·subst ek; rw [if_pos rfl] at hj; cases hj; simp [HObj.live] at hc
   ·rw [if_neg ek] at hj
    rw [hb]; exact r.inj k j o c p pj hk hj ho hc (Ne.symm ek) hp hpj
  ·rw [if_neg ei] at hi
   rw [σ.upd_other p' ei] at hpi
   by_cases eik : i = k
   ·subst eik; rw [if_pos rfl] at hi; cases hi; simp [HObj.owned] at ha
   ·rw [if_neg eik] at hi
    by_cases ej : j = h.next
    ·subst ej
     rw [σ.upd_same] at hpj; cases hpj
     rw [hb]; exact r.inj i k a o pi p hi hk ha (HObj.live_of_owned ho) eik hpi hp
    ·rw [if_neg ej] at hj
     rw [σ.upd_other p' ej] at hpj
     by_cases ejk : j = k
     ·subst ejk; rw [if_pos rfl] at hj; cases hj; simp [HObj.live] at hc
     ·rw [if_neg ejk] at hj
      exact r.inj i j a c pi pj hi hj ha hc hne hpi hpj
 ·intro g hg
  obtain ⟨q, hq, hbq⟩ := r.glob g hg
  exact ⟨q, hle _ _ hq, hbq⟩
 ·rintro q hq ⟨i, a, pi, hi, ha, hpi, rfl⟩
  rw [Heap.get_new, Heap.next_put, Heap.get_put] at hi
  by_cases ei : i = h.next
  ·subst ei
   rw [σ.upd_same] at hpi; cases hpi
   rw [hb]; exact hown
  ·rw [if_neg ei] at hi
   rw [σ.upd_other p' ei] at hpi
   by_cases ek : i = k
   ·subst ek; rw [if_pos rfl] at hi; cases hi; simp [HObj.owned] at ha
   ·rw [if_neg ek] at hi
    exact ⟨i, a, pi, hi, ha, hpi, rfl⟩
 ·intro j hj hn
  rw [Heap.get_new, Heap.next_put, Heap.get_put, if_neg (Nat.ne_of_lt hj), if_neg]
  rintro rfl
  rw [hp] at hn; cases hn
theorem Step.kill (r : Rel P σ h w) {k : Nat} {p : Place} (hp : σ k = some p) : Step P σ h w σ (h.put k .dead) w := by
 refine ⟨σ.le_refl, ⟨?_, r.fresh, fun j b hj => by
   rw [Heap.get_put] at hj
   by_cases e : j = k
   ·subst e; exact r.lt_of_place hp
   ·rw [if_neg e] at hj; exact r.dom j b hj, r.inb, ?_, r.glob⟩, Kept.refl _ _, ?_, Nat.le_refl _, fun _ _ => rfl, ?_⟩
 ·intro j b q hj hl hq
  rw [Heap.get_put] at hj
  by_cases e : j = k
  ·subst e; rw [if_pos rfl] at hj; cases hj; simp [HObj.live] at hl
  ·rw [if_neg e] at hj; exact r.obj j b q hj hl hq
 ·intro i j a b pi pj hi hj ha hb hne hpi hpj
  rw [Heap.get_put] at hi hj
  by_cases ei : i = k
  ·subst ei; rw [if_pos rfl] at hi; cases hi; simp [HObj.owned] at ha
  ·by_cases ej : j = k
   ·subst ej; rw [if_pos rfl] at hj; cases hj; simp [HObj.live] at hb
   ·rw [if_neg ei] at hi; rw [if_neg ej] at hj
    exact r.inj i j a b pi pj hi hj ha hb hne hpi hpj
 ·rintro b hb ⟨i, a, q, hi, ha, hq, rfl⟩
  rw [Heap.get_put] at hi
  by_cases ei : i = k
  ·subst ei; rw [if_pos rfl] at hi; cases hi; simp [HObj.owned] at ha
  ·rw [if_neg ei] at hi; exact ⟨i, a, q, hi, ha, hq, rfl⟩
 ·intro j _ hj
  rw [Heap.get_put, if_neg]
  rintro rfl
  rw [hp] at hj; cases hj
theorem new_cells (r : Rel P σ h w) {l : List HVal} {vs : List Value} (hl : VRels σ l vs) (hs : ∀ x ∈ l, x.scalar = true) (e : TypeId) :
  ∃ τ : Places, τ h.next = some ⟨w.heap.size, 0, 0, vs.length⟩ ∧ Step P σ h w τ (h.new (.cells l e false true)) (w.alloc (.cells ⟨vs⟩ e)) := by
 refine ⟨σ.upd h.next ⟨w.heap.size, 0, 0, vs.length⟩, σ.upd_same _ _, Step.new r rfl ?_⟩
 refine ⟨⟨vs⟩, e, (0, 0), rfl, ?_, hs, fun _ => rfl, fun _ => ⟨rfl, by simp⟩, fun _ => ⟨rfl, by simp [hl.length]⟩, fun c => by simp at c, .inl rfl⟩
 rw [hl.length]
 simpa using hl.mono (Places.le_upd _ r.next_none)
theorem storeN_rel (r : Rel P σ h w) {k off : Nat} {l : List HVal} {h' : Heap} {p : Place} (hp : σ k = some p) (e : storeN h k off l = some h') {vs : List Value}
  (hl : VRels σ l vs) (hs : ∀ x ∈ l, x.scalar = true) :
  ∃ w', (storeCells ⟨p.blk, p.base + off, none⟩ vs).run P w = .ok () w' ∧ Step P σ h w σ h' w' := by
 unfold storeN at e
 obtain ⟨o, ho, e⟩ := ob_eq_some.1 e
 obtain ⟨hrw, e⟩ := bcase_eq_some.1 e
 obtain ⟨q, hq, ro⟩ := r.cells hp ho
 rw [hp] at hq; cases hq
 obtain ⟨C, elem, fr, hb, hc, hcs, hel, hown, hex, hsp⟩ := ro
 obtain ⟨rfl, hsz⟩ := hown hrw
 have hget := cells_inv ho
 rw [overK_eq] at e
 have one : ∀ v ∈ vs, v.oneCell' = true := by
  intro v hv
  obtain ⟨i, hi⟩ := List.getElem?_of_mem hv
  have hlt : i < l.length := by rw [hl.length]; exact (List.getElem?_eq_some_iff.1 hi).1
  obtain ⟨u, hu, hr⟩ := hl.get (List.getElem?_eq_getElem hlt)
  rw [hi] at hu; cases hu
  exact oneCell_of_scalar hr (hs _ (List.getElem_mem hlt))
 have hlen : o.1.length ≤ (C.toList.drop p.base).length := by have := hc.length; simp at this ⊢; omega
 by_cases hcond : l = [] ∨ off + l.length ≤ o.1.length
 ·rw [if_pos hcond] at e
  cases e
  by_cases hnil : l = []
  ·subst hnil
   obtain rfl := hl.nil_inv
   refine ⟨w, by simp [storeCells], Step.put r hget hrw hp ⟨C, elem, (0, 0), hb, ?_, ?_, hel, fun _ => ⟨rfl, hsz⟩, ?_, fun a _ => hsp.1 a hrw, hsp.2⟩ (fun _ _ => rfl) rfl rfl rfl rfl⟩
   ·simpa using hc
   ·simpa using hcs
   ·simpa using hex
  ·have hin : off + l.length ≤ o.1.length := hcond.resolve_left hnil
   have hvl := hl.length
   simp only [List.length_drop, Array.length_toList] at hlen
   have hbnd : p.base + off + 0 + vs.length ≤ C.size := by
    have : 0 < l.length := List.length_pos_iff.2 hnil
    omega
   obtain ⟨w', C', h1, h2, h3, h4, h5, h6, h7, h8⟩ := run_storeCells' P p.blk (p.base + off) elem vs 0 w C hb hbnd one
   have hsz' : C'.size = C.size := by
    have := congrArg List.length h3
    simp at this
    omega
   refine ⟨w', h1, Step.put r hget hrw hp ⟨C', elem, (0, 0), h2, ?_, ?_, hel, fun _ => ⟨rfl, by rw [hsz']; exact hsz⟩, ?_, fun a _ => hsp.1 a hrw, hsp.2⟩ h4 h8 h5 h6 h7⟩
   ·have hlen2 : (o.1.take off ++ l ++ o.1.drop (off + l.length)).length = o.1.length := by simp; omega
    rw [hlen2, h3, Nat.add_zero]
    have e1 : ((C.toList.take (p.base + off) ++ vs ++ C.toList.drop (p.base + off + vs.length)).drop p.base).take o.1.length =
      ((C.toList.drop p.base).take o.1.length).take off ++ vs ++ ((C.toList.drop p.base).take o.1.length).drop (off + l.length) := by
     apply List.ext_getElem?
     intro i
     simp only [List.getElem?_take, List.getElem?_drop, List.getElem?_append, List.length_take, List.length_append, List.length_drop, Array.length_toList]
     rw [hvl] at hin ⊢
     by_cases hi : i < o.1.length
     ·simp only [hi, if_true]
      by_cases h1 : i < off
      ·have c1 : p.base + i < min (p.base + off) C.size + vs.length := by omega
       have c2 : p.base + i < min (p.base + off) C.size := by omega
       have c3 : i < min off (min o.1.length (C.size - p.base)) + vs.length := by omega
       have c4 : i < min off (min o.1.length (C.size - p.base)) := by omega
       have c5 : p.base + i < p.base + off := by omega
       simp only [c1, c2, c3, c4, c5, h1, if_true]
      ·by_cases h2 : i < off + vs.length
       ·have c1 : p.base + i < min (p.base + off) C.size + vs.length := by omega
        have c2 : ¬ p.base + i < min (p.base + off) C.size := by omega
        have c3 : i < min off (min o.1.length (C.size - p.base)) + vs.length := by omega
        have c4 : ¬ i < min off (min o.1.length (C.size - p.base)) := by omega
        simp only [c1, c2, c3, c4, if_true, if_false]
        congr 1; omega
       ·have c1 : ¬ p.base + i < min (p.base + off) C.size + vs.length := by omega
        have c3 : ¬ i < min off (min o.1.length (C.size - p.base)) + vs.length := by omega
        have c5 : off + vs.length + (i - (min off (min o.1.length (C.size - p.base)) + vs.length)) < o.1.length := by omega
        simp only [c1, c3, c5, if_true, if_false]
        congr 1; omega
     ·simp only [hi, if_false]
      have c3 : ¬ i < min off (min o.1.length (C.size - p.base)) + vs.length := by omega
      have c5 : ¬ off + vs.length + (i - (min off (min o.1.length (C.size - p.base)) + vs.length)) < o.1.length := by omega
      simp only [c3, c5, if_false]
    rw [e1]
    exact ((hc.take off).append hl).append (hc.drop (off + l.length))
   ·intro x hx
    simp only [List.mem_append] at hx
    rcases hx with (hx | hx) | hx
    ·exact hcs x (List.mem_of_mem_take hx)
    ·exact hs x hx
    ·exact hcs x (List.mem_of_mem_drop hx)
   ·intro hf
    obtain ⟨a, b⟩ := hex hf
    exact ⟨a, by rw [hsz', b]; simp; omega⟩
 ·rw [if_neg hcond] at e; cases e
end
end Go.HL
namespace Go.HL
open Go
/-! ## Strings as numbers -/
theorem foldl_code (l : List UInt8) : ∀ a : Nat, l.foldl (fun a b => Nat.add (Nat.mul a 256) b.toNat) a = a * 256 ^ l.length + codeOf l := by
 induction l with
 | nil => intro a; simp [codeOf]
 | cons b l ih =>
  intro a
  have h0 : codeOf (b :: l) = (0 * 256 + b.toNat) * 256 ^ l.length + codeOf l := ih (0 * 256 + b.toNat)
  have h1 : (b :: l).foldl (fun a b => Nat.add (Nat.mul a 256) b.toNat) a = (a * 256 + b.toNat) * 256 ^ l.length + codeOf l := ih (a * 256 + b.toNat)
  rw [h1, h0]
  simp only [List.length_cons, Nat.pow_succ, Nat.zero_mul, Nat.zero_add, Nat.add_mul]
  have : a * 256 * 256 ^ l.length = a * (256 ^ l.length * 256) := by rw [Nat.mul_assoc, Nat.mul_comm 256]
  omega
theorem codeOf_nil : codeOf [] = 0 := rfl
theorem codeOf_cons (b : UInt8) (l : List UInt8) : codeOf (b :: l) = b.toNat * 256 ^ l.length + codeOf l := by
 have := foldl_code l (0 * 256 + b.toNat)
 simpa [codeOf] using this
theorem codeOf_append (l m : List UInt8) : codeOf (l ++ m) = codeOf l * 256 ^ m.length + codeOf m := by
 have := foldl_code m (codeOf l)
 rw [← this]
 simp [codeOf, List.foldl_append]
theorem codeOf_lt (l : List UInt8) : codeOf l < 256 ^ l.length := by
 induction l with
 | nil => simp [codeOf]
 | cons b l ih =>
  rw [codeOf_cons, List.length_cons, Nat.pow_succ]
  have hb : b.toNat ≤ 255 := by have := b.toNat_lt; omega
  have : b.toNat * 256 ^ l.length ≤ 255 * 256 ^ l.length := Nat.mul_le_mul_right _ hb
  omega
theorem codeOf_inj : ∀ (l m : List UInt8), l.length = m.length → codeOf l = codeOf m → l = m
 | [], [], _, _ => rfl
 | [], _ :: _, h, _ => by simp at h
 | _ :: _, [], h, _ => by simp at h
 | a :: l, b :: m, h, e => by
  simp only [List.length_cons, Nat.add_right_cancel_iff] at h
  rw [codeOf_cons, codeOf_cons, ← h] at e
  have h1 := codeOf_lt l
  have h2 := codeOf_lt m
  rw [← h] at h2
  have hpos : 0 < 256 ^ l.length := Nat.pow_pos (by decide)
  have e1 : (a.toNat * 256 ^ l.length + codeOf l) / 256 ^ l.length = a.toNat := by
   rw [Nat.mul_comm, Nat.mul_add_div hpos, Nat.div_eq_of_lt h1, Nat.add_zero]
  have e2 : (b.toNat * 256 ^ l.length + codeOf m) / 256 ^ l.length = b.toNat := by
   rw [Nat.mul_comm, Nat.mul_add_div hpos, Nat.div_eq_of_lt h2, Nat.add_zero]
  have hab : a.toNat = b.toNat := by rw [← e1, ← e2, e]
  have : codeOf l = codeOf m := by rw [hab] at e; omega
  rw [codeOf_inj l m h this, UInt8.toNat_inj.1 hab]
theorem pow_bits (k : Nat) : 2 ^ (8 * k) = 256 ^ k := by rw [Nat.pow_mul]
theorem code_piece (l : List UInt8) (a b : Nat) (h1 : a ≤ b) (h2 : b ≤ l.length) :
  codeOf ((l.drop a).take (b - a)) = codeOf l / 256 ^ (l.length - b) % 256 ^ (b - a) := by
 have e1 : codeOf l = codeOf (l.take b) * 256 ^ (l.length - b) + codeOf (l.drop b) := by
  conv => lhs; rw [← List.take_append_drop b l]
  rw [codeOf_append]; simp
 have hlt : codeOf (l.drop b) < 256 ^ (l.length - b) := by simpa using codeOf_lt (l.drop b)
 have hpos : 0 < 256 ^ (l.length - b) := Nat.pow_pos (by decide)
 have e2 : codeOf l / 256 ^ (l.length - b) = codeOf (l.take b) := by
  rw [e1, Nat.mul_comm, Nat.mul_add_div hpos, Nat.div_eq_of_lt hlt, Nat.add_zero]
 rw [e2]
 have e3 : l.take b = l.take a ++ (l.drop a).take (b - a) := by
  rw [← List.take_add]; congr 1; omega
 rw [e3, codeOf_append]
 have hlen : ((l.drop a).take (b - a)).length = b - a := by simp; omega
 have hlt2 := codeOf_lt ((l.drop a).take (b - a))
 rw [hlen] at hlt2 ⊢
 rw [Nat.mul_add_mod_self_right, Nat.mod_eq_of_lt hlt2]
theorem bytes_inj {a b : ByteArray} (h : a.data.toList = b.data.toList) : a = b := by
 obtain ⟨⟨x⟩⟩ := a; obtain ⟨⟨y⟩⟩ := b; simp at h; subst h; rfl
section
variable {σ : Places}
theorem str_eq {a b : ByteArray} : sEq a.size (codeOf a.data.toList) b.size (codeOf b.data.toList) = (a.toList == b.toList) := by
 unfold sEq
 rw [nbeq, nbeq, bcE, ByteArray.toList_eq, ByteArray.toList_eq]
 by_cases h : a.data.toList = b.data.toList
 ·have := bytes_inj h
  subst this; simp
 ·have : (a.data.toList == b.data.toList) = false := by simpa using fun e => h (by simpa using e)
  rw [this]
  by_cases hs : a.size = b.size
  ·simp only [hs, decide_true, if_true]
   exact decide_eq_false fun e => h (codeOf_inj _ _ (by simpa using hs) e)
  ·simp [hs]
theorem sIndex_eq (s : ByteArray) (i : Nat) (h : i < s.size) : sIndex s.size (codeOf s.data.toList) i = (s[i]'h).toNat := by
 show codeOf s.data.toList / 2 ^ (8 * (s.size - (i + 1))) % 256 = _
 rw [pow_bits]
 have := code_piece s.data.toList i (i + 1) (by omega) (by simp; omega)
 simp only [Nat.add_sub_cancel_left, Nat.pow_one] at this
 have hl : s.data.toList.length = s.size := by simp
 rw [hl] at this
 rw [← this]
 have e : (s.data.toList.drop i).take 1 = [s[i]'h] := by
  have hi : i < s.data.toList.length := by simpa using h
  rw [List.drop_eq_getElem_cons hi]
  simp [ByteArray.getElem_eq_getElem_data]
 rw [e]
 simp [codeOf_cons, codeOf_nil]
theorem sExtract_rel (s : ByteArray) (l h : Nat) (h1 : l ≤ h) (h2 : h ≤ s.size) : VRel σ (sExtract s.size (codeOf s.data.toList) l h) (.string (s.extract l h)) := by
 refine ⟨_, rfl, ?_, ?_⟩
 ·show (s.extract l h).size = h - l
  simp [ByteArray.size_extract]; omega
 ·show _ = codeOf s.data.toList / 2 ^ (8 * (s.size - h)) % 2 ^ (8 * (h - l))
  rw [pow_bits, pow_bits]
  have := code_piece s.data.toList l h h1 (by simpa using h2)
  have hl : s.data.toList.length = s.size := by simp
  rw [hl] at this
  rw [← this]
  congr 1
  simp [ByteArray.data_extract]
theorem strAdd_rel (a b : ByteArray) : VRel σ (.str (Nat.add a.size b.size) (Nat.add (Nat.mul (codeOf a.data.toList) (Nat.pow 2 (Nat.mul 8 b.size))) (codeOf b.data.toList))) (.string (a ++ b)) := by
 refine ⟨_, rfl, by simp, ?_⟩
 have : (a ++ b).data.toList = a.data.toList ++ b.data.toList := by simp
 rw [this, codeOf_append]
 show _ = codeOf a.data.toList * 2 ^ (8 * b.size) + _
 rw [pow_bits]; simp
end
/-! ## Numbers -/
theorem ieq_eq (a b : Int) : ieq a b = decide (a = b) := by
 cases a <;> cases b <;> simp [ieq, nbeq] <;> omega
theorem ile_eq (a b : Int) : ile a b = decide (a ≤ b) := by
 cases a <;> cases b <;> simp [ile, nble] <;> omega
theorem ilt_eq (a b : Int) : ilt a b = decide (a < b) := by
 unfold ilt
 rw [ile_eq, bcE]
 by_cases h : b ≤ a
 ·simp [h]; 
 ·simp [h]; omega
theorem sameKind_eq {k j : IntKind} (h : sameKind k j = true) : k = j := by
 cases k <;> cases j <;> simp [sameKind, kindNo] at h <;> rfl
theorem inKind_ofNat {k : IntKind} {n : Nat} (h : inKind k (.ofNat n) = true) : n ≤ kindMax k := by
 have : Nat.ble n (kindMax k) = true := h
 exact Nat.le_of_ble_eq_true this
theorem inKind_negSucc {k : IntKind} {n : Nat} (h : inKind k (.negSucc n) = true) : kindNo k ≤ 3 ∧ n ≤ kindMax k := by
 have : bcase (Nat.blt 3 (kindNo k)) false (Nat.ble n (kindMax k)) = true := h
 rw [nblt, bcE] at this
 by_cases e : 3 < kindNo k
 ·simp [e] at this
 ·simp only [e, decide_false, Bool.false_eq_true, if_false] at this
  exact ⟨by omega, Nat.le_of_ble_eq_true this⟩
theorem wrap_of_in {k : IntKind} {n : Int} (h : inKind k n = true) : k.wrap n = n := by
 cases n with
 | ofNat m =>
  have hm := inKind_ofNat h
  rw [show Int.ofNat m = (m : Int) from rfl]
  cases k <;> (unfold kindMax at hm; simp only at hm)
  ·exact IntWalk.i8_in _ (by omega)
  ·exact IntWalk.i16_in _ (by omega)
  ·exact IntWalk.i32_in _ (by omega)
  ·exact IntWalk.i64_in _ (by omega)
  ·exact IntWalk.u8_in _ (by omega)
  ·exact IntWalk.u16_in _ (by omega)
  ·exact IntWalk.u32_in _ (by omega)
  ·exact IntWalk.u64_in _ (by omega)
 | negSucc m =>
  obtain ⟨hk, hm⟩ := inKind_negSucc h
  cases k <;> (unfold kindMax at hm; unfold kindNo at hk; simp only at hm hk)
  ·exact IntWalk.i8_in _ (by omega)
  ·exact IntWalk.i16_in _ (by omega)
  ·exact IntWalk.i32_in _ (by omega)
  ·exact IntWalk.i64_in _ (by omega)
  all_goals omega
theorem wrapF_eq (k : IntKind) (n : Int) : wrapF k n = k.wrap n := by
 unfold wrapF
 rw [bcE]
 split
 ·rename_i h; exact (wrap_of_in h).symm
 ·rfl
theorem toU_eq (k : IntKind) (n : Int) : (BitVec.ofInt k.bits n).toNat = toU k n := by
 rw [BitVec.toNat_ofInt]; unfold toU
 show (n % ((2 ^ k.bits : Nat) : Int)).toNat = (n % (2 ^ k.bits : Int)).toNat
 norm_cast
theorem natOf_eq {n : Int} {m : Nat} (h : natOf n = some m) : n = (m : Int) := by cases n <;> simp [natOf] at h; subst h; rfl
end Go.HL
namespace Go.HL
open Go
section
variable {P : Program} {σ : Places} (w : World)
theorem partH_rel {t : TypeId} {cs : List HVal} {cs' : List Value} {off : Nat} {x : HVal} (hr : VRels σ cs cs') (hs : ∀ y ∈ cs, y.scalar = true) (e : partH P t cs off = some x) :
  ∃ v, (part t ⟨cs'⟩ off).run P w = .ok v w ∧ VRel σ x v := by
 unfold partH at e
 obtain ⟨b, hb, e⟩ := ob_eq_some.1 e
 cases b with
 | true =>
  simp only [bcT, takeK_eq, dropN_eq] at e
  by_cases hn : P.cellsOf t ≤ (cs.drop off).length
  ·rw [if_pos hn] at e
   cases e
   obtain ⟨i, hi⟩ := info_of_agg hb
   refine ⟨.agg ((⟨cs'⟩ : Array Value).extract off (off + P.cellsOf t)), by simp [part, run_isAgg' w hb, run_sizeOf' w hi], (cs'.drop off).take (P.cellsOf t), ?_, (hr.drop off).take _,
    fun y hy => hs y (List.mem_of_mem_drop (List.mem_of_mem_take hy))⟩
   congr 1
   apply Array.ext'
   simp [List.extract_eq_take_drop]
  ·rw [if_neg hn] at e; cases e
 | false =>
  simp only [bcF, nth_eq] at e
  obtain ⟨v, hv, hr'⟩ := hr.get e
  exact ⟨v, by simp [part, run_isAgg' w hb, hv], hr'⟩
theorem heqFields_rel {d : Nat} {eq : TypeId → HVal → HVal → Option Bool}
  (ih : ∀ t x y a b r, VRel σ x a → VRel σ y b → eq t x y = some r → (Op.equalIn d t a b).run P w = .ok r w)
  {xs ys : List HVal} {xs' ys' : List Value} (hx : VRels σ xs xs') (hy : VRels σ ys ys') (sx : ∀ y ∈ xs, y.scalar = true) (sy : ∀ y ∈ ys, y.scalar = true) :
  ∀ (fs : List Field) (r : Bool), heqFields P eq xs ys fs = some r → (Op.eqFields d ⟨xs'⟩ ⟨ys'⟩ fs).run P w = .ok r w
 | [], r, e => by simp [heqFields] at e; subst e; simp [Op.eqFields]
 | f :: fs, r, e => by
  unfold heqFields at e
  obtain ⟨hname, e⟩ := bcase_none_eq_some.1 e
  obtain ⟨a, ha, e⟩ := ob_eq_some.1 e
  obtain ⟨b, hb, e⟩ := ob_eq_some.1 e
  obtain ⟨q, hq, e⟩ := ob_eq_some.1 e
  obtain ⟨u, hu, ra⟩ := partH_rel w hx sx ha
  obtain ⟨v, hv, rb⟩ := partH_rel w hy sy hb
  have h1 := ih _ _ _ _ _ _ ra rb hq
  have hne : f.name ≠ "_" := by simpa using hname
  rw [bcE] at e
  cases q with
  | true =>
   simp only [if_true] at e
   have := heqFields_rel ih hx hy sx sy fs r e
   simp [Op.eqFields, hne, hu, hv, h1, this]
  | false =>
   simp at e
   subst e
   simp [Op.eqFields, hne, hu, hv, h1]
theorem heqElems_rel {d : Nat} {eq : HVal → HVal → Option Bool} {e : TypeId}
  (ih : ∀ x y a b r, VRel σ x a → VRel σ y b → eq x y = some r → (Op.equalIn d e a b).run P w = .ok r w)
  {xs ys : List HVal} {xs' ys' : List Value} (hx : VRels σ xs xs') (hy : VRels σ ys ys') (sx : ∀ y ∈ xs, y.scalar = true) (sy : ∀ y ∈ ys, y.scalar = true) :
  ∀ (m i : Nat) (r : Bool), heqElems P eq e (P.cellsOf e) xs ys m i = some r → (Op.eqItems d e (P.cellsOf e) ⟨xs'⟩ ⟨ys'⟩ (List.range' i m)).run P w = .ok r w
 | 0, i, r, h => by simp [heqElems] at h; subst h; simp [Op.eqItems]
 | m + 1, i, r, h => by
  unfold heqElems at h
  obtain ⟨a, ha, h⟩ := ob_eq_some.1 h
  obtain ⟨b, hb, h⟩ := ob_eq_some.1 h
  obtain ⟨q, hq, h⟩ := ob_eq_some.1 h
  obtain ⟨u, hu, ra⟩ := partH_rel w hx sx ha
  obtain ⟨v, hv, rb⟩ := partH_rel w hy sy hb
  have h1 := ih _ _ _ _ _ ra rb hq
  have hu' : (part e ⟨xs'⟩ (i * P.cellsOf e)).run P w = .ok u w := hu
  have hv' : (part e ⟨ys'⟩ (i * P.cellsOf e)).run P w = .ok v w := hv
  rw [bcE] at h
  cases q with
  | true =>
   simp only [if_true] at h
   have := heqElems_rel ih hx hy sx sy m (i + 1) r h
   simp [List.range'_succ, Op.eqItems, hu', hv', h1, this]
  | false =>
   simp at h
   subst h
   simp [List.range'_succ, Op.eqItems, hu', hv', h1]
set_option maxHeartbeats 2000000 in
theorem heq_rel : ∀ (d : Nat) (d' : Nat) (t : TypeId) (x y : HVal) (a b : Value) (r : Bool), d ≤ d' → VRel σ x a → VRel σ y b → heq P d t x y = some r → (Op.equalIn d' t a b).run P w = .ok r w
 | 0, _, _, _, _, _, _, _, _, _, _, e => by simp [heq] at e
 | d + 1, 0, _, _, _, _, _, _, h, _, _, _ => by omega
 | d + 1, d' + 1, t, x, y, a, b, r, hd, hx, hy, e => by
  unfold heq at e
  cases hu : P.underlying t with
  | none => simp [hu] at e
  | some desc =>
   rw [hu] at e
   cases desc <;> simp only at e <;> try (cases e; done)
   case bool =>
    cases x <;> cases y <;> simp at e
    obtain rfl := hx; obtain rfl := hy
    rw [run_equalIn_bool' w d' t _ _ hu, e]
   case int k =>
    cases x <;> cases y <;> simp at e
    obtain ⟨hk, e2⟩ := bcase_eq_some.1 e
    clear e
    obtain rfl := sameKind_eq hk
    obtain rfl := hx; obtain rfl := hy
    rw [run_equalIn_int w d' t _ k _ _ hu]
    rw [ieq_eq] at e2
    cases e2
    rfl
   case string =>
    cases x <;> cases y <;> simp at e
    obtain ⟨s, rfl, rfl, rfl⟩ := hx
    obtain ⟨s', rfl, rfl, rfl⟩ := hy
    rw [run_equalIn_string w d' t _ _ hu, ← str_eq, e]
   case pointer el =>
    cases x <;> cases y <;> simp at e
    ·obtain rfl := hx; obtain rfl := hy; subst e; simp [Op.equalIn, rU w hu]
    ·obtain rfl := hx; obtain ⟨p, _, rfl⟩ := hy; subst e; simp [Op.equalIn, rU w hu]
    ·obtain rfl := hy; obtain ⟨p, _, rfl⟩ := hx; subst e; simp [Op.equalIn, rU w hu]
    ·rename_i k o j q
     obtain ⟨hz, e⟩ := bcase_none_eq_some.1 e
     obtain ⟨hk, e⟩ := bcase_eq_some.1 e
     obtain rfl := Nat.eq_of_beq_eq_true hk
     obtain ⟨p, hp, rfl⟩ := hx
     obtain ⟨p', hp', rfl⟩ := hy
     rw [hp] at hp'; cases hp'
     simp at e
     rw [nbeq] at hz e
     have hz' : P.cellsOf el ≠ 0 := by simpa using hz
     have hi : ∃ i, P.info? el = some i := by
      cases hi : P.info? el with
      | none => simp [Program.cellsOf, hi] at hz'
      | some i => exact ⟨i, rfl⟩
     obtain ⟨i, hi⟩ := hi
     have hA : ((⟨p.blk, p.base + o, none⟩ : Addr) == ⟨p.blk, p.base + q, none⟩) = decide (o = q) := by
      by_cases h : o = q
      ·subst h; simp
      ·rw [decide_eq_false h]; simpa using h
     simp [Op.equalIn, rU w hu, run_sizeOf' w hi, hz', sameAddr, ← e, hA]
   case slice el =>
    cases x <;> cases y <;> simp at e
    ·obtain rfl := hx; obtain rfl := hy; subst e; simp [Op.equalIn, rU w hu]
    ·obtain rfl := hx; obtain ⟨p, c, _, rfl, _⟩ := hy; subst e; simp [Op.equalIn, rU w hu]
    ·obtain rfl := hy; obtain ⟨p, c, _, rfl, _⟩ := hx; subst e; simp [Op.equalIn, rU w hu]
   case map =>
    cases x <;> cases y <;> simp at e
    ·obtain rfl := hx; obtain rfl := hy; subst e; simp [Op.equalIn, rU w hu]
    ·obtain rfl := hx; obtain ⟨p, _, rfl⟩ := hy; subst e; simp [Op.equalIn, rU w hu]
    ·obtain rfl := hy; obtain ⟨p, _, rfl⟩ := hx; subst e; simp [Op.equalIn, rU w hu]
   case func =>
    cases x <;> cases y <;> simp at e
    ·obtain rfl := hx; obtain rfl := hy; subst e; simp [Op.equalIn, rU w hu]
    ·obtain rfl := hx; obtain ⟨p, c, rfl, _⟩ := hy; subst e; simp [Op.equalIn, rU w hu]
    ·obtain rfl := hy; obtain ⟨p, c, rfl, _⟩ := hx; subst e; simp [Op.equalIn, rU w hu]
   case interface =>
    cases x <;> cases y <;> simp at e
    ·obtain rfl := hx; obtain rfl := hy; subst e; simp [Op.equalIn, rU w hu]
    ·obtain rfl := hx; obtain ⟨p, rfl, _⟩ := hy; subst e; simp [Op.equalIn, rU w hu]
    ·obtain rfl := hy; obtain ⟨p, rfl, _⟩ := hx; subst e; simp [Op.equalIn, rU w hu]
   case struct fields =>
    cases x <;> cases y <;> simp at e
    obtain ⟨hst, e⟩ := bcase_none_eq_some.1 e
    obtain ⟨xs, rfl, hxs, sx⟩ := hx
    obtain ⟨ys, rfl, hys, sy⟩ := hy
    have hf : P.fieldsOf t = fields := by simp [Program.fieldsOf, hu]
    rw [run_equalIn_struct w d' t _ _ (by rw [hf]; exact hu) hst, hf]
    exact heqFields_rel w (fun t x y a b r ha hb he => heq_rel d d' t x y a b r (by omega) ha hb he) hxs hys sx sy _ _ e
   case array n el =>
    cases x <;> cases y <;> simp at e
    obtain ⟨i, hi, e⟩ := ob_eq_some.1 e
    obtain ⟨xs, rfl, hxs, sx⟩ := hx
    obtain ⟨ys, rfl, hys, sy⟩ := hy
    rw [run_equalIn_array w d' _ _ hu hi, List.range_eq_range']
    exact heqElems_rel w (fun x y a b r ha hb he => heq_rel d d' el x y a b r (by omega) ha hb he) hxs hys sx sy _ _ _ e
end
end Go.HL
namespace Go.HL
open Go
section
variable {P : Program} {σ : Places} (w : World)
theorem run_shift_shl (k : IntKind) (a : Int) (yk : IntKind) (n : Nat) : (Op.shift .shl k a yk (n : Int)).run P w = .ok (.int k (k.wrap (a * 2 ^ (min n k.bits)))) w := by
 simp [Op.shift, show ¬ ((n : Int) < 0) by omega]
theorem run_shift_shr (k : IntKind) (a : Int) (yk : IntKind) (n : Nat) : (Op.shift .shr k a yk (n : Int)).run P w = .ok (.int k (a.fdiv (2 ^ (min n k.bits)))) w := by
 simp [Op.shift, show ¬ ((n : Int) < 0) by omega]
theorem not_toNat (k : IntKind) (b : Int) : (~~~ (BitVec.ofInt k.bits b)).toNat = Nat.xor (toU k b) (Nat.sub (Nat.pow 2 k.bits) 1) := by
 rw [← BitVec.xor_allOnes, BitVec.toNat_xor, toU_eq, BitVec.toNat_allOnes]; rfl
theorem ones_toNat (k : IntKind) : toU k (if k.signed then -1 else k.max) = Nat.sub (Nat.pow 2 k.bits) 1 := by cases k <;> decide
theorem intOp_rel {op : BinOp} {k : IntKind} {a b : Int} {t : TypeId} {z : HVal} (h1 : op ≠ .shl) (h2 : op ≠ .shr) (e : intOp op k a b = some z) :
  ∃ v, (binOp op t (.int k a) (.int k b)).run P w = .ok v w ∧ VRel σ z v := by
 cases op <;> simp only [intOp] at e <;> try (cases e; done)
 case add => cases e; exact ⟨.int k (k.wrap (a + b)), by simp [binOp, Op.intArith], by simp only [VRel, wrapF_eq]; rfl⟩
 case sub => cases e; exact ⟨.int k (k.wrap (a - b)), by simp [binOp, Op.intArith], by simp only [VRel, wrapF_eq]; rfl⟩
 case mul => cases e; exact ⟨.int k (k.wrap (a * b)), by simp [binOp, Op.intArith], by simp only [VRel, wrapF_eq]; rfl⟩
 case quo =>
  obtain ⟨hz, e⟩ := bcase_none_eq_some.1 e
  cases e
  rw [ieq_eq] at hz
  have hz' : b ≠ 0 := by simpa using hz
  exact ⟨.int k (k.wrap (a.tdiv b)), by simp [binOp, Op.intDiv, hz'], by simp only [VRel, wrapF_eq]⟩
 case rem =>
  obtain ⟨hz, e⟩ := bcase_none_eq_some.1 e
  cases e
  rw [ieq_eq] at hz
  have hz' : b ≠ 0 := by simpa using hz
  exact ⟨.int k (a.tmod b), by simp [binOp, Op.intDiv, hz'], by simp only [VRel]⟩
 case and => cases e; exact ⟨.int k (k.wrap (Int.ofNat (Nat.land (toU k a) (toU k b)))), by simp only [binOp, Op.intBits, BitVec.toNat_and, toU_eq]; simp, by simp only [VRel]⟩
 case or => cases e; exact ⟨.int k (k.wrap (Int.ofNat (Nat.lor (toU k a) (toU k b)))), by simp only [binOp, Op.intBits, BitVec.toNat_or, toU_eq]; simp, by simp only [VRel]⟩
 case xor => cases e; exact ⟨.int k (k.wrap (Int.ofNat (Nat.xor (toU k a) (toU k b)))), by simp only [binOp, Op.intBits, BitVec.toNat_xor, toU_eq]; simp, by simp only [VRel]⟩
 case andNot => cases e; exact ⟨.int k (k.wrap (Int.ofNat (Nat.land (toU k a) (Nat.xor (toU k b) (Nat.sub (Nat.pow 2 k.bits) 1))))), by simp only [binOp, Op.intBits, BitVec.toNat_and, not_toNat, toU_eq]; simp, by simp only [VRel]⟩
 case eql => cases e; exact ⟨.bool (a == b), by simp [binOp, Op.intCmp], by simp only [VRel, ieq_eq]; rfl⟩
 case neq => cases e; exact ⟨.bool (a != b), by simp [binOp, Op.intCmp], by simp only [VRel, ieq_eq, bcE]; by_cases h : a = b <;> simp [h]⟩
 case lss => cases e; exact ⟨.bool (decide (a < b)), by simp [binOp, Op.intCmp], by simp only [VRel, ilt_eq]⟩
 case leq => cases e; exact ⟨.bool (decide (a ≤ b)), by simp [binOp, Op.intCmp], by simp only [VRel, ile_eq]⟩
 case gtr => cases e; exact ⟨.bool (decide (a > b)), by simp [binOp, Op.intCmp], by simp only [VRel, ilt_eq]⟩
 case geq => cases e; exact ⟨.bool (decide (a ≥ b)), by simp [binOp, Op.intCmp], by simp only [VRel, ile_eq]⟩
theorem strOp_rel {op : BinOp} {a b : ByteArray} {t : TypeId} {z : HVal} (e : strOp op a.size (codeOf a.data.toList) b.size (codeOf b.data.toList) = some z) :
  ∃ v, (binOp op t (.string a) (.string b)).run P w = .ok v w ∧ VRel σ z v := by
 cases op <;> simp only [strOp] at e <;> try (cases e; done)
 case add =>
  obtain ⟨hn, e⟩ := bcase_eq_some.1 e
  cases e
  rw [nble] at hn
  have hn' : a.size + b.size ≤ 9223372036854775807 := by simpa using hn
  exact ⟨.string (a ++ b), by simp [binOp, Op.stringOp]; omega, strAdd_rel a b⟩
 case eql => cases e; exact ⟨.bool (a.toList == b.toList), by simp [binOp, Op.stringOp], by simp only [VRel, str_eq]⟩
 case neq => cases e; exact ⟨.bool (!(a.toList == b.toList)), by simp [binOp, Op.stringOp], by simp only [VRel, str_eq, bcE]; cases (a.toList == b.toList) <;> rfl⟩
theorem VRel.agg_inv {x : HVal} {cs : Array Value} (h : VRel σ x (.agg cs)) : x = .bad ∨ ∃ l, x = .agg l := by
 cases x <;> simp [VRel] at h ⊢
theorem VRel.nili_inv {x : HVal} (h : VRel σ x .nilIface) : x = .bad ∨ x = .nili := by
 cases x <;> simp [VRel] at h ⊢
theorem heq_bad_left (d : Nat) (t : TypeId) (y : HVal) : heq P d t .bad y = none := by
 cases d with
 | zero => rfl
 | succ d => unfold heq; split <;> rfl
theorem heq_bad_right (d : Nat) (t : TypeId) (x : HVal) : heq P d t x .bad = none := by
 cases d with
 | zero => rfl
 | succ d => unfold heq; split <;> first | rfl | (cases x <;> rfl)
theorem heq_rng_left (k : IntKind) (lo hi : Int) (d : Nat) (t : TypeId) (y : HVal) : heq P d t (.rng k lo hi) y = none := by
 cases d with
 | zero => rfl
 | succ d => unfold heq; split <;> rfl
theorem heq_rng_right (k : IntKind) (lo hi : Int) (d : Nat) (t : TypeId) (x : HVal) : heq P d t x (.rng k lo hi) = none := by
 cases d with
 | zero => rfl
 | succ d => unfold heq; split <;> first | rfl | (cases x <;> rfl)
theorem eqlH_rel {t : TypeId} {x y : HVal} {a b : Value} {r : Bool} (hx : VRel σ x a) (hy : VRel σ y b) (e : eqlH P t x y = some r) (op : BinOp) (ox oy : Operand) :
  (eqGuard op t ox oy a b).run P w = .ok () w ∧ (Op.equal t a b).run P w = .ok r w := by
 have key : ∀ r, heq P 100 t x y = some r → (Op.equal t a b).run P w = .ok r w := fun r e => heq_rel w 100 10000 t x y a b r (by decide) hx hy e
 unfold eqlH at e
 have guard : ∀ a b, (∀ xs ys, a = Value.agg xs → b = Value.agg ys → False) → (a = .nilIface → b = .nilIface → False) → (eqGuard op t ox oy a b).run P w = .ok () w := by
  intro a b h1 h2
  unfold eqGuard
  cases a <;> cases b <;> first | exact (h2 rfl rfl).elim | exact (h1 _ _ rfl rfl).elim | (cases op <;> rfl)
 split at e
 ·cases e
 ·obtain ⟨hg, e⟩ := bcase_none_eq_some.1 e
  obtain ⟨l, rfl, _⟩ := hx
  obtain ⟨m, rfl, _⟩ := hy
  exact ⟨run_eqGuard_agg w op t ox oy _ _ hg, key r e⟩
 ·rename_i hn ha
  refine ⟨guard a b ?_ ?_, key r e⟩
  ·rintro xs ys rfl rfl
   rcases hx.agg_inv with rfl | ⟨l, rfl⟩
   ·rw [heq_bad_left] at e; cases e
   ·rcases hy.agg_inv with rfl | ⟨m, rfl⟩
    ·rw [heq_bad_right] at e; cases e
    ·exact ha l m rfl rfl
  ·rintro rfl rfl
   rcases hx.nili_inv with rfl | rfl
   ·rw [heq_bad_left] at e; cases e
   ·rcases hy.nili_inv with rfl | rfl
    ·rw [heq_bad_right] at e; cases e
    ·exact hn rfl rfl
theorem run_eqlOp {t : TypeId} {a b : Value} {r : Bool} (h : (Op.equal t a b).run P w = .ok r w) (h1 : ∀ k n j m, a = .int k n → b = .int j m → False) (h2 : ∀ s u, a = .string s → b = .string u → False)
  (h3 : ∀ k n j m, a = .float k n → b = .float j m → False) (h4 : ∀ k n n' j m m', a = .complex k n n' → b = .complex j m m' → False) :
  (binOp .eql t a b).run P w = .ok (.bool r) w ∧ (binOp .neq t a b).run P w = .ok (.bool (!r)) w := by
 constructor
 ·unfold binOp
  split <;> first
   | (rename_i hh; cases hh; done)
   | exact (h1 _ _ _ _ rfl rfl).elim
   | exact (h2 _ _ rfl rfl).elim
   | exact (h3 _ _ _ _ rfl rfl).elim
   | exact (h4 _ _ _ _ _ _ rfl rfl).elim
   | (simp [h]; done)
   | simp_all
 ·unfold binOp
  split <;> first
   | (rename_i hh; cases hh; done)
   | exact (h1 _ _ _ _ rfl rfl).elim
   | exact (h2 _ _ rfl rfl).elim
   | exact (h3 _ _ _ _ rfl rfl).elim
   | exact (h4 _ _ _ _ _ _ rfl rfl).elim
   | (simp [h]; done)
   | simp_all
theorem shift_rel {op : BinOp} {k j : IntKind} {a b : Int} {t : TypeId} {z : HVal} (e : shiftOp op k a b = some z) :
  ∃ v, (binOp op t (.int k a) (.int j b)).run P w = .ok v w ∧ VRel σ z v := by
 unfold shiftOp at e
 obtain ⟨n, hn, e⟩ := ob_eq_some.1 e
 obtain rfl := natOf_eq hn
 cases op <;> simp only at e <;> try (cases e; done)
 ·cases e
  refine ⟨.int k (k.wrap (a * 2 ^ (min n k.bits))), by simp only [binOp]; exact run_shift_shl w k a j n, ?_⟩
  simp only [VRel, wrapF_eq]
  congr 2
 ·cases e
  refine ⟨.int k (a.fdiv (2 ^ (min n k.bits))), by simp only [binOp]; exact run_shift_shr w k a j n, ?_⟩
  simp only [VRel]
  congr 1
theorem eqGuard_prim {op : BinOp} {t : TypeId} {x y : Operand} {a b : Value} (h1 : ∀ xs, a ≠ .agg xs) (h2 : a ≠ .nilIface) : (eqGuard op t x y a b).run P w = .ok () w := by
 cases a <;> first | exact absurd rfl (h1 _) | exact absurd rfl h2 | (cases op <;> rfl)
theorem VRel.int_inv {x : HVal} {k : IntKind} {n : Int} (h : VRel σ x (.int k n)) : x = .bad ∨ x = .int k n ∨ ∃ lo hi, x = .rng k lo hi := by
 cases x with
 | int j m => simp only [VRel, Value.int.injEq] at h; right; left; rw [h.1, h.2]
 | rng j lo hi => obtain ⟨n, e, _⟩ := h; cases e; exact Or.inr (Or.inr ⟨_, _, rfl⟩)
 | bad => exact Or.inl rfl
 | _ => simp [VRel] at h
theorem VRel.string_inv {x : HVal} {s : ByteArray} (h : VRel σ x (.string s)) : x = .bad ∨ ∃ n c, x = .str n c := by
 cases x with
 | str j m => exact Or.inr ⟨_, _, rfl⟩
 | bad => exact Or.inl rfl
 | _ => simp [VRel] at h
theorem VRel.float_inv {x : HVal} {k : _} {n : _} (h : VRel σ x (.float k n)) : x = .bad := by
 cases x with
 | bad => exact rfl
 | _ => simp [VRel] at h
theorem VRel.complex_inv {x : HVal} {k : _} {n m : _} (h : VRel σ x (.complex k n m)) : x = .bad := by
 cases x with
 | bad => exact rfl
 | _ => simp [VRel] at h
theorem binH_rel {op : BinOp} {t : TypeId} {x y z : HVal} {a b : Value} (hx : VRel σ x a) (hy : VRel σ y b) (ox oy : Operand) (e : binH P op t x y = some z) :
  ∃ v, ((do eqGuard op t ox oy a b; binOp op t a b) : Sem Value).run P w = .ok v w ∧ VRel σ z v := by
 have done : ∀ v, (eqGuard op t ox oy a b).run P w = .ok () w → (binOp op t a b).run P w = .ok v w → ((do eqGuard op t ox oy a b; binOp op t a b) : Sem Value).run P w = .ok v w := by
  intro v h1 h2; simp [h1, h2]
 unfold binH at e
 split at e
 ·obtain rfl := hx; obtain rfl := hy
  have hg : ∀ {op k n j m}, (eqGuard op t ox oy (.int k n) (.int j m)).run P w = .ok () w := fun {op k n j m} => eqGuard_prim w (by simp) (by simp)
  split at e
  ·obtain ⟨v, g1, g2⟩ := shift_rel (P := P) (t := t) w e
   exact ⟨v, by simp only [Sem.run_bind, hg, Result.andThen_ok]; exact g1, g2⟩
  ·obtain ⟨v, g1, g2⟩ := shift_rel (P := P) (t := t) w e
   exact ⟨v, by simp only [Sem.run_bind, hg, Result.andThen_ok]; exact g1, g2⟩
  ·rename_i n1 n2
   obtain ⟨hk, e1⟩ := bcase_eq_some.1 e
   clear e
   obtain rfl := sameKind_eq hk
   obtain ⟨v, g1, g2⟩ := intOp_rel (P := P) (t := t) w n1 n2 e1
   exact ⟨v, by simp only [Sem.run_bind, hg, Result.andThen_ok]; exact g1, g2⟩
 ·obtain ⟨s, rfl, rfl, rfl⟩ := hx
  obtain ⟨s', rfl, rfl, rfl⟩ := hy
  obtain ⟨v, g1, g2⟩ := strOp_rel (P := P) (t := t) w e
  exact ⟨v, by simp only [Sem.run_bind, eqGuard_prim (P := P) (op := op) (t := t) (x := ox) (y := oy) (b := .string s') w (a := .string s) (by simp) (by simp), Result.andThen_ok]; exact g1, g2⟩
 ·rename_i n1 n2
  have hnot : ∀ r, eqlH P t x y = some r → (∀ k n j m, a = .int k n → b = .int j m → False) ∧ (∀ s u, a = .string s → b = .string u → False) ∧ (∀ k n j m, a = .float k n → b = .float j m → False) ∧ (∀ k n n' j m m', a = .complex k n n' → b = .complex j m m' → False) := by
   intro r hr
   have hq : heq P 100 t x y = some r := by
    unfold eqlH at hr
    split at hr
    ·cases hr
    ·exact (bcase_none_eq_some.1 hr).2
    ·exact hr
   refine ⟨?_, ?_, ?_, ?_⟩
   ·rintro k n j m rfl rfl
    rcases hx.int_inv with rfl | rfl | ⟨_, _, rfl⟩
    ·rw [heq_bad_left] at hq; cases hq
    ·rcases hy.int_inv with rfl | rfl | ⟨_, _, rfl⟩
     ·rw [heq_bad_right] at hq; cases hq
     ·exact n1 _ _ _ _ rfl rfl
     ·rw [heq_rng_right] at hq; cases hq
    ·rw [heq_rng_left] at hq; cases hq
   ·rintro k u rfl rfl
    rcases hx.string_inv with rfl | ⟨_, _, rfl⟩
    ·rw [heq_bad_left] at hq; cases hq
    ·rcases hy.string_inv with rfl | ⟨_, _, rfl⟩
     ·rw [heq_bad_right] at hq; cases hq
     ·exact n2 _ _ _ _ rfl rfl
   ·rintro k n j m rfl rfl
    obtain rfl := hx.float_inv
    rw [heq_bad_left] at hq; cases hq
   ·rintro k n n' j m m' rfl rfl
    obtain rfl := hx.complex_inv
    rw [heq_bad_left] at hq; cases hq
  cases op <;> simp only at e <;> try (cases e; done)
  ·obtain ⟨r, hr, e⟩ := ob_eq_some.1 e
   cases e
   obtain ⟨g1, g2⟩ := eqlH_rel w hx hy hr .eql ox oy
   obtain ⟨k1, k2, k3, k4⟩ := hnot r hr
   obtain ⟨q1, q2⟩ := run_eqlOp w g2 k1 k2 k3 k4
   exact ⟨.bool r, done _ g1 q1, rfl⟩
  ·obtain ⟨r, hr, e⟩ := ob_eq_some.1 e
   cases e
   obtain ⟨g1, g2⟩ := eqlH_rel w hx hy hr .neq ox oy
   obtain ⟨k1, k2, k3, k4⟩ := hnot r hr
   obtain ⟨q1, q2⟩ := run_eqlOp w g2 k1 k2 k3 k4
   exact ⟨.bool (!r), done _ g1 q2, by cases r <;> rfl⟩
theorem eqGuard_lit {op : BinOp} {t : TypeId} {ox oy : Operand} {a b : Value} (h : bcase (isLit ox) true (isLit oy) = true) (ha : a = .nilIface) (hb : b = .nilIface) : (eqGuard op t ox oy a b).run P w = .ok () w := by
 subst ha hb
 unfold eqGuard
 cases ox <;> cases oy <;> simp [isLit] at h <;> cases op <;> rfl
theorem binC_rel {op : BinOp} {t : TypeId} {x y z : HVal} {a b : Value} (hx : VRel σ x a) (hy : VRel σ y b) (ox oy : Operand) (e : binC P op t (bcase (isLit ox) true (isLit oy)) x y = some z) :
  ∃ v, ((do eqGuard op t ox oy a b; binOp op t a b) : Sem Value).run P w = .ok v w ∧ VRel σ z v := by
 unfold binC at e
 split at e
 ·obtain ⟨hl, e⟩ := bcase_eq_some.1 e
  have ha : a = .nilIface := hx
  have hb : b = .nilIface := hy
  have hg := eqGuard_lit (P := P) w (op := op) (t := t) hl ha hb
  subst ha hb
  unfold nilsEq at e
  split at e
  ·rename_i ms hu
   have hq : (Op.equal t .nilIface .nilIface).run P w = .ok true w := by
    unfold Op.equal
    have : ∃ d, Op.maxDepth = d + 1 := ⟨9999, rfl⟩
    obtain ⟨d, hd⟩ := this
    rw [hd]
    unfold Op.equalIn
    simp [rU w hu]
   obtain ⟨q1, q2⟩ := run_eqlOp w hq (by rintro k n j m h; cases h) (by rintro s u h; cases h) (by rintro k n j m h; cases h) (by rintro k n n' j m m' h; cases h)
   split at e
   ·cases e
    exact ⟨.bool true, by simp only [Sem.run_bind, hg, Result.andThen_ok]; exact q1, rfl⟩
   ·cases e
    exact ⟨.bool false, by simp only [Sem.run_bind, hg, Result.andThen_ok]; exact q2, rfl⟩
   ·cases e
  ·cases e
 ·rename_i k lo hi j m
  obtain ⟨hk, e1⟩ := bcase_eq_some.1 e
  clear e
  obtain rfl := sameKind_eq hk
  obtain ⟨n, rfl, hlo, hhi⟩ := hx
  refine binH_rel w (x := .int k n) (y := .int k m) rfl hy ox oy ?_
  have key : intOp op k n m = some z := by
   cases op <;> simp only [rngOp] at e1 <;> try (cases e1; done)
   ·rw [bcE, bcE, ilt_eq, ile_eq] at e1
    simp only [intOp, ilt_eq]
    by_cases h1 : hi < m
    ·simp only [h1, decide_true, if_true] at e1
     rw [← e1, decide_eq_true (by omega)]
    ·simp only [h1, decide_false, Bool.false_eq_true, if_false] at e1
     by_cases h2 : m ≤ lo
     ·simp only [h2, decide_true, if_true] at e1
      rw [← e1, decide_eq_false (by omega)]
     ·simp [h2] at e1
   ·rw [bcE, bcE, ilt_eq, ile_eq] at e1
    simp only [intOp, ile_eq]
    by_cases h1 : m ≤ lo
    ·simp only [h1, decide_true, if_true] at e1
     rw [← e1, decide_eq_true (by omega)]
    ·simp only [h1, decide_false, Bool.false_eq_true, if_false] at e1
     by_cases h2 : hi < m
     ·simp only [h2, decide_true, if_true] at e1
      rw [← e1, decide_eq_false (by omega)]
     ·simp [h2] at e1
  cases op <;> simp only [rngOp] at e1 <;> try (cases e1; done)
  all_goals
   show bcase (sameKind k k) _ none = _
   rw [hk, bcT]
   exact key
 ·exact binH_rel w hx hy ox oy e
theorem unH_rel {op : UnOp} {x z : HVal} {a : Value} (hx : VRel σ x a) (e : unH op x = some z) : ∃ v, (Op.unary op a).run P w = .ok v w ∧ VRel σ z v := by
 unfold unH at e
 split at e
 ·cases e
  obtain rfl := hx
  rename_i k n
  exact ⟨.int k (k.wrap (0 - n)), by simp [Op.unary, Op.intArith], by simp only [VRel, wrapF_eq]; rfl⟩
 ·cases e
  obtain rfl := hx
  rename_i k n
  refine ⟨.int k (k.wrap (Int.ofNat (Nat.xor (toU k n) (Nat.sub (Nat.pow 2 k.bits) 1)))), ?_, by simp only [VRel]⟩
  have := ones_toNat k
  simp only [Op.unary, Op.intBits, BitVec.toNat_xor, toU_eq]
  rw [this]
  simp only [Sem.run_pure, Result.ok.injEq, and_true]
  rw [show Nat.sub (Nat.pow 2 k.bits) 1 ^^^ toU k n = Nat.xor (toU k n) (Nat.sub (Nat.pow 2 k.bits) 1) from Nat.xor_comm _ _]
  rfl
 ·cases e
  obtain rfl := hx
  rename_i b
  exact ⟨.bool (!b), by simp [Op.unary], by cases b <;> rfl⟩
 ·cases e
end
end Go.HL
