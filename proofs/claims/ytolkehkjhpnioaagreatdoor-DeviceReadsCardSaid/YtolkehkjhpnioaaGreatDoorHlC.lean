/- HL: operations, second part. No statement of the seat stands here. -/
import Derived.Test.YtolkehkjhpnioaaGreatDoorHlB
import Derived.Laws.Tables
namespace Go.HL
open Go
section
variable {P : Program} {σ : Places}
theorem foldl_over (vs : List Value) (off : Nat) : ∀ (i : Nat) (C : Array Value), off + i + vs.length ≤ C.size →
  ((vs.zipIdx i).foldl (fun (cs : Array Value) (p : Value × Nat) => cs.setIfInBounds (off + p.2) p.1) C).toList = C.toList.take (off + i) ++ vs ++ C.toList.drop (off + i + vs.length) := by
 induction vs with
 | nil => intro i C _; simp
 | cons v vs ih =>
  intro i C h
  simp only [List.zipIdx_cons, List.foldl_cons]
  have hlt : off + i < C.size := by simp at h; omega
  rw [ih (i + 1) _ (by simp at h ⊢; omega)]
  simp only [Array.toList_setIfInBounds, List.length_cons]
  rw [← Nat.add_assoc off i 1, List.take_set, List.drop_set]
  have e1 : (C.toList.take (off + i + 1)).set (off + i) v = C.toList.take (off + i) ++ [v] := by
   rw [List.take_succ_eq_append_getElem (by simpa using hlt), List.set_append_right _ _ (by simp; omega)]
   simp [Nat.min_eq_left (Nat.le_of_lt hlt)]
  rw [e1, if_pos (by omega)]
  simp [Nat.add_assoc, Nat.add_comm 1]
theorem VRels.over {l m : List HVal} {vs us : List Value} (hl : VRels σ l vs) (hm : VRels σ m us) (off : Nat) : VRels σ (l.take off ++ m ++ l.drop (off + m.length)) (vs.take off ++ us ++ vs.drop (off + us.length)) := by
 rw [hm.length]; exact ((hl.take off).append hm).append (hl.drop _)
theorem fillH_rel (place : Nat → Option (Nat × Nat)) : ∀ (l : List (Nat × Nat × HVal)) (parts : List (Nat × Value)) (cells : List HVal) (C : Array Value) (cs : List HVal),
  l.length = parts.length → (∀ (i : Nat) (p : Nat × Nat × HVal) (q : Nat × Value), l[i]? = some p → parts[i]? = some q → place q.1 = some (p.1, p.2.1) ∧ VRel σ p.2.2 q.2) → VRels σ cells C.toList → (∀ x ∈ cells, x.scalar = true) →
  fillH l cells = some cs → ∃ C', Instr.fill place C parts = some C' ∧ VRels σ cs C'.toList ∧ ∀ x ∈ cs, x.scalar = true
 | [], parts, cells, C, cs, hlen, _, hc, hs, e => by
  cases parts with
  | cons => simp at hlen
  | nil => simp [fillH] at e; subst e; exact ⟨C, by simp [Instr.fill], hc, hs⟩
 | p :: l, parts, cells, C, cs, hlen, hp, hc, hs, e => by
  cases parts with
  | nil => simp at hlen
  | cons q parts =>
   obtain ⟨h1, h2⟩ := hp 0 p q rfl rfl
   unfold fillH at e
   obtain ⟨v, hv, e⟩ := ob_eq_some.1 e
   obtain ⟨hz, e⟩ := bcase_none_eq_some.1 e
   obtain ⟨hn, e⟩ := bcase_eq_some.1 e
   rw [nbeq] at hz hn
   have hz' : p.2.1 ≠ 0 := by simpa using hz
   have hn' : v.length = p.2.1 := by simpa using hn
   obtain ⟨hr, hvs⟩ := h2.cells hv
   rw [overK_eq] at e
   by_cases hcond : v = [] ∨ p.1 + v.length ≤ cells.length
   ·rw [if_pos hcond] at e
    have hne : v ≠ [] := by rintro rfl; simp at hn'; omega
    have hin := hcond.resolve_left hne
    have hlen2 := hr.length
    have hcl := hc.length
    simp only [Array.length_toList] at hlen2 hcl
    have hover := VRels.over hc hr p.1
    rw [show q.2.cells.toList.length = q.2.cells.size from by simp] at hover
    have hfold := foldl_over q.2.cells.toList p.1 0 C (by simp; omega)
    simp only [Nat.add_zero, Array.length_toList] at hfold
    have hfold' : (q.2.cells.zipIdx.foldl (fun cs (x : Value × Nat) => cs.setIfInBounds (p.1 + x.2) x.1) C).toList = C.toList.take p.1 ++ q.2.cells.toList ++ C.toList.drop (p.1 + q.2.cells.size) := by
     rw [← hfold, ← Array.foldl_toList]; simp
    rw [← hfold'] at hover
    obtain ⟨C', h3, h4⟩ := fillH_rel place l parts _ (q.2.cells.zipIdx.foldl (fun cs (x : Value × Nat) => cs.setIfInBounds (p.1 + x.2) x.1) C) cs (by simpa using hlen)
     (fun i a b ha hb => hp (i + 1) a b (by simpa using ha) (by simpa using hb)) hover
     (by intro x hx; simp only [List.mem_append] at hx; exact hx.elim (fun hx => hx.elim (fun hx => hs x (List.mem_of_mem_take hx)) (hvs x)) fun hx => hs x (List.mem_of_mem_drop hx)) e
    refine ⟨C', ?_, h4⟩
    obtain ⟨qi, qv⟩ := q
    simp only [Instr.fill]
    simp only at h1
    rw [h1]
    simp only
    have hq : qv.cells.size = v.length := hlen2.symm
    rw [if_neg (by simp; omega)]
    exact h3
   ·rw [if_neg hcond] at e; cases e
theorem zeroH_rel {t : TypeId} {z : HVal} (e : zeroH P t = some z) : ∃ i v, P.info? t = some i ∧ i.zero = some v ∧ ofValue v = some z := by
 unfold zeroH at e
 obtain ⟨i, hi, e⟩ := ob_eq_some.1 e
 obtain ⟨v, hv, e⟩ := ob_eq_some.1 e
 exact ⟨i, v, hi, hv, e⟩
theorem zeroH_run (w : World) {t : TypeId} {z : HVal} (e : zeroH P t = some z) : ∃ v, (zeroValue t).run P w = .ok v w ∧ VRel σ z v := by
 obtain ⟨i, v, hi, hv, ho⟩ := zeroH_rel e
 exact ⟨v, by simp [zeroValue, typeInfo, hi, hv], ofValue_rel ho⟩
theorem zeroCells_rel {t : TypeId} {l : List HVal} (e : zeroCells? P t = some l) : ∃ i v, P.info? t = some i ∧ i.zero = some v ∧ VRels σ l v.cells.toList ∧ ∀ x ∈ l, x.scalar = true := by
 unfold zeroCells? at e
 obtain ⟨z, hz, e⟩ := ob_eq_some.1 e
 obtain ⟨i, v, hi, hv, ho⟩ := zeroH_rel hz
 obtain ⟨a, b⟩ := (ofValue_rel (σ := σ) ho).cells e
 exact ⟨i, v, hi, hv, a, b⟩
theorem placesOf_rel {fields : List Field} {ρ : Operand → HVal} : ∀ (parts : List (Nat × Operand)) (l : List (Nat × Nat × HVal)), placesOf P fields ρ parts = some l →
  l.length = parts.length ∧ ∀ (i : Nat) (p : Nat × Nat × HVal) (q : Nat × Operand), l[i]? = some p → parts[i]? = some q → ∃ f : Field, fields[q.1]? = some f ∧ p.1 = f.offset ∧ p.2.1 = P.cellsOf f.type ∧ p.2.2 = ρ q.2
 | [], l, e => by simp [placesOf] at e; subst e; simp
 | q :: parts, l, e => by
  unfold placesOf at e
  obtain ⟨f, hf, e⟩ := ob_eq_some.1 e
  obtain ⟨m, hm, e⟩ := ob_eq_some.1 e
  cases e
  obtain ⟨h1, h2⟩ := placesOf_rel parts m hm
  rw [nth_eq] at hf
  refine ⟨by simp [h1], fun i p q' hp hq => ?_⟩
  cases i with
  | zero => simp at hp hq; subst hp hq; exact ⟨f, hf, rfl, rfl, rfl⟩
  | succ i => exact h2 i p q' (by simpa using hp) (by simpa using hq)
theorem mapM_places {fields : List Field} (hall : ∀ f ∈ fields, ∃ i, P.info? f.type = some i) :
  fields.mapM (fun f => (P.info? f.type).map fun i => (f.offset, i.size)) = some (fields.map fun f => (f.offset, P.cellsOf f.type)) := by
 induction fields with
 | nil => rfl
 | cons f fs ih =>
  obtain ⟨i, hi⟩ := hall f (by simp)
  simp only [List.mapM_cons, hi, Option.map_some]
  rw [ih fun g hg => hall g (by simp [hg])]
  simp [Program.cellsOf, hi]
theorem build_struct {t : TypeId} {fields : Array Field} {ρ : Operand → HVal} {ev : Operand → Value} {parts : Array (Nat × Operand)} {z cs : List HVal} {l : List (Nat × Nat × HVal)} (w : World)
  (hρ : ∀ x, VRel σ (ρ x) (ev x)) (hu : P.underlying t = some (.struct fields)) (hz : zeroCells? P t = some z) (hl : placesOf P fields.toList ρ parts.toList = some l)
  (hall : ∀ f ∈ fields.toList, ∃ i, P.info? f.type = some i) (e : fillH l z = some cs) :
  ∃ C, (Instr.build t (parts.map fun (i, x) => (i, ev x))).run P w = .ok (.agg C) w ∧ VRel σ (.agg cs) (.agg C) := by
 obtain ⟨i, v, hi, hv, h1, h2⟩ := zeroCells_rel (σ := σ) hz
 obtain ⟨h3, h4⟩ := placesOf_rel parts.toList l hl
 have hm := mapM_places (P := P) hall
 obtain ⟨C, h5, h6, h7⟩ := fillH_rel (σ := σ) (fun x => (fields.toList.map fun f => (f.offset, P.cellsOf f.type))[x]?) l (parts.toList.map fun p => (p.1, ev p.2)) z v.cells cs (by simp [h3])
  (fun j p q hp hq => by
   simp only [List.getElem?_map, Option.map_eq_some_iff] at hq
   obtain ⟨q', hq', rfl⟩ := hq
   obtain ⟨f, hf, e1, e2, e3⟩ := h4 j p q' hp hq'
   refine ⟨?_, by rw [e3]; exact hρ _⟩
   simp [hf, e1, e2]) h1 h2 e
 refine ⟨C, run_build w t _ C ?_, C.toList, rfl, h6, h7⟩
 unfold Program.built
 simp only [hi, hu, hv, hm]
 simpa using h5
theorem build_array {t el : TypeId} {n : Nat} {ρ : Operand → HVal} {ev : Operand → Value} {parts : Array (Nat × Operand)} {z cs : List HVal} (w : World)
  (hρ : ∀ x, VRel σ (ρ x) (ev x)) (hu : P.underlying t = some (.array n el)) (hz : zeroCells? P t = some z) (hel : ∃ i, P.info? el = some i)
  (e : fillH (parts.toList.map fun p => (Nat.mul p.1 (P.cellsOf el), P.cellsOf el, ρ p.2)) z = some cs) :
  ∃ C, (Instr.build t (parts.map fun (i, x) => (i, ev x))).run P w = .ok (.agg C) w ∧ VRel σ (.agg cs) (.agg C) := by
 obtain ⟨i, v, hi, hv, h1, h2⟩ := zeroCells_rel (σ := σ) hz
 obtain ⟨ie, hie⟩ := hel
 obtain ⟨C, h5, h6, h7⟩ := fillH_rel (σ := σ) (fun i => some (i * ie.size, ie.size)) _ (parts.toList.map fun p => (p.1, ev p.2)) z v.cells cs (by simp)
  (fun j p q hp hq => by
   simp only [List.getElem?_map, Option.map_eq_some_iff] at hp hq
   obtain ⟨q', hq', rfl⟩ := hq
   obtain ⟨p', hp', rfl⟩ := hp
   rw [hq'] at hp'; cases hp'
   refine ⟨?_, hρ _⟩
   simp [Program.cellsOf, hie]) h1 h2 e
 refine ⟨C, run_build w t _ C ?_, C.toList, rfl, h6, h7⟩
 unfold Program.built
 simp only [hi, hu, hv, hie]
 simpa using h5
end
end Go.HL
namespace Go.HL
open Go
def OutRel (P : Program) (σ : Places) (h : Heap) (w : World) : Out → Result Next → Prop
 | .val x h', r => ∃ nx v τ w', r = .ok nx w' ∧ (nx = .value v ∨ nx = .skip ∧ v = undef) ∧ VRel τ x v ∧ Step P σ h w τ h' w'
 | .enter f args h', r => ∃ args', (f < roundNo ∧ r = .ok (.enter f ⟨args'⟩) w ∨ roundNo ≤ f ∧ ∃ p, σ (f - roundNo) = some p ∧ r = (Instr.yield p.blk ⟨args'⟩).run P w) ∧ VRels σ args args' ∧ h' = h
 | .defer f args h', r => ∃ dargs cap, r = .ok (.defer ⟨.fn (.func f) ⟨cap⟩, ⟨dargs⟩⟩) w ∧ VRels σ args (dargs ++ cap) ∧ h' = h
 | .recov h', r => r = .ok .recover w ∧ h' = h
 | .pan x h', r => ∃ v, r = .halt (.panic v) w ∧ VRel σ x v ∧ h' = h
section
variable {P : Program} {σ : Places} {h : Heap} {w : World}
theorem OutRel.same (r : Rel P σ h w) {x : HVal} {v : Value} (hv : VRel σ x v) : OutRel P σ h w (.val x h) (.ok (.value v) w) :=
 ⟨_, v, σ, w, rfl, .inl rfl, hv, Step.refl r⟩
theorem OutRel.same' (r : Rel P σ h w) {x : HVal} {v : Value} {q : Result Next} (hv : VRel σ x v) (e : q = .ok (.value v) w) : OutRel P σ h w (.val x h) q := e ▸ OutRel.same r hv
theorem OutRel.step {x : HVal} {v : Value} {τ : Places} {h' : Heap} {w' : World} {q : Result Next} (e : q = .ok (.value v) w') (hv : VRel τ x v) (s : Step P σ h w τ h' w') :
  OutRel P σ h w (.val x h') q := ⟨_, v, τ, w', e, .inl rfl, hv, s⟩
theorem OutRel.skip {τ : Places} {h' : Heap} {w' : World} {q : Result Next} (e : q = .ok .skip w') (s : Step P σ h w τ h' w') : OutRel P σ h w (.val undefH h') q :=
 ⟨_, undef, τ, w', e, .inr ⟨rfl, rfl⟩, ⟨[], rfl, VRels.nil⟩, s⟩
theorem val_inv {x : Option HVal} {out : Out} (e : val h x = some out) : ∃ v, x = some v ∧ out = .val v h := by
 unfold val at e
 obtain ⟨v, hv, e⟩ := ob_eq_some.1 e
 cases e; exact ⟨v, hv, rfl⟩
theorem isPtr_inv {x : HVal} {a : Nat × Nat} (e : x.isPtr = some a) : x = .ptr a.1 a.2 := by cases x <;> simp [HVal.isPtr] at e; subst e; rfl
theorem isBool_inv {x : HVal} {a : Bool} (e : x.isBool = some a) : x = .bool a := by cases x <;> simp [HVal.isBool] at e; subst e; rfl
theorem isInt_inv {x : HVal} {a : IntKind × Int} (e : x.isInt = some a) : x = .int a.1 a.2 := by cases x <;> simp [HVal.isInt] at e; subst e; rfl
theorem isAgg_inv {x : HVal} {a : List HVal} (e : x.isAgg = some a) : x = .agg a := by cases x <;> simp [HVal.isAgg] at e; subst e; rfl
theorem isTuple_inv {x : HVal} {a : List HVal} (e : x.isTuple = some a) : x = .tuple a := by cases x <;> simp [HVal.isTuple] at e; subst e; rfl
theorem isMap_inv {x : HVal} {a : Nat} (e : x.isMap = some a) : x = .map a := by cases x <;> simp [HVal.isMap] at e; subst e; rfl
theorem isNat_inv {x : HVal} {a : Nat} (e : x.isNat = some a) : ∃ k, x = .int k (a : Int) := by
 cases x <;> simp [HVal.isNat] at e
 rename_i k n
 exact ⟨k, by rw [natOf_eq e]⟩
theorem infosOk_inv : ∀ {l : List Field}, infosOk P l = true → ∀ f ∈ l, ∃ i, P.info? f.type = some i
 | [], _, f, hf => by simp at hf
 | g :: l, e, f, hf => by
  unfold infosOk at e
  cases hg : P.info? g.type with
  | none => simp [hg] at e
  | some i =>
   rw [hg] at e
   cases hf with
   | head => exact ⟨i, hg⟩
   | tail _ hf => exact infosOk_inv e f hf
theorem repl_length (n : Nat) (l : List HVal) : (repl n l).length = n * l.length := by
 induction n with
 | zero => simp [repl]
 | succ n ih => simp [repl, ih, Nat.succ_mul, Nat.add_comm]
theorem repl_scalar {n : Nat} {l : List HVal} (hs : ∀ x ∈ l, x.scalar = true) : ∀ x ∈ repl n l, x.scalar = true := by
 induction n with
 | zero => simp [repl]
 | succ n ih => intro x hx; simp only [repl, List.mem_append] at hx; exact hx.elim (hs x) (ih x)
theorem repl_get : ∀ (n : Nat) (l : List HVal) (i : Nat), i < n * l.length → (repl n l)[i]? = l[i % l.length]?
 | 0, l, i, h => by simp at h
 | n + 1, l, i, h => by
  simp only [repl]
  by_cases hi : i < l.length
  ·rw [List.getElem?_append_left hi, Nat.mod_eq_of_lt hi]
  ·rw [List.getElem?_append_right (by omega), repl_get n l (i - l.length) (by rw [Nat.succ_mul] at h; omega)]
   congr 1
   rw [Nat.mod_eq_sub_mod (by omega : i ≥ l.length)]
theorem repl_rel {l : List HVal} {C : Array Value} (hl : VRels σ l C.toList) (n m : Nat) (hm : m = n * l.length) : VRels σ (repl n l) ((Array.range m).map fun i => C[i % C.size]!).toList := by
 have hlen := hl.length
 simp only [Array.length_toList] at hlen
 refine VRels.of_get (by simp [repl_length, hm]) fun i x hx => ?_
 have hi : i < n * l.length := by rw [← repl_length]; exact (List.getElem?_eq_some_iff.1 hx).1
 rw [repl_get n l i hi] at hx
 obtain ⟨v, hv, hr⟩ := hl.get hx
 refine ⟨v, ?_, hr⟩
 rw [← hlen]
 simp only [Array.toList_map, Array.toList_range, List.getElem?_map]
 rw [hm, List.getElem?_range hi]
 simp only [Option.map_some, Option.some.injEq]
 rw [getElem!_def]
 simp only [Array.getElem?_toList] at hv
 rw [hv]
section
theorem op_alloc (r : Rel P σ h w) {e : TypeId} {z : List HVal} (hz : zeroCells? P e = some z) :
  OutRel P σ h w (.val (.ptr h.next 0) (h.new (.cells z e false true))) ((do pure (Next.value (← Instr.alloc e true (.tuple #[])))).run P w) := by
 obtain ⟨i, v, hi, hv, h1, h2⟩ := zeroCells_rel (σ := σ) hz
 obtain ⟨τ, hτ, s⟩ := new_cells r h1 h2 e
 refine OutRel.step (v := .pointer (some ⟨w.heap.size, 0, none⟩)) ?_ ⟨_, hτ, rfl⟩ s
 simp [Instr.alloc, zeroValue, typeInfo, hi, hv, newVar, newRow]
theorem op_box (r : Rel P σ h w) {ρ : Operand → HVal} {ev : Operand → Value} (hρ : ∀ x, VRel σ (ρ x) (ev x)) {e : TypeId} {x : Operand} {l : List HVal} (hl : (ρ x).cells = some l) :
  OutRel P σ h w (.val (.ptr h.next 0) (h.new (.cells l e false true))) ((do pure (Next.value (← Instr.box e (ev x)))).run P w) := by
 obtain ⟨h1, h2⟩ := (hρ x).cells hl
 obtain ⟨τ, hτ, s⟩ := new_cells r h1 h2 e
 refine OutRel.step (v := .pointer (some ⟨w.heap.size, 0, none⟩)) ?_ ⟨_, hτ, rfl⟩ s
 simp [Instr.box, newVar, newRow]
theorem op_buildSlice (r : Rel P σ h w) {ρ : Operand → HVal} {ev : Operand → Value} (hρ : ∀ x, VRel σ (ρ x) (ev x)) {t el : TypeId} {len : Nat} {parts : Array (Nat × Operand)} {z cs : List HVal} (hu : P.underlying t = some (.slice el)) (hn : len * P.cellsOf el ≤ 16777216)
  (hz : zeroCells? P el = some z) (hlen : z.length = P.cellsOf el) (e : fillH (parts.toList.map fun p => (Nat.mul p.1 (P.cellsOf el), P.cellsOf el, ρ p.2)) (repl len z) = some cs) :
  OutRel P σ h w (.val (.slice h.next 0 len (some len)) (h.new (.cells cs el false true)))
   ((do pure (Next.value (← Instr.buildSlice t len (parts.map fun (i, x) => (i, ev x))))).run P w) := by
 obtain ⟨i, v, hi, hv, h1, h2⟩ := zeroCells_rel (σ := σ) hz
 have hsz : P.cellsOf el = i.size := by simp [Program.cellsOf, hi]
 obtain ⟨C, h5, h6, h7⟩ := fillH_rel (σ := σ) (fun i => some (i * P.cellsOf el, P.cellsOf el)) _ (parts.toList.map fun p => (p.1, ev p.2)) (repl len z)
  ((Array.range (len * P.cellsOf el)).map fun i => v.cells[i % v.cells.size]!) cs (by simp)
  (fun j p q hp hq => by
   simp only [List.getElem?_map, Option.map_eq_some_iff] at hp hq
   obtain ⟨q', hq', rfl⟩ := hq
   obtain ⟨p', hp', rfl⟩ := hp
   rw [hq'] at hp'; cases hp'
   exact ⟨rfl, hρ _⟩) (repl_rel h1 len _ (by rw [hlen])) (repl_scalar h2) e
 obtain ⟨τ, hτ, s⟩ := new_cells r (vs := C.toList) h6 h7 el
 refine OutRel.step (v := .slice (some ⟨w.heap.size, 0, none⟩) len len) ?_ ⟨_, len, hτ, rfl, Nat.le_refl _, rfl⟩ s
 have hn' : ¬ (2 ^ 24 < len * P.cellsOf el) := by omega
 simp only [Instr.buildSlice, Sem.run_bind, rU w hu, Result.andThen_ok, run_sizeOf' w hi, gt_iff_lt, hn', if_false, Sem.run_ite]
 by_cases h0 : len * P.cellsOf el = 0
 ·simp only [h0, if_true, Sem.run_pure, Result.andThen_ok]
  have hz0 : (Array.range 0).map (fun i => v.cells[i % v.cells.size]!) = (Array.range 0).map (fun i => (#[] : Array Value)[i % (#[] : Array Value).size]!) := by simp
  rw [h0, hz0] at h5
  simp only [Array.toList_map] at *
  rw [h5]
  simp [newRow]
 ·simp only [h0, if_false, Sem.run_bind, zeroValue, typeInfo, run_program, Result.andThen_ok, hi, hv, Sem.run_pure]
  simp only [Array.toList_map] at *
  rw [h5]
  simp [newRow]
end
end
end Go.HL
namespace Go.HL
open Go
section
variable {P : Program} {σ : Places} {h : Heap} {w : World}
def Found (σ : Places) (es : List HEnt) (l : List MapEntry) (i : Nat) : Option (Nat × HEnt) → Option (Nat × Value) → Prop
 | none, o => o = none
 | some p, o => ∃ m, o = some (i + p.1, m.val) ∧ es[p.1]? = some p.2 ∧ l[p.1]? = some m ∧ ERel σ p.2 m
theorem Found.none_cons {es : List HEnt} {l : List MapEntry} {i : Nat} {e : HEnt} {m : MapEntry} {r : Option (Nat × HEnt)} {o : Option (Nat × Value)}
  (f : Found σ es l (i + 1) r o) : Found σ (e :: es) (m :: l) i (match r with | some p => some (Nat.succ p.1, p.2) | none => none) o := by
 cases r with
 | none => exact f
 | some p =>
  obtain ⟨q, h1, h2, h3, h4⟩ := f
  exact ⟨q, by rw [h1]; simp only [Option.some.injEq, Prod.mk.injEq, and_true]; omega, by simpa using h2, by simpa using h3, h4⟩
theorem findAsking_rel {kt : TypeId} {k : HVal} {k' : Value} (hk : VRel σ k k') : ∀ (es : List HEnt) (l : List MapEntry) (i : Nat) (r : Option (Nat × HEnt)), ERels σ es l →
  findH k (keyEqAt P kt) es = some r → ∃ o, (Instr.findAsking kt k' l i).run P w = .ok o w ∧ Found σ es l i r o
 | [], l, i, r, hes, e => by
  have : l = [] := hes
  subst this
  simp [findH] at e; subst e
  exact ⟨none, by simp [Instr.findAsking], rfl⟩
 | a :: es, l, i, r, hes, e => by
  obtain ⟨m, l, rfl, hm, hes⟩ := hes
  unfold findH at e
  obtain ⟨b, hb, e⟩ := ob_eq_some.1 e
  have heq' : (Op.equal kt k' m.key).run P w = .ok b w := heq_rel w 100 10000 kt k a.key k' m.key b (by decide) hk hm.1 hb
  cases b with
  | true =>
   simp at e; subst e
   exact ⟨some (i, m.val), by simp [Instr.findAsking, heq'], m, by simp, rfl, rfl, hm⟩
  | false =>
   simp only [bcF] at e
   obtain ⟨q, hq, e⟩ := ob_eq_some.1 e
   obtain ⟨o, h1, h2⟩ := findAsking_rel hk es l (i + 1) q hes hq
   refine ⟨o, by simp [Instr.findAsking, heq', h1], ?_⟩
   have := h2.none_cons (e := a) (m := m)
   cases q <;> simp at e <;> subst e <;> exact this
theorem sameNow_rel {kt : TypeId} {d : TypeDesc} (hu : P.underlying kt = some d) {k : HVal} {x : HVal} {k' x' : Value} (hk : VRel σ k k') (hx : VRel σ x x') {b : Bool}
  (e : keyEqAt P kt k x = some b) {q : Bool} (hq : Instr.sameNow d k' x' = some q) : q = b := by
 unfold keyEqAt heq at e
 rw [hu] at e
 cases d <;> simp only [Instr.sameNow] at hq <;> try (cases hq; done)
 case bool =>
  simp only at e
  cases k <;> cases x <;> simp at e
  obtain rfl := hk; obtain rfl := hx
  simp at hq; rw [← hq, ← e]
 case int =>
  simp only at e
  cases k <;> cases x <;> simp at e
  obtain ⟨hkk, e2⟩ := bcase_eq_some.1 e
  clear e
  obtain rfl := sameKind_eq hkk
  obtain rfl := hk; obtain rfl := hx
  simp at hq
  rw [ieq_eq] at e2
  cases e2
  rw [← hq]; rfl
 case string =>
  simp only at e
  cases k <;> cases x <;> simp at e
  obtain ⟨s, rfl, rfl, rfl⟩ := hk
  obtain ⟨s', rfl, rfl, rfl⟩ := hx
  simp at hq
  rw [← hq, ← e, str_eq, beq_toListBytes]
theorem findNow_rel {kt : TypeId} {d : TypeDesc} (hu : P.underlying kt = some d) {k : HVal} {k' : Value} (hk : VRel σ k k') : ∀ (es : List HEnt) (l : List MapEntry) (i : Nat) (r : Option (Nat × HEnt)) (o : Option (Nat × Value)),
  ERels σ es l → findH k (keyEqAt P kt) es = some r → Instr.findNow d k' l i = some o → Found σ es l i r o
 | [], l, i, r, o, hes, e, ho => by
  have : l = [] := hes
  subst this
  simp [findH] at e; subst e
  simp [Instr.findNow] at ho; subst ho; rfl
 | a :: es, l, i, r, o, hes, e, ho => by
  obtain ⟨m, l, rfl, hm, hes⟩ := hes
  unfold findH at e
  obtain ⟨b, hb, e⟩ := ob_eq_some.1 e
  unfold Instr.findNow at ho
  cases hs : Instr.sameNow d k' m.key with
  | none => simp [hs] at ho
  | some q =>
   have hqb := sameNow_rel hu hk hm.1 hb hs
   subst hqb
   rw [hs] at ho
   cases q with
   | true =>
    simp at e; subst e
    simp at ho; subst ho
    exact ⟨m, by simp, rfl, rfl, hm⟩
   | false =>
    simp only [bcF] at e
    simp only at ho
    obtain ⟨q, hq, e⟩ := ob_eq_some.1 e
    have := (findNow_rel hu hk es l (i + 1) q o hes hq ho).none_cons (e := a) (m := m)
    cases q <;> simp at e <;> subst e <;> exact this
theorem findKey_rel {kt : TypeId} {d : TypeDesc} (hu : P.underlying kt = some d) {k : HVal} {k' : Value} (hk : VRel σ k k') {es : List HEnt} {l : List MapEntry} {r : Option (Nat × HEnt)} (hes : ERels σ es l)
  (e : findH k (keyEqAt P kt) es = some r) : ∃ o, (Instr.findKey kt k' l).run P w = .ok o w ∧ Found σ es l 0 r o := by
 cases hn : Instr.findNow d k' l 0 with
 | some o => exact ⟨o, by simp [Instr.findKey, rU w hu, hn], findNow_rel hu hk es l 0 r o hes e hn⟩
 | none =>
  obtain ⟨o, h1, h2⟩ := findAsking_rel (P := P) (w := w) hk es l 0 r hes e
  exact ⟨o, by simp [Instr.findKey, rU w hu, hn, h1], h2⟩
theorem simpleType_inv {t : TypeId} (e : simpleType P t = true) : ∃ d, P.underlying t = some d ∧ ((∃ k, d = .int k) ∨ d = .string ∨ d = .bool) := by
 unfold simpleType at e
 cases hu : P.underlying t with
 | none => simp [hu] at e
 | some d => cases d <;> simp [hu] at e <;> exact ⟨_, rfl, by simp⟩
theorem checkKey_simple {t : TypeId} (e : simpleType P t = true) (b : Bool) (n : Nat) (v : Value) : (Instr.checkKey b (n + 1) t v).run P w = .ok () w := by
 obtain ⟨d, hu, hd⟩ := simpleType_inv e
 unfold Instr.checkKey
 rw [Sem.run_bind, rU w hu]
 rcases hd with ⟨k, rfl⟩ | rfl | rfl <;> simp
theorem checkKey_fields {cs : List HVal} {cs' : List Value} (hr : VRels σ cs cs') (hs : ∀ y ∈ cs, y.scalar = true) (b : Bool) (n : Nat) : ∀ (fs : List Field),
  (fs.all fun f => !(f.name == "_") && simpleType P f.type) = true → keyParts P cs fs = true →
  (forIn fs PUnit.unit (fun (f : Field) _ => do
   if f.name ≠ "_" then Instr.checkKey b (n + 1) f.type (← part f.type ⟨cs'⟩ f.offset)
   pure (ForInStep.yield PUnit.unit))).run P w = .ok PUnit.unit w
 | [], _, _ => by simp
 | f :: fs, ha, hp => by
  simp only [List.all_cons, Bool.and_eq_true, Bool.not_eq_true', beq_eq_false_iff_ne] at ha
  unfold keyParts at hp
  cases hx : partH P f.type cs f.offset with
  | none => simp [hx] at hp
  | some x =>
   rw [hx] at hp
   obtain ⟨v, hv, _⟩ := partH_rel w hr hs hx
   have ih := checkKey_fields hr hs b n fs ha.2 hp
   rw [List.forIn_cons, Sem.run_bind, if_pos ha.1.1, Sem.run_bind, hv, Result.andThen_ok, Sem.run_bind, checkKey_simple ha.1.2, Result.andThen_ok, Sem.run_pure, Result.andThen_ok]
   exact ih
theorem checkKey_relN {kt : TypeId} {k : HVal} {k' : Value} (hk : VRel σ k k') (e : simpleKey P kt = true) (e' : keyOk P kt k = true) (b : Bool) (n : Nat) : (Instr.checkKey b (n + 2) kt k').run P w = .ok () w := by
 unfold simpleKey at e
 unfold keyOk at e'
 cases hu : P.underlying kt with
 | none => simp [hu] at e
 | some d =>
  rw [hu] at e e'
  unfold Instr.checkKey
  rw [Sem.run_bind, rU w hu]
  cases d <;> simp only at e <;> try (cases e; done)
  case bool => simp
  case int => simp
  case string => simp
  case struct fs =>
   simp only at e'
   cases k <;> simp only at e' <;> try (cases e'; done)
   obtain ⟨cs', rfl, hr, hs⟩ := hk
   have := checkKey_fields (w := w) hr hs b n fs.toList e e'
   simp only [Result.andThen_ok]
   rw [← Array.forIn_toList]
   simpa using this
theorem checkKey_rel {kt : TypeId} {k : HVal} {k' : Value} (hk : VRel σ k k') (e : simpleKey P kt = true) (e' : keyOk P kt k = true) (b : Bool) : (Instr.checkKey b 10000 kt k').run P w = .ok () w :=
 checkKey_relN hk e e' b 9998
end
end Go.HL
namespace Go.HL
open Go
section
variable {P : Program} {σ : Places} {h : Heap} {w : World}
theorem sameCell_bits {x y : HVal} {a b : Value} (e : sameCell x y = true) (hx : VRel σ x a) (hy : VRel σ y b) (n : Nat) : Instr.sameBits n a b = true := by
 cases x <;> cases y <;> simp only [sameCell] at e <;> try (cases e; done)
 ·obtain rfl := hx; obtain rfl := hy
  simp at e; subst e; cases n <;> simp [Instr.sameBits]
 ·rw [bcE] at e
  split at e
  ·rename_i hk
   obtain rfl := sameKind_eq hk
   obtain rfl := hx; obtain rfl := hy
   rw [ieq_eq] at e
   have := of_decide_eq_true e
   subst this; cases n <;> simp [Instr.sameBits]
  ·cases e
 ·obtain ⟨s, rfl, rfl, rfl⟩ := hx
  obtain ⟨s', rfl, rfl, rfl⟩ := hy
  rw [str_eq, ← beq_toListBytes] at e
  cases n <;> simpa [Instr.sameBits] using e
theorem sameCells_bits : ∀ {l m : List HVal} {a b : List Value}, sameCells l m = true → VRels σ l a → VRels σ m b → ∀ n, a.length = b.length ∧ (a.zip b).all (fun p => Instr.sameBits n p.1 p.2) = true
 | [], [], a, b, _, ha, hb, n => by rw [ha.nil_inv, hb.nil_inv]; simp
 | [], _ :: _, _, _, e, _, _, _ => by simp [sameCells] at e
 | _ :: _, [], _, _, e, _, _, _ => by simp [sameCells] at e
 | x :: l, y :: m, a, b, e, ha, hb, n => by
  obtain ⟨u, a, rfl, hu, ha⟩ := ha.cons_inv
  obtain ⟨v, b, rfl, hv, hb⟩ := hb.cons_inv
  simp only [sameCells] at e
  rw [bcE] at e
  split at e
  ·rename_i hc
   obtain ⟨h1, h2⟩ := sameCells_bits e ha hb n
   exact ⟨by simp [h1], by simp only [List.zip_cons_cons, List.all_cons, sameCell_bits hc hu hv n, Bool.true_and]; exact h2⟩
  ·cases e
theorem sameKey_bits {x y : HVal} {a b : Value} (e : sameKey x y = true) (hx : VRel σ x a) (hy : VRel σ y b) (n : Nat) : Instr.sameBits (n + 1) a b = true := by
 unfold sameKey at e
 split at e
 ·obtain ⟨a, rfl, ha, _⟩ := hx
  obtain ⟨b, rfl, hb, _⟩ := hy
  obtain ⟨h1, h2⟩ := sameCells_bits e ha hb n
  unfold Instr.sameBits
  simp only [Bool.and_eq_true]
  exact ⟨by simpa using h1, h2⟩
 ·exact sameCell_bits e hx hy _
theorem keyThatStays_rel {x y : HVal} {a b : Value} (e : sameKey x y = true) (hx : VRel σ x a) (hy : VRel σ y b) : (Instr.keyThatStays a b).run P w = .ok b w := by
 have h1 : Instr.sameBits 10000 a b = true := sameKey_bits e hx hy 9999
 unfold Instr.keyThatStays
 rw [if_pos h1]; rfl
theorem ERels.length : ∀ {es : List HEnt} {l : List MapEntry}, ERels σ es l → es.length = l.length
 | [], _, h => by have : _ = [] := h; subst this; rfl
 | _ :: _, _, ⟨_, m, e, _, h⟩ => by subst e; simp [ERels.length h]
theorem ERels.append_one : ∀ {es : List HEnt} {l : List MapEntry} {e : HEnt} {m : MapEntry}, ERels σ es l → ERel σ e m → ERels σ (es ++ [e]) (l ++ [m])
 | [], _, e, m, h, he => by have : _ = [] := h; subst this; exact ⟨m, [], rfl, he, rfl⟩
 | _ :: _, _, _, _, ⟨y, m', e, hy, h⟩, he => by subst e; exact ⟨y, m' ++ _, rfl, hy, ERels.append_one h he⟩
theorem ERels.set : ∀ {es : List HEnt} {l : List MapEntry} (i : Nat) {e : HEnt} {m : MapEntry}, ERels σ es l → ERel σ e m → ERels σ (es.set i e) (l.set i m)
 | [], _, _, _, _, h, _ => by have : _ = [] := h; subst this; rfl
 | _ :: _, _, 0, _, m, ⟨y, m', e, hy, h⟩, he => by subst e; exact ⟨m, m', rfl, he, h⟩
 | _ :: _, _, i + 1, _, _, ⟨y, m', e, hy, h⟩, he => by subst e; exact ⟨y, m'.set i _, rfl, hy, ERels.set i h he⟩
theorem ERels.erase : ∀ {es : List HEnt} {l : List MapEntry} (i : Nat), ERels σ es l → ERels σ (es.eraseIdx i) (l.eraseIdx i)
 | [], _, _, h => by have : _ = [] := h; subst this; rfl
 | _ :: _, _, 0, ⟨y, m', e, hy, h⟩ => by subst e; exact h
 | _ :: _, _, i + 1, ⟨y, m', e, hy, h⟩ => by subst e; exact ⟨y, m'.eraseIdx i, rfl, hy, ERels.erase i h⟩
theorem ERels.get : ∀ {es : List HEnt} {l : List MapEntry} {i : Nat} {e : HEnt}, ERels σ es l → es[i]? = some e → ∃ m, l[i]? = some m ∧ ERel σ e m
 | [], _, _, _, _, e => by simp at e
 | _ :: _, _, 0, _, ⟨y, m', e, hy, h⟩, h' => by subst e; simp at h'; subst h'; exact ⟨y, rfl, hy⟩
 | _ :: _, _, i + 1, _, ⟨y, m', e, hy, h⟩, h' => by subst e; simpa using ERels.get h (i := i) (by simpa using h')
theorem Rel.entries (r : Rel P σ h w) {k : Nat} {q : Place} (hq : σ k = some q) {o : List HEnt × Nat × Bool} (e : h.entries k = some o) :
  ∃ p es', σ k = some p ∧ w.heap[p.blk]? = some (.map es' o.2.1) ∧ ERels σ o.1 es'.toList := by
 obtain ⟨es', h1, h2⟩ := r.obj k _ q (entries_inv e) rfl hq
 exact ⟨q, es', hq, h1, h2⟩
theorem run_getMap {b : Nat} {es' : Array MapEntry} {c : Nat} (hb : w.heap[b]? = some (.map es' c)) : (getObj b).run P w = .ok (.map es' c) w := by
 simp [getObj, Sem.run, hb]
theorem run_setMap {b : Nat} {es' : Array MapEntry} {c : Nat} (hb : w.heap[b]? = some (.map es' c)) (o : Obj) : (setObj b o).run P w = .ok () { w with heap := w.heap.setIfInBounds b o } := by
 simp [setObj, Sem.run, hb]
theorem lookup_rel (r : Rel P σ h w) {t : TypeId} {x i : HVal} {x' i' : Value} {ok : Bool} {out : Out} (hx : VRel σ x x') (hi : VRel σ i i') (e : lookupH P t x i ok h = some out) :
  OutRel P σ h w out ((do pure (Next.value (← Instr.lookup t x' i' ok))).run P w) := by
 unfold lookupH at e
 cases hu : P.underlying t with
 | none => simp [hu] at e
 | some d =>
  rw [hu] at e
  cases d <;> simp only at e <;> try (cases e; done)
  case map kt et =>
   obtain ⟨hk, e⟩ := bcase_eq_some.1 e
   obtain ⟨hko, e⟩ := bcase_eq_some.1 e
   obtain ⟨z, hz, e⟩ := ob_eq_some.1 e
   obtain ⟨zv, hzr, hzv⟩ := zeroH_run (σ := σ) w hz
   have hukt : ∃ d, P.underlying kt = some d := by
    unfold simpleKey at hk
    cases hkt : P.underlying kt with
    | none => simp [hkt] at hk
    | some d => exact ⟨d, rfl⟩
   obtain ⟨dk, hdk⟩ := hukt
   have fin : ∀ (v : HVal) (v' : Value) (b : Bool), VRel σ v v' → VRel σ (bcase ok (.tuple [v, .bool b]) v) (if ok then .tuple #[v', .bool b] else v') := by
    intro v v' b hv
    cases ok
    ·exact hv
    ·exact ⟨_, rfl, VRels.cons hv (VRels.cons rfl VRels.nil)⟩
   cases x <;> simp only at e <;> try (cases e; done)
   case nilm =>
    obtain rfl := hx
    cases e
    have hf := findKey_rel (P := P) (w := w) hdk hi (es := []) (l := []) (r := none) rfl rfl
    obtain ⟨o, h1, h2⟩ := hf
    obtain rfl : o = none := h2
    refine OutRel.same' r (fin z zv false hzv) ?_
    simp [Instr.lookup, rU w hu, checkKey_rel hi hk hko, h1, hzr]
   case map k =>
    obtain ⟨es, hes, e⟩ := ob_eq_some.1 e
    obtain ⟨q, hq, rfl⟩ := hx
    obtain ⟨p, es', hp, hb, hrel⟩ := r.entries hq hes
    rw [hp] at hq; cases hq
    obtain ⟨f, hf, e⟩ := ob_eq_some.1 e
    obtain ⟨o, h1, h2⟩ := findKey_rel (P := P) (w := w) hdk hi hrel hf
    cases f with
    | none =>
     obtain rfl : o = none := h2
     cases e
     refine OutRel.same' r (fin z zv false hzv) ?_
     simp [Instr.lookup, rU w hu, run_getMap hb, checkKey_rel hi hk hko, h1, hzr]
    | some f =>
     obtain ⟨m, rfl, _, _, hm⟩ := h2
     cases e
     refine OutRel.same' r (fin f.2.val m.val true hm.2.1) ?_
     simp [Instr.lookup, rU w hu, run_getMap hb, checkKey_rel hi hk hko, h1]
theorem Step.setMap (r : Rel P σ h w) {k : Nat} {o : List HEnt × Nat × Bool} {p : Place} (e : h.entries k = some o) (hrw : o.2.2 = true) (hp : σ k = some p) {es : List HEnt} {es' : Array MapEntry} {c : Nat}
  (hes : ERels σ es es'.toList) : Step P σ h w σ (h.put k (.map es c true)) { w with heap := w.heap.setIfInBounds p.blk (.map es' c) } := by
 have hget := entries_inv e
 obtain ⟨q, es0, hq, hb, _⟩ := r.entries hp e
 rw [hp] at hq; cases hq
 have hlt : p.blk < w.heap.size := r.inb k p hp
 refine Step.put r hget hrw hp ⟨es', ?_, hes⟩ (fun b hb' => ?_) (by simp) rfl rfl rfl
 ·simp [hlt]
 ·simp [Ne.symm hb']
theorem simpleKey_under {kt : TypeId} (hk : simpleKey P kt = true) : ∃ d, P.underlying kt = some d := by
 unfold simpleKey at hk
 cases hkt : P.underlying kt with
 | none => simp [hkt] at hk
 | some d => exact ⟨d, rfl⟩
theorem modify_list {es' : Array MapEntry} {i : Nat} {ent : MapEntry} (g : MapEntry → MapEntry) (hgl : es'.toList[i]? = some ent) : (es'.modify i g).toList = es'.toList.set i (g ent) := by
 apply List.ext_getElem?
 intro j
 have hgl' : es'[i]? = some ent := by simpa using hgl
 simp only [Array.getElem?_toList, Array.getElem?_modify, List.getElem?_set, Array.length_toList]
 by_cases hj : i = j
 ·subst hj
  obtain ⟨hlt, hve⟩ := Array.getElem?_eq_some_iff.1 hgl'
  simp [hve, hlt]
 ·simp [hj]
theorem update_rel (r : Rel P σ h w) {t : TypeId} {m k v : HVal} {m' k' v' : Value} {out : Out} (hm : VRel σ m m') (hk : VRel σ k k') (hv : VRel σ v v') (e : updateH P t m k v h = some out) :
  OutRel P σ h w out ((do Instr.mapUpdate t m' k' v'; pure Next.skip).run P w) := by
 unfold updateH at e
 cases hu : P.underlying t with
 | none => simp [hu] at e
 | some d =>
  rw [hu] at e
  cases d <;> simp only at e <;> try (cases e; done)
  case map kt et =>
   obtain ⟨b, hb, e⟩ := ob_eq_some.1 e
   obtain rfl := isMap_inv hb
   obtain ⟨p, hp, rfl⟩ := hm
   unfold writeH at e
   obtain ⟨hks, e⟩ := bcase_eq_some.1 e
   obtain ⟨hko, e⟩ := bcase_eq_some.1 e
   obtain ⟨o, ho, e⟩ := ob_eq_some.1 e
   obtain ⟨hrw, e⟩ := bcase_eq_some.1 e
   obtain ⟨f, hf, e⟩ := ob_eq_some.1 e
   obtain ⟨q, es', hq, hbk, hrel⟩ := r.entries hp ho
   rw [hp] at hq; cases hq
   obtain ⟨dk, hdk⟩ := simpleKey_under hks
   obtain ⟨res, h1, h2⟩ := findKey_rel (P := P) (w := w) hdk hk hrel hf
   cases f with
   | none =>
    obtain rfl : res = none := h2
    cases e
    refine OutRel.skip (τ := σ) (w' := { w with heap := w.heap.setIfInBounds p.blk (.map (es'.push { key := k', val := v', born := o.2.1 }) (o.2.1 + 1)) }) ?_ ?_
    ·simp [Instr.mapUpdate, rU w hu, run_getMap hbk, checkKey_rel hk hks hko, h1, run_setMap hbk]
    ·refine Step.setMap r ho hrw hp ?_
     simpa using hrel.append_one (e := ⟨k, v, o.2.1⟩) (m := { key := k', val := v', born := o.2.1 }) ⟨hk, hv, rfl⟩
   | some f =>
    obtain ⟨ent, rfl, hge, hgl, hent⟩ := h2
    obtain ⟨hsame, e⟩ := bcase_eq_some.1 e
    cases e
    have hkey : (((es'[f.1]?).map (·.key)).getD k') = ent.key := by
     have : es'[f.1]? = some ent := by simpa using hgl
     simp [this]
    refine OutRel.skip (τ := σ) (w' := { w with heap := w.heap.setIfInBounds p.blk (.map (es'.modify f.1 fun e => { e with key := k', val := v' }) o.2.1) }) ?_ ?_
    ·simp only [Nat.zero_add] at h1
     simp [Instr.mapUpdate, rU w hu, run_getMap hbk, checkKey_rel hk hks hko, h1, hkey, keyThatStays_rel hsame hent.1 hk, run_setMap hbk]
    ·refine Step.setMap r ho hrw hp ?_
     have := hrel.set f.1 (e := ⟨k, v, f.2.born⟩) (m := { ent with key := k', val := v' }) ⟨hk, hv, hent.2.2⟩
     rw [modify_list _ hgl]; exact this
theorem entry_rel (r : Rel P σ h w) {t : TypeId} {m k : HVal} {m' k' : Value} {out : Out} (hm : VRel σ m m') (hk : VRel σ k k') (e : entryH P t m k h = some out) :
  OutRel P σ h w out ((do pure (Next.value (← Instr.mapEntry t m' k'))).run P w) := by
 unfold entryH at e
 cases hu : P.underlying t with
 | none => simp [hu] at e
 | some d =>
  rw [hu] at e
  cases d <;> simp only at e <;> try (cases e; done)
  case map kt et =>
   obtain ⟨b, hb, e1⟩ := ob_eq_some.1 e
   clear e
   obtain rfl := isMap_inv hb
   clear hb
   obtain ⟨p, hp, rfl⟩ := hm
   obtain ⟨z, hz, e2⟩ := ob_eq_some.1 e1
   clear e1
   obtain ⟨zv, hzr, hzv⟩ := zeroH_run (σ := σ) w hz
   unfold writeH at e2
   obtain ⟨hks, e3⟩ := bcase_eq_some.1 e2
   obtain ⟨hko, e4⟩ := bcase_eq_some.1 e3
   obtain ⟨o, ho, e5⟩ := ob_eq_some.1 e4
   obtain ⟨hrw, e6⟩ := bcase_eq_some.1 e5
   obtain ⟨f, hf, e7⟩ := ob_eq_some.1 e6
   clear e2 e3 e4 e5 e6
   obtain ⟨q, es', hq, hbk, hrel⟩ := r.entries hp ho
   rw [hp] at hq; cases hq
   obtain ⟨dk, hdk⟩ := simpleKey_under hks
   obtain ⟨res, h1, h2⟩ := findKey_rel (P := P) (w := w) hdk hk hrel hf
   cases f with
   | none =>
    obtain rfl : res = none := h2
    cases e7
    refine OutRel.step (τ := σ) (v := .tuple #[zv, .int .i64 (o.2.1 : Int)]) (w' := { w with heap := w.heap.setIfInBounds p.blk (.map (es'.push { key := k', val := zv, born := o.2.1 }) (o.2.1 + 1)) }) ?_ ⟨_, rfl, VRels.cons hzv (VRels.cons rfl VRels.nil)⟩ ?_
    ·simp [Instr.mapEntry, rU w hu, run_getMap hbk, checkKey_rel hk hks hko, h1, run_setMap hbk, hzr, goInt]
    ·refine Step.setMap r ho hrw hp ?_
     simpa using hrel.append_one (e := ⟨k, z, o.2.1⟩) (m := { key := k', val := zv, born := o.2.1 }) ⟨hk, hzv, rfl⟩
   | some f =>
    obtain ⟨ent, rfl, hge, hgl, hent⟩ := h2
    obtain ⟨hsame, e8⟩ := bcase_eq_some.1 e7
    clear e7
    cases e8
    have hgl' : es'[f.1]? = some ent := by simpa using hgl
    have hkey : (((es'[f.1]?).map (·.key)).getD k') = ent.key := by simp [hgl']
    have hborn : ((es'[f.1]?).map (fun x => (x.born : Int))).getD 0 = (f.2.born : Int) := by simp [hgl', hent.2.2]
    refine OutRel.step (τ := σ) (v := .tuple #[ent.val, .int .i64 (f.2.born : Int)]) (w' := { w with heap := w.heap.setIfInBounds p.blk (.map (es'.modify f.1 fun e => { e with key := k' }) o.2.1) }) ?_
     ⟨_, rfl, VRels.cons hent.2.1 (VRels.cons rfl VRels.nil)⟩ ?_
    ·simp only [Nat.zero_add] at h1
     simp [Instr.mapEntry, rU w hu, run_getMap hbk, checkKey_rel hk hks hko, h1, hkey, keyThatStays_rel hsame hent.1 hk, run_setMap hbk, hborn, goInt]
    ·refine Step.setMap r ho hrw hp ?_
     have := hrel.set f.1 (e := ⟨k, f.2.val, f.2.born⟩) (m := { ent with key := k' }) ⟨hk, hent.2.1, hent.2.2⟩
     rw [modify_list _ hgl]; exact this
theorem bornH_rel : ∀ {es : List HEnt} {l : List MapEntry} {n : Nat} {q : Nat × HEnt}, ERels σ es l → bornH n es = some q →
  es[q.1]? = some q.2 ∧ ∃ m, l[q.1]? = some m ∧ ERel σ q.2 m ∧ l.findIdx? (fun e => (e.born : Int) == (n : Int)) = some q.1
 | [], _, _, _, _, e => by simp [bornH] at e
 | a :: es, l, n, q, hes, e => by
  obtain ⟨m, l, rfl, hm, hes⟩ := hes
  unfold bornH at e
  rw [bcE, nbeq] at e
  by_cases hb : a.born = n
  ·simp [hb] at e; subst e
   refine ⟨rfl, m, rfl, hm, ?_⟩
   have : ((m.born : Int) == (n : Int)) = true := by rw [← hm.2.2, hb]; simp
   simp [List.findIdx?_cons, this]
  ·simp only [hb, decide_false, Bool.false_eq_true, if_false] at e
   obtain ⟨q', hq', e⟩ := ob_eq_some.1 e
   cases e
   obtain ⟨h1, m', h2, h3, h4⟩ := bornH_rel hes hq'
   refine ⟨by simpa using h1, m', by simpa using h2, h3, ?_⟩
   have : ((m.born : Int) == (n : Int)) = false := by rw [← hm.2.2]; simp; omega
   simp [List.findIdx?_cons, this, h4]
theorem entryStore_rel (r : Rel P σ h w) {t : TypeId} {m v : HVal} {m' s' v' : Value} {b n : Nat} {kd : IntKind} {o : List HEnt × Nat × Bool} {q : Nat × HEnt} (hm : VRel σ m m') (hv : VRel σ v v') (hs : s' = .int kd (n : Int))
  (hb : m.isMap = some b) (ho : h.entries b = some o) (hrw : o.2.2 = true) (hq : bornH n o.1 = some q) :
  OutRel P σ h w (.val undefH (h.put b (.map (o.1.set q.1 ⟨q.2.key, v, q.2.born⟩) o.2.1 true))) ((do Instr.entryStore t m' s' v'; pure Next.skip).run P w) := by
 obtain rfl := isMap_inv hb
 obtain ⟨p, hp, rfl⟩ := hm
 obtain ⟨q', es', hq', hbk, hrel⟩ := r.entries hp ho
 rw [hp] at hq'; cases hq'
 obtain ⟨h1, ent, h2, h3, h4⟩ := bornH_rel hrel hq
 subst hs
 refine OutRel.skip (τ := σ) (w' := { w with heap := w.heap.setIfInBounds p.blk (.map (es'.modify q.1 fun e => { e with val := v' }) o.2.1) }) ?_ ?_
 ·have h4' : es'.findIdx? (fun e => (e.born : Int) == (n : Int)) = some q.1 := by obtain ⟨l⟩ := es'; simpa using h4
  simp [Instr.entryStore, run_getMap hbk, asInt, asIntOf, h4', run_setMap hbk]
 ·refine Step.setMap r ho hrw hp ?_
  rw [modify_list _ h2]
  exact hrel.set q.1 ⟨h3.1, hv, h3.2.2⟩
end
end Go.HL
namespace Go.HL
open Go
section
variable {P : Program} {σ : Places} {h : Heap} {w : World}
theorem boundH_rel {x : HVal} {v : Value} {y i : Nat} (hx : VRel σ x v) (e : boundH x y = some i) (code : BoundsCode) : (Instr.sliceBound v y code).run P w = .ok i w ∧ i ≤ y := by
 unfold boundH at e
 obtain ⟨n, hn, e⟩ := ob_eq_some.1 e
 obtain ⟨k, rfl⟩ := isNat_inv hn
 obtain ⟨hle, e⟩ := bcase_eq_some.1 e
 cases e
 rw [nble] at hle
 have hle' : i ≤ y := by simpa using hle
 obtain rfl := hx
 refine ⟨?_, hle'⟩
 have : (0 : Int) ≤ (i : Int) ∧ (i : Int) ≤ (y : Int) := by omega
 simp only [Instr.sliceBound, asIntOf, Sem.run_bind, Sem.run_pure, Result.andThen_ok]
 rw [if_pos this]
 simp
def ORelO (σ : Places) : Option HVal → Option Value → Prop
 | none, v => v = none
 | some x, v => ∃ y, v = some y ∧ VRel σ x y
theorem bounds2 {lo hi : Option HVal} {lo' hi' : Option Value} {isSlice : Bool} {len cap hd hb lb : Nat} (hlo : ORelO σ lo lo') (hhi : ORelO σ hi hi') (hcap : hd ≤ cap) (hlen : len ≤ cap) (h1 : boundO hi hd len = some hb) (h2 : boundO lo hb 0 = some lb) :
  (Instr.sliceBounds isSlice len cap lo' hi' none).run P w = .ok (lb, hb, cap) w ∧ lb ≤ hb ∧ hb ≤ cap := by
 have key : ∀ code, (match hi' with
  | some v => Instr.sliceBound v cap code
  | none => pure len : Sem Nat).run P w = .ok hb w ∧ hb ≤ cap := by
  intro code
  cases hi with
  | none =>
   obtain rfl := hhi
   simp [boundO] at h1; subst h1
   exact ⟨by simp, hlen⟩
  | some x =>
   obtain ⟨y, rfl, hy⟩ := hhi
   have h1' : boundH x cap = some hb := by
    unfold boundO boundH at h1
    unfold boundH
    obtain ⟨n, hn, h1⟩ := ob_eq_some.1 h1
    obtain ⟨hle, h1⟩ := bcase_eq_some.1 h1
    cases h1
    rw [hn]
    rw [nble] at hle
    simp only [obS]
    rw [nble, decide_eq_true (Nat.le_trans (by simpa using hle) hcap)]; rfl
   exact boundH_rel hy h1' _
 have key2 : ∀ code, (match lo' with
  | some v => Instr.sliceBound v hb code
  | none => pure 0 : Sem Nat).run P w = .ok lb w ∧ lb ≤ hb := by
  intro code
  cases lo with
  | none =>
   obtain rfl := hlo
   simp [boundO] at h2; subst h2
   exact ⟨by simp, Nat.zero_le _⟩
  | some x =>
   obtain ⟨y, rfl, hy⟩ := hlo
   exact boundH_rel hy h2 _
 refine ⟨?_, (key2 .sliceB).2, (key .sliceAcap).2⟩
 have k1 := (key (if isSlice then .sliceAcap else .sliceAlen)).1
 have k2 := (key2 .sliceB).1
 unfold Instr.sliceBounds
 simp only [Sem.run_bind, Sem.run_pure, Result.andThen_ok, Option.isSome_none, Bool.false_eq_true, if_false]
 cases hi' <;> cases lo' <;> simp only [Sem.run_bind, Sem.run_pure, Result.andThen_ok, Result.ok.injEq, and_true] at k1 k2 ⊢
 ·rw [k1, k2]
 ·rw [k1, k2]; simp
 ·rw [k1]; simp [k2]
 ·rw [k1]; simp [k2]
theorem bounds3 {lo hi : Option HVal} {m : HVal} {lo' hi' : Option Value} {m' : Value} {isSlice : Bool} {len cap md mb hb lb : Nat} (hlo : ORelO σ lo lo') (hhi : ORelO σ hi hi') (hm : VRel σ m m') (hcap : md ≤ cap)
  (h0 : boundH m md = some mb) (h1 : boundM hi mb = some hb) (h2 : boundO lo hb 0 = some lb) :
  (Instr.sliceBounds isSlice len cap lo' hi' (some m')).run P w = .ok (lb, hb, mb) w ∧ lb ≤ hb ∧ hb ≤ mb ∧ mb ≤ md := by
 have k0 : ∀ code, (Instr.sliceBound m' cap code).run P w = .ok mb w := by
  intro code
  have : boundH m cap = some mb := by
   unfold boundH at h0 ⊢
   obtain ⟨n, hn, h0⟩ := ob_eq_some.1 h0
   obtain ⟨hle, h0⟩ := bcase_eq_some.1 h0
   cases h0
   rw [hn]
   rw [nble] at hle
   simp only [obS]
   rw [nble, decide_eq_true (Nat.le_trans (by simpa using hle) hcap)]; rfl
  exact (boundH_rel hm this code).1
 have kmd := (boundH_rel (P := P) (w := w) hm h0 .sliceB).2
 cases hi with
 | none => simp [boundM] at h1
 | some x =>
  obtain ⟨y, rfl, hy⟩ := hhi
  simp only [boundM] at h1
  have k1 := fun code => boundH_rel (P := P) (w := w) hy h1 code
  have key2 : ∀ code, (match lo' with
   | some v => Instr.sliceBound v hb code
   | none => pure 0 : Sem Nat).run P w = .ok lb w ∧ lb ≤ hb := by
   intro code
   cases lo with
   | none =>
    obtain rfl := hlo
    simp [boundO] at h2; subst h2
    exact ⟨by simp, Nat.zero_le _⟩
   | some x =>
    obtain ⟨y, rfl, hy⟩ := hlo
    exact boundH_rel hy h2 _
  refine ⟨?_, (key2 .sliceB).2, (k1 .sliceB).2, kmd⟩
  have k2 := (key2 .slice3C).1
  unfold Instr.sliceBounds
  simp only [Sem.run_bind, Option.isSome_some, if_true]
  rw [k0]; simp only [Result.andThen_ok]
  rw [(k1 .slice3B).1]; simp only [Result.andThen_ok]
  cases lo' <;> simp only [Sem.run_bind, Sem.run_pure, Result.andThen_ok, Result.ok.injEq, and_true] at k2 ⊢
  ·rw [k2]
  ·rw [k2]; simp
theorem moved_eq (off l m s : Nat) : moved off l m s = if l = m then off else off + l * s := by
 unfold moved; rw [bcE, nbeq]; simp
theorem add_place (b o l s : Nat) (m : Nat) : (if m = l then (⟨b, o, none⟩ : Addr) else (⟨b, o, none⟩ : Addr).add (l * s)) = ⟨b, moved o l m s, none⟩ := by
 rw [moved_eq, addr_add]
 by_cases h : m = l
 ·subst h; simp
 ·rw [if_neg h, if_neg (Ne.symm h)]
theorem moved_base (b o l m s : Nat) : moved (b + o) l m s = b + moved o l m s := by
 rw [moved_eq, moved_eq]; split <;> omega
theorem room_le (r : Rel P σ h w) {k off n e c : Nat} {p : Place} (hp : σ k = some p) (hcap : p.esz = 0 ∨ off + c * p.esz = p.cells) (hr : roomFor P h k off n e = true) :
  n ≤ c := by
 unfold roomFor at hr
 cases ho : h.cells k with
 | none => rw [ho] at hr; cases hr
 | some o =>
  rw [ho] at hr
  simp only [bcE, nbeq, nble] at hr
  obtain ⟨q, hq, ro⟩ := r.cells hp ho
  rw [hp] at hq; cases hq
  obtain ⟨C, elem, fr, hbk, hcl, hsc, hel, hown, hex, hsp, hsz⟩ := ro
  by_cases h1 : o.2.2.1 = true
  ·by_cases h2 : o.2.2.2 = true
   ·by_cases h3 : o.2.1 = e
    ·by_cases h4 : e = 0
     ·simp [h1, h2, h3, h4] at hr
     ·by_cases h5 : P.cellsOf e = 0
      ·simp [h1, h2, h3, h4, h5] at hr
      ·simp only [h1, h2, h3, h4, h5, if_true, decide_true, decide_false, Bool.false_eq_true, if_false, decide_eq_true_eq] at hr
       have hes := hsp h1 h2
       rw [h3] at hes
       have hl := hcl.length
       obtain ⟨_, hsize⟩ := hown h2
       simp only [List.length_take, List.length_drop, Array.length_toList] at hl
       have hcap' := hcap.resolve_left (by rw [hes]; exact h5)
       rw [hes] at hcap'
       have hle : n * P.cellsOf e ≤ c * P.cellsOf e := by
        have : off + n * P.cellsOf e ≤ o.1.length := hr
        omega
       exact Nat.le_of_mul_le_mul_right hle (Nat.pos_of_ne_zero h5)
    ·simp [h1, h2, h3] at hr
   ·simp [h1, h2] at hr
  ·simp [h1] at hr
theorem topH_le (r : Rel P σ h w) {k off len e c : Nat} {hi : Option HVal} {p : Place} (hp : σ k = some p) (hcap : p.esz = 0 ∨ off + c * p.esz = p.cells) (hlc : len ≤ c) :
  topH P h k off len e hi ≤ c := by
 unfold topH
 split
 ·split
  ·rename_i n _
   rw [bcE]
   split
   ·exact hlc
   ·rw [bcE]
    split
    ·rename_i hr; exact room_le r hp hcap hr
    ·exact hlc
  ·exact hlc
 ·exact hlc
theorem slice_rel (r : Rel P σ h w) {t : TypeId} {x z : HVal} {x' : Value} {lo hi mx : Option HVal} {lo' hi' mx' : Option Value} (hinfo : ∀ e, P.underlying t = some (.slice e) ∨ (∃ n, P.underlying t = some (.array n e)) → ∃ i, P.info? e = some i)
  (hx : VRel σ x x') (hlo : ORelO σ lo lo') (hhi : ORelO σ hi hi') (hmx : ORelO σ mx mx') (e : sliceH P h t x lo hi mx = some z) :
  ∃ v, (Instr.sliceAt t x' lo' hi' mx').run P w = .ok v w ∧ VRel σ z v := by
 unfold sliceH at e
 cases hu : P.underlying t with
 | none => simp [hu] at e
 | some d =>
  rw [hu] at e
  cases d <;> simp only at e <;> try (cases e; done)
  case string =>
   cases x <;> simp only at e <;> try (cases e; done)
   cases mx with
   | some m => simp at e
   | none =>
    obtain rfl := hmx
    obtain ⟨s, rfl, rfl, rfl⟩ := hx
    simp only at e
    obtain ⟨hb, h1, e1⟩ := ob_eq_some.1 e
    obtain ⟨lb, h2, e2⟩ := ob_eq_some.1 e1
    cases e2
    obtain ⟨k, k1, k2⟩ := bounds2 (P := P) (w := w) (isSlice := false) hlo hhi (Nat.le_refl _) (Nat.le_refl _) h1 h2
    exact ⟨.string (s.extract lb hb), by simp [Instr.sliceAt, Instr.slice, rU w hu, k], sExtract_rel s lb hb k1 k2⟩
  case slice el =>
   obtain ⟨ie, hie⟩ := hinfo el (.inl hu)
   cases x <;> simp only at e <;> try (cases e; done)
   case nils =>
    obtain rfl := hx
    cases mx with
    | none =>
     obtain rfl := hmx
     simp only at e
     obtain ⟨hb, h1, e1⟩ := ob_eq_some.1 e
     obtain ⟨lb, h2, e2⟩ := ob_eq_some.1 e1
     cases e2
     have hhb : hb = 0 := by
      cases hi with
      | none => simp [boundO] at h1; omega
      | some x => obtain ⟨y, rfl, hy⟩ := hhi; have := (boundH_rel (P := P) (w := w) hy h1 .sliceB).2; omega
     subst hhb
     obtain ⟨k, k1, k2⟩ := bounds2 (P := P) (w := w) (isSlice := true) hlo hhi (Nat.le_refl _) (Nat.le_refl _) h1 h2
     obtain rfl : lb = 0 := by omega
     exact ⟨.slice none 0 0, by simp [Instr.sliceAt, Instr.slice, rU w hu, k, run_sizeOf' w hie], rfl⟩
    | some m =>
     obtain ⟨m', rfl, hm⟩ := hmx
     simp only at e
     obtain ⟨mb, h0, e0⟩ := ob_eq_some.1 e
     have hmb : mb = 0 := by have := (boundH_rel (P := P) (w := w) hm h0 .sliceB).2; omega
     subst hmb
     obtain ⟨hb, h1, e1⟩ := ob_eq_some.1 e0
     have hhb : hb = 0 := by
      cases hi with
      | none => simp [boundM] at h1
      | some x => obtain ⟨y, rfl, hy⟩ := hhi; have := (boundH_rel (P := P) (w := w) hy h1 .sliceB).2; omega
     subst hhb
     obtain ⟨lb, h2, e2⟩ := ob_eq_some.1 e1
     cases e2
     obtain ⟨k, k1, k2, k3⟩ := bounds3 (P := P) (w := w) (isSlice := true) (len := 0) hlo hhi hm (Nat.le_refl _) h0 h1 h2
     obtain rfl : lb = 0 := by omega
     exact ⟨.slice none 0 0, by simp [Instr.sliceAt, Instr.slice, rU w hu, k, run_sizeOf' w hie], rfl⟩
   case slice k off len cap =>
    obtain ⟨p, c, hp, rfl, hlc, hcap⟩ := hx
    cases mx with
    | none =>
     obtain rfl := hmx
     cases cap with
     | some c' =>
      obtain rfl : c = c' := hcap
      simp only at e
      obtain ⟨hb, h1, e1⟩ := ob_eq_some.1 e
      obtain ⟨lb, h2, e2⟩ := ob_eq_some.1 e1
      cases e2
      obtain ⟨kk, k1, k2⟩ := bounds2 (P := P) (w := w) (isSlice := true) hlo hhi (Nat.le_refl _) hlc h1 h2
      refine ⟨.slice (some ⟨p.blk, p.base + moved off lb c (P.cellsOf el), none⟩) (hb - lb) (c - lb), ?_, p, _, hp, rfl, by show hb - lb ≤ c - lb; omega, rfl⟩
      simp only [Instr.sliceAt, Instr.slice, Sem.run_bind, rU w hu, Result.andThen_ok, kk, run_sizeOf' w hie, Sem.run_pure, Option.map_some]
      rw [← moved_base, ← add_place]
      split <;> rfl
     | none =>
      simp only at e
      obtain ⟨hb, h1, e1⟩ := ob_eq_some.1 e
      obtain ⟨lb, h2, e2⟩ := ob_eq_some.1 e1
      obtain ⟨kk, k1, k2⟩ := bounds2 (P := P) (w := w) (isSlice := true) hlo hhi (topH_le r hp hcap hlc) hlc h1 h2
      rw [bcE, nbeq] at e2
      have run : (Instr.sliceAt t (.slice (some ⟨p.blk, p.base + off, none⟩) len c) lo' hi' none).run P w = .ok (.slice (some ⟨p.blk, p.base + moved off lb c (P.cellsOf el), none⟩) (hb - lb) (c - lb)) w := by
       simp only [Instr.sliceAt, Instr.slice, Sem.run_bind, rU w hu, Result.andThen_ok, kk, run_sizeOf' w hie, Sem.run_pure, Option.map_some]
       rw [← moved_base, ← add_place]
       split <;> rfl
      by_cases hl0 : lb = 0
      ·subst hl0
       simp only [decide_true, if_true] at e2
       cases e2
       refine ⟨_, run, p, c, hp, ?_, by show hb - 0 ≤ c; omega, hcap⟩
       rw [moved_eq]; simp
      ·simp only [hl0, decide_false, Bool.false_eq_true, if_false] at e2
       by_cases hlt : (bcase (Nat.blt lb len) true (Nat.blt lb hb)) = true
       case neg =>
        rw [bcE, if_neg hlt] at e2
        obtain ⟨heq, e3⟩ := bcase_eq_some.1 e2
        rw [nbeq] at heq
        have heq' : lb = hb := of_decide_eq_true heq
        obtain ⟨o, ho, e4⟩ := ob_eq_some.1 e3
        rw [bcE, nbeq] at e4
        by_cases hel : o.2.1 = el
        case neg =>
         rw [if_neg (by simpa using hel)] at e4
         cases e4
         exact ⟨_, run, ⟨⟨p.blk, p.base + moved off lb c (P.cellsOf el), none⟩, c - lb, by rw [heq', Nat.sub_self]⟩⟩
        rw [if_pos (by simpa using hel)] at e4
        cases e4
        obtain ⟨q, hq, ro⟩ := r.cells hp ho
        rw [hp] at hq; cases hq
        obtain ⟨C, elem, fr, hbk, hcl, hsc, _, hown, hex, hsp, hsz⟩ := ro
        refine ⟨_, run, p, moved off lb c (P.cellsOf el), c - lb, hp, by rw [heq', Nat.sub_self], ?_⟩
        by_cases hlc2 : lb = c
        ·exact .inr (.inl (by omega))
        rcases hsz with h0 | h0
        ·exact .inl h0
        ·rcases hcap with hc | hc
         ·exact .inl hc
         ·refine .inr (.inr ?_)
          rw [moved_eq, if_neg hlc2]
          have h0' : p.esz = P.cellsOf el := by rw [← hel]; exact h0.1
          rw [h0'] at hc ⊢
          have hle : lb ≤ c := by
           have := k1
           have := k2
           omega
          have : lb * P.cellsOf el + (c - lb) * P.cellsOf el = c * P.cellsOf el := by rw [← Nat.add_mul]; congr 1; omega
          omega
       rw [bcE, if_pos hlt] at e2
       have hlt' : lb < c := by
        rw [bcE, nblt, nblt] at hlt
        by_cases h1 : lb < len
        ·omega
        ·simp only [h1, decide_false, Bool.false_eq_true, if_false, decide_eq_true_eq] at hlt
         omega
       have e3 := e2
       obtain ⟨o, ho, e4⟩ := ob_eq_some.1 e3
       obtain ⟨q, hq, ro⟩ := r.cells hp ho
       rw [hp] at hq; cases hq
       obtain ⟨C, elem, fr, hbk, hcl, hsc, hel, hown, hex, hsp, hsz⟩ := ro
       have hz : z = .slice k (Nat.add off (Nat.mul lb (P.cellsOf el))) (Nat.sub hb lb) none ∧ (p.esz = 0 ∨ p.esz = P.cellsOf el) := by
        rw [bcE] at e4
        split at e4
        ·rename_i he
         cases e4
         rw [nbeq] at he
         have he' : o.2.1 = el := by simpa using he
         exact ⟨rfl, hsz.imp id fun a => by rw [← he']; exact a.1⟩
        ·obtain ⟨he, e5⟩ := bcase_eq_some.1 e4
         cases e5
         rw [nbeq] at he
         have he' : o.2.1 = 0 := by simpa using he
         exact ⟨rfl, .inl (hsz.resolve_right fun a => a.2 he')⟩
       obtain ⟨rfl, hsz'⟩ := hz
       have hmv : moved off lb c (P.cellsOf el) = off + lb * P.cellsOf el := by rw [moved_eq, if_neg (by omega)]
       rw [hmv] at run
       refine ⟨_, run, p, c - lb, hp, rfl, by show hb - lb ≤ c - lb; omega, ?_⟩
       rcases hsz' with h0 | h0
       ·exact .inl h0
       ·rcases hcap with hc | hc
        ·exact .inl hc
        ·refine .inr ?_
         show off + lb * P.cellsOf el + (c - lb) * p.esz = p.cells
         rw [h0] at hc ⊢
         have : lb * P.cellsOf el + (c - lb) * P.cellsOf el = c * P.cellsOf el := by rw [← Nat.add_mul]; congr 1; omega
         omega
    | some m =>
     obtain ⟨m', rfl, hm⟩ := hmx
     simp only at e
     obtain ⟨mb, h0, e0⟩ := ob_eq_some.1 e
     obtain ⟨hb, h1, e1⟩ := ob_eq_some.1 e0
     obtain ⟨lb, h2, e2⟩ := ob_eq_some.1 e1
     cases e2
     have hmd : ∃ md, md ≤ c ∧ boundH m md = some mb := by
      cases cap with
      | none => exact ⟨len, hlc, h0⟩
      | some c' => exact ⟨c', Nat.le_of_eq hcap.symm, h0⟩
     obtain ⟨md, hmost, h0'⟩ := hmd
     obtain ⟨kk, k1, k2, k3⟩ := bounds3 (P := P) (w := w) (isSlice := true) (len := len) hlo hhi hm hmost h0' h1 h2
     refine ⟨.slice (some ⟨p.blk, p.base + moved off lb mb (P.cellsOf el), none⟩) (hb - lb) (mb - lb), ?_, p, _, hp, rfl, by show hb - lb ≤ mb - lb; omega, rfl⟩
     simp only [Instr.sliceAt, Instr.slice, Sem.run_bind, rU w hu, Result.andThen_ok, kk, run_sizeOf' w hie, Sem.run_pure, Option.map_some]
     rw [← moved_base, ← add_place]
     split <;> rfl
  case array n el =>
   obtain ⟨ie, hie⟩ := hinfo el (.inr ⟨n, hu⟩)
   obtain ⟨a, ha, ea⟩ := ob_eq_some.1 e
   clear e
   obtain rfl := isPtr_inv ha
   clear ha
   obtain ⟨p, hp, rfl⟩ := hx
   cases mx with
   | none =>
    obtain rfl := hmx
    simp only at ea
    obtain ⟨hb, h1, e1⟩ := ob_eq_some.1 ea
    obtain ⟨lb, h2, e2⟩ := ob_eq_some.1 e1
    cases e2
    obtain ⟨k, k1, k2⟩ := bounds2 (P := P) (w := w) (isSlice := false) hlo hhi (Nat.le_refl _) (Nat.le_refl _) h1 h2
    refine ⟨.slice (some ⟨p.blk, p.base + moved a.2 lb n (P.cellsOf el), none⟩) (hb - lb) (n - lb), ?_, p, _, hp, rfl, by show hb - lb ≤ n - lb; omega, rfl⟩
    simp only [Instr.sliceAt, Instr.sureAddr, Sem.run_bind, rU w hu, Result.andThen_ok, k, run_sizeOf' w hie, Sem.run_pure]
    rw [← moved_base, ← add_place]
   | some m =>
    obtain ⟨m', rfl, hm⟩ := hmx
    simp only at ea
    obtain ⟨mb, h0, e0⟩ := ob_eq_some.1 ea
    obtain ⟨hb, h1, e1⟩ := ob_eq_some.1 e0
    obtain ⟨lb, h2, e2⟩ := ob_eq_some.1 e1
    cases e2
    obtain ⟨k, k1, k2, k3⟩ := bounds3 (P := P) (w := w) (isSlice := false) (len := n) hlo hhi hm (Nat.le_refl _) h0 h1 h2
    refine ⟨.slice (some ⟨p.blk, p.base + moved a.2 lb mb (P.cellsOf el), none⟩) (hb - lb) (mb - lb), ?_, p, _, hp, rfl, by show hb - lb ≤ mb - lb; omega, rfl⟩
    simp only [Instr.sliceAt, Instr.sureAddr, Sem.run_bind, rU w hu, Result.andThen_ok, k, run_sizeOf' w hie, Sem.run_pure]
    rw [← moved_base, ← add_place]
end
end Go.HL
namespace Go.HL
open Go
section
variable {P : Program} {σ : Places} {h : Heap} {w : World}
theorem growBy_le (newLen : Nat) (hn : 256 ≤ newLen) : ∀ (rounds c : Nat), c ≤ 2 * newLen → Builtin.growBy newLen rounds c ≤ 2 * newLen
 | 0, c, h => h
 | n + 1, c, h => by
  unfold Builtin.growBy
  split
  ·exact h
  ·exact growBy_le newLen hn n _ (by omega)
theorem nextslicecap_le (need cap : Nat) (h : cap < need) : Builtin.nextslicecap need cap ≤ 2 * need := by
 unfold Builtin.nextslicecap
 split
 ·omega
 ·split
  ·omega
  ·exact growBy_le need (by omega) 4 cap (by omega)
theorem sBytes_length (n c : Nat) : ∀ (m i : Nat), (sBytes n c i m).length = m
 | 0, _ => rfl
 | m + 1, i => by simp [sBytes, sBytes_length n c m (i + 1)]
theorem sBytes_scalar (n c : Nat) : ∀ (m i : Nat), ∀ x ∈ sBytes n c i m, x.scalar = true
 | 0, _, x, hx => by simp [sBytes] at hx
 | m + 1, i, x, hx => by
  simp only [sBytes, List.mem_cons] at hx
  rcases hx with rfl | hx
  ·rfl
  ·exact sBytes_scalar n c m (i + 1) x hx
theorem sBytes_rel (s : ByteArray) : ∀ (m i : Nat), i + m ≤ s.size → VRels σ (sBytes s.size (codeOf s.data.toList) i m) (((s.data.toList.drop i).take m).map fun b => Value.int .u8 b.toNat)
 | 0, i, _ => by simp [sBytes, VRels.nil]
 | m + 1, i, hm => by
  have hi : i < s.size := by omega
  have hl : i < s.data.toList.length := by simpa using hi
  rw [List.drop_eq_getElem_cons hl]
  simp only [sBytes, List.take_succ_cons, List.map_cons]
  refine VRels.cons ?_ (sBytes_rel s m (i + 1) (by omega))
  show _ = _
  rw [sIndex_eq s i hi]
  simp [ByteArray.getElem_eq_getElem_data]
theorem cell?_heap {w' : World} (e : w'.heap = w.heap) (a : Addr) : w'.cell? a = w.cell? a := by unfold World.cell?; rw [e]
theorem appended_rel (r : Rel P σ h w) {e : TypeId} {x : HVal} {x' : Value} {a : Nat × List HVal} (hx : VRel σ x x') (ha : appended P e x h = some a) :
  ∃ vs : List Value, (Builtin.lenOf x').run P w = .ok a.1 w ∧ (∀ w' : World, w'.heap = w.heap → (Builtin.firstCells (P.cellsOf e) a.1 x').run P w' = .ok ⟨vs⟩ w') ∧ VRels σ a.2 vs ∧ (∀ y ∈ a.2, y.scalar = true) ∧ a.2.length = a.1 * P.cellsOf e := by
 unfold appended at ha
 cases x <;> simp only at ha <;> try (cases ha; done)
 case nils =>
  cases ha
  obtain rfl := hx
  exact ⟨[], by simp [Builtin.lenOf], fun w' _ => by simp [Builtin.firstCells], VRels.nil, by simp, by simp⟩
 case empty =>
  cases ha
  obtain ⟨b, c, rfl⟩ := hx
  exact ⟨[], by simp [Builtin.lenOf], fun w' _ => by simp only [Builtin.firstCells, Nat.zero_mul]; exact run_loadCells_list w' b [] (by simp), VRels.nil, by simp, by simp⟩
 case rest =>
  cases ha
  obtain ⟨p, b, c, _, rfl, _⟩ := hx
  exact ⟨[], by simp [Builtin.lenOf], fun w' _ => by simp only [Builtin.firstCells, Nat.zero_mul]; exact run_loadCells_list w' _ [] (by simp), VRels.nil, by simp, by simp⟩
 case slice k off n cap =>
  obtain ⟨p, c, hp, rfl, hnc, _⟩ := hx
  obtain ⟨l, hl, ha⟩ := ob_eq_some.1 ha
  cases ha
  obtain ⟨vs, h1, h2, h3, h4, _⟩ := loadN_rel r hp hl
  refine ⟨vs, by simp [Builtin.lenOf], fun w' hw => ?_, h1, h3, h2⟩
  have hl2 : vs.length = n * P.cellsOf e := by rw [← h1.length]; exact h2
  simp only [Builtin.firstCells]
  rw [← hl2]
  exact run_loadCells_list w' _ vs fun j v hv => by rw [cell?_heap hw]; exact h4 j v hv
 case str n c =>
  obtain ⟨s, rfl, rfl, rfl⟩ := hx
  obtain ⟨h1, ha⟩ := bcase_eq_some.1 ha
  cases ha
  rw [nbeq] at h1
  have h1' : P.cellsOf e = 1 := by simpa using h1
  refine ⟨s.data.toList.map fun b => Value.int .u8 b.toNat, by simp [Builtin.lenOf], fun w' _ => ?_, ?_, sBytes_scalar _ _ _ _, by rw [sBytes_length, h1', Nat.mul_one]⟩
  ·simp only [Builtin.firstCells, Sem.run_pure, Result.ok.injEq, and_true]
   apply Array.ext'
   have : (s.extract 0 s.size) = s := by simp
   rw [this]; simp
  ·have := sBytes_rel (σ := σ) s s.size 0 (by omega)
   have e : s.data.toList.take s.size = s.data.toList := List.take_of_length_le (by simp)
   simpa [e] using this
theorem newSlice_rel (r : Rel P σ h w) {e : TypeId} {l : List HVal} {vs rest : List Value} {n cap : Nat} (hl : VRels σ l vs) (hs : ∀ x ∈ l, x.scalar = true) (hn : n ≤ cap) (hlen : (vs ++ rest).length = cap * P.cellsOf e)
  (he : e ≠ roTy) (w' : World) (hw : w' = w.drew) :
  ∃ τ, Step P σ h w τ (h.new (.cells l e true true)) (w'.alloc (.cells ⟨vs ++ rest⟩ e)) ∧ VRel τ (.slice h.next 0 n none) (.slice (some ⟨w.heap.size, 0, none⟩) n cap) := by
 subst hw
 have s1 : Step P σ h w σ h w.drew := Step.drew r
 let p : Place := ⟨w.heap.size, 0, P.cellsOf e, cap * P.cellsOf e⟩
 have s2 : Step P σ h w.drew (σ.upd h.next p) (h.new (.cells l e true true)) (w.drew.alloc (.cells ⟨vs ++ rest⟩ e)) := by
  refine Step.new s1.rel rfl ⟨⟨vs ++ rest⟩, e, (0, 0), rfl, ?_, hs, fun _ => rfl, fun _ => ⟨rfl, by simpa [p] using hlen⟩, fun c => by simp at c, fun _ _ => rfl, .inr ⟨rfl, he⟩⟩
  rw [hl.length]
  simpa [p] using hl.mono (Places.le_upd p r.next_none)
 exact ⟨_, s1.trans s2, p, cap, σ.upd_same _ _, by simp [p], hn, .inr (by simp [p])⟩
theorem zeroCells_size (z : Array Value) (n : Nat) : (Builtin.zeroCells z n).size = n * z.size := by simp [Builtin.zeroCells]
set_option maxHeartbeats 1000000 in
theorem run_append_grows {argTypes : Array TypeId} {t0 e type : TypeId} {base : Option Addr} {sLen sCap : Nat} {x' : Value} {i : TypeInfo} {zv : Value} {n : Nat} {ovs vs : Array Value} (h0 : argTypes[0]? = some t0) (hu : P.underlying t0 = some (.slice e)) (hi : P.info? e = some i) (hzv : i.zero = some zv)
  (hzeros : argTypes[1]? = none ∨ ∃ t1 d, argTypes[1]? = some t1 ∧ P.underlying t1 = some d ∧ ∀ k, d ≠ .int k)
  (hlenOf : (Builtin.lenOf x').run P w = .ok n w) (hb0 : i.bytes ≠ 0) (hgt : ¬ (sLen + n ≤ sCap)) (hroom : ¬ (Builtin.nextslicecap (sLen + n) sCap * i.bytes > 2 ^ 48))
  (hold : (Builtin.firstCells (P.cellsOf e) sLen (.slice base sLen sCap)).run P w.drew = .ok ovs w.drew) (hnew : (Builtin.firstCells (P.cellsOf e) n x').run P w.drew = .ok vs w.drew) :
  (Builtin.append_ argTypes type #[.slice base sLen sCap, x']).run P w =
   .ok (.slice (some ⟨w.heap.size, 0, none⟩) (sLen + n) ((Question.appendCap (sLen + n) sCap e).cut (w.tape w.drawn (Question.appendCap (sLen + n) sCap e))))
    (w.drew.alloc (.cells (ovs ++ vs ++ Builtin.zeroCells zv.cells ((Question.appendCap (sLen + n) sCap e).cut (w.tape w.drawn (Question.appendCap (sLen + n) sCap e)) - (sLen + n))) e)) := by
 have hs := run_sizeOf' (P := P) w hi
 have hti : ∀ w', (typeInfo e).run P w' = .ok i w' := fun w' => by simp [typeInfo, hi]
 have hzr : ∀ w', (zeroValue e).run P w' = .ok zv w' := fun w' => by simp [zeroValue, typeInfo, hi, hzv]
 have hd : ({ w with drawn := w.drawn + 1 } : World) = w.drew := rfl
 have hbig : ¬ (2 ^ 48 < Builtin.nextslicecap (sLen + n) sCap * i.bytes) := hroom
 simp only [show (2 : Nat) ^ 48 = 281474976710656 from rfl] at hbig
 rcases hzeros with h1 | ⟨t1, d, h1, h2, h3⟩
 ·simp [Builtin.append_, h0, h1, rU w hu, hs, hlenOf, hgt, hti, hb0, hbig, Question.forced, hold, hnew, hzr, newRow]
 ·have hf : (match d with | .int _ => true | _ => false) = false := by cases d <;> first | rfl | exact absurd rfl (h3 _)
  simp [Builtin.append_, h0, h1, rU w hu, rU w h2, hs, hlenOf, hgt, hti, hb0, hbig, Question.forced, hold, hnew, hzr, newRow]
set_option maxHeartbeats 1000000 in
theorem run_append_fits {argTypes : Array TypeId} {t0 e type : TypeId} {base : Option Addr} {sLen sCap : Nat} {x' : Value} {i : TypeInfo} {n : Nat} {vs : Array Value} (h0 : argTypes[0]? = some t0) (hu : P.underlying t0 = some (.slice e)) (hi : P.info? e = some i)
  (hzeros : argTypes[1]? = none ∨ ∃ t1 d, argTypes[1]? = some t1 ∧ P.underlying t1 = some d ∧ ∀ k, d ≠ .int k)
  (hlenOf : (Builtin.lenOf x').run P w = .ok n w) (hgt : sLen + n ≤ sCap)
  (hnew : (Builtin.firstCells (P.cellsOf e) n x').run P w = .ok vs w) :
  (Builtin.append_ argTypes type #[.slice base sLen sCap, x']).run P w =
   ((match base with | some a => storeCells (a.add (sLen * P.cellsOf e)) vs.toList | none => pure () : Sem Unit).run P w).andThen fun _ w' => .ok (.slice base (sLen + n) sCap) w' := by
 have hs := run_sizeOf' (P := P) w hi
 rcases hzeros with h1 | ⟨t1, d, h1, h2, h3⟩
 ·cases base <;> simp [Builtin.append_, h0, h1, rU w hu, hs, hlenOf, hgt, hnew]
 ·have hf : (match d with | .int _ => true | _ => false) = false := by cases d <;> first | rfl | exact absurd rfl (h3 _)
  cases base <;> simp [Builtin.append_, h0, h1, rU w hu, rU w h2, hs, hlenOf, hgt, hnew]
theorem noNumber_inv {argTypes : Array TypeId} (hno : noNumber P argTypes = true) : argTypes[1]? = none ∨ ∃ t1 d, argTypes[1]? = some t1 ∧ P.underlying t1 = some d ∧ ∀ k, d ≠ .int k := by
 unfold noNumber at hno
 cases h1 : argTypes[1]? with
 | none => exact .inl rfl
 | some t1 =>
  rw [h1] at hno
  simp only at hno
  cases hu1 : P.underlying t1 with
  | none => simp [hu1] at hno
  | some d => exact .inr ⟨t1, d, rfl, hu1, fun k hk => by rw [hu1, hk] at hno; cases hno⟩
theorem append_fresh (_r : Rel P σ h w) {argTypes : Array TypeId} {t0 e : TypeId} {x' : Value} {n : Nat} {z new : List HVal} {vs : List Value} (h0 : argTypes[0]? = some t0) (hu : P.underlying t0 = some (.slice e))
  (hb0 : P.bytesOf e ≠ 0) (hno : noNumber P argTypes = true) (hz : zeroCells? P e = some z) (hzl : z.length = P.cellsOf e) (he : e ≠ roTy)
  (hlenOf : (Builtin.lenOf x').run P w = .ok n w) (hvs : VRels σ new vs) (hsc : ∀ y ∈ new, y.scalar = true) (hvlen : new.length = n * P.cellsOf e)
  (hfirst : (Builtin.firstCells (P.cellsOf e) n x').run P w.drew = .ok ⟨vs⟩ w.drew)
  {base : Option Addr} {sLen sCap : Nat} {old : List HVal} {ovs : List Value} {hnew : Heap} (hgt : ¬ sLen + n ≤ sCap) (hroom : (sLen + n) * P.bytesOf e ≤ 140737488355328)
  (hold : (Builtin.firstCells (P.cellsOf e) sLen (.slice base sLen sCap)).run P w.drew = .ok ⟨ovs⟩ w.drew) (hov : VRels σ old ovs) (hos : ∀ y ∈ old, y.scalar = true) (holen : old.length = sLen * P.cellsOf e)
  (hst : Step P σ h w σ hnew w) (type : TypeId) :
  OutRel P σ h w (.val (.slice hnew.next 0 (sLen + n) none) (hnew.new (.cells (old ++ new) e true true))) ((do pure (Next.value (← Builtin.append_ argTypes type #[.slice base sLen sCap, x']))).run P w) := by
 obtain ⟨i, zv, hi, hzv, hz1, hz2⟩ := zeroCells_rel (σ := σ) hz
 have hzs : zv.cells.size = P.cellsOf e := by rw [← hzl, hz1.length]; simp
 have hbytes : P.bytesOf e = i.bytes := by simp [Program.bytesOf, hi]
 have hb0' : i.bytes ≠ 0 := by rw [← hbytes]; exact hb0
 have hnsc := nextslicecap_le (sLen + n) sCap (by omega)
 have hroom2 : ¬ (Builtin.nextslicecap (sLen + n) sCap * i.bytes > 2 ^ 48) := by
  have : Builtin.nextslicecap (sLen + n) sCap * i.bytes ≤ 2 * (sLen + n) * i.bytes := Nat.mul_le_mul_right _ hnsc
  have h2 : 2 * (sLen + n) * i.bytes = 2 * ((sLen + n) * i.bytes) := Nat.mul_assoc _ _ _
  rw [hbytes] at hroom
  omega
 have hrun := run_append_grows (P := P) (type := type) (base := base) h0 hu hi hzv (noNumber_inv hno) hlenOf hb0' hgt hroom2 hold hfirst
 have hcap0 : sLen + n ≤ (Question.appendCap (sLen + n) sCap e).cut (w.tape w.drawn (Question.appendCap (sLen + n) sCap e)) := Nat.le_add_right _ _
 generalize (Question.appendCap (sLen + n) sCap e).cut (w.tape w.drawn (Question.appendCap (sLen + n) sCap e)) = newCap at hrun hcap0
 obtain ⟨τ, s1, hv⟩ := newSlice_rel (P := P) hst.rel (e := e) (l := old ++ new) (vs := ovs ++ vs) (rest := (Builtin.zeroCells zv.cells (newCap - (sLen + n))).toList) (n := sLen + n) (cap := newCap)
  (hov.append hvs) (by intro y hy; simp only [List.mem_append] at hy; exact hy.elim (hos y) (hsc y)) hcap0
  (by
   have h1 := hov.length; have h2 := hvs.length
   have h3 : (newCap - (sLen + n)) * P.cellsOf e + (sLen + n) * P.cellsOf e = newCap * P.cellsOf e := by rw [← Nat.add_mul]; congr 1; omega
   have h4 : (sLen + n) * P.cellsOf e = sLen * P.cellsOf e + n * P.cellsOf e := Nat.add_mul _ _ _
   simp [zeroCells_size, hzs]; omega) he w.drew rfl
 refine OutRel.step ?_ hv (hst.trans s1)
 rw [Sem.run_bind, hrun]
 simp only [Result.andThen_ok, Sem.run_pure]
 congr 3
 apply Array.ext'
 simp
theorem append_fits (_r : Rel P σ h w) {argTypes : Array TypeId} {t0 e : TypeId} {x' : Value} {n : Nat} {vs : List Value} {i : TypeInfo} (h0 : argTypes[0]? = some t0) (hu : P.underlying t0 = some (.slice e)) (hi : P.info? e = some i)
  (hno : noNumber P argTypes = true) (hlenOf : (Builtin.lenOf x').run P w = .ok n w) (hfirst : (Builtin.firstCells (P.cellsOf e) n x').run P w = .ok ⟨vs⟩ w)
  {base : Option Addr} {sLen sCap : Nat} (hfit : sLen + n ≤ sCap) {w' : World} {τ : Places} {h' : Heap} {z : HVal} (type : TypeId)
  (hst : (match base with | some a => storeCells (a.add (sLen * P.cellsOf e)) vs | none => pure () : Sem Unit).run P w = .ok () w') (s : Step P σ h w τ h' w') (hz : VRel τ z (.slice base (sLen + n) sCap)) :
  OutRel P σ h w (.val z h') ((do pure (Next.value (← Builtin.append_ argTypes type #[.slice base sLen sCap, x']))).run P w) := by
 refine OutRel.step ?_ hz s
 rw [Sem.run_bind, run_append_fits (P := P) h0 hu hi (noNumber_inv hno) hlenOf hfit hfirst, hst]
 rfl
theorem append_at (r : Rel P σ h w) {argTypes : Array TypeId} {t0 e : TypeId} {x' : Value} {a : Nat × List HVal} {z : List HVal} (h0 : argTypes[0]? = some t0) (hu : P.underlying t0 = some (.slice e))
  (hz0 : P.cellsOf e ≠ 0) (hb0 : P.bytesOf e ≠ 0) (hno : noNumber P argTypes = true) (hz : zeroCells? P e = some z) (hzl : z.length = P.cellsOf e) (he : e ≠ roTy)
  {vs : List Value} (hlenOf : (Builtin.lenOf x').run P w = .ok a.1 w) (hfirst : ∀ w' : World, w'.heap = w.heap → (Builtin.firstCells (P.cellsOf e) a.1 x').run P w' = .ok ⟨vs⟩ w') (hvs : VRels σ a.2 vs) (hsc : ∀ y ∈ a.2, y.scalar = true) (hvlen : a.2.length = a.1 * P.cellsOf e)
  {k off n c : Nat} {p : Place} (hp : σ k = some p) (hcap : n + a.1 ≤ c → p.esz = 0 ∨ off + c * p.esz = p.cells) {o : List HVal × Nat × Bool × Bool} (ho : h.cells k = some o) (hspare : o.2.2.1 = true) (hrw : o.2.2.2 = true) (hety' : o.2.1 = e)
  (hlen : Nat.mul n (P.cellsOf e) ≤ (o.1.drop off).length) (hroom' : (n + a.1) * P.bytesOf e ≤ 140737488355328) (type : TypeId) :
  OutRel P σ h w (.val (.slice h.next 0 (Nat.add n a.1) none) ((h.put k .dead).new (.cells ((o.1.drop off).take (Nat.mul n (P.cellsOf e)) ++ a.2) e true true)))
   ((do pure (Next.value (← Builtin.append_ argTypes type #[.slice (some ⟨p.blk, p.base + off, none⟩) n c, x']))).run P w) := by
 obtain ⟨i, zv, hi, _, _, _⟩ := zeroCells_rel (σ := σ) hz
 have hvl := hvs.length
 have hfirst' := hfirst w.drew rfl
 have hfirst0 := hfirst w rfl
 have hget := cells_inv ho
 obtain ⟨q, hq, ro⟩ := r.cells hp ho
 rw [hp] at hq; cases hq
 obtain ⟨ovs, g1, g2, g3, g4⟩ := cells_at ro hlen
 have holen : ((o.1.drop off).take (Nat.mul n (P.cellsOf e))).length = n * P.cellsOf e := by rw [g1.length, g2]; rfl
 by_cases hfit : n + a.1 ≤ c
 ·obtain ⟨C, elem, fr, hbk, hcl, hcs, hel, hown, hex, hsp, _⟩ := ro
  obtain ⟨rfl, hsz⟩ := hown hrw
  have hesz : p.esz = P.cellsOf e := by rw [hsp hspare hrw, hety']
  have hcap' : off + c * p.esz = p.cells := (hcap hfit).resolve_left (by rw [hesz]; exact hz0)
  have one : ∀ v ∈ vs, v.oneCell' = true := by
   intro v hv
   obtain ⟨j, hj⟩ := List.getElem?_of_mem hv
   have hlt : j < a.2.length := by rw [hvl]; exact (List.getElem?_eq_some_iff.1 hj).1
   obtain ⟨u, hu', hr⟩ := hvs.get (List.getElem?_eq_getElem hlt)
   rw [hj] at hu'; cases hu'
   exact oneCell_of_scalar hr (hsc _ (List.getElem_mem hlt))
  have hmulc : (n + a.1) * P.cellsOf e ≤ c * P.cellsOf e := Nat.mul_le_mul_right _ hfit
  have hmul2 : (n + a.1) * P.cellsOf e = n * P.cellsOf e + a.1 * P.cellsOf e := Nat.add_mul _ _ _
  rw [hesz] at hcap'
  obtain ⟨w', C', k1, k2, k3, k4, k5, k6, k7, k8⟩ := run_storeCells' P p.blk (p.base + off + n * P.cellsOf e) elem vs 0 w C hbk (by omega) one
  have hsz' : C'.size = C.size := by
   have := congrArg List.length k3
   simp at this
   omega
  refine append_fits r h0 hu hi hno hlenOf hfirst0 hfit type (w' := w') (by simp only [addr_add]; exact k1)
   (Step.take r (p' := ⟨p.blk, p.base + off, p.esz, p.cells - off⟩) hget hrw hp rfl
    ⟨C', elem, (0, 0), k2, ?_, ?_, fun _ => by rw [hel (by rw [hety']; exact he), hety'], fun _ => ⟨rfl, by rw [hsz', hsz]; show p.base + p.cells = p.base + off + (p.cells - off); omega⟩,
     fun hh => by simp at hh, fun _ _ => hesz, .inr ⟨hesz, he⟩⟩ k4 k8 k5 k6 k7)
   ⟨_, c, σ.upd_same _ _, rfl, hfit, .inr (by show 0 + c * p.esz = p.cells - off; rw [hesz]; omega)⟩
  ·refine VRels.mono (Places.le_upd _ r.next_none) ?_
   have e1 : (C'.toList.drop (p.base + off)).take ((o.1.drop off).take (Nat.mul n (P.cellsOf e)) ++ a.2).length = ovs ++ vs := by
    have hg2 : ovs.length = n * P.cellsOf e := g2
    rw [List.length_append, holen, hvl, k3, Nat.add_zero]
    apply List.ext_getElem?
    intro j
    simp only [List.getElem?_take, List.getElem?_drop]
    by_cases hj : j < n * P.cellsOf e + vs.length
    ·rw [if_pos hj]
     by_cases hj2 : j < n * P.cellsOf e
     ·have hR : (ovs ++ vs)[j]? = ovs[j]? := List.getElem?_append_left (by rw [hg2]; exact hj2)
      have hL : (C.toList.take (p.base + off + n * P.cellsOf e) ++ vs ++ C.toList.drop (p.base + off + n * P.cellsOf e + vs.length))[p.base + off + j]? = C.toList[p.base + off + j]? := by
       rw [List.append_assoc, List.getElem?_append_left (by simp; omega), List.getElem?_take, if_pos (by omega)]
      rw [hL, hR]
      have hjl : j < ovs.length := by rw [hg2]; exact hj2
      have := g4 j _ (List.getElem?_eq_getElem hjl)
      rw [addr_add] at this
      simp only [World.cell?, hbk] at this
      rw [List.getElem?_eq_getElem hjl]
      simpa using this
     ·have hR : (ovs ++ vs)[j]? = vs[j - n * P.cellsOf e]? := by rw [List.getElem?_append_right (by rw [hg2]; omega), hg2]
      have hL : (C.toList.take (p.base + off + n * P.cellsOf e) ++ vs ++ C.toList.drop (p.base + off + n * P.cellsOf e + vs.length))[p.base + off + j]? = vs[j - n * P.cellsOf e]? := by
       rw [List.append_assoc, List.getElem?_append_right (by simp; omega), List.getElem?_append_left (by simp; omega)]
       congr 1
       simp; omega
      rw [hL, hR]
    ·rw [if_neg hj, List.getElem?_eq_none (by simp; omega)]
   rw [e1]
   exact g1.append hvs
  ·intro y hy
   simp only [List.mem_append] at hy
   exact hy.elim (g3 y) (hsc y)
 ·refine append_fresh r h0 hu hb0 hno hz hzl he hlenOf hvs hsc hvlen hfirst' hfit hroom' (ovs := ovs) ?_ g1 g3 holen (Step.kill r hp) type
  simp only [Builtin.firstCells]
  have hl2 : ovs.length = n * P.cellsOf e := g2
  rw [← hl2]
  exact run_loadCells_list w.drew _ ovs fun j v hv => by rw [cell?_heap rfl]; exact g4 j v hv
theorem append_rel (r : Rel P σ h w) {argTypes : Array TypeId} {t0 e : TypeId} {s x : HVal} {s' x' : Value} {a : Nat × List HVal} {z : List HVal} {out : Out} (h0 : argTypes[0]? = some t0) (hu : P.underlying t0 = some (.slice e))
  (hz0 : P.cellsOf e ≠ 0) (hb0 : P.bytesOf e ≠ 0) (hno : noNumber P argTypes = true) (hz : zeroCells? P e = some z) (hzl : z.length = P.cellsOf e) (he : e ≠ roTy) (hs : VRel σ s s') (hx : VRel σ x x') (ha : appended P e x h = some a)
  (eq : appendH P e s a.1 a.2 h = some out) (type : TypeId) :
  OutRel P σ h w out ((do pure (Next.value (← Builtin.append_ argTypes type #[s', x']))).run P w) := by
 obtain ⟨i, zv, hi, _, _, _⟩ := zeroCells_rel (σ := σ) hz
 obtain ⟨vs, hlenOf, hfirst, hvs, hsc, hvlen⟩ := appended_rel r hx ha
 have hfirst' := hfirst w.drew rfl
 have hfirst0 := hfirst w rfl
 cases s <;> simp only [appendH] at eq <;> try (cases eq; done)
 case nils =>
  obtain rfl := hs
  rw [bcE, nbeq] at eq
  by_cases hm : a.1 = 0
  ·simp only [hm, decide_true, if_true] at eq
   cases eq
   rw [hm] at hlenOf hfirst0
   exact append_fits r h0 hu hi hno hlenOf hfirst0 (Nat.le_refl _) type (w' := w) (by simp) (Step.refl r) rfl
  ·simp only [hm, decide_false, Bool.false_eq_true, if_false] at eq
   obtain ⟨hroom, eq⟩ := bcase_eq_some.1 eq
   rw [nble] at hroom
   have hroom' : a.1 * P.bytesOf e ≤ 140737488355328 := of_decide_eq_true hroom
   cases eq
   have := append_fresh r h0 hu hb0 hno hz hzl he hlenOf hvs hsc hvlen hfirst' (base := none) (sLen := 0) (sCap := 0) (old := []) (ovs := []) (by omega) (by simpa using hroom') (by simp [Builtin.firstCells]) VRels.nil (by simp) (by simp) (Step.refl r) type
   simpa using this
 case slice k off n cap =>
  obtain ⟨p, c, hp, rfl, hnc, hcap⟩ := hs
  have hvl := hvs.length
  rw [bcE, nbeq] at eq
  by_cases hm : a.1 = 0
  ·simp only [hm, decide_true, if_true] at eq
   cases eq
   have hv0 : vs = [] := by
    have : vs.length = 0 := by rw [← hvl, hvlen, hm, Nat.zero_mul]
    exact List.length_eq_zero_iff.1 this
   rw [hm] at hlenOf hfirst0
   exact append_fits r h0 hu hi hno hlenOf hfirst0 (by omega) type (w' := w) (by simp [hv0, storeCells]) (Step.refl r) ⟨p, c, hp, rfl, hnc, hcap⟩
  ·simp only [hm, decide_false, Bool.false_eq_true, if_false] at eq
   obtain ⟨hroom, eq1⟩ := bcase_eq_some.1 eq
   clear eq
   rw [nble] at hroom
   have hroom' : (n + a.1) * P.bytesOf e ≤ 140737488355328 := of_decide_eq_true hroom
   cases cap with
   | some c' =>
    obtain rfl : c = c' := hcap
    simp only at eq1
    rw [bcE, nble] at eq1
    by_cases hfit : n + a.1 ≤ c
    ·rw [if_pos (by simpa using hfit)] at eq1
     obtain ⟨h', hst, eq2⟩ := ob_eq_some.1 eq1
     cases eq2
     obtain ⟨w', hrun, hstep⟩ := storeN_rel r hp hst hvs hsc
     refine append_fits r h0 hu hi hno hlenOf hfirst0 hfit type (w' := w') ?_ hstep ⟨p, c, hp, rfl, hfit, rfl⟩
     simp only [addr_add, Nat.add_assoc]
     exact hrun
    ·rw [if_neg (by simpa using hfit)] at eq1
     obtain ⟨old, hold, eq2⟩ := ob_eq_some.1 eq1
     rw [appK_eq] at eq2
     cases eq2
     obtain ⟨ovs, g1, g2, g3, g4, _⟩ := loadN_rel r hp hold
     refine append_fresh r h0 hu hb0 hno hz hzl he hlenOf hvs hsc hvlen hfirst' hfit hroom' (ovs := ovs) ?_ g1 g3 g2 (Step.refl r) type
     have hl2 : ovs.length = n * P.cellsOf e := by rw [← g1.length]; exact g2
     simp only [Builtin.firstCells]
     rw [← hl2]
     exact run_loadCells_list w.drew _ ovs fun j v hv => by rw [cell?_heap rfl]; exact g4 j v hv
   | none =>
    simp only at eq1
    by_cases hroom : roomFor P h k off (Nat.add n a.1) e = true
    case pos =>
     rw [bcE, if_pos hroom] at eq1
     have hfit : n + a.1 ≤ c := room_le r hp hcap hroom
     obtain ⟨h', hst, eq2⟩ := ob_eq_some.1 eq1
     cases eq2
     obtain ⟨w', hrun, hstep⟩ := storeN_rel r hp hst hvs hsc
     refine append_fits r h0 hu hi hno hlenOf hfirst0 hfit type (w' := w') ?_ hstep ⟨p, c, hp, rfl, hfit, hcap⟩
     simp only [addr_add, Nat.add_assoc]
     exact hrun
    rw [bcE, if_neg hroom] at eq1
    obtain ⟨o, ho, eq2⟩ := ob_eq_some.1 eq1
    obtain ⟨hspare, eq3⟩ := bcase_eq_some.1 eq2
    obtain ⟨hrw, eq4⟩ := bcase_eq_some.1 eq3
    obtain ⟨hety, eq5⟩ := bcase_eq_some.1 eq4
    clear eq1 eq2 eq3 eq4
    rw [nbeq] at hety
    have hety' : o.2.1 = e := by simpa using hety
    rw [takeK_eq, dropN_eq] at eq5
    by_cases hlen : Nat.mul n (P.cellsOf e) ≤ (o.1.drop off).length
    ·rw [if_pos hlen, appK_eq] at eq5
     cases eq5
     exact append_at r h0 hu hz0 hb0 hno hz hzl he hlenOf hfirst hvs hsc hvlen hp (fun _ => hcap) ho hspare hrw hety' hlen hroom' type
    ·rw [if_neg hlen] at eq5; cases eq5
 case rest k =>
  obtain ⟨p, b, c, hp, rfl, hcap⟩ := hs
  have hvl := hvs.length
  rw [bcE, nbeq] at eq
  by_cases hm : a.1 = 0
  ·simp only [hm, decide_true, if_true] at eq
   cases eq
   have hv0 : vs = [] := by
    have : vs.length = 0 := by rw [← hvl, hvlen, hm, Nat.zero_mul]
    exact List.length_eq_zero_iff.1 this
   rw [hm] at hlenOf hfirst0
   exact append_fits r h0 hu hi hno hlenOf hfirst0 (by omega) type (w' := w) (by simp [hv0, storeCells]) (Step.refl r) ⟨p, b, c, hp, rfl, hcap⟩
  ·simp only [hm, decide_false, Bool.false_eq_true, if_false] at eq
   obtain ⟨hroom, eq1⟩ := bcase_eq_some.1 eq
   clear eq
   rw [nble] at hroom
   have hroom' : a.1 * P.bytesOf e ≤ 140737488355328 := of_decide_eq_true hroom
   obtain ⟨o, ho, eq2⟩ := ob_eq_some.1 eq1
   obtain ⟨hspare, eq3⟩ := bcase_eq_some.1 eq2
   obtain ⟨hrw, eq4⟩ := bcase_eq_some.1 eq3
   obtain ⟨hety, eq5⟩ := bcase_eq_some.1 eq4
   clear eq1 eq2 eq3 eq4
   rw [nbeq] at hety
   have hety' : o.2.1 = e := by simpa using hety
   cases eq5
   have := append_at r h0 hu hz0 hb0 hno hz hzl he hlenOf hfirst hvs hsc hvlen (off := b) (n := 0) (c := c) hp (fun hfit => hcap.elim .inl fun g => g.elim (fun g => absurd hfit (by omega)) .inr) ho hspare hrw hety' (by simp) (by simpa using hroom') type
   simpa using this
end
end Go.HL
