/- Runs of HL with an argument that is not closed: rules for growing slices; known calls at any memory; an argument as data, laid into the memory. No statement of the seat stands here. -/
import Derived.Test.YtngeipnhbigdmaaGreatDoorSB
import Derived.Deep.Slices
import GoSem.ClaimJoined
set_option linter.unusedVariables false
set_option linter.unusedSimpArgs false
namespace Go.HL
open Go
noncomputable section
section
variable {P : Program} {K : CallFn} {ops : Array Oper} {o : Oper} {L : Sts} {h h' : Heap} {m n : Nat} {R : Sts → Heap → Prop} {tab : Tab}
theorem Op1.eqS {t p : Nat} {x y : Operand} {a c b d : Nat} (ho : o.op = .binOp .eql t x y p) (hx : evL P L x = some (.str a c)) (hy : evL P L y = some (.str b d)) (hw : wantL ops o L = some true) (hf : fits o.dst n = true)
    (h1 : (a = b ∧ c = d) → R (putD? o.dst (.bool true) L) h) (h0 : ¬ (a = b ∧ c = d) → R (putD? o.dst (.bool false) L) h) : Op1 P K ops o L h m n R :=
  Op1.bool (V.eqS ho hx hy) hw hf (fun e => h1 (of_decide_eq_true e)) (fun e => h0 (of_decide_eq_false e))
theorem Op1.eqE {t p : Nat} {x y : Operand} {a c : Nat} (ho : o.op = .binOp .eql t x y p) (hx : evL P L x = some (.str a c)) (hy : evL P L y = some (.str 0 0)) (hw : wantL ops o L = some true) (hf : fits o.dst n = true)
    (h1 : (a = 0 ∧ c = 0) → R (putD? o.dst (.bool true) L) h) (h0 : ¬ (a = 0 ∧ c = 0) → R (putD? o.dst (.bool false) L) h) : Op1 P K ops o L h m n R := Op1.eqS ho hx hy hw hf h1 h0
/-- a value under a guard -/
theorem Op1.valG {g : Nat × Bool} {v : HVal} (hg : o.guard = some g) (hv : OpV P o L h v h') (hw : wantL ops o L = some true) (hf : fits o.dst n = true) (hr : R (putD? o.dst v L) h') : Op1 P K ops o L h m n R := Op1.val hv hw hf hr
theorem beq_int {k : IntKind} {a : Int} : HVal.beq (.int k a) (.int k a) = true := by simp [HVal.beq]
theorem beq_len {v : HVal} {c : Nat} (hl : lenV v = some c) : HVal.beq v v = true := by
  unfold lenV at hl
  split at hl <;> first | (cases hl; done) | simp [HVal.beq]
/-- the same truth twice -/
theorem V.eqBool {t p : Nat} {x y : Operand} {b : Bool} (hT : tabOk P tab = true) (ho : o.op = .binOp .eql t x y p) (ht : tyL tab t = some (.bool, 1)) (hx : evL P L x = some (.bool b)) (hy : evL P L y = some (.bool b)) : OpV P o L h (.bool true) h := OpV.mk ho fun ev ha d ty ps aft g => by
  have hu := tab_bool hT ht
  simp only [opH, evL_sound ha hx, evL_sound ha hy, binC, binH, eqlH, heq, hu, ob_some, HL.val]
  simp
/-! ## Maps -/
section
variable {α : Type} [DecidableEq α] {key : α → HVal}
def Ents (key : α → HVal) : List HEnt → List (α × HVal) → Prop
  | [], [] => True
  | e :: es, p :: l => e.key = key p.1 ∧ e.val = p.2 ∧ Ents key es l
  | _, _ => False
def lookM : List (α × HVal) → α → HVal → HVal
  | [], _, z => z
  | p :: l, a, z => if p.1 = a then p.2 else lookM l a z
def setM : List (α × HVal) → α → HVal → List (α × HVal)
  | [], a, v => [(a, v)]
  | p :: l, a, v => if p.1 = a then (a, v) :: l else p :: setM l a v
theorem lookM_setM (l : List (α × HVal)) (a b : α) (v z : HVal) : lookM (setM l a v) b z = if a = b then v else lookM l b z := by
  induction l with
  | nil => simp [setM, lookM]
  | cons p l ih =>
    by_cases h1 : p.1 = a
    · by_cases h2 : a = b
      · simp [setM, lookM, h1, h2]
      · simp [setM, lookM, h1, h2]
    · by_cases h2 : p.1 = b
      · have h3 : ¬ a = b := fun e => h1 (h2.trans e.symm)
        have h4 : ¬ b = a := fun e => h3 e.symm
        simp [setM, lookM, h2, h3, h4]
      · simp [setM, lookM, h1, h2, ih]
structure KeyFine (P : Program) (kt : Nat) (key : α → HVal) : Prop where
  simple : simpleKey P kt = true
  ok : ∀ a, keyOk P kt (key a) = true
  eq : ∀ a b, keyEqAt P kt (key a) (key b) = some (decide (a = b))
  same : ∀ a, sameKey (key a) (key a) = true
theorem find_ents {kt : Nat} (hk : KeyFine P kt key) (a : α) (v z : HVal) : ∀ {es : List HEnt} {l : List (α × HVal)}, Ents key es l →
    (findH (key a) (keyEqAt P kt) es = some none ∧ lookM l a z = z ∧ setM l a v = l ++ [(a, v)]) ∨
    ∃ i e, findH (key a) (keyEqAt P kt) es = some (some (i, e)) ∧ e.key = key a ∧ lookM l a z = e.val ∧ ∀ b, Ents key (es.set i ⟨key a, v, b⟩) (setM l a v)
  | [], [], _ => .inl ⟨rfl, rfl, rfl⟩
  | e :: es, p :: l, h => by
    obtain ⟨h1, h2, h3⟩ := h
    by_cases hp : a = p.1
    · refine .inr ⟨0, e, ?_, ?_, ?_, fun b => ?_⟩
      · simp only [findH, h1, hk.eq, ob_some, hp, decide_true, bcase_true]
      · rw [h1, hp]
      · simp only [lookM, hp, if_true, h2]
      · simp only [setM, hp, if_true, List.set_cons_zero]
        exact ⟨rfl, rfl, h3⟩
    · have hp' : ¬ p.1 = a := fun e => hp e.symm
      have hf : findH (key a) (keyEqAt P kt) (e :: es) = ob (findH (key a) (keyEqAt P kt) es) fun r => match r with
        | some p => some (some (Nat.succ p.1, p.2))
        | none => some none := by
        simp only [findH, h1, hk.eq, ob_some, hp, decide_false, bcase_false]
        rfl
      rcases find_ents hk a v z h3 with ⟨g1, g2, g3⟩ | ⟨i, e', g1, g2, g3, g4⟩
      · refine .inl ⟨?_, ?_, ?_⟩
        · rw [hf, g1]; rfl
        · simp only [lookM, hp', if_false, g2]
        · simp only [setM, hp', if_false, g3, List.cons_append]
      · refine .inr ⟨i + 1, e', ?_, g2, ?_, fun b => ?_⟩
        · rw [hf, g1]; rfl
        · simp only [lookM, hp', if_false, g3]
        · simp only [setM, hp', if_false, List.set_cons_succ]
          exact ⟨h1, h2, g4 b⟩
end
section
variable {α : Type} {key : α → HVal}
theorem ents_append : ∀ {es : List HEnt} {l : List (α × HVal)}, Ents key es l → ∀ (a : α) (v : HVal) (b : Nat), Ents key (es ++ [⟨key a, v, b⟩]) (l ++ [(a, v)])
  | [], [], _, a, v, b => ⟨rfl, rfl, trivial⟩
  | e :: es, p :: l, h, a, v, b => ⟨h.1, h.2.1, ents_append h.2.2 a v b⟩
/-- a map that may be written -/
inductive MapAt (key : α → HVal) (h : Heap) (k : Nat) (l : List (α × HVal)) : Prop where
  | mk (es : List HEnt) (c : Nat) (rw : Bool) (hg : h.get k = some (.map es c rw)) (he : Ents key es l)
inductive MapRw (key : α → HVal) (h : Heap) (k : Nat) (l : List (α × HVal)) : Prop where
  | mk (es : List HEnt) (c : Nat) (hg : h.get k = some (.map es c true)) (he : Ents key es l)
theorem MapRw.at {k : Nat} {l : List (α × HVal)} (g : MapRw key h k l) : MapAt key h k l := let ⟨es, c, a, b⟩ := g; ⟨es, c, true, a, b⟩
theorem MapAt.grow {k : Nat} {l : List (α × HVal)} (g : Grow h h') (w : MapAt key h k l) : MapAt key h' k l := let ⟨es, c, r, a, b⟩ := w; ⟨es, c, r, g.get a, b⟩
theorem MapRw.grow {k : Nat} {l : List (α × HVal)} (g : Grow h h') (w : MapRw key h k l) : MapRw key h' k l := let ⟨es, c, a, b⟩ := w; ⟨es, c, g.get a, b⟩
theorem MapRw.of_get {k : Nat} {l : List (α × HVal)} (g : h'.get k = h.get k) (w : MapRw key h k l) : MapRw key h' k l := let ⟨es, c, a, b⟩ := w; ⟨es, c, g.trans a, b⟩
end
section
variable {α : Type} [DecidableEq α] {key : α → HVal}
theorem entries_get {k : Nat} {es : List HEnt} {c : Nat} {r : Bool} (hg : h.get k = some (.map es c r)) : h.entries k = some (es, c, r) := by
  unfold Heap.entries; rw [hg]; rfl
theorem V.lookup {t kt et q k : Nat} {x y : Operand} {a : α} {z : HVal} {l : List (α × HVal)} (hT : tabOk P tab = true) (ho : o.op = .lookup t x y false) (ht : tyL tab t = some (.map kt et, q)) (hk : KeyFine P kt key) (hz : zeroH P et = some z)
    (hx : evL P L x = some (.map k)) (hy : evL P L y = some (key a)) (hm : MapAt key h k l) : OpV P o L h (lookM l a z) h := OpV.mk ho fun ev ha d ty ps aft g => by
  obtain ⟨es, c, rw', hg, he⟩ := hm
  simp only [opH, evL_sound ha hx, evL_sound ha hy, lookupH, tab_map hT ht, hk.simple, hk.ok, bcase_true, hz, ob_some, entries_get hg, bcase_false]
  rcases find_ents hk a z z he with ⟨g1, g2, g3⟩ | ⟨i, e', g1, g2, g3, g4⟩
  · simp only [g1, ob_some, g2]
  · simp only [g1, ob_some, g3]
theorem Op1.mapUpdate {t kt et q k : Nat} {x y u : Operand} {a : α} {v : HVal} {l : List (α × HVal)} (hT : tabOk P tab = true) (ho : o.op = .mapUpdate t x y u) (ht : tyL tab t = some (.map kt et, q)) (hk : KeyFine P kt key)
    (hx : evL P L x = some (.map k)) (hy : evL P L y = some (key a)) (hu : evL P L u = some v) (hm : MapRw key h k l) (wf : Wf h) (hw : wantL ops o L = some true) (hf : fits o.dst n = true)
    (hr : ∀ h', MapRw key h' k (setM l a v) → (∀ j, j ≠ k → h'.get j = h.get j) → Wf h' → h'.next = h.next → R (putD? o.dst undefH L) h') : Op1 P K ops o L h m n R := by
  obtain ⟨es, c, hg, he⟩ := hm
  rcases find_ents hk a v v he with ⟨g1, g2, g3⟩ | ⟨i, e', g1, g2, g3, g4⟩
  · have p := put_put wf (.map (es ++ [⟨key a, v, c⟩]) (Nat.succ c) true) (wf.lt hg)
    refine Op1.val (v := undefH) (h' := h.put k (.map (es ++ [⟨key a, v, c⟩]) (Nat.succ c) true)) (OpV.mk ho fun ev ha d ty ps aft g => ?_) hw hf (hr _ ⟨_, _, p.get, ?_⟩ p.old p.wf p.next)
    · simp only [opH, evL_sound ha hx, evL_sound ha hy, evL_sound ha hu, updateH, tab_map hT ht, HVal.isMap, ob_some, writeH, hk.simple, hk.ok, bcase_true, entries_get hg, g1]
    · rw [g3]; exact ents_append he a v c
  · have p := put_put wf (.map (es.set i ⟨key a, v, e'.born⟩) c true) (wf.lt hg)
    refine Op1.val (v := undefH) (h' := h.put k (.map (es.set i ⟨key a, v, e'.born⟩) c true)) (OpV.mk ho fun ev ha d ty ps aft g => ?_) hw hf (hr _ ⟨_, _, p.get, g4 _⟩ p.old p.wf p.next)
    simp only [opH, evL_sound ha hx, evL_sound ha hy, evL_sound ha hu, updateH, tab_map hT ht, HVal.isMap, ob_some, writeH, hk.simple, hk.ok, bcase_true, entries_get hg, g1, g2, hk.same]
end
/-! truths at keys -/
section
variable {α : Type} [DecidableEq α] {key : α → HVal}
def lookB : List (α × Bool) → α → Bool
  | [], _ => false
  | p :: l, a => if p.1 = a then p.2 else lookB l a
def setB : List (α × Bool) → α → Bool → List (α × Bool)
  | [], a, v => [(a, v)]
  | p :: l, a, v => if p.1 = a then (a, v) :: l else p :: setB l a v
def cellB (p : α × Bool) : α × HVal := (p.1, .bool p.2)
theorem lookM_B (l : List (α × Bool)) (a : α) : lookM (l.map cellB) a (.bool false) = .bool (lookB l a) := by
  induction l with
  | nil => rfl
  | cons p l ih => simp only [List.map_cons, lookM, lookB, cellB]; split <;> first | rfl | exact ih
theorem setM_B (l : List (α × Bool)) (a : α) (b : Bool) : setM (l.map cellB) a (.bool b) = (setB l a b).map cellB := by
  induction l with
  | nil => rfl
  | cons p l ih =>
    simp only [List.map_cons, setM, setB]
    by_cases h : p.1 = a
    · simp [h, cellB]
    · have h' : ¬ (cellB p).1 = a := h
      simp only [h, h', if_false, List.map_cons, ih]
theorem lookB_setB (l : List (α × Bool)) (a b : α) (v : Bool) : lookB (setB l a v) b = if a = b then v else lookB l b := by
  have := lookM_setM (l.map cellB) a b (.bool v) (.bool false)
  rw [setM_B, lookM_B, lookM_B] at this
  split at this <;> rename_i h
  · rw [if_pos h]; exact HVal.bool.inj this
  · rw [if_neg h]; exact HVal.bool.inj this
theorem Op1.lookupB {t kt et q k : Nat} {x y : Operand} {a : α} {l : List (α × Bool)} (hT : tabOk P tab = true) (ho : o.op = .lookup t x y false) (ht : tyL tab t = some (.map kt et, q)) (hk : KeyFine P kt key) (hz : zeroH P et = some (.bool false))
    (hx : evL P L x = some (.map k)) (hy : evL P L y = some (key a)) (hm : MapAt key h k (l.map cellB)) (hw : wantL ops o L = some true) (hf : fits o.dst n = true) (h1 : lookB l a = true → R (putD? o.dst (.bool true) L) h) (h0 : lookB l a = false → R (putD? o.dst (.bool false) L) h) : Op1 P K ops o L h m n R :=
  Op1.bool (by rw [← lookM_B]; exact V.lookup hT ho ht hk hz hx hy hm) hw hf h1 h0
end
theorem Grow.fresh {a b : Heap} (g : Grow a b) {k : Nat} (f : b.get k = none) : a.get k = none := by
  cases e : a.get k with
  | none => rfl
  | some o' => rw [g.get e] at f; cases f
theorem Grow.change {h0 : Heap} {k : Nat} (g : Grow h0 h) (hk : h0.get k = none) (old : ∀ j, j ≠ k → h'.get j = h.get j) (hn : h'.next = h.next) : Grow h0 h' :=
  ⟨fun {j o'} e => by rw [old j (by rintro rfl; rw [hk] at e; cases e)]; exact g.get e, by rw [hn]; exact g.next⟩
theorem row_all {k e : Nat} {l : List HVal} {s w : Bool} (hg : h.get k = some (.cells l e s w)) : Row h k 0 l := row_of hg (by rw [List.drop_zero, List.take_length])
theorem Does.known {f : Nat} {args : List HVal} {v : HVal} (hk : K f args h = some (.ret v, h')) : Does P K f args h v h' := ⟨0, fun m _ => by simp only [callOr, hk]⟩
theorem ents_zip {α : Type} {key : α → HVal} : ∀ (l : List α) (n : Nat), Ents key (l.zipIdx n |>.map fun p => ⟨key p.1, .bool true, p.2⟩) ((l.map fun q => (q, true)).map cellB)
  | [], _ => trivial
  | _ :: l, n => ⟨rfl, rfl, ents_zip l (n + 1)⟩
theorem lookB_true {α : Type} [DecidableEq α] (l : List α) (a : α) : lookB (l.map fun q => (q, true)) a = l.any fun q => decide (q = a) := by
  induction l with
  | nil => rfl
  | cons p l ih => simp only [List.map_cons, lookB, List.any_cons, ih]; by_cases h : p = a <;> simp [h]
def strKey (p : Nat × Nat) : HVal := .str p.1 p.2
def intKey (a : Int) : HVal := .int .i64 a
theorem fine_str {t : Nat} (hu : P.underlying t = some .string) : KeyFine P t strKey := by
  refine ⟨by simp only [simpleKey, hu], fun a => by simp only [keyOk, hu], fun a b => ?_, fun a => ?_⟩
  · simp only [keyEqAt, heq, hu, strKey, sEq, nbeq, bcase_eq]
    obtain ⟨a1, a2⟩ := a
    obtain ⟨b1, b2⟩ := b
    by_cases h1 : a1 = b1 <;> by_cases h2 : a2 = b2 <;> simp [h1, h2]
  · simp [sameKey, sameCell, strKey, sEq, nbeq]
theorem fine_int {t : Nat} (hu : P.underlying t = some (.int .i64)) : KeyFine P t intKey := by
  refine ⟨by simp only [simpleKey, hu], fun a => by simp only [keyOk, hu], fun a b => ?_, fun a => ?_⟩
  · simp only [keyEqAt, heq, hu, intKey, sameKind, kindNo, ieq_eq, nbeq, decide_true, bcase_true]
  · simp [sameKey, sameCell, intKey, sameKind, kindNo, ieq_eq, nbeq]
/-- a slice whose block is there -/
structure Held (h : Heap) (v : HVal) (w : Nat) (rows : List (List HVal)) : Prop where
  slice : SliceAt h v w rows
  live : ∀ k, keyV v = some k → ∃ o, h.get k = some o
theorem Held.keep {v : HVal} {w : Nat} {rows : List (List HVal)} (a : Held h v w rows) (e : ∀ k, keyV v = some k → h'.get k = h.get k) : Held h' v w rows := by
  refine ⟨⟨a.slice.len, fun i r hr => ?_⟩, fun k hk => by rw [e k hk]; exact a.live k hk⟩
  obtain ⟨k, off, cap, rfl, hrow⟩ := a.slice.row i r hr
  refine ⟨k, off, cap, rfl, ⟨?_⟩⟩
  have := hrow.load
  unfold loadN Heap.cells at this ⊢
  rw [e k rfl]; exact this
theorem Held.grow {v : HVal} {w : Nat} {rows : List (List HVal)} (g : Grow h h') (a : Held h v w rows) : Held h' v w rows := ⟨a.slice.grow g, fun k hk => let ⟨o, e⟩ := a.live k hk; ⟨o, g.get e⟩⟩
theorem row_is {α : Type} {l : List α} {g : α → List HVal} {i : Nat} {a : α} (d : α) (hi : i < l.length) (e : l.getD i d = a) : (l.map g)[i]? = some (g a) := by rw [row_i d hi, e]
/-- truths in a block -/
def cellsB (s : List Bool) : List HVal := s.map .bool
theorem nth_bool {s : List Bool} {j : Nat} (hj : j < s.length) : nth (cellsB s) (Nat.add 0 (Nat.mul j 1)) = some (.bool (s.getD j false)) := by
  rw [nth_eq]
  simp [cellsB, List.getD, List.getElem?_eq_getElem hj]
theorem over_one {l : List HVal} {j : Nat} {v : HVal} (hj : j < l.length) : overK l (Nat.add 0 (Nat.mul j 1)) [v] some = some (l.set j v) := by
  rw [overK_eq]
  simp only [Nat.add_eq, Nat.mul_eq, Nat.mul_one, Nat.zero_add, List.length_singleton]
  rw [if_pos (.inr (by omega)), List.set_eq_take_append_cons_drop, if_pos hj]
  simp
theorem over_bool {s : List Bool} {j : Nat} {b : Bool} (hj : j < s.length) : overK (cellsB s) (Nat.add 0 (Nat.mul j 1)) [.bool b] some = some (cellsB (s.set j b)) := by
  rw [over_one (by simpa [cellsB] using hj)]
  simp [cellsB, List.map_set]
theorem repl_one (n : Nat) (v : HVal) : repl n [v] = List.replicate n v := by
  induction n with
  | zero => rfl
  | succ n ih => simp [repl, ih, List.replicate_succ]
theorem repl_bool (n : Nat) : repl n [.bool false] = cellsB (List.replicate n false) := by rw [repl_one]; simp [cellsB]
/-! ## Slices that are one's own -/
/-- a slice with n elements, of w cells each, with the cells l; what may be appended to it. d: the block that an append lets die -/
inductive App (h : Heap) (e w : Nat) : HVal → Nat → List HVal → Option Nat → Prop
  | nils : App h e w .nils 0 [] none
  | full {k off n e' : Nat} {L l : List HVal} {s r : Bool} (hg : h.get k = some (.cells L e' s r)) (hl : l.length = n * w) (hd : (L.drop off).take (n * w) = l) : App h e w (.slice k off n (some n)) n l none
  | own {k off n : Nat} {L l : List HVal} (hg : h.get k = some (.cells L e true true)) (hl : L.length = off + n * w) (hd : L.drop off = l) : App h e w (.slice k off n none) n l (some k)
  | rest {k : Nat} {L : List HVal} (hg : h.get k = some (.cells L e true true)) : App h e w (.rest k) 0 [] (some k)
theorem App.len {e w c : Nat} {v : HVal} {l : List HVal} {d : Option Nat} (a : App h e w v c l d) : lenV v = some c := by cases a <;> rfl
theorem App.length {e w c : Nat} {v : HVal} {l : List HVal} {d : Option Nat} (a : App h e w v c l d) : l.length = c * w := by
  cases a with
  | nils => simp
  | full hg hl hd => exact hl
  | own hg hl hd => rw [← hd, List.length_drop]; omega
  | rest hg => simp
theorem App.of_get {e w c : Nat} {v : HVal} {l : List HVal} {d : Option Nat} (a : App h e w v c l d) (hg : ∀ {k o}, h.get k = some o → h'.get k = some o) : App h' e w v c l d := by
  cases a with
  | nils => exact .nils
  | full g hl hd => exact .full (hg g) hl hd
  | own g hl hd => exact .own (hg g) hl hd
  | rest g => exact .rest (hg g)
theorem App.mono {e w c : Nat} {v : HVal} {l : List HVal} {d : Option Nat} (a : App h e w v c l d) (g : Grow h h') : App h' e w v c l d := a.of_get g.get
/-- the block of a slice, or of one that is used up -/
def keyW : HVal → Option Nat
  | .slice k _ _ _ => some k
  | .rest k => some k
  | _ => none
theorem App.keep {e w c : Nat} {v : HVal} {l : List HVal} {d : Option Nat} (a : App h e w v c l d) (g : ∀ k, keyW v = some k → h'.get k = h.get k) : App h' e w v c l d := by
  cases a with
  | nils => exact .nils
  | full hg hl hd => exact .full ((g _ rfl).trans hg) hl hd
  | own hg hl hd => exact .own ((g _ rfl).trans hg) hl hd
  | rest hg => exact .rest ((g _ rfl).trans hg)
theorem App.key {e w c : Nat} {v : HVal} {l : List HVal} {d : Option Nat} (a : App h e w v c l d) {j : Nat} (hj : d = some j) : keyW v = some j := by
  cases a <;> first | (cases hj; done) | exact hj
theorem App.live {e w c : Nat} {v : HVal} {l : List HVal} {d : Option Nat} (a : App h e w v c l d) {k : Nat} (hk : keyW v = some k) : ∃ o, h.get k = some o := by
  cases a with
  | nils => cases hk
  | full hg hl hd => cases hk; exact ⟨_, hg⟩
  | own hg hl hd => cases hk; exact ⟨_, hg⟩
  | rest hg => cases hk; exact ⟨_, hg⟩
/-- its elements, if each is one cell -/
theorem App.at1 {e c : Nat} {v : HVal} {l : List HVal} {d : Option Nat} (a : App h e 1 v c l d) : SliceAt h v 1 (l.map fun v => [v]) := by
  have hlen := a.length
  refine ⟨by rw [List.length_map, hlen, Nat.mul_one]; exact a.len, fun i r hr => ?_⟩
  rw [List.getElem?_map] at hr
  obtain ⟨v', hv, rfl⟩ := Option.map_eq_some_iff.1 hr
  have hi := (List.getElem?_eq_some_iff.1 hv).1
  rw [List.length_map]
  cases a with
  | nils => simp at hv
  | rest hg => simp at hv
  | @full k off n e' L l s r hg hl hd =>
    refine ⟨k, off, _, by rw [hl, Nat.mul_one], row_of hg ?_⟩
    simp only [Nat.add_eq, Nat.mul_eq, Nat.mul_one, List.length_singleton]
    rw [← hd, List.getElem?_take] at hv
    split at hv
    · rw [List.getElem?_drop] at hv
      obtain ⟨hlt, he⟩ := List.getElem?_eq_some_iff.1 hv
      rw [List.drop_eq_getElem_cons hlt]
      simp [he]
    · cases hv
  | @own k off n L l hg hl hd =>
    refine ⟨k, off, _, by rw [hlen, Nat.mul_one], row_of hg ?_⟩
    simp only [Nat.add_eq, Nat.mul_eq, Nat.mul_one, List.length_singleton]
    rw [← hd, List.getElem?_drop] at hv
    obtain ⟨hlt, he⟩ := List.getElem?_eq_some_iff.1 hv
    rw [List.drop_eq_getElem_cons hlt]
    simp [he]
/-- an append to a slice of one's own -/
structure Appended (h : Heap) (e w : Nat) (c : Nat) (l : List HVal) (d : Option Nat) (k : Nat) (h' : Heap) : Prop where
  app : App h' e w (.slice k 0 c none) c l (some k)
  get : h'.get k = some (.cells l e true true)
  fresh : h.get k = none
  le : h.next ≤ k
  old : ∀ j, some j ≠ d → j ≠ k → h'.get j = h.get j
  wf : Wf h'
  next : h.next ≤ h'.next
theorem Appended.grow {h0 : Heap} {e w c k : Nat} {l : List HVal} {d : Option Nat} (a : Appended h e w c l d k h') (g : Grow h0 h) (hd : ∀ j, d = some j → h0.get j = none) : Grow h0 h' := by
  refine ⟨fun {j o'} hj => ?_, Nat.le_trans g.next a.next⟩
  rw [a.old j ?_ ?_]
  · exact g.get hj
  · intro e; rw [hd j e.symm] at hj; cases hj
  · rintro rfl
    have := g.get hj
    rw [a.fresh] at this; cases this
theorem Op1.append {t t2 e w q q2 c cm bs k2 off2 : Nat} {i : TI} {cl : Call} {x y : Operand} {v : HVal} {l new z : List HVal} {d cap2 : Option Nat} (hT : tabOk P tab = true)
    (ho : o.op = .call cl) (hc : cl.callee = .builtin .append) (ha : cl.args = #[x, y]) (h0 : cl.argTypes[0]? = some t) (h2 : cl.argTypes[1]? = some t2) (ht : tyL tab t = some (.slice e, q)) (ht2 : tyL tab t2 = some (.slice e, q2))
    (he : tyL tab e = some (i, w)) (hz : zeroCells? P e = some z) (hzl : Nat.beq z.length w = true) (he0 : Nat.beq e 0 = false) (hw0 : Nat.beq w 0 = false) (hb : P.bytesOf e = bs) (hb0 : Nat.beq bs 0 = false)
    (hx : evL P L x = some v) (hy : evL P L y = some (.slice k2 off2 cm cap2)) (hv : App h e w v c l d) (hnew : Row h k2 off2 new) (hnl : Nat.beq new.length (Nat.mul cm w) = true) (hm0 : Nat.beq cm 0 = false) (hroom : (c + cm) * bs ≤ 140737488355328)
    (wf : Wf h) (hw : wantL ops o L = some true) (hf : fits o.dst n = true) (hr : ∀ k h', Appended h e w (c + cm) (l ++ new) d k h' → R (putD? o.dst (.slice k 0 (c + cm) none) L) h') : Op1 P K ops o L h m n R := by
  have hnl' : new.length = cm * w := Nat.eq_of_beq_eq_true hnl
  have hwid := (tab_ok hT he).2
  have wpos : 0 < w := Nat.pos_of_ne_zero fun e => by rw [e] at hw0; cases hw0
  have mpos : 0 < cm := Nat.pos_of_ne_zero fun e => by rw [e] at hm0; cases hm0
  have hslice := (tab_slice hT ht).1
  have hslice2 := (tab_slice hT ht2).1
  have happ : appended P e (.slice k2 off2 cm cap2) h = some (cm, new) := by
    have hnew := hnew.load
    rw [hnl'] at hnew
    simp only [appended, hwid, Nat.mul_eq, hnew, ob_some]
  have hroom' : Nat.ble (Nat.mul (Nat.add c cm) bs) roomH = true := by rw [nble]; exact decide_eq_true hroom
  have hop : ∀ ev : Env, Agree L ev → opH P (ev.eval P) h o = appendH P e v cm new h := by
    intro ev hag
    obtain ⟨d', op, ty, ps, aft, g⟩ := o
    simp only at ho
    subst ho
    simp only [opH, hc, ha, List.map_cons, List.map_nil, evL_sound hag hx, evL_sound hag hy, builtinH, sliceElem, h0, hslice, ob_some, he0, bcase_false, hwid, hw0, hb, hb0, noNumber, h2, hslice2, bcase_true, hz, hzl, happ]
  have hlen := hv.length
  have hmul : Nat.mul c w = l.length := hlen.symm
  -- a new block in some memory
  have fresh : ∀ (g : Heap), g.next = h.next → (∀ j, some j ≠ d → g.get j = h.get j) → (∀ j, h.next ≤ j → g.get j = none) → Appended h e w (c + cm) (l ++ new) d g.next (g.new (.cells (l ++ new) e true true)) := by
    intro g hn ho2 hfr
    have hlen2 : (l ++ new).length = 0 + (c + cm) * w := by rw [List.length_append, hlen, hnl', Nat.zero_add, Nat.add_mul]
    have mk := made_new (h := g) (fun k hk => hfr k (by rw [← hn]; exact hk)) (.cells (l ++ new) e true true)
    refine ⟨.own mk.get hlen2 rfl, mk.get, ?_, by rw [hn]; exact Nat.le_refl _, fun j hj hne => ?_, mk.wf, ?_⟩
    · rw [hn]; exact wf _ (Nat.le_refl _)
    · rw [mk.old j hne]; exact ho2 j hj
    · rw [← hn]; exact Nat.le_succ _
  cases hv with
  | nils =>
    refine Op1.val (v := .slice h.next 0 cm none) (h' := h.new (.cells new e true true)) (fun ev hag => ?_) hw hf ?_
    · rw [hop ev hag]
      rw [Nat.zero_add] at hroom
      have h3 : Nat.ble (Nat.mul cm bs) roomH = true := by rw [nble]; exact decide_eq_true hroom
      simp only [appendH, hm0, bcase_false, hb, h3, bcase_true, newSlice]
    · have := hr h.next _ (fresh h rfl (fun _ _ => rfl) wf)
      rw [List.nil_append, Nat.zero_add] at this
      exact this
  | @full k off _ e' LL _ s r hg hl hd =>
    refine Op1.val (v := .slice h.next 0 (c + cm) none) (h' := h.new (.cells (l ++ new) e true true)) (fun ev hag => ?_) hw hf (hr h.next _ (fresh h rfl (fun _ _ => rfl) wf))
    rw [hop ev hag]
    have h4 : Nat.ble (Nat.add c cm) c = false := by rw [nble]; exact decide_eq_false (by simp only [Nat.add_eq]; omega)
    have h5 : loadN h k off (Nat.mul c (P.cellsOf e)) = some l := by
      unfold loadN
      rw [cells_get hg, ob_some, takeK_eq, dropN_eq, hwid]
      have : c * w ≤ (LL.drop off).length := by
        have := congrArg List.length hd
        rw [List.length_take, hl] at this
        omega
      rw [if_pos (show Nat.mul c w ≤ (LL.drop off).length from this)]
      exact congrArg some hd
    simp only [appendH, hm0, bcase_false, hb, hroom', bcase_true, h4, h5, ob_some, appK_eq, newSlice]
    rfl
  | @own k off _ LL _ hg hl hd =>
    have hk := wf.lt hg
    refine Op1.val (v := .slice h.next 0 (c + cm) none) (h' := (h.put k .dead).new (.cells (l ++ new) e true true)) (fun ev hag => ?_) hw hf (hr h.next _ (fresh (h.put k .dead) rfl (fun j hj => ?_) fun j hj => ?_))
    · rw [hop ev hag]
      have h4 : roomFor P h k off (Nat.add c cm) e = false := by
        unfold roomFor
        rw [cells_get hg]
        simp only [bcase_true, Nat.beq_refl, he0, bcase_false, hwid, hw0]
        rw [nble]
        refine decide_eq_false ?_
        simp only [Nat.add_eq, Nat.mul_eq, hl, Nat.add_mul]
        have : 0 < cm * w := Nat.mul_pos mpos wpos
        omega
      have h5 : takeK (dropN LL off) (Nat.mul c (P.cellsOf e)) (fun old => appK old new fun l => newSlice (h.put k .dead) l (Nat.add c cm) e) = newSlice (h.put k .dead) (l ++ new) (c + cm) e := by
        rw [takeK_eq, dropN_eq, hwid, hmul, if_pos (by rw [hd]; exact Nat.le_refl _), hd, List.take_length, appK_eq]
        rfl
      simp only [appendH, hm0, bcase_false, hb, hroom', bcase_true, h4, cells_get hg, ob_some, Nat.beq_refl, h5]
      rfl
    · rw [Heap.get_put, if_neg (fun e => hj (by rw [e]))]
    · rw [Heap.get_put, if_neg (by omega)]
      exact wf j hj
  | @rest k LL hg =>
    have hk := wf.lt hg
    refine Op1.val (v := .slice h.next 0 cm none) (h' := (h.put k .dead).new (.cells new e true true)) (fun ev hag => ?_) hw hf ?_
    · rw [hop ev hag]
      rw [Nat.zero_add] at hroom
      have h3 : Nat.ble (Nat.mul cm bs) roomH = true := by rw [nble]; exact decide_eq_true hroom
      simp only [appendH, hm0, bcase_false, hb, h3, bcase_true, cells_get hg, ob_some, Nat.beq_refl, newSlice]
      rfl
    · have := hr h.next _ (fresh (h.put k .dead) rfl (fun j hj => by rw [Heap.get_put, if_neg (fun e => hj (by rw [e]))]) fun j hj => by rw [Heap.get_put, if_neg (by omega)]; exact wf j hj)
      rw [List.nil_append, Nat.zero_add] at this
      exact this
/-- the slice behind the first element -/
theorem Op1.sliceTail {t e w q c : Nat} {i : TI} {x y : Operand} {v : HVal} {l : List HVal} {d : Option Nat} (hT : tabOk P tab = true) (ho : o.op = .slice t x (some y) none none) (ht : tyL tab t = some (.slice e, q)) (he : tyL tab e = some (i, w))
    (hx : evL P L x = some v) (hy : evL P L y = some (.int .i64 1)) (hv : App h e w v (c + 1) l d) (hw : wantL ops o L = some true) (hf : fits o.dst n = true) (hr : ∀ v', App h e w v' c (l.drop w) d → keyW v' = keyW v → R (putD? o.dst v' L) h) : Op1 P K ops o L h m n R := by
  have hslice := (tab_slice hT ht).1
  obtain ⟨inf, hinf⟩ := (tab_slice hT ht).2
  have hwid := (tab_ok hT he).2
  have hel : elemOk P t = true := by simp only [elemOk, hslice, hinf]
  have hop : ∀ {v' : HVal}, sliceH P h t v (some (.int .i64 1)) none none = some v' → OpV P o L h v' h := fun {v'} e => OpV.mk ho fun ev ha d ty ps aft g => by
    simp only [opH, hel, bcase_true, evL_sound ha hx, Option.map_some, evL_sound ha hy, Option.map_none, e, HL.val, ob_some]
  have hb1 : ∀ y, 1 ≤ y → boundO (some (.int .i64 1)) y 0 = some 1 := by
    intro y hy
    have : Nat.ble 1 y = true := by rw [nble]; exact decide_eq_true hy
    show boundH (.int .i64 1) y = some 1
    unfold boundH
    show ob (natOf 1) (fun i => bcase (Nat.ble i y) (some i) none) = some 1
    show bcase (Nat.ble 1 y) (some 1) none = some 1
    rw [this]; rfl
  have hb2 : ∀ a b, boundO none a b = some b := fun _ _ => rfl
  cases hv with
  | @full k off _ e' LL _ s r hg hl hd =>
    refine Op1.val (hop (v' := .slice k (moved off 1 (c + 1) w) (Nat.sub (c + 1) 1) (some (Nat.sub (c + 1) 1))) ?_) hw hf (hr _ ?_ rfl)
    · simp only [sliceH, hslice, hb2, hb1 (c + 1) (by omega), ob_some, hwid]
    · refine .full hg ?_ ?_
      · rw [List.length_drop, hl, Nat.add_mul, Nat.one_mul, Nat.add_sub_cancel]; rfl
      · unfold moved
        cases hcc : Nat.beq 1 (c + 1) with
        | true =>
          have : c = 0 := by have := Nat.eq_of_beq_eq_true hcc; omega
          subst this
          have : l.length = w := by simpa using hl
          rw [bcase_true, Nat.zero_mul, List.take_zero, List.drop_eq_nil_of_le (by omega)]
        | false =>
          rw [bcase_false, ← hd, List.drop_take]
          have : (c + 1) * w - w = c * w := by rw [Nat.add_mul]; omega
          rw [this]
          simp [Nat.add_comm]
  | @own k off _ LL _ hg hl hd =>
    have htop : topH P h k off (c + 1) e none = c + 1 := rfl
    by_cases hc : c = 0
    · subst hc
      refine Op1.val (hop (v' := .rest k) ?_) hw hf (hr _ ?_ rfl)
      · simp only [sliceH, hslice, hb2, htop, hb1 1 (by omega), ob_some, Nat.zero_add]
        show bcase false _ (bcase (bcase false true false) _ (bcase true (ob (h.cells k) fun o => some (bcase (Nat.beq o.2.1 e) (HVal.rest k) HVal.empty)) none)) = _
        simp only [bcase_false, bcase_true, cells_get hg, ob_some, Nat.beq_refl]
      · have hln : l.length = w := by rw [← hd, List.length_drop]; simp at hl; omega
        rw [List.drop_eq_nil_of_le (by omega)]
        exact .rest hg
    · refine Op1.val (hop (v' := .slice k (Nat.add off (Nat.mul 1 w)) (Nat.sub (c + 1) 1) none) ?_) hw hf (hr _ ?_ rfl)
      · have h3 : Nat.blt 1 (c + 1) = true := by rw [nblt]; exact decide_eq_true (by omega)
        simp only [sliceH, hslice, hb2, htop, hb1 (c + 1) (by omega), ob_some, h3, bcase_true, cells_get hg, Nat.beq_refl, hwid]
        rfl
      · refine .own hg ?_ ?_
        · simp only [Nat.add_eq, Nat.mul_eq, Nat.one_mul]; rw [hl, Nat.add_mul]; simp; omega
        · simp only [Nat.add_eq, Nat.mul_eq, Nat.one_mul]; rw [← hd, List.drop_drop]
/-- a slice that has no known end: of a value that came from elsewhere, or of one that was appended to -/
inductive Loose : HVal → Prop
  | nils : Loose .nils
  | empty : Loose .empty
  | slice (k off c : Nat) : Loose (.slice k off c none)
/-- the first elements -/
theorem Op1.sliceHi {t e w q j : Nat} {i : TI} {x y : Operand} {v : HVal} {rows : List (List HVal)} (hT : tabOk P tab = true) (ho : o.op = .slice t x none (some y) none) (ht : tyL tab t = some (.slice e, q)) (he : tyL tab e = some (i, w))
    (hx : evL P L x = some v) (hy : evL P L y = some (.int .i64 (.ofNat j))) (hl : Loose v) (hs : SliceAt h v w rows) (hj : j < rows.length) (hw : wantL ops o L = some true) (hf : fits o.dst n = true) (hr : ∀ v', Loose v' → SliceAt h v' w (rows.take j) → R (putD? o.dst v' L) h) : Op1 P K ops o L h m n R := by
  have hslice := (tab_slice hT ht).1
  obtain ⟨inf, hinf⟩ := (tab_slice hT ht).2
  have hel : elemOk P t = true := by simp only [elemOk, hslice, hinf]
  have hop : ∀ {v' : HVal}, sliceH P h t v none (some (.int .i64 (.ofNat j))) none = some v' → OpV P o L h v' h := fun {v'} e => OpV.mk ho fun ev ha d ty ps aft g => by
    simp only [opH, hel, bcase_true, evL_sound ha hx, Option.map_some, evL_sound ha hy, Option.map_none, e, HL.val, ob_some]
  have hb1 : ∀ y d, j ≤ y → boundO (some (.int .i64 (.ofNat j))) y d = some j := by
    intro y d hy
    have : Nat.ble j y = true := by rw [nble]; exact decide_eq_true hy
    show bcase (Nat.ble j y) (some j) none = some j
    rw [this]; rfl
  have hlen := hs.1
  cases hl with
  | nils => exact absurd (Option.some.inj hlen) (by omega)
  | empty => exact absurd (Option.some.inj hlen) (by omega)
  | slice k off c =>
    have hc : c = rows.length := by simpa [lenV] using hlen
    refine Op1.val (hop (v' := .slice k off (Nat.sub j 0) none) ?_) hw hf (hr _ (.slice _ _ _) ?_)
    · have htop : topH P h k off c e (some (.int .i64 (.ofNat j))) = c := by
        unfold topH
        show bcase (Nat.ble j c) c _ = c
        have : Nat.ble j c = true := by rw [nble]; exact decide_eq_true (by omega)
        rw [this]; rfl
      simp only [sliceH, hslice, htop, hb1 c c (by omega), ob_some]; rfl
    · refine ⟨by simp [lenV]; omega, fun i r hr' => ?_⟩
      rw [List.getElem?_take] at hr'
      split at hr'
      · obtain ⟨k', off', cap', e1, hrow⟩ := hs.2 i r hr'
        cases e1
        refine ⟨k, off, none, ?_, hrow⟩
        rw [List.length_take]
        have : Nat.sub j 0 = min j rows.length := by show j = _; omega
        rw [this]
      · cases hr'
theorem cells_len {v : HVal} {c : Nat} (hl : lenV v = some c) : v.cells = some [v] := by
  unfold lenV at hl
  split at hl <;> first | (cases hl; done) | rfl
/-- a slice of one slice -/
theorem M.build1 {t e q : Nat} {i : TI} {x : Operand} {v : HVal} (hT : tabOk P tab = true) (ho : o.op = .buildSlice t 1 #[(0, x)]) (ht : tyL tab t = some (.slice e, q)) (he : tyL tab e = some (i, 1)) (hz : zeroCells? P e = some [.nils]) (hx : evL P L x = some v) (hc : v.cells = some [v]) :
    OpM P o L h (fun k => .slice k 0 1 (some 1)) (.cells [v] e false true) := OpM.mk ho fun ev ha d ty ps' aft g => by
  simp only [opH, (tab_slice hT ht).1, (tab_ok hT he).2, hz, ob_some, List.map_cons, List.map_nil, evL_sound ha hx]
  show bcase true (bcase true (ob (fillH [(Nat.mul 0 1, 1, v)] (repl 1 [.nils])) _) none) none = _
  simp only [bcase_true, fillH, hc, ob_some]
  rfl
/-- a store of a truth into a block that is new since h0 -/
theorem Op1.storeB {h0 : Heap} {t k j : Nat} {x y : Operand} {s : List Bool} {b : Bool} {e : Nat} {sp : Bool} (hT : tabOk P tab = true) (ho : o.op = .store t x y) (ht : tyL tab t = some (.bool, 1)) (hi : ∃ inf, P.info? t = some inf)
    (hx : evL P L x = some (.ptr k (Nat.add 0 (Nat.mul j 1)))) (hy : evL P L y = some (.bool b)) (hg : h.get k = some (.cells (cellsB s) e sp true)) (hj : j < s.length) (hw : wantL ops o L = some true) (hf : fits o.dst n = true) (wf : Wf h)
    (hk : h0.get k = none) (hgr : Grow h0 h) (hr : ∀ h', h'.get k = some (.cells (cellsB (s.set j b)) e sp true) → Grow h0 h' → Wf h' → (∀ j, j ≠ k → h'.get j = h.get j) → h'.next = h.next → R (putD? o.dst undefH L) h') : Op1 P K ops o L h m n R :=
  Op1.store hT ho ht hi hx hy rfl rfl hg (over_bool hj) hw hf wf fun h' p => hr h' p.get (p.ext hgr hk) p.wf p.old p.next
theorem Op1.loadBo {t k j : Nat} {x : Operand} {s : List Bool} {e : Nat} {sp r : Bool} (hT : tabOk P tab = true) (ho : o.op = .load t x) (ht : tyL tab t = some (.bool, 1)) (hx : evL P L x = some (.ptr k (Nat.add 0 (Nat.mul j 1)))) (hg : h.get k = some (.cells (cellsB s) e sp r)) (hj : j < s.length) (hw : wantL ops o L = some true) (hf : fits o.dst n = true)
    (h1 : s.getD j false = true → R (putD? o.dst (.bool true) L) h) (h0 : s.getD j false = false → R (putD? o.dst (.bool false) L) h) : Op1 P K ops o L h m n R := Op1.bool (V.load hT ho ht rfl hx hg (nth_bool hj)) hw hf h1 h0
theorem Op1.makeB {t e q len bs : Nat} {kd : IntKind} {x : Operand} (hT : tabOk P tab = true) (ho : o.op = .makeSlice t x x) (ht : tyL tab t = some (.slice e, q)) (he : tyL tab e = some (.bool, 1)) (hx : evL P L x = some (.int kd (.ofNat len))) (hb : P.bytesOf e = bs) (h1 : bs * len ≤ 140737488355328) (h2 : len ≤ 140737488355328)
    (hz : zeroCells? P e = some [.bool false]) (hw : wantL ops o L = some true) (hf : fits o.dst n = true) (w : Wf h) (hr : ∀ k h', Made h k (.cells (cellsB (List.replicate len false)) e false true) h' → R (putD? o.dst (.slice k 0 len (some len)) L) h') : Op1 P K ops o L h m n R :=
  Op1.made (M.slice hT ho ht he hx hx (Nat.le_refl _) hb h1 h2 hz rfl) hw hf w (by rw [repl_bool]; exact hr)
end
end
end Go.HL
namespace Go.HL
open Go
noncomputable section
section
variable {P : Program}
def closedV : HVal → Bool
  | .bool _ => true
  | .int _ _ => true
  | .str _ _ => true
  | .nilp => true
  | .nils => true
  | .nilm => true
  | .nilf => true
  | .nili => true
  | _ => false
theorem closedV_rel {σ τ : Places} {x : HVal} {v : Value} (hc : closedV x = true) (h : VRel σ x v) : VRel τ x v := by
  cases x <;> first | exact h | (cases hc; done)
theorem closedV_rels {σ τ : Places} : ∀ {l : List HVal} {m : List Value}, (∀ x ∈ l, closedV x = true) → VRels σ l m → VRels τ l m
  | [], m, _, h => h
  | x :: l, m, hc, h => by
    obtain ⟨v, m', rfl, hv, h'⟩ := h.cons_inv
    exact VRels.cons (closedV_rel (hc x (by simp)) hv) (closedV_rels (fun y hy => hc y (by simp [hy])) h')
inductive ClosedO : HObj → Prop
  | cells {l : List HVal} {e : Nat} {s r : Bool} (h : ∀ x ∈ l, closedV x = true) : ClosedO (.cells l e s r)
  | map {es : List HEnt} {c : Nat} {r : Bool} (h : ∀ x ∈ es, closedV x.key = true ∧ closedV x.val = true) : ClosedO (.map es c r)
theorem closed_erels {σ τ : Places} : ∀ {l : List HEnt} {m : List MapEntry}, (∀ x ∈ l, closedV x.key = true ∧ closedV x.val = true) → ERels σ l m → ERels τ l m
  | [], m, _, h => h
  | x :: l, m, hc, ⟨y, m', e, he, h'⟩ => ⟨y, m', e, ⟨closedV_rel (hc x (by simp)).1 he.1, closedV_rel (hc x (by simp)).2 he.2.1, he.2.2⟩, closed_erels (fun z hz => hc z (by simp [hz])) h'⟩
theorem ClosedO.rel {σ τ : Places} {p : Place} {o : HObj} {b : Option Obj} (hc : ClosedO o) (h : ORel P σ p o b) : ORel P τ p o b := by
  cases hc with
  | cells hl => obtain ⟨C, elem, fr, e1, e2, e3⟩ := h; exact ⟨C, elem, fr, e1, closedV_rels hl e2, e3⟩
  | map hl => obtain ⟨es', e1, e2⟩ := h; exact ⟨es', e1, closed_erels hl e2⟩
theorem closed_live {o : HObj} (hc : ClosedO o) : o.live = true := by cases hc <;> rfl
/-- what such a call needs: closed objects under the package's variables, that are not written -/
structure Rooted (P : Program) (e : Ent) : Prop where
  fine : Fine P e
  args : e.args = []
  next : e.next = P.globals.size
  ro : ∀ p ∈ e.hin, p.2.owned = false ∧ ClosedO p.2 ∧ p.1 < P.globals.size
def lowσ (P : Program) (σ : Places) : Places := fun k => if k < P.globals.size then σ k else none
theorem rooted_rel {e : Ent} (r : Rooted P e) {h : Heap} (hs : ∀ p ∈ e.hin, h.get p.1 = some p.2) {σ : Places} {w : World} (hr : Rel P σ h w) : Rel P (lowσ P σ) e.inMem w := by
  have hmem : ∀ {k o}, e.inMem.get k = some o → (k, o) ∈ e.hin := fun {k o} hk => by rw [inMem_get] at hk; exact findK_mem hk
  refine ⟨fun k o p hk hl hp => ?_, fun k hk => ?_, fun k o hk => ?_, fun k p hp => ?_, fun k k' o o' p p' hk _ ho => ?_, fun g hg => ?_⟩
  · have hm := hmem hk
    obtain ⟨_, h2, h3⟩ := r.ro _ hm
    have h3 : k < P.globals.size := h3
    unfold lowσ at hp
    rw [if_pos h3] at hp
    exact h2.rel (hr.obj k o p (hs _ hm) hl hp)
  · unfold lowσ
    have hk : e.next ≤ k := hk
    rw [if_neg (by rw [r.next] at hk; omega)]
  · show k < e.next
    rw [r.next]; exact (r.ro _ (hmem hk)).2.2
  · unfold lowσ at hp
    split at hp
    · exact hr.inb k p hp
    · cases hp
  · have := (r.ro _ (hmem hk)).1
    rw [show (k, o).2 = o from rfl, ho] at this; cases this
  · obtain ⟨p, h1, h2⟩ := hr.glob g hg
    exact ⟨p, by unfold lowσ; rw [if_pos hg]; exact h1, h2⟩
theorem rooted_run {e : Ent} (r : Rooted P e) {h : Heap} (hs : ∀ p ∈ e.hin, h.get p.1 = some p.2) {σ : Places} {w : World} (hr : Rel P σ h w) :
    Calls P e.f #[] w fun x w' => ∃ τ h1, Step P (lowσ P σ) e.inMem w τ h1 w' ∧ CRel τ (.ret e.res) x ∧ (∀ k o, findK e.hout k = some o → h1.get k = some o) ∧ (∀ b, ¬ Own (lowσ P σ) e.inMem b) := by
  have hf := r.fine
  have hlt := hf.lt
  obtain ⟨run, hrun, hp0⟩ := hf
  have hp := (bcase_false_eq.1 hp0).2
  unfold ranTo at hp
  cases he : run e.f e.args e.inMem with
  | none => rw [he] at hp; cases hp
  | some rr =>
    obtain ⟨cr, h1⟩ := rr
    rw [he] at hp
    cases cr with
    | pan v => cases hp
    | ret v =>
      simp only [bcase_false_eq] at hp
      obtain ⟨e1, e2, e3, e4, e5⟩ := hp
      have hres := beq_sound _ _ e1
      subst hres
      refine ((hrun e.f e.args e.inMem _ h1 he (lowσ P σ) w [] (rooted_rel r hs hr) (by rw [r.args]; exact VRels.nil)).1 hlt).mono fun x w' ⟨τ, st, hc⟩ => ⟨τ, h1, st, hc, fun k o hk => subH_mem e3 (findK_mem hk), ?_⟩
      rintro b ⟨k, o, p, hk, ho, _⟩
      rw [inMem_get] at hk
      have := (r.ro _ (findK_mem hk)).1
      rw [show (k, o).2 = o from rfl, ho] at this; cases this
/-- the result is closed: the memory is as it was -/
theorem rooted_closed {e : Ent} (r : Rooted P e) (hc : closedV e.res = true) {h : Heap} (hs : ∀ p ∈ e.hin, h.get p.1 = some p.2) {σ : Places} {w : World} (hr : Rel P σ h w) :
    Calls P e.f #[] w fun x w' => Step P σ h w σ h w' ∧ CRel σ (.ret e.res) x := by
  refine (rooted_run r hs hr).mono fun x w' ⟨τ, h1, st, hcr, _, hno⟩ => ?_
  have hk : ∀ b, b < w.heap.size → w'.heap[b]? = w.heap[b]? := fun b hb => st.kept.block b hb (hno b)
  refine ⟨⟨σ.le_refl, ⟨fun k o p hk' hl hp => by rw [hk p.blk (hr.inb k p hp)]; exact hr.obj k o p hk' hl hp, hr.fresh, hr.dom, fun k p hp => Nat.lt_of_lt_of_le (hr.inb k p hp) st.kept.size, hr.inj, hr.glob⟩,
    ⟨st.kept.os, st.kept.tape, st.kept.output, st.kept.size, fun b hb _ => hk b hb⟩, fun _ _ e => e, Nat.le_refl _, fun _ _ => rfl, fun _ _ _ => rfl⟩, ?_⟩
  obtain ⟨v, hv, hx⟩ := hcr
  exact ⟨v, hv, closedV_rel hc hx⟩
/-- the result is a map that is new -/
theorem rooted_map {e : Ent} (r : Rooted P e) {k0 : Nat} {ob : HObj} (hres : e.res = .map k0) (hob : findK e.hout k0 = some ob) (hcl : ClosedO ob) (how : ob.owned = true) {h : Heap} (hs : ∀ p ∈ e.hin, h.get p.1 = some p.2) {σ : Places} {w : World} (hr : Rel P σ h w) :
    Calls P e.f #[] w fun x w' => ∃ σ', Step P σ h w σ' (h.new ob) w' ∧ CRel σ' (.ret (.map h.next)) x := by
  refine (rooted_run r hs hr).mono fun x w' ⟨τ, h1, st, hcr, hout, hno⟩ => ?_
  have hk : ∀ b, b < w.heap.size → w'.heap[b]? = w.heap[b]? := fun b hb => st.kept.block b hb (hno b)
  rw [hres] at hcr
  obtain ⟨v, hv, p, hp, hvp⟩ := hcr
  have hlive := closed_live hcl
  have hor : ORel P τ p ob w'.heap[p.blk]? := st.rel.obj k0 ob p (hout k0 ob hob) hlive hp
  have hge : w.heap.size ≤ p.blk := by
    apply Nat.le_of_not_lt
    intro hlt
    exact hno _ (st.own p.blk hlt ⟨k0, ob, p, hout k0 ob hob, how, hp, rfl⟩)
  have hn : σ h.next = none := hr.fresh h.next (Nat.le_refl _)
  let σ' : Places := fun k => if k = h.next then some p else σ k
  have hσn : σ' h.next = some p := if_pos rfl
  have hσo : ∀ k, k ≠ h.next → σ' k = σ k := fun k hk => if_neg hk
  have hle : σ.le σ' := fun k q hq => by
    have : k ≠ h.next := by rintro rfl; rw [hn] at hq; cases hq
    rw [hσo k this]; exact hq
  have hgn : (h.new ob).get h.next = some ob := by simp
  have hgo : ∀ k, k ≠ h.next → (h.new ob).get k = h.get k := fun k hk => by simp [hk]
  refine ⟨σ', ⟨hle, ⟨?_, ?_, ?_, ?_, ?_, ?_⟩, ⟨st.kept.os, st.kept.tape, st.kept.output, st.kept.size, fun b hb _ => hk b hb⟩, ?_, Nat.le_succ _, fun k hk => hσo k (by omega), fun k hk _ => hgo k (by omega)⟩, v, hv, p, hσn, hvp⟩
  · intro k o q hk' hl hq
    by_cases hkn : k = h.next
    · subst hkn
      rw [hgn] at hk'; rw [hσn] at hq
      cases hk'; cases hq
      exact hcl.rel hor
    · rw [hgo k hkn] at hk'; rw [hσo k hkn] at hq
      rw [hk q.blk (hr.inb k q hq)]
      exact (hr.obj k o q hk' hl hq).mono hle
  · intro k hk'
    have hk' : h.next + 1 ≤ k := hk'
    rw [hσo k (by omega)]; exact hr.fresh k (by omega)
  · intro k o hk'
    show k < h.next + 1
    by_cases hkn : k = h.next
    · omega
    · rw [hgo k hkn] at hk'; have := hr.dom k o hk'; omega
  · intro k q hq
    by_cases hkn : k = h.next
    · subst hkn; rw [hσn] at hq; cases hq; exact st.rel.inb k0 p hp
    · rw [hσo k hkn] at hq; exact Nat.lt_of_lt_of_le (hr.inb k q hq) st.kept.size
  · intro k k' o o' q q' h1' h2' ho hl hne hq hq'
    by_cases hkn : k = h.next
    · subst hkn
      rw [hσn] at hq; cases hq
      have hkn' : k' ≠ h.next := fun e => hne e.symm
      rw [hσo k' hkn'] at hq'
      have := hr.inb k' q' hq'
      omega
    · rw [hσo k hkn] at hq
      by_cases hkn' : k' = h.next
      · subst hkn'
        rw [hσn] at hq'; cases hq'
        have := hr.inb k q hq
        omega
      · rw [hσo k' hkn'] at hq'; rw [hgo k hkn] at h1'; rw [hgo k' hkn'] at h2'
        exact hr.inj k k' o o' q q' h1' h2' ho hl hne hq hq'
  · intro g hg
    obtain ⟨q, h1', h2'⟩ := hr.glob g hg
    exact ⟨q, hle _ _ h1', h2'⟩
  · rintro b hb ⟨k, o, q, hk', ho, hq, hqb⟩
    by_cases hkn : k = h.next
    · subst hkn; rw [hσn] at hq; cases hq; omega
    · rw [hgo k hkn] at hk'; rw [hσo k hkn] at hq
      exact ⟨k, o, q, hk', ho, hq, hqb⟩
/-- what a call that HL makes says of the model's -/
theorem Does.calls {K : CallFn} (hk : CallSound P K) {f : Nat} {args : List HVal} {h h' : Heap} {v : HVal} (d : Does P K f args h v h') (hf : f < roundNo) {σ : Places} {w : World} {vs : List Value} (hr : Rel P σ h w) (hv : VRels σ args vs) :
    Calls P f ⟨vs⟩ w fun x w' => ∃ τ, Step P σ h w τ h' w' ∧ CRel τ (.ret v) x := by
  obtain ⟨n, g⟩ := d
  exact (callOr_sound hk (run_sound hk n) f args h _ h' (g n (Nat.le_refl _)) σ w vs hr hv).1 hf
end
end
end Go.HL
namespace Go.HL
open Go Go.Deep
noncomputable section
section
variable {P : Program} {W : World}
structure LS (P : Program) (W : World) (σ : Places) (h : Heap) : Prop where
  rel : Rel P σ h W
  wf : Wf h
  ro : ∀ k o, h.get k = some o → o.owned = false
theorem LS.new {σ : Places} {h : Heap} (s : LS P W σ h) {p : Place} {o : HObj} (ho : ORel P σ p o W.heap[p.blk]?) (hro : o.owned = false) (hlt : p.blk < W.heap.size) :
    ∃ σ', LS P W σ' (h.new o) ∧ σ.le σ' ∧ Grow h (h.new o) ∧ σ' h.next = some p := by
  have hr := s.rel
  have hn : σ h.next = none := hr.fresh h.next (Nat.le_refl _)
  let σ' : Places := fun k => if k = h.next then some p else σ k
  have hσn : σ' h.next = some p := if_pos rfl
  have hσo : ∀ k, k ≠ h.next → σ' k = σ k := fun k hk => if_neg hk
  have hle : σ.le σ' := fun k q hq => by
    have : k ≠ h.next := by rintro rfl; rw [hn] at hq; cases hq
    rw [hσo k this]; exact hq
  have hgn : (h.new o).get h.next = some o := by simp
  have hgo : ∀ k, k ≠ h.next → (h.new o).get k = h.get k := fun k hk => by simp [hk]
  have mk := made_new s.wf o
  have hro' : ∀ k o', (h.new o).get k = some o' → o'.owned = false := by
    intro k o' hk
    by_cases hkn : k = h.next
    · subst hkn; rw [hgn] at hk; cases hk; exact hro
    · rw [hgo k hkn] at hk; exact s.ro k o' hk
  refine ⟨σ', ⟨⟨?_, ?_, ?_, ?_, ?_, ?_⟩, mk.wf, hro'⟩, hle, mk.ext, hσn⟩
  · intro k o' q hk hl hq
    by_cases hkn : k = h.next
    · subst hkn
      rw [hgn] at hk; rw [hσn] at hq
      cases hk; cases hq
      exact ho.mono hle
    · rw [hgo k hkn] at hk; rw [hσo k hkn] at hq
      exact (hr.obj k o' q hk hl hq).mono hle
  · intro k hk
    have hk : h.next + 1 ≤ k := hk
    rw [hσo k (by omega)]; exact hr.fresh k (by omega)
  · intro k o' hk
    show k < h.next + 1
    by_cases hkn : k = h.next
    · omega
    · rw [hgo k hkn] at hk; have := hr.dom k o' hk; omega
  · intro k q hq
    by_cases hkn : k = h.next
    · subst hkn; rw [hσn] at hq; cases hq; exact hlt
    · rw [hσo k hkn] at hq; exact hr.inb k q hq
  · intro k k' o1 o2 q q' h1 _ hown
    rw [hro' k o1 h1] at hown; cases hown
  · intro g hg
    obtain ⟨q, h1, h2⟩ := hr.glob g hg
    exact ⟨q, hle _ _ h1, h2⟩
/-- cells of the world, laid into HL's memory as some datum -/
def Lift (P : Program) (W : World) {α : Type} (cells : α → List HVal) (Ok : Heap → α → Prop) (cs : List Value) : Prop :=
  ∀ σ h, LS P W σ h → ∃ σ' h' a, LS P W σ' h' ∧ σ.le σ' ∧ Grow h h' ∧ VRels σ' (cells a) cs ∧ (∀ x ∈ cells a, x.scalar = true) ∧ Ok h' a
def Stays {α : Type} (Ok : Heap → α → Prop) : Prop := ∀ h h' a, Grow h h' → Ok h a → Ok h' a
theorem Lift.here {α : Type} {cells : α → List HVal} {Ok : Heap → α → Prop} {cs : List Value} (a : α) (hv : ∀ σ, VRels σ (cells a) cs) (hs : ∀ x ∈ cells a, x.scalar = true) (hok : ∀ h, Ok h a) : Lift P W cells Ok cs :=
  fun σ h s => ⟨σ, h, a, s, σ.le_refl, Grow.refl h, hv σ, hs, hok h⟩
theorem Lift.conv {α β : Type} {cells : α → List HVal} {Ok : Heap → α → Prop} {cells' : β → List HVal} {Ok' : Heap → β → Prop} {cs : List Value} (l : Lift P W cells Ok cs) (g : α → β) (hc : ∀ a, cells' (g a) = cells a) (ho : ∀ h a, Ok h a → Ok' h (g a)) : Lift P W cells' Ok' cs := by
  intro σ h s
  obtain ⟨σ', h', a, s', hle, hg, hv, hs, hok⟩ := l σ h s
  exact ⟨σ', h', g a, s', hle, hg, by rw [hc]; exact hv, by rw [hc]; exact hs, ho _ _ hok⟩
theorem Lift.pair {α β : Type} {ca : α → List HVal} {Oa : Heap → α → Prop} {cb : β → List HVal} {Ob : Heap → β → Prop} {cs ds : List Value} (ha : Stays Oa) (l : Lift P W ca Oa cs) (m : Lift P W cb Ob ds) :
    Lift P W (fun p : α × β => ca p.1 ++ cb p.2) (fun h p => Oa h p.1 ∧ Ob h p.2) (cs ++ ds) := by
  intro σ h s
  obtain ⟨σ1, h1, a, s1, hle1, hg1, hv1, hs1, hok1⟩ := l σ h s
  obtain ⟨σ2, h2, b, s2, hle2, hg2, hv2, hs2, hok2⟩ := m σ1 h1 s1
  refine ⟨σ2, h2, (a, b), s2, Places.le_trans hle1 hle2, hg1.trans hg2, VRels.append (VRels.mono hle2 hv1) hv2, fun x hx => ?_, ha _ _ _ hg2 hok1, hok2⟩
  rcases List.mem_append.1 hx with hx | hx
  · exact hs1 x hx
  · exact hs2 x hx
theorem Lift.list {α : Type} {cells : α → List HVal} {Ok : Heap → α → Prop} (hst : Stays Ok) : ∀ {css : List (List Value)}, (∀ cs ∈ css, Lift P W cells Ok cs) → Lift P W (fun as : List α => as.flatMap cells) (fun h as => as.length = css.length ∧ ∀ a ∈ as, Ok h a) css.flatten
  | [], _ => .here [] (fun σ => VRels.nil) (fun x hx => by simp at hx) (fun h => ⟨rfl, fun a ha => by cases ha⟩)
  | cs :: css, hl => by
    have h1 := hl cs (by simp)
    have h2 := Lift.list hst (css := css) fun c hc => hl c (by simp [hc])
    refine (h1.pair hst h2).conv (fun p => p.1 :: p.2) (fun p => by simp) fun h p ⟨o1, o2, o3⟩ => ⟨by simp [o2], fun a ha => ?_⟩
    rcases List.mem_cons.1 ha with rfl | ha
    · exact o1
    · exact o3 a ha
/-! ## Slices -/
theorem flatMap_row {α : Type} {cells : α → List HVal} {w : Nat} (hw : ∀ a, (cells a).length = w) : ∀ {as : List α} {i : Nat} {r : List HVal}, (as.map cells)[i]? = some r → ((as.flatMap cells).drop (i * w)).take r.length = r
  | [], _, _, h => by simp at h
  | a :: as, 0, r, h => by
    simp only [List.map_cons, List.getElem?_cons_zero] at h
    cases h
    simp
  | a :: as, i + 1, r, h => by
    have h' : (as.map cells)[i]? = some r := by simpa using h
    have := flatMap_row hw h'
    have e : (cells a ++ as.flatMap cells).drop w = as.flatMap cells := by rw [← hw a, List.drop_left]
    rw [List.flatMap_cons, Nat.add_mul, Nat.one_mul, Nat.add_comm, ← List.drop_drop, e]
    exact this
theorem cellsOf_flatten {w off : Nat} {L : List Value} {CS : Nat → List Value} : ∀ {n : Nat}, (∀ i, i < n → (CS i).length = w ∧ ∀ j, j < w → L[off + i * w + j]? = (CS i)[j]?) → ((List.range n).map CS).flatten = (L.drop off).take (n * w)
  | 0, _ => by simp
  | n + 1, h => by
    have ih := cellsOf_flatten (n := n) fun i hi => h i (by omega)
    obtain ⟨h1, h2⟩ := h n (by omega)
    rw [List.range_succ, List.map_append, List.flatten_append, ih, Nat.add_mul, Nat.one_mul, List.take_add]
    congr 1
    simp only [List.map_cons, List.map_nil, List.flatten_cons, List.flatten_nil, List.append_nil]
    apply List.ext_getElem?
    intro j
    rw [List.getElem?_take]
    split
    · rename_i hj
      rw [List.drop_drop, List.getElem?_drop, ← h2 j hj]
    · rename_i hj
      rw [List.getElem?_eq_none (by omega)]
theorem addr_adds (a : Addr) (n : Nat) : (a.add n).block = a.block ∧ (a.add n).off = a.off + n ∧ (a.spot = none → (a.add n).spot = none) := by
  unfold Addr.add
  split
  · rename_i h; subst h; exact ⟨rfl, rfl, fun e => e⟩
  · exact ⟨rfl, rfl, fun _ => rfl⟩
/-- no part of a datum is larger than memory can be -/
def Sz {H : Type} (P : Program) (t : Nat) (d : DataW H) : Prop := ∀ n ∈ DataW.weights P t d, n ≤ reachBytes
theorem weightsAll_mem {H : Type} {e : Nat} : ∀ {l : List (DataW H)} {d : DataW H} {n : Nat}, d ∈ l → n ∈ DataW.weights P e d → n ∈ DataW.weightsAll P e l
  | _ :: l, d, n, hd, hn => by
    rw [DataW.weightsAll, List.mem_append]
    rcases List.mem_cons.1 hd with rfl | hd
    · exact .inl hn
    · exact .inr (weightsAll_mem hd hn)
theorem weightsEach_mem {H : Type} : ∀ {ts : List Nat} {l : List (DataW H)} {i : Nat} {t : Nat} {d : DataW H} {n : Nat}, ts[i]? = some t → l[i]? = some d → n ∈ DataW.weights P t d → n ∈ DataW.weightsEach P ts l
  | t :: ts, d :: l, 0, _, _, n, ht, hd, hn => by
    simp only [List.getElem?_cons_zero, Option.some.injEq] at ht hd
    subst ht hd
    rw [DataW.weightsEach, List.mem_append]
    exact .inl hn
  | t :: ts, d :: l, i + 1, _, _, n, ht, hd, hn => by
    rw [DataW.weightsEach, List.mem_append]
    exact .inr (weightsEach_mem (by simpa using ht) (by simpa using hd) hn)
  | [], _, _, _, _, _, ht, _, _ => by simp at ht
  | _ :: _, [], _, _, _, _, _, hd, _ => by simp at hd
theorem sz_slice {H : Type} {t e : Nat} {es sp : List (DataW H)} (ht : P.underlying t = some (.slice e)) (h : Sz P t (.slice es sp)) : (es.length + sp.length) * P.bytesOf e ≤ reachBytes ∧ ∀ d ∈ es, Sz P e d := by
  have e1 : DataW.weights P t (.slice es sp) = (es.length + sp.length) * P.bytesOf e :: (DataW.weightsAll P e es ++ DataW.weightsAll P e sp) := by rw [DataW.weights, ht]
  refine ⟨h _ (by rw [e1]; simp), fun d hd n hn => h n ?_⟩
  rw [e1]
  exact List.mem_cons_of_mem _ (List.mem_append_left _ (weightsAll_mem hd hn))
theorem sz_struct {H : Type} {t : Nat} {fs : Array Field} {parts : List (DataW H)} (ht : P.underlying t = some (.struct fs)) (h : Sz P t (.agg parts)) {i : Nat} {f : Field} {d : DataW H} (hf : fs[i]? = some f) (hd : parts[i]? = some d) : Sz P f.type d := by
  have e1 : DataW.weights P t (.agg parts) = DataW.weightsEach P (fs.toList.map (·.type)) parts := by rw [DataW.weights, ht]
  intro n hn
  refine h n ?_
  rw [e1]
  exact weightsEach_mem (i := i) (by simp [hf]) hd hn
theorem lift_slice {H : Type} {enc : TypeId × Value → H} {α : Type} {cells : α → List HVal} {Ok : Heap → α → Prop} {t e w : Nat} (ht : P.underlying t = some (.slice e)) (hw : P.cellsOf e = w) (hw0 : 0 < w) (hcells : ∀ a, (cells a).length = w) (hst : Stays Ok)
    (hby : 0 < P.bytesOf e) (helem : ∀ n cs x, DataW.trod enc P W 0 (fun _ => true) true n e cs = some x → Sz P e x.1 → Lift P W cells Ok cs) {fuel : Nat} {cs : List Value} {x : DataW H × List MemPlace} (hd : DataW.trod enc P W 0 (fun _ => true) true fuel t cs = some x) (hsz : Sz P t x.1) :
    Lift P W (fun p : List α × HVal => [p.2]) (fun h p => SliceAt h p.2 w (p.1.map cells) ∧ p.1.length ≤ 1152921504606846976 ∧ Loose p.2 ∧ ∀ a ∈ p.1, Ok h a) cs := by
  rcases open_slice ht hd with ⟨rfl, _⟩ | ⟨a, len, cap, m, n, D, Pl, rfl, hb, hl, hm, hmm, hxe, hx⟩
  · exact .here ([], .nils) (fun σ => VRels.cons rfl VRels.nil) (fun x hx => by simp at hx; subst hx; rfl) fun h => ⟨sliceAt_nils, by simp, .nils, fun a ha => by cases ha⟩
  · have hmc : m = cap := by simpa using hmm
    subst hmc
    rw [hxe] at hsz
    obtain ⟨hz1, hz2⟩ := sz_slice ht hsz
    by_cases hl0 : len = 0
    · subst hl0
      refine .here ([], .empty) (fun σ => VRels.cons ⟨a, m, rfl⟩ VRels.nil) (fun x hx => by simp at hx; subst hx; rfl) fun h => ⟨⟨rfl, fun i r hr => by simp at hr⟩, by simp, .empty, fun a ha => by cases ha⟩
    · rw [hw] at hx
      obtain ⟨CS, hCS⟩ := choose_lt (α := List Value) (p := fun i c => W.cells? 0 (a.add (i * w)) w = some c ∧ DataW.trod enc P W 0 (fun _ => true) true n e c = some (D i, Pl i)) (n := len) (fun i hi => hx i (by omega))
      -- the block
      have h0 := World.cells?_some (hCS 0 (by omega)).1
      have hc0 : ∃ v, W.cell? ((a.add (0 * w)).add 0) = some v := by
        rw [h0.2.2 0 hw0]
        exact ⟨_, List.getElem?_eq_getElem (by rw [h0.2.1]; exact hw0)⟩
      have ha0 : (a.add (0 * w)).add 0 = a := by simp [Addr.add]
      rw [ha0] at hc0
      obtain ⟨v0, hv0⟩ := hc0
      have hblk : ∃ C el fr, W.heap[a.block]? = some (.cells C el fr) ∧ a.spot = none := by
        unfold World.cell? at hv0
        split at hv0
        · rename_i C el fr hC
          refine ⟨C, el, fr, hC, ?_⟩
          cases hs : a.spot with
          | none => rfl
          | some s => rw [hs] at hv0; simp at hv0
        · cases hv0
      obtain ⟨C, el, fr, hC, hsp⟩ := hblk
      have hrows : ∀ i, i < len → (CS i).length = w ∧ ∀ j, j < w → C.toList[a.off + i * w + j]? = (CS i)[j]? := by
        intro i hi
        obtain ⟨_, h1, h2⟩ := World.cells?_some (hCS i hi).1
        refine ⟨h1, fun j hj => ?_⟩
        rw [← h2 j hj]
        obtain ⟨b1, b2, b3⟩ := addr_adds a (i * w)
        obtain ⟨c1, c2, c3⟩ := addr_adds (a.add (i * w)) j
        unfold World.cell?
        rw [c1, b1, hC]
        simp only [c3 (b3 hsp), Option.isSome_none, Bool.false_eq_true, if_false, c2, b2]
        simp
      have hflat := cellsOf_flatten hrows
      have hll := Lift.list (P := P) (W := W) (cells := cells) hst (css := (List.range len).map CS) (by
        intro c hc
        obtain ⟨i, hi, rfl⟩ := List.mem_map.1 hc
        exact helem _ _ _ (hCS i (List.mem_range.1 hi)).2 (hz2 _ (List.mem_map_of_mem hi)))
      intro σ h s
      obtain ⟨σ1, h1, as, s1, hle1, hg1, hv1, hs1, hlen, hok⟩ := hll σ h s
      simp only [List.length_map, List.length_range] at hlen
      have hal : (as.flatMap cells).length = len * w := by
        rw [← hlen]
        clear hv1 hs1 hok hlen
        induction as with
        | nil => simp
        | cons b as ih => rw [List.flatMap_cons, List.length_append, ih, hcells, List.length_cons, Nat.add_mul]; omega
      have hlt : a.block < W.heap.size := (Array.getElem?_eq_some_iff.1 hC).1
      have hor : ORel P σ1 ⟨a.block, a.off, 0, 0⟩ (.cells (as.flatMap cells) 0 true false) W.heap[a.block]? := by
        refine ⟨C, el, fr, hC, ?_, hs1, fun e => absurd rfl e, (fun e => by cases e), (fun e => by cases e), (fun _ e => by cases e), .inl rfl⟩
        show VRels σ1 (as.flatMap cells) ((C.toList.drop a.off).take (as.flatMap cells).length)
        rw [hal, ← hflat]; exact hv1
      obtain ⟨σ2, s2, hle2, hg2, hp⟩ := s1.new hor rfl hlt
      have hget : (h1.new (.cells (as.flatMap cells) 0 true false)).get h1.next = some (.cells (as.flatMap cells) 0 true false) := by simp
      refine ⟨σ2, _, (as, .slice h1.next 0 len none), s2, Places.le_trans hle1 hle2, hg1.trans hg2, VRels.cons ⟨_, m, hp, ?_, hl, .inl rfl⟩ VRels.nil, fun x hx => by simp at hx; subst hx; rfl, ⟨?_, fun i r hr => ?_⟩, ?_, .slice _ _ _, fun b hb => hst _ _ _ hg2 (hok b hb)⟩
      · obtain ⟨bk, of, sp⟩ := a
        simp only at hsp
        subst hsp
        rfl
      · show some len = some (as.map cells).length
        rw [List.length_map, hlen]
      · refine ⟨h1.next, 0, none, by rw [List.length_map, hlen], row_of hget ?_⟩
        simp only [Nat.add_eq, Nat.mul_eq, Nat.zero_add]
        exact flatMap_row hcells hr
      · rw [hlen]
        simp only [List.length_map, List.length_range] at hz1
        have h1 : len + (m - len) ≤ (len + (m - len)) * P.bytesOf e := Nat.le_mul_of_pos_right _ hby
        have : reachBytes ≤ 1152921504606846976 := by decide
        omega
theorem lift_int {H : Type} {enc : TypeId × Value → H} {t : Nat} {k : IntKind} (ht : P.underlying t = some (.int k)) {fuel : Nat} {cs : List Value} {x : DataW H × List MemPlace} (hd : DataW.trod enc P W 0 (fun _ => true) true fuel t cs = some x) : Lift P W (fun a : Int => [HVal.int k a]) (fun _ a => (Lit.int k a).wf = true) cs := by
  obtain ⟨n, rfl, _, hwf⟩ := DataW.trod_int ht hd
  exact .here n (fun σ => VRels.cons rfl VRels.nil) (fun x hx => by simp at hx; subst hx; rfl) fun _ => hwf
theorem lift_bool {H : Type} {enc : TypeId × Value → H} {t : Nat} (ht : P.underlying t = some .bool) {fuel : Nat} {cs : List Value} {x : DataW H × List MemPlace} (hd : DataW.trod enc P W 0 (fun _ => true) true fuel t cs = some x) : Lift P W (fun a : Bool => [HVal.bool a]) (fun _ _ => True) cs := by
  obtain ⟨b, rfl, _⟩ := DataW.trod_bool ht hd
  exact .here b (fun σ => VRels.cons rfl VRels.nil) (fun x hx => by simp at hx; subst hx; rfl) fun _ => trivial
theorem codeOf_none {l : List UInt8} (h : l.length = 0) : codeOf l = 0 := by
  cases l with
  | nil => rfl
  | cons a l => simp at h
theorem lift_string {H : Type} {enc : TypeId × Value → H} {t : Nat} (ht : P.underlying t = some .string) {fuel : Nat} {cs : List Value} {x : DataW H × List MemPlace} (hd : DataW.trod enc P W 0 (fun _ => true) true fuel t cs = some x) (hsz : Sz P t x.1) : Lift P W (fun a : Nat × Nat => [HVal.str a.1 a.2]) (fun _ a => a.1 ≤ 1152921504606846976 ∧ (0 < a.1 ∨ a.2 = 0)) cs := by
  obtain ⟨s, rfl, hx, hs⟩ := DataW.trod_string ht hd
  refine .here (s.size, codeOf s.data.toList) (fun σ => VRels.cons ⟨s, rfl, rfl, rfl⟩ VRels.nil) (fun x hx => by simp at hx; subst hx; rfl) fun _ => ⟨?_, ?_⟩
  · have : reachBytes ≤ 1152921504606846976 := by decide
    rw [hx] at hsz
    have := hsz s.data.toList.length (by show _ ∈ DataW.weights P t (.lit (.string s.data.toList)); rw [DataW.weights]; simp)
    have e : s.size = s.data.toList.length := by rw [Array.length_toList]; rfl
    show s.size ≤ _
    omega
  · by_cases h0 : s.size = 0
    · exact .inr (codeOf_none (by rw [Array.length_toList]; exact h0))
    · exact .inl (by show 0 < s.size; omega)
end
end
end Go.HL
