/- HL: regions whose order is open: plans, courses. No statement of the seat stands here. -/
import Derived.Test.YtolkehkjhpnioaaGreatDoorHlD
namespace Go.HL
open Go
def Ext (h h' : Heap) : Prop := ∀ k o, h.get k = some o → h'.get k = some o
theorem Ext.refl (h : Heap) : Ext h h := fun _ _ e => e
theorem Ext.trans {a b c : Heap} (x : Ext a b) (y : Ext b c) : Ext a c := fun k o e => y k o (x k o e)
def Always : Heap → Heap → Prop := fun _ _ => True
def Looks (R : Heap → Heap → Prop) (f : Heap → Option Out) : Prop := ∀ h out, f h = some out → ∃ x, out = .val x h ∧ ∀ h', R h h' → f h' = some (.val x h')
def Mono {α : Type} (R : Heap → Heap → Prop) (g : Heap → Option α) : Prop := ∀ h a, g h = some a → ∀ h', R h h' → g h' = some a
section
variable {R : Heap → Heap → Prop} {α β : Type}
theorem Looks.none : Looks R fun _ => none := fun _ _ e => by cases e
theorem Looks.val (x : HVal) : Looks R fun h => some (.val x h) := fun h out e => by cases e; exact ⟨x, rfl, fun _ _ => rfl⟩
theorem Looks.val' {g : Heap → Option HVal} (m : Mono R g) : Looks R fun h => Go.HL.val h (g h) := fun h out e => by
 obtain ⟨v, hv, rfl⟩ := val_inv e
 exact ⟨v, rfl, fun h' hh => by simp only [m h v hv h' hh]; rfl⟩
theorem Looks.ob {o : Option α} {f : α → Heap → Option Out} (m : ∀ a, Looks R (f a)) : Looks R fun h => Go.HL.ob o fun a => f a h := by
 cases o with
 | none => exact Looks.none
 | some a => exact m a
theorem Looks.obM {o : Heap → Option α} {f : α → Heap → Option Out} (mo : Mono R o) (m : ∀ a, Looks R (f a)) : Looks R fun h => Go.HL.ob (o h) fun a => f a h := fun h out e => by
 obtain ⟨a, ha, e⟩ := ob_eq_some.1 e
 obtain ⟨x, rfl, hx⟩ := m a h out e
 exact ⟨x, rfl, fun h' hh => by simp only [mo h a ha h' hh, obS]; exact hx h' hh⟩
theorem Looks.ite {b : Bool} {f g : Heap → Option Out} (mf : Looks R f) (mg : Looks R g) : Looks R fun h => bcase b (f h) (g h) := by
 cases b with
 | true => exact mf
 | false => exact mg
theorem Mono.const (o : Option α) : Mono R fun _ => o := fun _ _ e _ _ => e
theorem Mono.obM {o : Heap → Option α} {f : α → Heap → Option β} (mo : Mono R o) (m : ∀ a, Mono R (f a)) : Mono R fun h => Go.HL.ob (o h) fun a => f a h := fun h b e h' hh => by
 obtain ⟨a, ha, e⟩ := ob_eq_some.1 e
 simp only [mo h a ha h' hh, obS]
 exact m a h b e h' hh
theorem Mono.ite {b : Bool} {f g : Heap → Option α} (mf : Mono R f) (mg : Mono R g) : Mono R fun h => bcase b (f h) (g h) := by
 cases b with
 | true => exact mf
 | false => exact mg
theorem mono_cells (k : Nat) : Mono Ext fun h => h.cells k := fun h a e h' hh => by
 unfold Heap.cells at e ⊢
 obtain ⟨b, hb, e⟩ := ob_eq_some.1 e
 show ob (h'.get k) _ = some a
 rw [hh k b hb]; exact e
theorem mono_entries (k : Nat) : Mono Ext fun h => h.entries k := fun h a e h' hh => by
 unfold Heap.entries at e ⊢
 obtain ⟨b, hb, e⟩ := ob_eq_some.1 e
 show ob (h'.get k) _ = some a
 rw [hh k b hb]; exact e
theorem mono_loadN (k off n : Nat) : Mono Ext fun h => loadN h k off n := Mono.obM (mono_cells k) fun _ => Mono.const _
theorem mono_load1 (k off : Nat) : Mono Ext fun h => load1 h k off := Mono.obM (mono_cells k) fun _ => Mono.const _
theorem mono_loadT (P : Program) (t : TypeId) (k off : Nat) : Mono Ext fun h => loadT P h t k off := by
 unfold loadT
 exact Mono.obM (Mono.const _) fun b => Mono.ite (Mono.obM (mono_loadN _ _ _) fun _ => Mono.const _) (mono_load1 _ _)
end
theorem room_mono {P : Program} {h h' : Heap} (hh : Ext h h') {k off n e : Nat} (hr : roomFor P h k off n e = true) : roomFor P h' k off n e = true := by
 unfold roomFor at hr ⊢
 cases ho : h.cells k with
 | none => rw [ho] at hr; cases hr
 | some o =>
  rw [ho] at hr
  have h2 : h'.cells k = some o := mono_cells k h o ho h' hh
  rw [h2]
  exact hr
theorem mono_top (P : Program) (k off len e : Nat) (hi : Option HVal) : Mono Ext fun h => boundO hi (topH P h k off len e hi) len := by
 intro h a ea h' hh
 cases hi with
 | none => exact ea
 | some v =>
  simp only [topH] at ea ⊢
  cases hn : v.isNat with
  | none => simp only [hn] at ea ⊢; exact ea
  | some n =>
   simp only [hn] at ea ⊢
   cases hl : Nat.ble n len with
   | true => rw [hl] at ea; exact ea
   | false =>
    rw [hl] at ea
    simp only [bcF] at ea ⊢
    cases hr : roomFor P h k off n e with
    | true => rw [room_mono hh hr]; rw [hr] at ea; exact ea
    | false =>
     rw [hr] at ea
     simp only [bcF, boundO, boundH, hn, obS, hl] at ea
     cases ea
section
variable {P : Program} {R : Heap → Heap → Prop}
theorem looks_conv_pure {s d : TypeId} {x : HVal} (hs : (∃ k, P.underlying s = some (.int k)) ∨ P.underlying s = some .string) : Looks R fun h => convH P s d x h := by
 unfold convH
 cases hd : P.underlying d with
 | none => exact Looks.none
 | some dd =>
  cases dd <;> first | exact Looks.none | skip
  case int k => exact Looks.ob fun _ => Looks.ob fun n => Looks.val _
  case string =>
   rcases hs with ⟨k, hs⟩ | hs
   ·rw [hs]; exact Looks.none
   ·rw [hs]; cases x <;> first | exact Looks.none | exact Looks.val _
  case unsafePointer =>
   rcases hs with ⟨k, hs⟩ | hs
   ·rw [hs]; exact Looks.none
   ·rw [hs]; exact Looks.none
  case pointer u =>
   rcases hs with ⟨k, hs⟩ | hs
   ·rw [hs]; exact Looks.none
   ·rw [hs]; exact Looks.none
theorem looks_conv {s d : TypeId} {x : HVal} : Looks Ext fun h => convH P s d x h := by
 unfold convH
 cases hd : P.underlying d with
 | none => exact Looks.none
 | some dd =>
  cases dd <;> first | exact Looks.none | skip
  case int k => exact Looks.ob fun _ => Looks.ob fun n => Looks.val _
  case string =>
   cases hs : P.underlying s with
   | none => exact Looks.none
   | some ds =>
    cases ds <;> first | exact Looks.none | skip
    case string => cases x <;> first | exact Looks.none | exact Looks.val _
    case slice e =>
     simp only
     cases he : P.underlying e with
     | none => exact Looks.none
     | some de =>
      cases de <;> first | exact Looks.none | skip
      case int k =>
       cases k <;> first | exact Looks.none | skip
       simp only
       cases x <;> first | exact Looks.none | exact Looks.val _ | skip
       exact Looks.obM (mono_loadN _ _ _) fun l => Looks.ob fun c => Looks.val _
  case unsafePointer =>
   cases hs : P.underlying s with
   | none => exact Looks.none
   | some ds =>
    cases ds <;> first | exact Looks.none | skip
    exact Looks.ob fun a => Looks.ite Looks.none (Looks.obM (mono_load1 _ _) fun _ => Looks.val _)
  case pointer u =>
   cases hs : P.underlying s with
   | none => exact Looks.none
   | some ds =>
    cases ds <;> first | exact Looks.none | skip
    exact Looks.ob fun a => Looks.obM (mono_cells _) fun o => Looks.ite Looks.none (Looks.ite Looks.none (Looks.ite Looks.none (Looks.ite (Looks.val _) Looks.none)))
theorem class_pure {ρ : Operand → HVal} {o : Oper} (hc : (classOf P o).no = 0) : Looks Always fun h => opH P ρ h o := by
 obtain ⟨dst, op, type, pos, after, guard⟩ := o
 cases op <;> simp only [opH] <;> simp only [classOf, Class.no, reduceCtorEq] at hc <;> try exact Looks.none
 all_goals try omega
 case move x => exact Looks.val _
 case assign x => exact Looks.val _
 case pick c a b => exact Looks.ob fun _ => Looks.val _
 case build t parts =>
  refine Looks.ob fun z => ?_
  cases hu : P.underlying t with
  | none => exact Looks.none
  | some d =>
   cases d <;> first | exact Looks.none | skip
   ·exact Looks.ob fun _ => Looks.ob fun _ => Looks.val _
   ·exact Looks.ite (Looks.ob fun _ => Looks.ob fun _ => Looks.val _) Looks.none
 case nilCheck x => cases ρ x <;> first | exact Looks.none | exact Looks.val _
 case binOp op t x y yt => exact Looks.val' (Mono.const _)
 case unOp op t x => exact Looks.val' (Mono.const _)
 case convert s d x =>
  cases ht : toBytes P s d with
  | some el => rw [ht] at hc; simp at hc
  | none =>
  rw [ht] at hc
  simp only
  refine looks_conv_pure ?_
  cases hs : P.underlying s with
  | none => rw [hs] at hc; simp at hc
  | some ds =>
   rw [hs] at hc
   cases ds <;> simp at hc
   ·exact .inl ⟨_, rfl⟩
   ·exact .inr rfl
 case makeInterface t x =>
  cases hu : P.underlying t with
  | none => exact Looks.none
  | some d => cases d <;> first | exact Looks.none | exact Looks.val _
 case makeFunc f first cap => cases f <;> first | exact Looks.none | exact Looks.val _
 case fieldAddr t x f =>
  cases hu : P.underlying t with
  | none => exact Looks.none
  | some d => cases d <;> first | exact Looks.none | exact Looks.ob fun _ => Looks.ob fun _ => Looks.ite Looks.none (Looks.val _)
 case field t x f =>
  cases hu : P.underlying t with
  | none => exact Looks.none
  | some d => cases d <;> first | exact Looks.none | exact Looks.ob fun _ => Looks.ob fun _ => Looks.val' (Mono.const _)
 case indexAddr t x i =>
  refine Looks.ite (Looks.ob fun i => ?_) Looks.none
  cases hu : P.underlying t with
  | none => exact Looks.none
  | some d =>
   cases d <;> first | exact Looks.none | skip
   ·simp only
    cases ρ x <;> first | exact Looks.none | exact Looks.ite (Looks.val _) Looks.none
   ·exact Looks.ob fun _ => Looks.ite (Looks.val _) Looks.none
 case index t x i =>
  refine Looks.ite (Looks.ob fun i => ?_) Looks.none
  cases hu : P.underlying t with
  | none => exact Looks.none
  | some d =>
   cases d <;> first | exact Looks.none | skip
   ·cases ρ x <;> first | exact Looks.none | exact Looks.ite (Looks.val _) Looks.none
   ·exact Looks.ob fun _ => Looks.ite (Looks.val' (Mono.const _)) Looks.none
 case typeAssert x xt asserted ok =>
  cases hu : P.underlying asserted with
  | none => exact Looks.none
  | some d =>
   have key : Looks Always (fun h => match ρ x with
    | .nili => bcase ok (ob (zeroH P asserted) fun z => some (.val (.tuple [z, .bool false]) h)) none
    | .iface t v => bcase (Nat.beq t asserted) (some (.val (bcase ok (.tuple [v, .bool true]) v) h))
      (bcase ok (ob (zeroH P asserted) fun z => some (.val (.tuple [z, .bool false]) h)) none)
    | _ => none) := by
    cases ρ x <;> first | exact Looks.none | skip
    ·exact Looks.ite (Looks.ob fun _ => Looks.val _) Looks.none
    ·exact Looks.ite (Looks.val _) (Looks.ite (Looks.ob fun _ => Looks.val _) Looks.none)
   cases d <;> first | exact Looks.none | exact key
 case extract x i => exact Looks.ob fun _ => Looks.val' (Mono.const _)
 case call c =>
  cases hcl : c.callee with
  | invoke r m => rw [hcl] at hc; simp at hc
  | value f => rw [hcl] at hc; simp at hc
  | builtin b =>
   rw [hcl] at hc
   simp only
   unfold builtinH
   cases b <;> simp at hc
   ·rcases c.args.toList.map ρ with _ | ⟨x, _ | ⟨y, _ | ⟨z, l⟩⟩⟩ <;> first | exact Looks.none | exact Looks.ob fun _ => Looks.ob fun _ => Looks.val _
   ·rcases c.args.toList.map ρ with _ | ⟨x, _ | ⟨y, _ | ⟨z, l⟩⟩⟩ <;> first | exact Looks.none | exact Looks.ob fun _ => Looks.ob fun _ => Looks.val _
theorem class_read {ρ : Operand → HVal} {o : Oper} (hc : (classOf P o).no = 1) : Looks Ext fun h => opH P ρ h o := by
 obtain ⟨dst, op, type, pos, after, guard⟩ := o
 cases op <;> simp only [opH] <;> simp only [classOf, Class.no, reduceCtorEq] at hc <;> try exact Looks.none
 all_goals try omega
 case load t a => exact Looks.ob fun a => Looks.val' (mono_loadT _ _ _ _)
 case convert s d x =>
  cases ht : toBytes P s d with
  | some el => rw [ht] at hc; simp at hc
  | none => exact looks_conv
 case slice t x lo hi mx =>
  refine Looks.ite (Looks.val' ?_) Looks.none
  unfold sliceH
  cases hu : P.underlying t with
  | none => exact Mono.const _
  | some d =>
   cases d <;> first | exact Mono.const _ | skip
   generalize ρ x = y
   cases y <;> first | exact Mono.const _ | skip
   generalize mx.map ρ = m
   cases m with
   | some m => exact Mono.const _
   | none =>
    rename_i k off len cap
    cases cap with
    | some c => exact Mono.const _
    | none =>
     exact Mono.obM (mono_top _ _ _ _ _ _) fun hb => Mono.obM (Mono.const _) fun l => Mono.ite (Mono.const _) (Mono.ite (Mono.obM (mono_cells _) fun o => Mono.const _) (Mono.ite (Mono.obM (mono_cells _) fun o => Mono.const _) (Mono.const _)))
 case lookup t x i ok =>
  unfold lookupH
  cases hu : P.underlying t with
  | none => exact Looks.none
  | some d =>
   cases d <;> first | exact Looks.none | skip
   refine Looks.ite (Looks.ite (Looks.ob fun z => ?_) Looks.none) Looks.none
   generalize ρ x = y
   cases y <;> first | exact Looks.none | exact Looks.val _ | skip
   refine Looks.obM (mono_entries _) fun es => Looks.ob fun r => ?_
   cases r <;> exact Looks.val _
 case call c =>
  cases hcl : c.callee with
  | invoke r m => rw [hcl] at hc; simp at hc
  | value f => rw [hcl] at hc; simp at hc
  | builtin b =>
   rw [hcl] at hc
   simp only
   unfold builtinH
   cases b <;> simp at hc
   rcases c.args.toList.map ρ with _ | ⟨x, _ | ⟨y, _ | ⟨z, l⟩⟩⟩ <;> first | exact Looks.none | skip
   simp only
   cases c.argTypes[0]? with
   | none => exact Looks.none
   | some t =>
    refine Looks.val' ?_
    unfold lenH
    cases hu : P.underlying t with
    | none => exact Mono.const _
    | some d =>
     cases d <;> first | exact Mono.const _ | skip
     cases x <;> first | exact Mono.const _ | skip
     exact Mono.obM (mono_entries _) fun _ => Mono.const _
/-! ## What makes -/
def MakeRel (P : Program) (σ : Places) (w : World) (mk : Nat → HVal) (obj : HObj) (q : Result Next) : Prop :=
 ∃ b v p, q = .ok (.value v) (w.alloc b) ∧ p.blk = w.heap.size ∧ ORel P σ p obj (some b) ∧ ∀ (τ : Places) k, τ k = some p → VRel τ (mk k) v
theorem cells_new {σ : Places} {w : World} {l : List HVal} {vs : List Value} (hl : VRels σ l vs) (hs : ∀ x ∈ l, x.scalar = true) (e : TypeId) :
  ORel P σ ⟨w.heap.size, 0, 0, vs.length⟩ (.cells l e false true) (some (.cells ⟨vs⟩ e)) := by
 refine ⟨⟨vs⟩, e, (0, 0), rfl, ?_, hs, fun _ => rfl, fun _ => ⟨rfl, by simp⟩, fun _ => ⟨rfl, by simp [hl.length]⟩, fun c => by simp at c, .inl rfl⟩
 rw [hl.length]
 simpa using hl
section
variable {σ : Places} {w : World}
theorem make_alloc {e : TypeId} {z : List HVal} (hz : zeroCells? P e = some z) :
  MakeRel P σ w (fun k => .ptr k 0) (.cells z e false true) ((do pure (Next.value (← Instr.alloc e true (.tuple #[])))).run P w) := by
 obtain ⟨i, v, hi, hv, h1, h2⟩ := zeroCells_rel (σ := σ) hz
 refine ⟨.cells ⟨v.cells.toList⟩ e, .pointer (some ⟨w.heap.size, 0, none⟩), _, ?_, rfl, cells_new (w := w) h1 h2 e, fun τ k hk => ⟨_, hk, rfl⟩⟩
 simp [Instr.alloc, zeroValue, typeInfo, hi, hv, newVar, newRow]
theorem make_box {ρ : Operand → HVal} {ev : Operand → Value} (hρ : ∀ x, VRel σ (ρ x) (ev x)) {e : TypeId} {x : Operand} {l : List HVal} (hl : (ρ x).cells = some l) :
  MakeRel P σ w (fun k => .ptr k 0) (.cells l e false true) ((do pure (Next.value (← Instr.box e (ev x)))).run P w) := by
 obtain ⟨h1, h2⟩ := (hρ x).cells hl
 refine ⟨.cells ⟨(ev x).cells.toList⟩ e, .pointer (some ⟨w.heap.size, 0, none⟩), _, ?_, rfl, cells_new (w := w) h1 h2 e, fun τ k hk => ⟨_, hk, rfl⟩⟩
 simp [Instr.box, newVar, newRow]
theorem make_buildSlice {ρ : Operand → HVal} {ev : Operand → Value} (hρ : ∀ x, VRel σ (ρ x) (ev x)) {t el : TypeId} {len : Nat} {parts : Array (Nat × Operand)} {z cs : List HVal} (hu : P.underlying t = some (.slice el)) (hn : len * P.cellsOf el ≤ 16777216)
  (hz : zeroCells? P el = some z) (hlen : z.length = P.cellsOf el) (e : fillH (parts.toList.map fun p => (Nat.mul p.1 (P.cellsOf el), P.cellsOf el, ρ p.2)) (repl len z) = some cs) :
  MakeRel P σ w (fun k => .slice k 0 len (some len)) (.cells cs el false true)
   ((do pure (Next.value (← Instr.buildSlice t len (parts.map fun (i, x) => (i, ev x))))).run P w) := by
 obtain ⟨i, v, hi, hv, h1, h2⟩ := zeroCells_rel (σ := σ) hz
 have hsz : P.cellsOf el = i.size := by simp [Program.cellsOf, hi]
 obtain ⟨C, h5, h6, h7⟩ := fillH_rel (σ := σ) (fun i => some (i * P.cellsOf el, P.cellsOf el)) _ (parts.toList.map fun p => (p.1, ev p.2)) (repl len z)
  ((Array.range (len * P.cellsOf el)).map fun i => v.cells[i % v.cells.size]!) cs (by simp)
  (fun j p q hp hq => by
   simp only [List.getElem?_map, Option.map_eq_some_iff] at hp hq
   obtain ⟨q', hq', rfl⟩ := hq
   obtain ⟨p', hp', rfl⟩ := hp
   rw [hq'] at hp'; cases hp'
   exact ⟨rfl, hρ _⟩) (repl_rel h1 len _ (by rw [hlen])) (repl_scalar h2) e
 refine ⟨.cells ⟨C.toList⟩ el, .slice (some ⟨w.heap.size, 0, none⟩) len len, _, ?_, rfl, cells_new (w := w) (vs := C.toList) h6 h7 el, fun τ k hk => ⟨_, len, hk, rfl, Nat.le_refl _, rfl⟩⟩
 have hn' : ¬ (2 ^ 24 < len * P.cellsOf el) := by omega
 simp only [Instr.buildSlice, Sem.run_bind, rU w hu, Result.andThen_ok, run_sizeOf' w hi, gt_iff_lt, hn', if_false, Sem.run_ite]
 by_cases h0 : len * P.cellsOf el = 0
 ·simp only [h0, if_true, Sem.run_pure, Result.andThen_ok]
  have hz0 : (Array.range 0).map (fun i => v.cells[i % v.cells.size]!) = (Array.range 0).map (fun i => (#[] : Array Value)[i % (#[] : Array Value).size]!) := by simp
  rw [h0, hz0] at h5
  simp only [Array.toList_map] at *
  rw [h5]
  simp [newRow]
 ·simp only [h0, if_false, Sem.run_bind, zeroValue, typeInfo, run_program, Result.andThen_ok, hi, hv, Sem.run_pure]
  simp only [Array.toList_map] at *
  rw [h5]
  simp [newRow]
theorem make_makeSlice {t el : TypeId} {l c : Nat} {k1 k2 : IntKind} {z : List HVal} (hu : P.underlying t = some (.slice el)) (hlc : l ≤ c) (hb : P.bytesOf el * c ≤ roomH) (hc : c ≤ roomH) (hz : zeroCells? P el = some z)
  (hzl : z.length = P.cellsOf el) :
  MakeRel P σ w (fun k => .slice k 0 l (some c)) (.cells (repl c z) el false true) ((do pure (Next.value (← Instr.makeSlice t (.int k1 (l : Int)) (.int k2 (c : Int))))).run P w) := by
 obtain ⟨i, v, hi, hv, h1, h2⟩ := zeroCells_rel (σ := σ) hz
 have hbytes : P.bytesOf el = i.bytes := by simp [Program.bytesOf, hi]
 have hsize : P.cellsOf el = i.size := by simp [Program.cellsOf, hi]
 unfold roomH at hb hc
 rw [hbytes] at hb
 have hrep := repl_rel h1 c (c * P.cellsOf el) (by rw [hzl])
 refine ⟨_, .slice (some ⟨w.heap.size, 0, none⟩) l c, _, ?_, rfl, cells_new (w := w) hrep (repl_scalar h2) el, fun τ k hk => ⟨_, c, hk, rfl, hlc, rfl⟩⟩
 have w1 : IntKind.i64.wrap (l : Int) = l := IntWalk.i64_in _ (by omega)
 have w2 : IntKind.i64.wrap (c : Int) = c := IntWalk.i64_in _ (by omega)
 have hbig : ¬ ((i.bytes : Int) * (c : Int) > 2 ^ 48) := by
  have : (i.bytes : Int) * (c : Int) = ((i.bytes * c : Nat) : Int) := by simp
  rw [this]; omega
 have hbig' : ¬ ((281474976710656 : Int) < (i.bytes : Int) * (c : Int)) := hbig
 have hneg : ¬ ((c : Int) < 0) := by omega
 have hneg2 : ¬ ((l : Int) < 0) := by omega
 have hlc' : ¬ ((l : Int) > (c : Int)) := by omega
 have hcl : ¬ (c < l) := by omega
 have hsz := run_sizeOf' (P := P) w hi
 have hzr : (zeroValue el).run P w = .ok v w := by simp [zeroValue, typeInfo, hi, hv]
 have hti : (typeInfo el).run P w = .ok i w := by simp [typeInfo, hi]
 by_cases h0 : c * P.cellsOf el = 0
 ·have hz0 : (Array.range 0).map (fun i => v.cells[i % v.cells.size]!) = #[] := by simp
  simp [Instr.makeSlice, rU w hu, asInt, asIntOf, hti, w1, w2, hbig', hneg, hneg2, hcl, hsz, h0, newRow]
  exact congrArg (fun C => w.alloc (Obj.cells C el)) (by apply Array.ext'; simp)
 ·simp [Instr.makeSlice, rU w hu, asInt, asIntOf, hti, w1, w2, hbig', hneg, hneg2, hcl, hsz, h0, hzr, newRow]
  exact congrArg (fun C => w.alloc (Obj.cells C el)) (by apply Array.ext'; simp)
theorem class_make {ρ : Operand → HVal} {o : Oper} (hc : (classOf P o).no = 2) {h : Heap} {out : Out} (e : opH P ρ h o = some out) :
  ∃ mk obj, out = .val (mk h.next) (h.new obj) ∧ ∀ (σ : Places) (w : World) (ev : Operand → Value), (∀ x, VRel σ (ρ x) (ev x)) → MakeRel P σ w mk obj ((execOp ev o).run P w) := by
 obtain ⟨dst, op, type, pos, after, guard⟩ := o
 cases op <;> simp only [opH] at e <;> simp only [classOf, Class.no, reduceCtorEq] at hc <;> try (cases e; done)
 all_goals try omega
 case alloc el =>
  obtain ⟨z, hz, e⟩ := ob_eq_some.1 e
  cases e
  exact ⟨fun k => .ptr k 0, _, rfl, fun σ w ev hρ => make_alloc hz⟩
 case box el x =>
  obtain ⟨l, hl, e⟩ := ob_eq_some.1 e
  cases e
  exact ⟨fun k => .ptr k 0, _, rfl, fun σ w ev hρ => make_box hρ hl⟩
 case buildSlice t len parts =>
  cases hu : P.underlying t with
  | none => simp [hu] at e
  | some d =>
   rw [hu] at e
   cases d <;> simp only at e <;> try (cases e; done)
   case slice el =>
    obtain ⟨hn, e⟩ := bcase_eq_some.1 e
    obtain ⟨z, hz, e⟩ := ob_eq_some.1 e
    obtain ⟨hzl, e⟩ := bcase_eq_some.1 e
    obtain ⟨cs, hcs, e⟩ := ob_eq_some.1 e
    cases e
    rw [nbeq] at hzl
    exact ⟨fun k => .slice k 0 len (some len), _, rfl, fun σ w ev hρ => make_buildSlice hρ hu (Nat.le_of_ble_eq_true hn) hz (by simpa using hzl) hcs⟩
 case makeMap t res =>
  cases hu : P.underlying t with
  | none => simp [hu] at e
  | some d =>
   rw [hu] at e
   cases d <;> simp only at e <;> try (cases e; done)
   case map kt et =>
    cases res with
    | none =>
     simp only at e
     cases e
     exact ⟨fun k => .map k, _, rfl, fun σ w ev hρ => ⟨.map #[] 0, .map (some w.heap.size), ⟨w.heap.size, 0, 0, 0⟩, rfl, rfl, ⟨#[], rfl, rfl⟩, fun τ k hk => ⟨_, hk, rfl⟩⟩⟩
    | some x =>
     simp only at e
     obtain ⟨n, hn, e⟩ := ob_eq_some.1 e
     cases e
     refine ⟨fun k => .map k, _, rfl, fun σ w ev hρ => ⟨.map #[] 0, .map (some w.heap.size), ⟨w.heap.size, 0, 0, 0⟩, ?_, rfl, ⟨#[], rfl, rfl⟩, fun τ k hk => ⟨_, hk, rfl⟩⟩⟩
     have hx := hρ x
     rw [isInt_inv hn] at hx
     have hx' : ev x = .int n.1 n.2 := hx
     refine run_val (s := Instr.makeMap t (some (ev x))) ?_
     rw [hx']
     simp [Instr.makeMap, rU w hu, asInt, asIntOf]
 case makeSlice t l c =>
  cases hu : P.underlying t with
  | none => simp [hu] at e
  | some d =>
   rw [hu] at e
   cases d <;> simp only at e <;> try (cases e; done)
   case slice el =>
    obtain ⟨l', hl, e1⟩ := ob_eq_some.1 e
    obtain ⟨c', hc', e2⟩ := ob_eq_some.1 e1
    obtain ⟨h1, e3⟩ := bcase_eq_some.1 e2
    obtain ⟨h2, e4⟩ := bcase_eq_some.1 e3
    obtain ⟨h3, e5⟩ := bcase_eq_some.1 e4
    obtain ⟨z, hz, e6⟩ := ob_eq_some.1 e5
    obtain ⟨hzl, e7⟩ := bcase_eq_some.1 e6
    clear e e1 e2 e3 e4 e5 e6
    cases e7
    obtain ⟨k1, hk1⟩ := isNat_inv hl
    obtain ⟨k2, hk2⟩ := isNat_inv hc'
    rw [nbeq] at hzl
    refine ⟨fun k => .slice k 0 l' (some c'), _, rfl, fun σ w ev hρ => ?_⟩
    have hx := hρ l
    have hy := hρ c
    rw [hk1] at hx
    rw [hk2] at hy
    have hx' : ev l = .int k1 (l' : Int) := hx
    have hy' : ev c = .int k2 (c' : Int) := hy
    have := make_makeSlice (P := P) (σ := σ) (w := w) (k1 := k1) (k2 := k2) hu (Nat.le_of_ble_eq_true h1) (Nat.le_of_ble_eq_true h2) (Nat.le_of_ble_eq_true h3) hz (by simpa using hzl)
    show MakeRel P σ w _ _ (((do pure (Next.value (← Instr.makeSlice t (ev l) (ev c)))) : Sem Next).run P w)
    rw [hx', hy']
    exact this
 case call c =>
  cases hcl : c.callee with
  | invoke r m => rw [hcl] at hc; simp at hc
  | value f => rw [hcl] at hc; simp at hc
  | builtin b => rw [hcl] at hc; cases b <;> simp at hc
 case convert s d x =>
  cases ht : toBytes P s d with
  | some el => rw [ht] at hc; simp at hc
  | none =>
   rw [ht] at hc
   cases hs : P.underlying s with
   | none => rw [hs] at hc; simp at hc
   | some ds => rw [hs] at hc; cases ds <;> simp at hc
end
end
end Go.HL
namespace Go.HL
open Go
theorem range_all {n : Nat} {f : Nat → Bool} : (List.range n).all f = true ↔ ∀ i, i < n → f i = true := by simp [List.all_eq_true]
/-! ## What an operation hangs on -/
theorem binds_any {m : Region.Mode} {e : Edge} (h : Region.binds .any e = true) : Region.binds m e = true := by
 unfold Region.binds at *
 split <;> simp_all
theorem bit_lor (a b i : Nat) : bit (a ||| b) i = (bit a i || bit b i) := by
 have key : ∀ m i, bit m i = m.testBit i := fun m i => by
  rw [Nat.testBit_eq_decide_div_mod_eq]
  show Nat.beq (m / 2 ^ i % 2) 1 = _
  rw [nbeq]
 rw [key, key, key, Nat.testBit_or]
theorem bit_pow (a i : Nat) : bit (2 ^ a) i = decide (a = i) := by
 have : bit (2 ^ a) i = (2 ^ a).testBit i := by
  rw [Nat.testBit_eq_decide_div_mod_eq]
  show Nat.beq (2 ^ a / 2 ^ i % 2) 1 = _
  rw [nbeq]
 rw [this, Nat.testBit_two_pow]
theorem bit_zero (i : Nat) : bit 0 i = false := by
 show Nat.beq (0 / 2 ^ i % 2) 1 = false
 rw [Nat.zero_div]; rfl
def Hangs (B : Array Nat) (l : List Edge) (i j : Nat) : Prop := ∃ e ∈ l, Region.binds .any e = true ∧ (j = e.on ∨ e.on < i ∧ bit (B.getD e.on 0) j = true)
theorem fold_bits (B : Array Nat) (j : Nat) : ∀ (l : List Edge) (s : Nat), bit (l.foldl (fun s e => if Region.binds .any e then s ||| 2 ^ e.on ||| B.getD e.on 0 else s) s) j = true →
  bit s j = true ∨ Hangs B l B.size j
 | [], s, h => .inl h
 | e :: l, s, h => by
  simp only [List.foldl_cons] at h
  rcases fold_bits B j l _ h with h1 | ⟨e', he', hb, hh⟩
  ·by_cases hb : Region.binds .any e = true
   ·simp only [hb, if_true] at h1
    rw [bit_lor, bit_lor, bit_pow] at h1
    simp only [Bool.or_eq_true, decide_eq_true_eq] at h1
    rcases h1 with (h1 | h1) | h1
    ·exact .inl h1
    ·exact .inr ⟨e, List.mem_cons_self .., hb, .inl h1.symm⟩
    ·refine .inr ⟨e, List.mem_cons_self .., hb, .inr ⟨?_, h1⟩⟩
     rcases Nat.lt_or_ge e.on B.size with hlt | hge
     ·exact hlt
     ·rw [Array.getD_eq_getD_getElem?, Array.getElem?_eq_none hge] at h1
      simp [bit_zero] at h1
   ·simp only [hb] at h1
    exact .inl h1
  ·exact .inr ⟨e', List.mem_cons_of_mem _ he', hb, hh⟩
theorem before_list (l : List Oper) : ∀ (pre : List Oper) (acc : Array Nat), acc.size = pre.length → (∀ i j, bit (acc.getD i 0) j = true → ∃ o, pre[i]? = some o ∧ Hangs acc o.after.toList i j) →
  ∀ i j, bit ((l.foldl (fun acc o => acc.push (o.after.foldl (fun s e => if Region.binds .any e then s ||| 2 ^ e.on ||| acc.getD e.on 0 else s) 0)) acc).getD i 0) j = true →
   ∃ o, (pre ++ l)[i]? = some o ∧ Hangs (l.foldl (fun acc o => acc.push (o.after.foldl (fun s e => if Region.binds .any e then s ||| 2 ^ e.on ||| acc.getD e.on 0 else s) 0)) acc) o.after.toList i j := by
 induction l with
 | nil => intro pre acc _ h i j hb; simpa using h i j hb
 | cons o l ih =>
  intro pre acc hsz h i j hb
  simp only [List.foldl_cons] at hb ⊢
  have := ih (pre ++ [o]) (acc.push (o.after.foldl (fun s e => if Region.binds .any e then s ||| 2 ^ e.on ||| acc.getD e.on 0 else s) 0)) (by simp [hsz]) ?_ i j hb
  ·simpa using this
  ·intro i j hb
   have hold : ∀ k, k < acc.size → (acc.push (o.after.foldl (fun s e => if Region.binds .any e then s ||| 2 ^ e.on ||| acc.getD e.on 0 else s) 0)).getD k 0 = acc.getD k 0 := by
    intro k hk
    rw [Array.getD_eq_getD_getElem?, Array.getD_eq_getD_getElem?, Array.getElem?_push, if_neg (by omega)]
   by_cases hi : i < acc.size
   ·rw [hold i hi] at hb
    obtain ⟨o', h1, e, h2, h3, h4⟩ := h i j hb
    refine ⟨o', by rw [List.getElem?_append_left (by omega)]; exact h1, e, h2, h3, ?_⟩
    rcases h4 with h4 | ⟨h4, h5⟩
    ·exact .inl h4
    ·exact .inr ⟨h4, by rw [hold _ (by omega)]; exact h5⟩
   ·by_cases hi2 : i = acc.size
    ·subst hi2
     have hnew : (acc.push (o.after.foldl (fun s e => if Region.binds .any e then s ||| 2 ^ e.on ||| acc.getD e.on 0 else s) 0)).getD acc.size 0 = o.after.foldl (fun s e => if Region.binds .any e then s ||| 2 ^ e.on ||| acc.getD e.on 0 else s) 0 := by
      rw [Array.getD_eq_getD_getElem?, Array.getElem?_push]; simp
     rw [hnew, ← Array.foldl_toList] at hb
     rcases fold_bits acc j _ 0 hb with h0 | ⟨e, h2, h3, h4⟩
     ·rw [bit_zero] at h0; cases h0
     ·refine ⟨o, by rw [hsz]; simp, e, h2, h3, ?_⟩
      rcases h4 with h4 | ⟨h4, h5⟩
      ·exact .inl h4
      ·exact .inr ⟨h4, by rw [hold _ h4]; exact h5⟩
    ·rw [Array.getD_eq_getD_getElem?, Array.getElem?_eq_none (by simp; omega)] at hb
     simp [bit_zero] at hb
theorem before_hangs (ops : Array Oper) {i j : Nat} (h : bit ((Region.before ops).getD i 0) j = true) : ∃ o, ops[i]? = some o ∧ Hangs (Region.before ops) o.after.toList i j := by
 unfold Region.before at h ⊢
 rw [← Array.foldl_toList] at h ⊢
 have := before_list ops.toList [] #[] rfl (fun i j hb => by simp [bit_zero] at hb) i j h
 simpa using this
theorem hang_closed {ops : Array Oper} {D : Nat → Prop} (hD : ∀ i o, ops[i]? = some o → D i → ∀ e ∈ o.after.toList, Region.binds .any e = true → D e.on) :
  ∀ (n i : Nat), i < n → ∀ j, D i → bit ((Region.before ops).getD i 0) j = true → D j := by
 intro n
 induction n with
 | zero => intro i h; omega
 | succ n ih =>
  intro i hi j hd hb
  obtain ⟨o, ho, e, he, hbe, h⟩ := before_hangs ops hb
  have := hD i o ho hd e he hbe
  rcases h with rfl | ⟨h1, h2⟩
  ·exact this
  ·exact ih e.on (by omega) j this h2
theorem ready_hangs {ops : Array Oper} {D : Nat → Prop} (hD : ∀ i o, ops[i]? = some o → D i → ∀ e ∈ o.after.toList, Region.binds .any e = true → D e.on) {i : Nat}
  (hi : ∀ o, ops[i]? = some o → ∀ e ∈ o.after.toList, Region.binds .any e = true → D e.on) {j : Nat} (hb : bit ((Region.before ops).getD i 0) j = true) : D j := by
 obtain ⟨o, ho, e, he, hbe, h⟩ := before_hangs ops hb
 have := hi o ho e he hbe
 rcases h with rfl | ⟨h1, h2⟩
 ·exact this
 ·exact hang_closed hD _ e.on (Nat.lt_succ_self _) j this h2
/-! ## Plans -/
section
variable {P : Program} {ops : Array Oper}
structure PairOk (P : Program) (ops : Array Oper) (i j : Nat) : Prop where
 ne : i ≠ j
 lin : bit ((Region.before ops).getD i 0) j = false
 fit : bit ((Region.before ops).getD j 0) i = false → ∀ a b, ops[i]? = some a → ops[j]? = some b → (isChange P a = true → isChange P b = false ∧ isMake P b = false) ∧ clash ops a b = false
theorem pairOk_inv {i j : Nat} (h : pairOk P ops (Region.before ops) i j = true) : PairOk P ops i j := by
 unfold pairOk at h
 simp only [bcE] at h
 split at h
 ·cases h
 ·rename_i h1
  split at h
  ·cases h
  ·rename_i h2
   refine ⟨by rw [nbeq] at h1; simpa using h1, by simpa using h2, fun h3 a b ha hb => ?_⟩
   simp only [h3, Bool.false_eq_true, if_false, ha, hb] at h
   cases hc : isChange P a <;> cases hcb : isChange P b <;> cases hm : isMake P b <;> cases hcl : clash ops a b <;> simp_all
theorem pairsOk_inv : ∀ {l : List Nat}, pairsOk P ops (Region.before ops) l = true → l.Pairwise (PairOk P ops) ∧ ∀ i ∈ l, oneOk ops i = true
 | [], _ => ⟨List.Pairwise.nil, by simp⟩
 | i :: l, h => by
  unfold pairsOk at h
  simp only [bcE] at h
  by_cases h1 : l.all (pairOk P ops (Region.before ops) i) = true
  ·by_cases h2 : oneOk ops i = true
   ·simp only [h1, h2, if_true] at h
    obtain ⟨g1, g2⟩ := pairsOk_inv h
    refine ⟨List.pairwise_cons.2 ⟨fun j hj => pairOk_inv (List.all_eq_true.1 h1 j hj), g1⟩, ?_⟩
    intro j hj
    rcases List.mem_cons.1 hj with rfl | hj
    ·exact h2
    ·exact g2 j hj
   ·simp [h2] at h
  ·simp only [Bool.not_eq_true] at h1
   simp [h1] at h
theorem edgesIn_inv {m : Region.Mode} {done : List Nat} : ∀ {l : List Edge}, edgesIn m done l = true → ∀ e ∈ l, Region.binds m e = true → e.on ∈ done
 | [], _, e, he => by simp at he
 | e :: l, h, e', he => by
  unfold edgesIn at h
  simp only [bcE] at h
  by_cases h1 : Region.binds m e = true
  ·simp only [h1, if_true] at h
   by_cases h2 : hasNat done e.on = true
   ·simp only [h2, if_true] at h
    rcases List.mem_cons.1 he with rfl | he
    ·exact fun _ => hasNat_iff.1 h2
    ·exact edgesIn_inv h e' he
   ·simp [h2] at h
  ·simp only [h1] at h
   rcases List.mem_cons.1 he with rfl | he
   ·exact fun hb => absurd hb h1
   ·exact edgesIn_inv h e' he
theorem chain_done {m : Region.Mode} {listed : Array Bool} (hs : listed.size = ops.size) (hr : Region.ready m ops listed = []) : ∀ (l done : List Nat), chainOk m ops l done = true →
  (∀ j ∈ done, listed.getD j false = true) → ∀ i, i < ops.size → listed.getD i false = true
 | [], done, h, hd, i, hi => by
  unfold chainOk at h
  exact hd i (hasNat_iff.1 (range_all.1 h i hi))
 | j :: l, done, h, hd, i, hi => by
  unfold chainOk at h
  cases ho : ops[j]? with
  | none => rw [ho] at h; cases h
  | some o =>
   rw [ho] at h
   simp only [bcE] at h
   by_cases h1 : edgesIn m done o.after.toList = true
   ·simp only [h1, if_true] at h
    have hj : j < ops.size := (Array.getElem?_eq_some_iff.1 ho).1
    refine chain_done hs hr l (j :: done) h ?_ i hi
    intro k hk
    rcases List.mem_cons.1 hk with rfl | hk
    ·cases hl : listed.getD k false with
     | true => rfl
     | false =>
      exfalso
      have hmem : k ∈ Region.ready m ops listed := by
       unfold Region.ready
       rw [List.mem_filter]
       refine ⟨List.mem_range.2 hj, ?_⟩
       have e1 : listed.getD k true = false := by
        rw [Array.getD_eq_getD_getElem?] at hl ⊢
        rw [Array.getElem?_eq_getElem (by omega)] at hl ⊢
        simpa using hl
       simp only [e1, Bool.not_false, Bool.true_and, ho, Option.map_some, Option.getD_some, Array.all_eq_true]
       intro x hx
       by_cases hb : Region.binds m o.after[x] = true
       ·have := hd _ (edgesIn_inv h1 o.after[x] (by simp) hb)
        simp [this, -Array.getD_eq_getD_getElem?]
       ·simp [hb]
      rw [hr] at hmem; simp at hmem
    ·exact hd k hk
   ·simp [h1] at h
theorem planOk_inv (h : planOk P ops = true) : (∀ m, ∃ L, chainOk m ops L [] = true) ∧ (∀ i, i < ops.size → i ∈ planOf P ops) ∧ (planOf P ops).Pairwise (PairOk P ops) ∧ ∀ i ∈ planOf P ops, oneOk ops i = true := by
 unfold planOk at h
 simp only [bcE] at h
 by_cases h1 : chainOk .any ops (orderOf .any ops) [] = true
 ·by_cases h2 : chainOk .text ops (orderOf .text ops) [] = true
  ·by_cases h3 : chainOk .gc ops (orderOf .gc ops) [] = true
   ·by_cases h4 : (List.range ops.size).all (hasNat (planOf P ops)) = true
    ·simp only [h1, h2, h3, h4, if_true] at h
     refine ⟨fun m => ?_, fun i hi => hasNat_iff.1 (range_all.1 h4 i hi), pairsOk_inv h⟩
     cases m
     ·exact ⟨_, h2⟩
     ·exact ⟨_, h3⟩
     ·exact ⟨_, h1⟩
    ·simp [h1, h2, h3, h4] at h
   ·simp [h1, h2, h3] at h
  ·simp [h1, h2] at h
 ·simp [h1] at h
end
end Go.HL
namespace Go.HL
open Go
section
variable {P : Program} {call : CallFn} {ops : Array Oper}
def Course (P : Program) (call : CallFn) (ops : Array Oper) (pl : List Nat) (S : Nat → St) (log : List LogE) : Prop :=
 ∀ p i, pl[p]? = some i → ∃ o, ops[i]? = some o ∧ operH P call ops o (S p) = some (.nrm, S (p + 1)) ∧
  (isChange P o = true → LogE.change i (S p).heap (S (p + 1)).heap ∈ log) ∧
  (isChange P o = false → isRead P o = true → ∃ d b, o.dst = some d ∧ wantedH ops o (S p).env = some b ∧ (b = true → LogE.read i o (S p).env ((S (p + 1)).env.get d) ∈ log))
def front (s : St) (S : Nat → St) : Nat → St
 | 0 => s
 | p + 1 => S p
theorem Course.cons {s : St} {S : Nat → St} {i : Nat} {pl : List Nat} {log : List LogE} {o : Oper} (ho : ops[i]? = some o) (h1 : operH P call ops o s = some (.nrm, S 0))
  (h2 : isChange P o = true → LogE.change i s.heap (S 0).heap ∈ log)
  (h3 : isChange P o = false → isRead P o = true → ∃ d b, o.dst = some d ∧ wantedH ops o s.env = some b ∧ (b = true → LogE.read i o s.env ((S 0).env.get d) ∈ log))
  (h : Course P call ops pl S log) : Course P call ops (i :: pl) (front s S) log := by
 intro p j hp
 cases p with
 | zero =>
  simp only [List.getElem?_cons_zero, Option.some.injEq] at hp
  subst hp
  exact ⟨o, ho, h1, h2, h3⟩
 | succ p => exact h p j (by simpa using hp)
theorem log_cases {w : Bool} {a e : LogE} {log : List LogE} (h : e ∈ log) : e ∈ bcase w (a :: log) log := by
 cases w
 ·exact h
 ·exact List.mem_cons_of_mem _ h
theorem course_dead {anc : Array Nat} (d : Nat × HVal × Heap) : ∀ (l : List Nat) (log : List LogE) (s : St) (q : List LogE × Dead × St), drawH P call ops anc l log (some d) s = some q →
  q.2.1 = some d ∧ (∀ e ∈ log, e ∈ q.1) ∧ ∃ S : Nat → St, S 0 = s ∧ S (l.filter fun j => !bit (anc.getD j 0) d.1).length = q.2.2 ∧ Course P call ops (l.filter fun j => !bit (anc.getD j 0) d.1) S q.1
 | [], log, s, q, h => by
  simp only [drawH, Option.some.injEq] at h
  subst h
  exact ⟨rfl, fun e he => he, fun _ => s, rfl, rfl, fun p i hp => by simp at hp⟩
 | i :: l, log, s, q, h => by
  simp only [drawH, isDead] at h
  cases hb : bit (anc.getD i 0) d.1 with
  | true =>
   rw [hb, bcT] at h
   simp only [List.filter_cons, hb, Bool.not_true, Bool.false_eq_true, if_false]
   exact course_dead d l log s q h
  | false =>
   rw [hb, bcF] at h
   obtain ⟨o, ho, h1⟩ := ob_eq_some.1 h
   obtain ⟨⟨ex, s'⟩, hr, h2⟩ := ob_eq_some.1 h1
   simp only [List.filter_cons, hb, Bool.not_false, if_true]
   cases ex <;> simp only at h2 <;> try (cases h2; done)
   cases hc : isChange P o with
   | true =>
    rw [hc, bcT] at h2
    obtain ⟨g1, g2, S, g3, g4, g5⟩ := course_dead d l _ s' q h2
    exact ⟨g1, fun e he => g2 e (List.mem_cons_of_mem _ he), front s S, rfl, g4, Course.cons ho (by rw [g3]; exact hr) (fun _ => by rw [g3]; exact g2 _ (List.mem_cons_self ..)) (fun hn => by rw [hc] at hn; cases hn) g5⟩
   | false =>
    rw [hc, bcF] at h2
    cases hrd : isRead P o with
    | true =>
     rw [hrd, bcT] at h2
     obtain ⟨dd, hd, h3⟩ := ob_eq_some.1 h2
     obtain ⟨b, hb', h4⟩ := ob_eq_some.1 h3
     obtain ⟨g1, g2, S, g3, g4, g5⟩ := course_dead d l _ s' q h4
     refine ⟨g1, fun e he => g2 e (log_cases he), front s S, rfl, g4, Course.cons ho (by rw [g3]; exact hr) (fun hn => by rw [hc] at hn; cases hn) (fun _ _ => ⟨dd, b, hd, hb', fun hbt => ?_⟩) g5⟩
     subst hbt
     rw [g3]; exact g2 _ (List.mem_cons_self ..)
    | false =>
     rw [hrd, bcF] at h2
     obtain ⟨g1, g2, S, g3, g4, g5⟩ := course_dead d l _ s' q h2
     exact ⟨g1, g2, front s S, rfl, g4, Course.cons ho (by rw [g3]; exact hr) (fun hn => by rw [hc] at hn; cases hn) (fun _ hn => by rw [hrd] at hn; cases hn) g5⟩
def Whole (P : Program) (call : CallFn) (ops : Array Oper) (anc : Array Nat) (l : List Nat) (s : St) (q : List LogE × Dead × St) : Prop :=
 (q.2.1 = none ∧ ∃ S : Nat → St, S 0 = s ∧ S l.length = q.2.2 ∧ Course P call ops l S q.1) ∨
 (∃ pre i post v h' o s', l = pre ++ i :: post ∧ q.2.1 = some (i, v, h') ∧ ops[i]? = some o ∧ isChange P o = true ∧ ∃ S : Nat → St, S 0 = s ∧
  S (pre ++ post.filter fun j => !bit (anc.getD j 0) i).length = q.2.2 ∧ operH P call ops o (S pre.length) = some (.pan v, s') ∧ s'.heap = h' ∧
  Course P call ops (pre ++ post.filter fun j => !bit (anc.getD j 0) i) S q.1)
theorem Whole.cons {anc : Array Nat} {i : Nat} {l : List Nat} {s s' : St} {q : List LogE × Dead × St} {o : Oper} (ho : ops[i]? = some o) (h1 : operH P call ops o s = some (.nrm, s'))
  (h2 : isChange P o = true → LogE.change i s.heap s'.heap ∈ q.1)
  (h3 : isChange P o = false → isRead P o = true → ∃ d b, o.dst = some d ∧ wantedH ops o s.env = some b ∧ (b = true → LogE.read i o s.env (s'.env.get d) ∈ q.1))
  (h : Whole P call ops anc l s' q) : Whole P call ops anc (i :: l) s q := by
 rcases h with ⟨g0, S, g1, g2, g3⟩ | ⟨pre, k, post, v, h', o', s'', rfl, g0, g1, g2, S, g3, g4, g5, g6, g7⟩
 ·subst g1
  exact .inl ⟨g0, front s S, rfl, g2, Course.cons ho h1 h2 h3 g3⟩
 ·subst g3
  exact .inr ⟨i :: pre, k, post, v, h', o', s'', rfl, g0, g1, g2, front s S, rfl, g4, g5, g6, Course.cons ho h1 h2 h3 g7⟩
theorem course_whole {anc : Array Nat} : ∀ (l : List Nat) (log : List LogE) (s : St) (q : List LogE × Dead × St), drawH P call ops anc l log none s = some q →
  (∀ e ∈ log, e ∈ q.1) ∧ Whole P call ops anc l s q
 | [], log, s, q, h => by
  simp only [drawH, Option.some.injEq] at h
  subst h
  exact ⟨fun e he => he, .inl ⟨rfl, fun _ => s, rfl, rfl, fun p i hp => by simp at hp⟩⟩
 | i :: l, log, s, q, h => by
  simp only [drawH, isDead, bcF] at h
  obtain ⟨o, ho, h1⟩ := ob_eq_some.1 h
  obtain ⟨⟨ex, s'⟩, hr, h2⟩ := ob_eq_some.1 h1
  cases ex <;> simp only at h2 <;> try (cases h2; done)
  ·cases hc : isChange P o with
   | true =>
    rw [hc, bcT] at h2
    obtain ⟨g1, g2⟩ := course_whole l _ s' q h2
    exact ⟨fun e he => g1 e (List.mem_cons_of_mem _ he), Whole.cons ho hr (fun _ => g1 _ (List.mem_cons_self ..)) (fun hn => by rw [hc] at hn; cases hn) g2⟩
   | false =>
    rw [hc, bcF] at h2
    cases hrd : isRead P o with
    | true =>
     rw [hrd, bcT] at h2
     obtain ⟨dd, hd, h3⟩ := ob_eq_some.1 h2
     obtain ⟨b, hb', h4⟩ := ob_eq_some.1 h3
     obtain ⟨g1, g2⟩ := course_whole l _ s' q h4
     refine ⟨fun e he => g1 e (log_cases he), Whole.cons ho hr (fun hn => by rw [hc] at hn; cases hn) (fun _ _ => ⟨dd, b, hd, hb', fun hbt => ?_⟩) g2⟩
     subst hbt
     exact g1 _ (List.mem_cons_self ..)
    | false =>
     rw [hrd, bcF] at h2
     obtain ⟨g1, g2⟩ := course_whole l _ s' q h2
     exact ⟨g1, Whole.cons ho hr (fun hn => by rw [hc] at hn; cases hn) (fun _ hn => by rw [hrd] at hn; cases hn) g2⟩
  ·obtain ⟨hc, h3⟩ := bcase_eq_some.1 h2
   rename_i v
   obtain ⟨g1, g2, S, g3, g4, g5⟩ := course_dead (i, v, s'.heap) l log s q h3
   exact ⟨g2, .inr ⟨[], i, l, v, s'.heap, o, s', rfl, g1, ho, hc, S, g3, g4, by rw [List.length_nil, g3]; exact hr, rfl, g5⟩⟩
/-! ## Reads -/
mutual
theorem beq_sound : ∀ a b : HVal, HVal.beq a b = true → a = b
 | .bool a, y, h => by cases y <;> simp_all [HVal.beq]
 | .int k a, y, h => by cases y <;> simp_all [HVal.beq]
 | .str n c, y, h => by cases y <;> simp_all [HVal.beq]
 | .nilp, y, h => by cases y <;> simp_all [HVal.beq]
 | .ptr k o, y, h => by cases y <;> simp_all [HVal.beq]
 | .nils, y, h => by cases y <;> simp_all [HVal.beq]
 | .slice k o l c, y, h => by cases y <;> simp_all [HVal.beq]
 | .nilm, y, h => by cases y <;> simp_all [HVal.beq]
 | .map k, y, h => by cases y <;> simp_all [HVal.beq]
 | .nilf, y, h => by cases y <;> simp_all [HVal.beq]
 | .func f a b, y, h => by
  cases y <;> simp only [HVal.beq, Bool.and_eq_true, Bool.false_eq_true] at h
  rw [Nat.eq_of_beq_eq_true h.1.1, beqL_sound a _ h.1.2, beqL_sound b _ h.2]
 | .nili, y, h => by cases y <;> simp_all [HVal.beq]
 | .iface t v, y, h => by
  cases y <;> simp only [HVal.beq, Bool.and_eq_true, Bool.false_eq_true] at h
  rw [Nat.eq_of_beq_eq_true h.1, beq_sound v _ h.2]
 | .agg a, y, h => by
  cases y <;> simp only [HVal.beq, Bool.false_eq_true] at h
  rw [beqL_sound a _ h]
 | .tuple a, y, h => by
  cases y <;> simp only [HVal.beq, Bool.false_eq_true] at h
  rw [beqL_sound a _ h]
 | .bad, y, h => by cases y <;> simp only [HVal.beq, Bool.false_eq_true] at h
 | .yield k, y, h => by cases y <;> simp_all [HVal.beq]
 | .mark k, y, h => by cases y <;> simp_all [HVal.beq]
 | .rng k lo hi, y, h => by cases y <;> simp_all [HVal.beq]
 | .empty, y, h => by cases y <;> simp_all [HVal.beq]
 | .rest k, y, h => by cases y <;> simp_all [HVal.beq]
theorem beqL_sound : ∀ a b : List HVal, beqL a b = true → a = b
 | [], m, h => by cases m <;> simp_all [beqL]
 | x :: l, m, h => by
  cases m with
  | nil => simp [beqL] at h
  | cons y m =>
   simp only [beqL, Bool.and_eq_true] at h
   rw [beq_sound x y h.1, beqL_sound l m h.2]
end
theorem readOk_inv {anc : Array Nat} {j : Nat} {o : Oper} {env : Env} {v : HVal} {e : Nat} {a b : Heap} : ∀ {l : List LogE}, readOk P anc j o env v l = true → LogE.change e a b ∈ l →
  bit (anc.getD j 0) e = false → bit (anc.getD e 0) j = false → sameRead P o env v a = true ∧ sameRead P o env v b = true
 | [], _, hm, _, _ => by simp at hm
 | .read .. :: l, h, hm, h1, h2 => by
  unfold readOk at h
  rcases List.mem_cons.1 hm with e | hm
  ·cases e
  ·exact readOk_inv h hm h1 h2
 | .change e' a' b' :: l, h, hm, h1, h2 => by
  unfold readOk at h
  simp only [bcE] at h
  rcases List.mem_cons.1 hm with e | hm
  ·cases e
   simp only [h1, h2, Bool.false_eq_true, if_false] at h
   by_cases g1 : sameRead P o env v a = true
   ·by_cases g2 : sameRead P o env v b = true
    ·exact ⟨g1, g2⟩
    ·simp [g1, g2] at h
   ·simp [g1] at h
  ·refine readOk_inv ?_ hm h1 h2
   generalize bit (anc.getD j 0) e' = c1 at h
   generalize bit (anc.getD e' 0) j = c2 at h
   generalize sameRead P o env v a' = c3 at h
   generalize sameRead P o env v b' = c4 at h
   cases c1 <;> cases c2 <;> cases c3 <;> cases c4 <;> simp_all
theorem logOk_inv {anc : Array Nat} {log : List LogE} {j : Nat} {o : Oper} {env : Env} {v : HVal} : ∀ {l : List LogE}, logOk P anc log l = true → LogE.read j o env v ∈ l → readOk P anc j o env v log = true
 | [], _, hm => by simp at hm
 | .change .. :: l, h, hm => by
  unfold logOk at h
  rcases List.mem_cons.1 hm with e | hm
  ·cases e
  ·exact logOk_inv h hm
 | .read j' o' env' v' :: l, h, hm => by
  unfold logOk at h
  simp only [bcE] at h
  by_cases h1 : readOk P anc j' o' env' v' log = true
  ·rcases List.mem_cons.1 hm with e | hm
   ·cases e; exact h1
   ·simp only [h1, if_true] at h
    exact logOk_inv h hm
  ·simp [h1] at h
end
end Go.HL
namespace Go.HL
open Go
section
variable {P : Program} {call : CallFn} {ops : Array Oper} {pl : List Nat} {S : Nat → St} {log : List LogE}
theorem after_nrm {dst : Option Tmp} {s s' : St} {out : Out} (hp : s.pan = .none) (h : afterH call dst s out = some (.nrm, s')) : ∃ x h' ds, s' = ⟨s.env.put dst x, h', ds, s.pan, s.mask, s.lim⟩ ∧ ∀ h'', out ≠ .recov h'' := by
 cases out with
 | val x h' => simp only [afterH, force_eq] at h; cases h; exact ⟨_, _, _, rfl, by simp⟩
 | enter f args h' =>
  simp only [afterH] at h
  obtain ⟨⟨cr, h2⟩, h1, h3⟩ := ob_eq_some.1 h
  cases cr with
  | ret x => simp only [force_eq] at h3; cases h3; exact ⟨_, _, _, rfl, by simp⟩
  | pan x => simp only at h3; cases h3
 | defer f args h' => simp only [afterH] at h; cases h; exact ⟨_, _, _, rfl, by simp⟩
 | recov h' => simp only [afterH, hp] at h; cases h
 | pan x h' => simp only [afterH] at h; cases h
inductive Did (P : Program) (call : CallFn) (ops : Array Oper) (o : Oper) (s s' : St) : Prop
 | idle (hw : wantedH ops o s.env = some false) (e : s' = s.with o.dst undefH s.heap)
 | look (x : HVal) (hw : wantedH ops o s.env = some true) (hc : isChange P o = false) (hm : isMake P o = false) (e : s' = s.with o.dst x s.heap) (ho : opH P (s.env.eval P) s.heap o = some (.val x s.heap))
 | make (mk : Nat → HVal) (obj : HObj) (hw : wantedH ops o s.env = some true) (hm : isMake P o = true) (e : s' = s.with o.dst (mk s.heap.next) (s.heap.new obj)) (ho : opH P (s.env.eval P) s.heap o = some (.val (mk s.heap.next) (s.heap.new obj)))
 | change (out : Out) (hw : wantedH ops o s.env = some true) (hc : isChange P o = true) (ho : opH P (s.env.eval P) s.heap o = some out) (ha : afterH call o.dst s out = some (.nrm, s'))
theorem class_cases (o : Oper) : (classOf P o).no = 0 ∨ (classOf P o).no = 1 ∨ (classOf P o).no = 2 ∨ (classOf P o).no = 3 := by cases classOf P o <;> simp [Class.no]
theorem is_class {o : Oper} {n : Nat} (h : (classOf P o).no = n) : isChange P o = decide (n = 3) ∧ isMake P o = decide (n = 2) ∧ isRead P o = decide (n = 1) := by
 unfold isChange isMake isRead
 rw [h, nbeq, nbeq, nbeq]
 exact ⟨rfl, rfl, rfl⟩
theorem did_of {o : Oper} {s s' : St} (h : operH P call ops o s = some (.nrm, s')) : Did P call ops o s s' := by
 obtain ⟨b, hb, hf, hc⟩ := operH_inv h
 rcases hc with ⟨rfl, out, ho, ha⟩ | ⟨rfl, e⟩
 ·rcases class_cases (P := P) o with h0 | h0 | h0 | h0
  ·obtain ⟨g1, g2, g3⟩ := is_class h0
   obtain ⟨x, rfl, _⟩ := class_pure (ρ := s.env.eval P) h0 _ _ ho
   simp only [afterH, force_eq] at ha; cases ha
   exact .look x hb (by rw [g1]; rfl) (by rw [g2]; rfl) rfl ho
  ·obtain ⟨g1, g2, g3⟩ := is_class h0
   obtain ⟨x, rfl, _⟩ := class_read (ρ := s.env.eval P) h0 _ _ ho
   simp only [afterH, force_eq] at ha; cases ha
   exact .look x hb (by rw [g1]; rfl) (by rw [g2]; rfl) rfl ho
  ·obtain ⟨g1, g2, g3⟩ := is_class h0
   obtain ⟨mk, obj, rfl, _⟩ := class_make h0 ho
   simp only [afterH, force_eq] at ha; cases ha
   exact .make mk obj hb (by rw [g2]; rfl) rfl ho
  ·obtain ⟨g1, g2, g3⟩ := is_class h0
   exact .change out hb (by rw [g1]; rfl) ho ha
 ·cases e
  exact .idle hb rfl
structure Way (P : Program) (call : CallFn) (ops : Array Oper) (pl : List Nat) (S : Nat → St) (log : List LogE) : Prop where
 run : Course P call ops pl S log
 pw : ∀ p q i j : Nat, p < q → pl[p]? = some i → pl[q]? = some j → PairOk P ops i j
 log : logOk P (Region.before ops) log log = true
 pan : (S 0).pan = .none
theorem Way.did (W : Way P call ops pl S log) {p i : Nat} (hp : pl[p]? = some i) {o : Oper} (ho : ops[i]? = some o) : Did P call ops o (S p) (S (p + 1)) ∧ fits o.dst (S p).lim = true := by
 obtain ⟨o', ho', h, _⟩ := W.run p i hp
 rw [ho] at ho'; cases ho'
 obtain ⟨b, _, hf, _⟩ := operH_inv h
 exact ⟨did_of h, hf⟩
theorem Did.put {o : Oper} {s s' : St} (hp : s.pan = .none) (h : Did P call ops o s s') : ∃ x ds, s' = ⟨s.env.put o.dst x, s'.heap, ds, s.pan, s.mask, s.lim⟩ := by
 cases h with
 | idle hw e => subst e; exact ⟨_, _, rfl⟩
 | look x hw hc hm e ho => subst e; exact ⟨_, _, rfl⟩
 | make mk obj hw hm e ho => subst e; exact ⟨_, _, rfl⟩
 | change out hw hc ho ha => obtain ⟨x, h', ds, rfl, _⟩ := after_nrm hp ha; exact ⟨_, _, rfl⟩
theorem Way.same (W : Way P call ops pl S log) : ∀ p, p ≤ pl.length → (S p).pan = .none ∧ (S p).lim = (S 0).lim := by
 intro p
 induction p with
 | zero => exact fun _ => ⟨W.pan, rfl⟩
 | succ p ih =>
  intro hp
  obtain ⟨h1, h2⟩ := ih (by omega)
  obtain ⟨i, hi⟩ : ∃ i, pl[p]? = some i := ⟨_, List.getElem?_eq_getElem (by omega)⟩
  obtain ⟨o, ho, _⟩ := W.run p i hi
  obtain ⟨x, ds, e⟩ := (W.did hi ho).1.put h1
  rw [e]
  exact ⟨h1, h2⟩
theorem Way.uniq (W : Way P call ops pl S log) {p q i : Nat} (hp : pl[p]? = some i) (hq : pl[q]? = some i) : p = q := by
 rcases Nat.lt_trichotomy p q with h | h | h
 ·exact absurd rfl (W.pw p q i i h hp hq).ne
 ·exact h
 ·exact absurd rfl (W.pw q p i i h hq hp).ne
theorem Way.keeps (W : Way P call ops pl S log) {t q : Nat} : ∀ q', q ≤ q' → q' ≤ pl.length → (∀ p i o, q ≤ p → p < q' → pl[p]? = some i → ops[i]? = some o → o.dst ≠ some t) → (S q').env.get t = (S q).env.get t := by
 intro q'
 induction q' with
 | zero => intro h _ _; rw [Nat.le_zero.1 h]
 | succ q' ih =>
  intro h hl hn
  by_cases e : q = q' + 1
  ·rw [e]
  ·obtain ⟨i, hi⟩ : ∃ i, pl[q']? = some i := ⟨_, List.getElem?_eq_getElem (by omega)⟩
   obtain ⟨o, ho, _⟩ := W.run q' i hi
   obtain ⟨x, ds, e'⟩ := (W.did hi ho).1.put (W.same q' (by omega)).1
   rw [e', Env.get_put, if_neg (hn q' i o (by omega) (by omega) hi ho)]
   exact ih (by omega) (by omega) fun p i o h1 h2 => hn p i o h1 (by omega)
theorem did_ext {o : Oper} {s s' : St} (h : Did P call ops o s s') (hc : isChange P o = false) (hn : ∀ k o, s.heap.get k = some o → k < s.heap.next) : Ext s.heap s'.heap := by
 cases h with
 | idle hw e => subst e; exact Ext.refl _
 | look x hw hc' hm e ho => subst e; exact Ext.refl _
 | make mk obj hw hm e ho =>
  subst e
  intro k o hk
  show (s.heap.new obj).get k = some o
  rw [Heap.get_new, if_neg (Nat.ne_of_lt (hn k o hk))]; exact hk
 | change out hw hc' ho ha => rw [hc] at hc'; cases hc'
end
end Go.HL
namespace Go.HL
open Go
section
variable {P : Program} {call : CallFn} {ops : Array Oper} {pl : List Nat} {S : Nat → St} {log : List LogE}
variable {σ₀ : Places} {h₀ : Heap} {w₀ : World}
theorem Step.late {σ : Places} {h : Heap} {w : World} (r : Rel P σ h w) (o : HObj) : Step P σ h w σ (h.new o) w := by
 have hn : ∀ k p, σ k = some p → k ≠ h.next := fun k p hp e => by have := r.lt_of_place hp; omega
 refine ⟨σ.le_refl, ⟨?_, fun k hk => r.fresh k (by simp at hk; omega), ?_, r.inb, ?_, r.glob⟩, Kept.refl _ _, ?_, by simp, fun _ _ => rfl, fun k hk _ => by rw [Heap.get_new, if_neg (Nat.ne_of_lt hk)]⟩
 ·intro k a p hk hl hp
  rw [Heap.get_new, if_neg (hn k p hp)] at hk
  exact r.obj k a p hk hl hp
 ·intro k a hk
  rw [Heap.get_new] at hk
  by_cases e : k = h.next
  ·subst e; simp
  ·rw [if_neg e] at hk; have := r.dom k a hk; simp; omega
 ·intro i j a b pi pj hi hj ha hb hne hpi hpj
  rw [Heap.get_new, if_neg (hn i pi hpi)] at hi
  rw [Heap.get_new, if_neg (hn j pj hpj)] at hj
  exact r.inj i j a b pi pj hi hj ha hb hne hpi hpj
 ·rintro b hb ⟨i, a, q, hi, ha, hq, rfl⟩
  rw [Heap.get_new, if_neg (hn i q hq)] at hi
  exact ⟨i, a, q, hi, ha, hq, rfl⟩
theorem Step.place {σ : Places} {h : Heap} {w : World} (s : Step P σ₀ h₀ w₀ σ h w) {k : Nat} {o : HObj} {p : Place} {b : Obj} (hk : h.get k = some o) (hs : σ k = none) (hk0 : h₀.next ≤ k) (hp : p.blk = w.heap.size)
  (hr : ORel P σ p o (some b)) : Step P σ₀ h₀ w₀ (σ.upd k p) h (w.alloc b) := by
 have r := s.rel
 have hle := Places.le_upd p hs
 have hkn := r.dom k o hk
 have hold : ∀ q, q < w.heap.size → (w.alloc b).heap[q]? = w.heap[q]? := fun q hq => RowKit.Below.heap_alloc w b q hq
 have hnew : (w.alloc b).heap[w.heap.size]? = some b := by show (w.heap.push b)[w.heap.size]? = some b; simp
 have hkept : Kept (Own σ h) w (w.alloc b) := ⟨rfl, rfl, rfl, by simp, fun q hq _ => hold q hq⟩
 refine ⟨Places.le_trans s.le hle, ⟨?_, ?_, r.dom, ?_, ?_, ?_⟩, s.kept.trans hkept s.own, ?_, s.next, ?_, ?_⟩
 ·intro j a q hj hl hq
  by_cases e : j = k
  ·subst e
   rw [hk] at hj; cases hj
   rw [σ.upd_same] at hq; cases hq
   rw [hp, hnew]; exact hr.mono hle
  ·rw [σ.upd_other p e] at hq
   rw [hold _ (r.inb j q hq)]; exact (r.obj j a q hj hl hq).mono hle
 ·intro j hj
  rw [σ.upd_other p (by omega)]; exact r.fresh j hj
 ·intro j q hq
  by_cases e : j = k
  ·subst e
   rw [σ.upd_same] at hq; cases hq
   simp [hp]
  ·rw [σ.upd_other p e] at hq
   have := r.inb j q hq
   simp; omega
 ·intro i j a c pi pj hi hj ha hc hne hpi hpj
  by_cases ei : i = k
  ·subst ei
   rw [σ.upd_same] at hpi; cases hpi
   rw [σ.upd_other p (Ne.symm hne)] at hpj
   have := r.inb j pj hpj
   omega
  ·rw [σ.upd_other p ei] at hpi
   by_cases ej : j = k
   ·subst ej
    rw [σ.upd_same] at hpj; cases hpj
    have := r.inb i pi hpi
    omega
   ·rw [σ.upd_other p ej] at hpj
    exact r.inj i j a c pi pj hi hj ha hc hne hpi hpj
 ·intro g hg
  obtain ⟨q, hq, hb⟩ := r.glob g hg
  exact ⟨q, hle _ _ hq, hb⟩
 ·rintro c hc ⟨i, a, q, hi, ha, hq, rfl⟩
  by_cases ei : i = k
  ·subst ei
   rw [σ.upd_same] at hq; cases hq
   have := s.kept.size
   omega
  ·rw [σ.upd_other p ei] at hq
   exact s.own q.blk hc ⟨i, a, q, hi, ha, hq, rfl⟩
 ·intro j hj
  rw [σ.upd_other p (by omega)]; exact s.low j hj
 ·exact s.idle
structure Inv (P : Program) (ops : Array Oper) (pl : List Nat) (S : Nat → St) (σ₀ : Places) (h₀ : Heap) (w₀ : World) (D : Nat → Prop) (a : Act) (w : World) (n : Nat) (σ : Places) : Prop where
 le : n ≤ pl.length
 step : Step P σ₀ h₀ w₀ σ (S n).heap w
 done : ∀ (q i : Nat) o, q < n → pl[q]? = some i → ops[i]? = some o → isChange P o = true → D i
 open_ : ∀ (q i : Nat) o, n ≤ q → pl[q]? = some i → ops[i]? = some o → (isChange P o = true ∨ isMake P o = true) → ¬ D i
 mono : ∀ q q', q ≤ q' → q' ≤ n → (S q).heap.next ≤ (S q').heap.next
 doms : ∀ q, q ≤ n → ∀ k o, (S q).heap.get k = some o → k < (S q).heap.next
 late : ∀ (q i : Nat) o, q < n → pl[q]? = some i → ops[i]? = some o → isMake P o = true → ¬ D i → wantedH ops o (S q).env = some true →
  σ (S q).heap.next = none ∧ (S n).heap.get (S q).heap.next = (S (q + 1)).heap.get (S q).heap.next
 slots : ∀ (t : Tmp) (q : Nat), q ≤ pl.length → (∀ (p i : Nat) o, p < q → pl[p]? = some i → ops[i]? = some o → o.dst = some t → D i) →
  (∀ (p i : Nat) o, q ≤ p → pl[p]? = some i → ops[i]? = some o → o.dst = some t → ¬ D i) → VRel σ ((S q).env.get t) (a.tmps.getD t undef)
 defs : DefRel σ (S n).defers a.defers
 size : (S 0).lim = a.tmps.size
variable {D : Nat → Prop} {a : Act} {w : World} {n : Nat} {σ : Places}
theorem make_next {o : Oper} {s s' : St} (h : Did P call ops o s s') (hw : wantedH ops o s.env = some true) (hm : isMake P o = true) : s'.heap.next = s.heap.next + 1 := by
 cases h with
 | idle hw' e => rw [hw] at hw'; cases hw'
 | look x hw' hc hm' e ho => rw [hm] at hm'; cases hm'
 | make mk obj hw' hm' e ho => subst e; rfl
 | change out hw' hc ho ha =>
  unfold isMake at hm
  unfold isChange at hc
  rw [nbeq] at hm hc
  simp at hm hc
  omega
theorem Inv.advance (W : Way P call ops pl S log) (I : Inv P ops pl S σ₀ h₀ w₀ D a w n σ) {i : Nat} {o : Oper} (hi : pl[n]? = some i) (ho : ops[i]? = some o) (hc : isChange P o = false) :
  Inv P ops pl S σ₀ h₀ w₀ D a w (n + 1) σ := by
 obtain ⟨hd, _⟩ := W.did hi ho
 have hlt : n < pl.length := (List.getElem?_eq_some_iff.1 hi).1
 have hdone : ∀ (q j : Nat) o', q < n + 1 → pl[q]? = some j → ops[j]? = some o' → isChange P o' = true → D j := by
  intro q j o' hq hj ho' hc'
  by_cases e : q = n
  ·subst e
   rw [hi] at hj; cases hj
   rw [ho] at ho'; cases ho'
   rw [hc] at hc'; cases hc'
  ·exact I.done q j o' (by omega) hj ho' hc'
 have hopen : ∀ (q j : Nat) o', n + 1 ≤ q → pl[q]? = some j → ops[j]? = some o' → (isChange P o' = true ∨ isMake P o' = true) → ¬ D j := fun q j o' hq => I.open_ q j o' (by omega)
 -- memory the same, or a new key
 have key : (S (n + 1)).defers = (S n).defers ∧ ((S (n + 1)).heap = (S n).heap ∧ (isMake P o = true → wantedH ops o (S n).env ≠ some true) ∨ ∃ obj, (S (n + 1)).heap = (S n).heap.new obj) := by
  cases hd with
  | idle hw e => rw [e]; exact ⟨rfl, .inl ⟨rfl, fun _ h => by rw [hw] at h; cases h⟩⟩
  | look x hw hc' hm e ho' => rw [e]; exact ⟨rfl, .inl ⟨rfl, fun h => by rw [hm] at h; cases h⟩⟩
  | make mk obj hw hm e ho' => rw [e]; exact ⟨rfl, .inr ⟨obj, rfl⟩⟩
  | change out hw hc' ho' ha => rw [hc] at hc'; cases hc'
 obtain ⟨hdef, hk⟩ := key
 rcases hk with ⟨hh, hnm⟩ | ⟨obj, hh⟩
 ·refine ⟨hlt, by rw [hh]; exact I.step, hdone, hopen, ?_, ?_, ?_, I.slots, by rw [hdef]; exact I.defs, I.size⟩
  ·intro q q' h1 h2
   by_cases e : q' = n + 1
   ·subst e
    rw [hh]
    by_cases e2 : q = n + 1
    ·subst e2; rw [hh]; exact Nat.le_refl _
    ·exact I.mono q n (by omega) (Nat.le_refl _)
   ·exact I.mono q q' h1 (by omega)
  ·intro q hq
   by_cases e : q = n + 1
   ·subst e; rw [hh]; exact I.doms n (Nat.le_refl _)
   ·exact I.doms q (by omega)
  ·intro q j o' hq hj ho' hm' hD hw'
   by_cases e : q = n
   ·subst e
    rw [hi] at hj; cases hj
    rw [ho] at ho'; cases ho'
    exact absurd hw' (hnm hm')
   ·rw [hh]; exact I.late q j o' (by omega) hj ho' hm' hD hw'
 ·refine ⟨hlt, by rw [hh]; exact I.step.trans (Step.late I.step.rel obj), hdone, hopen, ?_, ?_, ?_, I.slots, by rw [hdef]; exact I.defs, I.size⟩
  ·intro q q' h1 h2
   by_cases e : q' = n + 1
   ·subst e
    rw [hh]
    by_cases e2 : q = n + 1
    ·subst e2; rw [hh]; exact Nat.le_refl _
    ·have := I.mono q n (by omega) (Nat.le_refl _)
     simp; omega
   ·exact I.mono q q' h1 (by omega)
  ·intro q hq
   by_cases e : q = n + 1
   ·subst e; rw [hh]; exact (Step.late I.step.rel obj).rel.dom
   ·exact I.doms q (by omega)
  ·intro q j o' hq hj ho' hm' hD hw'
   by_cases e : q = n
   ·subst e
    exact ⟨I.step.rel.fresh _ (Nat.le_refl _), rfl⟩
   ·obtain ⟨g1, g2⟩ := I.late q j o' (by omega) hj ho' hm' hD hw'
    refine ⟨g1, ?_⟩
    have h1 := make_next (W.did hj ho').1 hw' hm'
    have h2 := I.mono (q + 1) n (by omega) (Nat.le_refl _)
    rw [hh, Heap.get_new, if_neg (by omega)]
    exact g2
theorem Inv.norm (W : Way P call ops pl S log) : ∀ (m n : Nat), pl.length - n = m → Inv P ops pl S σ₀ h₀ w₀ D a w n σ →
  ∃ n', n ≤ n' ∧ Inv P ops pl S σ₀ h₀ w₀ D a w n' σ ∧ (n' = pl.length ∨ ∃ i o, pl[n']? = some i ∧ ops[i]? = some o ∧ isChange P o = true) := by
 intro m
 induction m with
 | zero => intro n hm I; exact ⟨n, Nat.le_refl _, I, .inl (by have := I.le; omega)⟩
 | succ m ih =>
  intro n hm I
  have hlt : n < pl.length := by omega
  obtain ⟨i, hi⟩ : ∃ i, pl[n]? = some i := ⟨_, List.getElem?_eq_getElem hlt⟩
  obtain ⟨o, ho, _⟩ := W.run n i hi
  cases hc : isChange P o with
  | true => exact ⟨n, Nat.le_refl _, I, .inr ⟨i, o, hi, ho, hc⟩⟩
  | false =>
   obtain ⟨n', h1, h2, h3⟩ := ih (n + 1) (by omega) (I.advance W hi ho hc)
   exact ⟨n', by omega, h2, h3⟩
theorem slots_put (W : Way P call ops pl S log) (I : Inv P ops pl S σ₀ h₀ w₀ D a w n σ) (hclosed : ∀ i j, D i → bit ((Region.before ops).getD i 0) j = true → D j) {τ : Places} (hle : σ.le τ) {p i : Nat} {o : Oper}
  (hi : pl[p]? = some i) (ho : ops[i]? = some o) (hD : ¬ D i) {x : HVal} {v : Value} (hx : ∀ t, o.dst = some t → (S (p + 1)).env.get t = x) (hv : VRel τ x v) {ds : List Deferred} :
  ∀ (t : Tmp) (q : Nat), q ≤ pl.length → (∀ (p j : Nat) o, p < q → pl[p]? = some j → ops[j]? = some o → o.dst = some t → (D j ∨ j = i)) →
  (∀ (p j : Nat) o, q ≤ p → pl[p]? = some j → ops[j]? = some o → o.dst = some t → ¬ (D j ∨ j = i)) → VRel τ ((S q).env.get t) (({ a with defers := ds }.put o.dst v : Act).tmps.getD t undef) := by
 intro t q hq h1 h2
 have hplt : p < pl.length := (List.getElem?_eq_some_iff.1 hi).1
 obtain ⟨hdid, hfit⟩ := W.did hi ho
 have hf : ∀ d, o.dst = some d → d < ({ a with defers := ds } : Act).tmps.size := fun d hd => by
  have := fits_inv hfit d hd
  rw [(W.same p (by omega)).2, I.size] at this
  exact this
 rw [getD_put _ _ _ _ hf]
 by_cases ht : o.dst = some t
 ·rw [if_pos ht]
  have hpq : p < q := by
   rcases Nat.lt_or_ge p q with h | h
   ·exact h
   ·exact absurd (.inr rfl) (h2 p i o h hi ho ht)
  have hk : (S q).env.get t = (S (p + 1)).env.get t := by
   refine W.keeps q hpq hq fun p' j o' hp1 hp2 hj ho' ht' => ?_
   have hji : j ≠ i := fun e => by subst e; have := W.uniq hi hj; omega
   have hDj := (h1 p' j o' hp2 hj ho' ht').resolve_right hji
   have pr := W.pw p p' i j (by omega) hi hj
   cases hb : bit ((Region.before ops).getD j 0) i with
   | true => exact hD (hclosed j i hDj hb)
   | false =>
    have hcl := (pr.fit hb o o' ho ho').2
    simp only [clash, ht, ht', sameSlot, nbeq, decide_true, bcT] at hcl
    cases hcl
  rw [hk, hx t ht]
  exact hv
 ·rw [if_neg ht]
  refine (I.slots t q hq (fun p' j o' hp hj ho' ht' => ?_) (fun p' j o' hp hj ho' ht' hDj => h2 p' j o' hp hj ho' ht' (.inl hDj))).mono hle
  have := h1 p' j o' hp hj ho' ht'
  refine this.resolve_right fun e => ?_
  subst e
  rw [ho] at ho'; cases ho'
  exact ht ht'
theorem slots_looks (_W : Way P call ops pl S log) (I : Inv P ops pl S σ₀ h₀ w₀ D a w n σ) (hclosed : ∀ i j, D i → bit ((Region.before ops).getD i 0) j = true → D j) {p k : Nat} {o : Oper} (hp : p ≤ pl.length) (ho : ops[k]? = some o) (hD : ¬ D k)
  (hready : ∀ j, bit ((Region.before ops).getD k 0) j = true → D j) (hbef : ∀ (q i : Nat), q < p → pl[q]? = some i → PairOk P ops i k) (haft : ∀ (q i : Nat), p ≤ q → pl[q]? = some i → i = k ∨ PairOk P ops k i) :
  ∀ t ∈ looks ops o, VRel σ ((S p).env.get t) (a.tmps.getD t undef) := by
 intro t ht
 refine I.slots t p hp ?_ ?_
 ·intro q i o' hq hi ho' hdst
  have pr := hbef q i hq hi
  cases hb : bit ((Region.before ops).getD k 0) i with
  | true => exact hready i hb
  | false =>
   have hcl := (pr.fit hb o' o ho' ho).2
   have : hasNat (looks ops o) t = true := hasNat_iff.2 ht
   simp only [clash, hdst, this] at hcl
   rw [bcE] at hcl
   split at hcl
   ·cases hcl
   ·rename_i hh
    cases hs : sameSlot t o.dst <;> rw [hs] at hh <;> simp [bcase] at hh
 ·intro q i o' hq hi ho' hdst hDi
  rcases haft q i hq hi with rfl | pr
  ·exact hD hDi
  ·cases hb : bit ((Region.before ops).getD i 0) k with
   | true => exact hD (hclosed i k hDi hb)
   | false =>
    have hcl := (pr.fit hb o o' ho ho').2
    have : hasNat (looks ops o) t = true := hasNat_iff.2 ht
    simp only [clash, hdst, this] at hcl
    rw [bcE] at hcl
    rw [ite_self] at hcl
    cases hcl
end
end Go.HL
