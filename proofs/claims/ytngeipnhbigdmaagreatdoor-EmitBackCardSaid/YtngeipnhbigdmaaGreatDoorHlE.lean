/- HL: regions whose order is open: plans, courses. No statement of the seat stands here. -/
import Derived.Test.YtngeipnhbigdmaaGreatDoorHlD
namespace Go.HL
open Go
def Ext (h h' : Heap) : Prop := ∀ k o, h.get k = some o → h'.get k = some o
theorem Ext.refl (h : Heap) : Ext h h := fun _ _ e => e
theorem Ext.trans {a b c : Heap} (x : Ext a b) (y : Ext b c) : Ext a c := fun k o e => y k o (x k o e)
def Ku : Heap → Heap → Prop := fun _ _ => True
def Looks (R : Heap → Heap → Prop) (f : Heap → Option Out) : Prop := ∀ h out, f h = some out → ∃ x, out = .val x h ∧ ∀ h', R h h' → f h' = some (.val x h')
def cH {α : Type} (R : Heap → Heap → Prop) (g : Heap → Option α) : Prop := ∀ h a, g h = some a → ∀ h', R h h' → g h' = some a
section
variable {R : Heap → Heap → Prop} {α β : Type}
theorem Looks.none : Looks R fun _ => none := fun _ _ e => by cases e
theorem Looks.val (x : aa) : Looks R fun h => some (.val x h) := fun h out e => by cases e; exact ⟨x, rfl, fun _ _ => rfl⟩
theorem Looks.AO {g : Heap → Option aa} (m : cH R g) : Looks R fun h => Go.HL.val h (g h) := fun h out e => by
 obtain ⟨v, hv, rfl⟩ := ik e
 exact ⟨v, rfl, fun h' hh => by simp only [m h v hv h' hh]; rfl⟩
theorem Looks.ob {o : Option α} {f : α → Heap → Option Out} (m : ∀ a, Looks R (f a)) : Looks R fun h => Go.HL.ob o fun a => f a h := by
 cases o with
 | none => exact Looks.none
 | some a => exact m a
theorem Looks.F5 {o : Heap → Option α} {f : α → Heap → Option Out} (mo : cH R o) (m : ∀ a, Looks R (f a)) : Looks R fun h => Go.HL.ob (o h) fun a => f a h := fun h out e => by
 obtain ⟨a, ha, e⟩ := ad.1 e
 obtain ⟨x, rfl, hx⟩ := m a h out e
 exact ⟨x, rfl, fun h' hh => by simp only [mo h a ha h' hh, obS]; exact hx h' hh⟩
theorem Looks.ite {b : Bool} {f g : Heap → Option Out} (mf : Looks R f) (mg : Looks R g) : Looks R fun h => ae b (f h) (g h) := by
 cases b with
 | true => exact mf
 | false => exact mg
theorem cH.const (o : Option α) : cH R fun _ => o := fun _ _ e _ _ => e
theorem cH.F5 {o : Heap → Option α} {f : α → Heap → Option β} (mo : cH R o) (m : ∀ a, cH R (f a)) : cH R fun h => Go.HL.ob (o h) fun a => f a h := fun h b e h' hh => by
 obtain ⟨a, ha, e⟩ := ad.1 e
 simp only [mo h a ha h' hh, obS]
 exact m a h b e h' hh
theorem cH.ite {b : Bool} {f g : Heap → Option α} (mf : cH R f) (mg : cH R g) : cH R fun h => ae b (f h) (g h) := by
 cases b with
 | true => exact mf
 | false => exact mg
theorem gY (k : Nat) : cH Ext fun h => h.cells k := fun h a e h' hh => by
 unfold Heap.cells at e ⊢
 obtain ⟨b, hb, e⟩ := ad.1 e
 show ob (h'.get k) _ = some a
 rw [hh k b hb]; exact e
theorem rh (k : Nat) : cH Ext fun h => h.entries k := fun h a e h' hh => by
 unfold Heap.entries at e ⊢
 obtain ⟨b, hb, e⟩ := ad.1 e
 show ob (h'.get k) _ = some a
 rw [hh k b hb]; exact e
theorem wi (k off n : Nat) : cH Ext fun h => eh h k off n := cH.F5 (gY k) fun _ => cH.const _
theorem wj (k off : Nat) : cH Ext fun h => mZ h k off := cH.F5 (gY k) fun _ => cH.const _
theorem DE (P : Program) (t : TypeId) (k off : Nat) : cH Ext fun h => loadT P h t k off := by
 unfold loadT
 exact cH.F5 (cH.const _) fun b => cH.ite (cH.F5 (wi _ _ _) fun _ => cH.const _) (wj _ _)
end
theorem Gh {P : Program} {h h' : Heap} (hh : Ext h h') {k off n e : Nat} (hr : roomFor P h k off n e = true) : roomFor P h' k off n e = true := by
 unfold roomFor at hr ⊢
 cases ho : h.cells k with
 | none => rw [ho] at hr; cases hr
 | some o =>
  rw [ho] at hr
  have h2 : h'.cells k = some o := gY k h o ho h' hh
  rw [h2]
  exact hr
theorem J8 (P : Program) (k off len e : Nat) (hi : Option aa) : cH Ext fun h => ch hi (AP P h k off len e hi) len := by
 intro h a ea h' hh
 cases hi with
 | none => exact ea
 | some v =>
  simp only [AP] at ea ⊢
  cases hn : v.isNat with
  | none => simp only [hn] at ea ⊢; exact ea
  | some n =>
   simp only [hn] at ea ⊢
   cases hl : Nat.ble n len with
   | true => rw [hl] at ea; exact ea
   | false =>
    rw [hl] at ea
    simp only [bcF] at ea ⊢
    cases hr : roomFor P h k off n e with
    | true => rw [Gh hh hr]; rw [hr] at ea; exact ea
    | false =>
     rw [hr] at ea
     simp only [bcF, ch, eE, hn, obS, hl] at ea
     cases ea
section
variable {P : Program} {R : Heap → Heap → Prop}
theorem uD {s d : TypeId} {x : aa} (hs : (∃ k, P.underlying s = some (.int k)) ∨ P.underlying s = some .string) : Looks R fun h => kJ P s d x h := by
 unfold kJ
 cases hd : P.underlying d with
 | none => exact Looks.none
 | some dd =>
  cases dd <;> first | exact Looks.none | skip
  case int k => exact Looks.ob fun _ => Looks.ob fun n => Looks.val _
  case string =>
   rcases hs with ⟨k, hs⟩ | hs
   ·rw [hs]; exact Looks.none
   ·rw [hs]; cases x <;> first | exact Looks.none | exact Looks.val _
  case unsafePointer =>
   rcases hs with ⟨k, hs⟩ | hs
   ·rw [hs]; exact Looks.none
   ·rw [hs]; exact Looks.none
  case pointer u =>
   rcases hs with ⟨k, hs⟩ | hs
   ·rw [hs]; exact Looks.none
   ·rw [hs]; exact Looks.none
theorem DJ {s d : TypeId} {x : aa} : Looks Ext fun h => kJ P s d x h := by
 unfold kJ
 cases hd : P.underlying d with
 | none => exact Looks.none
 | some dd =>
  cases dd <;> first | exact Looks.none | skip
  case int k => exact Looks.ob fun _ => Looks.ob fun n => Looks.val _
  case string =>
   cases hs : P.underlying s with
   | none => exact Looks.none
   | some ds =>
    cases ds <;> first | exact Looks.none | skip
    case string => cases x <;> first | exact Looks.none | exact Looks.val _
    case slice e =>
     simp only
     cases he : P.underlying e with
     | none => exact Looks.none
     | some de =>
      cases de <;> first | exact Looks.none | skip
      case int k =>
       cases k <;> first | exact Looks.none | skip
       simp only
       cases x <;> first | exact Looks.none | exact Looks.val _ | skip
       exact Looks.F5 (wi _ _ _) fun l => Looks.ob fun c => Looks.val _
  case unsafePointer =>
   cases hs : P.underlying s with
   | none => exact Looks.none
   | some ds =>
    cases ds <;> first | exact Looks.none | skip
    exact Looks.ob fun a => Looks.ite Looks.none (Looks.F5 (wj _ _) fun _ => Looks.val _)
  case pointer u =>
   cases hs : P.underlying s with
   | none => exact Looks.none
   | some ds =>
    cases ds <;> first | exact Looks.none | skip
    exact Looks.ob fun a => Looks.F5 (gY _) fun o => Looks.ite Looks.none (Looks.ite Looks.none (Looks.ite Looks.none (Looks.ite (Looks.val _) Looks.none)))
theorem xn {ρ : Operand → aa} {o : Oper} (hc : (dK P o).no = 0) : Looks Ku fun h => bS P ρ h o := by
 obtain ⟨dst, op, type, pos, after, guard⟩ := o
 cases op <;> simp only [bS] <;> simp only [dK, Class.no, reduceCtorEq] at hc <;> try exact Looks.none
 all_goals try omega
 case move x => exact Looks.val _
 case assign x => exact Looks.val _
 case pick c a b => exact Looks.ob fun _ => Looks.val _
 case build t parts =>
  refine Looks.ob fun z => ?_
  cases hu : P.underlying t with
  | none => exact Looks.none
  | some d =>
   cases d <;> first | exact Looks.none | skip
   ·exact Looks.ob fun _ => Looks.ob fun _ => Looks.val _
   ·exact Looks.ite (Looks.ob fun _ => Looks.ob fun _ => Looks.val _) Looks.none
 case nilCheck x => cases ρ x <;> first | exact Looks.none | exact Looks.val _
 case binOp op t x y yt => exact Looks.AO (cH.const _)
 case unOp op t x => exact Looks.AO (cH.const _)
 case convert s d x =>
  cases ht : cY P s d with
  | some el => rw [ht] at hc; simp at hc
  | none =>
  rw [ht] at hc
  simp only
  refine uD ?_
  cases hs : P.underlying s with
  | none => rw [hs] at hc; simp at hc
  | some ds =>
   rw [hs] at hc
   cases ds <;> simp at hc
   ·exact .inl ⟨_, rfl⟩
   ·exact .inr rfl
 case makeInterface t x =>
  cases hu : P.underlying t with
  | none => exact Looks.none
  | some d => cases d <;> first | exact Looks.none | exact Looks.val _
 case makeFunc f first cap => cases f <;> first | exact Looks.none | exact Looks.val _
 case fieldAddr t x f =>
  cases hu : P.underlying t with
  | none => exact Looks.none
  | some d => cases d <;> first | exact Looks.none | exact Looks.ob fun _ => Looks.ob fun _ => Looks.ite Looks.none (Looks.val _)
 case field t x f =>
  cases hu : P.underlying t with
  | none => exact Looks.none
  | some d => cases d <;> first | exact Looks.none | exact Looks.ob fun _ => Looks.ob fun _ => Looks.AO (cH.const _)
 case indexAddr t x i =>
  refine Looks.ite (Looks.ob fun i => ?_) Looks.none
  cases hu : P.underlying t with
  | none => exact Looks.none
  | some d =>
   cases d <;> first | exact Looks.none | skip
   ·simp only
    cases ρ x <;> first | exact Looks.none | exact Looks.ite (Looks.val _) Looks.none
   ·exact Looks.ob fun _ => Looks.ite (Looks.val _) Looks.none
 case index t x i =>
  refine Looks.ite (Looks.ob fun i => ?_) Looks.none
  cases hu : P.underlying t with
  | none => exact Looks.none
  | some d =>
   cases d <;> first | exact Looks.none | skip
   ·cases ρ x <;> first | exact Looks.none | exact Looks.ite (Looks.val _) Looks.none
   ·exact Looks.ob fun _ => Looks.ite (Looks.AO (cH.const _)) Looks.none
 case typeAssert x xt asserted ok =>
  cases hu : P.underlying asserted with
  | none => exact Looks.none
  | some d =>
   have key : Looks Ku (fun h => match ρ x with
    | .iD => ae ok (ob (ix P asserted) fun z => some (.val (.tuple [z, .bool false]) h)) none
    | .iface t v => ae (Nat.beq t asserted) (some (.val (ae ok (.tuple [v, .bool true]) v) h))
      (ae ok (ob (ix P asserted) fun z => some (.val (.tuple [z, .bool false]) h)) none)
    | _ => none) := by
    cases ρ x <;> first | exact Looks.none | skip
    ·exact Looks.ite (Looks.ob fun _ => Looks.val _) Looks.none
    ·exact Looks.ite (Looks.val _) (Looks.ite (Looks.ob fun _ => Looks.val _) Looks.none)
   cases d <;> first | exact Looks.none | exact key
 case extract x i => exact Looks.ob fun _ => Looks.AO (cH.const _)
 case call c =>
  cases hcl : c.callee with
  | invoke r m => rw [hcl] at hc; simp at hc
  | value f => rw [hcl] at hc; simp at hc
  | builtin b =>
   rw [hcl] at hc
   simp only
   unfold dL
   cases b <;> simp at hc
   ·rcases c.args.toList.map ρ with _ | ⟨x, _ | ⟨y, _ | ⟨z, l⟩⟩⟩ <;> first | exact Looks.none | exact Looks.ob fun _ => Looks.ob fun _ => Looks.val _
   ·rcases c.args.toList.map ρ with _ | ⟨x, _ | ⟨y, _ | ⟨z, l⟩⟩⟩ <;> first | exact Looks.none | exact Looks.ob fun _ => Looks.ob fun _ => Looks.val _
theorem qu {ρ : Operand → aa} {o : Oper} (hc : (dK P o).no = 1) : Looks Ext fun h => bS P ρ h o := by
 obtain ⟨dst, op, type, pos, after, guard⟩ := o
 cases op <;> simp only [bS] <;> simp only [dK, Class.no, reduceCtorEq] at hc <;> try exact Looks.none
 all_goals try omega
 case load t a => exact Looks.ob fun a => Looks.AO (DE _ _ _ _)
 case convert s d x =>
  cases ht : cY P s d with
  | some el => rw [ht] at hc; simp at hc
  | none => exact DJ
 case slice t x lo hi mx =>
  refine Looks.ite (Looks.AO ?_) Looks.none
  unfold fw
  cases hu : P.underlying t with
  | none => exact cH.const _
  | some d =>
   cases d <;> first | exact cH.const _ | skip
   generalize ρ x = y
   cases y <;> first | exact cH.const _ | skip
   generalize mx.map ρ = m
   cases m with
   | some m => exact cH.const _
   | none =>
    rename_i k off len cap
    cases cap with
    | some c => exact cH.const _
    | none =>
     exact cH.F5 (J8 _ _ _ _ _ _) fun hb => cH.F5 (cH.const _) fun l => cH.ite (cH.const _) (cH.ite (cH.F5 (gY _) fun o => cH.const _) (cH.ite (cH.F5 (gY _) fun o => cH.const _) (cH.const _)))
 case lookup t x i ok =>
  unfold oY
  cases hu : P.underlying t with
  | none => exact Looks.none
  | some d =>
   cases d <;> first | exact Looks.none | skip
   refine Looks.ite (Looks.ite (Looks.ob fun z => ?_) Looks.none) Looks.none
   generalize ρ x = y
   cases y <;> first | exact Looks.none | exact Looks.val _ | skip
   refine Looks.F5 (rh _) fun es => Looks.ob fun r => ?_
   cases r <;> exact Looks.val _
 case call c =>
  cases hcl : c.callee with
  | invoke r m => rw [hcl] at hc; simp at hc
  | value f => rw [hcl] at hc; simp at hc
  | builtin b =>
   rw [hcl] at hc
   simp only
   unfold dL
   cases b <;> simp at hc
   rcases c.args.toList.map ρ with _ | ⟨x, _ | ⟨y, _ | ⟨z, l⟩⟩⟩ <;> first | exact Looks.none | skip
   simp only
   cases c.argTypes[0]? with
   | none => exact Looks.none
   | some t =>
    refine Looks.AO ?_
    unfold BD
    cases hu : P.underlying t with
    | none => exact cH.const _
    | some d =>
     cases d <;> first | exact cH.const _ | skip
     cases x <;> first | exact cH.const _ | skip
     exact cH.F5 (rh _) fun _ => cH.const _
/-! ## What makes -/
def po (P : Program) (σ : aj) (w : World) (mk : Nat → aa) (obj : aG) (q : Result Next) : Prop :=
 ∃ b v p, q = .ok (.value v) (w.alloc b) ∧ p.bN = w.heap.size ∧ lu P σ p obj (some b) ∧ ∀ (τ : aj) k, τ k = some p → aA τ (mk k) v
theorem pk {σ : aj} {w : World} {l : List aa} {vs : List Value} (hl : ao σ l vs) (hs : ∀ x ∈ l, x.scalar = true) (e : TypeId) :
  lu P σ ⟨w.heap.size, 0, 0, vs.length⟩ (.cells l e false true) (some (.cells ⟨vs⟩ e)) := by
 refine ⟨⟨vs⟩, e, (0, 0), rfl, ?_, hs, fun _ => rfl, fun _ => ⟨rfl, by simp⟩, fun _ => ⟨rfl, by simp [hl.length]⟩, fun c => by simp at c, .inl rfl⟩
 rw [hl.length]
 simpa using hl
section
variable {σ : aj} {w : World}
theorem DH {e : TypeId} {z : List aa} (hz : ag P e = some z) :
  po P σ w (fun k => .ptr k 0) (.cells z e false true) ((do pure (Next.value (← Instr.alloc e true (.tuple #[])))).run P w) := by
 obtain ⟨i, v, hi, hv, h1, h2⟩ := bG (σ := σ) hz
 refine ⟨.cells ⟨v.cells.toList⟩ e, .pointer (some ⟨w.heap.size, 0, none⟩), _, ?_, rfl, pk (w := w) h1 h2 e, fun τ k hk => ⟨_, hk, rfl⟩⟩
 simp [Instr.alloc, zeroValue, typeInfo, hi, hv, newVar, newRow]
theorem Jc {ρ : Operand → aa} {ev : Operand → Value} (hρ : ∀ x, aA σ (ρ x) (ev x)) {e : TypeId} {x : Operand} {l : List aa} (hl : (ρ x).cells = some l) :
  po P σ w (fun k => .ptr k 0) (.cells l e false true) ((do pure (Next.value (← Instr.box e (ev x)))).run P w) := by
 obtain ⟨h1, h2⟩ := (hρ x).cells hl
 refine ⟨.cells ⟨(ev x).cells.toList⟩ e, .pointer (some ⟨w.heap.size, 0, none⟩), _, ?_, rfl, pk (w := w) h1 h2 e, fun τ k hk => ⟨_, hk, rfl⟩⟩
 simp [Instr.box, newVar, newRow]
theorem uC {ρ : Operand → aa} {ev : Operand → Value} (hρ : ∀ x, aA σ (ρ x) (ev x)) {t el : TypeId} {len : Nat} {parts : Array (Nat × Operand)} {z cs : List aa} (hu : P.underlying t = some (.slice el)) (hn : len * P.cellsOf el ≤ 16777216)
  (hz : ag P el = some z) (hlen : z.length = P.cellsOf el) (e : eI (parts.toList.map fun p => (Nat.mul p.1 (P.cellsOf el), P.cellsOf el, ρ p.2)) (gp len z) = some cs) :
  po P σ w (fun k => .slice k 0 len (some len)) (.cells cs el false true)
   ((do pure (Next.value (← Instr.buildSlice t len (parts.map fun (i, x) => (i, ev x))))).run P w) := by
 obtain ⟨i, v, hi, hv, h1, h2⟩ := bG (σ := σ) hz
 have hsz : P.cellsOf el = i.size := by simp [Program.cellsOf, hi]
 obtain ⟨C, h5, h6, h7⟩ := lX (σ := σ) (fun i => some (i * P.cellsOf el, P.cellsOf el)) _ (parts.toList.map fun p => (p.1, ev p.2)) (gp len z)
  ((Array.range (len * P.cellsOf el)).map fun i => v.cells[i % v.cells.size]!) cs (by simp)
  (fun j p q hp hq => by
   simp only [List.getElem?_map, Option.map_eq_some_iff] at hp hq
   obtain ⟨q', hq', rfl⟩ := hq
   obtain ⟨p', hp', rfl⟩ := hp
   rw [hq'] at hp'; cases hp'
   exact ⟨rfl, hρ _⟩) (nL h1 len _ (by rw [hlen])) (iA h2) e
 refine ⟨.cells ⟨C.toList⟩ el, .slice (some ⟨w.heap.size, 0, none⟩) len len, _, ?_, rfl, pk (w := w) (vs := C.toList) h6 h7 el, fun τ k hk => ⟨_, len, hk, rfl, Nat.le_refl _, rfl⟩⟩
 have hn' : ¬ (2 ^ 24 < len * P.cellsOf el) := by omega
 simp only [Instr.buildSlice, Sem.run_bind, rU w hu, Result.andThen_ok, aU w hi, gt_iff_lt, hn', if_false, Sem.run_ite]
 by_cases h0 : len * P.cellsOf el = 0
 ·simp only [h0, if_true, Sem.run_pure, Result.andThen_ok]
  have hz0 : (Array.range 0).map (fun i => v.cells[i % v.cells.size]!) = (Array.range 0).map (fun i => (#[] : Array Value)[i % (#[] : Array Value).size]!) := by simp
  rw [h0, hz0] at h5
  simp only [Array.toList_map] at *
  rw [h5]
  simp [newRow]
 ·simp only [h0, if_false, Sem.run_bind, zeroValue, typeInfo, run_program, Result.andThen_ok, hi, hv, Sem.run_pure]
  simp only [Array.toList_map] at *
  rw [h5]
  simp [newRow]
theorem wu {t el : TypeId} {l c : Nat} {k1 k2 : IntKind} {z : List aa} (hu : P.underlying t = some (.slice el)) (hlc : l ≤ c) (hb : P.bytesOf el * c ≤ fC) (hc : c ≤ fC) (hz : ag P el = some z)
  (hzl : z.length = P.cellsOf el) :
  po P σ w (fun k => .slice k 0 l (some c)) (.cells (gp c z) el false true) ((do pure (Next.value (← Instr.makeSlice t (.int k1 (l : Int)) (.int k2 (c : Int))))).run P w) := by
 obtain ⟨i, v, hi, hv, h1, h2⟩ := bG (σ := σ) hz
 have hbytes : P.bytesOf el = i.bytes := by simp [Program.bytesOf, hi]
 have hsize : P.cellsOf el = i.size := by simp [Program.cellsOf, hi]
 unfold fC at hb hc
 rw [hbytes] at hb
 have hrep := nL h1 c (c * P.cellsOf el) (by rw [hzl])
 refine ⟨_, .slice (some ⟨w.heap.size, 0, none⟩) l c, _, ?_, rfl, pk (w := w) hrep (iA h2) el, fun τ k hk => ⟨_, c, hk, rfl, hlc, rfl⟩⟩
 have w1 : IntKind.i64.wrap (l : Int) = l := IntWalk.i64_in _ (by omega)
 have w2 : IntKind.i64.wrap (c : Int) = c := IntWalk.i64_in _ (by omega)
 have hbig : ¬ ((i.bytes : Int) * (c : Int) > 2 ^ 48) := by
  have : (i.bytes : Int) * (c : Int) = ((i.bytes * c : Nat) : Int) := by simp
  rw [this]; omega
 have hbig' : ¬ ((281474976710656 : Int) < (i.bytes : Int) * (c : Int)) := hbig
 have hneg : ¬ ((c : Int) < 0) := by omega
 have hneg2 : ¬ ((l : Int) < 0) := by omega
 have hlc' : ¬ ((l : Int) > (c : Int)) := by omega
 have hcl : ¬ (c < l) := by omega
 have hsz := aU (P := P) w hi
 have hzr : (zeroValue el).run P w = .ok v w := by simp [zeroValue, typeInfo, hi, hv]
 have hti : (typeInfo el).run P w = .ok i w := by simp [typeInfo, hi]
 by_cases h0 : c * P.cellsOf el = 0
 ·have hz0 : (Array.range 0).map (fun i => v.cells[i % v.cells.size]!) = #[] := by simp
  simp [Instr.makeSlice, rU w hu, asInt, asIntOf, hti, w1, w2, hbig', hneg, hneg2, hcl, hsz, h0, newRow]
  exact congrArg (fun C => w.alloc (Obj.cells C el)) (by apply Array.ext'; simp)
 ·simp [Instr.makeSlice, rU w hu, asInt, asIntOf, hti, w1, w2, hbig', hneg, hneg2, hcl, hsz, h0, hzr, newRow]
  exact congrArg (fun C => w.alloc (Obj.cells C el)) (by apply Array.ext'; simp)
theorem xo {ρ : Operand → aa} {o : Oper} (hc : (dK P o).no = 2) {h : Heap} {out : Out} (e : bS P ρ h o = some out) :
  ∃ mk obj, out = .val (mk h.next) (h.new obj) ∧ ∀ (σ : aj) (w : World) (ev : Operand → Value), (∀ x, aA σ (ρ x) (ev x)) → po P σ w mk obj ((execOp ev o).run P w) := by
 obtain ⟨dst, op, type, pos, after, guard⟩ := o
 cases op <;> simp only [bS] at e <;> simp only [dK, Class.no, reduceCtorEq] at hc <;> try (cases e; done)
 all_goals try omega
 case alloc el =>
  obtain ⟨z, hz, e⟩ := ad.1 e
  cases e
  exact ⟨fun k => .ptr k 0, _, rfl, fun σ w ev hρ => DH hz⟩
 case box el x =>
  obtain ⟨l, hl, e⟩ := ad.1 e
  cases e
  exact ⟨fun k => .ptr k 0, _, rfl, fun σ w ev hρ => Jc hρ hl⟩
 case buildSlice t len parts =>
  cases hu : P.underlying t with
  | none => simp [hu] at e
  | some d =>
   rw [hu] at e
   cases d <;> simp only at e <;> try (cases e; done)
   case slice el =>
    obtain ⟨hn, e⟩ := af.1 e
    obtain ⟨z, hz, e⟩ := ad.1 e
    obtain ⟨hzl, e⟩ := af.1 e
    obtain ⟨cs, hcs, e⟩ := ad.1 e
    cases e
    rw [bD] at hzl
    exact ⟨fun k => .slice k 0 len (some len), _, rfl, fun σ w ev hρ => uC hρ hu (Nat.le_of_ble_eq_true hn) hz (by simpa using hzl) hcs⟩
 case makeMap t res =>
  cases hu : P.underlying t with
  | none => simp [hu] at e
  | some d =>
   rw [hu] at e
   cases d <;> simp only at e <;> try (cases e; done)
   case map kt et =>
    cases res with
    | none =>
     simp only at e
     cases e
     exact ⟨fun k => .map k, _, rfl, fun σ w ev hρ => ⟨.map #[] 0, .map (some w.heap.size), ⟨w.heap.size, 0, 0, 0⟩, rfl, rfl, ⟨#[], rfl, rfl⟩, fun τ k hk => ⟨_, hk, rfl⟩⟩⟩
    | some x =>
     simp only at e
     obtain ⟨n, hn, e⟩ := ad.1 e
     cases e
     refine ⟨fun k => .map k, _, rfl, fun σ w ev hρ => ⟨.map #[] 0, .map (some w.heap.size), ⟨w.heap.size, 0, 0, 0⟩, ?_, rfl, ⟨#[], rfl, rfl⟩, fun τ k hk => ⟨_, hk, rfl⟩⟩⟩
     have hx := hρ x
     rw [hO hn] at hx
     have hx' : ev x = .int n.1 n.2 := hx
     refine cZ (s := Instr.makeMap t (some (ev x))) ?_
     rw [hx']
     simp [Instr.makeMap, rU w hu, asInt, asIntOf]
 case makeSlice t l c =>
  cases hu : P.underlying t with
  | none => simp [hu] at e
  | some d =>
   rw [hu] at e
   cases d <;> simp only at e <;> try (cases e; done)
   case slice el =>
    obtain ⟨l', hl, e1⟩ := ad.1 e
    obtain ⟨c', hc', e2⟩ := ad.1 e1
    obtain ⟨h1, e3⟩ := af.1 e2
    obtain ⟨h2, e4⟩ := af.1 e3
    obtain ⟨h3, e5⟩ := af.1 e4
    obtain ⟨z, hz, e6⟩ := ad.1 e5
    obtain ⟨hzl, e7⟩ := af.1 e6
    clear e e1 e2 e3 e4 e5 e6
    cases e7
    obtain ⟨k1, hk1⟩ := fi hl
    obtain ⟨k2, hk2⟩ := fi hc'
    rw [bD] at hzl
    refine ⟨fun k => .slice k 0 l' (some c'), _, rfl, fun σ w ev hρ => ?_⟩
    have hx := hρ l
    have hy := hρ c
    rw [hk1] at hx
    rw [hk2] at hy
    have hx' : ev l = .int k1 (l' : Int) := hx
    have hy' : ev c = .int k2 (c' : Int) := hy
    have := wu (P := P) (σ := σ) (w := w) (k1 := k1) (k2 := k2) hu (Nat.le_of_ble_eq_true h1) (Nat.le_of_ble_eq_true h2) (Nat.le_of_ble_eq_true h3) hz (by simpa using hzl)
    show po P σ w _ _ (((do pure (Next.value (← Instr.makeSlice t (ev l) (ev c)))) : Sem Next).run P w)
    rw [hx', hy']
    exact this
 case call c =>
  cases hcl : c.callee with
  | invoke r m => rw [hcl] at hc; simp at hc
  | value f => rw [hcl] at hc; simp at hc
  | builtin b => rw [hcl] at hc; cases b <;> simp at hc
 case convert s d x =>
  cases ht : cY P s d with
  | some el => rw [ht] at hc; simp at hc
  | none =>
   rw [ht] at hc
   cases hs : P.underlying s with
   | none => rw [hs] at hc; simp at hc
   | some ds => rw [hs] at hc; cases ds <;> simp at hc
end
end
end Go.HL
namespace Go.HL
open Go
theorem yx {n : Nat} {f : Nat → Bool} : (List.range n).all f = true ↔ ∀ i, i < n → f i = true := by simp [List.all_eq_true]
/-! ## What an operation hangs on -/
theorem HM {m : Region.Mode} {e : Edge} (h : Region.binds .any e = true) : Region.binds m e = true := by
 unfold Region.binds at *
 split <;> simp_all
theorem FF (a b i : Nat) : bit (a ||| b) i = (bit a i || bit b i) := by
 have key : ∀ m i, bit m i = m.testBit i := fun m i => by
  rw [Nat.testBit_eq_decide_div_mod_eq]
  show Nat.beq (m / 2 ^ i % 2) 1 = _
  rw [bD]
 rw [key, key, key, Nat.testBit_or]
theorem LR (a i : Nat) : bit (2 ^ a) i = decide (a = i) := by
 have : bit (2 ^ a) i = (2 ^ a).testBit i := by
  rw [Nat.testBit_eq_decide_div_mod_eq]
  show Nat.beq (2 ^ a / 2 ^ i % 2) 1 = _
  rw [bD]
 rw [this, Nat.testBit_two_pow]
theorem rR (i : Nat) : bit 0 i = false := by
 show Nat.beq (0 / 2 ^ i % 2) 1 = false
 rw [Nat.zero_div]; rfl
def FU (B : Array Nat) (l : List Edge) (i j : Nat) : Prop := ∃ e ∈ l, Region.binds .any e = true ∧ (j = e.on ∨ e.on < i ∧ bit (B.getD e.on 0) j = true)
theorem yW (B : Array Nat) (j : Nat) : ∀ (l : List Edge) (s : Nat), bit (l.foldl (fun s e => if Region.binds .any e then s ||| 2 ^ e.on ||| B.getD e.on 0 else s) s) j = true →
  bit s j = true ∨ FU B l B.size j
 | [], s, h => .inl h
 | e :: l, s, h => by
  simp only [List.foldl_cons] at h
  rcases yW B j l _ h with h1 | ⟨e', he', hb, hh⟩
  ·by_cases hb : Region.binds .any e = true
   ·simp only [hb, if_true] at h1
    rw [FF, FF, LR] at h1
    simp only [Bool.or_eq_true, decide_eq_true_eq] at h1
    rcases h1 with (h1 | h1) | h1
    ·exact .inl h1
    ·exact .inr ⟨e, List.mem_cons_self .., hb, .inl h1.symm⟩
    ·refine .inr ⟨e, List.mem_cons_self .., hb, .inr ⟨?_, h1⟩⟩
     rcases Nat.lt_or_ge e.on B.size with hlt | hge
     ·exact hlt
     ·rw [Array.getD_eq_getD_getElem?, Array.getElem?_eq_none hge] at h1
      simp [rR] at h1
   ·simp only [hb] at h1
    exact .inl h1
  ·exact .inr ⟨e', List.mem_cons_of_mem _ he', hb, hh⟩
theorem CB (l : List Oper) : ∀ (pre : List Oper) (acc : Array Nat), acc.size = pre.length → (∀ i j, bit (acc.getD i 0) j = true → ∃ o, pre[i]? = some o ∧ FU acc o.after.toList i j) →
  ∀ i j, bit ((l.foldl (fun acc o => acc.push (o.after.foldl (fun s e => if Region.binds .any e then s ||| 2 ^ e.on ||| acc.getD e.on 0 else s) 0)) acc).getD i 0) j = true →
   ∃ o, (pre ++ l)[i]? = some o ∧ FU (l.foldl (fun acc o => acc.push (o.after.foldl (fun s e => if Region.binds .any e then s ||| 2 ^ e.on ||| acc.getD e.on 0 else s) 0)) acc) o.after.toList i j := by
 induction l with
 | nil => intro pre acc _ h i j hb; simpa using h i j hb
 | cons o l ih =>
  intro pre acc hsz h i j hb
  simp only [List.foldl_cons] at hb ⊢
  have := ih (pre ++ [o]) (acc.push (o.after.foldl (fun s e => if Region.binds .any e then s ||| 2 ^ e.on ||| acc.getD e.on 0 else s) 0)) (by simp [hsz]) ?_ i j hb
  ·simpa using this
  ·intro i j hb
   have hold : ∀ k, k < acc.size → (acc.push (o.after.foldl (fun s e => if Region.binds .any e then s ||| 2 ^ e.on ||| acc.getD e.on 0 else s) 0)).getD k 0 = acc.getD k 0 := by
    intro k hk
    rw [Array.getD_eq_getD_getElem?, Array.getD_eq_getD_getElem?, Array.getElem?_push, if_neg (by omega)]
   by_cases hi : i < acc.size
   ·rw [hold i hi] at hb
    obtain ⟨o', h1, e, h2, h3, h4⟩ := h i j hb
    refine ⟨o', by rw [List.getElem?_append_left (by omega)]; exact h1, e, h2, h3, ?_⟩
    rcases h4 with h4 | ⟨h4, h5⟩
    ·exact .inl h4
    ·exact .inr ⟨h4, by rw [hold _ (by omega)]; exact h5⟩
   ·by_cases hi2 : i = acc.size
    ·subst hi2
     have hnew : (acc.push (o.after.foldl (fun s e => if Region.binds .any e then s ||| 2 ^ e.on ||| acc.getD e.on 0 else s) 0)).getD acc.size 0 = o.after.foldl (fun s e => if Region.binds .any e then s ||| 2 ^ e.on ||| acc.getD e.on 0 else s) 0 := by
      rw [Array.getD_eq_getD_getElem?, Array.getElem?_push]; simp
     rw [hnew, ← Array.foldl_toList] at hb
     rcases yW acc j _ 0 hb with h0 | ⟨e, h2, h3, h4⟩
     ·rw [rR] at h0; cases h0
     ·refine ⟨o, by rw [hsz]; simp, e, h2, h3, ?_⟩
      rcases h4 with h4 | ⟨h4, h5⟩
      ·exact .inl h4
      ·exact .inr ⟨h4, by rw [hold _ h4]; exact h5⟩
    ·rw [Array.getD_eq_getD_getElem?, Array.getElem?_eq_none (by simp; omega)] at hb
     simp [rR] at hb
theorem rW (ops : Array Oper) {i j : Nat} (h : bit ((Region.before ops).getD i 0) j = true) : ∃ o, ops[i]? = some o ∧ FU (Region.before ops) o.after.toList i j := by
 unfold Region.before at h ⊢
 rw [← Array.foldl_toList] at h ⊢
 have := CB ops.toList [] #[] rfl (fun i j hb => by simp [rR] at hb) i j h
 simpa using this
theorem ua {ops : Array Oper} {D : Nat → Prop} (hD : ∀ i o, ops[i]? = some o → D i → ∀ e ∈ o.after.toList, Region.binds .any e = true → D e.on) :
  ∀ (n i : Nat), i < n → ∀ j, D i → bit ((Region.before ops).getD i 0) j = true → D j := by
 intro n
 induction n with
 | zero => intro i h; omega
 | succ n ih =>
  intro i hi j hd hb
  obtain ⟨o, ho, e, he, hbe, h⟩ := rW ops hb
  have := hD i o ho hd e he hbe
  rcases h with rfl | ⟨h1, h2⟩
  ·exact this
  ·exact ih e.on (by omega) j this h2
theorem B9 {ops : Array Oper} {D : Nat → Prop} (hD : ∀ i o, ops[i]? = some o → D i → ∀ e ∈ o.after.toList, Region.binds .any e = true → D e.on) {i : Nat}
  (hi : ∀ o, ops[i]? = some o → ∀ e ∈ o.after.toList, Region.binds .any e = true → D e.on) {j : Nat} (hb : bit ((Region.before ops).getD i 0) j = true) : D j := by
 obtain ⟨o, ho, e, he, hbe, h⟩ := rW ops hb
 have := hi o ho e he hbe
 rcases h with rfl | ⟨h1, h2⟩
 ·exact this
 ·exact ua hD _ e.on (Nat.lt_succ_self _) j this h2
/-! ## Plans -/
section
variable {P : Program} {ops : Array Oper}
structure jZ (P : Program) (ops : Array Oper) (i j : Nat) : Prop where
 ne : i ≠ j
 R2 : bit ((Region.before ops).getD i 0) j = false
 fit : bit ((Region.before ops).getD j 0) i = false → ∀ a b, ops[i]? = some a → ops[j]? = some b → (aB P a = true → aB P b = false ∧ eA P b = false) ∧ xp ops a b = false
theorem Dp {i j : Nat} (h : zQ P ops (Region.before ops) i j = true) : jZ P ops i j := by
 unfold zQ at h
 simp only [bcE] at h
 split at h
 ·cases h
 ·rename_i h1
  split at h
  ·cases h
  ·rename_i h2
   refine ⟨by rw [bD] at h1; simpa using h1, by simpa using h2, fun h3 a b ha hb => ?_⟩
   simp only [h3, Bool.false_eq_true, if_false, ha, hb] at h
   cases hc : aB P a <;> cases hcb : aB P b <;> cases hm : eA P b <;> cases hcl : xp ops a b <;> simp_all
theorem tV : ∀ {l : List Nat}, uQ P ops (Region.before ops) l = true → l.Pairwise (jZ P ops) ∧ ∀ i ∈ l, Bi ops i = true
 | [], _ => ⟨List.Pairwise.nil, by simp⟩
 | i :: l, h => by
  unfold uQ at h
  simp only [bcE] at h
  by_cases h1 : l.all (zQ P ops (Region.before ops) i) = true
  ·by_cases h2 : Bi ops i = true
   ·simp only [h1, h2, if_true] at h
    obtain ⟨g1, g2⟩ := tV h
    refine ⟨List.pairwise_cons.2 ⟨fun j hj => Dp (List.all_eq_true.1 h1 j hj), g1⟩, ?_⟩
    intro j hj
    rcases List.mem_cons.1 hj with rfl | hj
    ·exact h2
    ·exact g2 j hj
   ·simp [h2] at h
  ·simp only [Bool.not_eq_true] at h1
   simp [h1] at h
theorem oo {m : Region.Mode} {done : List Nat} : ∀ {l : List Edge}, p9 m done l = true → ∀ e ∈ l, Region.binds m e = true → e.on ∈ done
 | [], _, e, he => by simp at he
 | e :: l, h, e', he => by
  unfold p9 at h
  simp only [bcE] at h
  by_cases h1 : Region.binds m e = true
  ·simp only [h1, if_true] at h
   by_cases h2 : hZ done e.on = true
   ·simp only [h2, if_true] at h
    rcases List.mem_cons.1 he with rfl | he
    ·exact fun _ => hY.1 h2
    ·exact oo h e' he
   ·simp [h2] at h
  ·simp only [h1] at h
   rcases List.mem_cons.1 he with rfl | he
   ·exact fun hb => absurd hb h1
   ·exact oo h e' he
theorem xq {m : Region.Mode} {listed : Array Bool} (hs : listed.size = ops.size) (hr : Region.ready m ops listed = []) : ∀ (l done : List Nat), fO m ops l done = true →
  (∀ j ∈ done, listed.getD j false = true) → ∀ i, i < ops.size → listed.getD i false = true
 | [], done, h, hd, i, hi => by
  unfold fO at h
  exact hd i (hY.1 (yx.1 h i hi))
 | j :: l, done, h, hd, i, hi => by
  unfold fO at h
  cases ho : ops[j]? with
  | none => rw [ho] at h; cases h
  | some o =>
   rw [ho] at h
   simp only [bcE] at h
   by_cases h1 : p9 m done o.after.toList = true
   ·simp only [h1, if_true] at h
    have hj : j < ops.size := (Array.getElem?_eq_some_iff.1 ho).1
    refine xq hs hr l (j :: done) h ?_ i hi
    intro k hk
    rcases List.mem_cons.1 hk with rfl | hk
    ·cases hl : listed.getD k false with
     | true => rfl
     | false =>
      exfalso
      have hmem : k ∈ Region.ready m ops listed := by
       unfold Region.ready
       rw [List.mem_filter]
       refine ⟨List.mem_range.2 hj, ?_⟩
       have e1 : listed.getD k true = false := by
        rw [Array.getD_eq_getD_getElem?] at hl ⊢
        rw [Array.getElem?_eq_getElem (by omega)] at hl ⊢
        simpa using hl
       simp only [e1, Bool.not_false, Bool.true_and, ho, Option.map_some, Option.getD_some, Array.all_eq_true]
       intro x hx
       by_cases hb : Region.binds m o.after[x] = true
       ·have := hd _ (oo h1 o.after[x] (by simp) hb)
        simp [this, -Array.getD_eq_getD_getElem?]
       ·simp [hb]
      rw [hr] at hmem; simp at hmem
    ·exact hd k hk
   ·simp [h1] at h
theorem vX (h : gV P ops = true) : (∀ m, ∃ L, fO m ops L [] = true) ∧ (∀ i, i < ops.size → i ∈ da P ops) ∧ (da P ops).Pairwise (jZ P ops) ∧ ∀ i ∈ da P ops, Bi ops i = true := by
 unfold gV at h
 simp only [bcE] at h
 by_cases h1 : fO .any ops (oT .any ops) [] = true
 ·by_cases h2 : fO .text ops (oT .text ops) [] = true
  ·by_cases h3 : fO .gc ops (oT .gc ops) [] = true
   ·by_cases h4 : (List.range ops.size).all (hZ (da P ops)) = true
    ·simp only [h1, h2, h3, h4, if_true] at h
     refine ⟨fun m => ?_, fun i hi => hY.1 (yx.1 h4 i hi), tV h⟩
     cases m
     ·exact ⟨_, h2⟩
     ·exact ⟨_, h3⟩
     ·exact ⟨_, h1⟩
    ·simp [h1, h2, h3, h4] at h
   ·simp [h1, h2, h3] at h
  ·simp [h1, h2] at h
 ·simp [h1] at h
end
end Go.HL
namespace Go.HL
open Go
section
variable {P : Program} {call : ah} {ops : Array Oper}
def j0 (P : Program) (call : ah) (ops : Array Oper) (pl : List Nat) (S : Nat → St) (log : List cL) : Prop :=
 ∀ p i, pl[p]? = some i → ∃ o, ops[i]? = some o ∧ fE P call ops o (S p) = some (.dw, S (p + 1)) ∧
  (aB P o = true → cL.change i (S p).heap (S (p + 1)).heap ∈ log) ∧
  (aB P o = false → cu P o = true → ∃ d b, o.dst = some d ∧ bJ ops o (S p).env = some b ∧ (b = true → cL.read i o (S p).env ((S (p + 1)).env.get d) ∈ log))
def front (s : St) (S : Nat → St) : Nat → St
 | 0 => s
 | p + 1 => S p
theorem j0.cons {s : St} {S : Nat → St} {i : Nat} {pl : List Nat} {log : List cL} {o : Oper} (ho : ops[i]? = some o) (h1 : fE P call ops o s = some (.dw, S 0))
  (h2 : aB P o = true → cL.change i s.heap (S 0).heap ∈ log)
  (h3 : aB P o = false → cu P o = true → ∃ d b, o.dst = some d ∧ bJ ops o s.env = some b ∧ (b = true → cL.read i o s.env ((S 0).env.get d) ∈ log))
  (h : j0 P call ops pl S log) : j0 P call ops (i :: pl) (front s S) log := by
 intro p j hp
 cases p with
 | zero =>
  simp only [List.getElem?_cons_zero, Option.some.injEq] at hp
  subst hp
  exact ⟨o, ho, h1, h2, h3⟩
 | succ p => exact h p j (by simpa using hp)
theorem yL {w : Bool} {a e : cL} {log : List cL} (h : e ∈ log) : e ∈ ae w (a :: log) log := by
 cases w
 ·exact h
 ·exact List.mem_cons_of_mem _ h
theorem iK {bV : Array Nat} (d : Nat × aa × Heap) : ∀ (l : List Nat) (log : List cL) (s : St) (q : List cL × Ay × St), eu P call ops bV l log (some d) s = some q →
  q.2.1 = some d ∧ (∀ e ∈ log, e ∈ q.1) ∧ ∃ S : Nat → St, S 0 = s ∧ S (l.filter fun j => !bit (bV.getD j 0) d.1).length = q.2.2 ∧ j0 P call ops (l.filter fun j => !bit (bV.getD j 0) d.1) S q.1
 | [], log, s, q, h => by
  simp only [eu, Option.some.injEq] at h
  subst h
  exact ⟨rfl, fun e he => he, fun _ => s, rfl, rfl, fun p i hp => by simp at hp⟩
 | i :: l, log, s, q, h => by
  simp only [eu, o5] at h
  cases hb : bit (bV.getD i 0) d.1 with
  | true =>
   rw [hb, bcT] at h
   simp only [List.filter_cons, hb, Bool.not_true, Bool.false_eq_true, if_false]
   exact iK d l log s q h
  | false =>
   rw [hb, bcF] at h
   obtain ⟨o, ho, h1⟩ := ad.1 h
   obtain ⟨⟨ex, s'⟩, hr, h2⟩ := ad.1 h1
   simp only [List.filter_cons, hb, Bool.not_false, if_true]
   cases ex <;> simp only at h2 <;> try (cases h2; done)
   cases hc : aB P o with
   | true =>
    rw [hc, bcT] at h2
    obtain ⟨g1, g2, S, g3, g4, g5⟩ := iK d l _ s' q h2
    exact ⟨g1, fun e he => g2 e (List.mem_cons_of_mem _ he), front s S, rfl, g4, j0.cons ho (by rw [g3]; exact hr) (fun _ => by rw [g3]; exact g2 _ (List.mem_cons_self ..)) (fun hn => by rw [hc] at hn; cases hn) g5⟩
   | false =>
    rw [hc, bcF] at h2
    cases hrd : cu P o with
    | true =>
     rw [hrd, bcT] at h2
     obtain ⟨dd, hd, h3⟩ := ad.1 h2
     obtain ⟨b, hb', h4⟩ := ad.1 h3
     obtain ⟨g1, g2, S, g3, g4, g5⟩ := iK d l _ s' q h4
     refine ⟨g1, fun e he => g2 e (yL he), front s S, rfl, g4, j0.cons ho (by rw [g3]; exact hr) (fun hn => by rw [hc] at hn; cases hn) (fun _ _ => ⟨dd, b, hd, hb', fun hbt => ?_⟩) g5⟩
     subst hbt
     rw [g3]; exact g2 _ (List.mem_cons_self ..)
    | false =>
     rw [hrd, bcF] at h2
     obtain ⟨g1, g2, S, g3, g4, g5⟩ := iK d l _ s' q h2
     exact ⟨g1, g2, front s S, rfl, g4, j0.cons ho (by rw [g3]; exact hr) (fun hn => by rw [hc] at hn; cases hn) (fun _ hn => by rw [hrd] at hn; cases hn) g5⟩
def Whole (P : Program) (call : ah) (ops : Array Oper) (bV : Array Nat) (l : List Nat) (s : St) (q : List cL × Ay × St) : Prop :=
 (q.2.1 = none ∧ ∃ S : Nat → St, S 0 = s ∧ S l.length = q.2.2 ∧ j0 P call ops l S q.1) ∨
 (∃ pre i post v h' o s', l = pre ++ i :: post ∧ q.2.1 = some (i, v, h') ∧ ops[i]? = some o ∧ aB P o = true ∧ ∃ S : Nat → St, S 0 = s ∧
  S (pre ++ post.filter fun j => !bit (bV.getD j 0) i).length = q.2.2 ∧ fE P call ops o (S pre.length) = some (.c8 v, s') ∧ s'.heap = h' ∧
  j0 P call ops (pre ++ post.filter fun j => !bit (bV.getD j 0) i) S q.1)
theorem Whole.cons {bV : Array Nat} {i : Nat} {l : List Nat} {s s' : St} {q : List cL × Ay × St} {o : Oper} (ho : ops[i]? = some o) (h1 : fE P call ops o s = some (.dw, s'))
  (h2 : aB P o = true → cL.change i s.heap s'.heap ∈ q.1)
  (h3 : aB P o = false → cu P o = true → ∃ d b, o.dst = some d ∧ bJ ops o s.env = some b ∧ (b = true → cL.read i o s.env (s'.env.get d) ∈ q.1))
  (h : Whole P call ops bV l s' q) : Whole P call ops bV (i :: l) s q := by
 rcases h with ⟨g0, S, g1, g2, g3⟩ | ⟨pre, k, post, v, h', o', s'', rfl, g0, g1, g2, S, g3, g4, g5, g6, g7⟩
 ·subst g1
  exact .inl ⟨g0, front s S, rfl, g2, j0.cons ho h1 h2 h3 g3⟩
 ·subst g3
  exact .inr ⟨i :: pre, k, post, v, h', o', s'', rfl, g0, g1, g2, front s S, rfl, g4, g5, g6, j0.cons ho h1 h2 h3 g7⟩
theorem jk {bV : Array Nat} : ∀ (l : List Nat) (log : List cL) (s : St) (q : List cL × Ay × St), eu P call ops bV l log none s = some q →
  (∀ e ∈ log, e ∈ q.1) ∧ Whole P call ops bV l s q
 | [], log, s, q, h => by
  simp only [eu, Option.some.injEq] at h
  subst h
  exact ⟨fun e he => he, .inl ⟨rfl, fun _ => s, rfl, rfl, fun p i hp => by simp at hp⟩⟩
 | i :: l, log, s, q, h => by
  simp only [eu, o5, bcF] at h
  obtain ⟨o, ho, h1⟩ := ad.1 h
  obtain ⟨⟨ex, s'⟩, hr, h2⟩ := ad.1 h1
  cases ex <;> simp only at h2 <;> try (cases h2; done)
  ·cases hc : aB P o with
   | true =>
    rw [hc, bcT] at h2
    obtain ⟨g1, g2⟩ := jk l _ s' q h2
    exact ⟨fun e he => g1 e (List.mem_cons_of_mem _ he), Whole.cons ho hr (fun _ => g1 _ (List.mem_cons_self ..)) (fun hn => by rw [hc] at hn; cases hn) g2⟩
   | false =>
    rw [hc, bcF] at h2
    cases hrd : cu P o with
    | true =>
     rw [hrd, bcT] at h2
     obtain ⟨dd, hd, h3⟩ := ad.1 h2
     obtain ⟨b, hb', h4⟩ := ad.1 h3
     obtain ⟨g1, g2⟩ := jk l _ s' q h4
     refine ⟨fun e he => g1 e (yL he), Whole.cons ho hr (fun hn => by rw [hc] at hn; cases hn) (fun _ _ => ⟨dd, b, hd, hb', fun hbt => ?_⟩) g2⟩
     subst hbt
     exact g1 _ (List.mem_cons_self ..)
    | false =>
     rw [hrd, bcF] at h2
     obtain ⟨g1, g2⟩ := jk l _ s' q h2
     exact ⟨g1, Whole.cons ho hr (fun hn => by rw [hc] at hn; cases hn) (fun _ hn => by rw [hrd] at hn; cases hn) g2⟩
  ·obtain ⟨hc, h3⟩ := af.1 h2
   rename_i v
   obtain ⟨g1, g2, S, g3, g4, g5⟩ := iK (i, v, s'.heap) l log s q h3
   exact ⟨g2, .inr ⟨[], i, l, v, s'.heap, o, s', rfl, g1, ho, hc, S, g3, g4, by rw [List.length_nil, g3]; exact hr, rfl, g5⟩⟩
/-! ## Reads -/
mutual
theorem ig : ∀ a b : aa, aa.beq a b = true → a = b
 | .bool a, y, h => by cases y <;> simp_all [aa.beq]
 | .int k a, y, h => by cases y <;> simp_all [aa.beq]
 | .str n c, y, h => by cases y <;> simp_all [aa.beq]
 | .gi, y, h => by cases y <;> simp_all [aa.beq]
 | .ptr k o, y, h => by cases y <;> simp_all [aa.beq]
 | .aC, y, h => by cases y <;> simp_all [aa.beq]
 | .slice k o l c, y, h => by cases y <;> simp_all [aa.beq]
 | .mG, y, h => by cases y <;> simp_all [aa.beq]
 | .map k, y, h => by cases y <;> simp_all [aa.beq]
 | .nj, y, h => by cases y <;> simp_all [aa.beq]
 | .func f a b, y, h => by
  cases y <;> simp only [aa.beq, Bool.and_eq_true, Bool.false_eq_true] at h
  rw [Nat.eq_of_beq_eq_true h.1.1, fS a _ h.1.2, fS b _ h.2]
 | .iD, y, h => by cases y <;> simp_all [aa.beq]
 | .iface t v, y, h => by
  cases y <;> simp only [aa.beq, Bool.and_eq_true, Bool.false_eq_true] at h
  rw [Nat.eq_of_beq_eq_true h.1, ig v _ h.2]
 | .agg a, y, h => by
  cases y <;> simp only [aa.beq, Bool.false_eq_true] at h
  rw [fS a _ h]
 | .tuple a, y, h => by
  cases y <;> simp only [aa.beq, Bool.false_eq_true] at h
  rw [fS a _ h]
 | .bad, y, h => by cases y <;> simp only [aa.beq, Bool.false_eq_true] at h
 | .yield k, y, h => by cases y <;> simp_all [aa.beq]
 | .mark k, y, h => by cases y <;> simp_all [aa.beq]
 | .Df k lo hi, y, h => by cases y <;> simp_all [aa.beq]
 | .empty, y, h => by cases y <;> simp_all [aa.beq]
 | .rest k, y, h => by cases y <;> simp_all [aa.beq]
theorem fS : ∀ a b : List aa, rV a b = true → a = b
 | [], m, h => by cases m <;> simp_all [rV]
 | x :: l, m, h => by
  cases m with
  | nil => simp [rV] at h
  | cons y m =>
   simp only [rV, Bool.and_eq_true] at h
   rw [ig x y h.1, fS l m h.2]
end
theorem pV {bV : Array Nat} {j : Nat} {o : Oper} {env : Env} {v : aa} {e : Nat} {a b : Heap} : ∀ {l : List cL}, iV P bV j o env v l = true → cL.change e a b ∈ l →
  bit (bV.getD j 0) e = false → bit (bV.getD e 0) j = false → dG P o env v a = true ∧ dG P o env v b = true
 | [], _, hm, _, _ => by simp at hm
 | .read .. :: l, h, hm, h1, h2 => by
  unfold iV at h
  rcases List.mem_cons.1 hm with e | hm
  ·cases e
  ·exact pV h hm h1 h2
 | .change e' a' b' :: l, h, hm, h1, h2 => by
  unfold iV at h
  simp only [bcE] at h
  rcases List.mem_cons.1 hm with e | hm
  ·cases e
   simp only [h1, h2, Bool.false_eq_true, if_false] at h
   by_cases g1 : dG P o env v a = true
   ·by_cases g2 : dG P o env v b = true
    ·exact ⟨g1, g2⟩
    ·simp [g1, g2] at h
   ·simp [g1] at h
  ·refine pV ?_ hm h1 h2
   generalize bit (bV.getD j 0) e' = c1 at h
   generalize bit (bV.getD e' 0) j = c2 at h
   generalize dG P o env v a' = c3 at h
   generalize dG P o env v b' = c4 at h
   cases c1 <;> cases c2 <;> cases c3 <;> cases c4 <;> simp_all
theorem sV {bV : Array Nat} {log : List cL} {j : Nat} {o : Oper} {env : Env} {v : aa} : ∀ {l : List cL}, kC P bV log l = true → cL.read j o env v ∈ l → iV P bV j o env v log = true
 | [], _, hm => by simp at hm
 | .change .. :: l, h, hm => by
  unfold kC at h
  rcases List.mem_cons.1 hm with e | hm
  ·cases e
  ·exact sV h hm
 | .read j' o' env' v' :: l, h, hm => by
  unfold kC at h
  simp only [bcE] at h
  by_cases h1 : iV P bV j' o' env' v' log = true
  ·rcases List.mem_cons.1 hm with e | hm
   ·cases e; exact h1
   ·simp only [h1, if_true] at h
    exact sV h hm
  ·simp [h1] at h
end
end Go.HL
namespace Go.HL
open Go
section
variable {P : Program} {call : ah} {ops : Array Oper} {pl : List Nat} {S : Nat → St} {log : List cL}
theorem zk {dst : Option Tmp} {s s' : St} {out : Out} (hp : s.c8 = .none) (h : bC call dst s out = some (.dw, s')) : ∃ x h' ds, s' = ⟨s.env.put dst x, h', ds, s.c8, s.mask, s.bt⟩ ∧ ∀ h'', out ≠ .mV h'' := by
 cases out with
 | val x h' => simp only [bC, force_eq] at h; cases h; exact ⟨_, _, _, rfl, by simp⟩
 | enter f args h' =>
  simp only [bC] at h
  obtain ⟨⟨cr, h2⟩, h1, h3⟩ := ad.1 h
  cases cr with
  | ret x => simp only [force_eq] at h3; cases h3; exact ⟨_, _, _, rfl, by simp⟩
  | c8 x => simp only at h3; cases h3
 | defer f args h' => simp only [bC] at h; cases h; exact ⟨_, _, _, rfl, by simp⟩
 | mV h' => simp only [bC, hp] at h; cases h
 | c8 x h' => simp only [bC] at h; cases h
inductive Oc (P : Program) (call : ah) (ops : Array Oper) (o : Oper) (s s' : St) : Prop
 | idle (hw : bJ ops o s.env = some false) (e : s' = s.with o.dst bw s.heap)
 | look (x : aa) (hw : bJ ops o s.env = some true) (hc : aB P o = false) (hm : eA P o = false) (e : s' = s.with o.dst x s.heap) (ho : bS P (s.env.eval P) s.heap o = some (.val x s.heap))
 | make (mk : Nat → aa) (obj : aG) (hw : bJ ops o s.env = some true) (hm : eA P o = true) (e : s' = s.with o.dst (mk s.heap.next) (s.heap.new obj)) (ho : bS P (s.env.eval P) s.heap o = some (.val (mk s.heap.next) (s.heap.new obj)))
 | change (out : Out) (hw : bJ ops o s.env = some true) (hc : aB P o = true) (ho : bS P (s.env.eval P) s.heap o = some out) (ha : bC call o.dst s out = some (.dw, s'))
theorem uo (o : Oper) : (dK P o).no = 0 ∨ (dK P o).no = 1 ∨ (dK P o).no = 2 ∨ (dK P o).no = 3 := by cases dK P o <;> simp [Class.no]
theorem jN {o : Oper} {n : Nat} (h : (dK P o).no = n) : aB P o = decide (n = 3) ∧ eA P o = decide (n = 2) ∧ cu P o = decide (n = 1) := by
 unfold aB eA cu
 rw [h, bD, bD, bD]
 exact ⟨rfl, rfl, rfl⟩
theorem ND {o : Oper} {s s' : St} (h : fE P call ops o s = some (.dw, s')) : Oc P call ops o s s' := by
 obtain ⟨b, hb, hf, hc⟩ := jy h
 rcases hc with ⟨rfl, out, ho, ha⟩ | ⟨rfl, e⟩
 ·rcases uo (P := P) o with h0 | h0 | h0 | h0
  ·obtain ⟨g1, g2, g3⟩ := jN h0
   obtain ⟨x, rfl, _⟩ := xn (ρ := s.env.eval P) h0 _ _ ho
   simp only [bC, force_eq] at ha; cases ha
   exact .look x hb (by rw [g1]; rfl) (by rw [g2]; rfl) rfl ho
  ·obtain ⟨g1, g2, g3⟩ := jN h0
   obtain ⟨x, rfl, _⟩ := qu (ρ := s.env.eval P) h0 _ _ ho
   simp only [bC, force_eq] at ha; cases ha
   exact .look x hb (by rw [g1]; rfl) (by rw [g2]; rfl) rfl ho
  ·obtain ⟨g1, g2, g3⟩ := jN h0
   obtain ⟨mk, obj, rfl, _⟩ := xo h0 ho
   simp only [bC, force_eq] at ha; cases ha
   exact .make mk obj hb (by rw [g2]; rfl) rfl ho
  ·obtain ⟨g1, g2, g3⟩ := jN h0
   exact .change out hb (by rw [g1]; rfl) ho ha
 ·cases e
  exact .idle hb rfl
structure Way (P : Program) (call : ah) (ops : Array Oper) (pl : List Nat) (S : Nat → St) (log : List cL) : Prop where
 run : j0 P call ops pl S log
 pw : ∀ p q i j : Nat, p < q → pl[p]? = some i → pl[q]? = some j → jZ P ops i j
 log : kC P (Region.before ops) log log = true
 c8 : (S 0).c8 = .none
theorem Way.Hx (W : Way P call ops pl S log) {p i : Nat} (hp : pl[p]? = some i) {o : Oper} (ho : ops[i]? = some o) : Oc P call ops o (S p) (S (p + 1)) ∧ fits o.dst (S p).bt = true := by
 obtain ⟨o', ho', h, _⟩ := W.run p i hp
 rw [ho] at ho'; cases ho'
 obtain ⟨b, _, hf, _⟩ := jy h
 exact ⟨ND h, hf⟩
theorem Oc.put {o : Oper} {s s' : St} (hp : s.c8 = .none) (h : Oc P call ops o s s') : ∃ x ds, s' = ⟨s.env.put o.dst x, s'.heap, ds, s.c8, s.mask, s.bt⟩ := by
 cases h with
 | idle hw e => subst e; exact ⟨_, _, rfl⟩
 | look x hw hc hm e ho => subst e; exact ⟨_, _, rfl⟩
 | make mk obj hw hm e ho => subst e; exact ⟨_, _, rfl⟩
 | change out hw hc ho ha => obtain ⟨x, h', ds, rfl, _⟩ := zk hp ha; exact ⟨_, _, rfl⟩
theorem Way.same (W : Way P call ops pl S log) : ∀ p, p ≤ pl.length → (S p).c8 = .none ∧ (S p).bt = (S 0).bt := by
 intro p
 induction p with
 | zero => exact fun _ => ⟨W.c8, rfl⟩
 | succ p ih =>
  intro hp
  obtain ⟨h1, h2⟩ := ih (by omega)
  obtain ⟨i, hi⟩ : ∃ i, pl[p]? = some i := ⟨_, List.getElem?_eq_getElem (by omega)⟩
  obtain ⟨o, ho, _⟩ := W.run p i hi
  obtain ⟨x, ds, e⟩ := (W.Hx hi ho).1.put h1
  rw [e]
  exact ⟨h1, h2⟩
theorem Way.uniq (W : Way P call ops pl S log) {p q i : Nat} (hp : pl[p]? = some i) (hq : pl[q]? = some i) : p = q := by
 rcases Nat.lt_trichotomy p q with h | h | h
 ·exact absurd rfl (W.pw p q i i h hp hq).ne
 ·exact h
 ·exact absurd rfl (W.pw q p i i h hq hp).ne
theorem Way.keeps (W : Way P call ops pl S log) {t q : Nat} : ∀ q', q ≤ q' → q' ≤ pl.length → (∀ p i o, q ≤ p → p < q' → pl[p]? = some i → ops[i]? = some o → o.dst ≠ some t) → (S q').env.get t = (S q).env.get t := by
 intro q'
 induction q' with
 | zero => intro h _ _; rw [Nat.le_zero.1 h]
 | succ q' ih =>
  intro h hl hn
  by_cases e : q = q' + 1
  ·rw [e]
  ·obtain ⟨i, hi⟩ : ∃ i, pl[q']? = some i := ⟨_, List.getElem?_eq_getElem (by omega)⟩
   obtain ⟨o, ho, _⟩ := W.run q' i hi
   obtain ⟨x, ds, e'⟩ := (W.Hx hi ho).1.put (W.same q' (by omega)).1
   rw [e', Env.bP, if_neg (hn q' i o (by omega) (by omega) hi ho)]
   exact ih (by omega) (by omega) fun p i o h1 h2 => hn p i o h1 (by omega)
theorem Ly {o : Oper} {s s' : St} (h : Oc P call ops o s s') (hc : aB P o = false) (hn : ∀ k o, s.heap.get k = some o → k < s.heap.next) : Ext s.heap s'.heap := by
 cases h with
 | idle hw e => subst e; exact Ext.refl _
 | look x hw hc' hm e ho => subst e; exact Ext.refl _
 | make mk obj hw hm e ho =>
  subst e
  intro k o hk
  show (s.heap.new obj).get k = some o
  rw [Heap.cF, if_neg (Nat.ne_of_lt (hn k o hk))]; exact hk
 | change out hw hc' ho ha => rw [hc] at hc'; cases hc'
end
end Go.HL
namespace Go.HL
open Go
section
variable {P : Program} {call : ah} {ops : Array Oper} {pl : List Nat} {S : Nat → St} {log : List cL}
variable {σ₀ : aj} {h₀ : Heap} {w₀ : World}
theorem Step.late {σ : aj} {h : Heap} {w : World} (r : Rel P σ h w) (o : aG) : Step P σ h w σ (h.new o) w := by
 have hn : ∀ k p, σ k = some p → k ≠ h.next := fun k p hp e => by have := r.iF hp; omega
 refine ⟨σ.le_refl, ⟨?_, fun k hk => r.fresh k (by simp at hk; omega), ?_, r.o7, ?_, r.od⟩, Kept.refl _ _, ?_, by simp, fun _ _ => rfl, fun k hk _ => by rw [Heap.cF, if_neg (Nat.ne_of_lt hk)]⟩
 ·intro k a p hk hl hp
  rw [Heap.cF, if_neg (hn k p hp)] at hk
  exact r.obj k a p hk hl hp
 ·intro k a hk
  rw [Heap.cF] at hk
  by_cases e : k = h.next
  ·subst e; simp
  ·rw [if_neg e] at hk; have := r.uZ k a hk; simp; omega
 ·intro i j a b pi pj hi hj ha hb hne hpi hpj
  rw [Heap.cF, if_neg (hn i pi hpi)] at hi
  rw [Heap.cF, if_neg (hn j pj hpj)] at hj
  exact r.inj i j a b pi pj hi hj ha hb hne hpi hpj
 ·rintro b hb ⟨i, a, q, hi, ha, hq, rfl⟩
  rw [Heap.cF, if_neg (hn i q hq)] at hi
  exact ⟨i, a, q, hi, ha, hq, rfl⟩
theorem Step.place {σ : aj} {h : Heap} {w : World} (s : Step P σ₀ h₀ w₀ σ h w) {k : Nat} {o : aG} {p : Place} {b : Obj} (hk : h.get k = some o) (hs : σ k = none) (hk0 : h₀.next ≤ k) (hp : p.bN = w.heap.size)
  (hr : lu P σ p o (some b)) : Step P σ₀ h₀ w₀ (σ.oJ k p) h (w.alloc b) := by
 have r := s.rel
 have hle := aj.lg p hs
 have hkn := r.uZ k o hk
 have hold : ∀ q, q < w.heap.size → (w.alloc b).heap[q]? = w.heap[q]? := fun q hq => RowKit.Below.heap_alloc w b q hq
 have hnew : (w.alloc b).heap[w.heap.size]? = some b := by show (w.heap.push b)[w.heap.size]? = some b; simp
 have hkept : Kept (My σ h) w (w.alloc b) := ⟨rfl, rfl, rfl, by simp, fun q hq _ => hold q hq⟩
 refine ⟨aj.le_trans s.le hle, ⟨?_, ?_, r.uZ, ?_, ?_, ?_⟩, s.kept.trans hkept s.own, ?_, s.next, ?_, ?_⟩
 ·intro j a q hj hl hq
  by_cases e : j = k
  ·subst e
   rw [hk] at hj; cases hj
   rw [σ.bf] at hq; cases hq
   rw [hp, hnew]; exact hr.mono hle
  ·rw [σ.ba p e] at hq
   rw [hold _ (r.o7 j q hq)]; exact (r.obj j a q hj hl hq).mono hle
 ·intro j hj
  rw [σ.ba p (by omega)]; exact r.fresh j hj
 ·intro j q hq
  by_cases e : j = k
  ·subst e
   rw [σ.bf] at hq; cases hq
   simp [hp]
  ·rw [σ.ba p e] at hq
   have := r.o7 j q hq
   simp; omega
 ·intro i j a c pi pj hi hj ha hc hne hpi hpj
  by_cases ei : i = k
  ·subst ei
   rw [σ.bf] at hpi; cases hpi
   rw [σ.ba p (Ne.symm hne)] at hpj
   have := r.o7 j pj hpj
   omega
  ·rw [σ.ba p ei] at hpi
   by_cases ej : j = k
   ·subst ej
    rw [σ.bf] at hpj; cases hpj
    have := r.o7 i pi hpi
    omega
   ·rw [σ.ba p ej] at hpj
    exact r.inj i j a c pi pj hi hj ha hc hne hpi hpj
 ·intro g hg
  obtain ⟨q, hq, hb⟩ := r.od g hg
  exact ⟨q, hle _ _ hq, hb⟩
 ·rintro c hc ⟨i, a, q, hi, ha, hq, rfl⟩
  by_cases ei : i = k
  ·subst ei
   rw [σ.bf] at hq; cases hq
   have := s.kept.size
   omega
  ·rw [σ.ba p ei] at hq
   exact s.own q.bN hc ⟨i, a, q, hi, ha, hq, rfl⟩
 ·intro j hj
  rw [σ.ba p (by omega)]; exact s.low j hj
 ·exact s.idle
structure Inv (P : Program) (ops : Array Oper) (pl : List Nat) (S : Nat → St) (σ₀ : aj) (h₀ : Heap) (w₀ : World) (D : Nat → Prop) (a : Act) (w : World) (n : Nat) (σ : aj) : Prop where
 le : n ≤ pl.length
 step : Step P σ₀ h₀ w₀ σ (S n).heap w
 done : ∀ (q i : Nat) o, q < n → pl[q]? = some i → ops[i]? = some o → aB P o = true → D i
 open_ : ∀ (q i : Nat) o, n ≤ q → pl[q]? = some i → ops[i]? = some o → (aB P o = true ∨ eA P o = true) → ¬ D i
 mono : ∀ q q', q ≤ q' → q' ≤ n → (S q).heap.next ≤ (S q').heap.next
 Hu : ∀ q, q ≤ n → ∀ k o, (S q).heap.get k = some o → k < (S q).heap.next
 late : ∀ (q i : Nat) o, q < n → pl[q]? = some i → ops[i]? = some o → eA P o = true → ¬ D i → bJ ops o (S q).env = some true →
  σ (S q).heap.next = none ∧ (S n).heap.get (S q).heap.next = (S (q + 1)).heap.get (S q).heap.next
 yo : ∀ (t : Tmp) (q : Nat), q ≤ pl.length → (∀ (p i : Nat) o, p < q → pl[p]? = some i → ops[i]? = some o → o.dst = some t → D i) →
  (∀ (p i : Nat) o, q ≤ p → pl[p]? = some i → ops[i]? = some o → o.dst = some t → ¬ D i) → aA σ ((S q).env.get t) (a.tmps.getD t undef)
 defs : du σ (S n).defers a.defers
 size : (S 0).bt = a.tmps.size
variable {D : Nat → Prop} {a : Act} {w : World} {n : Nat} {σ : aj}
theorem lN {o : Oper} {s s' : St} (h : Oc P call ops o s s') (hw : bJ ops o s.env = some true) (hm : eA P o = true) : s'.heap.next = s.heap.next + 1 := by
 cases h with
 | idle hw' e => rw [hw] at hw'; cases hw'
 | look x hw' hc hm' e ho => rw [hm] at hm'; cases hm'
 | make mk obj hw' hm' e ho => subst e; rfl
 | change out hw' hc ho ha =>
  unfold eA at hm
  unfold aB at hc
  rw [bD] at hm hc
  simp at hm hc
  omega
theorem Inv.advance (W : Way P call ops pl S log) (I : Inv P ops pl S σ₀ h₀ w₀ D a w n σ) {i : Nat} {o : Oper} (hi : pl[n]? = some i) (ho : ops[i]? = some o) (hc : aB P o = false) :
  Inv P ops pl S σ₀ h₀ w₀ D a w (n + 1) σ := by
 obtain ⟨hd, _⟩ := W.Hx hi ho
 have hlt : n < pl.length := (List.getElem?_eq_some_iff.1 hi).1
 have hdone : ∀ (q j : Nat) o', q < n + 1 → pl[q]? = some j → ops[j]? = some o' → aB P o' = true → D j := by
  intro q j o' hq hj ho' hc'
  by_cases e : q = n
  ·subst e
   rw [hi] at hj; cases hj
   rw [ho] at ho'; cases ho'
   rw [hc] at hc'; cases hc'
  ·exact I.done q j o' (by omega) hj ho' hc'
 have hopen : ∀ (q j : Nat) o', n + 1 ≤ q → pl[q]? = some j → ops[j]? = some o' → (aB P o' = true ∨ eA P o' = true) → ¬ D j := fun q j o' hq => I.open_ q j o' (by omega)
 -- memory the same, or a new key
 have key : (S (n + 1)).defers = (S n).defers ∧ ((S (n + 1)).heap = (S n).heap ∧ (eA P o = true → bJ ops o (S n).env ≠ some true) ∨ ∃ obj, (S (n + 1)).heap = (S n).heap.new obj) := by
  cases hd with
  | idle hw e => rw [e]; exact ⟨rfl, .inl ⟨rfl, fun _ h => by rw [hw] at h; cases h⟩⟩
  | look x hw hc' hm e ho' => rw [e]; exact ⟨rfl, .inl ⟨rfl, fun h => by rw [hm] at h; cases h⟩⟩
  | make mk obj hw hm e ho' => rw [e]; exact ⟨rfl, .inr ⟨obj, rfl⟩⟩
  | change out hw hc' ho' ha => rw [hc] at hc'; cases hc'
 obtain ⟨hdef, hk⟩ := key
 rcases hk with ⟨hh, hnm⟩ | ⟨obj, hh⟩
 ·refine ⟨hlt, by rw [hh]; exact I.step, hdone, hopen, ?_, ?_, ?_, I.yo, by rw [hdef]; exact I.defs, I.size⟩
  ·intro q q' h1 h2
   by_cases e : q' = n + 1
   ·subst e
    rw [hh]
    by_cases e2 : q = n + 1
    ·subst e2; rw [hh]; exact Nat.le_refl _
    ·exact I.mono q n (by omega) (Nat.le_refl _)
   ·exact I.mono q q' h1 (by omega)
  ·intro q hq
   by_cases e : q = n + 1
   ·subst e; rw [hh]; exact I.Hu n (Nat.le_refl _)
   ·exact I.Hu q (by omega)
  ·intro q j o' hq hj ho' hm' hD hw'
   by_cases e : q = n
   ·subst e
    rw [hi] at hj; cases hj
    rw [ho] at ho'; cases ho'
    exact absurd hw' (hnm hm')
   ·rw [hh]; exact I.late q j o' (by omega) hj ho' hm' hD hw'
 ·refine ⟨hlt, by rw [hh]; exact I.step.trans (Step.late I.step.rel obj), hdone, hopen, ?_, ?_, ?_, I.yo, by rw [hdef]; exact I.defs, I.size⟩
  ·intro q q' h1 h2
   by_cases e : q' = n + 1
   ·subst e
    rw [hh]
    by_cases e2 : q = n + 1
    ·subst e2; rw [hh]; exact Nat.le_refl _
    ·have := I.mono q n (by omega) (Nat.le_refl _)
     simp; omega
   ·exact I.mono q q' h1 (by omega)
  ·intro q hq
   by_cases e : q = n + 1
   ·subst e; rw [hh]; exact (Step.late I.step.rel obj).rel.uZ
   ·exact I.Hu q (by omega)
  ·intro q j o' hq hj ho' hm' hD hw'
   by_cases e : q = n
   ·subst e
    exact ⟨I.step.rel.fresh _ (Nat.le_refl _), rfl⟩
   ·obtain ⟨g1, g2⟩ := I.late q j o' (by omega) hj ho' hm' hD hw'
    refine ⟨g1, ?_⟩
    have h1 := lN (W.Hx hj ho').1 hw' hm'
    have h2 := I.mono (q + 1) n (by omega) (Nat.le_refl _)
    rw [hh, Heap.cF, if_neg (by omega)]
    exact g2
theorem Inv.norm (W : Way P call ops pl S log) : ∀ (m n : Nat), pl.length - n = m → Inv P ops pl S σ₀ h₀ w₀ D a w n σ →
  ∃ n', n ≤ n' ∧ Inv P ops pl S σ₀ h₀ w₀ D a w n' σ ∧ (n' = pl.length ∨ ∃ i o, pl[n']? = some i ∧ ops[i]? = some o ∧ aB P o = true) := by
 intro m
 induction m with
 | zero => intro n hm I; exact ⟨n, Nat.le_refl _, I, .inl (by have := I.le; omega)⟩
 | succ m ih =>
  intro n hm I
  have hlt : n < pl.length := by omega
  obtain ⟨i, hi⟩ : ∃ i, pl[n]? = some i := ⟨_, List.getElem?_eq_getElem hlt⟩
  obtain ⟨o, ho, _⟩ := W.run n i hi
  cases hc : aB P o with
  | true => exact ⟨n, Nat.le_refl _, I, .inr ⟨i, o, hi, ho, hc⟩⟩
  | false =>
   obtain ⟨n', h1, h2, h3⟩ := ih (n + 1) (by omega) (I.advance W hi ho hc)
   exact ⟨n', by omega, h2, h3⟩
theorem yn (W : Way P call ops pl S log) (I : Inv P ops pl S σ₀ h₀ w₀ D a w n σ) (hclosed : ∀ i j, D i → bit ((Region.before ops).getD i 0) j = true → D j) {τ : aj} (hle : σ.le τ) {p i : Nat} {o : Oper}
  (hi : pl[p]? = some i) (ho : ops[i]? = some o) (hD : ¬ D i) {x : aa} {v : Value} (hx : ∀ t, o.dst = some t → (S (p + 1)).env.get t = x) (hv : aA τ x v) {ds : List Deferred} :
  ∀ (t : Tmp) (q : Nat), q ≤ pl.length → (∀ (p j : Nat) o, p < q → pl[p]? = some j → ops[j]? = some o → o.dst = some t → (D j ∨ j = i)) →
  (∀ (p j : Nat) o, q ≤ p → pl[p]? = some j → ops[j]? = some o → o.dst = some t → ¬ (D j ∨ j = i)) → aA τ ((S q).env.get t) (({ a with defers := ds }.put o.dst v : Act).tmps.getD t undef) := by
 intro t q hq h1 h2
 have hplt : p < pl.length := (List.getElem?_eq_some_iff.1 hi).1
 obtain ⟨hdid, hfit⟩ := W.Hx hi ho
 have hf : ∀ d, o.dst = some d → d < ({ a with defers := ds } : Act).tmps.size := fun d hd => by
  have := wR hfit d hd
  rw [(W.same p (by omega)).2, I.size] at this
  exact this
 rw [rE _ _ _ _ hf]
 by_cases ht : o.dst = some t
 ·rw [if_pos ht]
  have hpq : p < q := by
   rcases Nat.lt_or_ge p q with h | h
   ·exact h
   ·exact absurd (.inr rfl) (h2 p i o h hi ho ht)
  have hk : (S q).env.get t = (S (p + 1)).env.get t := by
   refine W.keeps q hpq hq fun p' j o' hp1 hp2 hj ho' ht' => ?_
   have hji : j ≠ i := fun e => by subst e; have := W.uniq hi hj; omega
   have hDj := (h1 p' j o' hp2 hj ho' ht').resolve_right hji
   have pr := W.pw p p' i j (by omega) hi hj
   cases hb : bit ((Region.before ops).getD j 0) i with
   | true => exact hD (hclosed j i hDj hb)
   | false =>
    have hcl := (pr.fit hb o o' ho ho').2
    simp only [xp, ht, ht', vK, bD, decide_true, bcT] at hcl
    cases hcl
  rw [hk, hx t ht]
  exact hv
 ·rw [if_neg ht]
  refine (I.yo t q hq (fun p' j o' hp hj ho' ht' => ?_) (fun p' j o' hp hj ho' ht' hDj => h2 p' j o' hp hj ho' ht' (.inl hDj))).mono hle
  have := h1 p' j o' hp hj ho' ht'
  refine this.resolve_right fun e => ?_
  subst e
  rw [ho] at ho'; cases ho'
  exact ht ht'
theorem tN (_W : Way P call ops pl S log) (I : Inv P ops pl S σ₀ h₀ w₀ D a w n σ) (hclosed : ∀ i j, D i → bit ((Region.before ops).getD i 0) j = true → D j) {p k : Nat} {o : Oper} (hp : p ≤ pl.length) (ho : ops[k]? = some o) (hD : ¬ D k)
  (hready : ∀ j, bit ((Region.before ops).getD k 0) j = true → D j) (hbef : ∀ (q i : Nat), q < p → pl[q]? = some i → jZ P ops i k) (haft : ∀ (q i : Nat), p ≤ q → pl[q]? = some i → i = k ∨ jZ P ops k i) :
  ∀ t ∈ looks ops o, aA σ ((S p).env.get t) (a.tmps.getD t undef) := by
 intro t ht
 refine I.yo t p hp ?_ ?_
 ·intro q i o' hq hi ho' hdst
  have pr := hbef q i hq hi
  cases hb : bit ((Region.before ops).getD k 0) i with
  | true => exact hready i hb
  | false =>
   have hcl := (pr.fit hb o' o ho' ho).2
   have : hZ (looks ops o) t = true := hY.2 ht
   simp only [xp, hdst, this] at hcl
   rw [bcE] at hcl
   split at hcl
   ·cases hcl
   ·rename_i hh
    cases hs : vK t o.dst <;> rw [hs] at hh <;> simp [ae] at hh
 ·intro q i o' hq hi ho' hdst hDi
  rcases haft q i hq hi with rfl | pr
  ·exact hD hDi
  ·cases hb : bit ((Region.before ops).getD i 0) k with
   | true => exact hD (hclosed i k hDi hb)
   | false =>
    have hcl := (pr.fit hb o o' ho ho').2
    have : hZ (looks ops o) t = true := hY.2 ht
    simp only [xp, hdst, this] at hcl
    rw [bcE] at hcl
    rw [ite_self] at hcl
    cases hcl
end
end Go.HL
