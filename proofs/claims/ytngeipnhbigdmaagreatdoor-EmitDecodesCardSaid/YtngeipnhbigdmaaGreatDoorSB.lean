/- Runs of HL with an argument that is not closed: rules for operations, slices, structs. No statement of the seat stands here. -/
import Derived.Test.YtngeipnhbigdmaaGreatDoorSA
set_option linter.unusedVariables false
set_option linter.unusedSimpArgs false
namespace Go.HL
open Go
noncomputable section
section
variable {P : Program} {K : CallFn} {ops : Array Oper} {o : Oper} {L : Sts} {h : Heap} {m n : Nat} {R : Sts → Heap → Prop} {tab : Tab}
/-- a truth that is not known: both ways -/
theorem Op1.bool {b : Bool} (hv : OpV P o L h (.bool b) h) (hw : wantL ops o L = some true) (hf : fits o.dst n = true) (h1 : b = true → R (putD? o.dst (.bool true) L) h) (h0 : b = false → R (putD? o.dst (.bool false) L) h) : Op1 P K ops o L h m n R := by
  cases b with
  | true => exact Op1.val hv hw hf (h1 rfl)
  | false => exact Op1.val hv hw hf (h0 rfl)
theorem Op1.lss {t p : Nat} {x y : Operand} {k j : IntKind} {a b : Int} (ho : o.op = .binOp .lss t x y p) (hx : evL P L x = some (.int k a)) (hy : evL P L y = some (.int j b)) (hk : sameKind k j = true) (hw : wantL ops o L = some true) (hf : fits o.dst n = true)
    (h1 : a < b → R (putD? o.dst (.bool true) L) h) (h0 : ¬ a < b → R (putD? o.dst (.bool false) L) h) : Op1 P K ops o L h m n R :=
  Op1.bool (V.cmp ho hx hy hk rfl) hw hf (fun e => h1 (of_decide_eq_true e)) (fun e => h0 (of_decide_eq_false e))
theorem Op1.leq {t p : Nat} {x y : Operand} {k j : IntKind} {a b : Int} (ho : o.op = .binOp .leq t x y p) (hx : evL P L x = some (.int k a)) (hy : evL P L y = some (.int j b)) (hk : sameKind k j = true) (hw : wantL ops o L = some true) (hf : fits o.dst n = true)
    (h1 : a ≤ b → R (putD? o.dst (.bool true) L) h) (h0 : ¬ a ≤ b → R (putD? o.dst (.bool false) L) h) : Op1 P K ops o L h m n R :=
  Op1.bool (V.cmp ho hx hy hk rfl) hw hf (fun e => h1 (of_decide_eq_true e)) (fun e => h0 (of_decide_eq_false e))
theorem Op1.gtr {t p : Nat} {x y : Operand} {k j : IntKind} {a b : Int} (ho : o.op = .binOp .gtr t x y p) (hx : evL P L x = some (.int k a)) (hy : evL P L y = some (.int j b)) (hk : sameKind k j = true) (hw : wantL ops o L = some true) (hf : fits o.dst n = true)
    (h1 : b < a → R (putD? o.dst (.bool true) L) h) (h0 : ¬ b < a → R (putD? o.dst (.bool false) L) h) : Op1 P K ops o L h m n R :=
  Op1.bool (V.cmp ho hx hy hk rfl) hw hf (fun e => h1 (of_decide_eq_true e)) (fun e => h0 (of_decide_eq_false e))
theorem Op1.geq {t p : Nat} {x y : Operand} {k j : IntKind} {a b : Int} (ho : o.op = .binOp .geq t x y p) (hx : evL P L x = some (.int k a)) (hy : evL P L y = some (.int j b)) (hk : sameKind k j = true) (hw : wantL ops o L = some true) (hf : fits o.dst n = true)
    (h1 : b ≤ a → R (putD? o.dst (.bool true) L) h) (h0 : ¬ b ≤ a → R (putD? o.dst (.bool false) L) h) : Op1 P K ops o L h m n R :=
  Op1.bool (V.cmp ho hx hy hk rfl) hw hf (fun e => h1 (of_decide_eq_true e)) (fun e => h0 (of_decide_eq_false e))
theorem Op1.eql {t p : Nat} {x y : Operand} {k j : IntKind} {a b : Int} (ho : o.op = .binOp .eql t x y p) (hx : evL P L x = some (.int k a)) (hy : evL P L y = some (.int j b)) (hk : sameKind k j = true) (hw : wantL ops o L = some true) (hf : fits o.dst n = true)
    (h1 : a = b → R (putD? o.dst (.bool true) L) h) (h0 : ¬ a = b → R (putD? o.dst (.bool false) L) h) : Op1 P K ops o L h m n R :=
  Op1.bool (V.cmp ho hx hy hk rfl) hw hf (fun e => h1 (of_decide_eq_true e)) (fun e => h0 (of_decide_eq_false e))
theorem Op1.neq {t p : Nat} {x y : Operand} {k j : IntKind} {a b : Int} (ho : o.op = .binOp .neq t x y p) (hx : evL P L x = some (.int k a)) (hy : evL P L y = some (.int j b)) (hk : sameKind k j = true) (hw : wantL ops o L = some true) (hf : fits o.dst n = true)
    (h1 : a ≠ b → R (putD? o.dst (.bool true) L) h) (h0 : ¬ a ≠ b → R (putD? o.dst (.bool false) L) h) : Op1 P K ops o L h m n R :=
  Op1.bool (V.cmp ho hx hy hk rfl) hw hf (fun e => h1 (of_decide_eq_true e)) (fun e => h0 (of_decide_eq_false e))
theorem Op1.notB {t : Nat} {x : Operand} {b : Bool} (ho : o.op = .unOp .not t x) (hx : evL P L x = some (.bool b)) (hw : wantL ops o L = some true) (hf : fits o.dst n = true) (h1 : b = true → R (putD? o.dst (.bool false) L) h) (h0 : b = false → R (putD? o.dst (.bool true) L) h) : Op1 P K ops o L h m n R := by
  cases b with
  | true => exact Op1.val (V.not_true ho hx) hw hf (h1 rfl)
  | false => exact Op1.val (V.not_false ho hx) hw hf (h0 rfl)
theorem Op1.moveB {x : Operand} {b : Bool} (ho : o.op = .move x) (hx : evL P L x = some (.bool b)) (hw : wantL ops o L = some true) (hf : fits o.dst n = true) (h1 : b = true → R (putD? o.dst (.bool true) L) h) (h0 : b = false → R (putD? o.dst (.bool false) L) h) : Op1 P K ops o L h m n R :=
  Op1.bool (V.move ho hx) hw hf h1 h0
/-- a truth that is loaded: both ways -/
theorem Op1.loadB {t k off q : Nat} {x : Operand} {b : Bool} {l : List HVal} {e : Nat} {s r : Bool} (hT : tabOk P tab = true) (ho : o.op = .load t x) (ht : tyL tab t = some (.bool, q)) (hx : evL P L x = some (.ptr k off)) (hg : h.get k = some (.cells l e s r)) (hv : nth l off = some (.bool b)) (hw : wantL ops o L = some true) (hf : fits o.dst n = true)
    (h1 : b = true → R (putD? o.dst (.bool true) L) h) (h0 : b = false → R (putD? o.dst (.bool false) L) h) : Op1 P K ops o L h m n R := Op1.bool (V.load hT ho ht rfl hx hg hv) hw hf h1 h0
theorem Op1.loadRB {t k off j q : Nat} {x : Operand} {b : Bool} {l : List HVal} (hT : tabOk P tab = true) (ho : o.op = .load t x) (ht : tyL tab t = some (.bool, q)) (hx : evL P L x = some (.ptr k (Nat.add off j))) (hr : Row h k off l) (hv : nth l j = some (.bool b)) (hw : wantL ops o L = some true) (hf : fits o.dst n = true)
    (h1 : b = true → R (putD? o.dst (.bool true) L) h) (h0 : b = false → R (putD? o.dst (.bool false) L) h) : Op1 P K ops o L h m n R := Op1.bool (V.loadR hT ho ht rfl hx hr hv) hw hf h1 h0
theorem Op1.loadRB0 {t k off q : Nat} {x : Operand} {b : Bool} {l : List HVal} (hT : tabOk P tab = true) (ho : o.op = .load t x) (ht : tyL tab t = some (.bool, q)) (hx : evL P L x = some (.ptr k off)) (hr : Row h k off l) (hv : nth l 0 = some (.bool b)) (hw : wantL ops o L = some true) (hf : fits o.dst n = true)
    (h1 : b = true → R (putD? o.dst (.bool true) L) h) (h0 : b = false → R (putD? o.dst (.bool false) L) h) : Op1 P K ops o L h m n R := Op1.bool (V.loadR0 hT ho ht rfl hx hr hv) hw hf h1 h0
/-- a truth that a call gives: both ways -/
theorem Op1.spB {f : Nat} {args : List HVal} {b : Bool} {S : Heap → Prop} (ho : OpC P o L h f args) (hw : wantL ops o L = some true) (hf : fits o.dst n = true) (hd : Sp P K f args h fun v h' => v = .bool b ∧ S h') (h1 : ∀ h', S h' → b = true → R (putD? o.dst (.bool true) L) h') (h0 : ∀ h', S h' → b = false → R (putD? o.dst (.bool false) L) h') : Op1 P K ops o L h m n R := by
  refine Op1.sp ho hw hf hd ?_
  rintro _ h' ⟨rfl, s⟩
  cases b with
  | true => exact h1 h' s rfl
  | false => exact h0 h' s rfl
/-! ## New objects -/
def OpM (P : Program) (o : Oper) (L : Sts) (h : Heap) (f : Nat → HVal) (ob : HObj) : Prop := ∀ e : Env, Agree L e → opH P (e.eval P) h o = some (.val (f h.next) (h.new ob))
theorem OpM.mk {f : Nat → HVal} {obj : HObj} {op : Op} (ho : o.op = op) (hx : ∀ e : Env, Agree L e → ∀ d t p a g, opH P (e.eval P) h ⟨d, op, t, p, a, g⟩ = some (.val (f h.next) (h.new obj))) : OpM P o L h f obj := by
  intro e ha
  obtain ⟨d, op', t, p, a, g⟩ := o
  simp only at ho
  subst ho
  exact hx e ha d t p a g
theorem Op1.made {f : Nat → HVal} {obj : HObj} (hm : OpM P o L h f obj) (hw : wantL ops o L = some true) (hf : fits o.dst n = true) (w : Wf h) (hr : ∀ k h', Made h k obj h' → R (putD? o.dst (f k) L) h') : Op1 P K ops o L h m n R :=
  Op1.val (fun e ha => hm e ha) hw hf (hr _ _ (made_new w obj))
theorem M.box {e : Nat} {x : Operand} {v : HVal} {l : List HVal} (ho : o.op = .box e x) (hx : evL P L x = some v) (hl : v.cells = some l) : OpM P o L h (fun k => .ptr k 0) (.cells l e false true) := OpM.mk ho fun ev ha d ty ps aft g => by
  simp only [opH, evL_sound ha hx, hl, ob_some]
theorem M.alloc {e : Nat} {z : List HVal} (ho : o.op = .alloc e) (hz : zeroCells? P e = some z) : OpM P o L h (fun k => .ptr k 0) (.cells z e false true) := OpM.mk ho fun ev ha d ty ps aft g => by
  simp only [opH, hz, ob_some]
theorem M.map {t kt e q : Nat} (hT : tabOk P tab = true) (ho : o.op = .makeMap t none) (ht : tyL tab t = some (.map kt e, q)) : OpM P o L h (fun k => .map k) (.map [] 0 true) := OpM.mk ho fun ev ha d ty ps aft g => by
  simp only [opH, tab_map hT ht]
theorem M.slice {t e q w len cap bs : Nat} {i : TI} {kd kd' : IntKind} {x y : Operand} {z : List HVal} (hT : tabOk P tab = true) (ho : o.op = .makeSlice t x y) (ht : tyL tab t = some (.slice e, q)) (he : tyL tab e = some (i, w)) (hx : evL P L x = some (.int kd (.ofNat len))) (hy : evL P L y = some (.int kd' (.ofNat cap))) (hle : len ≤ cap)
    (hb : P.bytesOf e = bs) (h1 : bs * cap ≤ roomH) (h2 : cap ≤ roomH) (hz : zeroCells? P e = some z) (hzl : Nat.beq z.length w = true) : OpM P o L h (fun k => .slice k 0 len (some cap)) (.cells (repl cap z) e false true) := OpM.mk ho fun ev ha d ty ps aft g => by
  have a1 : Nat.ble len cap = true := by rw [nble]; exact decide_eq_true hle
  have a2 : Nat.ble (Nat.mul bs cap) roomH = true := by rw [nble]; exact decide_eq_true h1
  have a3 : Nat.ble cap roomH = true := by rw [nble]; exact decide_eq_true h2
  simp only [opH, (tab_slice hT ht).1, evL_sound ha hx, evL_sound ha hy, HVal.isNat, natOf, ob_some, a1, bcase_true, hb, a2, a3, hz, (tab_ok hT he).2, hzl]
def fillV (P : Program) (L : Sts) (w : Nat) : List (Nat × Operand) → Option (List (Nat × Nat × HVal))
  | [] => some []
  | p :: l => ob (evL P L p.2) fun v => ob (fillV P L w l) fun r => some ((Nat.mul p.1 w, w, v) :: r)
theorem fillV_sound {w : Nat} {ev : Env} (ha : Agree L ev) : ∀ {l : List (Nat × Operand)} {r : List (Nat × Nat × HVal)}, fillV P L w l = some r → l.map (fun p => (Nat.mul p.1 w, w, ev.eval P p.2)) = r
  | [], r, e => by cases e; rfl
  | p :: l, r, e => by
    simp only [fillV] at e
    obtain ⟨v, e1, e2⟩ := ob_eq_some.1 e
    obtain ⟨r', e3, e4⟩ := ob_eq_some.1 e2
    cases e4
    simp only [List.map_cons, evL_sound ha e1, fillV_sound ha e3]
theorem M.buildSlice {t e q w len : Nat} {i : TI} {parts : Array (Nat × Operand)} {ps : List (Nat × Nat × HVal)} {z cs : List HVal} (hT : tabOk P tab = true) (ho : o.op = .buildSlice t len parts) (ht : tyL tab t = some (.slice e, q)) (he : tyL tab e = some (i, w))
    (hle : Nat.ble (Nat.mul len w) 16777216 = true) (hz : zeroCells? P e = some z) (hzl : Nat.beq z.length w = true) (hp : fillV P L w parts.toList = some ps) (hc : fillH ps (repl len z) = some cs) : OpM P o L h (fun k => .slice k 0 len (some len)) (.cells cs e false true) := OpM.mk ho fun ev ha d ty ps' aft g => by
  simp only [opH, (tab_slice hT ht).1, (tab_ok hT he).2, hle, bcase_true, hz, ob_some, hzl, fillV_sound ha hp, hc]
/-! ## Changes -/
theorem Op1.store {t k off w : Nat} {i : TI} {x y : Operand} {v : HVal} {l l' new : List HVal} {e : Nat} {s : Bool} (hT : tabOk P tab = true) (ho : o.op = .store t x y) (ht : tyL tab t = some (i, w)) (hi : ∃ inf, P.info? t = some inf)
    (hx : evL P L x = some (.ptr k off)) (hy : evL P L y = some v) (hc : v.cells = some new) (hl : Nat.beq new.length w = true) (hg : h.get k = some (.cells l e s true)) (hov : overK l off new some = some l') (hw : wantL ops o L = some true) (hf : fits o.dst n = true) (wf : Wf h)
    (hr : ∀ h', Put h k (.cells l' e s true) h' → R (putD? o.dst undefH L) h') : Op1 P K ops o L h m n R := by
  refine Op1.val (v := undefH) (h' := h.put k (.cells l' e s true)) (OpV.mk ho fun ev ha d ty ps aft g => ?_) hw hf (hr _ (put_put wf _ (wf.lt hg)))
  obtain ⟨inf, hi⟩ := hi
  have e1 : storeN h k off new = some (h.put k (.cells l' e s true)) := by
    unfold storeN
    rw [cells_get hg, ob_some, bcase_true]
    rw [overK_eq] at hov ⊢
    split at hov
    · rename_i hle
      have := Option.some.inj hov
      rw [if_pos hle, this]
    · cases hov
  simp only [opH, hi, ob_some, evL_sound ha hx, evL_sound ha hy, HVal.isPtr, hc, (tab_ok hT ht).2, hl, bcase_true, e1]
end
end
end Go.HL
namespace Go.HL
open Go
noncomputable section
section
variable {P : Program} {K : CallFn} {ops : Array Oper} {o : Oper} {L : Sts} {h h' : Heap} {m n : Nat} {R : Sts → Heap → Prop} {tab : Tab}
def Callable (P : Program) (f : Nat) : Prop := ∃ fn c, P.funcs[f]? = some fn ∧ fn.body = some c ∧ (fn.name == "runtime.NumGoroutine") = false ∧ Nat.blt f roundNo = true
def argsV (P : Program) (L : Sts) : List Operand → Option (List HVal)
  | [] => some []
  | x :: l => ob (evL P L x) fun v => ob (argsV P L l) fun vs => some (v :: vs)
theorem argsV_sound {ev : Env} (ha : Agree L ev) : ∀ {l : List Operand} {vs : List HVal}, argsV P L l = some vs → l.map (ev.eval P) = vs
  | [], vs, e => by cases e; rfl
  | x :: l, vs, e => by
    simp only [argsV] at e
    obtain ⟨v, e1, e2⟩ := ob_eq_some.1 e
    obtain ⟨r, e3, e4⟩ := ob_eq_some.1 e2
    cases e4
    simp only [List.map_cons, evL_sound ha e1, argsV_sound ha e3]
theorem C.call {c : Call} {x : Operand} {f : Nat} {args : List HVal} (ho : o.op = .call c) (hc : c.callee = .value x) (hx : evL P L x = some (.func f [] [])) (ha : argsV P L c.args.toList = some args) (hf : Callable P f) : OpC P o L h f args := by
  refine ⟨fun ev hag => ?_, hf.elim fun _ ⟨_, _, _, _, h4⟩ => h4⟩
  obtain ⟨d, op, ty, ps, aft, g⟩ := o
  simp only at ho
  subst ho
  obtain ⟨fn, cd, h1, h2, h3, h4⟩ := hf
  simp only [opH, hc, evL_sound hag hx, argsV_sound hag ha, callH, h1, h2, ob_some, h3, bcase_false, h4, bcase_true, List.nil_append, List.append_nil]
theorem Row.grow {k off : Nat} {l : List HVal} (g : Grow h h') (hr : Row h k off l) : Row h' k off l := by
  have hr := hr.load
  refine ⟨?_⟩
  unfold loadN at hr ⊢
  obtain ⟨o, ho, e⟩ := ob_eq_some.1 hr
  have := cells_get (g.get (cells_inv ho))
  rw [this, ob_some]
  exact e
/-- the block of a slice -/
def keyV : HVal → Option Nat
  | .slice k _ _ _ => some k
  | _ => none
theorem Row.keep {k off : Nat} {l : List HVal} (e : h'.get k = h.get k) (hr : Row h k off l) : Row h' k off l := by
  have hr := hr.load
  refine ⟨?_⟩
  unfold loadN Heap.cells at hr ⊢
  rw [e]; exact hr
/-- a slice that is read: its elements, each a row of cells -/
structure SliceAt (h : Heap) (v : HVal) (w : Nat) (rows : List (List HVal)) : Prop where
  len : lenV v = some rows.length
  row : ∀ i r, rows[i]? = some r → ∃ k off cap, v = .slice k off rows.length cap ∧ Row h k (Nat.add off (Nat.mul i w)) r
theorem SliceAt.grow {v : HVal} {w : Nat} {rows : List (List HVal)} (g : Grow h h') (s : SliceAt h v w rows) : SliceAt h' v w rows :=
  ⟨s.1, fun i r hr => let ⟨k, off, cap, e, hrow⟩ := s.2 i r hr; ⟨k, off, cap, e, hrow.grow g⟩⟩
theorem Op1.index {t e q w j : Nat} {i : TI} {x y : Operand} {v : HVal} {kd : IntKind} {rows : List (List HVal)} {r : List HVal} (hT : tabOk P tab = true) (ho : o.op = .indexAddr t x y) (ht : tyL tab t = some (.slice e, q)) (he : tyL tab e = some (i, w))
    (hx : evL P L x = some v) (hy : evL P L y = some (.int kd (.ofNat j))) (hw : wantL ops o L = some true) (hf : fits o.dst n = true) (hs : SliceAt h v w rows) (hr : rows[j]? = some r) (hk : ∀ k off, Row h k off r → keyV v = some k → R (putD? o.dst (.ptr k off) L) h) : Op1 P K ops o L h m n R := by
  obtain ⟨k, off, cap, rfl, hrow⟩ := hs.2 j r hr
  have hj : j < rows.length := (List.getElem?_eq_some_iff.1 hr).1
  exact Op1.val (V.indexAddr hT ho ht he hx hy hj) hw hf (hk k _ hrow rfl)
/-- the contract of a call that only makes -/
def Gives (h : Heap) (v0 v : HVal) (h' : Heap) : Prop := v = v0 ∧ Grow h h' ∧ Wf h'
end
end
end Go.HL
namespace Go.HL
open Go
noncomputable section
section
variable {P : Program} {K : CallFn} {ops : Array Oper} {o : Oper} {L : Sts} {h h' : Heap} {m n : Nat} {R : Sts → Heap → Prop} {tab : Tab}
theorem To.fn_cell {fn : Func} {T : HVal → Heap → Prop} {a t b k q : Nat} {l : List HVal} {e : Nat} {s r : Bool} {v : HVal} {fs : List (Nat × Nat)} (hT : tabOk P tab = true) (hres : fn.results.toList = [.cell a t, .tmp b]) (ha : look L a = some (.ptr k 0)) (ht : tyL tab t = some (.struct fs, q))
    (hg : h.get k = some (.cells l e s r)) (hl : Nat.beq l.length q = true) (hv : look L b = some v) (hr : T (.tuple [.agg l, v]) h) : To (FnQ P fn T) .ret L h m n := by
  constructor
  intro st f
  refine ⟨.inr rfl, f.defers, .tuple [.agg l, v], ?_, by rw [f.heap]; exact hr⟩
  unfold resOf
  have h1 := f.env _ _ ha
  have h2 := f.env _ _ hv
  have h3 : loadT P h t k 0 = some (.agg l) := by
    have hl' := Nat.eq_of_beq_eq_true hl
    simp only [loadT, tab_agg hT ht, TI.agg, ob_some, bcase_true, loadN, cells_get hg, (tab_ok hT ht).2, takeK_eq, dropN_eq, List.drop_zero]
    rw [if_pos (by omega), ob_some, List.take_of_length_le (by omega)]
  simp only [hres, resList, h1, h2, HVal.isPtr, ob_some, f.heap, h3]
def placesV (P : Program) (tab : Tab) (L : Sts) (fs : List (Nat × Nat)) : List (Nat × Operand) → Option (List (Nat × Nat × HVal))
  | [] => some []
  | p :: l => ob (nth fs p.1) fun f => ob (tyL tab f.2) fun w => ob (evL P L p.2) fun v => ob (placesV P tab L fs l) fun r => some ((f.1, w.2, v) :: r)
theorem placesV_sound (hT : tabOk P tab = true) {ev : Env} (ha : Agree L ev) {fl : List Field} {fs : List (Nat × Nat)} (hb : fieldsB fl fs = true) : ∀ {l : List (Nat × Operand)} {r : List (Nat × Nat × HVal)}, placesV P tab L fs l = some r → placesOf P fl (ev.eval P) l = some r
  | [], r, e => by cases e; rfl
  | p :: l, r, e => by
    simp only [placesV] at e
    obtain ⟨f, e1, e2⟩ := ob_eq_some.1 e
    obtain ⟨w, e3, e4⟩ := ob_eq_some.1 e2
    obtain ⟨v, e5, e6⟩ := ob_eq_some.1 e4
    obtain ⟨r', e7, e8⟩ := ob_eq_some.1 e6
    cases e8
    obtain ⟨fd, g1, g2, g3⟩ := fieldsB_get hb e1
    have g1' : nth fl p.1 = some fd := by rw [nth_eq]; exact g1
    simp only [placesOf, g1', ob_some, placesV_sound hT ha hb e7, g2, g3, (tab_ok hT (i := w.1) (n := w.2) e3).2, evL_sound ha e5]
def allTyped (tab : Tab) : List (Nat × Nat) → Bool
  | [] => true
  | p :: l => match tyL tab p.2 with | some _ => allTyped tab l | none => false
theorem infos_of (hT : tabOk P tab = true) : ∀ {fl : List Field} {fs : List (Nat × Nat)}, fieldsB fl fs = true → allTyped tab fs = true → infosOk P fl = true
  | [], _, _, _ => rfl
  | f :: fl, [], h, _ => by cases h
  | f :: fl, q :: fs, h, h2 => by
    simp only [fieldsB, bcase_false_eq] at h
    obtain ⟨_, g2, g3⟩ := h
    simp only [allTyped] at h2
    cases ht : tyL tab q.2 with
    | none => rw [ht] at h2; cases h2
    | some w =>
      rw [ht] at h2
      have hag := tab_agg hT (i := w.1) (n := w.2) ht
      unfold aggOf at hag
      obtain ⟨d, hd, _⟩ := ob_eq_some.1 hag
      rw [← Nat.eq_of_beq_eq_true g2] at hd
      obtain ⟨inf, hi⟩ := info_of_underlying hd
      simp only [infosOk, hi]
      exact infos_of hT g3 h2
theorem V.build {t q : Nat} {parts : Array (Nat × Operand)} {fs : List (Nat × Nat)} {ps : List (Nat × Nat × HVal)} {z cs : List HVal} (hT : tabOk P tab = true) (ho : o.op = .build t parts) (ht : tyL tab t = some (.struct fs, q)) (hz : zeroCells? P t = some z) (hp : placesV P tab L fs parts.toList = some ps) (ha : allTyped tab fs = true)
    (hc : fillH ps z = some cs) : OpV P o L h (.agg cs) h := OpV.mk ho fun ev hag d ty pp aft g => by
  obtain ⟨fl, hu, hb⟩ := tab_struct hT ht
  simp only [opH, hz, ob_some, hu, infos_of hT hb ha, bcase_true, placesV_sound hT hag hb hp, hc]
/-- a store into what is new since h0 -/
theorem Op1.storeN {h0 : Heap} {t k off w : Nat} {i : TI} {x y : Operand} {v : HVal} {l l' new : List HVal} {e : Nat} {s : Bool} (hT : tabOk P tab = true) (ho : o.op = .store t x y) (ht : tyL tab t = some (i, w)) (hi : ∃ inf, P.info? t = some inf)
    (hx : evL P L x = some (.ptr k off)) (hy : evL P L y = some v) (hc : v.cells = some new) (hl : Nat.beq new.length w = true) (hg : h.get k = some (.cells l e s true)) (hov : overK l off new some = some l') (hw : wantL ops o L = some true) (hf : fits o.dst n = true) (wf : Wf h)
    (hk : h0.get k = none) (hgr : Grow h0 h) (hr : ∀ h', h'.get k = some (.cells l' e s true) → Grow h0 h' → Wf h' → (∀ j, j ≠ k → h'.get j = h.get j) → R (putD? o.dst undefH L) h') : Op1 P K ops o L h m n R :=
  Op1.store hT ho ht hi hx hy hc hl hg hov hw hf wf fun h' p => hr h' p.get (p.ext hgr hk) p.wf p.old
theorem Op1.indexI {t e q w : Nat} {a : Int} {i : TI} {x y : Operand} {v : HVal} {kd : IntKind} {rows : List (List HVal)} {r : List HVal} (hT : tabOk P tab = true) (ho : o.op = .indexAddr t x y) (ht : tyL tab t = some (.slice e, q)) (he : tyL tab e = some (i, w))
    (hx : evL P L x = some v) (hy : evL P L y = some (.int kd a)) (hw : wantL ops o L = some true) (hf : fits o.dst n = true) (h0 : 0 ≤ a) (hs : SliceAt h v w rows) (hr : rows[a.toNat]? = some r) (hk : ∀ k off, Row h k off r → keyV v = some k → R (putD? o.dst (.ptr k off) L) h) : Op1 P K ops o L h m n R := by
  obtain ⟨j, rfl⟩ := Int.eq_ofNat_of_zero_le h0
  exact Op1.index hT ho ht he hx hy hw hf hs hr hk
end
end
end Go.HL
namespace Go.HL
open Go
noncomputable section
section
variable {P : Program} {K : CallFn} {ops : Array Oper} {o : Oper} {L L' : Sts} {h h' : Heap} {m n : Nat} {Q : Ex → St → Prop} {a : Code}
/-- a loop that counts -/
theorem WC.iter (S : Nat → Sts) (H : Nat → Heap → Prop) (N : Nat)
    (step : ∀ i h, i ≤ N → H i h → (∀ L' h', i < N → Subs (S (i + 1)) L' → H (i + 1) h' → WC P K (.loop a) L' h' m n Q) → WC P K a (S i) h m n (afterSeq P K (.loop a) Q)) :
    ∀ (i : Nat) (h : Heap), i ≤ N → H i h → WC P K (.loop a) (S i) h m n Q := by
  have main : ∀ (k i : Nat) (h : Heap), N - i = k → i ≤ N → H i h → WC P K (.loop a) (S i) h m n Q := by
    intro k
    induction k with
    | zero => exact fun i h hk hi hh => WC.loop (step i h hi hh fun L' h' hlt _ _ => absurd hlt (by omega))
    | succ k ih => exact fun i h hk hi hh => WC.loop (step i h hi hh fun L' h' hlt hs hh' => WC.sub hs (ih (i + 1) h' (by omega) (by omega) hh'))
  exact fun i h hi hh => main (N - i) i h rfl hi hh
/-- a loop that ends because a number falls -/
theorem WC.fall {ι : Type} (S : ι → Sts) (H : ι → Heap → Prop) (μ : ι → Nat)
    (step : ∀ i h, H i h → (∀ j L' h', μ j < μ i → Subs (S j) L' → H j h' → WC P K (.loop a) L' h' m n Q) → WC P K a (S i) h m n (afterSeq P K (.loop a) Q)) :
    ∀ (i : ι) (h : Heap), H i h → WC P K (.loop a) (S i) h m n Q := by
  have main : ∀ (k : Nat) (i : ι) (h : Heap), μ i < k → H i h → WC P K (.loop a) (S i) h m n Q := by
    intro k
    induction k with
    | zero => exact fun i h hk => absurd hk (by omega)
    | succ k ih => exact fun i h hk hh => WC.loop (step i h hh fun j L' h' hlt hs hh' => WC.sub hs (ih j h' (by omega) hh'))
  exact fun i h hh => main (μ i + 1) i h (by omega) hh
/-! ## Regions whose order is open -/
inductive AL where
  | read (j : Nat) (o : Oper) (L : Sts) (v : HVal)
  | change (e : Nat) (a b : Heap)
def LogC : AL → LogE → Prop
  | .read j o L v, .read j' o' env v' => j = j' ∧ o = o' ∧ v = v' ∧ Agree L env
  | .change e a b, .change e' a' b' => e = e' ∧ a = a' ∧ b = b'
  | _, _ => False
def LogsC : List AL → List LogE → Prop
  | [], [] => True
  | x :: l, y :: m => LogC x y ∧ LogsC l m
  | _, _ => False
def upd (P : Program) (ops : Array Oper) (i : Nat) (o : Oper) (L : Sts) (h : Heap) (L' : Sts) (h' : Heap) (al : List AL) : Option (List AL) :=
  bcase (isChange P o) (some (.change i h h' :: al)) (bcase (isRead P o) (match o.dst with
    | some d => match wantL ops o L with
      | some true => match look L' d with
        | some v => some (.read i o L v :: al)
        | none => none
      | some false => some al
      | none => none
    | none => none) (some al))
structure WD (P : Program) (K : CallFn) (ops : Array Oper) (pl : List Nat) (al : List AL) (L : Sts) (h : Heap) (m n : Nat) (R : List AL → Sts → Heap → Prop) : Prop where
  run : ∀ s log, Fr m n L h s → LogsC al log → ∃ s' log' al' L' h', (∃ N, ∀ k, N ≤ k → drawH P (gate (callOr K (callWith P (execH P K k)))) ops (Region.before ops) pl log none s = some (log', none, s')) ∧ LogsC al' log' ∧ Fr m n L' h' s' ∧ R al' L' h'
variable {pl : List Nat} {al : List AL} {R : List AL → Sts → Heap → Prop}
theorem WD.nil (hr : R al L h) : WD P K ops [] al L h m n R := ⟨fun s log f hl => ⟨s, log, al, L, h, ⟨0, fun _ _ => rfl⟩, hl, f, hr⟩⟩
theorem WD.cons {i : Nat} (hi : ops[i]? = some o) (ho : Op1 P K ops o L h m n fun L' h' => ∃ al', upd P ops i o L h L' h' al = some al' ∧ WD P K ops pl al' L' h' m n R) : WD P K ops (i :: pl) al L h m n R := by
  constructor
  intro s log f hl
  obtain ⟨s1, L1, h1, ⟨N1, g1⟩, f1, al1, hu, w⟩ := ho.run s f
  have main : ∃ log1, LogsC al1 log1 ∧ ∀ call : CallFn, operH P call ops o s = some (.nrm, s1) → ∀ rest, drawH P call ops (Region.before ops) (i :: rest) log none s = drawH P call ops (Region.before ops) rest log1 none s1 := by
    unfold upd at hu
    cases hc : isChange P o with
    | true =>
      rw [hc, bcase_true] at hu
      cases hu
      refine ⟨.change i s.heap s1.heap :: log, ⟨⟨rfl, f.heap.symm, f1.heap.symm⟩, hl⟩, fun call hcall rest => ?_⟩
      simp only [drawH, isDead, bcase_false, hi, ob_some, hcall, hc, bcase_true]
    | false =>
      rw [hc, bcase_false] at hu
      cases hr : isRead P o with
      | false =>
        rw [hr, bcase_false] at hu
        cases hu
        refine ⟨log, hl, fun call hcall rest => ?_⟩
        simp only [drawH, isDead, bcase_false, hi, ob_some, hcall, hc, hr]
      | true =>
        rw [hr, bcase_true] at hu
        cases hd : o.dst with
        | none => rw [hd] at hu; cases hu
        | some d =>
          rw [hd] at hu
          simp only at hu
          cases hw : wantL ops o L with
          | none => rw [hw] at hu; cases hu
          | some b =>
            rw [hw] at hu
            have hw' := wantL_sound f.env hw
            cases b with
            | false =>
              cases hu
              refine ⟨log, hl, fun call hcall rest => ?_⟩
              simp only [drawH, isDead, bcase_false, hi, ob_some, hcall, hc, hr, bcase_true, hd, hw']
            | true =>
              simp only at hu
              cases hv : look L1 d with
              | none => rw [hv] at hu; cases hu
              | some v =>
                rw [hv] at hu
                cases hu
                refine ⟨.read i o s.env (s1.env.get d) :: log, ⟨⟨rfl, rfl, (f1.env _ _ hv).symm, f.env⟩, hl⟩, fun call hcall rest => ?_⟩
                simp only [drawH, isDead, bcase_false, hi, ob_some, hcall, hc, hr, bcase_true, hd, hw']
  obtain ⟨log1, hl1, hstep⟩ := main
  obtain ⟨s2, log2, al2, L2, h2, ⟨N2, g2⟩, hl2, f2, r⟩ := w.run s1 log1 f1 hl1
  refine ⟨s2, log2, al2, L2, h2, ⟨max N1 N2, fun k hk => ?_⟩, hl2, f2, r⟩
  rw [hstep _ (g1 k (by omega)).2]
  exact g2 k (by omega)
/-- reads and changes that are not ordered -/
def ReadOk (P : Program) (anc : Array Nat) (j : Nat) (o : Oper) (L : Sts) (v : HVal) : List AL → Prop
  | [] => True
  | .change e a b :: l => ((bcase (bit (anc.getD j 0) e) true (bit (anc.getD e 0) j)) = true ∨ (∃ x y, OpV P o L a v x ∧ OpV P o L b v y) ∧ HVal.beq v v = true) ∧ ReadOk P anc j o L v l
  | .read _ _ _ _ :: l => ReadOk P anc j o L v l
def AlOk (P : Program) (anc : Array Nat) (al : List AL) : List AL → Prop
  | [] => True
  | .read j o L v :: l => ReadOk P anc j o L v al ∧ AlOk P anc al l
  | .change _ _ _ :: l => AlOk P anc al l
theorem readOk_of {anc : Array Nat} {j : Nat} {o : Oper} {L : Sts} {v : HVal} {env : Env} (ha : Agree L env) : ∀ {al : List AL} {log : List LogE}, LogsC al log → ReadOk P anc j o L v al → readOk P anc j o env v log = true
  | [], [], _, _ => rfl
  | [], _ :: _, h, _ => by cases h
  | _ :: _, [], h, _ => by cases h
  | .read _ _ _ _ :: al, y :: log, h, r => by
    cases y with
    | read j' o' env' v' =>
      show readOk P anc j o env v log = true
      exact readOk_of ha h.2 r
    | change e a b => exact absurd h.1 (by simp [LogC])
  | .change e a b :: al, y :: log, h, r => by
    cases y with
    | read j' o' env' v' => exact absurd h.1 (by simp [LogC])
    | change e' a' b' =>
      obtain ⟨⟨rfl, rfl, rfl⟩, h2⟩ := h
      have ih := readOk_of ha h2 r.2
      simp only [readOk, ih]
      rcases r.1 with g | ⟨⟨x, y, g1, g2⟩, g3⟩
      · rw [g]; rfl
      · have e1 : sameRead P o env v a = true := by simp only [sameRead, g1 env ha]; exact g3
        have e2 : sameRead P o env v b = true := by simp only [sameRead, g2 env ha]; exact g3
        rw [e1, e2]
        generalize (bcase (bit (anc.getD j 0) e) true (bit (anc.getD e 0) j)) = q
        cases q <;> rfl
theorem logOk_of {anc : Array Nat} {al0 : List AL} {log0 : List LogE} (h0 : LogsC al0 log0) : ∀ {al : List AL} {log : List LogE}, LogsC al log → AlOk P anc al0 al → logOk P anc log0 log = true
  | [], [], _, _ => rfl
  | [], _ :: _, h, _ => by cases h
  | _ :: _, [], h, _ => by cases h
  | .read j o L v :: al, y :: log, h, r => by
    cases y with
    | read j' o' env' v' =>
      obtain ⟨⟨rfl, rfl, rfl, ha⟩, h2⟩ := h
      simp only [logOk, readOk_of ha h0 r.1, bcase_true]
      exact logOk_of h0 h2 r.2
    | change e a b => exact absurd h.1 (by simp [LogC])
  | .change e a b :: al, y :: log, h, r => by
    cases y with
    | read j' o' env' v' => exact absurd h.1 (by simp [LogC])
    | change e' a' b' =>
      show logOk P anc log0 log = true
      exact logOk_of h0 h.2 r
/-- a region whose order is open -/
theorem WC.draw {id : Nat} (pl : List Nat) (anc : Array Nat) (hp : planOk P ops = true) (hl : planOf P ops = pl) (han : Region.before ops = anc) (hw : WD P K ops pl [] L h m n fun al L' h' => AlOk P anc al al ∧ Then m n Q L' h') : WC P K (.region id ops true) L h m n Q := by
  subst han
  constructor
  intro s f
  have fa : Fr m n L h s.alone := ⟨f.env, f.heap, f.defers, rfl, f.mask, f.lim⟩
  obtain ⟨s1, log1, al1, L1, h1, ⟨N, g⟩, hl1, f1, hok, ⟨L2, hk, q⟩⟩ := hw.run s.alone [] fa trivial
  have hlog := logOk_of hl1 hl1 hok
  let s2 : St := ⟨s1.env, s1.heap, s1.defers, s.pan, s.mask, s.lim⟩
  have f2 : Fr m n L1 h1 s2 := ⟨f1.env, f1.heap, f1.defers, f.pan, f.mask, f.lim⟩
  obtain ⟨s3, e3, f3⟩ := f2.flush hk
  refine ⟨_, s3, ⟨N + 1, fun k hk' => ?_⟩, q.run s3 f3⟩
  obtain ⟨k, rfl⟩ : ∃ j, k = j + 1 := ⟨k - 1, by omega⟩
  rw [exec_succ, stepC, bcase_true, hp, bcase_true, hl, g k (by omega), ob_some]
  simp only [drawnH, hlog, bcase_true, ob_some]
  exact e3
end
end
end Go.HL
namespace Go.HL
open Go
noncomputable section
section
variable {h h' : Heap}
theorem row_of {k off : Nat} {l r : List HVal} {e : Nat} {s w : Bool} (hg : h.get k = some (.cells l e s w)) (hr : (l.drop off).take r.length = r) : Row h k off r := by
  refine ⟨?_⟩
  unfold loadN
  rw [cells_get hg, ob_some, takeK_eq, dropN_eq]
  have hle : r.length ≤ (l.drop off).length := by
    have := congrArg List.length hr
    rw [List.length_take] at this
    omega
  rw [if_pos hle, hr]
theorem sliceAt_one {k e : Nat} {l : List HVal} {s w : Bool} {cap : Option Nat} (hg : h.get k = some (.cells l e s w)) : SliceAt h (.slice k 0 l.length cap) 1 (l.map fun v => [v]) := by
  refine ⟨by simp [lenV], fun i r hr => ⟨k, 0, cap, by simp, row_of hg ?_⟩⟩
  rw [List.getElem?_map] at hr
  obtain ⟨v, hv, rfl⟩ := Option.map_eq_some_iff.1 hr
  have hi := (List.getElem?_eq_some_iff.1 hv).1
  simp only [Nat.add_eq, Nat.mul_eq, Nat.mul_one, Nat.zero_add, List.length_singleton]
  rw [List.drop_eq_getElem_cons hi]
  have := List.getElem?_eq_some_iff.1 hv
  simp [this.2]
theorem sliceAt_nils {w : Nat} : SliceAt h .nils w [] := ⟨rfl, fun i r hr => by simp at hr⟩
theorem any_step {α : Type} (p : α → Bool) {l : List α} {i : Nat} (hi : i < l.length) (d : α) : (l.drop i).any p = (p (l.getD i d) || (l.drop (i + 1)).any p) := by
  rw [List.drop_eq_getElem_cons hi, List.any_cons]
  simp [List.getD, List.getElem?_eq_getElem hi]
theorem all_step {α : Type} (p : α → Bool) {l : List α} {i : Nat} (hi : i < l.length) (d : α) : (l.drop i).all p = (p (l.getD i d) && (l.drop (i + 1)).all p) := by
  rw [List.drop_eq_getElem_cons hi, List.all_cons]
  simp [List.getD, List.getElem?_eq_getElem hi]
theorem row_i {α : Type} {l : List α} {g : α → List HVal} {i : Nat} (d : α) (hi : i < l.length) : (l.map g)[i]? = some (g (l.getD i d)) := by
  simp [List.getD, List.getElem?_eq_getElem hi]
theorem getD_mem {α : Type} {l : List α} {i : Nat} (d : α) (hi : i < l.length) : l.getD i d ∈ l := by
  simp [List.getD, List.getElem?_eq_getElem hi]
theorem drop_cons {α : Type} {l : List α} {i : Nat} (hi : i < l.length) (d : α) : l.drop i = l.getD i d :: l.drop (i + 1) := by
  rw [List.drop_eq_getElem_cons hi]
  simp [List.getD, List.getElem?_eq_getElem hi]
theorem drop_eq_iff {α : Type} {a b : List α} {i : Nat} (ha : i < a.length) (hb : i < b.length) (d : α) : a.drop i = b.drop i ↔ a.getD i d = b.getD i d ∧ a.drop (i + 1) = b.drop (i + 1) := by
  rw [drop_cons ha d, drop_cons hb d, List.cons.injEq]
/-- an index that is below -/
theorem lt_of_cast {i n : Nat} (h : (i : Int) < (n : Int)) : i < n := by omega
theorem not_lt_of_cast {i n : Nat} (h : ¬ (i : Int) < (n : Int)) : n ≤ i := by omega
end
end
end Go.HL
