/- HL, run by the kernel: the fast evaluator; known calls. No statement of the seat stands here. -/
import Derived.Test.YtolkehkjhpnioaaGreatDoorHlA
import Derived.Test.YtolkehkjhpnioaaGreatDoorHlD
import Derived.Test.YtolkehkjhpnioaaGreatDoorHlF
namespace Go.HL
open Go
noncomputable section
set_option linter.unusedVariables false
def op1_move (P : Program) (ρ : Operand → HVal) (h : Heap) (x : Operand) : Option Out := some (.val (ρ x) h)
def op1_assign (P : Program) (ρ : Operand → HVal) (h : Heap) (x : Operand) : Option Out := some (.val (ρ x) h)
def op1_pick (P : Program) (ρ : Operand → HVal) (h : Heap) (c : Operand) (a : Operand) (b : Operand) : Option Out := ob (ρ c).isBool fun t => some (.val (bcase t (ρ a) (ρ b)) h)
def op1_alloc (P : Program) (ρ : Operand → HVal) (h : Heap) (e : TypeId) : Option Out := ob (zeroCells? P e) fun z => some (.val (.ptr h.next 0) (h.new (.cells z e false true)))
def op1_box (P : Program) (ρ : Operand → HVal) (h : Heap) (e : TypeId) (x : Operand) : Option Out := ob (ρ x).cells fun l => some (.val (.ptr h.next 0) (h.new (.cells l e false true)))
def op1_build (P : Program) (ρ : Operand → HVal) (h : Heap) (t : TypeId) (parts : Array (Nat × Operand)) : Option Out := ob (zeroCells? P t) fun z => match P.underlying t with
  | some (.struct fields) => bcase (infosOk P fields.toList) (ob (placesOf P fields.toList ρ parts.toList) fun l => ob (fillH l z) fun cs => some (.val (.agg cs) h)) none
  | some (.array _ e) => ob (P.info? e) fun _ => ob (fillH (parts.toList.map fun p => (Nat.mul p.1 (P.cellsOf e), P.cellsOf e, ρ p.2)) z) fun cs => some (.val (.agg cs) h)
  | _ => none
def op1_buildSlice (P : Program) (ρ : Operand → HVal) (h : Heap) (t : TypeId) (len : Nat) (parts : Array (Nat × Operand)) : Option Out := match P.underlying t with
  | some (.slice e) => bcase (Nat.ble (Nat.mul len (P.cellsOf e)) 16777216)
    (ob (zeroCells? P e) fun z => bcase (Nat.beq z.length (P.cellsOf e)) (ob (fillH (parts.toList.map fun p => (Nat.mul p.1 (P.cellsOf e), P.cellsOf e, ρ p.2)) (repl len z)) fun cs =>
     some (.val (.slice h.next 0 len (some len)) (h.new (.cells cs e false true)))) none) none
  | _ => none
def op1_load (P : Program) (ρ : Operand → HVal) (h : Heap) (t : TypeId) (a : Operand) : Option Out := ob (ρ a).isPtr fun a => val h (loadT P h t a.1 a.2)
def op1_store (P : Program) (ρ : Operand → HVal) (h : Heap) (t : TypeId) (a : Operand) (v : Operand) : Option Out := ob (P.info? t) fun _ => ob (ρ a).isPtr fun a => ob (ρ v).cells fun l => bcase (Nat.beq l.length (P.cellsOf t)) (ob (storeN h a.1 a.2 l) fun h' => some (.val undefH h')) none
def op1_nilCheck (P : Program) (ρ : Operand → HVal) (h : Heap) (x : Operand) : Option Out := match ρ x with
  | .ptr k off => some (.val (.ptr k off) h)
  | .func f a b => some (.val (.func f a b) h)
  | _ => none
def op1_binOp (P : Program) (ρ : Operand → HVal) (h : Heap) (op : BinOp) (t : TypeId) (x : Operand) (y : Operand) (x_4 : TypeId) : Option Out := val h (binC P op t (bcase (isLit x) true (isLit y)) (ρ x) (ρ y))
def op1_unOp (P : Program) (ρ : Operand → HVal) (h : Heap) (op : UnOp) (x_1 : TypeId) (x : Operand) : Option Out := val h (unH op (ρ x))
def op1_convert (P : Program) (ρ : Operand → HVal) (h : Heap) (s : TypeId) (d : TypeId) (x : Operand) : Option Out := match toBytes P s d with
  | some _ => bytesH (ρ x) h
  | none => convH P s d (ρ x) h
def op1_makeInterface (P : Program) (ρ : Operand → HVal) (h : Heap) (t : TypeId) (x : Operand) : Option Out := match P.underlying t with
  | some (.interface _) => none
  | some _ => some (.val (.iface t (ρ x)) h)
  | none => none
def op1_makeFunc (P : Program) (ρ : Operand → HVal) (h : Heap) (ff : Fn) (first : Array Operand) (cap : Array Operand) : Option Out := match ff with
  | .func f => some (.val (.func f (first.toList.map ρ) (cap.toList.map ρ)) h)
  | _ => none
def op1_makeMap (P : Program) (ρ : Operand → HVal) (h : Heap) (t : TypeId) (r : Option Operand) : Option Out := match P.underlying t with
  | some (.map _ _) => match r with
   | none => some (.val (.map h.next) (h.new (.map [] 0 true)))
   | some x => ob (ρ x).isInt fun _ => some (.val (.map h.next) (h.new (.map [] 0 true)))
  | _ => none
def op1_makeSlice (P : Program) (ρ : Operand → HVal) (h : Heap) (t : TypeId) (l : Operand) (c : Operand) : Option Out := match P.underlying t with
  | some (.slice e) => ob (ρ l).isNat fun l => ob (ρ c).isNat fun c => bcase (Nat.ble l c) (bcase (Nat.ble (Nat.mul (P.bytesOf e) c) roomH) (bcase (Nat.ble c roomH)
    (ob (zeroCells? P e) fun z => bcase (Nat.beq z.length (P.cellsOf e)) (some (.val (.slice h.next 0 l (some c)) (h.new (.cells (repl c z) e false true)))) none) none) none) none
  | _ => none
def op1_slice (P : Program) (ρ : Operand → HVal) (h : Heap) (t : TypeId) (x : Operand) (lo : Option Operand) (hi : Option Operand) (mx : Option Operand) : Option Out := bcase (elemOk P t) (val h (sliceH P h t (ρ x) (lo.map ρ) (hi.map ρ) (mx.map ρ))) none
def op1_fieldAddr (P : Program) (ρ : Operand → HVal) (h : Heap) (t : TypeId) (x : Operand) (f : Nat) : Option Out := match P.underlying t with
  | some (.struct fields) => ob (ρ x).isPtr fun a => ob fields[f]? fun fd => bcase (Nat.beq (P.cellsOf fd.type) 0) none (some (.val (.ptr a.1 (Nat.add a.2 fd.offset)) h))
  | _ => none
def op1_field (P : Program) (ρ : Operand → HVal) (h : Heap) (t : TypeId) (x : Operand) (f : Nat) : Option Out := match P.underlying t with
  | some (.struct fields) => ob (ρ x).isAgg fun cs => ob fields[f]? fun fd => val h (partH P fd.type cs fd.offset)
  | _ => none
def op1_indexAddr (P : Program) (ρ : Operand → HVal) (h : Heap) (t : TypeId) (x : Operand) (i : Operand) : Option Out := bcase (elemOk P t) (ob (ρ i).isNat fun i => match P.underlying t with
  | some (.array n e) => ob (ρ x).isPtr fun a => bcase (Nat.blt i n) (some (.val (.ptr a.1 (Nat.add a.2 (Nat.mul i (P.cellsOf e)))) h)) none
  | some (.slice e) => match ρ x with
   | .slice k off n _ => bcase (Nat.blt i n) (some (.val (.ptr k (Nat.add off (Nat.mul i (P.cellsOf e)))) h)) none
   | _ => none
  | _ => none) none
def op1_index (P : Program) (ρ : Operand → HVal) (h : Heap) (t : TypeId) (x : Operand) (i : Operand) : Option Out := bcase (elemOk P t) (ob (ρ i).isNat fun i => match P.underlying t with
  | some (.array n e) => ob (ρ x).isAgg fun cs => bcase (Nat.blt i n) (val h (partH P e cs (Nat.mul i (P.cellsOf e)))) none
  | some .string => match ρ x with
   | .str n c => bcase (Nat.blt i n) (some (.val (.int .u8 (Int.ofNat (sIndex n c i))) h)) none
   | _ => none
  | _ => none) none
def op1_lookup (P : Program) (ρ : Operand → HVal) (h : Heap) (t : TypeId) (x : Operand) (i : Operand) (ok : Bool) : Option Out := lookupH P t (ρ x) (ρ i) ok h
def op1_mapUpdate (P : Program) (ρ : Operand → HVal) (h : Heap) (t : TypeId) (m : Operand) (k : Operand) (v : Operand) : Option Out := updateH P t (ρ m) (ρ k) (ρ v) h
def op1_insert (P : Program) (ρ : Operand → HVal) (h : Heap) (t : TypeId) (m : Operand) (k : Operand) (v : Operand) : Option Out := updateH P t (ρ m) (ρ k) (ρ v) h
def op1_mapEntry (P : Program) (ρ : Operand → HVal) (h : Heap) (t : TypeId) (m : Operand) (k : Operand) : Option Out := entryH P t (ρ m) (ρ k) h
def op1_entryStore (P : Program) (ρ : Operand → HVal) (h : Heap) (x_0 : TypeId) (m : Operand) (s : Operand) (v : Operand) : Option Out := ob (ρ m).isMap fun r => ob (ρ s).isNat fun n => ob (h.entries r) fun o => bcase o.2.2
   (ob (bornH n o.1) fun e => some (.val undefH (h.put r (.map (o.1.set e.1 ⟨e.2.key, ρ v, e.2.born⟩) o.2.1 true)))) none
def op1_typeAssert (P : Program) (ρ : Operand → HVal) (h : Heap) (x : Operand) (x_1 : TypeId) (asserted : TypeId) (ok : Bool) : Option Out := match P.underlying asserted with
  | some (.interface _) => none
  | some _ => match ρ x with
   | .nili => bcase ok (ob (zeroH P asserted) fun z => some (.val (.tuple [z, .bool false]) h)) none
   | .iface t v => bcase (Nat.beq t asserted) (some (.val (bcase ok (.tuple [v, .bool true]) v) h))
     (bcase ok (ob (zeroH P asserted) fun z => some (.val (.tuple [z, .bool false]) h)) none)
   | _ => none
  | none => none
def op1_range (P : Program) (ρ : Operand → HVal) (h : Heap) (t : TypeId) (x : Operand) : Option Out := rangeH P t (ρ x) h
def op1_next (P : Program) (ρ : Operand → HVal) (h : Heap) (it : Operand) (str : Bool) : Option Out := nextH (ρ it) str h
def op1_extract (P : Program) (ρ : Operand → HVal) (h : Heap) (x : Operand) (i : Nat) : Option Out := ob (ρ x).isTuple fun l => val h (nth l i)
def op1_call (P : Program) (ρ : Operand → HVal) (h : Heap) (c : Call) : Option Out := match c.callee with
  | .builtin b => builtinH P b c.argTypes (c.args.toList.map ρ) h
  | .value f => match ρ f with
   | .func f first cap => callH P f (first ++ (c.args.toList.map ρ ++ cap)) h
   | .yield k => some (.enter (Nat.add roundNo k) (c.args.toList.map ρ) h)
   | _ => none
  | .invoke recv name => match ρ recv with
   | .iface t x => ob (methodH P t name) fun f => callH P f (x :: c.args.toList.map ρ) h
   | _ => none
def op1_defer (P : Program) (ρ : Operand → HVal) (h : Heap) (c : Call) : Option Out := match c.callee with
  | .value f => match ρ f with
   | .func f first cap => some (.defer f (first ++ (c.args.toList.map ρ ++ cap)) h)
   | _ => none
  | _ => none
def op1_panic (P : Program) (ρ : Operand → HVal) (h : Heap) (x : Operand) : Option Out := match ρ x with
  | .iface t v => some (.pan (.iface t v) h)
  | _ => none
def opF (P : Program) (ρ : Operand → HVal) (h : Heap) (o : Oper) : Option Out :=
 @Op.rec (fun _ => Program → (Operand → HVal) → Heap → Option Out) (fun a0 P ρ h => op1_move P ρ h a0) (fun a0 P ρ h => op1_assign P ρ h a0) (fun a0 a1 a2 P ρ h => op1_pick P ρ h a0 a1 a2) (fun a0 P ρ h => op1_alloc P ρ h a0) (fun a0 a1 P ρ h => op1_box P ρ h a0 a1) (fun a0 a1 P ρ h => op1_build P ρ h a0 a1) (fun a0 a1 a2 P ρ h => op1_buildSlice P ρ h a0 a1 a2) (fun a0 a1 a2 a3 P ρ h => op1_insert P ρ h a0 a1 a2 a3) (fun a0 a1 P ρ h => op1_load P ρ h a0 a1) (fun a0 a1 a2 P ρ h => op1_store P ρ h a0 a1 a2) (fun _ _ _ _ => none) (fun _ _ _ _ => none) (fun a0 P ρ h => op1_nilCheck P ρ h a0) (fun a0 a1 a2 a3 a4 P ρ h => op1_binOp P ρ h a0 a1 a2 a3 a4) (fun a0 a1 a2 P ρ h => op1_unOp P ρ h a0 a1 a2) (fun a0 a1 a2 P ρ h => op1_convert P ρ h a0 a1 a2) (fun _ _ _ _ _ => none) (fun a0 a1 P ρ h => op1_makeInterface P ρ h a0 a1) (fun a0 a1 a2 P ρ h => op1_makeFunc P ρ h a0 a1 a2) (fun a0 a1 P ρ h => op1_makeMap P ρ h a0 a1) (fun _ _ _ _ _ => none) (fun a0 a1 a2 P ρ h => op1_makeSlice P ρ h a0 a1 a2) (fun a0 a1 a2 a3 a4 P ρ h => op1_slice P ρ h a0 a1 a2 a3 a4) (fun a0 a1 a2 P ρ h => op1_fieldAddr P ρ h a0 a1 a2) (fun a0 a1 a2 P ρ h => op1_field P ρ h a0 a1 a2) (fun a0 a1 a2 P ρ h => op1_indexAddr P ρ h a0 a1 a2) (fun a0 a1 a2 P ρ h => op1_index P ρ h a0 a1 a2) (fun a0 a1 a2 a3 P ρ h => op1_lookup P ρ h a0 a1 a2 a3) (fun a0 a1 a2 a3 P ρ h => op1_mapUpdate P ρ h a0 a1 a2 a3) (fun a0 a1 a2 P ρ h => op1_mapEntry P ρ h a0 a1 a2) (fun a0 a1 a2 a3 P ρ h => op1_entryStore P ρ h a0 a1 a2 a3) (fun a0 a1 P ρ h => op1_range P ρ h a0 a1) (fun a0 a1 P ρ h => op1_next P ρ h a0 a1) (fun _ _ _ _ => none) (fun a0 a1 a2 a3 P ρ h => op1_typeAssert P ρ h a0 a1 a2 a3) (fun a0 a1 P ρ h => op1_extract P ρ h a0 a1) (fun a0 P ρ h => op1_call P ρ h a0) (fun _ _ _ _ => none) (fun a0 P ρ h => op1_defer P ρ h a0) (fun a0 P ρ h => op1_panic P ρ h a0) (fun _ _ _ _ _ => none) (fun _ _ _ _ _ _ => none) (fun _ _ _ _ _ => none) o.op P ρ h
theorem opF_eq (P : Program) (ρ : Operand → HVal) (h : Heap) (o : Oper) : opF P ρ h o = opH P ρ h o := by
 unfold opF opH
 generalize o.op = p
 cases p <;> first | rfl | skip
 rename_i f a b
 cases f <;> rfl
end
end Go.HL
namespace Go.HL
open Go
noncomputable section
set_option linter.unusedVariables false
abbrev Sl := List (Nat × HVal)
def onPtr (x : HVal) (f : Nat → Nat → Res) (z : Res) : Res :=
 @HVal.rec (fun _ => (Nat → Nat → Res) → Res → Res) (fun _ => PUnit) (fun _ z => z) (fun _ _ z => z) (fun _ _ _ z => z) (fun _ _ _ z => z) (fun _ z => z) (fun p o f z => f p o) (fun _ z => z) (fun _ _ _ _ _ z => z) (fun _ z => z) (fun _ _ z => z) (fun _ z => z) (fun _ _ _ _ _ _ z => z) (fun _ z => z) (fun _ _ _ _ z => z) (fun _ _ _ z => z) (fun _ _ _ z => z) (fun _ _ z => z) (fun _ _ z => z) (fun _ _ _ _ z => z) (fun _ z => z) (fun _ _ z => z) PUnit.unit (fun _ _ _ _ => PUnit.unit) x f z
def onBool (x : HVal) (f : Bool → Res) (z : Res) : Res :=
 @HVal.rec (fun _ => (Bool → Res) → Res → Res) (fun _ => PUnit) (fun _ z => z) (fun b f z => f b) (fun _ _ _ z => z) (fun _ _ _ z => z) (fun _ z => z) (fun _ _ _ z => z) (fun _ z => z) (fun _ _ _ _ _ z => z) (fun _ z => z) (fun _ _ z => z) (fun _ z => z) (fun _ _ _ _ _ _ z => z) (fun _ z => z) (fun _ _ _ _ z => z) (fun _ _ _ z => z) (fun _ _ _ z => z) (fun _ _ z => z) (fun _ _ z => z) (fun _ _ _ _ z => z) (fun _ z => z) (fun _ _ z => z) PUnit.unit (fun _ _ _ _ => PUnit.unit) x f z
def onStr (x : HVal) (f : Nat → Nat → Res) (z : Res) : Res :=
 @HVal.rec (fun _ => (Nat → Nat → Res) → Res → Res) (fun _ => PUnit) (fun _ z => z) (fun _ _ z => z) (fun _ _ _ z => z) (fun n c f z => f n c) (fun _ z => z) (fun _ _ _ z => z) (fun _ z => z) (fun _ _ _ _ _ z => z) (fun _ z => z) (fun _ _ z => z) (fun _ z => z) (fun _ _ _ _ _ _ z => z) (fun _ z => z) (fun _ _ _ _ z => z) (fun _ _ _ z => z) (fun _ _ _ z => z) (fun _ _ z => z) (fun _ _ z => z) (fun _ _ _ _ z => z) (fun _ z => z) (fun _ _ z => z) PUnit.unit (fun _ _ _ _ => PUnit.unit) x f z
def onNat (x : HVal) (f : IntKind → Nat → Res) (z : Res) : Res :=
 @HVal.rec (fun _ => (IntKind → Nat → Res) → Res → Res) (fun _ => PUnit) (fun _ z => z) (fun _ _ z => z) (fun k n f z => @Int.rec (fun _ => (IntKind → Nat → Res) → Res → Res) (fun m f _ => f k m) (fun _ _ z => z) n f z) (fun _ _ _ z => z) (fun _ z => z) (fun _ _ _ z => z) (fun _ z => z) (fun _ _ _ _ _ z => z) (fun _ z => z) (fun _ _ z => z) (fun _ z => z) (fun _ _ _ _ _ _ z => z) (fun _ z => z) (fun _ _ _ _ z => z) (fun _ _ _ z => z) (fun _ _ _ z => z) (fun _ _ z => z) (fun _ _ z => z) (fun _ _ _ _ z => z) (fun _ z => z) (fun _ _ z => z) PUnit.unit (fun _ _ _ _ => PUnit.unit) x f z
def onLen (x : HVal) (f : Nat → Res) (z : Res) : Res :=
 @HVal.rec (fun _ => (Nat → Res) → Res → Res) (fun _ => PUnit) (fun _ z => z) (fun _ _ z => z) (fun _ _ _ z => z) (fun _ _ _ z => z) (fun _ z => z) (fun _ _ _ z => z) (fun f z => f 0) (fun p o l c f z => f l) (fun _ z => z) (fun _ _ z => z) (fun _ z => z) (fun _ _ _ _ _ _ z => z) (fun _ z => z) (fun _ _ _ _ z => z) (fun _ _ _ z => z) (fun _ _ _ z => z) (fun _ _ z => z) (fun _ _ z => z) (fun _ _ _ _ z => z) (fun f z => f 0) (fun k f z => f 0) PUnit.unit (fun _ _ _ _ => PUnit.unit) x f z
def onSlice (x : HVal) (f : Nat → Nat → Nat → Res) (z : Res) : Res :=
 @HVal.rec (fun _ => (Nat → Nat → Nat → Res) → Res → Res) (fun _ => PUnit) (fun _ z => z) (fun _ _ z => z) (fun _ _ _ z => z) (fun _ _ _ z => z) (fun _ z => z) (fun _ _ _ z => z) (fun _ z => z) (fun p o l c f z => f p o l) (fun _ z => z) (fun _ _ z => z) (fun _ z => z) (fun _ _ _ _ _ _ z => z) (fun _ z => z) (fun _ _ _ _ z => z) (fun _ _ _ z => z) (fun _ _ _ z => z) (fun _ _ z => z) (fun _ _ z => z) (fun _ _ _ _ z => z) (fun _ z => z) (fun _ _ z => z) PUnit.unit (fun _ _ _ _ => PUnit.unit) x f z
def onTuple (x : HVal) (f : List HVal → Res) (z : Res) : Res :=
 @HVal.rec (fun _ => (List HVal → Res) → Res → Res) (fun _ => PUnit) (fun _ z => z) (fun _ _ z => z) (fun _ _ _ z => z) (fun _ _ _ z => z) (fun _ z => z) (fun _ _ _ z => z) (fun _ z => z) (fun _ _ _ _ _ z => z) (fun _ z => z) (fun _ _ z => z) (fun _ z => z) (fun _ _ _ _ _ _ z => z) (fun _ z => z) (fun _ _ _ _ z => z) (fun _ _ _ z => z) (fun l _ f z => f l) (fun _ _ z => z) (fun _ _ z => z) (fun _ _ _ _ z => z) (fun _ z => z) (fun _ _ z => z) PUnit.unit (fun _ _ _ _ => PUnit.unit) x f z
def onCells (x : HVal) (f : List HVal → Res) (z : Res) : Res :=
 @HVal.rec (fun _ => (List HVal → Res) → Res → Res) (fun _ => PUnit) (fun _ z => z) (fun b f z => f [.bool b]) (fun k n f z => f [.int k n]) (fun n c f z => f [.str n c]) (fun f z => f [.nilp ]) (fun p o f z => f [.ptr p o]) (fun f z => f [.nils ]) (fun p o l c f z => f [.slice p o l c]) (fun f z => f [.nilm ]) (fun p f z => f [.map p]) (fun f z => f [.nilf ]) (fun g a b _ _ f z => f [.func g a b]) (fun f z => f [.nili ]) (fun t v _ f z => f [.iface t v]) (fun l _ f z => f l) (fun _ _ _ z => z) (fun k f z => f [.yield k]) (fun k f z => f [.mark k]) (fun k lo hi f z => f [.rng k lo hi]) (fun f z => f [.empty ]) (fun k f z => f [.rest k]) PUnit.unit (fun _ _ _ _ => PUnit.unit) x f z
def onNil (x : HVal) (f : HVal → Res) (z : Res) : Res :=
 @HVal.rec (fun _ => (HVal → Res) → Res → Res) (fun _ => PUnit) (fun _ z => z) (fun _ _ z => z) (fun _ _ _ z => z) (fun _ _ _ z => z) (fun _ z => z) (fun p o f z => f (.ptr p o)) (fun _ z => z) (fun _ _ _ _ _ z => z) (fun _ z => z) (fun _ _ z => z) (fun _ z => z) (fun g a b _ _ f z => f (.func g a b)) (fun _ z => z) (fun _ _ _ _ z => z) (fun _ _ _ z => z) (fun _ _ _ z => z) (fun _ _ z => z) (fun _ _ z => z) (fun _ _ _ _ z => z) (fun _ z => z) (fun _ _ z => z) PUnit.unit (fun _ _ _ _ => PUnit.unit) x f z
def onGuard (x : HVal) (f : Bool → Res) (no z : Res) : Res :=
 @HVal.rec (fun _ => (Bool → Res) → Res → Res → Res) (fun _ => PUnit) (fun f no z => z) (fun b f no z => f b) (fun _ _ f no z => z) (fun _ _ f no z => z) (fun f no z => z) (fun _ _ f no z => z) (fun f no z => z) (fun _ _ _ _ f no z => z) (fun f no z => z) (fun _ f no z => z) (fun f no z => z) (fun _ _ _ _ _ f no z => z) (fun f no z => z) (fun _ _ _ f no z => z) (fun _ _ f no z => z) (fun _ _ f no z => no) (fun _ f no z => z) (fun _ f no z => z) (fun _ _ _ f no z => z) (fun f no z => z) (fun _ f no z => z) PUnit.unit (fun _ _ _ _ => PUnit.unit) x f no z
def touch (x : HVal) (f : HVal → Res) : Res :=
 @HVal.rec (fun _ => (HVal → Res) → Res) (fun _ => PUnit) (fun f => f .bad) (fun b f => f (.bool b)) (fun k n f => f (.int k n)) (fun n c f => f (.str n c)) (fun f => f .nilp) (fun p o f => f (.ptr p o)) (fun f => f .nils) (fun p o l c f => f (.slice p o l c)) (fun f => f .nilm) (fun p f => f (.map p)) (fun f => f .nilf) (fun g a b _ _ f => f (.func g a b)) (fun f => f .nili) (fun t v _ f => f (.iface t v)) (fun l _ f => f (.agg l)) (fun l _ f => f (.tuple l)) (fun k f => f (.yield k)) (fun k f => f (.mark k)) (fun k lo hi f => f (.rng k lo hi)) (fun f => f .empty) (fun k f => f (.rest k)) PUnit.unit (fun _ _ _ _ => PUnit.unit) x f
def touchB (b : Bool) (f : Bool → Res) : Res := @Bool.rec (fun _ => Res) (f false) (f true) b
def forceR (n : Nat) (k : Nat → Res) : Res := @Nat.rec (fun _ => Res) (k 0) (fun m _ => k (Nat.succ m)) n
def ifR (b : Bool) (t e : Res) : Res := @Bool.rec (fun _ => Res) e t b
/-! ## Lists -/
def lookV (l : Sl) (d : HVal) (t : Nat) : HVal :=
 @List.rec (Nat × HVal) (fun _ => HVal → Nat → HVal) (fun d _ => d) (fun p _ ih d t => @Bool.rec (fun _ => HVal) (ih d t) p.2 (Nat.beq p.1 t)) l d t
def putV (l : Sl) (key : Nat) (v : HVal) (k : Sl → Res) : Res :=
 @List.rec (Nat × HVal) (fun _ => Nat → HVal → (Sl → Res) → Res) (fun key v k => k [(key, v)])
  (fun p t ih key v k => @Bool.rec (fun _ => Res) (ih key v fun r => k (p :: r)) (k ((key, v) :: t)) (Nat.beq p.1 key)) l key v k
def nthR (l : List HVal) (n : Nat) (f : HVal → Res) (z : Res) : Res :=
 @List.rec HVal (fun _ => Nat → (HVal → Res) → Res → Res) (fun _ _ z => z) (fun v _ ih n f z => @Nat.rec (fun _ => Res) (f v) (fun m _ => ih m f z) n) l n f z
def takeR (l : List HVal) (n : Nat) (k : List HVal → Res) (z : Res) : Res :=
 @List.rec HVal (fun _ => Nat → (List HVal → Res) → Res → Res) (fun n k z => @Nat.rec (fun _ => Res) (k []) (fun _ _ => z) n)
  (fun v _ ih n k z => @Nat.rec (fun _ => Res) (k []) (fun m _ => ih m (fun t => k (v :: t)) z) n) l n k z
def dropR (l : List HVal) (n : Nat) : List HVal :=
 @List.rec HVal (fun _ => Nat → List HVal) (fun _ => []) (fun v t ih n => @Nat.rec (fun _ => List HVal) (v :: t) (fun m _ => ih m) n) l n
def overR (l : List HVal) (n : Nat) (w : List HVal) (k : List HVal → Res) (z : Res) : Res :=
 @List.rec HVal (fun _ => Nat → List HVal → (List HVal → Res) → Res → Res) (fun _ w k z => @List.rec HVal (fun _ => Res) (k []) (fun _ _ _ => z) w)
  (fun v t ih n w k z => @Nat.rec (fun _ => Res) (@List.rec HVal (fun _ => Res) (k (v :: t)) (fun x w' _ => ih 0 w' (fun r => k (x :: r)) z) w) (fun m _ => ih m w (fun r => k (v :: r)) z) n) l n w k z
def lenR (l : List HVal) : Nat := @List.rec HVal (fun _ => Nat) 0 (fun _ _ ih => Nat.succ ih) l
/-! ## Memory -/
def getO (t : T HObj) (n : Nat) : Option HObj :=
 @T.rec HObj (fun _ => Nat → Option HObj) (fun _ => none)
  (fun _ v _ gl gr n => @Nat.rec (fun _ => Option HObj) v (fun m _ => @Bool.rec (fun _ => Option HObj) (gr (Nat.div m 2)) (gl (Nat.div m 2)) (Nat.beq (Nat.mod m 2) 0)) n) t n
def cellsK (h : Heap) (p : Nat) (f : List HVal → Nat → Bool → Bool → Res) (z : Res) : Res :=
 @Option.rec HObj (fun _ => (List HVal → Nat → Bool → Bool → Res) → Res → Res) (fun _ z => z)
  (fun o f z => @HObj.rec (fun _ => (List HVal → Nat → Bool → Bool → Res) → Res → Res) (fun l e s r f _ => f l e s r) (fun _ _ _ _ z => z) (fun _ _ z => z) (fun _ z => z) (fun _ z => z) (fun _ _ _ _ _ _ _ z => z) o f z) (getO h.t p) f z
def setK (a : HObj) (fuel : Nat) (t : T HObj) (n : Nat) (k : T HObj → Res) : Res :=
 @Nat.rec (fun _ => HObj → T HObj → Nat → (T HObj → Res) → Res) (fun _ t _ k => k t)
  (fun _ ih a t n k => @T.rec HObj (fun _ => HObj → (HObj → T HObj → Nat → (T HObj → Res) → Res) → Nat → (T HObj → Res) → Res)
   (fun a ih n k => @Nat.rec (fun _ => Res) (k (.node .leaf (some a) .leaf)) (fun m _ => @Bool.rec (fun _ => Res) (ih a .leaf (Nat.div m 2) fun t => k (.node .leaf none t)) (ih a .leaf (Nat.div m 2) fun t => k (.node t none .leaf)) (Nat.beq (Nat.mod m 2) 0)) n)
   (fun l v r _ _ a ih n k => @Nat.rec (fun _ => Res) (k (.node l (some a) r)) (fun m _ => @Bool.rec (fun _ => Res) (ih a r (Nat.div m 2) fun t => k (.node l v t)) (ih a l (Nat.div m 2) fun t => k (.node t v r)) (Nat.beq (Nat.mod m 2) 0)) n)
   t a ih n k) fuel a t n k
def putK (h : Heap) (p : Nat) (o : HObj) (k : Heap → Res) : Res := setK o (Nat.succ p) h.t p fun t => k ⟨h.next, t⟩
def newK (h : Heap) (o : HObj) (k : Nat → Heap → Res) : Res := setK o (Nat.succ h.next) h.t h.next fun t => forceR (Nat.succ h.next) fun n => k h.next ⟨n, t⟩
def storeK (h : Heap) (p off : Nat) (l : List HVal) (k : Heap → Res) (z : Res) : Res :=
 cellsK h p (fun c e s r => ifR r (overR c off l (fun c => putK h p (.cells c e s true) k) z) z) z
/-! ## Operands, operations -/
inductive FArg where
 | loc (t : Nat)
 | var (t : Nat)
 | val (v : HVal)
def FArg.get (a : FArg) (loc vars : Sl) : HVal := @FArg.rec (fun _ => Sl → Sl → HVal) (fun t loc vars => lookV loc (lookV vars .bad t) t) (fun t _ vars => lookV vars .bad t) (fun v _ _ => v) a loc vars
abbrev Kt := HVal → Heap → Res
abbrev OpK := Program → CallFn → Sl → Sl → Heap → Kt → Res → Res
def goMov (a : FArg) : OpK := fun P call loc vars heap k z => touch (a.get loc vars) fun v => k v heap
inductive FOp where
 | mk (g : OpK)
 | mov (a : FArg)
def FOp.run (o : FOp) : OpK := @FOp.rec (fun _ => OpK) (fun g => g) (fun a => goMov a) o
abbrev F1 := HVal → (HVal → Res) → Res → Res
abbrev F2 := HVal → HVal → (HVal → Res) → Res → Res
def compArg (P : Program) (m : Nat) (x : Operand) : FArg := match x with
 | .tmp t => bcase (bit m t) (.var t) (.loc t)
 | x => .val (Env.eval P ⟨[], []⟩ x)
def evalG (P : Program) (m : Nat) (loc vars : Sl) (x : Operand) : HVal := (compArg P m x).get loc vars
def retK (r : Option (CRes × Heap)) (k : Kt) (z : Res) : Res :=
 @Option.rec (CRes × Heap) (fun _ => Kt → Res → Res) (fun _ z => z) (fun r k z => @CRes.rec (fun _ => Heap → Kt → Res → Res) (fun v h k _ => touch v fun v => k v h) (fun _ _ _ z => z) r.1 r.2 k z) r k z
def outK (r : Option Out) (call : CallFn) (k : Kt) (z : Res) : Res :=
 @Option.rec Out (fun _ => CallFn → Kt → Res → Res) (fun _ _ z => z) (fun o call k z => @Out.rec (fun _ => CallFn → Kt → Res → Res) (fun v h _ k _ => force v fun v => k v h) (fun f args h call k z => retK (call f args h) k z)
  (fun _ _ _ _ _ z => z) (fun _ _ _ z => z) (fun _ _ _ _ z => z) o call k z) r call k z
def slowK (m : Nat) (o : Oper) : OpK := fun P call loc vars heap k z => outK (opF P (evalG P m loc vars) heap o) call k z
def goPick (c a b : FArg) : OpK := fun P call loc vars heap k z => onBool (c.get loc vars) (fun t => ifR t (touch (a.get loc vars) fun v => k v heap) (touch (b.get loc vars) fun v => k v heap)) z
def goLoad1 (a : FArg) : OpK := fun P call loc vars heap k z => onPtr (a.get loc vars) (fun p o => cellsK heap p (fun l _ _ _ => nthR l o (fun v => k v heap) z) z) z
def goLoadN (n : Nat) (a : FArg) : OpK := fun P call loc vars heap k z => onPtr (a.get loc vars) (fun p o => cellsK heap p (fun l _ _ _ => takeR (dropR l o) n (fun l => k (.agg l) heap) z) z) z
def goStore (n : Nat) (a v : FArg) : OpK := fun P call loc vars heap k z =>
 onPtr (a.get loc vars) (fun p o => onCells (v.get loc vars) (fun l => ifR (Nat.beq (lenR l) n) (storeK heap p o l (fun h => k undefH h) z) z) z) z
def goAlloc (l : List HVal) (e : Nat) : OpK := fun P call loc vars heap k z => newK heap (.cells l e false true) fun p h => k (.ptr p 0) h
def goBox (e : Nat) (a : FArg) : OpK := fun P call loc vars heap k z => onCells (a.get loc vars) (fun l => newK heap (.cells l e false true) fun p h => k (.ptr p 0) h) z
def go1 (f : F1) (m : Nat) (o : Oper) (a : FArg) : OpK := fun P call loc vars heap k z => f (a.get loc vars) (fun v => k v heap) (slowK m o P call loc vars heap k z)
def go2 (f : F2) (m : Nat) (o : Oper) (a b : FArg) : OpK := fun P call loc vars heap k z => f (a.get loc vars) (b.get loc vars) (fun v => k v heap) (slowK m o P call loc vars heap k z)
def goIndexA (cnt n : Nat) (a i : FArg) : OpK := fun P call loc vars heap k z =>
 onNat (i.get loc vars) (fun _ i => onPtr (a.get loc vars) (fun p o => ifR (Nat.blt i cnt) (forceR (Nat.add o (Nat.mul i n)) fun q => k (.ptr p q) heap) z) z) z
def goIndexL (n : Nat) (a i : FArg) : OpK := fun P call loc vars heap k z =>
 onNat (i.get loc vars) (fun _ i => onSlice (a.get loc vars) (fun p o len => ifR (Nat.blt i len) (forceR (Nat.add o (Nat.mul i n)) fun q => k (.ptr p q) heap) z) z) z
def goFieldA (n : Nat) (a : FArg) : OpK := fun P call loc vars heap k z => onPtr (a.get loc vars) (fun p o => forceR (Nat.add o n) fun q => k (.ptr p q) heap) z
def goIndexS (a i : FArg) : OpK := fun P call loc vars heap k z =>
 onNat (i.get loc vars) (fun _ i => onStr (a.get loc vars) (fun n c => ifR (Nat.blt i n) (forceR (sIndex n c i) fun b => k (.int .u8 (Int.ofNat b)) heap) z) z) z
def goLenS (a : FArg) : OpK := fun P call loc vars heap k z => onStr (a.get loc vars) (fun n _ => k (.int .i64 (Int.ofNat n)) heap) z
def goLenL (a : FArg) : OpK := fun P call loc vars heap k z => onLen (a.get loc vars) (fun n => k (.int .i64 (Int.ofNat n)) heap) z
def goNil (a : FArg) : OpK := fun P call loc vars heap k z => onNil (a.get loc vars) (fun v => k v heap) z
def goConv (kd : IntKind) (m : Nat) (o : Oper) (a : FArg) : OpK := fun P call loc vars heap k z =>
 onNat (a.get loc vars) (fun _ n => ifR (Nat.ble n (kindMax kd)) (k (.int kd (Int.ofNat n)) heap) (slowK m o P call loc vars heap k z)) (slowK m o P call loc vars heap k z)
def goExtract (a : FArg) (i : Nat) : OpK := fun P call loc vars heap k z => onTuple (a.get loc vars) (fun l => nthR l i (fun v => touch v fun v => k v heap) z) z
def argsK (l : List FArg) (loc vars : Sl) (k : List HVal → Res) : Res :=
 @List.rec FArg (fun _ => Sl → Sl → (List HVal → Res) → Res) (fun _ _ k => k []) (fun a _ ih loc vars k => touch (a.get loc vars) fun v => ih loc vars fun r => k (v :: r)) l loc vars k
def goCall (f : Nat) (args : List FArg) : OpK := fun P call loc vars heap k z => argsK args loc vars fun vs => retK (call f vs heap) k z
def fillK (l : List (Nat × Nat × FArg)) (loc vars : Sl) (cells : List HVal) (k : List HVal → Res) (z : Res) : Res :=
 @List.rec (Nat × Nat × FArg) (fun _ => Sl → Sl → List HVal → (List HVal → Res) → Res → Res) (fun _ _ cells k _ => k cells)
  (fun p _ ih loc vars cells k z => onCells (p.2.2.get loc vars) (fun v => ifR (Nat.beq p.2.1 0) z (ifR (Nat.beq (lenR v) p.2.1) (overR cells p.1 v (fun c => ih loc vars c k z) z) z)) z) l loc vars cells k z
def goBuild (parts : List (Nat × Nat × FArg)) (zl : List HVal) : OpK := fun P call loc vars heap k z => fillK parts loc vars zl (fun cs => k (.agg cs) heap) z
def goBuildL (parts : List (Nat × Nat × FArg)) (zl : List HVal) (e len : Nat) : OpK := fun P call loc vars heap k z =>
 fillK parts loc vars zl (fun cs => newK heap (.cells cs e false true) fun p h => k (.slice p 0 len (some len)) h) z
/-! ## Numbers -/
def nn2 (x y : HVal) (g : IntKind → Nat → Nat → Res) (z : Res) : Res :=
 onNat x (fun kx m => onNat y (fun ky n => ifR (Nat.beq (kindMax kx) (kindMax ky)) (g kx m n) z) z) z
def addF : F2 := fun x y f z => nn2 x y (fun k m n => forceR (Nat.add m n) fun s => ifR (Nat.ble s (kindMax k)) (f (.int k (Int.ofNat s))) z) z
def subF : F2 := fun x y f z => nn2 x y (fun k m n => ifR (Nat.ble n m) (ifR (Nat.ble m (kindMax k)) (forceR (Nat.sub m n) fun s => f (.int k (Int.ofNat s))) z) z) z
def mulF : F2 := fun x y f z => nn2 x y (fun k m n => forceR (Nat.mul m n) fun s => ifR (Nat.ble s (kindMax k)) (f (.int k (Int.ofNat s))) z) z
def lssF : F2 := fun x y f z => nn2 x y (fun _ m n => touchB (Nat.blt m n) fun b => f (.bool b)) z
def leqF : F2 := fun x y f z => nn2 x y (fun _ m n => touchB (Nat.ble m n) fun b => f (.bool b)) z
def gtrF : F2 := fun x y f z => nn2 x y (fun _ m n => touchB (Nat.blt n m) fun b => f (.bool b)) z
def geqF : F2 := fun x y f z => nn2 x y (fun _ m n => touchB (Nat.ble n m) fun b => f (.bool b)) z
def eqlF : F2 := fun x y f z => nn2 x y (fun _ m n => touchB (Nat.beq m n) fun b => f (.bool b)) z
def neqF : F2 := fun x y f z => nn2 x y (fun _ m n => touchB (Nat.beq m n) fun b => f (.bool (bcase b false true))) z
def andF : F2 := fun x y f z => nn2 x y (fun k m n => ifR (Nat.ble m (kindMax k)) (ifR (Nat.ble n (kindMax k)) (forceR (Nat.land m n) fun s => f (.int k (Int.ofNat s))) z) z) z
def orF : F2 := fun x y f z => nn2 x y (fun k m n => ifR (Nat.ble m (kindMax k)) (ifR (Nat.ble n (kindMax k)) (forceR (Nat.lor m n) fun s => f (.int k (Int.ofNat s))) z) z) z
def strEqF : F2 := fun x y f z => onStr x (fun n c => onStr y (fun m d => touchB (sEq n c m d) fun b => f (.bool b)) z) z
def notF : F1 := fun x f z => onBool x (fun b => ifR b (f (.bool false)) (f (.bool true))) z
def comF : F1 := fun x f z => onNat x (fun k n => ifR (Nat.blt 3 (kindNo k)) (ifR (Nat.ble n (kindMax k)) (forceR (Nat.sub (kindMax k) n) fun s => f (.int k (Int.ofNat s))) z) z) z
/-! ## Regions whose order is fixed -/
inductive FGuard where
 | no
 | on (a : FArg) (want : Bool)
 | stuck
def wantG (g : FGuard) (loc vars : Sl) (yes no z : Res) : Res :=
 @FGuard.rec (fun _ => Sl → Sl → Res → Res → Res → Res) (fun _ _ yes _ _ => yes) (fun a w loc vars yes no z => onGuard (a.get loc vars) (fun b => ifR (bcase w b (bcase b false true)) yes no) no z) (fun _ _ _ _ z => z) g loc vars yes no z
inductive FDst where
 | none
 | loc (d : Nat)
 | var (d : Nat)
abbrev RK := Program → CallFn → Sl → Sl → Heap → (Sl → Heap → Res) → Res → Res
def putG (ds : FDst) (v : HVal) (ih : RK) : RK := @FDst.rec (fun _ => HVal → RK → RK) (fun _ ih => ih) (fun d v ih P call loc vars heap k z => ih P call ((d, v) :: loc) vars heap k z)
 (fun d v ih P call loc vars heap k z => putV vars d v fun vars => ih P call loc vars heap k z) ds v ih
inductive FReg where
 | nil
 | cons (g : FGuard) (ds : FDst) (op : FOp) (rest : FReg)
 | opL (d : Nat) (op : FOp) (rest : FReg)
 | opV (d : Nat) (op : FOp) (rest : FReg)
 | movL (a : FArg) (d : Nat) (rest : FReg)
 | movV (a : FArg) (d : Nat) (rest : FReg)
def regG (r : FReg) : RK :=
 @FReg.rec (fun _ => RK) (fun _ _ _ vars heap k _ => k vars heap)
  (fun g ds op _ ih P call loc vars heap k z => wantG g loc vars (op.run P call loc vars heap (fun v h => putG ds v ih P call loc vars h k z) z) (putG ds undefH ih P call loc vars heap k z) z)
  (fun d op _ ih P call loc vars heap k z => op.run P call loc vars heap (fun v h => ih P call ((d, v) :: loc) vars h k z) z)
  (fun d op _ ih P call loc vars heap k z => op.run P call loc vars heap (fun v h => putV vars d v fun vars => ih P call loc vars h k z) z)
  (fun a d _ ih P call loc vars heap k z => touch (a.get loc vars) fun v => ih P call ((d, v) :: loc) vars heap k z)
  (fun a d _ ih P call loc vars heap k z => touch (a.get loc vars) fun v => putV vars d v fun vars => ih P call loc vars heap k z) r
def shortL (d : Nat) (op : FOp) (rest : FReg) : FReg := @FOp.rec (fun _ => Nat → FOp → FReg → FReg) (fun _ d op rest => .opL d op rest) (fun a d _ rest => .movL a d rest) op d op rest
def shortV (d : Nat) (op : FOp) (rest : FReg) : FReg := @FOp.rec (fun _ => Nat → FOp → FReg → FReg) (fun _ d op rest => .opV d op rest) (fun a d _ rest => .movV a d rest) op d op rest
def consS (g : FGuard) (ds : FDst) (op : FOp) (rest : FReg) : FReg :=
 @FGuard.rec (fun _ => FGuard → FDst → FOp → FReg → FReg) (fun g ds op rest => @FDst.rec (fun _ => FGuard → FDst → FOp → FReg → FReg) (fun g ds op rest => .cons g ds op rest) (fun d _ _ op rest => shortL d op rest) (fun d _ _ op rest => shortV d op rest) ds g ds op rest)
  (fun _ _ g ds op rest => .cons g ds op rest) (fun g ds op rest => .cons g ds op rest) g g ds op rest
theorem consS_eq (g : FGuard) (ds : FDst) (op : FOp) (rest : FReg) : regG (consS g ds op rest) = regG (.cons g ds op rest) := by
 cases g <;> cases ds <;> cases op <;> rfl
end
end Go.HL
namespace Go.HL
open Go
noncomputable section
/-! ## What the recursors do -/
def oR {α : Type} (o : Option α) (f : α → Res) (z : Res) : Res := match o with | some a => f a | none => z
@[simp] theorem oR_some {α : Type} (a : α) (f : α → Res) (z : Res) : oR (some a) f z = f a := rfl
@[simp] theorem oR_none {α : Type} (f : α → Res) (z : Res) : oR (none : Option α) f z = z := rfl
theorem touch_eq (x : HVal) (f : HVal → Res) : touch x f = f x := by cases x <;> rfl
@[simp] theorem ifR_true (t e : Res) : ifR true t e = t := rfl
@[simp] theorem ifR_false (t e : Res) : ifR false t e = e := rfl
theorem touchB_eq (b : Bool) (f : Bool → Res) : touchB b f = f b := by cases b <;> rfl
theorem forceR_eq (n : Nat) (k : Nat → Res) : forceR n k = k n := by cases n <;> rfl
theorem lookV_eq (l : Sl) : ∀ (d : HVal) (t : Nat), lookV l d t = assoc l d t := by
 induction l with
 | nil => intro d t; rfl
 | cons p l ih =>
  intro d t
  show (@Bool.rec (fun _ => HVal) (lookV l d t) p.2 (Nat.beq p.1 t)) = @Bool.rec (fun _ => HVal) (assoc l d t) p.2 (Nat.beq p.1 t)
  rw [ih]
theorem putV_eq (l : Sl) (key : Nat) (v : HVal) : ∀ (k : Sl → Res), putV l key v k = setAK l key v k := by
 induction l with
 | nil => intro k; rfl
 | cons p l ih =>
  intro k
  show (@Bool.rec (fun _ => Res) (putV l key v fun r => k (p :: r)) (k ((key, v) :: l)) (Nat.beq p.1 key)) = @Bool.rec (fun _ => Res) (setAK l key v fun r => k (p :: r)) (k ((key, v) :: l)) (Nat.beq p.1 key)
  rw [ih]
theorem nthR_eq (l : List HVal) : ∀ (n : Nat) (f : HVal → Res) (z : Res), nthR l n f z = oR (nth l n) f z := by
 induction l with
 | nil => intro n f z; rfl
 | cons v l ih => intro n f z; cases n with
  | zero => rfl
  | succ m => exact ih m f z
theorem takeR_eq (l : List HVal) : ∀ (n : Nat) (k : List HVal → Res) (z : Res), takeR l n k z = oR (takeK l n some) k z := by
 induction l with
 | nil => intro n k z; cases n <;> rfl
 | cons v l ih => intro n k z; cases n with
  | zero => rfl
  | succ m =>
   show takeR l m (fun t => k (v :: t)) z = oR (takeK l m fun t => some (v :: t)) k z
   rw [ih m, takeK_eq, takeK_eq]
   split <;> rfl
theorem dropR_eq (l : List HVal) : ∀ n, dropR l n = dropN l n := by
 induction l with
 | nil => intro n; rfl
 | cons v l ih => intro n; cases n with
  | zero => rfl
  | succ m => exact ih m
theorem overR_eq (l : List HVal) : ∀ (n : Nat) (w : List HVal) (k : List HVal → Res) (z : Res), overR l n w k z = oR (overK l n w some) k z := by
 induction l with
 | nil => intro n w k z; cases w <;> rfl
 | cons v l ih => intro n w k z; cases n with
  | zero => cases w with
   | nil => rfl
   | cons x w =>
    show overR l 0 w (fun r => k (x :: r)) z = oR (overK l 0 w fun r => some (x :: r)) k z
    rw [ih 0, overK_eq, overK_eq]
    split <;> rfl
  | succ m =>
   show overR l m w (fun r => k (v :: r)) z = oR (overK l m w fun r => some (v :: r)) k z
   rw [ih m, overK_eq, overK_eq]
   split <;> rfl
theorem lenR_eq (l : List HVal) : lenR l = l.length := by
 induction l with
 | nil => rfl
 | cons v l ih => show Nat.succ (lenR l) = _; rw [ih]; rfl
theorem getO_eq (t : T HObj) (n : Nat) : getO t n = t.get n := rfl
theorem cellsK_eq (h : Heap) (p : Nat) (f : List HVal → Nat → Bool → Bool → Res) (z : Res) : cellsK h p f z = oR (h.cells p) (fun o => f o.1 o.2.1 o.2.2.1 o.2.2.2) z := by
 unfold cellsK Heap.cells Heap.get
 rw [getO_eq]
 cases h.t.get p with
 | none => rfl
 | some o => cases o <;> rfl
theorem setK_eq (a : HObj) (fuel : Nat) : ∀ (t : T HObj) (n : Nat) (k : T HObj → Res), setK a fuel t n k = k (T.setF a fuel t n) := by
 induction fuel with
 | zero => intro t n k; rfl
 | succ f ih =>
  intro t n k
  cases t with
  | leaf => cases n with
   | zero => rfl
   | succ m =>
    show (@Bool.rec (fun _ => Res) (setK a f .leaf (m / 2) fun t => k (.node .leaf none t)) (setK a f .leaf (m / 2) fun t => k (.node t none .leaf)) (Nat.beq (m % 2) 0)) = k (@Bool.rec (fun _ => T HObj) (T.node .leaf none (T.setF a f .leaf (m / 2))) (T.node (T.setF a f .leaf (m / 2)) none .leaf) (Nat.beq (m % 2) 0))
    rw [ih, ih]
    cases Nat.beq (m % 2) 0 <;> rfl
  | node l v r => cases n with
   | zero => rfl
   | succ m =>
    show (@Bool.rec (fun _ => Res) (setK a f r (m / 2) fun t => k (.node l v t)) (setK a f l (m / 2) fun t => k (.node t v r)) (Nat.beq (m % 2) 0)) = k (@Bool.rec (fun _ => T HObj) (T.node l v (T.setF a f r (m / 2))) (T.node (T.setF a f l (m / 2)) v r) (Nat.beq (m % 2) 0))
    rw [ih, ih]
    cases Nat.beq (m % 2) 0 <;> rfl
theorem putK_eq (h : Heap) (p : Nat) (o : HObj) (k : Heap → Res) : putK h p o k = k (h.put p o) := by unfold putK; rw [setK_eq]; rfl
theorem newK_eq (h : Heap) (o : HObj) (k : Nat → Heap → Res) : newK h o k = k h.next (h.new o) := by unfold newK; rw [setK_eq, forceR_eq]; rfl
theorem storeK_eq (h : Heap) (p off : Nat) (l : List HVal) (k : Heap → Res) (z : Res) : storeK h p off l k z = oR (storeN h p off l) k z := by
 unfold storeK storeN
 rw [cellsK_eq]
 cases h.cells p with
 | none => rfl
 | some o =>
  simp only [oR_some, obS]
  cases o.2.2.2 with
  | false => rfl
  | true =>
   simp only [ifR_true, bcT]
   rw [overR_eq, overK_eq, overK_eq]
   split
   ·simp only [oR_some]; rw [putK_eq]
   ·rfl
theorem FArg.get_loc (t : Nat) (loc vars : Sl) : (FArg.loc t).get loc vars = assoc loc (assoc vars .bad t) t := by
 show lookV loc (lookV vars .bad t) t = _
 rw [lookV_eq, lookV_eq]
theorem FArg.get_var (t : Nat) (loc vars : Sl) : (FArg.var t).get loc vars = assoc vars .bad t := by
 show lookV vars .bad t = _
 rw [lookV_eq]
section
variable {call : CallFn} {k : Kt} {z : Res}
@[simp] theorem outK_none : outK none call k z = z := rfl
@[simp] theorem outK_val (v : HVal) (h : Heap) : outK (some (.val v h)) call k z = k v h := by
 show force v (fun v => k v h) = _
 rw [force_eq]
@[simp] theorem outK_enter (f : Nat) (args : List HVal) (h : Heap) : outK (some (.enter f args h)) call k z = retK (call f args h) k z := rfl
theorem retK_eq (r : Option (CRes × Heap)) : retK r k z = match r with | some (.ret v, h) => k v h | _ => z := by
 rcases r with _ | ⟨_ | _, h⟩ <;> first | rfl | skip
 exact touch_eq _ _
theorem outK_ob {α : Type} (o : Option α) (f : α → Option Out) : outK (ob o f) call k z = oR o (fun a => outK (f a) call k z) z := by cases o <;> rfl
theorem outK_bcase (b : Bool) (x : Option Out) : outK (bcase b x none) call k z = ifR b (outK x call k z) z := by cases b <;> rfl
theorem outK_valO (h : Heap) (v : Option HVal) : outK (val h v) call k z = oR v (fun v => k v h) z := by
 cases v with
 | none => rfl
 | some v => exact outK_val _ _
end
theorem oR_ob {α β : Type} (o : Option α) (f : α → Option β) (g : β → Res) (z : Res) : oR (ob o f) g z = oR o (fun a => oR (f a) g z) z := by cases o <;> rfl
theorem onPtr_eq (x : HVal) (f : Nat → Nat → Res) (z : Res) : onPtr x f z = oR x.isPtr (fun a => f a.1 a.2) z := by cases x <;> rfl
theorem onBool_eq (x : HVal) (f : Bool → Res) (z : Res) : onBool x f z = oR x.isBool f z := by cases x <;> rfl
theorem onTuple_eq (x : HVal) (f : List HVal → Res) (z : Res) : onTuple x f z = oR x.isTuple f z := by cases x <;> rfl
theorem onCells_eq (x : HVal) (f : List HVal → Res) (z : Res) : onCells x f z = oR x.cells f z := by cases x <;> rfl
theorem onNat_eq (x : HVal) (f : Nat → Res) (z : Res) : onNat x (fun _ n => f n) z = oR x.isNat f z := by
 cases x <;> first | rfl | skip
 rename_i kd n
 cases n <;> rfl
/-! ## Numbers -/
theorem kindMax_inj {k j : IntKind} (h : Nat.beq (kindMax k) (kindMax j) = true) : k = j := by
 cases k <;> cases j <;> first | rfl | (exact absurd h (by decide))
theorem sameKind_self (k : IntKind) : sameKind k k = true := by cases k <;> rfl
def Fair2 (f : F2) (op : BinOp) (t : TypeId) (P : Program) : Prop := ∀ x y k z, f x y k z = z ∨ ∃ v, binH P op t x y = some v ∧ f x y k z = k v
theorem nn2_fair {g : (HVal → Res) → Res → IntKind → Nat → Nat → Res} {op : BinOp} {t : TypeId} {P : Program} (hs : op ≠ .shl) (hr : op ≠ .shr)
  (h : ∀ f z k m n, g f z k m n = z ∨ ∃ v, intOp op k (Int.ofNat m) (Int.ofNat n) = some v ∧ g f z k m n = f v) : Fair2 (fun x y f z => nn2 x y (g f z) z) op t P := by
 intro x y f z
 cases x <;> try exact .inl rfl
 rename_i kx a
 cases a <;> try exact .inl rfl
 rename_i m
 cases y <;> try exact .inl rfl
 rename_i ky b
 cases b <;> try exact .inl rfl
 rename_i n
 show ifR (Nat.beq (kindMax kx) (kindMax ky)) (g f z kx m n) z = z ∨ ∃ v, _ ∧ ifR (Nat.beq (kindMax kx) (kindMax ky)) (g f z kx m n) z = f v
 cases hb : Nat.beq (kindMax kx) (kindMax ky) with
 | false => exact .inl rfl
 | true =>
  obtain rfl := kindMax_inj hb
  rcases h f z kx m n with h | ⟨v, h1, h2⟩
  ·exact .inl h
  ·refine .inr ⟨v, ?_, h2⟩
   show (match op with | .shl => _ | .shr => _ | op => bcase (sameKind kx kx) (intOp op kx (Int.ofNat m) (Int.ofNat n)) none) = _
   rw [sameKind_self]
   split <;> first | exact absurd rfl hs | exact absurd rfl hr | exact h1
theorem wrapF_nat {k : IntKind} {n : Nat} (h : Nat.ble n (kindMax k) = true) : wrapF k (Int.ofNat n) = Int.ofNat n := by
 unfold wrapF
 show bcase (Nat.ble n (kindMax k)) _ _ = _
 rw [h]; rfl
theorem wrap_nat {k : IntKind} {n : Nat} (h : n ≤ kindMax k) : k.wrap (Int.ofNat n) = Int.ofNat n := by
 have h2 : ((n : Int)) ≤ (kindMax k : Int) := by exact_mod_cast h
 cases k <;> simp only [kindMax] at h2 <;> simp only [IntKind.wrap, IntKind.bits, IntKind.signed, Int.ofNat_eq_natCast] <;> simp <;> omega
theorem toU_nat {k : IntKind} {n : Nat} (h : n ≤ kindMax k) : toU k (Int.ofNat n) = n := by
 have h2 : ((n : Int)) ≤ (kindMax k : Int) := by exact_mod_cast h
 cases k <;> simp only [kindMax] at h2 <;> simp only [toU, IntKind.bits, Int.ofNat_eq_natCast] <;> (have h3 : (0:Int) ≤ n := by omega) <;> (show Int.toNat ((n : Int) % _) = n) <;> (rw [Int.emod_eq_of_lt h3 (by omega)]; rfl)
theorem kindMax_pow (k : IntKind) : ∃ j, kindMax k + 1 = 2 ^ j := by
 cases k
 ·exact ⟨7, rfl⟩
 ·exact ⟨15, rfl⟩
 ·exact ⟨31, rfl⟩
 ·exact ⟨63, rfl⟩
 ·exact ⟨8, rfl⟩
 ·exact ⟨16, rfl⟩
 ·exact ⟨32, rfl⟩
 ·exact ⟨64, rfl⟩
theorem addF_fair (t : TypeId) (P : Program) : Fair2 addF .add t P := by
 refine nn2_fair (g := fun f z k m n => forceR (Nat.add m n) fun s => ifR (Nat.ble s (kindMax k)) (f (.int k (Int.ofNat s))) z) (by simp) (by simp) fun f z k m n => ?_
 simp only [forceR_eq]
 cases hb : Nat.ble (Nat.add m n) (kindMax k) with
 | false => exact .inl rfl
 | true => exact .inr ⟨_, congrArg (fun i => some (HVal.int k i)) (wrapF_nat hb), rfl⟩
theorem mulF_fair (t : TypeId) (P : Program) : Fair2 mulF .mul t P := by
 refine nn2_fair (g := fun f z k m n => forceR (Nat.mul m n) fun s => ifR (Nat.ble s (kindMax k)) (f (.int k (Int.ofNat s))) z) (by simp) (by simp) fun f z k m n => ?_
 simp only [forceR_eq]
 cases hb : Nat.ble (Nat.mul m n) (kindMax k) with
 | false => exact .inl rfl
 | true => exact .inr ⟨_, congrArg (fun i => some (HVal.int k i)) (wrapF_nat hb), rfl⟩
theorem subF_fair (t : TypeId) (P : Program) : Fair2 subF .sub t P := by
 refine nn2_fair (g := fun f z k m n => ifR (Nat.ble n m) (ifR (Nat.ble m (kindMax k)) (forceR (Nat.sub m n) fun s => f (.int k (Int.ofNat s))) z) z) (by simp) (by simp) fun f z k m n => ?_
 simp only [forceR_eq]
 cases hb : Nat.ble n m with
 | false => exact .inl rfl
 | true =>
  cases hc : Nat.ble m (kindMax k) with
  | false => exact .inl rfl
  | true =>
   refine .inr ⟨_, ?_, rfl⟩
   have h1 : n ≤ m := Nat.le_of_ble_eq_true hb
   have h2 : m ≤ kindMax k := Nat.le_of_ble_eq_true hc
   have e : Int.sub (Int.ofNat m) (Int.ofNat n) = Int.ofNat (Nat.sub m n) := by
    show (m : Int) - (n : Int) = ((m - n : Nat) : Int)
    omega
   show some (HVal.int k (wrapF k (Int.sub (Int.ofNat m) (Int.ofNat n)))) = _
   rw [e, wrapF_nat]
   exact Nat.ble_eq_true_of_le (Nat.le_trans (Nat.sub_le _ _) h2)
theorem cmp_fair {op : BinOp} (c : Nat → Nat → Bool) (hs : op ≠ .shl) (hr : op ≠ .shr) (h : ∀ k m n, intOp op k (Int.ofNat m) (Int.ofNat n) = some (.bool (c m n))) (t : TypeId) (P : Program) :
  Fair2 (fun x y f z => nn2 x y (fun _ m n => touchB (c m n) fun b => f (.bool b)) z) op t P := by
 refine nn2_fair (g := fun f z k m n => touchB (c m n) fun b => f (.bool b)) hs hr fun f z k m n => ?_
 simp only [touchB_eq]
 exact .inr ⟨_, h k m n, rfl⟩
theorem ilt_nat (m n : Nat) : ilt (Int.ofNat m) (Int.ofNat n) = Nat.blt m n := by
 show bcase (Nat.ble n m) false true = _
 rw [nble, nblt, bcE]
 by_cases h : n ≤ m
 ·rw [decide_eq_true h, decide_eq_false (by omega)]; rfl
 ·rw [decide_eq_false h, decide_eq_true (by omega)]; rfl
theorem lssF_fair (t : TypeId) (P : Program) : Fair2 lssF .lss t P := cmp_fair _ (by simp) (by simp) (fun _ m n => by simp only [intOp, ilt_nat]) t P
theorem leqF_fair (t : TypeId) (P : Program) : Fair2 leqF .leq t P := cmp_fair _ (by simp) (by simp) (fun _ m n => rfl) t P
theorem gtrF_fair (t : TypeId) (P : Program) : Fair2 gtrF .gtr t P := cmp_fair (fun m n => Nat.blt n m) (by simp) (by simp) (fun _ m n => by simp only [intOp, ilt_nat]) t P
theorem geqF_fair (t : TypeId) (P : Program) : Fair2 geqF .geq t P := cmp_fair (fun m n => Nat.ble n m) (by simp) (by simp) (fun _ m n => rfl) t P
theorem eqlF_fair (t : TypeId) (P : Program) : Fair2 eqlF .eql t P := cmp_fair _ (by simp) (by simp) (fun _ m n => rfl) t P
theorem neqF_fair (t : TypeId) (P : Program) : Fair2 neqF .neq t P := by
 refine nn2_fair (g := fun f z k m n => touchB (Nat.beq m n) fun b => f (.bool (bcase b false true))) (by simp) (by simp) fun f z k m n => ?_
 simp only [touchB_eq]
 exact .inr ⟨_, rfl, rfl⟩
theorem bitsF_fair {op : BinOp} (c : Nat → Nat → Nat) (hs : op ≠ .shl) (hr : op ≠ .shr) (h : ∀ k m n, intOp op k (Int.ofNat m) (Int.ofNat n) = some (.int k (k.wrap (Int.ofNat (c (toU k (Int.ofNat m)) (toU k (Int.ofNat n)))))))
  (hc : ∀ j m n, m < 2 ^ j → n < 2 ^ j → c m n < 2 ^ j) (t : TypeId) (P : Program) :
  Fair2 (fun x y f z => nn2 x y (fun k m n => ifR (Nat.ble m (kindMax k)) (ifR (Nat.ble n (kindMax k)) (forceR (c m n) fun s => f (.int k (Int.ofNat s))) z) z) z) op t P := by
 refine nn2_fair (g := fun f z k m n => ifR (Nat.ble m (kindMax k)) (ifR (Nat.ble n (kindMax k)) (forceR (c m n) fun s => f (.int k (Int.ofNat s))) z) z) hs hr fun f z k m n => ?_
 simp only [forceR_eq]
 cases hb : Nat.ble m (kindMax k) with
 | false => exact .inl rfl
 | true =>
  cases hd : Nat.ble n (kindMax k) with
  | false => exact .inl rfl
  | true =>
   refine .inr ⟨_, ?_, rfl⟩
   have h1 : m ≤ kindMax k := Nat.le_of_ble_eq_true hb
   have h2 : n ≤ kindMax k := Nat.le_of_ble_eq_true hd
   obtain ⟨j, hj⟩ := kindMax_pow k
   rw [h, toU_nat h1, toU_nat h2, wrap_nat]
   have := hc j m n (by omega) (by omega)
   omega
theorem andF_fair (t : TypeId) (P : Program) : Fair2 andF .and t P := bitsF_fair Nat.land (by simp) (by simp) (fun _ _ _ => rfl) (fun j m n h1 h2 => Nat.and_lt_two_pow m h2) t P
theorem orF_fair (t : TypeId) (P : Program) : Fair2 orF .or t P := bitsF_fair Nat.lor (by simp) (by simp) (fun _ _ _ => rfl) (fun j m n h1 h2 => Nat.or_lt_two_pow h1 h2) t P
theorem strEqF_fair (t : TypeId) (P : Program) : Fair2 strEqF .eql t P := by
 intro x y f z
 cases x <;> try exact .inl rfl
 cases y <;> try exact .inl rfl
 rename_i n c m d
 exact .inr ⟨.bool (sEq n c m d), rfl, touchB_eq (sEq n c m d) fun b => f (.bool b)⟩
def Fair1 (f : F1) (op : UnOp) : Prop := ∀ x k z, f x k z = z ∨ ∃ v, unH op x = some v ∧ f x k z = k v
theorem notF_fair : Fair1 notF .not := by
 intro x k z
 cases x <;> try exact .inl rfl
 rename_i b
 cases b <;> exact .inr ⟨_, rfl, rfl⟩
theorem comF_fair : Fair1 comF .xor := by
 intro x f z
 cases x <;> try exact .inl rfl
 rename_i k a
 cases a <;> try exact .inl rfl
 rename_i n
 show ifR (Nat.blt 3 (kindNo k)) (ifR (Nat.ble n (kindMax k)) (forceR (Nat.sub (kindMax k) n) fun s => f (.int k (Int.ofNat s))) z) z = z ∨ ∃ v, _ ∧ ifR (Nat.blt 3 (kindNo k)) (ifR (Nat.ble n (kindMax k)) (forceR (Nat.sub (kindMax k) n) fun s => f (.int k (Int.ofNat s))) z) z = f v
 simp only [forceR_eq]
 cases hb : Nat.blt 3 (kindNo k) with
 | false => exact .inl rfl
 | true =>
  cases hd : Nat.ble n (kindMax k) with
  | false => exact .inl rfl
  | true =>
   refine .inr ⟨_, ?_, rfl⟩
   have h2 : n ≤ kindMax k := Nat.le_of_ble_eq_true hd
   show some (HVal.int k (k.wrap (Int.ofNat (Nat.xor (toU k (Int.ofNat n)) (Nat.sub (Nat.pow 2 k.bits) 1))))) = _
   have hk : Nat.sub (Nat.pow 2 k.bits) 1 = kindMax k := by cases k <;> first | rfl | (exact absurd hb (by decide))
   obtain ⟨j, hj⟩ := kindMax_pow k
   have e : Nat.xor n (kindMax k) = Nat.sub (kindMax k) n := by
    show n ^^^ kindMax k = kindMax k - n
    have h3 : kindMax k = 2 ^ j - 1 := by omega
    rw [h3, Nat.sub_right_comm, Nat.sub_sub]
    apply Nat.eq_of_testBit_eq
    intro i
    rw [Nat.testBit_xor, Nat.testBit_two_pow_sub_one, Nat.testBit_two_pow_sub_succ (n := j) (x := n) (by omega)]
    by_cases hi : i < j
    ·simp [hi]
    ·have : n.testBit i = false := Nat.testBit_lt_two_pow (Nat.lt_of_lt_of_le (by omega : n < 2 ^ j) (Nat.pow_le_pow_right (by omega) (by omega)))
     simp [hi, this]
   rw [toU_nat h2, hk, e]
   exact congrArg (fun i => some (HVal.int k i)) (wrap_nat (Nat.sub_le (kindMax k) n))
end
end Go.HL
namespace Go.HL
open Go
noncomputable section
def f2Of (op : BinOp) (d : Option TypeDesc) : Option F2 := match d with
 | some (.int _) => match op with
  | .add => some addF | .sub => some subF | .mul => some mulF | .lss => some lssF | .leq => some leqF | .gtr => some gtrF | .geq => some geqF | .eql => some eqlF | .neq => some neqF
  | .and => some andF | .or => some orF | _ => none
 | some .string => match op with
  | .eql => some strEqF
  | _ => none
 | _ => none
def f1Of (op : UnOp) : Option F1 := match op with
 | .not => some notF
 | .xor => some comF
 | _ => none
def placesC (P : Program) (m : Nat) (fields : List Field) : List (Nat × Operand) → Option (List (Nat × Nat × FArg))
 | [] => some []
 | p :: rest => ob (nth fields p.1) fun f => ob (placesC P m fields rest) fun l => some ((f.offset, P.cellsOf f.type, compArg P m p.2) :: l)
def compK (P : Program) (m : Nat) (o : Oper) : Option OpK := match o.op with
 | .move x => some (goMov (compArg P m x))
 | .assign x => some (goMov (compArg P m x))
 | .pick c a b => some (goPick (compArg P m c) (compArg P m a) (compArg P m b))
 | .load t a => ob (aggOf P t) fun b => some (bcase b (goLoadN (P.cellsOf t) (compArg P m a)) (goLoad1 (compArg P m a)))
 | .store t a v => ob (P.info? t) fun _ => some (goStore (P.cellsOf t) (compArg P m a) (compArg P m v))
 | .alloc e => ob (zeroCells? P e) fun z => some (goAlloc z e)
 | .box e x => some (goBox e (compArg P m x))
 | .nilCheck x => some (goNil (compArg P m x))
 | .binOp op t x y _ => ob (f2Of op (P.underlying t)) fun f => some (go2 f m o (compArg P m x) (compArg P m y))
 | .unOp op _ x => ob (f1Of op) fun f => some (go1 f m o (compArg P m x))
 | .fieldAddr t x f => match P.underlying t with
  | some (.struct fields) => ob fields[f]? fun fd => bcase (Nat.beq (P.cellsOf fd.type) 0) none (some (goFieldA fd.offset (compArg P m x)))
  | _ => none
 | .indexAddr t x i => bcase (elemOk P t) (match P.underlying t with
  | some (.slice e) => some (goIndexL (P.cellsOf e) (compArg P m x) (compArg P m i))
  | some (.array n e) => some (goIndexA n (P.cellsOf e) (compArg P m x) (compArg P m i))
  | _ => none) none
 | .index t x i => bcase (elemOk P t) (match P.underlying t with
  | some .string => some (goIndexS (compArg P m x) (compArg P m i))
  | _ => none) none
 | .convert s d x => match P.underlying d with
  | some (.int k) => ob (P.underlying s) fun _ => some (goConv k m o (compArg P m x))
  | _ => none
 | .extract x i => some (goExtract (compArg P m x) i)
 | .build t parts => ob (zeroCells? P t) fun z => match P.underlying t with
  | some (.struct fields) => bcase (infosOk P fields.toList) (ob (placesC P m fields.toList parts.toList) fun l => some (goBuild l z)) none
  | _ => none
 | .buildSlice t len parts => match P.underlying t with
  | some (.slice e) => bcase (Nat.ble (Nat.mul len (P.cellsOf e)) 16777216)
    (ob (zeroCells? P e) fun z => bcase (Nat.beq z.length (P.cellsOf e)) (some (goBuildL (parts.toList.map fun p => (Nat.mul p.1 (P.cellsOf e), P.cellsOf e, compArg P m p.2)) (repl len z) e len)) none) none
  | _ => none
 | .call c => match c.callee with
  | .builtin .len => match c.args.toList with
   | [x] => match c.argTypes[0]? with
    | some t => match P.underlying t with
     | some .string => some (goLenS (compArg P m x))
     | some (.slice _) => some (goLenL (compArg P m x))
     | _ => none
    | none => none
   | _ => none
  | .value (.func f) => ob P.funcs[f]? fun fn => ob fn.body fun _ => bcase (fn.name == "runtime.NumGoroutine") none (bcase (Nat.blt f roundNo) (some (goCall f (c.args.toList.map (compArg P m)))) none)
  | _ => none
 | _ => none
theorem slowK_eq (m : Nat) (o : Oper) (P : Program) (call : CallFn) (loc vars : Sl) (heap : Heap) (k : Kt) (z : Res) : slowK m o P call loc vars heap k z = outK (opH P (evalG P m loc vars) heap o) call k z := by
 unfold slowK
 rw [opF_eq]
theorem argsK_eq (P : Program) (m : Nat) (loc vars : Sl) : ∀ (l : List Operand) (k : List HVal → Res), argsK (l.map (compArg P m)) loc vars k = k (l.map (evalG P m loc vars))
 | [], k => rfl
 | x :: l, k => by
  show touch (evalG P m loc vars x) (fun v => argsK (l.map (compArg P m)) loc vars fun r => k (v :: r)) = _
  rw [touch_eq, argsK_eq P m loc vars l]
  rfl
theorem fillK_eq (loc vars : Sl) : ∀ (l : List (Nat × Nat × FArg)) (cells : List HVal) (k : List HVal → Res) (z : Res),
  fillK l loc vars cells k z = oR (fillH (l.map fun p => (p.1, p.2.1, p.2.2.get loc vars)) cells) k z
 | [], cells, k, z => rfl
 | p :: l, cells, k, z => by
  show onCells (p.2.2.get loc vars) (fun v => ifR (Nat.beq p.2.1 0) z (ifR (Nat.beq (lenR v) p.2.1) (overR cells p.1 v (fun c => fillK l loc vars c k z) z) z)) z = _
  simp only [List.map_cons, fillH]
  rw [onCells_eq, oR_ob]
  congr 1
  funext v
  rw [lenR_eq]
  cases Nat.beq p.2.1 0 with
  | true => rfl
  | false =>
   simp only [ifR_false, bcF]
   cases Nat.beq v.length p.2.1 with
   | false => rfl
   | true =>
    simp only [ifR_true, bcT]
    rw [overR_eq, overK_eq, overK_eq]
    split
    ·simp only [oR_some]; exact fillK_eq loc vars l _ k z
    ·rfl
theorem placesC_eq (P : Program) (m : Nat) (loc vars : Sl) (fields : List Field) : ∀ (parts : List (Nat × Operand)) (l : List (Nat × Nat × FArg)), placesC P m fields parts = some l →
  placesOf P fields (evalG P m loc vars) parts = some (l.map fun p => (p.1, p.2.1, p.2.2.get loc vars))
 | [], l, e => by cases e; rfl
 | p :: rest, l, e => by
  simp only [placesC] at e
  obtain ⟨f, h1, e1⟩ := ob_eq_some.1 e
  obtain ⟨l', h2, e2⟩ := ob_eq_some.1 e1
  cases e2
  simp only [placesOf, h1, obS, placesC_eq P m loc vars fields rest l' h2]
  rfl
section
variable {P : Program} {m : Nat} {o : Oper} {call : CallFn} {loc vars : Sl} {heap : Heap} {k : Kt} {z : Res}
theorem binH_binC {op : BinOp} {t : TypeId} {c : Bool} {x y v : HVal} (h : binH P op t x y = some v) : binC P op t c x y = some v := by
 unfold binC
 split
 ·exfalso
  cases op <;> simp [binH, eqlH] at h
 ·exfalso
  cases op <;> simp [binH, eqlH, heq_rng_left] at h
 ·exact h
theorem go2_eq {f : F2} {op : BinOp} {t : TypeId} {x y : Operand} {yt : TypeId} (ho : o.op = .binOp op t x y yt) (hf : Fair2 f op t P) :
  go2 f m o (compArg P m x) (compArg P m y) P call loc vars heap k z = outK (opH P (evalG P m loc vars) heap o) call k z := by
 show f (evalG P m loc vars x) (evalG P m loc vars y) (fun v => k v heap) (slowK m o P call loc vars heap k z) = _
 rw [slowK_eq]
 rcases hf (evalG P m loc vars x) (evalG P m loc vars y) (fun v => k v heap) (outK (opH P (evalG P m loc vars) heap o) call k z) with h | ⟨v, h1, h2⟩
 ·exact h
 ·rw [h2]
  simp only [opH, ho, binH_binC h1]
  exact (outK_val v heap).symm
theorem go1_eq {f : F1} {op : UnOp} {t : TypeId} {x : Operand} (ho : o.op = .unOp op t x) (hf : Fair1 f op) :
  go1 f m o (compArg P m x) P call loc vars heap k z = outK (opH P (evalG P m loc vars) heap o) call k z := by
 show f (evalG P m loc vars x) (fun v => k v heap) (slowK m o P call loc vars heap k z) = _
 rw [slowK_eq]
 rcases hf (evalG P m loc vars x) (fun v => k v heap) (outK (opH P (evalG P m loc vars) heap o) call k z) with h | ⟨v, h1, h2⟩
 ·exact h
 ·rw [h2]
  simp only [opH, ho, h1]
  exact (outK_val v heap).symm
end
theorem f2Of_fair {op : BinOp} {d : Option TypeDesc} {f : F2} (h : f2Of op d = some f) (t : TypeId) (P : Program) : Fair2 f op t P := by
 unfold f2Of at h
 split at h
 ·split at h <;> cases h
  ·exact addF_fair t P
  ·exact subF_fair t P
  ·exact mulF_fair t P
  ·exact lssF_fair t P
  ·exact leqF_fair t P
  ·exact gtrF_fair t P
  ·exact geqF_fair t P
  ·exact eqlF_fair t P
  ·exact neqF_fair t P
  ·exact andF_fair t P
  ·exact orF_fair t P
 ·split at h <;> cases h
  exact strEqF_fair t P
 ·cases h
theorem f1Of_fair {op : UnOp} {f : F1} (h : f1Of op = some f) : Fair1 f op := by
 unfold f1Of at h
 split at h <;> cases h
 ·exact notF_fair
 ·exact comF_fair
theorem compK_eq {P : Program} {m : Nat} {o : Oper} {g : OpK} (hg : compK P m o = some g) (call : CallFn) (loc vars : Sl) (heap : Heap) (k : Kt) (z : Res) :
  g P call loc vars heap k z = outK (opH P (evalG P m loc vars) heap o) call k z := by
 unfold compK at hg
 split at hg
 ·rename_i x hx
  cases hg
  simp only [opH, hx, outK_val]
  exact touch_eq _ _
 ·rename_i x hx
  cases hg
  simp only [opH, hx, outK_val]
  exact touch_eq _ _
 ·rename_i c a b hx
  cases hg
  simp only [opH, hx, outK_ob, outK_val]
  show onBool (evalG P m loc vars c) (fun t => ifR t (touch (evalG P m loc vars a) fun v => k v heap) (touch (evalG P m loc vars b) fun v => k v heap)) z = _
  simp only [onBool_eq, touch_eq]
  congr 1
  funext t
  cases t <;> rfl
 ·rename_i t a hx
  obtain ⟨b, hb, e⟩ := ob_eq_some.1 hg
  cases e
  simp only [opH, hx, outK_ob, outK_valO, loadT, hb, obS]
  cases b with
  | false =>
   show onPtr (evalG P m loc vars a) (fun p o => cellsK heap p (fun l _ _ _ => nthR l o (fun v => k v heap) z) z) z = _
   simp only [onPtr_eq, cellsK_eq, nthR_eq, bcF, load1, oR_ob]
  | true =>
   show onPtr (evalG P m loc vars a) (fun p o => cellsK heap p (fun l _ _ _ => takeR (dropR l o) (P.cellsOf t) (fun l => k (.agg l) heap) z) z) z = _
   simp only [onPtr_eq, cellsK_eq, takeR_eq, dropR_eq, bcT, loadN, oR_ob, oR_some]
 ·rename_i t a v hx
  obtain ⟨i, hi, e⟩ := ob_eq_some.1 hg
  cases e
  simp only [opH, hx, outK_ob, hi, oR_some, outK_bcase, outK_val]
  show onPtr (evalG P m loc vars a) (fun p o => onCells (evalG P m loc vars v) (fun l => ifR (Nat.beq (lenR l) (P.cellsOf t)) (storeK heap p o l (fun h => k undefH h) z) z) z) z = _
  simp only [onPtr_eq, onCells_eq, lenR_eq, storeK_eq]
 ·rename_i e hx
  obtain ⟨zl, hz, e1⟩ := ob_eq_some.1 hg
  cases e1
  simp only [opH, hx, outK_ob, hz, oR_some, outK_val]
  exact newK_eq _ _ _
 ·rename_i e x hx
  cases hg
  simp only [opH, hx, outK_ob, outK_val]
  show onCells (evalG P m loc vars x) (fun l => newK heap (.cells l e false true) fun p h => k (.ptr p 0) h) z = _
  simp only [onCells_eq, newK_eq]
 ·rename_i x hx
  cases hg
  simp only [opH, hx]
  show onNil (evalG P m loc vars x) (fun v => k v heap) z = _
  cases evalG P m loc vars x <;> first | rfl | exact (outK_val _ _).symm
 ·rename_i op t x y yt hx
  obtain ⟨f, hf, e⟩ := ob_eq_some.1 hg
  cases e
  exact go2_eq hx (f2Of_fair hf t P)
 ·rename_i op t x hx
  obtain ⟨f, hf, e⟩ := ob_eq_some.1 hg
  cases e
  exact go1_eq hx (f1Of_fair hf)
 ·rename_i t x f hx
  split at hg
  ·rename_i fields hu
   obtain ⟨fd, hf, e⟩ := ob_eq_some.1 hg
   obtain ⟨hz, e1⟩ := bcase_none_eq_some.1 e
   cases e1
   simp only [opH, hx, hu, outK_ob, hf, oR_some, hz, bcF, outK_val]
   show onPtr (evalG P m loc vars x) (fun p o => forceR (Nat.add o fd.offset) fun q => k (.ptr p q) heap) z = _
   simp only [onPtr_eq, forceR_eq]
  ·cases hg
 ·rename_i t x i hx
  obtain ⟨he, e⟩ := bcase_eq_some.1 hg
  simp only [opH, hx, he, bcT, outK_ob]
  split at e
  ·rename_i el hu
   cases e
   simp only [hu]
   show onNat (evalG P m loc vars i) (fun _ i => onSlice (evalG P m loc vars x) (fun p o len => ifR (Nat.blt i len) (forceR (Nat.add o (Nat.mul i (P.cellsOf el))) fun q => k (.ptr p q) heap) z) z) z = _
   rw [onNat_eq]
   congr 1
   funext i
   cases evalG P m loc vars x <;> first | rfl | skip
   simp only [outK_bcase, outK_val]
   rename_i p o len cap
   show ifR (Nat.blt i len) (forceR (Nat.add o (Nat.mul i (P.cellsOf el))) fun q => k (.ptr p q) heap) z = _
   rw [forceR_eq]
  ·rename_i n el hu
   cases e
   simp only [hu]
   show onNat (evalG P m loc vars i) (fun _ i => onPtr (evalG P m loc vars x) (fun p o => ifR (Nat.blt i n) (forceR (Nat.add o (Nat.mul i (P.cellsOf el))) fun q => k (.ptr p q) heap) z) z) z = _
   rw [onNat_eq]
   congr 1
   funext i
   simp only [outK_ob, outK_bcase, outK_val, onPtr_eq, forceR_eq]
  ·cases e
 ·rename_i t x i hx
  obtain ⟨he, e⟩ := bcase_eq_some.1 hg
  simp only [opH, hx, he, bcT, outK_ob]
  split at e
  ·rename_i hu
   cases e
   simp only [hu]
   show onNat (evalG P m loc vars i) (fun _ i => onStr (evalG P m loc vars x) (fun n c => ifR (Nat.blt i n) (forceR (sIndex n c i) fun b => k (.int .u8 (Int.ofNat b)) heap) z) z) z = _
   rw [onNat_eq]
   congr 1
   funext i
   cases evalG P m loc vars x <;> first | rfl | skip
   simp only [outK_bcase, outK_val]
   rename_i n c
   show ifR (Nat.blt i n) (forceR (sIndex n c i) fun b => k (.int .u8 (Int.ofNat b)) heap) z = _
   rw [forceR_eq]
  ·cases e
 ·rename_i s d x hx
  split at hg
  ·rename_i kd hd
   obtain ⟨ds, hs, e⟩ := ob_eq_some.1 hg
   cases e
   show onNat (evalG P m loc vars x) (fun _ n => ifR (Nat.ble n (kindMax kd)) (k (.int kd (Int.ofNat n)) heap) (slowK m o P call loc vars heap k z)) (slowK m o P call loc vars heap k z) = _
   rw [onNat_eq, slowK_eq]
   cases hn : (evalG P m loc vars x).isNat with
   | none => rfl
   | some n =>
    simp only [oR_some]
    cases hb : Nat.ble n (kindMax kd) with
    | false => rfl
    | true =>
     have ht : toBytes P s d = none := by
      unfold toBytes
      rw [hd]
      split <;> rfl
     simp only [ifR_true, opH, hx, ht, convH, hd, hs, obS]
     cases hv : evalG P m loc vars x <;> rw [hv] at hn <;> try (cases hn)
     rename_i kk i
     cases i <;> cases hn
     simp only [HVal.isInt, obS, wrapF_nat hb, outK_val]
  ·cases hg
 ·rename_i x i hx
  cases hg
  simp only [opH, hx, outK_ob, outK_valO]
  show onTuple (evalG P m loc vars x) (fun l => nthR l i (fun v => touch v fun v => k v heap) z) z = _
  simp only [onTuple_eq, nthR_eq, touch_eq]
 ·rename_i t parts hx
  obtain ⟨zl, hz, e⟩ := ob_eq_some.1 hg
  simp only [opH, hx, outK_ob, hz, oR_some]
  split at e
  ·rename_i fields hu
   obtain ⟨hi, e1⟩ := bcase_eq_some.1 e
   obtain ⟨l, hl, e2⟩ := ob_eq_some.1 e1
   cases e2
   simp only [hu, hi, bcT, outK_ob, placesC_eq P m loc vars _ _ _ hl, oR_some, outK_val]
   exact fillK_eq loc vars l zl _ z
  ·cases e
 ·rename_i t len parts hx
  split at hg
  ·rename_i el hu
   obtain ⟨h1, e1⟩ := bcase_eq_some.1 hg
   obtain ⟨zl, hz, e2⟩ := ob_eq_some.1 e1
   obtain ⟨h3, e3⟩ := bcase_eq_some.1 e2
   cases e3
   simp only [opH, hx, hu, h1, bcT, outK_ob, hz, oR_some, h3, outK_val]
   show fillK _ loc vars (repl len zl) (fun cs => newK heap (.cells cs el false true) fun p h => k (.slice p 0 len (some len)) h) z = _
   rw [fillK_eq, List.map_map]
   simp only [newK_eq]
   rfl
  ·cases hg
 ·rename_i c hx
  split at hg
  ·rename_i hc
   split at hg
   ·rename_i x ha
    split at hg
    ·rename_i t ht
     split at hg
     ·rename_i hu
      cases hg
      simp only [opH, hx, hc, ha, List.map_cons, List.map_nil, builtinH, ht, lenH, hu, outK_valO]
      show onStr (evalG P m loc vars x) (fun n _ => k (.int .i64 (Int.ofNat n)) heap) z = _
      cases evalG P m loc vars x <;> rfl
     ·rename_i el hu
      cases hg
      simp only [opH, hx, hc, ha, List.map_cons, List.map_nil, builtinH, ht, lenH, hu, outK_valO]
      show onLen (evalG P m loc vars x) (fun n => k (.int .i64 (Int.ofNat n)) heap) z = _
      cases evalG P m loc vars x <;> rfl
     ·cases hg
    ·cases hg
   ·cases hg
  ·rename_i f hc
   obtain ⟨fn, hf, e1⟩ := ob_eq_some.1 hg
   obtain ⟨b, hb, e2⟩ := ob_eq_some.1 e1
   obtain ⟨hn, e3⟩ := bcase_none_eq_some.1 e2
   obtain ⟨hlt, e4⟩ := bcase_eq_some.1 e3
   cases e4
   have hv : evalG P m loc vars (.func f) = .func f [] [] := rfl
   simp only [opH, hx, hc, hv, callH, hf, obS, hb, hn, hlt, bcF, bcT, List.append_nil, List.nil_append, outK_enter]
   show argsK _ loc vars (fun vs => retK (call f vs heap) k z) = _
   rw [argsK_eq]
  ·cases hg
 ·cases hg
end
end Go.HL
namespace Go.HL
open Go
noncomputable section
set_option linter.unusedVariables false
def co1_pick (P : Program) (m : Nat) (o : Oper) (c : Operand) (a : Operand) (b : Operand) : Option OpK := some (goPick (compArg P m c) (compArg P m a) (compArg P m b))
def co1_load (P : Program) (m : Nat) (o : Oper) (t : TypeId) (a : Operand) : Option OpK := ob (aggOf P t) fun b => some (bcase b (goLoadN (P.cellsOf t) (compArg P m a)) (goLoad1 (compArg P m a)))
def co1_store (P : Program) (m : Nat) (o : Oper) (t : TypeId) (a : Operand) (v : Operand) : Option OpK := ob (P.info? t) fun _ => some (goStore (P.cellsOf t) (compArg P m a) (compArg P m v))
def co1_alloc (P : Program) (m : Nat) (o : Oper) (e : TypeId) : Option OpK := ob (zeroCells? P e) fun z => some (goAlloc z e)
def co1_box (P : Program) (m : Nat) (o : Oper) (e : TypeId) (x : Operand) : Option OpK := some (goBox e (compArg P m x))
def co1_nilCheck (P : Program) (m : Nat) (o : Oper) (x : Operand) : Option OpK := some (goNil (compArg P m x))
def co1_binOp (P : Program) (m : Nat) (o : Oper) (op : BinOp) (t : TypeId) (x : Operand) (y : Operand) (x_4 : TypeId) : Option OpK := ob (f2Of op (P.underlying t)) fun f => some (go2 f m o (compArg P m x) (compArg P m y))
def co1_unOp (P : Program) (m : Nat) (o : Oper) (op : UnOp) (x_1 : TypeId) (x : Operand) : Option OpK := ob (f1Of op) fun f => some (go1 f m o (compArg P m x))
def co1_fieldAddr (P : Program) (m : Nat) (o : Oper) (t : TypeId) (x : Operand) (f : Nat) : Option OpK := match P.underlying t with
  | some (.struct fields) => ob fields[f]? fun fd => bcase (Nat.beq (P.cellsOf fd.type) 0) none (some (goFieldA fd.offset (compArg P m x)))
  | _ => none
def co1_indexAddr (P : Program) (m : Nat) (o : Oper) (t : TypeId) (x : Operand) (i : Operand) : Option OpK := bcase (elemOk P t) (match P.underlying t with
  | some (.slice e) => some (goIndexL (P.cellsOf e) (compArg P m x) (compArg P m i))
  | some (.array n e) => some (goIndexA n (P.cellsOf e) (compArg P m x) (compArg P m i))
  | _ => none) none
def co1_index (P : Program) (m : Nat) (o : Oper) (t : TypeId) (x : Operand) (i : Operand) : Option OpK := bcase (elemOk P t) (match P.underlying t with
  | some .string => some (goIndexS (compArg P m x) (compArg P m i))
  | _ => none) none
def co1_convert (P : Program) (m : Nat) (o : Oper) (s : TypeId) (d : TypeId) (x : Operand) : Option OpK := match P.underlying d with
  | some (.int k) => ob (P.underlying s) fun _ => some (goConv k m o (compArg P m x))
  | _ => none
def co1_extract (P : Program) (m : Nat) (o : Oper) (x : Operand) (i : Nat) : Option OpK := some (goExtract (compArg P m x) i)
def co1_build (P : Program) (m : Nat) (o : Oper) (t : TypeId) (parts : Array (Nat × Operand)) : Option OpK := ob (zeroCells? P t) fun z => match P.underlying t with
  | some (.struct fields) => bcase (infosOk P fields.toList) (ob (placesC P m fields.toList parts.toList) fun l => some (goBuild l z)) none
  | _ => none
def co1_buildSlice (P : Program) (m : Nat) (o : Oper) (t : TypeId) (len : Nat) (parts : Array (Nat × Operand)) : Option OpK := match P.underlying t with
  | some (.slice e) => bcase (Nat.ble (Nat.mul len (P.cellsOf e)) 16777216)
    (ob (zeroCells? P e) fun z => bcase (Nat.beq z.length (P.cellsOf e)) (some (goBuildL (parts.toList.map fun p => (Nat.mul p.1 (P.cellsOf e), P.cellsOf e, compArg P m p.2)) (repl len z) e len)) none) none
  | _ => none
def co1_call (P : Program) (m : Nat) (o : Oper) (c : Call) : Option OpK := match c.callee with
  | .builtin .len => match c.args.toList with
   | [x] => match c.argTypes[0]? with
    | some t => match P.underlying t with
     | some .string => some (goLenS (compArg P m x))
     | some (.slice _) => some (goLenL (compArg P m x))
     | _ => none
    | none => none
   | _ => none
  | .value (.func f) => ob P.funcs[f]? fun fn => ob fn.body fun _ => bcase (fn.name == "runtime.NumGoroutine") none (bcase (Nat.blt f roundNo) (some (goCall f (c.args.toList.map (compArg P m)))) none)
  | _ => none
def mkF (g : Option OpK) (m : Nat) (o : Oper) : FOp := @Option.rec OpK (fun _ => Nat → Oper → FOp) (fun m o => .mk (slowK m o)) (fun g _ _ => .mk g) g m o
def compOp (P : Program) (m : Nat) (o : Oper) : FOp :=
 @Op.rec (fun _ => Program → Nat → Oper → FOp) (fun x P m _ => .mov (compArg P m x)) (fun x P m _ => .mov (compArg P m x)) (fun a0 a1 a2 P m o => mkF (co1_pick P m o a0 a1 a2) m o) (fun a0 P m o => mkF (co1_alloc P m o a0) m o) (fun a0 a1 P m o => mkF (co1_box P m o a0 a1) m o) (fun a0 a1 P m o => mkF (co1_build P m o a0 a1) m o) (fun a0 a1 a2 P m o => mkF (co1_buildSlice P m o a0 a1 a2) m o) (fun _ _ _ _ _ m o => .mk (slowK m o)) (fun a0 a1 P m o => mkF (co1_load P m o a0 a1) m o) (fun a0 a1 a2 P m o => mkF (co1_store P m o a0 a1 a2) m o) (fun _ _ m o => .mk (slowK m o)) (fun _ _ m o => .mk (slowK m o)) (fun a0 P m o => mkF (co1_nilCheck P m o a0) m o) (fun a0 a1 a2 a3 a4 P m o => mkF (co1_binOp P m o a0 a1 a2 a3 a4) m o) (fun a0 a1 a2 P m o => mkF (co1_unOp P m o a0 a1 a2) m o) (fun a0 a1 a2 P m o => mkF (co1_convert P m o a0 a1 a2) m o) (fun _ _ _ m o => .mk (slowK m o)) (fun _ _ _ m o => .mk (slowK m o)) (fun _ _ _ _ m o => .mk (slowK m o)) (fun _ _ _ m o => .mk (slowK m o)) (fun _ _ _ m o => .mk (slowK m o)) (fun _ _ _ _ m o => .mk (slowK m o)) (fun _ _ _ _ _ _ m o => .mk (slowK m o)) (fun a0 a1 a2 P m o => mkF (co1_fieldAddr P m o a0 a1 a2) m o) (fun _ _ _ _ m o => .mk (slowK m o)) (fun a0 a1 a2 P m o => mkF (co1_indexAddr P m o a0 a1 a2) m o) (fun a0 a1 a2 P m o => mkF (co1_index P m o a0 a1 a2) m o) (fun _ _ _ _ _ m o => .mk (slowK m o)) (fun _ _ _ _ _ m o => .mk (slowK m o)) (fun _ _ _ _ m o => .mk (slowK m o)) (fun _ _ _ _ _ m o => .mk (slowK m o)) (fun _ _ _ m o => .mk (slowK m o)) (fun _ _ _ m o => .mk (slowK m o)) (fun _ _ m o => .mk (slowK m o)) (fun _ _ _ _ _ m o => .mk (slowK m o)) (fun a0 a1 P m o => mkF (co1_extract P m o a0 a1) m o) (fun a0 P m o => mkF (co1_call P m o a0) m o) (fun _ _ m o => .mk (slowK m o)) (fun _ _ m o => .mk (slowK m o)) (fun _ _ m o => .mk (slowK m o)) (fun _ _ _ m o => .mk (slowK m o)) (fun _ _ _ _ m o => .mk (slowK m o)) (fun _ _ _ m o => .mk (slowK m o)) o.op P m o
theorem compOp_run (P : Program) (m : Nat) (o : Oper) : (compOp P m o).run = (mkF (compK P m o) m o).run := by
 unfold compOp compK
 generalize o.op = p
 cases p <;> rfl
theorem compOp_eq (P : Program) (m : Nat) (o : Oper) (call : CallFn) (loc vars : Sl) (heap : Heap) (k : Kt) (z : Res) :
  (compOp P m o).run P call loc vars heap k z = outK (opH P (evalG P m loc vars) heap o) call k z := by
 rw [compOp_run]
 cases hg : compK P m o with
 | some g => exact compK_eq hg call loc vars heap k z
 | none => exact slowK_eq m o P call loc vars heap k z
end
end Go.HL
namespace Go.HL
open Go
noncomputable section
def argT (m : Nat) (d : Nat) : FArg := bcase (bit m d) (.var d) (.loc d)
def compGuard (m : Nat) (ops : Array Oper) (o : Oper) : FGuard := match o.guard with
 | none => .no
 | some g => match (ops[g.1]?).bind (·.dst) with
  | some d => .on (argT m d) g.2
  | none => .stuck
def compDst (m : Nat) : Option Tmp → FDst
 | none => .none
 | some d => bcase (bit m d) (.var d) (.loc d)
def compReg (P : Program) (m : Nat) (ops : Array Oper) : List Oper → FReg
 | [] => .nil
 | o :: l => consS (compGuard m ops o) (compDst m o.dst) (compOp P m o) (compReg P m ops l)
def maxDst : List Oper → Nat
 | [] => 0
 | o :: l => match o.dst with
  | some d => bcase (Nat.ble d (maxDst l)) (maxDst l) d
  | none => maxDst l
def specR (P : Program) (call : CallFn) (ops : Array Oper) (l : List Oper) (s : St) : Res := ob (regionH P call ops l s) flushed
def endR (s : St) : Sl → Heap → Res := fun vars h => some (.nrm, ⟨⟨[], vars⟩, h, s.defers, s.pan, s.mask, s.lim⟩)
structure Like (m : Nat) (L V loc vars : Sl) : Prop where
 flush : ∀ k : Sl → Res, flushK m L V k = k vars
 low : ∀ i, bit m i = false → assoc loc (assoc vars .bad i) i = assoc L (assoc V .bad i) i
 kept : ∀ i, bit m i = true → assoc vars .bad i = assoc L (assoc V .bad i) i
theorem argT_get {m : Nat} {L V loc vars : Sl} (h : Like m L V loc vars) (d : Nat) : (argT m d).get loc vars = assoc L (assoc V .bad d) d := by
 unfold argT
 cases hb : bit m d with
 | true => rw [bcT, FArg.get_var]; exact h.kept d hb
 | false => rw [bcF, FArg.get_loc]; exact h.low d hb
theorem evalG_eq {m : Nat} {L V loc vars : Sl} (h : Like m L V loc vars) (P : Program) : evalG P m loc vars = Env.eval P ⟨L, V⟩ := by
 funext x
 cases x <;> first | rfl | skip
 exact argT_get h _
theorem wantG_eq {m : Nat} {L V loc vars : Sl} (h : Like m L V loc vars) (ops : Array Oper) (o : Oper) (yes no z : Res) :
  wantG (compGuard m ops o) loc vars yes no z = oR (wantedH ops o ⟨L, V⟩) (fun w => ifR w yes no) z := by
 unfold compGuard wantedH
 split
 ·rename_i hg; simp only [hg]; rfl
 ·rename_i g hg
  simp only [hg]
  split
  ·rename_i d hd
   simp only [hd]
   show onGuard ((argT m d).get loc vars) (fun b => ifR (bcase g.2 b (bcase b false true)) yes no) no z = _
   rw [argT_get h]
   have e : (⟨L, V⟩ : Env).get d = assoc L (assoc V .bad d) d := rfl
   rw [e]
   cases assoc L (assoc V .bad d) d <;> rfl
  ·rename_i hd; simp only [hd]; rfl
def setA (l : Sl) (d : Nat) (v : HVal) : Sl := setAK l d v id
theorem setAK_set {β : Type} (d : Nat) (v : HVal) : ∀ (l : Sl) (k : Sl → β), setAK l d v k = k (setA l d v)
 | [], k => rfl
 | p :: l, k => by
  have h1 : setAK (p :: l) d v k = @Bool.rec (fun _ => β) (setAK l d v fun r => k (p :: r)) (k ((d, v) :: l)) (Nat.beq p.1 d) := rfl
  have h2 : setA (p :: l) d v = @Bool.rec (fun _ => Sl) (setAK l d v fun r => p :: r) ((d, v) :: l) (Nat.beq p.1 d) := rfl
  rw [h1, h2, setAK_set d v l (fun r => k (p :: r)), setAK_set d v l (fun r => p :: r)]
  cases Nat.beq p.1 d <;> rfl
theorem assoc_setA (l : Sl) (d : Nat) (v : HVal) (x : HVal) (i : Nat) : assoc (setA l d v) x i = if d = i then v else assoc l x i := by
 obtain ⟨m, e1, e2⟩ := setAK_eq d v l (id : Sl → Sl)
 have : setA l d v = m := e1
 rw [this]; exact e2 x i
def putL (dst : Option Tmp) (v : HVal) (l : Sl) : Sl := match dst with
 | none => l
 | some d => (d, v) :: l
theorem put_putL (dst : Option Tmp) (v : HVal) (L V : Sl) : Env.put ⟨L, V⟩ dst v = ⟨putL dst v L, V⟩ := by cases dst <;> rfl
theorem putG_eq {m : Nat} {L V loc vars : Sl} (h : Like m L V loc vars) (dst : Option Tmp) (v : HVal) (ih : RK) (P : Program) (call : CallFn) (heap : Heap) (k : Sl → Heap → Res) (z : Res) :
  ∃ loc' vars', putG (compDst m dst) v ih P call loc vars heap k z = ih P call loc' vars' heap k z ∧ Like m (putL dst v L) V loc' vars' := by
 cases dst with
 | none => exact ⟨loc, vars, rfl, h⟩
 | some d =>
  cases hb : bit m d with
  | false =>
   refine ⟨(d, v) :: loc, vars, by simp only [compDst, hb, bcF]; rfl, ?_, ?_, ?_⟩
   ·intro k
    show flushK m L V (fun vars' => bcase (bit m d) (setAK vars' d v k) (k vars')) = k vars
    rw [h.flush, hb, bcF]
   ·intro i hi
    show assoc ((d, v) :: loc) _ i = assoc ((d, v) :: L) _ i
    rw [assoc_cons, assoc_cons, h.low i hi]
   ·intro i hi
    show _ = assoc ((d, v) :: L) _ i
    have : d ≠ i := by rintro rfl; rw [hb] at hi; cases hi
    rw [assoc_cons, if_neg this, h.kept i hi]
  | true =>
   refine ⟨loc, setA vars d v, ?_, ?_, ?_, ?_⟩
   ·simp only [compDst, hb, bcT]
    show putV vars d v (fun vars => ih P call loc vars heap k z) = _
    rw [putV_eq, setAK_set]
   ·intro k'
    show flushK m L V (fun vars' => bcase (bit m d) (setAK vars' d v k') (k' vars')) = k' (setA vars d v)
    rw [h.flush, hb, bcT, setAK_set]
   ·intro i hi
    show assoc loc _ i = assoc ((d, v) :: L) _ i
    have : d ≠ i := by rintro rfl; rw [hb] at hi; cases hi
    rw [assoc_cons, if_neg this, assoc_setA, if_neg this, h.low i hi]
   ·intro i hi
    show _ = assoc ((d, v) :: L) _ i
    rw [assoc_cons, assoc_setA, h.kept i hi]
theorem specR_cons (P : Program) (call : CallFn) (ops : Array Oper) (o : Oper) (l : List Oper) (s : St) :
  specR P call ops (o :: l) s = ob (operH P call ops o s) fun r => match r.1 with | .nrm => specR P call ops l r.2 | e => flushed (e, r.2) := by
 unfold specR
 simp only [regionH]
 cases operH P call ops o s with
 | none => rfl
 | some r => obtain ⟨ex, s'⟩ := r; cases ex <;> rfl
def fitsAll (lim : Nat) (l : List Oper) : Prop := ∀ o ∈ l, fits o.dst lim = true
theorem maxDst_fits {lim : Nat} : ∀ {l : List Oper}, maxDst l < lim → fitsAll lim l
 | [], _ => fun o h => by cases h
 | o :: l, h => by
  have key : fits o.dst lim = true ∧ maxDst l < lim := by
   simp only [maxDst] at h
   cases hd : o.dst with
   | none => rw [hd] at h; exact ⟨rfl, h⟩
   | some d =>
    rw [hd] at h
    simp only at h
    cases hb : Nat.ble d (maxDst l) with
    | true =>
     rw [hb, bcT] at h
     have := Nat.le_of_ble_eq_true hb
     exact ⟨by show Nat.blt d lim = true; rw [nblt]; exact decide_eq_true (by omega), h⟩
    | false =>
     rw [hb, bcF] at h
     have : maxDst l < d := Nat.lt_of_not_le (by intro hle; rw [Nat.ble_eq_true_of_le hle] at hb; cases hb)
     exact ⟨by show Nat.blt d lim = true; rw [nblt]; exact decide_eq_true h, Nat.lt_trans this h⟩
  intro q hq
  rcases List.mem_cons.1 hq with rfl | hq
  ·exact key.1
  ·exact maxDst_fits key.2 q hq
theorem regG_eq (P : Program) (call : CallFn) (ops : Array Oper) (m : Nat) : ∀ (l : List Oper) (s : St) (loc vars : Sl) (z : Res), m = s.mask → Like m s.env.loc s.env.vars loc vars → fitsAll s.lim l → z = specR P call ops l s →
  regG (compReg P m ops l) P call loc vars s.heap (endR s) z = z
 | [], s, loc, vars, z, hm, h, _, hz => by
  show endR s vars s.heap = z
  rw [hz]
  show endR s vars s.heap = flushK s.mask s.env.loc s.env.vars fun vars => endR s vars s.heap
  rw [← hm, h.flush]
 | o :: l, s, loc, vars, z, hm, h, hf, hz => by
  have hfit : fits o.dst s.lim = true := hf o (by simp)
  have hl : fitsAll s.lim l := fun q hq => hf q (by simp [hq])
  rw [specR_cons] at hz
  unfold operH at hz
  have next : ∀ (v : HVal) (h' : Heap), z = specR P call ops l (s.with o.dst v h') → putG (compDst m o.dst) v (regG (compReg P m ops l)) P call loc vars h' (endR s) z = z := by
   intro v h' e
   obtain ⟨loc', vars', e1, e2⟩ := putG_eq h o.dst v (regG (compReg P m ops l)) P call h' (endR s) z
   rw [e1]
   have e3 : Like m (s.with o.dst v h').env.loc (s.with o.dst v h').env.vars loc' vars' := by
    show Like m (Env.put s.env o.dst v).loc (Env.put s.env o.dst v).vars loc' vars'
    have : Env.put s.env o.dst v = ⟨putL o.dst v s.env.loc, s.env.vars⟩ := put_putL o.dst v s.env.loc s.env.vars
    rw [this]; exact e2
   exact regG_eq P call ops m l (s.with o.dst v h') loc' vars' z hm e3 hl e
  show regG (consS (compGuard m ops o) (compDst m o.dst) (compOp P m o) (compReg P m ops l)) P call loc vars s.heap (endR s) z = z
  rw [consS_eq]
  show wantG (compGuard m ops o) loc vars ((compOp P m o).run P call loc vars s.heap (fun v h' => putG (compDst m o.dst) v (regG (compReg P m ops l)) P call loc vars h' (endR s) z) z)
   (putG (compDst m o.dst) undefH (regG (compReg P m ops l)) P call loc vars s.heap (endR s) z) z = z
  rw [wantG_eq h]
  have henv : (⟨s.env.loc, s.env.vars⟩ : Env) = s.env := rfl
  rw [henv]
  cases hw : wantedH ops o s.env with
  | none => rfl
  | some w =>
   rw [hw] at hz
   simp only [obS, hfit, bcT] at hz
   simp only [oR_some]
   cases w with
   | false =>
    simp only [bcF, obS] at hz
    exact next _ _ hz
   | true =>
    simp only [bcT] at hz
    simp only [ifR_true]
    rw [compOp_eq, evalG_eq h P, henv]
    cases ho : opH P (s.env.eval P) s.heap o with
    | none => rfl
    | some out =>
     rw [ho] at hz
     simp only [obS] at hz
     cases out with
     | val v h' =>
      rw [outK_val]
      simp only [afterH, force_eq, obS] at hz
      exact next _ _ hz
     | enter f args h' =>
      rw [outK_enter, retK_eq]
      simp only [afterH] at hz
      cases hc : call f args h' with
      | none => rfl
      | some r =>
       obtain ⟨cr, h2⟩ := r
       rw [hc] at hz
       cases cr with
       | ret v =>
        simp only [obS, force_eq] at hz
        exact next _ _ hz
       | pan v => rfl
     | defer f args h' => rfl
     | recov h' => rfl
     | pan v h' => rfl
/-! ## Regions whose order is open -/
inductive FDraw where
 | nil
 | cons (i : Nat) (o : Oper) (chg rd : Bool) (g : FGuard) (dst : Option Nat) (op : FOp) (rest : FDraw)
abbrev DK := Program → CallFn → List LogE → Sl → Sl → Heap → (List LogE → Sl → Heap → Res) → Res → Res
def putD (dst : Option Nat) (v : HVal) (loc : Sl) (k : Sl → Res) : Res := @Option.rec Nat (fun _ => HVal → Sl → (Sl → Res) → Res) (fun _ loc k => k loc) (fun d v loc k => k ((d, v) :: loc)) dst v loc k
def logD (chg rd w : Bool) (i : Nat) (o : Oper) (dst : Option Nat) (v : HVal) (loc vars : Sl) (h h' : Heap) (log : List LogE) (k : List LogE → Res) (z : Res) : Res :=
 ifR chg (k (.change i h h' :: log)) (ifR rd (@Option.rec Nat (fun _ => Res) z (fun _ => ifR w (k (.read i o ⟨loc, vars⟩ v :: log)) (k log)) dst) (k log))
def stepD (i : Nat) (o : Oper) (chg rd : Bool) (g : FGuard) (dst : Option Nat) (op : FOp) (ih : DK) : DK := fun P call log loc vars heap k z =>
 wantG g loc vars
  (op.run P call loc vars heap (fun v h => logD chg rd true i o dst v loc vars heap h log (fun log => putD dst v loc fun loc => ih P call log loc vars h k z) z) z)
  (logD chg rd false i o dst undefH loc vars heap heap log (fun log => putD dst undefH loc fun loc => ih P call log loc vars heap k z) z) z
def drawG (r : FDraw) : DK := @FDraw.rec (fun _ => DK) (fun _ _ log loc _ heap k _ => k log loc heap) (fun i o chg rd g dst op _ ih => stepD i o chg rd g dst op ih) r
def compDraw (P : Program) (ops : Array Oper) : List Nat → FDraw
 | [] => .nil
 | i :: l => match ops[i]? with
  | none => .nil
  | some o => .cons i o (isChange P o) (isRead P o) (compGuard 0 ops o) o.dst (compOp P 0 o) (compDraw P ops l)
def flushR (l : Sl) (mask : Nat) (vars : Sl) (k : Sl → Res) : Res :=
 @List.rec (Nat × HVal) (fun _ => Nat → Sl → (Sl → Res) → Res) (fun _ vars k => k vars) (fun p _ ih mask vars k => ih mask vars fun vars' => ifR (bit mask p.1) (putV vars' p.1 p.2 k) (k vars')) l mask vars k
theorem flushR_eq (mask : Nat) : ∀ (l vars : Sl) (k : Sl → Res), flushR l mask vars k = flushK mask l vars k
 | [], vars, k => rfl
 | p :: l, vars, k => by
  show flushR l mask vars (fun vars' => ifR (bit mask p.1) (putV vars' p.1 p.2 k) (k vars')) = flushK mask l vars fun vars' => bcase (bit mask p.1) (setAK vars' p.1 p.2 k) (k vars')
  rw [flushR_eq mask l]
  congr 1
  funext vars'
  rw [putV_eq]; rfl
def hasRead (log : List LogE) : Bool := @List.rec LogE (fun _ => Bool) false (fun e _ ih => @LogE.rec (fun _ => Bool → Bool) (fun _ _ _ _ _ => true) (fun _ _ _ ih => ih) e ih) log
def logG (P : Program) (anc : Array Nat) (log : List LogE) : Bool := bcase (hasRead log) (logOk P anc log log) true
theorem logOk_noRead (P : Program) (anc : Array Nat) (full : List LogE) : ∀ log, hasRead log = false → logOk P anc full log = true
 | [], _ => rfl
 | .read .. :: _, h => by cases h
 | .change _ _ _ :: l, h => logOk_noRead P anc full l h
theorem logG_eq (P : Program) (anc : Array Nat) (log : List LogE) : logG P anc log = logOk P anc log log := by
 unfold logG
 cases h : hasRead log with
 | true => rfl
 | false => rw [logOk_noRead P _ _ log h]; rfl
def specD (P : Program) (call : CallFn) (ops : Array Oper) (s0 : St) (l : List Nat) (log : List LogE) (s : St) : Res :=
 ob (drawH P call ops (Region.before ops) l log none s) fun r => ob (drawnH P ops (Region.before ops) s0 r) flushed
def endD (P : Program) (anc : Array Nat) (s0 : St) (defers : List (Nat × List HVal)) : List LogE → Sl → Heap → Res := fun log loc heap =>
 ifR (logG P anc log) (flushR loc s0.mask s0.env.vars fun vars => some (.nrm, ⟨⟨[], vars⟩, heap, defers, s0.pan, s0.mask, s0.lim⟩)) none
theorem bit_of_zero (i : Nat) : bit 0 i = false := by
 unfold bit
 show Nat.beq (0 / _ % 2) 1 = false
 rw [Nat.zero_div]; rfl
theorem flushK_zero : ∀ (L V : Sl) (k : Sl → Res), flushK 0 L V k = k V
 | [], V, k => rfl
 | p :: l, V, k => by
  show flushK 0 l V (fun vars' => bcase (bit 0 p.1) (setAK vars' p.1 p.2 k) (k vars')) = k V
  rw [flushK_zero l V, bit_of_zero]; rfl
theorem like_zero (L V : Sl) : Like 0 L V L V := ⟨flushK_zero L V, fun _ _ => rfl, fun i hi => by rw [bit_of_zero] at hi; cases hi⟩
theorem putD_eq (dst : Option Nat) (v : HVal) (loc : Sl) (k : Sl → Res) : putD dst v loc k = k (putL dst v loc) := by cases dst <;> rfl
theorem drawG_eq (P : Program) (call : CallFn) (ops : Array Oper) (s0 : St) : ∀ (l : List Nat) (log : List LogE) (s : St) (z : Res), s.env.vars = s0.env.vars → fitsAll s.lim ops.toList → (∀ i ∈ l, i < ops.size) →
  z = specD P call ops s0 l log s → drawG (compDraw P ops l) P call log s.env.loc s.env.vars s.heap (endD P (Region.before ops) s0 s.defers) z = z
 | [], log, s, z, hv, hf, hs, hz => by
  show endD P (Region.before ops) s0 s.defers log s.env.loc s.heap = z
  rw [hz]
  unfold endD specD
  simp only [drawH, obS, drawnH]
  rw [logG_eq]
  cases logOk P (Region.before ops) log log with
  | false => rfl
  | true =>
   simp only [ifR_true, bcT, obS, flushed]
   rw [flushR_eq, hv]
 | i :: l, log, s, z, hv, hf, hs, hz => by
  have hi : i < ops.size := hs i (by simp)
  have ho : ops[i]? = some ops[i] := Array.getElem?_eq_getElem hi
  generalize hoo : ops[i] = o at ho
  have hfit : fits o.dst s.lim = true := hf o (by rw [← hoo]; simp)
  have e0 : compDraw P ops (i :: l) = .cons i o (isChange P o) (isRead P o) (compGuard 0 ops o) o.dst (compOp P 0 o) (compDraw P ops l) := by
   simp only [compDraw, ho]
  rw [e0]
  unfold specD at hz
  simp only [drawH, isDead, bcF, ho, obS] at hz
  unfold operH at hz
  have next : ∀ (w : Bool) (v : HVal) (h' : Heap), wantedH ops o s.env = some w →
    z = ob (bcase (isChange P o) (drawH P call ops (Region.before ops) l (.change i s.heap h' :: log) none (s.with o.dst v h'))
     (bcase (isRead P o) (ob o.dst fun d => ob (wantedH ops o s.env) fun w => drawH P call ops (Region.before ops) l (bcase w (.read i o s.env ((s.with o.dst v h').env.get d) :: log) log) none (s.with o.dst v h'))
      (drawH P call ops (Region.before ops) l log none (s.with o.dst v h')))) (fun r => ob (drawnH P ops (Region.before ops) s0 r) flushed) →
    logD (isChange P o) (isRead P o) w i o o.dst v s.env.loc s.env.vars s.heap h' log (fun log => putD o.dst v s.env.loc fun loc => drawG (compDraw P ops l) P call log loc s.env.vars h' (endD P (Region.before ops) s0 s.defers) z) z = z := by
   intro w v h' hw e
   have hnext : ∀ log', z = specD P call ops s0 l log' (s.with o.dst v h') → putD o.dst v s.env.loc (fun loc => drawG (compDraw P ops l) P call log' loc s.env.vars h' (endD P (Region.before ops) s0 s.defers) z) = z := by
    intro log' e'
    rw [putD_eq]
    have e3 : (s.with o.dst v h').env = ⟨putL o.dst v s.env.loc, s.env.vars⟩ := put_putL o.dst v s.env.loc s.env.vars
    have := drawG_eq P call ops s0 l log' (s.with o.dst v h') z (by rw [e3]; exact hv) hf (fun j hj => hs j (by simp [hj])) e'
    rw [e3] at this
    exact this
   unfold logD
   cases hc : isChange P o with
   | true =>
    rw [hc] at e
    simp only [bcT] at e
    simp only [ifR_true]
    exact hnext _ e
   | false =>
    rw [hc] at e
    simp only [bcF] at e
    simp only [ifR_false]
    cases hr : isRead P o with
    | false =>
     rw [hr] at e
     simp only [bcF] at e
     simp only [ifR_false]
     exact hnext _ e
    | true =>
     rw [hr] at e
     simp only [bcT] at e
     simp only [ifR_true]
     cases hd : o.dst with
     | none => rfl
     | some d =>
      rw [hd, hw] at e
      simp only [obS] at e
      rw [hd] at hnext
      cases w with
      | false => exact hnext _ e
      | true =>
       have e5 : (s.with (some d) v h').env.get d = v := by
        show assoc2 ((d, v) :: s.env.loc) (assoc s.env.vars .bad d) d = v
        show assoc ((d, v) :: s.env.loc) (assoc s.env.vars .bad d) d = v
        rw [assoc_cons, if_pos rfl]
       rw [e5] at e
       exact hnext _ e
  show stepD i o (isChange P o) (isRead P o) (compGuard 0 ops o) o.dst (compOp P 0 o) (drawG (compDraw P ops l)) P call log s.env.loc s.env.vars s.heap (endD P (Region.before ops) s0 s.defers) z = z
  unfold stepD
  have hlike := like_zero s.env.loc s.env.vars
  have henv : (⟨s.env.loc, s.env.vars⟩ : Env) = s.env := rfl
  rw [wantG_eq hlike, henv]
  cases hw : wantedH ops o s.env with
  | none => rfl
  | some w =>
   have nextw := next w
   rw [hw] at hz
   simp only [obS, hfit, bcT] at hz
   simp only [oR_some]
   cases w with
   | false =>
    simp only [bcF, obS] at hz
    exact nextw _ _ hw (by rw [hw]; exact hz)
   | true =>
    simp only [bcT] at hz
    simp only [ifR_true]
    rw [compOp_eq, evalG_eq hlike P, henv]
    cases hop : opH P (s.env.eval P) s.heap o with
    | none => rfl
    | some out =>
     rw [hop] at hz
     simp only [obS] at hz
     cases out with
     | val v h' =>
      rw [outK_val]
      simp only [afterH, force_eq, obS] at hz
      exact nextw _ _ hw (by rw [hw]; exact hz)
     | enter f args h' =>
      rw [outK_enter, retK_eq]
      simp only [afterH] at hz
      cases hc : call f args h' with
      | none => rfl
      | some r =>
       obtain ⟨cr, h2⟩ := r
       rw [hc] at hz
       cases cr with
       | ret v =>
        simp only [obS, force_eq] at hz
        exact nextw _ _ hw (by rw [hw]; exact hz)
       | pan v => rfl
     | defer f args h' => rfl
     | recov h' => rfl
     | pan v h' => rfl
end
end Go.HL
namespace Go.HL
open Go
noncomputable section
set_option linter.unusedVariables false
inductive FCode where
 | skip
 | region (mx m : Nat) (r : FReg) (ops : Array Oper)
 | draw (mx : Nat) (r : FDraw) (ops : Array Oper)
 | drawn (mx : Nat) (r : FDraw) (ops : Array Oper) (anc : Array Nat)
 | seq (a b : FCode)
 | cond (c : FArg) (a b : FCode)
 | block (id : Nat) (b : FCode)
 | loop (b : FCode)
 | exit (id : Nat)
 | ret
 | range (g : Operand) (ps : Array Tmp) (x y : Code)
 | bad
def compCode (P : Program) (m : Nat) : Code → FCode
 | .skip => .skip
 | .label _ => .skip
 | .region _ ops d => bcase d (.draw (maxDst ops.toList) (compDraw P ops (planOf P ops)) ops) (.region (maxDst ops.toList) m (compReg P m ops ops.toList) ops)
 | .seq a b => .seq (compCode P m a) (compCode P m b)
 | .cond c a b => .cond (compArg P 0 c) (compCode P m a) (compCode P m b)
 | .block id b => .block id (compCode P m b)
 | .loop b => .loop (compCode P m b)
 | .exit id => .exit id
 | .ret => .ret
 | .rangeFunc g ps x y => .range g ps x y
 | _ => .bad
abbrev FRun := FCode → St → Res
def nilR (l : Sl) (y n : Res) : Res := @List.rec (Nat × HVal) (fun _ => Res) y (fun _ _ _ => n) l
def goRegion (mx m : Nat) (r : FReg) (s : St) (P : Program) (call : CallFn) (z : Res) : Res :=
 @St.rec (fun _ => Nat → Nat → FReg → Program → CallFn → Res → Res) (fun env heap defers pan mask lim mx m r P call z =>
  ifR (Nat.beq mask m) (ifR (Nat.blt mx lim) (nilR env.loc (regG r P (callFor pan call) [] env.vars heap (fun vars h => some (.nrm, ⟨⟨[], vars⟩, h, defers, pan, mask, lim⟩)) z) z) z) z) s mx m r P call z
def fRegion (mx m : Nat) (r : FReg) (ops : Array Oper) (s : St) (P : Program) (call : CallFn) : Res := goRegion mx m r s P call (specR P (callFor s.pan call) ops ops.toList s)
def goDraw (mx : Nat) (r : FDraw) (anc : Array Nat) (s : St) (P : Program) (call : CallFn) (z : Res) : Res :=
 ifR (Nat.blt mx s.lim) (drawG r P call [] s.env.loc s.env.vars s.heap (endD P anc s s.defers) z) z
def fDraw (mx : Nat) (r : FDraw) (ops : Array Oper) (s : St) (P : Program) (call : CallFn) : Res :=
 ifR (planOk P ops) (goDraw mx r (Region.before ops) s P (gate call) (specD P (gate call) ops s (planOf P ops) [] s.alone)) none
def fDrawn (mx : Nat) (r : FDraw) (ops : Array Oper) (anc : Array Nat) (s : St) (P : Program) (call : CallFn) : Res := goDraw mx r anc s P (gate call) (specD P (gate call) ops s (planOf P ops) [] s.alone)
def nextR (r : Res) (k : St → Res) : Res :=
 @Option.rec (Ex × St) (fun _ => (St → Res) → Res) (fun _ => none) (fun p k => @Ex.rec (fun _ => (Ex × St) → (St → Res) → Res) (fun p k => k p.2) (fun _ p _ => some p) (fun p _ => some p) (fun _ p _ => some p) p.1 p k) r k
def leaveR (r : Res) (id : Nat) : Res :=
 @Option.rec (Ex × St) (fun _ => Nat → Res) (fun _ => none) (fun p id => @Ex.rec (fun _ => (Ex × St) → Nat → Res) (fun p _ => some p) (fun j p id => ifR (Nat.beq j id) (some (.nrm, p.2)) (some p)) (fun p _ => some p) (fun _ p _ => some p) p.1 p id) r id
def stepG (c : FCode) (P : Program) (call : CallFn) (ih : FRun) (s : St) : Res :=
 @FCode.rec (fun _ => Program → CallFn → FRun → St → Res) (fun _ _ _ s => some (.nrm, s)) (fun mx m r ops P call _ s => fRegion mx m r ops s P call) (fun mx r ops P call _ s => fDraw mx r ops s P call) (fun mx r ops anc P call _ s => fDrawn mx r ops anc s P call)
  (fun a b _ _ _ _ ih s => nextR (ih a s) fun s => ih b s) (fun c a b _ _ _ _ ih s => onBool (c.get s.env.loc s.env.vars) (fun t => ifR t (ih a s) (ih b s)) none)
  (fun id b _ _ _ ih s => leaveR (ih b s) id) (fun b _ _ _ ih s => nextR (ih b s) fun s => ih (.loop b) s) (fun id _ _ _ s => some (.exit id, s)) (fun _ _ _ s => some (.ret, s)) (fun g ps x y P call _ s => rangeFuncH P call g ps x y s) (fun _ _ _ _ => none) c P call ih s
theorem nextR_eq (r : Res) (k : St → Res) : nextR r k = ob r fun r => match r.1 with | .nrm => k r.2 | e => some (e, r.2) := by
 rcases r with _ | ⟨ex, s⟩
 ·rfl
 ·cases ex <;> rfl
theorem leaveR_eq (r : Res) (id : Nat) : leaveR r id = ob r fun r => match r.1 with | .exit j => bcase (Nat.beq j id) (some (.nrm, r.2)) (some (.exit j, r.2)) | e => some (e, r.2) := by
 rcases r with _ | ⟨ex, s⟩
 ·rfl
 ·cases ex <;> rfl
theorem like_start (m : Nat) (V : Sl) : Like m [] V [] V := ⟨fun _ => rfl, fun _ _ => rfl, fun _ _ => rfl⟩
theorem fRegion_eq (P : Program) (call : CallFn) (m : Nat) (ops : Array Oper) (s : St) :
  fRegion (maxDst ops.toList) m (compReg P m ops ops.toList) ops s P call = ob (regionH P (callFor s.pan call) ops ops.toList s) flushed := by
 show fRegion (maxDst ops.toList) m (compReg P m ops ops.toList) ops s P call = specR P (callFor s.pan call) ops ops.toList s
 unfold fRegion goRegion
 obtain ⟨⟨loc, vars⟩, heap, defers, pan, mask, lim⟩ := s
 simp only
 cases h1 : Nat.beq mask m with
 | false => rfl
 | true =>
  cases h2 : Nat.blt (maxDst ops.toList) lim with
  | false => rfl
  | true =>
   simp only [ifR_true]
   cases loc with
   | cons p l => rfl
   | nil =>
    have hm : m = mask := (Nat.eq_of_beq_eq_true h1).symm
    have hl : maxDst ops.toList < lim := by rw [nblt] at h2; exact of_decide_eq_true h2
    exact regG_eq P (callFor pan call) ops m ops.toList ⟨⟨[], vars⟩, heap, defers, pan, mask, lim⟩ [] vars _ hm (like_start m vars) (maxDst_fits hl) rfl
theorem goDraw_eq (P : Program) (call : CallFn) (ops : Array Oper) (s : St) (hp : planOk P ops = true) :
  goDraw (maxDst ops.toList) (compDraw P ops (planOf P ops)) (Region.before ops) s P call (specD P call ops s (planOf P ops) [] s.alone) = specD P call ops s (planOf P ops) [] s.alone := by
 unfold goDraw
 cases h2 : Nat.blt (maxDst ops.toList) s.lim with
 | false => rfl
 | true =>
  simp only [ifR_true]
  have hl : maxDst ops.toList < s.lim := by rw [nblt] at h2; exact of_decide_eq_true h2
  refine drawG_eq P call ops s (planOf P ops) [] s.alone _ rfl (maxDst_fits hl) (fun i hi => ?_) rfl
  have h1 := (planOk_inv hp).2.2.2 i hi
  unfold oneOk at h1
  cases ho : ops[i]? with
  | none => rw [ho] at h1; cases h1
  | some o => exact (Array.getElem?_eq_some_iff.1 ho).1
inductive Good (P : Program) : FCode → Code → Prop where
 | skip : Good P .skip .skip
 | label (l : _) : Good P .skip (.label l)
 | region (m : Nat) (id : _) (ops : Array Oper) : Good P (.region (maxDst ops.toList) m (compReg P m ops ops.toList) ops) (.region id ops false)
 | draw (id : _) (ops : Array Oper) : Good P (.draw (maxDst ops.toList) (compDraw P ops (planOf P ops)) ops) (.region id ops true)
 | drawn (id : _) (ops : Array Oper) (h : planOk P ops = true) : Good P (.drawn (maxDst ops.toList) (compDraw P ops (planOf P ops)) ops (Region.before ops)) (.region id ops true)
 | seq {a b : FCode} {c d : Code} (h : Good P a c) (h' : Good P b d) : Good P (.seq a b) (.seq c d)
 | cond (x : Operand) {a b : FCode} {c d : Code} (h : Good P a c) (h' : Good P b d) : Good P (.cond (compArg P 0 x) a b) (.cond x c d)
 | block (id : _) {a : FCode} {c : Code} (h : Good P a c) : Good P (.block id a) (.block id c)
 | loop {a : FCode} {c : Code} (h : Good P a c) : Good P (.loop a) (.loop c)
 | exit (id : _) : Good P (.exit id) (.exit id)
 | ret : Good P .ret .ret
 | range (g : Operand) (ps : Array Tmp) (x y : Code) : Good P (.range g ps x y) (.rangeFunc g ps x y)
 | bad (c : Code) (h : ∀ K ih s, stepC P K ih c s = none) : Good P .bad c
theorem compCode_good (P : Program) (m : Nat) : ∀ c, Good P (compCode P m c) c
 | .skip => .skip
 | .label l => .label l
 | .region id ops d => by cases d; exact .region m id ops; exact .draw id ops
 | .seq a b => .seq (compCode_good P m a) (compCode_good P m b)
 | .cond x a b => .cond x (compCode_good P m a) (compCode_good P m b)
 | .block id a => .block id (compCode_good P m a)
 | .loop a => .loop (compCode_good P m a)
 | .exit id => .exit id
 | .ret => .ret
 | .goto _ => .bad _ fun _ _ _ => rfl
 | .scope _ => .bad _ fun _ _ _ => rfl
 | .refuse _ => .bad _ fun _ _ _ => rfl
 | .rangeFunc g ps x y => .range g ps x y
theorem stepG_eq (P : Program) (K call : CallFn) (ih : FRun) (ih' : Code → St → Res) (hcall : call = callOr K (callWith P ih')) (h : ∀ f c, Good P f c → ∀ s, ih f s = ih' c s) {f : FCode} {c : Code} (hg : Good P f c) (s : St) :
  stepG f P call ih s = stepC P K ih' c s := by
 subst hcall
 cases hg with
 | skip => rfl
 | label l => rfl
 | region m id ops => exact fRegion_eq P _ m ops s
 | draw id ops =>
  show fDraw _ _ _ s P _ = bcase (planOk P ops) _ none
  unfold fDraw
  cases hp : planOk P ops with
  | false => rfl
  | true => exact goDraw_eq P _ ops s hp
 | drawn id ops hp =>
  show fDrawn _ _ _ _ s P _ = bcase (planOk P ops) _ none
  rw [hp]
  exact goDraw_eq P _ ops s hp
 | seq ha hb =>
  rename_i a b c d
  show nextR (ih a s) (fun s => ih b s) = _
  rw [nextR_eq]
  simp only [h _ _ ha, h _ _ hb, stepC]
  rfl
 | cond x ha hb =>
  rename_i a b c d
  show onBool (evalG P 0 s.env.loc s.env.vars x) (fun t => ifR t (ih a s) (ih b s)) none = _
  rw [onBool_eq, evalG_eq (like_zero s.env.loc s.env.vars) P]
  simp only [h _ _ ha, h _ _ hb, stepC]
  show oR (s.env.eval P x).isBool _ _ = ob (s.env.eval P x).isBool _
  cases (s.env.eval P x).isBool with
  | none => rfl
  | some t => cases t <;> rfl
 | block id ha =>
  rename_i a c
  show leaveR (ih a s) id = _
  rw [leaveR_eq]
  simp only [h _ _ ha, stepC]
  rfl
 | loop ha =>
  rename_i a c
  show nextR (ih a s) (fun s => ih (.loop a) s) = _
  rw [nextR_eq]
  simp only [h _ _ ha, h _ _ (Good.loop ha), stepC]
  rfl
 | exit id => rfl
 | ret => rfl
 | range g ps x y => rfl
 | bad c hb => rw [hb]; rfl
/-! ## Calls -/
abbrev RC := Option (CRes × Heap)
def touchC (x : HVal) (f : HVal → RC) : RC :=
 @HVal.rec (fun _ => (HVal → RC) → RC) (fun _ => PUnit) (fun f => f .bad) (fun b f => f (.bool b)) (fun k n f => f (.int k n)) (fun n c f => f (.str n c)) (fun f => f .nilp) (fun p o f => f (.ptr p o)) (fun f => f .nils) (fun p o l c f => f (.slice p o l c)) (fun f => f .nilm) (fun p f => f (.map p)) (fun f => f .nilf) (fun g a b _ _ f => f (.func g a b)) (fun f => f .nili) (fun t v _ f => f (.iface t v)) (fun l _ f => f (.agg l)) (fun l _ f => f (.tuple l)) (fun k f => f (.yield k)) (fun k f => f (.mark k)) (fun k lo hi f => f (.rng k lo hi)) (fun f => f .empty) (fun k f => f (.rest k)) PUnit.unit (fun _ _ _ _ => PUnit.unit) x f
theorem touchC_eq (x : HVal) (f : HVal → RC) : touchC x f = f x := by cases x <;> rfl
structure FFunc where
 fn : Func
 body : FCode
 mask : Nat
 res : Option (List FArg)
def compRes : List ResultVar → Option (List FArg)
 | [] => some []
 | .tmp t :: l => ob (compRes l) fun r => some (.loc t :: r)
 | .cell .. :: _ => none
def argsC (l : List FArg) (loc vars : Sl) (k : List HVal → RC) : RC :=
 @List.rec FArg (fun _ => Sl → Sl → (List HVal → RC) → RC) (fun _ _ k => k []) (fun a _ ih loc vars k => touchC (a.get loc vars) fun v => ih loc vars fun r => k (v :: r)) l loc vars k
def tupR (l : List HVal) : HVal := @List.rec HVal (fun _ => HVal) (.tuple []) (fun v t _ => @List.rec HVal (fun _ => HVal) v (fun x t' _ => .tuple (v :: x :: t')) t) l
def resR (P : Program) (ff : FFunc) (s : St) : RC :=
 @Option.rec (List FArg) (fun _ => Program → FFunc → St → RC) (fun P ff s => ob (resOf P ff.fn s) fun v => some (.ret v, s.heap)) (fun l _ _ s => argsC l s.env.loc s.env.vars fun vs => some (.ret (tupR vs), s.heap)) ff.res P ff s
def fLeave (P : Program) (run : FRun) (fn : Func) (p : Pan) (s : St) : RC := leaveH P (fun c s => run (compCode P 0 c) s) fn s.defers p s
def doneR (P : Program) (run : FRun) (ff : FFunc) (s : St) : RC :=
 @List.rec (Nat × List HVal) (fun _ => Program → FRun → FFunc → St → RC) (fun P _ ff s => resR P ff s) (fun _ _ _ P run ff s => fLeave P run ff.fn .calm s) s.defers P run ff s
def fBack (P : Program) (run : FRun) (ff : FFunc) (r : Res) : RC :=
 @Option.rec (Ex × St) (fun _ => Program → FRun → FFunc → RC) (fun _ _ _ => none) (fun r P run ff => @Ex.rec (fun _ => St → Program → FRun → FFunc → RC) (fun s P run ff => doneR P run ff s) (fun _ _ _ _ _ => none)
  (fun s P run ff => doneR P run ff s) (fun v s P run ff => fLeave P run ff.fn (.on v) s) r.1 r.2 P run ff) r P run ff
def forceC (n : Nat) (k : Nat → RC) : RC := @Nat.rec (fun _ => RC) (k 0) (fun m _ => k (Nat.succ m)) n
def numC (l : List HVal) (i : Nat) (k : Sl → RC) : RC := @List.rec HVal (fun _ => Nat → (Sl → RC) → RC) (fun _ k => k []) (fun v _ ih i k => ih (Nat.succ i) fun r => k ((i, v) :: r)) l i k
def lenC (l : List HVal) : Nat := @List.rec HVal (fun _ => Nat) 0 (fun _ _ ih => Nat.succ ih) l
def enterC (P : Program) (run : FRun) (ff : FFunc) (args : List HVal) (h : Heap) : RC :=
 numC args 0 fun vars => forceC (lenC args) fun n => forceC (Nat.lor ff.mask (Nat.sub (Nat.pow 2 n) 1)) fun mask => forceC (Nat.add n (Nat.sub ff.fn.ntmps n)) fun lim =>
  fBack P run ff (run ff.body ⟨⟨[], vars⟩, h, [], .none, mask, lim⟩)
def getF (t : T FFunc) (n : Nat) : Option FFunc :=
 @T.rec FFunc (fun _ => Nat → Option FFunc) (fun _ => none)
  (fun _ v _ gl gr n => @Nat.rec (fun _ => Option FFunc) v (fun m _ => @Bool.rec (fun _ => Option FFunc) (gr (Nat.div m 2)) (gl (Nat.div m 2)) (Nat.beq (Nat.mod m 2) 0)) n) t n
def callG (P : Program) (tbl : T FFunc) (run : FRun) : CallFn := fun f args h =>
 @Option.rec FFunc (fun _ => Program → FRun → List HVal → Heap → RC) (fun _ _ _ _ => none) (fun ff P run args h => enterC P run ff args h) (getF tbl f) P run args h
def callF (P : Program) (tbl : T FFunc) (run : FRun) : CallFn := fun f args h => @Bool.rec (fun _ => RC) (roundH P (Nat.sub f roundNo) args h) (callG P tbl run f args h) (Nat.blt f roundNo)
def callOrF (K c : CallFn) : CallFn := fun f args h => @Option.rec (CRes × Heap) (fun _ => RC → RC) (fun r => r) (fun x _ => some x) (K f args h) (c f args h)
structure GoodF (P : Program) (ff : FFunc) (fn : Func) (c : Code) : Prop where
 func : ff.fn = fn
 body : Good P ff.body c
 mask : ff.mask = maskOf fn
 res : ff.res = compRes fn.results.toList
def TableOk (P : Program) (tbl : T FFunc) : Prop := ∀ f, match P.funcs[f]? with
 | none => tbl.get f = none
 | some fn => match fn.body with
  | none => tbl.get f = none
  | some c => ∃ ff, tbl.get f = some ff ∧ GoodF P ff fn c
theorem argsC_eq (loc vars : Sl) : ∀ (l : List FArg) (k : List HVal → RC), argsC l loc vars k = k (l.map fun a => a.get loc vars)
 | [], k => rfl
 | a :: l, k => by
  show touchC (a.get loc vars) (fun v => argsC l loc vars fun r => k (v :: r)) = _
  rw [touchC_eq, argsC_eq loc vars l]; rfl
theorem forceC_eq (n : Nat) (k : Nat → RC) : forceC n k = k n := by cases n <;> rfl
theorem numC_eq : ∀ (l : List HVal) (i : Nat) (k : Sl → RC), numC l i k = k (numbered l i)
 | [], i, k => rfl
 | v :: l, i, k => by
  show numC l (Nat.succ i) (fun r => k ((i, v) :: r)) = _
  rw [numC_eq l]; rfl
theorem lenC_eq (l : List HVal) : lenC l = l.length := lenR_eq l
theorem compRes_eq (P : Program) (s : St) : ∀ {l : List ResultVar} {r : List FArg}, compRes l = some r → resList P s l = some (r.map fun a => a.get s.env.loc s.env.vars)
 | [], r, e => by cases e; rfl
 | .tmp t :: l, r, e => by
  simp only [compRes] at e
  obtain ⟨r', h1, h2⟩ := ob_eq_some.1 e
  cases h2
  simp only [resList, compRes_eq P s h1, obS, List.map_cons]
  rw [FArg.get_loc]; rfl
 | .cell a t :: l, r, e => by cases e
theorem resR_eq (P : Program) (ff : FFunc) (hr : ff.res = compRes ff.fn.results.toList) (s : St) : resR P ff s = ob (resOf P ff.fn s) fun v => some (.ret v, s.heap) := by
 unfold resR
 cases h : ff.res with
 | none => rfl
 | some l =>
  show argsC l s.env.loc s.env.vars (fun vs => some (.ret (tupR vs), s.heap)) = _
  rw [argsC_eq]
  rw [h] at hr
  unfold resOf
  rw [compRes_eq P s hr.symm]
  simp only [obS]
  generalize l.map (fun a => a.get s.env.loc s.env.vars) = vs
  rcases vs with _ | ⟨a, _ | ⟨b, vs⟩⟩ <;> rfl
theorem doneR_eq (P : Program) (run : FRun) (ff : FFunc) (hr : ff.res = compRes ff.fn.results.toList) (s : St) : doneR P run ff s = leaveH P (fun c s => run (compCode P 0 c) s) ff.fn s.defers .calm s := by
 unfold doneR
 cases hd : s.defers with
 | nil => show resR P ff s = _; rw [resR_eq P ff hr]; rfl
 | cons d ds => show fLeave P run ff.fn .calm s = _; unfold fLeave; rw [hd]
theorem callG_eq {P : Program} {tbl : T FFunc} (ht : TableOk P tbl) (run : FRun) (run' : Code → St → Res) (h : ∀ f c, Good P f c → ∀ s, run f s = run' c s) : callG P tbl run = callFun P run' := by
 funext f args hp
 unfold callG callFun
 have hg : getF tbl f = tbl.get f := rfl
 have htf := ht f
 rw [hg]
 cases hf : P.funcs[f]? with
 | none => rw [hf] at htf; simp only at htf; rw [htf]; rfl
 | some fn =>
  rw [hf] at htf
  simp only [obS] at htf ⊢
  cases hb : fn.body with
  | none => rw [hb] at htf; simp only at htf; rw [htf]; rfl
  | some c =>
   rw [hb] at htf
   simp only [obS] at htf ⊢
   obtain ⟨ff, hff, hgood⟩ := htf
   rw [hff]
   show enterC P run ff args hp = _
   unfold enterC
   rw [numC_eq, forceC_eq, forceC_eq, forceC_eq, lenC_eq]
   have e : run ff.body ⟨⟨[], numbered args 0⟩, hp, [], .none, Nat.lor ff.mask (Nat.sub (Nat.pow 2 args.length) 1), Nat.add args.length (Nat.sub ff.fn.ntmps args.length)⟩ = run' c (enterSt fn args hp .none) := by
    rw [h _ _ hgood.body, hgood.mask, hgood.func]; rfl
   rw [e]
   cases run' c (enterSt fn args hp .none) with
   | none => rfl
   | some r =>
    obtain ⟨ex, s⟩ := r
    have hrun : (fun c s => run (compCode P 0 c) s) = run' := by funext c s; exact h _ _ (compCode_good P 0 c) s
    have hres : ff.res = compRes ff.fn.results.toList := by rw [hgood.res, hgood.func]
    simp only [obS]
    cases ex with
    | nrm =>
     show doneR P run ff s = _
     rw [doneR_eq P run ff hres, hrun, hgood.func]
    | ret =>
     show doneR P run ff s = _
     rw [doneR_eq P run ff hres, hrun, hgood.func]
    | exit id => rfl
    | pan v => show fLeave P run ff.fn (.on v) s = _; unfold fLeave; rw [hrun, hgood.func]
theorem callF_eq {P : Program} {tbl : T FFunc} (ht : TableOk P tbl) (run : FRun) (run' : Code → St → Res) (h : ∀ f c, Good P f c → ∀ s, run f s = run' c s) : callF P tbl run = callWith P run' := by
 funext f args hp
 unfold callF callWith
 rw [callG_eq ht run run' h]
 cases Nat.blt f roundNo <;> rfl
theorem callOrF_eq (K c : CallFn) : callOrF K c = callOr K c := by
 funext f args h
 unfold callOrF callOr
 cases K f args h <;> rfl
def execF (P : Program) (tbl : T FFunc) (K : CallFn) (n : Nat) : FRun := @Nat.rec (fun _ => FRun) (fun _ _ => none) (fun _ ih c s => stepG c P (callOrF K (callF P tbl ih)) ih s) n
theorem execF_eq {P : Program} {tbl : T FFunc} (ht : TableOk P tbl) (K : CallFn) : ∀ (n : Nat) (f : FCode) (c : Code), Good P f c → ∀ s, execF P tbl K n f s = execH P K n c s
 | 0, _, _, _, _ => rfl
 | n + 1, f, c, hg, s => by
  have h := execF_eq ht K n
  refine stepG_eq P K (callOrF K (callF P tbl (execF P tbl K n))) (execF P tbl K n) (execH P K n) ?_ h hg s
  rw [callOrF_eq, callF_eq ht _ _ h]
def runF (P : Program) (tbl : T FFunc) (K : CallFn) (n : Nat) : CallFn := callF P tbl (execF P tbl K n)
theorem runF_eq {P : Program} {tbl : T FFunc} (ht : TableOk P tbl) (K : CallFn) (n : Nat) : runF P tbl K n = runH P K n := callF_eq ht _ _ (execF_eq ht K n)
/-! ## Plans that are known -/
structure Pl where
 plan : List Nat
 anc : List Nat
def sameNats : List Nat → List Nat → Bool
 | [], [] => true
 | a :: l, b :: m => bcase (Nat.beq a b) (sameNats l m) false
 | _, _ => false
theorem sameNats_eq : ∀ {l m : List Nat}, sameNats l m = true → l = m
 | [], [], _ => rfl
 | a :: l, b :: m, h => by
  simp only [sameNats] at h
  cases hb : Nat.beq a b with
  | false => rw [hb] at h; cases h
  | true =>
   rw [hb] at h
   rw [Nat.eq_of_beq_eq_true hb, sameNats_eq h]
 | [], _ :: _, h => by cases h
 | _ :: _, [], h => by cases h
def compL (P : Program) (m : Nat) : Code → List Pl → FCode × List Pl
 | .region _ ops d, pl => bcase d (match pl with
  | [] => (.draw (maxDst ops.toList) (compDraw P ops (planOf P ops)) ops, [])
  | p :: pl => (.drawn (maxDst ops.toList) (compDraw P ops p.plan) ops ⟨p.anc⟩, pl)) (.region (maxDst ops.toList) m (compReg P m ops ops.toList) ops, pl)
 | .seq a b, pl => (.seq (compL P m a pl).1 (compL P m b (compL P m a pl).2).1, (compL P m b (compL P m a pl).2).2)
 | .cond c a b, pl => (.cond (compArg P 0 c) (compL P m a pl).1 (compL P m b (compL P m a pl).2).1, (compL P m b (compL P m a pl).2).2)
 | .block id b, pl => (.block id (compL P m b pl).1, (compL P m b pl).2)
 | .loop b, pl => (.loop (compL P m b pl).1, (compL P m b pl).2)
 | .exit id, pl => (.exit id, pl)
 | .rangeFunc g ps x y, pl => (.range g ps x y, pl)
 | .ret, pl => (.ret, pl)
 | .skip, pl => (.skip, pl)
 | .label _, pl => (.skip, pl)
 | _, pl => (.bad, pl)
def okL (P : Program) : Code → List Pl → Option (List Pl)
 | .region _ ops d, pl => bcase d (match pl with
  | [] => some []
  | p :: pl => bcase (planOk P ops) (bcase (sameNats p.plan (planOf P ops)) (bcase (sameNats p.anc (Region.before ops).toList) (some pl) none) none) none) (some pl)
 | .seq a b, pl => ob (okL P a pl) fun pl => okL P b pl
 | .cond _ a b, pl => ob (okL P a pl) fun pl => okL P b pl
 | .block _ b, pl => okL P b pl
 | .loop b, pl => okL P b pl
 | _, pl => some pl
theorem okL_good (P : Program) (m : Nat) : ∀ (c : Code) (pl r : List Pl), okL P c pl = some r → (compL P m c pl).2 = r ∧ Good P (compL P m c pl).1 c
 | .skip, pl, r, h => by cases h; exact ⟨rfl, .skip⟩
 | .label l, pl, r, h => by cases h; exact ⟨rfl, .label l⟩
 | .region id ops d, pl, r, h => by
  cases d with
  | false => cases h; exact ⟨rfl, .region m id ops⟩
  | true =>
   cases pl with
   | nil => cases h; exact ⟨rfl, .draw id ops⟩
   | cons p pl =>
    simp only [okL, bcT] at h
    obtain ⟨h1, e1⟩ := bcase_eq_some.1 h
    obtain ⟨h2, e2⟩ := bcase_eq_some.1 e1
    obtain ⟨h3, e3⟩ := bcase_eq_some.1 e2
    cases e3
    have e4 : (⟨p.anc⟩ : Array Nat) = Region.before ops := by rw [sameNats_eq h3]
    refine ⟨rfl, ?_⟩
    show Good P (.drawn (maxDst ops.toList) (compDraw P ops p.plan) ops ⟨p.anc⟩) _
    rw [e4, sameNats_eq h2]
    exact .drawn id ops h1
 | .seq a b, pl, r, h => by
  simp only [okL] at h
  obtain ⟨q, h1, h2⟩ := ob_eq_some.1 h
  obtain ⟨e1, g1⟩ := okL_good P m a pl q h1
  obtain ⟨e2, g2⟩ := okL_good P m b q r h2
  simp only [compL]
  rw [e1]
  exact ⟨e2, .seq g1 g2⟩
 | .cond x a b, pl, r, h => by
  simp only [okL] at h
  obtain ⟨q, h1, h2⟩ := ob_eq_some.1 h
  obtain ⟨e1, g1⟩ := okL_good P m a pl q h1
  obtain ⟨e2, g2⟩ := okL_good P m b q r h2
  simp only [compL]
  rw [e1]
  exact ⟨e2, .cond x g1 g2⟩
 | .block id b, pl, r, h => by
  obtain ⟨e1, g1⟩ := okL_good P m b pl r h
  exact ⟨e1, .block id g1⟩
 | .loop b, pl, r, h => by
  obtain ⟨e1, g1⟩ := okL_good P m b pl r h
  exact ⟨e1, .loop g1⟩
 | .exit id, pl, r, h => by cases h; exact ⟨rfl, .exit id⟩
 | .ret, pl, r, h => by cases h; exact ⟨rfl, .ret⟩
 | .goto l, pl, r, h => by cases h; exact ⟨rfl, .bad _ fun _ _ _ => rfl⟩
 | .scope _, pl, r, h => by cases h; exact ⟨rfl, .bad _ fun _ _ _ => rfl⟩
 | .refuse _, pl, r, h => by cases h; exact ⟨rfl, .bad _ fun _ _ _ => rfl⟩
 | .rangeFunc g ps x y, pl, r, h => by cases h; exact ⟨rfl, .range g ps x y⟩
abbrev Plans := List (Nat × List Pl)
def plansAt (t : Plans) (i : Nat) : List Pl := assoc t [] i
def okFn (P : Program) (fn : Func) (pl : List Pl) : Bool := match fn.body with
 | some c => match okL P c pl with
  | some _ => true
  | none => false
 | none => true
def okPlans (P : Program) : Plans → Bool
 | [] => true
 | p :: t => bcase (match P.funcs[p.1]? with | some fn => okFn P fn p.2 | none => true) (okPlans P t) false
theorem okPlans_at {P : Program} : ∀ {t : Plans}, okPlans P t = true → ∀ (i : Nat) (fn : Func), P.funcs[i]? = some fn → plansAt t i = [] ∨ okFn P fn (plansAt t i) = true
 | [], _, _, _, _ => .inl rfl
 | p :: t, h, i, fn, hf => by
  have h' : bcase (match P.funcs[p.1]? with | some fn => okFn P fn p.2 | none => true) (okPlans P t) false = true := h
  have e : plansAt (p :: t) i = if p.1 = i then p.2 else plansAt t i := assoc_cons _ _ _ _
  rw [e]
  cases hb : (match P.funcs[p.1]? with | some fn => okFn P fn p.2 | none => true) with
  | false => rw [hb] at h'; cases h'
  | true =>
   rw [hb] at h'
   by_cases hi : p.1 = i
   ·rw [if_pos hi]
    rw [hi, hf] at hb
    exact .inr hb
   ·rw [if_neg hi]; exact okPlans_at h' i fn hf
theorem okPlans_app {P : Program} : ∀ {s t : Plans}, okPlans P s = true → okPlans P t = true → okPlans P (s ++ t) = true
 | [], _, _, h => h
 | p :: s, t, h, h' => by
  have h1 : bcase (match P.funcs[p.1]? with | some fn => okFn P fn p.2 | none => true) (okPlans P s) false = true := h
  show bcase (match P.funcs[p.1]? with | some fn => okFn P fn p.2 | none => true) (okPlans P (s ++ t)) false = true
  cases hb : (match P.funcs[p.1]? with | some fn => okFn P fn p.2 | none => true) with
  | false => rw [hb] at h1; cases h1
  | true => rw [hb] at h1; exact okPlans_app h1 h'
def compFunc (P : Program) (fn : Func) (pl : List Pl) : Option FFunc := match fn.body with
 | some c => some ⟨fn, (compL P (Nat.lor (maskOf fn) (Nat.sub (Nat.pow 2 (Nat.add fn.params.size fn.nfree)) 1)) c pl).1, maskOf fn, compRes fn.results.toList⟩
 | none => none
theorem okL_nil (P : Program) : ∀ c, okL P c [] = some []
 | .skip => rfl
 | .label _ => rfl
 | .region _ _ d => by cases d <;> rfl
 | .seq a b => by simp only [okL, okL_nil P a, obS, okL_nil P b]
 | .cond _ a b => by simp only [okL, okL_nil P a, obS, okL_nil P b]
 | .block _ b => okL_nil P b
 | .loop b => okL_nil P b
 | .exit _ => rfl
 | .ret => rfl
 | .goto _ => rfl
 | .scope _ => rfl
 | .refuse _ => rfl
 | .rangeFunc .. => rfl
theorem compFunc_good {P : Program} {fn : Func} {c : Code} (hb : fn.body = some c) {pl : List Pl} (h : pl = [] ∨ okFn P fn pl = true) : ∃ ff, compFunc P fn pl = some ff ∧ GoodF P ff fn c := by
 have hg : ∀ m, Good P (compL P m c pl).1 c := by
  intro m
  rcases h with rfl | h
  ·exact (okL_good P m c [] [] (okL_nil P c)).2
  ·simp only [okFn, hb] at h
   cases ho : okL P c pl with
   | none => rw [ho] at h; cases h
   | some r => exact (okL_good P m c pl r ho).2
 refine ⟨_, by simp only [compFunc, hb]; rfl, ⟨rfl, hg _, rfl, rfl⟩⟩
/-! ## The tree of functions -/
def putO {α : Type} (t : T α) (i : Nat) (o : Option α) : T α := match o with | some a => t.set i a | none => t
def tableFrom (P : Program) (pls : Plans) : List Func → Nat → T FFunc → T FFunc
 | [], _, t => t
 | fn :: l, i, t => tableFrom P pls l (Nat.succ i) (putO t i (compFunc P fn (plansAt pls i)))
def tableOf (P : Program) (pls : Plans) : T FFunc := tableFrom P pls P.funcs.toList 0 .leaf
theorem get_putO {α : Type} (t : T α) (i j : Nat) (o : Option α) : (putO t i o).get j = if j = i then o.or (t.get j) else t.get j := by
 cases o with
 | none => simp [putO]
 | some a => simp only [putO, T.get_set, Option.some_or]
theorem tableFrom_get (P : Program) (pls : Plans) : ∀ (l : List Func) (i : Nat) (t : T FFunc), (∀ j, i ≤ j → t.get j = none) → ∀ j, (tableFrom P pls l i t).get j = if i ≤ j then (l[j - i]?).bind (fun fn => compFunc P fn (plansAt pls j)) else t.get j
 | [], i, t, ht, j => by
  simp only [tableFrom]
  split
  ·rename_i h; rw [ht j h]; simp
  ·rfl
 | fn :: l, i, t, ht, j => by
  simp only [tableFrom]
  have hi := tableFrom_get P pls l (Nat.succ i) (putO t i (compFunc P fn (plansAt pls i))) (fun k hk => by rw [get_putO, if_neg (by omega)]; exact ht k (by omega)) j
  rw [hi]
  by_cases h1 : Nat.succ i ≤ j
  ·rw [if_pos h1, if_pos (by omega)]
   obtain ⟨m, rfl⟩ : ∃ m, j = i + 1 + m := ⟨j - (i + 1), by omega⟩
   rw [show i + 1 + m - i = m + 1 by omega, show i + 1 + m - Nat.succ i = m by omega]
   rfl
  ·rw [if_neg h1, get_putO]
   by_cases h2 : j = i
   ·subst h2
    rw [if_pos rfl, if_pos (Nat.le_refl _), ht j (Nat.le_refl _)]
    simp
   ·rw [if_neg h2, if_neg (by omega)]
theorem tableOf_ok {P : Program} {pls : Plans} (h : okPlans P pls = true) : TableOk P (tableOf P pls) := by
 intro f
 have e : (tableOf P pls).get f = (P.funcs[f]?).bind (fun fn => compFunc P fn (plansAt pls f)) := by
  unfold tableOf
  rw [tableFrom_get P pls _ 0 .leaf (fun _ _ => rfl) f, if_pos (Nat.zero_le _)]
  simp
 split
 ·rename_i hf; rw [e, hf]; rfl
 ·rename_i fn hf
  split
  ·rename_i hb; rw [e, hf]; simp only [Option.bind_some, compFunc, hb]
  ·rename_i c hb
   obtain ⟨ff, h1, h2⟩ := compFunc_good hb (okPlans_at h f fn hf)
   exact ⟨ff, by rw [e, hf]; exact h1, h2⟩
end
end Go.HL
namespace Go.HL
open Go
set_option linter.unusedVariables false
/-! ## Memories by lists -/
noncomputable section
def findK : List (Nat × HObj) → Nat → Option HObj
 | [], _ => none
 | p :: l, k => if k = p.1 then some p.2 else findK l k
def layOver (t : T HObj) : List (Nat × HObj) → T HObj
 | [] => t
 | p :: l => (layOver t l).set p.1 p.2
theorem get_layOver (t : T HObj) : ∀ (l : List (Nat × HObj)) (k : Nat), (layOver t l).get k = (findK l k).or (t.get k)
 | [], k => rfl
 | p :: l, k => by
  simp only [layOver, findK]
  rw [T.get_set]
  split
  ·rfl
  ·exact get_layOver t l k
theorem findK_mem : ∀ {l : List (Nat × HObj)} {k : Nat} {o : HObj}, findK l k = some o → (k, o) ∈ l
 | p :: l, k, o, h => by
  simp only [findK] at h
  split at h
  ·rename_i hk; cases h; rw [hk]; exact List.mem_cons_self
  ·exact List.mem_cons_of_mem _ (findK_mem h)
def hasKey : List (Nat × HObj) → Nat → Bool
 | [], _ => false
 | p :: l, k => bcase (Nat.beq k p.1) true (hasKey l k)
theorem hasKey_iff : ∀ {l : List (Nat × HObj)} {k : Nat}, hasKey l k = true ↔ ∃ o, findK l k = some o
 | [], k => by simp [hasKey, findK]
 | p :: l, k => by
  simp only [hasKey, findK, bcE, nbeq]
  by_cases h : k = p.1
  ·simp [h]
  ·simp [h, hasKey_iff (l := l)]
def entsB : List HEnt → List HEnt → Bool
 | [], [] => true
 | a :: l, b :: m => bcase (HVal.beq a.key b.key) (bcase (HVal.beq a.val b.val) (bcase (Nat.beq a.born b.born) (entsB l m) false) false) false
 | _, _ => false
def sameB (a b : Bool) : Bool := bcase a b (bcase b false true)
def objB : HObj → HObj → Bool
 | .cells l e s r, .cells l' e' s' r' => bcase (Nat.beq e e') (bcase (sameB s s') (bcase (sameB r r') (beqL l l') false) false) false
 | .map l c r, .map l' c' r' => bcase (Nat.beq c c') (bcase (sameB r r') (entsB l l') false) false
 | .dead, .dead => true
 | .iter none, .iter none => true
 | .iter (some a), .iter (some b) => Nat.beq a b
 | _, _ => false
theorem bcFe {b t : Bool} : bcase b t false = true ↔ b = true ∧ t = true := by cases b <;> simp
theorem entsB_sound : ∀ {l m : List HEnt}, entsB l m = true → l = m
 | [], [], _ => rfl
 | a :: l, b :: m, h => by
  simp only [entsB, bcFe] at h
  obtain ⟨h1, h2, h3, h4⟩ := h
  obtain ⟨ak, av, ab⟩ := a
  obtain ⟨bk, bv, bb⟩ := b
  simp only at h1 h2 h3
  rw [beq_sound _ _ h1, beq_sound _ _ h2, Nat.eq_of_beq_eq_true h3, entsB_sound h4]
 | [], _ :: _, h => by cases h
 | _ :: _, [], h => by cases h
theorem sameB_sound {a b : Bool} (h : sameB a b = true) : a = b := by cases a <;> cases b <;> first | rfl | cases h
theorem objB_sound {a b : HObj} (h : objB a b = true) : a = b := by
 unfold objB at h
 split at h
 ·simp only [bcFe] at h
  obtain ⟨h1, h2, h3, h4⟩ := h
  rw [Nat.eq_of_beq_eq_true h1, sameB_sound h2, sameB_sound h3, beqL_sound _ _ h4]
 ·simp only [bcFe] at h
  obtain ⟨h1, h2, h3⟩ := h
  rw [Nat.eq_of_beq_eq_true h1, sameB_sound h2, entsB_sound h3]
 ·rfl
 ·rfl
 ·rw [Nat.eq_of_beq_eq_true h]
 ·cases h
def subH (h : Heap) : List (Nat × HObj) → Bool
 | [] => true
 | p :: l => bcase (match h.get p.1 with | some o => objB o p.2 | none => false) (subH h l) false
theorem subH_mem {h : Heap} : ∀ {l : List (Nat × HObj)}, subH h l = true → ∀ {k : Nat} {o : HObj}, (k, o) ∈ l → h.get k = some o
 | p :: l, e, k, o, hm => by
  simp only [subH, bcFe] at e
  rcases List.mem_cons.1 hm with rfl | hm
  ·cases hg : h.get k with
   | none => simp only [hg] at e; exact absurd e.1 (by simp)
   | some o' => simp only [hg] at e; rw [objB_sound e.1]
  ·exact subH_mem e.2 hm
/-! ## Known calls -/
structure Ent where
 f : Nat
 args : List HVal
 next : Nat
 hin : List (Nat × HObj)
 res : HVal
 next' : Nat
 hout : List (Nat × HObj)
def Ent.inMem (e : Ent) : Heap := ⟨e.next, layOver .leaf e.hin⟩
def inOk (e : Ent) : List (Nat × HObj) → Bool
 | [] => true
 | p :: l => bcase p.2.live (bcase (hasKey e.hout p.1) (bcase (Nat.blt p.1 e.next) (inOk e l) false) false) false
def outOk (e : Ent) : List (Nat × HObj) → Bool
 | [] => true
 | p :: l => bcase (bcase (hasKey e.hin p.1) true (bcase p.2.owned true (bcase p.2.live false true))) (outOk e l) false
def ranTo (run : CallFn) (e : Ent) : Bool := match run e.f e.args e.inMem with
 | some r => match r.1 with
  | .ret v => bcase (HVal.beq v e.res) (bcase (Nat.beq r.2.next e.next') (bcase (subH r.2 e.hout) (bcase (inOk e e.hin) (outOk e e.hout) false) false) false) false
  | _ => false
 | none => false
def provedBy (run : CallFn) (e : Ent) : Bool := bcase (Nat.blt e.f roundNo) (ranTo run e) false
def known : List Ent → CallFn
 | [], _, _, _ => none
 | e :: l, f, args, h => bcase (Nat.beq e.f f) (bcase (bcase (beqL e.args args) (bcase (Nat.beq e.next h.next) (subH h e.hin) false) false) (some (.ret e.res, ⟨e.next', layOver h.t e.hout⟩)) (known l f args h)) (known l f args h)
end
section
variable {P : Program}
theorem inOk_mem {e : Ent} : ∀ {l : List (Nat × HObj)}, inOk e l = true → ∀ {k : Nat} {o : HObj}, (k, o) ∈ l → o.live = true ∧ (∃ o', findK e.hout k = some o') ∧ k < e.next
 | p :: l, h, k, o, hm => by
  simp only [inOk, bcFe] at h
  obtain ⟨h1, h2, h3, h4⟩ := h
  rcases List.mem_cons.1 hm with rfl | hm
  ·exact ⟨h1, hasKey_iff.1 h2, by rw [nblt] at h3; exact of_decide_eq_true h3⟩
  ·exact inOk_mem h4 hm
theorem outOk_mem {e : Ent} : ∀ {l : List (Nat × HObj)}, outOk e l = true → ∀ {k : Nat} {o : HObj}, (k, o) ∈ l → (∃ o', findK e.hin k = some o') ∨ o.owned = true ∨ o.live = false
 | p :: l, h, k, o, hm => by
  simp only [outOk, bcFe] at h
  obtain ⟨h1, h2⟩ := h
  rcases List.mem_cons.1 hm with rfl | hm
  ·cases hk : hasKey e.hin k with
   | true => exact .inl (hasKey_iff.1 hk)
   | false =>
    simp only [hk, bcF] at h1
    cases ho : o.owned with
    | true => exact .inr (.inl rfl)
    | false =>
     simp only [ho, bcF] at h1
     cases hl : o.live with
     | true => simp only [hl, bcT] at h1; cases h1
     | false => exact .inr (.inr rfl)
  ·exact outOk_mem h2 hm
def Fine (P : Program) (e : Ent) : Prop := ∃ run, CallSound P run ∧ provedBy run e = true
theorem Fine.lt {e : Ent} (h : Fine P e) : e.f < roundNo := by
 obtain ⟨_, _, hp⟩ := h
 unfold provedBy at hp
 obtain ⟨h1, _⟩ := bcFe.1 hp
 rw [nblt] at h1
 exact of_decide_eq_true h1
theorem inMem_get (e : Ent) (k : Nat) : e.inMem.get k = findK e.hin k := by
 show (layOver .leaf e.hin).get k = _
 rw [get_layOver]
 show (findK e.hin k).or none = _
 cases findK e.hin k <;> rfl
theorem ent_step {e : Ent} (hf : Fine P e) {h : Heap} (hn : e.next = h.next) (hs : subH h e.hin = true) {σ : Places} {w : World} (hr : Rel P σ h w) {vs : List Value} (hv : VRels σ e.args vs) :
  Calls P e.f ⟨vs⟩ w fun x w' => ∃ τ, Step P σ h w τ ⟨e.next', layOver h.t e.hout⟩ w' ∧ CRel τ (.ret e.res) x := by
 have hlt := hf.lt
 obtain ⟨run, hrun, hp0⟩ := hf
 have hp := (bcFe.1 hp0).2
 unfold ranTo at hp
 cases he : run e.f e.args e.inMem with
 | none => rw [he] at hp; cases hp
 | some r =>
  obtain ⟨cr, h1⟩ := r
  rw [he] at hp
  cases cr with
  | pan v => cases hp
  | ret v =>
   simp only [bcFe] at hp
   obtain ⟨e1, e2, e3, e4, e5⟩ := hp
   have hres := beq_sound _ _ e1
   subst hres
   have hnx : h1.next = e.next' := Nat.eq_of_beq_eq_true e2
   have hsub : ∀ {k o}, e.inMem.get k = some o → h.get k = some o := by
    intro k o hk
    rw [inMem_get] at hk
    exact subH_mem hs (findK_mem hk)
   have hin : Rel P σ e.inMem w := by
    refine ⟨fun k o p hk => hr.obj k o p (hsub hk), fun k hk => hr.fresh k (by rw [← hn]; exact hk), fun k o hk => ?_, hr.inb, fun k k' o o' p p' hk hk' => hr.inj k k' o o' p p' (hsub hk) (hsub hk'), hr.glob⟩
    show k < e.next
    rw [hn]; exact hr.dom k o (hsub hk)
   refine ((hrun e.f e.args e.inMem _ h1 he σ w vs hin hv).1 hlt).mono fun x w' ⟨τ, st, hc⟩ => ⟨τ, ?_, hc⟩
   have hget : ∀ k, (⟨e.next', layOver h.t e.hout⟩ : Heap).get k = (findK e.hout k).or (h.get k) := fun k => get_layOver h.t e.hout k
   have hout : ∀ {k o}, findK e.hout k = some o → h1.get k = some o := fun hk => subH_mem e3 (findK_mem hk)
   have hlow : ∀ k, k < h.next → τ k = σ k := fun k hk => st.low k (by show k < e.next; rw [hn]; exact hk)
   have hnext : h.next ≤ e.next' := by rw [← hn, ← hnx]; exact st.next
   -- what is kept of the rest
   have hrest : ∀ {k o p}, findK e.hout k = none → h.get k = some o → o.live = true → σ k = some p → w'.heap[p.blk]? = w.heap[p.blk]? := by
    intro k o p hk ho hl hp
    refine st.kept.block p.blk (hr.inb k p hp) ?_
    rintro ⟨k', o', p', hk', ho', hp', hb⟩
    have hk2 := hsub hk'
    have : k' ≠ k := by
     rintro rfl
     rw [inMem_get] at hk'
     obtain ⟨_, ⟨o2, ho2⟩, _⟩ := inOk_mem e4 (findK_mem hk')
     rw [hk] at ho2; cases ho2
    exact hr.inj k' k o' o p' p hk2 ho ho' hl this hp' hp hb
   have hownIn : ∀ b, Own σ e.inMem b → ∃ k o p, findK e.hin k = some o ∧ h.get k = some o ∧ o.owned = true ∧ σ k = some p ∧ p.blk = b := by
    rintro b ⟨k, o, p, hk, ho, hp, hb⟩
    exact ⟨k, o, p, by rw [← inMem_get]; exact hk, hsub hk, ho, hp, hb⟩
   have hhin : ∀ {k o}, findK e.hin k = some o → ∃ o', findK e.hout k = some o' := fun hk => (inOk_mem e4 (findK_mem hk)).2.1
   refine ⟨st.le, ?_, ?_, ?_, hnext, hlow, ?_⟩
   ·-- the memories
    refine ⟨?_, ?_, ?_, st.rel.inb, ?_, st.rel.glob⟩
    ·intro k o p hk hl hp
     rw [hget] at hk
     cases hk2 : findK e.hout k with
     | some o2 =>
      rw [hk2] at hk
      cases hk
      exact st.rel.obj k o p (hout hk2) hl hp
     | none =>
      rw [hk2] at hk
      have hk' : h.get k = some o := hk
      have hp' : σ k = some p := by rw [← hlow k (hr.dom k o hk')]; exact hp
      rw [hrest hk2 hk' hl hp']
      exact (hr.obj k o p hk' hl hp').mono st.le
    ·intro k hk
     exact st.rel.fresh k (by rw [hnx]; exact hk)
    ·intro k o hk
     rw [hget] at hk
     show k < e.next'
     cases hk2 : findK e.hout k with
     | some o2 => rw [← hnx]; exact st.rel.dom k o2 (hout hk2)
     | none =>
      rw [hk2] at hk
      have hk' : h.get k = some o := hk
      exact Nat.lt_of_lt_of_le (hr.dom k o hk') hnext
    ·intro k k' o o' p p' hk hk' ho ho' hne hp hp'
     rw [hget] at hk hk'
     cases hk2 : findK e.hout k with
     | some o2 =>
      rw [hk2] at hk; cases hk
      cases hk2' : findK e.hout k' with
      | some o2' =>
       rw [hk2'] at hk'; cases hk'
       exact st.rel.inj k k' o o' p p' (hout hk2) (hout hk2') ho ho' hne hp hp'
      | none =>
       rw [hk2'] at hk'
       have hk3 : h.get k' = some o' := hk'
       have hp3 : σ k' = some p' := by rw [← hlow k' (hr.dom k' o' hk3)]; exact hp'
       intro hb
       have hlt : p.blk < w.heap.size := by rw [hb]; exact hr.inb k' p' hp3
       obtain ⟨q, oq, pq, g1, g2, g3, g4, g5⟩ := hownIn p.blk (st.own p.blk hlt ⟨k, o, p, hout hk2, ho, hp, rfl⟩)
       have hq : q ≠ k' := by
        rintro rfl
        obtain ⟨o9, h9⟩ := hhin g1
        rw [hk2'] at h9; cases h9
       exact hr.inj q k' oq o' pq p' g2 hk3 g3 ho' hq g4 hp3 (g5.trans hb)
     | none =>
      rw [hk2] at hk
      have hk3 : h.get k = some o := hk
      have hp3 : σ k = some p := by rw [← hlow k (hr.dom k o hk3)]; exact hp
      cases hk2' : findK e.hout k' with
      | none =>
       rw [hk2'] at hk'
       have hk4 : h.get k' = some o' := hk'
       have hp4 : σ k' = some p' := by rw [← hlow k' (hr.dom k' o' hk4)]; exact hp'
       exact hr.inj k k' o o' p p' hk3 hk4 ho ho' hne hp3 hp4
      | some o2' =>
       rw [hk2'] at hk'; cases hk'
       intro hb
       rcases outOk_mem e5 (findK_mem hk2') with ⟨oi, hi⟩ | hown | hdead
       ·have hi2 : h.get k' = some oi := subH_mem hs (findK_mem hi)
        have hlive := (inOk_mem e4 (findK_mem hi)).1
        have hp4 : σ k' = some p' := by rw [← hlow k' (hr.dom k' oi hi2)]; exact hp'
        exact hr.inj k k' o oi p p' hk3 hi2 ho hlive hne hp3 hp4 hb
       ·have hlt : p'.blk < w.heap.size := by rw [← hb]; exact hr.inb k p hp3
        obtain ⟨q, oq, pq, g1, g2, g3, g4, g5⟩ := hownIn p'.blk (st.own p'.blk hlt ⟨k', o', p', hout hk2', hown, hp', rfl⟩)
        have hq : q ≠ k := by
         rintro rfl
         obtain ⟨o9, h9⟩ := hhin g1
         rw [hk2] at h9; cases h9
        exact hr.inj q k oq o pq p g2 hk3 g3 (HObj.live_of_owned ho) hq g4 hp3 (g5.trans hb.symm)
       ·rw [hdead] at ho'; cases ho'
   ·-- the blocks
    refine ⟨st.kept.os, st.kept.tape, st.kept.output, st.kept.size, fun b hb hno => st.kept.block b hb fun hown => hno ?_⟩
    obtain ⟨k, o, p, hk, ho, hp, hpb⟩ := hown
    exact ⟨k, o, p, hsub hk, ho, hp, hpb⟩
   ·rintro b hb ⟨k, o, p, hk, ho, hp, hpb⟩
    rw [hget] at hk
    cases hk2 : findK e.hout k with
    | some o2 =>
     rw [hk2] at hk; cases hk
     obtain ⟨q, oq, pq, g1, g2, g3, g4, g5⟩ := hownIn b (st.own b hb ⟨k, o, p, hout hk2, ho, hp, hpb⟩)
     exact ⟨q, oq, pq, g2, g3, g4, g5⟩
    | none =>
     rw [hk2] at hk
     have hk3 : h.get k = some o := hk
     exact ⟨k, o, p, hk3, ho, by rw [← hlow k (hr.dom k o hk3)]; exact hp, hpb⟩
   ·intro k hk hn0
    rw [hget]
    cases hk2 : findK e.hout k with
    | none => rfl
    | some o2 =>
     have h2 := hout hk2
     have h3 := st.idle k (by show k < e.next; rw [hn]; exact hk) hn0
     rw [h2] at h3
     show some o2 = h.get k
     exact (hsub h3.symm).symm
theorem fine_nil : ∀ e ∈ ([] : List Ent), Fine P e := fun _ h => by cases h
theorem fine_cons {e : Ent} {es : List Ent} (h : Fine P e) (hs : ∀ x ∈ es, Fine P x) : ∀ x ∈ e :: es, Fine P x := by
 intro x hx
 rcases List.mem_cons.1 hx with rfl | hx
 ·exact h
 ·exact hs x hx
theorem known_sound : ∀ {es : List Ent}, (∀ e ∈ es, Fine P e) → CallSound P (known es)
 | [], _ => fun f args h cr h' e => by cases e
 | e :: l, hf => by
  intro f args h cr h' hc
  simp only [known] at hc
  have hrest := known_sound (es := l) fun x hx => hf x (by simp [hx])
  cases h1 : Nat.beq e.f f with
  | false => rw [h1, bcF] at hc; exact hrest f args h cr h' hc
  | true =>
   rw [h1, bcT] at hc
   cases h2 : bcase (beqL e.args args) (bcase (Nat.beq e.next h.next) (subH h e.hin) false) false with
   | false => rw [h2, bcF] at hc; exact hrest f args h cr h' hc
   | true =>
    rw [h2, bcT] at hc
    cases hc
    simp only [bcFe] at h2
    obtain ⟨g1, g2, g3⟩ := h2
    have ef := Nat.eq_of_beq_eq_true h1
    have ea := beqL_sound _ _ g1
    subst ef
    subst ea
    intro σ w vs hr hv
    have hlt := (hf e (by simp)).lt
    exact ⟨fun _ => ent_step (hf e (by simp)) (Nat.eq_of_beq_eq_true g2) g3 hr hv, fun hge => absurd hlt (Nat.not_lt.2 hge)⟩
end
end Go.HL
