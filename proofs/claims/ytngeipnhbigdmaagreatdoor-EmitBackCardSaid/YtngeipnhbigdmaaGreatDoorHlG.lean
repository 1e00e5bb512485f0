/- HL, run by the kernel: the fast evaluator; known calls. No statement of the seat stands here. -/
import Derived.Test.YtngeipnhbigdmaaGreatDoorHlA
import Derived.Test.YtngeipnhbigdmaaGreatDoorHlD
import Derived.Test.YtngeipnhbigdmaaGreatDoorHlF
namespace Go.HL
open Go
noncomputable section
set_option linter.unusedVariables false
def IW (P : Program) (ρ : Operand → aa) (h : Heap) (x : Operand) : Option Out := some (.val (ρ x) h)
def Dv (P : Program) (ρ : Operand → aa) (h : Heap) (x : Operand) : Option Out := some (.val (ρ x) h)
def IU (P : Program) (ρ : Operand → aa) (h : Heap) (c : Operand) (a : Operand) (b : Operand) : Option Out := ob (ρ c).isBool fun t => some (.val (ae t (ρ a) (ρ b)) h)
def GL (P : Program) (ρ : Operand → aa) (h : Heap) (e : TypeId) : Option Out := ob (ag P e) fun z => some (.val (.ptr h.next 0) (h.new (.cells z e false true)))
def KT (P : Program) (ρ : Operand → aa) (h : Heap) (e : TypeId) (x : Operand) : Option Out := ob (ρ x).cells fun l => some (.val (.ptr h.next 0) (h.new (.cells l e false true)))
def GJ (P : Program) (ρ : Operand → aa) (h : Heap) (t : TypeId) (parts : Array (Nat × Operand)) : Option Out := ob (ag P t) fun z => match P.underlying t with
  | some (.struct fields) => ae (jj P fields.toList) (ob (placesOf P fields.toList ρ parts.toList) fun l => ob (eI l z) fun cs => some (.val (.agg cs) h)) none
  | some (.array _ e) => ob (P.info? e) fun _ => ob (eI (parts.toList.map fun p => (Nat.mul p.1 (P.cellsOf e), P.cellsOf e, ρ p.2)) z) fun cs => some (.val (.agg cs) h)
  | _ => none
def w9 (P : Program) (ρ : Operand → aa) (h : Heap) (t : TypeId) (len : Nat) (parts : Array (Nat × Operand)) : Option Out := match P.underlying t with
  | some (.slice e) => ae (Nat.ble (Nat.mul len (P.cellsOf e)) 16777216)
    (ob (ag P e) fun z => ae (Nat.beq z.length (P.cellsOf e)) (ob (eI (parts.toList.map fun p => (Nat.mul p.1 (P.cellsOf e), P.cellsOf e, ρ p.2)) (gp len z)) fun cs =>
     some (.val (.slice h.next 0 len (some len)) (h.new (.cells cs e false true)))) none) none
  | _ => none
def IX (P : Program) (ρ : Operand → aa) (h : Heap) (t : TypeId) (a : Operand) : Option Out := ob (ρ a).dI fun a => val h (loadT P h t a.1 a.2)
def GB (P : Program) (ρ : Operand → aa) (h : Heap) (t : TypeId) (a : Operand) (v : Operand) : Option Out := ob (P.info? t) fun _ => ob (ρ a).dI fun a => ob (ρ v).cells fun l => ae (Nat.beq l.length (P.cellsOf t)) (ob (iS h a.1 a.2 l) fun h' => some (.val bw h')) none
def zR (P : Program) (ρ : Operand → aa) (h : Heap) (x : Operand) : Option Out := match ρ x with
  | .ptr k off => some (.val (.ptr k off) h)
  | .func f a b => some (.val (.func f a b) h)
  | _ => none
def GK (P : Program) (ρ : Operand → aa) (h : Heap) (op : BinOp) (t : TypeId) (x : Operand) (y : Operand) (x_4 : TypeId) : Option Out := val h (kc P op t (ae (isLit x) true (isLit y)) (ρ x) (ρ y))
def IT (P : Program) (ρ : Operand → aa) (h : Heap) (op : UnOp) (x_1 : TypeId) (x : Operand) : Option Out := val h (Ma op (ρ x))
def Bh (P : Program) (ρ : Operand → aa) (h : Heap) (s : TypeId) (d : TypeId) (x : Operand) : Option Out := match cY P s d with
  | some _ => Aj (ρ x) h
  | none => kJ P s d (ρ x) h
def r6 (P : Program) (ρ : Operand → aa) (h : Heap) (t : TypeId) (x : Operand) : Option Out := match P.underlying t with
  | some (.interface _) => none
  | some _ => some (.val (.iface t (ρ x)) h)
  | none => none
def zT (P : Program) (ρ : Operand → aa) (h : Heap) (ff : Fn) (first : Array Operand) (cap : Array Operand) : Option Out := match ff with
  | .func f => some (.val (.func f (first.toList.map ρ) (cap.toList.map ρ)) h)
  | _ => none
def Bf (P : Program) (ρ : Operand → aa) (h : Heap) (t : TypeId) (r : Option Operand) : Option Out := match P.underlying t with
  | some (.map _ _) => match r with
   | none => some (.val (.map h.next) (h.new (.map [] 0 true)))
   | some x => ob (ρ x).isInt fun _ => some (.val (.map h.next) (h.new (.map [] 0 true)))
  | _ => none
def xR (P : Program) (ρ : Operand → aa) (h : Heap) (t : TypeId) (l : Operand) (c : Operand) : Option Out := match P.underlying t with
  | some (.slice e) => ob (ρ l).isNat fun l => ob (ρ c).isNat fun c => ae (Nat.ble l c) (ae (Nat.ble (Nat.mul (P.bytesOf e) c) fC) (ae (Nat.ble c fC)
    (ob (ag P e) fun z => ae (Nat.beq z.length (P.cellsOf e)) (some (.val (.slice h.next 0 l (some c)) (h.new (.cells (gp c z) e false true)))) none) none) none) none
  | _ => none
def GC (P : Program) (ρ : Operand → aa) (h : Heap) (t : TypeId) (x : Operand) (lo : Option Operand) (hi : Option Operand) (mx : Option Operand) : Option Out := ae (cw P t) (val h (fw P h t (ρ x) (lo.map ρ) (hi.map ρ) (mx.map ρ))) none
def xT (P : Program) (ρ : Operand → aa) (h : Heap) (t : TypeId) (x : Operand) (f : Nat) : Option Out := match P.underlying t with
  | some (.struct fields) => ob (ρ x).dI fun a => ob fields[f]? fun fd => ae (Nat.beq (P.cellsOf fd.type) 0) none (some (.val (.ptr a.1 (Nat.add a.2 fd.offset)) h))
  | _ => none
def GH (P : Program) (ρ : Operand → aa) (h : Heap) (t : TypeId) (x : Operand) (f : Nat) : Option Out := match P.underlying t with
  | some (.struct fields) => ob (ρ x).isAgg fun cs => ob fields[f]? fun fd => val h (ku P fd.type cs fd.offset)
  | _ => none
def xS (P : Program) (ρ : Operand → aa) (h : Heap) (t : TypeId) (x : Operand) (i : Operand) : Option Out := ae (cw P t) (ob (ρ i).isNat fun i => match P.underlying t with
  | some (.array n e) => ob (ρ x).dI fun a => ae (Nat.blt i n) (some (.val (.ptr a.1 (Nat.add a.2 (Nat.mul i (P.cellsOf e)))) h)) none
  | some (.slice e) => match ρ x with
   | .slice k off n _ => ae (Nat.blt i n) (some (.val (.ptr k (Nat.add off (Nat.mul i (P.cellsOf e)))) h)) none
   | _ => none
  | _ => none) none
def GG (P : Program) (ρ : Operand → aa) (h : Heap) (t : TypeId) (x : Operand) (i : Operand) : Option Out := ae (cw P t) (ob (ρ i).isNat fun i => match P.underlying t with
  | some (.array n e) => ob (ρ x).isAgg fun cs => ae (Nat.blt i n) (val h (ku P e cs (Nat.mul i (P.cellsOf e)))) none
  | some .string => match ρ x with
   | .str n c => ae (Nat.blt i n) (some (.val (.int .u8 (Int.ofNat (gm n c i))) h)) none
   | _ => none
  | _ => none) none
def Dt (P : Program) (ρ : Operand → aa) (h : Heap) (t : TypeId) (x : Operand) (i : Operand) (ok : Bool) : Option Out := oY P t (ρ x) (ρ i) ok h
def xQ (P : Program) (ρ : Operand → aa) (h : Heap) (t : TypeId) (m : Operand) (k : Operand) (v : Operand) : Option Out := kh P t (ρ m) (ρ k) (ρ v) h
def Du (P : Program) (ρ : Operand → aa) (h : Heap) (t : TypeId) (m : Operand) (k : Operand) (v : Operand) : Option Out := kh P t (ρ m) (ρ k) (ρ v) h
def zS (P : Program) (ρ : Operand → aa) (h : Heap) (t : TypeId) (m : Operand) (k : Operand) : Option Out := Ac P t (ρ m) (ρ k) h
def w8 (P : Program) (ρ : Operand → aa) (h : Heap) (x_0 : TypeId) (m : Operand) (s : Operand) (v : Operand) : Option Out := ob (ρ m).lS fun r => ob (ρ s).isNat fun n => ob (h.entries r) fun o => ae o.2.2
   (ob (xw n o.1) fun e => some (.val bw (h.put r (.map (o.1.set e.1 ⟨e.2.key, ρ v, e.2.born⟩) o.2.1 true)))) none
def w7 (P : Program) (ρ : Operand → aa) (h : Heap) (x : Operand) (x_1 : TypeId) (asserted : TypeId) (ok : Bool) : Option Out := match P.underlying asserted with
  | some (.interface _) => none
  | some _ => match ρ x with
   | .iD => ae ok (ob (ix P asserted) fun z => some (.val (.tuple [z, .bool false]) h)) none
   | .iface t v => ae (Nat.beq t asserted) (some (.val (ae ok (.tuple [v, .bool true]) v) h))
     (ae ok (ob (ix P asserted) fun z => some (.val (.tuple [z, .bool false]) h)) none)
   | _ => none
  | none => none
def GD (P : Program) (ρ : Operand → aa) (h : Heap) (t : TypeId) (x : Operand) : Option Out := zN P t (ρ x) h
def IV (P : Program) (ρ : Operand → aa) (h : Heap) (it : Operand) (str : Bool) : Option Out := Fb (ρ it) str h
def Bg (P : Program) (ρ : Operand → aa) (h : Heap) (x : Operand) (i : Nat) : Option Out := ob (ρ x).isTuple fun l => val h (nth l i)
def IY (P : Program) (ρ : Operand → aa) (h : Heap) (c : Call) : Option Out := match c.callee with
  | .builtin b => dL P b c.argTypes (c.args.toList.map ρ) h
  | .value f => match ρ f with
   | .func f first cap => pM P f (first ++ (c.args.toList.map ρ ++ cap)) h
   | .yield k => some (.enter (Nat.add bd k) (c.args.toList.map ρ) h)
   | _ => none
  | .invoke recv name => match ρ recv with
   | .iface t x => ob (uU P t name) fun f => pM P f (x :: c.args.toList.map ρ) h
   | _ => none
def GI (P : Program) (ρ : Operand → aa) (h : Heap) (c : Call) : Option Out := match c.callee with
  | .value f => match ρ f with
   | .func f first cap => some (.defer f (first ++ (c.args.toList.map ρ ++ cap)) h)
   | _ => none
  | _ => none
def GF (P : Program) (ρ : Operand → aa) (h : Heap) (x : Operand) : Option Out := match ρ x with
  | .iface t v => some (.c8 (.iface t v) h)
  | _ => none
def Qj (P : Program) (ρ : Operand → aa) (h : Heap) (o : Oper) : Option Out :=
 @Op.rec (fun _ => Program → (Operand → aa) → Heap → Option Out) (fun a0 P ρ h => IW P ρ h a0) (fun a0 P ρ h => Dv P ρ h a0) (fun a0 a1 a2 P ρ h => IU P ρ h a0 a1 a2) (fun a0 P ρ h => GL P ρ h a0) (fun a0 a1 P ρ h => KT P ρ h a0 a1) (fun a0 a1 P ρ h => GJ P ρ h a0 a1) (fun a0 a1 a2 P ρ h => w9 P ρ h a0 a1 a2) (fun a0 a1 a2 a3 P ρ h => Du P ρ h a0 a1 a2 a3) (fun a0 a1 P ρ h => IX P ρ h a0 a1) (fun a0 a1 a2 P ρ h => GB P ρ h a0 a1 a2) (fun _ _ _ _ => none) (fun _ _ _ _ => none) (fun a0 P ρ h => zR P ρ h a0) (fun a0 a1 a2 a3 a4 P ρ h => GK P ρ h a0 a1 a2 a3 a4) (fun a0 a1 a2 P ρ h => IT P ρ h a0 a1 a2) (fun a0 a1 a2 P ρ h => Bh P ρ h a0 a1 a2) (fun _ _ _ _ _ => none) (fun a0 a1 P ρ h => r6 P ρ h a0 a1) (fun a0 a1 a2 P ρ h => zT P ρ h a0 a1 a2) (fun a0 a1 P ρ h => Bf P ρ h a0 a1) (fun _ _ _ _ _ => none) (fun a0 a1 a2 P ρ h => xR P ρ h a0 a1 a2) (fun a0 a1 a2 a3 a4 P ρ h => GC P ρ h a0 a1 a2 a3 a4) (fun a0 a1 a2 P ρ h => xT P ρ h a0 a1 a2) (fun a0 a1 a2 P ρ h => GH P ρ h a0 a1 a2) (fun a0 a1 a2 P ρ h => xS P ρ h a0 a1 a2) (fun a0 a1 a2 P ρ h => GG P ρ h a0 a1 a2) (fun a0 a1 a2 a3 P ρ h => Dt P ρ h a0 a1 a2 a3) (fun a0 a1 a2 a3 P ρ h => xQ P ρ h a0 a1 a2 a3) (fun a0 a1 a2 P ρ h => zS P ρ h a0 a1 a2) (fun a0 a1 a2 a3 P ρ h => w8 P ρ h a0 a1 a2 a3) (fun a0 a1 P ρ h => GD P ρ h a0 a1) (fun a0 a1 P ρ h => IV P ρ h a0 a1) (fun _ _ _ _ => none) (fun a0 a1 a2 a3 P ρ h => w7 P ρ h a0 a1 a2 a3) (fun a0 a1 P ρ h => Bg P ρ h a0 a1) (fun a0 P ρ h => IY P ρ h a0) (fun _ _ _ _ => none) (fun a0 P ρ h => GI P ρ h a0) (fun a0 P ρ h => GF P ρ h a0) (fun _ _ _ _ _ => none) (fun _ _ _ _ _ _ => none) (fun _ _ _ _ _ => none) o.op P ρ h
theorem MS (P : Program) (ρ : Operand → aa) (h : Heap) (o : Oper) : Qj P ρ h o = bS P ρ h o := by
 unfold Qj bS
 generalize o.op = p
 cases p <;> first | rfl | skip
 rename_i f a b
 cases f <;> rfl
end
end Go.HL
namespace Go.HL
open Go
noncomputable section
set_option linter.unusedVariables false
abbrev Sl := List (Nat × aa)
def nO (x : aa) (f : Nat → Nat → aK) (z : aK) : aK :=
 @aa.rec (fun _ => (Nat → Nat → aK) → aK → aK) (fun _ => PUnit) (fun _ z => z) (fun _ _ z => z) (fun _ _ _ z => z) (fun _ _ _ z => z) (fun _ z => z) (fun p o f z => f p o) (fun _ z => z) (fun _ _ _ _ _ z => z) (fun _ z => z) (fun _ _ z => z) (fun _ z => z) (fun _ _ _ _ _ _ z => z) (fun _ z => z) (fun _ _ _ _ z => z) (fun _ _ _ z => z) (fun _ _ _ z => z) (fun _ _ z => z) (fun _ _ z => z) (fun _ _ _ _ z => z) (fun _ z => z) (fun _ _ z => z) PUnit.unit (fun _ _ _ _ => PUnit.unit) x f z
def sQ (x : aa) (f : Bool → aK) (z : aK) : aK :=
 @aa.rec (fun _ => (Bool → aK) → aK → aK) (fun _ => PUnit) (fun _ z => z) (fun b f z => f b) (fun _ _ _ z => z) (fun _ _ _ z => z) (fun _ z => z) (fun _ _ _ z => z) (fun _ z => z) (fun _ _ _ _ _ z => z) (fun _ z => z) (fun _ _ z => z) (fun _ z => z) (fun _ _ _ _ _ _ z => z) (fun _ z => z) (fun _ _ _ _ z => z) (fun _ _ _ z => z) (fun _ _ _ z => z) (fun _ _ z => z) (fun _ _ z => z) (fun _ _ _ _ z => z) (fun _ z => z) (fun _ _ z => z) PUnit.unit (fun _ _ _ _ => PUnit.unit) x f z
def yG (x : aa) (f : Nat → Nat → aK) (z : aK) : aK :=
 @aa.rec (fun _ => (Nat → Nat → aK) → aK → aK) (fun _ => PUnit) (fun _ z => z) (fun _ _ z => z) (fun _ _ _ z => z) (fun n c f z => f n c) (fun _ z => z) (fun _ _ _ z => z) (fun _ z => z) (fun _ _ _ _ _ z => z) (fun _ z => z) (fun _ _ z => z) (fun _ z => z) (fun _ _ _ _ _ _ z => z) (fun _ z => z) (fun _ _ _ _ z => z) (fun _ _ _ z => z) (fun _ _ _ z => z) (fun _ _ z => z) (fun _ _ z => z) (fun _ _ _ _ z => z) (fun _ z => z) (fun _ _ z => z) PUnit.unit (fun _ _ _ _ => PUnit.unit) x f z
def mW (x : aa) (f : IntKind → Nat → aK) (z : aK) : aK :=
 @aa.rec (fun _ => (IntKind → Nat → aK) → aK → aK) (fun _ => PUnit) (fun _ z => z) (fun _ _ z => z) (fun k n f z => @Int.rec (fun _ => (IntKind → Nat → aK) → aK → aK) (fun m f _ => f k m) (fun _ _ z => z) n f z) (fun _ _ _ z => z) (fun _ z => z) (fun _ _ _ z => z) (fun _ z => z) (fun _ _ _ _ _ z => z) (fun _ z => z) (fun _ _ z => z) (fun _ z => z) (fun _ _ _ _ _ _ z => z) (fun _ z => z) (fun _ _ _ _ z => z) (fun _ _ _ z => z) (fun _ _ _ z => z) (fun _ _ z => z) (fun _ _ z => z) (fun _ _ _ _ z => z) (fun _ z => z) (fun _ _ z => z) PUnit.unit (fun _ _ _ _ => PUnit.unit) x f z
def Mk (x : aa) (f : Nat → aK) (z : aK) : aK :=
 @aa.rec (fun _ => (Nat → aK) → aK → aK) (fun _ => PUnit) (fun _ z => z) (fun _ _ z => z) (fun _ _ _ z => z) (fun _ _ _ z => z) (fun _ z => z) (fun _ _ _ z => z) (fun f z => f 0) (fun p o l c f z => f l) (fun _ z => z) (fun _ _ z => z) (fun _ z => z) (fun _ _ _ _ _ _ z => z) (fun _ z => z) (fun _ _ _ _ z => z) (fun _ _ _ z => z) (fun _ _ _ z => z) (fun _ _ z => z) (fun _ _ z => z) (fun _ _ _ _ z => z) (fun f z => f 0) (fun k f z => f 0) PUnit.unit (fun _ _ _ _ => PUnit.unit) x f z
def F3 (x : aa) (f : Nat → Nat → Nat → aK) (z : aK) : aK :=
 @aa.rec (fun _ => (Nat → Nat → Nat → aK) → aK → aK) (fun _ => PUnit) (fun _ z => z) (fun _ _ z => z) (fun _ _ _ z => z) (fun _ _ _ z => z) (fun _ z => z) (fun _ _ _ z => z) (fun _ z => z) (fun p o l c f z => f p o l) (fun _ z => z) (fun _ _ z => z) (fun _ z => z) (fun _ _ _ _ _ _ z => z) (fun _ z => z) (fun _ _ _ _ z => z) (fun _ _ _ z => z) (fun _ _ _ z => z) (fun _ _ z => z) (fun _ _ z => z) (fun _ _ _ _ z => z) (fun _ z => z) (fun _ _ z => z) PUnit.unit (fun _ _ _ _ => PUnit.unit) x f z
def zU (x : aa) (f : List aa → aK) (z : aK) : aK :=
 @aa.rec (fun _ => (List aa → aK) → aK → aK) (fun _ => PUnit) (fun _ z => z) (fun _ _ z => z) (fun _ _ _ z => z) (fun _ _ _ z => z) (fun _ z => z) (fun _ _ _ z => z) (fun _ z => z) (fun _ _ _ _ _ z => z) (fun _ z => z) (fun _ _ z => z) (fun _ z => z) (fun _ _ _ _ _ _ z => z) (fun _ z => z) (fun _ _ _ _ z => z) (fun _ _ _ z => z) (fun l _ f z => f l) (fun _ _ z => z) (fun _ _ z => z) (fun _ _ _ _ z => z) (fun _ z => z) (fun _ _ z => z) PUnit.unit (fun _ _ _ _ => PUnit.unit) x f z
def onCells (x : aa) (f : List aa → aK) (z : aK) : aK :=
 @aa.rec (fun _ => (List aa → aK) → aK → aK) (fun _ => PUnit) (fun _ z => z) (fun b f z => f [.bool b]) (fun k n f z => f [.int k n]) (fun n c f z => f [.str n c]) (fun f z => f [.gi ]) (fun p o f z => f [.ptr p o]) (fun f z => f [.aC ]) (fun p o l c f z => f [.slice p o l c]) (fun f z => f [.mG ]) (fun p f z => f [.map p]) (fun f z => f [.nj ]) (fun g a b _ _ f z => f [.func g a b]) (fun f z => f [.iD ]) (fun t v _ f z => f [.iface t v]) (fun l _ f z => f l) (fun _ _ _ z => z) (fun k f z => f [.yield k]) (fun k f z => f [.mark k]) (fun k lo hi f z => f [.Df k lo hi]) (fun f z => f [.empty ]) (fun k f z => f [.rest k]) PUnit.unit (fun _ _ _ _ => PUnit.unit) x f z
def Mj (x : aa) (f : aa → aK) (z : aK) : aK :=
 @aa.rec (fun _ => (aa → aK) → aK → aK) (fun _ => PUnit) (fun _ z => z) (fun _ _ z => z) (fun _ _ _ z => z) (fun _ _ _ z => z) (fun _ z => z) (fun p o f z => f (.ptr p o)) (fun _ z => z) (fun _ _ _ _ _ z => z) (fun _ z => z) (fun _ _ z => z) (fun _ z => z) (fun g a b _ _ f z => f (.func g a b)) (fun _ z => z) (fun _ _ _ _ z => z) (fun _ _ _ z => z) (fun _ _ _ z => z) (fun _ _ z => z) (fun _ _ z => z) (fun _ _ _ _ z => z) (fun _ z => z) (fun _ _ z => z) PUnit.unit (fun _ _ _ _ => PUnit.unit) x f z
def F4 (x : aa) (f : Bool → aK) (no z : aK) : aK :=
 @aa.rec (fun _ => (Bool → aK) → aK → aK → aK) (fun _ => PUnit) (fun f no z => z) (fun b f no z => f b) (fun _ _ f no z => z) (fun _ _ f no z => z) (fun f no z => z) (fun _ _ f no z => z) (fun f no z => z) (fun _ _ _ _ f no z => z) (fun f no z => z) (fun _ f no z => z) (fun f no z => z) (fun _ _ _ _ _ f no z => z) (fun f no z => z) (fun _ _ _ f no z => z) (fun _ _ f no z => z) (fun _ _ f no z => no) (fun _ f no z => z) (fun _ f no z => z) (fun _ _ _ f no z => z) (fun f no z => z) (fun _ f no z => z) PUnit.unit (fun _ _ _ _ => PUnit.unit) x f no z
def lD (x : aa) (f : aa → aK) : aK :=
 @aa.rec (fun _ => (aa → aK) → aK) (fun _ => PUnit) (fun f => f .bad) (fun b f => f (.bool b)) (fun k n f => f (.int k n)) (fun n c f => f (.str n c)) (fun f => f .gi) (fun p o f => f (.ptr p o)) (fun f => f .aC) (fun p o l c f => f (.slice p o l c)) (fun f => f .mG) (fun p f => f (.map p)) (fun f => f .nj) (fun g a b _ _ f => f (.func g a b)) (fun f => f .iD) (fun t v _ f => f (.iface t v)) (fun l _ f => f (.agg l)) (fun l _ f => f (.tuple l)) (fun k f => f (.yield k)) (fun k f => f (.mark k)) (fun k lo hi f => f (.Df k lo hi)) (fun f => f .empty) (fun k f => f (.rest k)) PUnit.unit (fun _ _ _ _ => PUnit.unit) x f
def jB (b : Bool) (f : Bool → aK) : aK := @Bool.rec (fun _ => aK) (f false) (f true) b
def cR (n : Nat) (k : Nat → aK) : aK := @Nat.rec (fun _ => aK) (k 0) (fun m _ => k (Nat.succ m)) n
def fM (b : Bool) (t e : aK) : aK := @Bool.rec (fun _ => aK) e t b
/-! ## Lists -/
def tZ (l : Sl) (d : aa) (t : Nat) : aa :=
 @List.rec (Nat × aa) (fun _ => aa → Nat → aa) (fun d _ => d) (fun p _ ih d t => @Bool.rec (fun _ => aa) (ih d t) p.2 (Nat.beq p.1 t)) l d t
def Bb (l : Sl) (key : Nat) (v : aa) (k : Sl → aK) : aK :=
 @List.rec (Nat × aa) (fun _ => Nat → aa → (Sl → aK) → aK) (fun key v k => k [(key, v)])
  (fun p t ih key v k => @Bool.rec (fun _ => aK) (ih key v fun r => k (p :: r)) (k ((key, v) :: t)) (Nat.beq p.1 key)) l key v k
def J2 (l : List aa) (n : Nat) (f : aa → aK) (z : aK) : aK :=
 @List.rec aa (fun _ => Nat → (aa → aK) → aK → aK) (fun _ _ z => z) (fun v _ ih n f z => @Nat.rec (fun _ => aK) (f v) (fun m _ => ih m f z) n) l n f z
def EI (l : List aa) (n : Nat) (k : List aa → aK) (z : aK) : aK :=
 @List.rec aa (fun _ => Nat → (List aa → aK) → aK → aK) (fun n k z => @Nat.rec (fun _ => aK) (k []) (fun _ _ => z) n)
  (fun v _ ih n k z => @Nat.rec (fun _ => aK) (k []) (fun m _ => ih m (fun t => k (v :: t)) z) n) l n k z
def JM (l : List aa) (n : Nat) : List aa :=
 @List.rec aa (fun _ => Nat → List aa) (fun _ => []) (fun v t ih n => @Nat.rec (fun _ => List aa) (v :: t) (fun m _ => ih m) n) l n
def yD (l : List aa) (n : Nat) (w : List aa) (k : List aa → aK) (z : aK) : aK :=
 @List.rec aa (fun _ => Nat → List aa → (List aa → aK) → aK → aK) (fun _ w k z => @List.rec aa (fun _ => aK) (k []) (fun _ _ _ => z) w)
  (fun v t ih n w k z => @Nat.rec (fun _ => aK) (@List.rec aa (fun _ => aK) (k (v :: t)) (fun x w' _ => ih 0 w' (fun r => k (x :: r)) z) w) (fun m _ => ih m w (fun r => k (v :: r)) z) n) l n w k z
def H5 (l : List aa) : Nat := @List.rec aa (fun _ => Nat) 0 (fun _ _ ih => Nat.succ ih) l
/-! ## Memory -/
def OV (t : T aG) (n : Nat) : Option aG :=
 @T.rec aG (fun _ => Nat → Option aG) (fun _ => none)
  (fun _ v _ gl gr n => @Nat.rec (fun _ => Option aG) v (fun m _ => @Bool.rec (fun _ => Option aG) (gr (Nat.div m 2)) (gl (Nat.div m 2)) (Nat.beq (Nat.mod m 2) 0)) n) t n
def qx (h : Heap) (p : Nat) (f : List aa → Nat → Bool → Bool → aK) (z : aK) : aK :=
 @Option.rec aG (fun _ => (List aa → Nat → Bool → Bool → aK) → aK → aK) (fun _ z => z)
  (fun o f z => @aG.rec (fun _ => (List aa → Nat → Bool → Bool → aK) → aK → aK) (fun l e s r f _ => f l e s r) (fun _ _ _ _ z => z) (fun _ _ z => z) (fun _ z => z) (fun _ z => z) (fun _ _ _ _ _ _ _ z => z) o f z) (OV h.t p) f z
def D8 (a : aG) (fuel : Nat) (t : T aG) (n : Nat) (k : T aG → aK) : aK :=
 @Nat.rec (fun _ => aG → T aG → Nat → (T aG → aK) → aK) (fun _ t _ k => k t)
  (fun _ ih a t n k => @T.rec aG (fun _ => aG → (aG → T aG → Nat → (T aG → aK) → aK) → Nat → (T aG → aK) → aK)
   (fun a ih n k => @Nat.rec (fun _ => aK) (k (.node .leaf (some a) .leaf)) (fun m _ => @Bool.rec (fun _ => aK) (ih a .leaf (Nat.div m 2) fun t => k (.node .leaf none t)) (ih a .leaf (Nat.div m 2) fun t => k (.node t none .leaf)) (Nat.beq (Nat.mod m 2) 0)) n)
   (fun l v r _ _ a ih n k => @Nat.rec (fun _ => aK) (k (.node l (some a) r)) (fun m _ => @Bool.rec (fun _ => aK) (ih a r (Nat.div m 2) fun t => k (.node l v t)) (ih a l (Nat.div m 2) fun t => k (.node t v r)) (Nat.beq (Nat.mod m 2) 0)) n)
   t a ih n k) fuel a t n k
def MM (h : Heap) (p : Nat) (o : aG) (k : Heap → aK) : aK := D8 o (Nat.succ p) h.t p fun t => k ⟨h.next, t⟩
def DC (h : Heap) (o : aG) (k : Nat → Heap → aK) : aK := D8 o (Nat.succ h.next) h.t h.next fun t => cR (Nat.succ h.next) fun n => k h.next ⟨n, t⟩
def zC (h : Heap) (p off : Nat) (l : List aa) (k : Heap → aK) (z : aK) : aK :=
 qx h p (fun c e s r => fM r (yD c off l (fun c => MM h p (.cells c e s true) k) z) z) z
/-! ## Operands, operations -/
inductive cT where
 | loc (t : Nat)
 | var (t : Nat)
 | val (v : aa)
def cT.get (a : cT) (loc vars : Sl) : aa := @cT.rec (fun _ => Sl → Sl → aa) (fun t loc vars => tZ loc (tZ vars .bad t) t) (fun t _ vars => tZ vars .bad t) (fun v _ _ => v) a loc vars
abbrev Kt := aa → Heap → aK
abbrev kf := Program → ah → Sl → Sl → Heap → Kt → aK → aK
def Ju (a : cT) : kf := fun P call loc vars heap k z => lD (a.get loc vars) fun v => k v heap
inductive xE where
 | mk (g : kf)
 | QZ (a : cT)
def xE.run (o : xE) : kf := @xE.rec (fun _ => kf) (fun g => g) (fun a => Ju a) o
abbrev F1 := aa → (aa → aK) → aK → aK
abbrev F2 := aa → aa → (aa → aK) → aK → aK
def aI (P : Program) (m : Nat) (x : Operand) : cT := match x with
 | .tmp t => ae (bit m t) (.var t) (.loc t)
 | x => .val (Env.eval P ⟨[], []⟩ x)
def bF (P : Program) (m : Nat) (loc vars : Sl) (x : Operand) : aa := (aI P m x).get loc vars
def Iv (r : Option (qD × Heap)) (k : Kt) (z : aK) : aK :=
 @Option.rec (qD × Heap) (fun _ => Kt → aK → aK) (fun _ z => z) (fun r k z => @qD.rec (fun _ => Heap → Kt → aK → aK) (fun v h k _ => lD v fun v => k v h) (fun _ _ _ z => z) r.1 r.2 k z) r k z
def px (r : Option Out) (call : ah) (k : Kt) (z : aK) : aK :=
 @Option.rec Out (fun _ => ah → Kt → aK → aK) (fun _ _ z => z) (fun o call k z => @Out.rec (fun _ => ah → Kt → aK → aK) (fun v h _ k _ => force v fun v => k v h) (fun f args h call k z => Iv (call f args h) k z)
  (fun _ _ _ _ _ z => z) (fun _ _ _ z => z) (fun _ _ _ _ z => z) o call k z) r call k z
def cB (m : Nat) (o : Oper) : kf := fun P call loc vars heap k z => px (Qj P (bF P m loc vars) heap o) call k z
def Jt (c a b : cT) : kf := fun P call loc vars heap k z => sQ (c.get loc vars) (fun t => fM t (lD (a.get loc vars) fun v => k v heap) (lD (b.get loc vars) fun v => k v heap)) z
def Fq (a : cT) : kf := fun P call loc vars heap k z => nO (a.get loc vars) (fun p o => qx heap p (fun l _ _ _ => J2 l o (fun v => k v heap) z) z) z
def Fp (n : Nat) (a : cT) : kf := fun P call loc vars heap k z => nO (a.get loc vars) (fun p o => qx heap p (fun l _ _ _ => EI (JM l o) n (fun l => k (.agg l) heap) z) z) z
def Fo (n : Nat) (a v : cT) : kf := fun P call loc vars heap k z =>
 nO (a.get loc vars) (fun p o => onCells (v.get loc vars) (fun l => fM (Nat.beq (H5 l) n) (zC heap p o l (fun h => k bw h) z) z) z) z
def Ft (l : List aa) (e : Nat) : kf := fun P call loc vars heap k z => DC heap (.cells l e false true) fun p h => k (.ptr p 0) h
def Mp (e : Nat) (a : cT) : kf := fun P call loc vars heap k z => onCells (a.get loc vars) (fun l => DC heap (.cells l e false true) fun p h => k (.ptr p 0) h) z
def Qr (f : F1) (m : Nat) (o : Oper) (a : cT) : kf := fun P call loc vars heap k z => f (a.get loc vars) (fun v => k v heap) (cB m o P call loc vars heap k z)
def go2 (f : F2) (m : Nat) (o : Oper) (a b : cT) : kf := fun P call loc vars heap k z => f (a.get loc vars) (b.get loc vars) (fun v => k v heap) (cB m o P call loc vars heap k z)
def BQ (cnt n : Nat) (a i : cT) : kf := fun P call loc vars heap k z =>
 mW (i.get loc vars) (fun _ i => nO (a.get loc vars) (fun p o => fM (Nat.blt i cnt) (cR (Nat.add o (Nat.mul i n)) fun q => k (.ptr p q) heap) z) z) z
def BP (n : Nat) (a i : cT) : kf := fun P call loc vars heap k z =>
 mW (i.get loc vars) (fun _ i => F3 (a.get loc vars) (fun p o len => fM (Nat.blt i len) (cR (Nat.add o (Nat.mul i n)) fun q => k (.ptr p q) heap) z) z) z
def BR (n : Nat) (a : cT) : kf := fun P call loc vars heap k z => nO (a.get loc vars) (fun p o => cR (Nat.add o n) fun q => k (.ptr p q) heap) z
def BO (a i : cT) : kf := fun P call loc vars heap k z =>
 mW (i.get loc vars) (fun _ i => yG (a.get loc vars) (fun n c => fM (Nat.blt i n) (cR (gm n c i) fun b => k (.int .u8 (Int.ofNat b)) heap) z) z) z
def Jv (a : cT) : kf := fun P call loc vars heap k z => yG (a.get loc vars) (fun n _ => k (.int .i64 (Int.ofNat n)) heap) z
def Jw (a : cT) : kf := fun P call loc vars heap k z => Mk (a.get loc vars) (fun n => k (.int .i64 (Int.ofNat n)) heap) z
def Mo (a : cT) : kf := fun P call loc vars heap k z => Mj (a.get loc vars) (fun v => k v heap) z
def Jx (kd : IntKind) (m : Nat) (o : Oper) (a : cT) : kf := fun P call loc vars heap k z =>
 mW (a.get loc vars) (fun _ n => fM (Nat.ble n (aH kd)) (k (.int kd (Int.ofNat n)) heap) (cB m o P call loc vars heap k z)) (cB m o P call loc vars heap k z)
def yU (a : cT) (i : Nat) : kf := fun P call loc vars heap k z => zU (a.get loc vars) (fun l => J2 l i (fun v => lD v fun v => k v heap) z) z
def FK (l : List cT) (loc vars : Sl) (k : List aa → aK) : aK :=
 @List.rec cT (fun _ => Sl → Sl → (List aa → aK) → aK) (fun _ _ k => k []) (fun a _ ih loc vars k => lD (a.get loc vars) fun v => ih loc vars fun r => k (v :: r)) l loc vars k
def Jy (f : Nat) (args : List cT) : kf := fun P call loc vars heap k z => FK args loc vars fun vs => Iv (call f vs heap) k z
def C1 (l : List (Nat × Nat × cT)) (loc vars : Sl) (cells : List aa) (k : List aa → aK) (z : aK) : aK :=
 @List.rec (Nat × Nat × cT) (fun _ => Sl → Sl → List aa → (List aa → aK) → aK → aK) (fun _ _ cells k _ => k cells)
  (fun p _ ih loc vars cells k z => onCells (p.2.2.get loc vars) (fun v => fM (Nat.beq p.2.1 0) z (fM (Nat.beq (H5 v) p.2.1) (yD cells p.1 v (fun c => ih loc vars c k z) z) z)) z) l loc vars cells k z
def Fs (parts : List (Nat × Nat × cT)) (zl : List aa) : kf := fun P call loc vars heap k z => C1 parts loc vars zl (fun cs => k (.agg cs) heap) z
def BS (parts : List (Nat × Nat × cT)) (zl : List aa) (e len : Nat) : kf := fun P call loc vars heap k z =>
 C1 parts loc vars zl (fun cs => DC heap (.cells cs e false true) fun p h => k (.slice p 0 len (some len)) h) z
/-! ## Numbers -/
def Fa (x y : aa) (g : IntKind → Nat → Nat → aK) (z : aK) : aK :=
 mW x (fun kx m => mW y (fun ky n => fM (Nat.beq (aH kx) (aH ky)) (g kx m n) z) z) z
def Py : F2 := fun x y f z => Fa x y (fun k m n => cR (Nat.add m n) fun s => fM (Nat.ble s (aH k)) (f (.int k (Int.ofNat s))) z) z
def On : F2 := fun x y f z => Fa x y (fun k m n => fM (Nat.ble n m) (fM (Nat.ble m (aH k)) (cR (Nat.sub m n) fun s => f (.int k (Int.ofNat s))) z) z) z
def OO : F2 := fun x y f z => Fa x y (fun k m n => cR (Nat.mul m n) fun s => fM (Nat.ble s (aH k)) (f (.int k (Int.ofNat s))) z) z
def OP : F2 := fun x y f z => Fa x y (fun _ m n => jB (Nat.blt m n) fun b => f (.bool b)) z
def OQ : F2 := fun x y f z => Fa x y (fun _ m n => jB (Nat.ble m n) fun b => f (.bool b)) z
def OU : F2 := fun x y f z => Fa x y (fun _ m n => jB (Nat.blt n m) fun b => f (.bool b)) z
def OX : F2 := fun x y f z => Fa x y (fun _ m n => jB (Nat.ble n m) fun b => f (.bool b)) z
def P2 : F2 := fun x y f z => Fa x y (fun _ m n => jB (Nat.beq m n) fun b => f (.bool b)) z
def OJ : F2 := fun x y f z => Fa x y (fun _ m n => jB (Nat.beq m n) fun b => f (.bool (ae b false true))) z
def Pw : F2 := fun x y f z => Fa x y (fun k m n => fM (Nat.ble m (aH k)) (fM (Nat.ble n (aH k)) (cR (Nat.land m n) fun s => f (.int k (Int.ofNat s))) z) z) z
def QY : F2 := fun x y f z => Fa x y (fun k m n => fM (Nat.ble m (aH k)) (fM (Nat.ble n (aH k)) (cR (Nat.lor m n) fun s => f (.int k (Int.ofNat s))) z) z) z
def Ih : F2 := fun x y f z => yG x (fun n c => yG y (fun m d => jB (vM n c m d) fun b => f (.bool b)) z) z
def OF : F1 := fun x f z => sQ x (fun b => fM b (f (.bool false)) (f (.bool true))) z
def P7 : F1 := fun x f z => mW x (fun k n => fM (Nat.blt 3 (gZ k)) (fM (Nat.ble n (aH k)) (cR (Nat.sub (aH k) n) fun s => f (.int k (Int.ofNat s))) z) z) z
/-! ## Regions whose order is fixed -/
inductive ka where
 | no
 | on (a : cT) (want : Bool)
 | stuck
def EE (g : ka) (loc vars : Sl) (yes no z : aK) : aK :=
 @ka.rec (fun _ => Sl → Sl → aK → aK → aK → aK) (fun _ _ yes _ _ => yes) (fun a w loc vars yes no z => F4 (a.get loc vars) (fun b => fM (ae w b (ae b false true)) yes no) no z) (fun _ _ _ _ z => z) g loc vars yes no z
inductive Aw where
 | none
 | loc (d : Nat)
 | var (d : Nat)
abbrev RK := Program → ah → Sl → Sl → Heap → (Sl → Heap → aK) → aK → aK
def Gm (ds : Aw) (v : aa) (ih : RK) : RK := @Aw.rec (fun _ => aa → RK → RK) (fun _ ih => ih) (fun d v ih P call loc vars heap k z => ih P call ((d, v) :: loc) vars heap k z)
 (fun d v ih P call loc vars heap k z => Bb vars d v fun vars => ih P call loc vars heap k z) ds v ih
inductive ij where
 | nil
 | cons (g : ka) (ds : Aw) (op : xE) (rest : ij)
 | opL (d : Nat) (op : xE) (rest : ij)
 | opV (d : Nat) (op : xE) (rest : ij)
 | Qo (a : cT) (d : Nat) (rest : ij)
 | Qn (a : cT) (d : Nat) (rest : ij)
def zK (r : ij) : RK :=
 @ij.rec (fun _ => RK) (fun _ _ _ vars heap k _ => k vars heap)
  (fun g ds op _ ih P call loc vars heap k z => EE g loc vars (op.run P call loc vars heap (fun v h => Gm ds v ih P call loc vars h k z) z) (Gm ds bw ih P call loc vars heap k z) z)
  (fun d op _ ih P call loc vars heap k z => op.run P call loc vars heap (fun v h => ih P call ((d, v) :: loc) vars h k z) z)
  (fun d op _ ih P call loc vars heap k z => op.run P call loc vars heap (fun v h => Bb vars d v fun vars => ih P call loc vars h k z) z)
  (fun a d _ ih P call loc vars heap k z => lD (a.get loc vars) fun v => ih P call ((d, v) :: loc) vars heap k z)
  (fun a d _ ih P call loc vars heap k z => lD (a.get loc vars) fun v => Bb vars d v fun vars => ih P call loc vars heap k z) r
def MH (d : Nat) (op : xE) (rest : ij) : ij := @xE.rec (fun _ => Nat → xE → ij → ij) (fun _ d op rest => .opL d op rest) (fun a d _ rest => .Qo a d rest) op d op rest
def MG (d : Nat) (op : xE) (rest : ij) : ij := @xE.rec (fun _ => Nat → xE → ij → ij) (fun _ d op rest => .opV d op rest) (fun a d _ rest => .Qn a d rest) op d op rest
def JV (g : ka) (ds : Aw) (op : xE) (rest : ij) : ij :=
 @ka.rec (fun _ => ka → Aw → xE → ij → ij) (fun g ds op rest => @Aw.rec (fun _ => ka → Aw → xE → ij → ij) (fun g ds op rest => .cons g ds op rest) (fun d _ _ op rest => MH d op rest) (fun d _ _ op rest => MG d op rest) ds g ds op rest)
  (fun _ _ g ds op rest => .cons g ds op rest) (fun g ds op rest => .cons g ds op rest) g g ds op rest
theorem JU (g : ka) (ds : Aw) (op : xE) (rest : ij) : zK (JV g ds op rest) = zK (.cons g ds op rest) := by
 cases g <;> cases ds <;> cases op <;> rfl
end
end Go.HL
namespace Go.HL
open Go
noncomputable section
/-! ## What the recursors do -/
def oR {α : Type} (o : Option α) (f : α → aK) (z : aK) : aK := match o with | some a => f a | none => z
@[simp] theorem fg {α : Type} (a : α) (f : α → aK) (z : aK) : oR (some a) f z = f a := rfl
@[simp] theorem PH {α : Type} (f : α → aK) (z : aK) : oR (none : Option α) f z = z := rfl
theorem lC (x : aa) (f : aa → aK) : lD x f = f x := by cases x <;> rfl
@[simp] theorem fI (t e : aK) : fM true t e = t := rfl
@[simp] theorem sZ (t e : aK) : fM false t e = e := rfl
theorem sr (b : Bool) (f : Bool → aK) : jB b f = f b := by cases b <;> rfl
theorem eM (n : Nat) (k : Nat → aK) : cR n k = k n := by cases n <;> rfl
theorem wv (l : Sl) : ∀ (d : aa) (t : Nat), tZ l d t = assoc l d t := by
 induction l with
 | nil => intro d t; rfl
 | cons p l ih =>
  intro d t
  show (@Bool.rec (fun _ => aa) (tZ l d t) p.2 (Nat.beq p.1 t)) = @Bool.rec (fun _ => aa) (assoc l d t) p.2 (Nat.beq p.1 t)
  rw [ih]
theorem EX (l : Sl) (key : Nat) (v : aa) : ∀ (k : Sl → aK), Bb l key v k = eP l key v k := by
 induction l with
 | nil => intro k; rfl
 | cons p l ih =>
  intro k
  show (@Bool.rec (fun _ => aK) (Bb l key v fun r => k (p :: r)) (k ((key, v) :: l)) (Nat.beq p.1 key)) = @Bool.rec (fun _ => aK) (eP l key v fun r => k (p :: r)) (k ((key, v) :: l)) (Nat.beq p.1 key)
  rw [ih]
theorem F7 (l : List aa) : ∀ (n : Nat) (f : aa → aK) (z : aK), J2 l n f z = oR (nth l n) f z := by
 induction l with
 | nil => intro n f z; rfl
 | cons v l ih => intro n f z; cases n with
  | zero => rfl
  | succ m => exact ih m f z
theorem Ib (l : List aa) : ∀ (n : Nat) (k : List aa → aK) (z : aK), EI l n k z = oR (fp l n some) k z := by
 induction l with
 | nil => intro n k z; cases n <;> rfl
 | cons v l ih => intro n k z; cases n with
  | zero => rfl
  | succ m =>
   show EI l m (fun t => k (v :: t)) z = oR (fp l m fun t => some (v :: t)) k z
   rw [ih m, bz, bz]
   split <;> rfl
theorem JL (l : List aa) : ∀ n, JM l n = jS l n := by
 induction l with
 | nil => intro n; rfl
 | cons v l ih => intro n; cases n with
  | zero => rfl
  | succ m => exact ih m
theorem Be (l : List aa) : ∀ (n : Nat) (w : List aa) (k : List aa → aK) (z : aK), yD l n w k z = oR (fV l n w some) k z := by
 induction l with
 | nil => intro n w k z; cases w <;> rfl
 | cons v l ih => intro n w k z; cases n with
  | zero => cases w with
   | nil => rfl
   | cons x w =>
    show yD l 0 w (fun r => k (x :: r)) z = oR (fV l 0 w fun r => some (x :: r)) k z
    rw [ih 0, dn, dn]
    split <;> rfl
  | succ m =>
   show yD l m w (fun r => k (v :: r)) z = oR (fV l m w fun r => some (v :: r)) k z
   rw [ih m, dn, dn]
   split <;> rfl
theorem A4 (l : List aa) : H5 l = l.length := by
 induction l with
 | nil => rfl
 | cons v l ih => show Nat.succ (H5 l) = _; rw [ih]; rfl
theorem Ll (t : T aG) (n : Nat) : OV t n = t.get n := rfl
theorem tw (h : Heap) (p : Nat) (f : List aa → Nat → Bool → Bool → aK) (z : aK) : qx h p f z = oR (h.cells p) (fun o => f o.1 o.2.1 o.2.2.1 o.2.2.2) z := by
 unfold qx Heap.cells Heap.get
 rw [Ll]
 cases h.t.get p with
 | none => rfl
 | some o => cases o <;> rfl
theorem ER (a : aG) (fuel : Nat) : ∀ (t : T aG) (n : Nat) (k : T aG → aK), D8 a fuel t n k = k (T.mr a fuel t n) := by
 induction fuel with
 | zero => intro t n k; rfl
 | succ f ih =>
  intro t n k
  cases t with
  | leaf => cases n with
   | zero => rfl
   | succ m =>
    show (@Bool.rec (fun _ => aK) (D8 a f .leaf (m / 2) fun t => k (.node .leaf none t)) (D8 a f .leaf (m / 2) fun t => k (.node t none .leaf)) (Nat.beq (m % 2) 0)) = k (@Bool.rec (fun _ => T aG) (T.node .leaf none (T.mr a f .leaf (m / 2))) (T.node (T.mr a f .leaf (m / 2)) none .leaf) (Nat.beq (m % 2) 0))
    rw [ih, ih]
    cases Nat.beq (m % 2) 0 <;> rfl
  | node l v r => cases n with
   | zero => rfl
   | succ m =>
    show (@Bool.rec (fun _ => aK) (D8 a f r (m / 2) fun t => k (.node l v t)) (D8 a f l (m / 2) fun t => k (.node t v r)) (Nat.beq (m % 2) 0)) = k (@Bool.rec (fun _ => T aG) (T.node l v (T.mr a f r (m / 2))) (T.node (T.mr a f l (m / 2)) v r) (Nat.beq (m % 2) 0))
    rw [ih, ih]
    cases Nat.beq (m % 2) 0 <;> rfl
theorem KM (h : Heap) (p : Nat) (o : aG) (k : Heap → aK) : MM h p o k = k (h.put p o) := by unfold MM; rw [ER]; rfl
theorem zZ (h : Heap) (o : aG) (k : Nat → Heap → aK) : DC h o k = k h.next (h.new o) := by unfold DC; rw [ER, eM]; rfl
theorem Gc (h : Heap) (p off : Nat) (l : List aa) (k : Heap → aK) (z : aK) : zC h p off l k z = oR (iS h p off l) k z := by
 unfold zC iS
 rw [tw]
 cases h.cells p with
 | none => rfl
 | some o =>
  simp only [fg, obS]
  cases o.2.2.2 with
  | false => rfl
  | true =>
   simp only [fI, bcT]
   rw [Be, dn, dn]
   split
   ·simp only [fg]; rw [KM]
   ·rfl
theorem cT.Fu (t : Nat) (loc vars : Sl) : (cT.loc t).get loc vars = assoc loc (assoc vars .bad t) t := by
 show tZ loc (tZ vars .bad t) t = _
 rw [wv, wv]
theorem cT.Lk (t : Nat) (loc vars : Sl) : (cT.var t).get loc vars = assoc vars .bad t := by
 show tZ vars .bad t = _
 rw [wv]
section
variable {call : ah} {k : Kt} {z : aK}
@[simp] theorem O1 : px none call k z = z := rfl
@[simp] theorem cf (v : aa) (h : Heap) : px (some (.val v h)) call k z = k v h := by
 show force v (fun v => k v h) = _
 rw [force_eq]
@[simp] theorem pZ (f : Nat) (args : List aa) (h : Heap) : px (some (.enter f args h)) call k z = Iv (call f args h) k z := rfl
theorem EU (r : Option (qD × Heap)) : Iv r k z = match r with | some (.ret v, h) => k v h | _ => z := by
 rcases r with _ | ⟨_ | _, h⟩ <;> first | rfl | skip
 exact lC _ _
theorem fe {α : Type} (o : Option α) (f : α → Option Out) : px (ob o f) call k z = oR o (fun a => px (f a) call k z) z := by cases o <;> rfl
theorem mA (b : Bool) (x : Option Out) : px (ae b x none) call k z = fM b (px x call k z) z := by cases b <;> rfl
theorem oS (h : Heap) (v : Option aa) : px (val h v) call k z = oR v (fun v => k v h) z := by
 cases v with
 | none => rfl
 | some v => exact cf _ _
end
theorem IZ {α β : Type} (o : Option α) (f : α → Option β) (g : β → aK) (z : aK) : oR (ob o f) g z = oR o (fun a => oR (f a) g z) z := by cases o <;> rfl
theorem nN (x : aa) (f : Nat → Nat → aK) (z : aK) : nO x f z = oR x.dI (fun a => f a.1 a.2) z := by cases x <;> rfl
theorem yH (x : aa) (f : Bool → aK) (z : aK) : sQ x f z = oR x.isBool f z := by cases x <;> rfl
theorem Dx (x : aa) (f : List aa → aK) (z : aK) : zU x f z = oR x.isTuple f z := by cases x <;> rfl
theorem q0 (x : aa) (f : List aa → aK) (z : aK) : onCells x f z = oR x.cells f z := by cases x <;> rfl
theorem r7 (x : aa) (f : Nat → aK) (z : aK) : mW x (fun _ n => f n) z = oR x.isNat f z := by
 cases x <;> first | rfl | skip
 rename_i kd n
 cases n <;> rfl
/-! ## Numbers -/
theorem BG {k j : IntKind} (h : Nat.beq (aH k) (aH j) = true) : k = j := by
 cases k <;> cases j <;> first | rfl | (exact absurd h (by decide))
theorem xH (k : IntKind) : sameKind k k = true := by cases k <;> rfl
def iP (f : F2) (op : BinOp) (t : TypeId) (P : Program) : Prop := ∀ x y k z, f x y k z = z ∨ ∃ v, df P op t x y = some v ∧ f x y k z = k v
theorem lK {g : (aa → aK) → aK → IntKind → Nat → Nat → aK} {op : BinOp} {t : TypeId} {P : Program} (hs : op ≠ .shl) (hr : op ≠ .shr)
  (h : ∀ f z k m n, g f z k m n = z ∨ ∃ v, jb op k (Int.ofNat m) (Int.ofNat n) = some v ∧ g f z k m n = f v) : iP (fun x y f z => Fa x y (g f z) z) op t P := by
 intro x y f z
 cases x <;> try exact .inl rfl
 rename_i kx a
 cases a <;> try exact .inl rfl
 rename_i m
 cases y <;> try exact .inl rfl
 rename_i ky b
 cases b <;> try exact .inl rfl
 rename_i n
 show fM (Nat.beq (aH kx) (aH ky)) (g f z kx m n) z = z ∨ ∃ v, _ ∧ fM (Nat.beq (aH kx) (aH ky)) (g f z kx m n) z = f v
 cases hb : Nat.beq (aH kx) (aH ky) with
 | false => exact .inl rfl
 | true =>
  obtain rfl := BG hb
  rcases h f z kx m n with h | ⟨v, h1, h2⟩
  ·exact .inl h
  ·refine .inr ⟨v, ?_, h2⟩
   show (match op with | .shl => _ | .shr => _ | op => ae (sameKind kx kx) (jb op kx (Int.ofNat m) (Int.ofNat n)) none) = _
   rw [xH]
   split <;> first | exact absurd rfl hs | exact absurd rfl hr | exact h1
theorem oI {k : IntKind} {n : Nat} (h : Nat.ble n (aH k) = true) : cx k (Int.ofNat n) = Int.ofNat n := by
 unfold cx
 show ae (Nat.ble n (aH k)) _ _ = _
 rw [h]; rfl
theorem AB {k : IntKind} {n : Nat} (h : n ≤ aH k) : k.wrap (Int.ofNat n) = Int.ofNat n := by
 have h2 : ((n : Int)) ≤ (aH k : Int) := by exact_mod_cast h
 cases k <;> simp only [aH] at h2 <;> simp only [IntKind.wrap, IntKind.bits, IntKind.signed, Int.ofNat_eq_natCast] <;> simp <;> omega
theorem zA {k : IntKind} {n : Nat} (h : n ≤ aH k) : pA k (Int.ofNat n) = n := by
 have h2 : ((n : Int)) ≤ (aH k : Int) := by exact_mod_cast h
 cases k <;> simp only [aH] at h2 <;> simp only [pA, IntKind.bits, Int.ofNat_eq_natCast] <;> (have h3 : (0:Int) ≤ n := by omega) <;> (show Int.toNat ((n : Int) % _) = n) <;> (rw [Int.emod_eq_of_lt h3 (by omega)]; rfl)
theorem u0 (k : IntKind) : ∃ j, aH k + 1 = 2 ^ j := by
 cases k
 ·exact ⟨7, rfl⟩
 ·exact ⟨15, rfl⟩
 ·exact ⟨31, rfl⟩
 ·exact ⟨63, rfl⟩
 ·exact ⟨8, rfl⟩
 ·exact ⟨16, rfl⟩
 ·exact ⟨32, rfl⟩
 ·exact ⟨64, rfl⟩
theorem HT (t : TypeId) (P : Program) : iP Py .add t P := by
 refine lK (g := fun f z k m n => cR (Nat.add m n) fun s => fM (Nat.ble s (aH k)) (f (.int k (Int.ofNat s))) z) (by simp) (by simp) fun f z k m n => ?_
 simp only [eM]
 cases hb : Nat.ble (Nat.add m n) (aH k) with
 | false => exact .inl rfl
 | true => exact .inr ⟨_, congrArg (fun i => some (aa.int k i)) (oI hb), rfl⟩
theorem GR (t : TypeId) (P : Program) : iP OO .mul t P := by
 refine lK (g := fun f z k m n => cR (Nat.mul m n) fun s => fM (Nat.ble s (aH k)) (f (.int k (Int.ofNat s))) z) (by simp) (by simp) fun f z k m n => ?_
 simp only [eM]
 cases hb : Nat.ble (Nat.mul m n) (aH k) with
 | false => exact .inl rfl
 | true => exact .inr ⟨_, congrArg (fun i => some (aa.int k i)) (oI hb), rfl⟩
theorem G9 (t : TypeId) (P : Program) : iP On .sub t P := by
 refine lK (g := fun f z k m n => fM (Nat.ble n m) (fM (Nat.ble m (aH k)) (cR (Nat.sub m n) fun s => f (.int k (Int.ofNat s))) z) z) (by simp) (by simp) fun f z k m n => ?_
 simp only [eM]
 cases hb : Nat.ble n m with
 | false => exact .inl rfl
 | true =>
  cases hc : Nat.ble m (aH k) with
  | false => exact .inl rfl
  | true =>
   refine .inr ⟨_, ?_, rfl⟩
   have h1 : n ≤ m := Nat.le_of_ble_eq_true hb
   have h2 : m ≤ aH k := Nat.le_of_ble_eq_true hc
   have e : Int.sub (Int.ofNat m) (Int.ofNat n) = Int.ofNat (Nat.sub m n) := by
    show (m : Int) - (n : Int) = ((m - n : Nat) : Int)
    omega
   show some (aa.int k (cx k (Int.sub (Int.ofNat m) (Int.ofNat n)))) = _
   rw [e, oI]
   exact Nat.ble_eq_true_of_le (Nat.le_trans (Nat.sub_le _ _) h2)
theorem ou {op : BinOp} (c : Nat → Nat → Bool) (hs : op ≠ .shl) (hr : op ≠ .shr) (h : ∀ k m n, jb op k (Int.ofNat m) (Int.ofNat n) = some (.bool (c m n))) (t : TypeId) (P : Program) :
  iP (fun x y f z => Fa x y (fun _ m n => jB (c m n) fun b => f (.bool b)) z) op t P := by
 refine lK (g := fun f z k m n => jB (c m n) fun b => f (.bool b)) hs hr fun f z k m n => ?_
 simp only [sr]
 exact .inr ⟨_, h k m n, rfl⟩
theorem Fl (m n : Nat) : HX (Int.ofNat m) (Int.ofNat n) = Nat.blt m n := by
 show ae (Nat.ble n m) false true = _
 rw [eX, eW, bcE]
 by_cases h : n ≤ m
 ·rw [decide_eq_true h, decide_eq_false (by omega)]; rfl
 ·rw [decide_eq_false h, decide_eq_true (by omega)]; rfl
theorem GS (t : TypeId) (P : Program) : iP OP .lss t P := ou _ (by simp) (by simp) (fun _ m n => by simp only [jb, Fl]) t P
theorem H4 (t : TypeId) (P : Program) : iP OQ .leq t P := ou _ (by simp) (by simp) (fun _ m n => rfl) t P
theorem Hg (t : TypeId) (P : Program) : iP OU .gtr t P := ou (fun m n => Nat.blt n m) (by simp) (by simp) (fun _ m n => by simp only [jb, Fl]) t P
theorem Hh (t : TypeId) (P : Program) : iP OX .geq t P := ou (fun m n => Nat.ble n m) (by simp) (by simp) (fun _ m n => rfl) t P
theorem Hm (t : TypeId) (P : Program) : iP P2 .eql t P := ou _ (by simp) (by simp) (fun _ m n => rfl) t P
theorem GP (t : TypeId) (P : Program) : iP OJ .neq t P := by
 refine lK (g := fun f z k m n => jB (Nat.beq m n) fun b => f (.bool (ae b false true))) (by simp) (by simp) fun f z k m n => ?_
 simp only [sr]
 exact .inr ⟨_, rfl, rfl⟩
theorem xy {op : BinOp} (c : Nat → Nat → Nat) (hs : op ≠ .shl) (hr : op ≠ .shr) (h : ∀ k m n, jb op k (Int.ofNat m) (Int.ofNat n) = some (.int k (k.wrap (Int.ofNat (c (pA k (Int.ofNat m)) (pA k (Int.ofNat n)))))))
  (hc : ∀ j m n, m < 2 ^ j → n < 2 ^ j → c m n < 2 ^ j) (t : TypeId) (P : Program) :
  iP (fun x y f z => Fa x y (fun k m n => fM (Nat.ble m (aH k)) (fM (Nat.ble n (aH k)) (cR (c m n) fun s => f (.int k (Int.ofNat s))) z) z) z) op t P := by
 refine lK (g := fun f z k m n => fM (Nat.ble m (aH k)) (fM (Nat.ble n (aH k)) (cR (c m n) fun s => f (.int k (Int.ofNat s))) z) z) hs hr fun f z k m n => ?_
 simp only [eM]
 cases hb : Nat.ble m (aH k) with
 | false => exact .inl rfl
 | true =>
  cases hd : Nat.ble n (aH k) with
  | false => exact .inl rfl
  | true =>
   refine .inr ⟨_, ?_, rfl⟩
   have h1 : m ≤ aH k := Nat.le_of_ble_eq_true hb
   have h2 : n ≤ aH k := Nat.le_of_ble_eq_true hd
   obtain ⟨j, hj⟩ := u0 k
   rw [h, zA h1, zA h2, AB]
   have := hc j m n (by omega) (by omega)
   omega
theorem HS (t : TypeId) (P : Program) : iP Pw .and t P := xy Nat.land (by simp) (by simp) (fun _ _ _ => rfl) (fun j m n h1 h2 => Nat.and_lt_two_pow m h2) t P
theorem IJ (t : TypeId) (P : Program) : iP QY .or t P := xy Nat.lor (by simp) (by simp) (fun _ _ _ => rfl) (fun j m n h1 h2 => Nat.or_lt_two_pow h1 h2) t P
theorem AS (t : TypeId) (P : Program) : iP Ih .eql t P := by
 intro x y f z
 cases x <;> try exact .inl rfl
 cases y <;> try exact .inl rfl
 rename_i n c m d
 exact .inr ⟨.bool (vM n c m d), rfl, sr (vM n c m d) fun b => f (.bool b)⟩
def FV (f : F1) (op : UnOp) : Prop := ∀ x k z, f x k z = z ∨ ∃ v, Ma op x = some v ∧ f x k z = k v
theorem GO : FV OF .not := by
 intro x k z
 cases x <;> try exact .inl rfl
 rename_i b
 cases b <;> exact .inr ⟨_, rfl, rfl⟩
theorem Hz : FV P7 .xor := by
 intro x f z
 cases x <;> try exact .inl rfl
 rename_i k a
 cases a <;> try exact .inl rfl
 rename_i n
 show fM (Nat.blt 3 (gZ k)) (fM (Nat.ble n (aH k)) (cR (Nat.sub (aH k) n) fun s => f (.int k (Int.ofNat s))) z) z = z ∨ ∃ v, _ ∧ fM (Nat.blt 3 (gZ k)) (fM (Nat.ble n (aH k)) (cR (Nat.sub (aH k) n) fun s => f (.int k (Int.ofNat s))) z) z = f v
 simp only [eM]
 cases hb : Nat.blt 3 (gZ k) with
 | false => exact .inl rfl
 | true =>
  cases hd : Nat.ble n (aH k) with
  | false => exact .inl rfl
  | true =>
   refine .inr ⟨_, ?_, rfl⟩
   have h2 : n ≤ aH k := Nat.le_of_ble_eq_true hd
   show some (aa.int k (k.wrap (Int.ofNat (Nat.xor (pA k (Int.ofNat n)) (Nat.sub (Nat.pow 2 k.bits) 1))))) = _
   have hk : Nat.sub (Nat.pow 2 k.bits) 1 = aH k := by cases k <;> first | rfl | (exact absurd hb (by decide))
   obtain ⟨j, hj⟩ := u0 k
   have e : Nat.xor n (aH k) = Nat.sub (aH k) n := by
    show n ^^^ aH k = aH k - n
    have h3 : aH k = 2 ^ j - 1 := by omega
    rw [h3, Nat.sub_right_comm, Nat.sub_sub]
    apply Nat.eq_of_testBit_eq
    intro i
    rw [Nat.testBit_xor, Nat.testBit_two_pow_sub_one, Nat.testBit_two_pow_sub_succ (n := j) (x := n) (by omega)]
    by_cases hi : i < j
    ·simp [hi]
    ·have : n.testBit i = false := Nat.testBit_lt_two_pow (Nat.lt_of_lt_of_le (by omega : n < 2 ^ j) (Nat.pow_le_pow_right (by omega) (by omega)))
     simp [hi, this]
   rw [zA h2, hk, e]
   exact congrArg (fun i => some (aa.int k i)) (AB (Nat.sub_le (aH k) n))
end
end Go.HL
namespace Go.HL
open Go
noncomputable section
def Ln (op : BinOp) (d : Option TypeDesc) : Option F2 := match d with
 | some (.int _) => match op with
  | .add => some Py | .sub => some On | .mul => some OO | .lss => some OP | .leq => some OQ | .gtr => some OU | .geq => some OX | .eql => some P2 | .neq => some OJ
  | .and => some Pw | .or => some QY | _ => none
 | some .string => match op with
  | .eql => some Ih
  | _ => none
 | _ => none
def Lo (op : UnOp) : Option F1 := match op with
 | .not => some OF
 | .xor => some P7
 | _ => none
def r4 (P : Program) (m : Nat) (fields : List Field) : List (Nat × Operand) → Option (List (Nat × Nat × cT))
 | [] => some []
 | p :: rest => ob (nth fields p.1) fun f => ob (r4 P m fields rest) fun l => some ((f.offset, P.cellsOf f.type, aI P m p.2) :: l)
def Ce (P : Program) (m : Nat) (o : Oper) : Option kf := match o.op with
 | .move x => some (Ju (aI P m x))
 | .assign x => some (Ju (aI P m x))
 | .pick c a b => some (Jt (aI P m c) (aI P m a) (aI P m b))
 | .load t a => ob (gH P t) fun b => some (ae b (Fp (P.cellsOf t) (aI P m a)) (Fq (aI P m a)))
 | .store t a v => ob (P.info? t) fun _ => some (Fo (P.cellsOf t) (aI P m a) (aI P m v))
 | .alloc e => ob (ag P e) fun z => some (Ft z e)
 | .box e x => some (Mp e (aI P m x))
 | .nilCheck x => some (Mo (aI P m x))
 | .binOp op t x y _ => ob (Ln op (P.underlying t)) fun f => some (go2 f m o (aI P m x) (aI P m y))
 | .unOp op _ x => ob (Lo op) fun f => some (Qr f m o (aI P m x))
 | .fieldAddr t x f => match P.underlying t with
  | some (.struct fields) => ob fields[f]? fun fd => ae (Nat.beq (P.cellsOf fd.type) 0) none (some (BR fd.offset (aI P m x)))
  | _ => none
 | .indexAddr t x i => ae (cw P t) (match P.underlying t with
  | some (.slice e) => some (BP (P.cellsOf e) (aI P m x) (aI P m i))
  | some (.array n e) => some (BQ n (P.cellsOf e) (aI P m x) (aI P m i))
  | _ => none) none
 | .index t x i => ae (cw P t) (match P.underlying t with
  | some .string => some (BO (aI P m x) (aI P m i))
  | _ => none) none
 | .convert s d x => match P.underlying d with
  | some (.int k) => ob (P.underlying s) fun _ => some (Jx k m o (aI P m x))
  | _ => none
 | .extract x i => some (yU (aI P m x) i)
 | .build t parts => ob (ag P t) fun z => match P.underlying t with
  | some (.struct fields) => ae (jj P fields.toList) (ob (r4 P m fields.toList parts.toList) fun l => some (Fs l z)) none
  | _ => none
 | .buildSlice t len parts => match P.underlying t with
  | some (.slice e) => ae (Nat.ble (Nat.mul len (P.cellsOf e)) 16777216)
    (ob (ag P e) fun z => ae (Nat.beq z.length (P.cellsOf e)) (some (BS (parts.toList.map fun p => (Nat.mul p.1 (P.cellsOf e), P.cellsOf e, aI P m p.2)) (gp len z) e len)) none) none
  | _ => none
 | .call c => match c.callee with
  | .builtin .len => match c.args.toList with
   | [x] => match c.argTypes[0]? with
    | some t => match P.underlying t with
     | some .string => some (Jv (aI P m x))
     | some (.slice _) => some (Jw (aI P m x))
     | _ => none
    | none => none
   | _ => none
  | .value (.func f) => ob P.funcs[f]? fun fn => ob fn.body fun _ => ae (fn.name == "runtime.NumGoroutine") none (ae (Nat.blt f bd) (some (Jy f (c.args.toList.map (aI P m)))) none)
  | _ => none
 | _ => none
theorem qO (m : Nat) (o : Oper) (P : Program) (call : ah) (loc vars : Sl) (heap : Heap) (k : Kt) (z : aK) : cB m o P call loc vars heap k z = px (bS P (bF P m loc vars) heap o) call k z := by
 unfold cB
 rw [MS]
theorem CD (P : Program) (m : Nat) (loc vars : Sl) : ∀ (l : List Operand) (k : List aa → aK), FK (l.map (aI P m)) loc vars k = k (l.map (bF P m loc vars))
 | [], k => rfl
 | x :: l, k => by
  show lD (bF P m loc vars x) (fun v => FK (l.map (aI P m)) loc vars fun r => k (v :: r)) = _
  rw [lC, CD P m loc vars l]
  rfl
theorem wV (loc vars : Sl) : ∀ (l : List (Nat × Nat × cT)) (cells : List aa) (k : List aa → aK) (z : aK),
  C1 l loc vars cells k z = oR (eI (l.map fun p => (p.1, p.2.1, p.2.2.get loc vars)) cells) k z
 | [], cells, k, z => rfl
 | p :: l, cells, k, z => by
  show onCells (p.2.2.get loc vars) (fun v => fM (Nat.beq p.2.1 0) z (fM (Nat.beq (H5 v) p.2.1) (yD cells p.1 v (fun c => C1 l loc vars c k z) z) z)) z = _
  simp only [List.map_cons, eI]
  rw [q0, IZ]
  congr 1
  funext v
  rw [A4]
  cases Nat.beq p.2.1 0 with
  | true => rfl
  | false =>
   simp only [sZ, bcF]
   cases Nat.beq v.length p.2.1 with
   | false => rfl
   | true =>
    simp only [fI, bcT]
    rw [Be, dn, dn]
    split
    ·simp only [fg]; exact wV loc vars l _ k z
    ·rfl
theorem vY (P : Program) (m : Nat) (loc vars : Sl) (fields : List Field) : ∀ (parts : List (Nat × Operand)) (l : List (Nat × Nat × cT)), r4 P m fields parts = some l →
  placesOf P fields (bF P m loc vars) parts = some (l.map fun p => (p.1, p.2.1, p.2.2.get loc vars))
 | [], l, e => by cases e; rfl
 | p :: rest, l, e => by
  simp only [r4] at e
  obtain ⟨f, h1, e1⟩ := ad.1 e
  obtain ⟨l', h2, e2⟩ := ad.1 e1
  cases e2
  simp only [placesOf, h1, obS, vY P m loc vars fields rest l' h2]
  rfl
section
variable {P : Program} {m : Nat} {o : Oper} {call : ah} {loc vars : Sl} {heap : Heap} {k : Kt} {z : aK}
theorem HO {op : BinOp} {t : TypeId} {c : Bool} {x y v : aa} (h : df P op t x y = some v) : kc P op t c x y = some v := by
 unfold kc
 split
 ·exfalso
  cases op <;> simp [df, wY] at h
 ·exfalso
  cases op <;> simp [df, wY, rz] at h
 ·exact h
theorem Nv {f : F2} {op : BinOp} {t : TypeId} {x y : Operand} {yt : TypeId} (ho : o.op = .binOp op t x y yt) (hf : iP f op t P) :
  go2 f m o (aI P m x) (aI P m y) P call loc vars heap k z = px (bS P (bF P m loc vars) heap o) call k z := by
 show f (bF P m loc vars x) (bF P m loc vars y) (fun v => k v heap) (cB m o P call loc vars heap k z) = _
 rw [qO]
 rcases hf (bF P m loc vars x) (bF P m loc vars y) (fun v => k v heap) (px (bS P (bF P m loc vars) heap o) call k z) with h | ⟨v, h1, h2⟩
 ·exact h
 ·rw [h2]
  simp only [bS, ho, HO h1]
  exact (cf v heap).symm
theorem Nw {f : F1} {op : UnOp} {t : TypeId} {x : Operand} (ho : o.op = .unOp op t x) (hf : FV f op) :
  Qr f m o (aI P m x) P call loc vars heap k z = px (bS P (bF P m loc vars) heap o) call k z := by
 show f (bF P m loc vars x) (fun v => k v heap) (cB m o P call loc vars heap k z) = _
 rw [qO]
 rcases hf (bF P m loc vars x) (fun v => k v heap) (px (bS P (bF P m loc vars) heap o) call k z) with h | ⟨v, h1, h2⟩
 ·exact h
 ·rw [h2]
  simp only [bS, ho, h1]
  exact (cf v heap).symm
end
theorem Hk {op : BinOp} {d : Option TypeDesc} {f : F2} (h : Ln op d = some f) (t : TypeId) (P : Program) : iP f op t P := by
 unfold Ln at h
 split at h
 ·split at h <;> cases h
  ·exact HT t P
  ·exact G9 t P
  ·exact GR t P
  ·exact GS t P
  ·exact H4 t P
  ·exact Hg t P
  ·exact Hh t P
  ·exact Hm t P
  ·exact GP t P
  ·exact HS t P
  ·exact IJ t P
 ·split at h <;> cases h
  exact AS t P
 ·cases h
theorem Hl {op : UnOp} {f : F1} (h : Lo op = some f) : FV f op := by
 unfold Lo at h
 split at h <;> cases h
 ·exact GO
 ·exact Hz
theorem JW {P : Program} {m : Nat} {o : Oper} {g : kf} (hg : Ce P m o = some g) (call : ah) (loc vars : Sl) (heap : Heap) (k : Kt) (z : aK) :
  g P call loc vars heap k z = px (bS P (bF P m loc vars) heap o) call k z := by
 unfold Ce at hg
 split at hg
 ·rename_i x hx
  cases hg
  simp only [bS, hx, cf]
  exact lC _ _
 ·rename_i x hx
  cases hg
  simp only [bS, hx, cf]
  exact lC _ _
 ·rename_i c a b hx
  cases hg
  simp only [bS, hx, fe, cf]
  show sQ (bF P m loc vars c) (fun t => fM t (lD (bF P m loc vars a) fun v => k v heap) (lD (bF P m loc vars b) fun v => k v heap)) z = _
  simp only [yH, lC]
  congr 1
  funext t
  cases t <;> rfl
 ·rename_i t a hx
  obtain ⟨b, hb, e⟩ := ad.1 hg
  cases e
  simp only [bS, hx, fe, oS, loadT, hb, obS]
  cases b with
  | false =>
   show nO (bF P m loc vars a) (fun p o => qx heap p (fun l _ _ _ => J2 l o (fun v => k v heap) z) z) z = _
   simp only [nN, tw, F7, bcF, mZ, IZ]
  | true =>
   show nO (bF P m loc vars a) (fun p o => qx heap p (fun l _ _ _ => EI (JM l o) (P.cellsOf t) (fun l => k (.agg l) heap) z) z) z = _
   simp only [nN, tw, Ib, JL, bcT, eh, IZ, fg]
 ·rename_i t a v hx
  obtain ⟨i, hi, e⟩ := ad.1 hg
  cases e
  simp only [bS, hx, fe, hi, fg, mA, cf]
  show nO (bF P m loc vars a) (fun p o => onCells (bF P m loc vars v) (fun l => fM (Nat.beq (H5 l) (P.cellsOf t)) (zC heap p o l (fun h => k bw h) z) z) z) z = _
  simp only [nN, q0, A4, Gc]
 ·rename_i e hx
  obtain ⟨zl, hz, e1⟩ := ad.1 hg
  cases e1
  simp only [bS, hx, fe, hz, fg, cf]
  exact zZ _ _ _
 ·rename_i e x hx
  cases hg
  simp only [bS, hx, fe, cf]
  show onCells (bF P m loc vars x) (fun l => DC heap (.cells l e false true) fun p h => k (.ptr p 0) h) z = _
  simp only [q0, zZ]
 ·rename_i x hx
  cases hg
  simp only [bS, hx]
  show Mj (bF P m loc vars x) (fun v => k v heap) z = _
  cases bF P m loc vars x <;> first | rfl | exact (cf _ _).symm
 ·rename_i op t x y yt hx
  obtain ⟨f, hf, e⟩ := ad.1 hg
  cases e
  exact Nv hx (Hk hf t P)
 ·rename_i op t x hx
  obtain ⟨f, hf, e⟩ := ad.1 hg
  cases e
  exact Nw hx (Hl hf)
 ·rename_i t x f hx
  split at hg
  ·rename_i fields hu
   obtain ⟨fd, hf, e⟩ := ad.1 hg
   obtain ⟨hz, e1⟩ := au.1 e
   cases e1
   simp only [bS, hx, hu, fe, hf, fg, hz, bcF, cf]
   show nO (bF P m loc vars x) (fun p o => cR (Nat.add o fd.offset) fun q => k (.ptr p q) heap) z = _
   simp only [nN, eM]
  ·cases hg
 ·rename_i t x i hx
  obtain ⟨he, e⟩ := af.1 hg
  simp only [bS, hx, he, bcT, fe]
  split at e
  ·rename_i el hu
   cases e
   simp only [hu]
   show mW (bF P m loc vars i) (fun _ i => F3 (bF P m loc vars x) (fun p o len => fM (Nat.blt i len) (cR (Nat.add o (Nat.mul i (P.cellsOf el))) fun q => k (.ptr p q) heap) z) z) z = _
   rw [r7]
   congr 1
   funext i
   cases bF P m loc vars x <;> first | rfl | skip
   simp only [mA, cf]
   rename_i p o len cap
   show fM (Nat.blt i len) (cR (Nat.add o (Nat.mul i (P.cellsOf el))) fun q => k (.ptr p q) heap) z = _
   rw [eM]
  ·rename_i n el hu
   cases e
   simp only [hu]
   show mW (bF P m loc vars i) (fun _ i => nO (bF P m loc vars x) (fun p o => fM (Nat.blt i n) (cR (Nat.add o (Nat.mul i (P.cellsOf el))) fun q => k (.ptr p q) heap) z) z) z = _
   rw [r7]
   congr 1
   funext i
   simp only [fe, mA, cf, nN, eM]
  ·cases e
 ·rename_i t x i hx
  obtain ⟨he, e⟩ := af.1 hg
  simp only [bS, hx, he, bcT, fe]
  split at e
  ·rename_i hu
   cases e
   simp only [hu]
   show mW (bF P m loc vars i) (fun _ i => yG (bF P m loc vars x) (fun n c => fM (Nat.blt i n) (cR (gm n c i) fun b => k (.int .u8 (Int.ofNat b)) heap) z) z) z = _
   rw [r7]
   congr 1
   funext i
   cases bF P m loc vars x <;> first | rfl | skip
   simp only [mA, cf]
   rename_i n c
   show fM (Nat.blt i n) (cR (gm n c i) fun b => k (.int .u8 (Int.ofNat b)) heap) z = _
   rw [eM]
  ·cases e
 ·rename_i s d x hx
  split at hg
  ·rename_i kd hd
   obtain ⟨ds, hs, e⟩ := ad.1 hg
   cases e
   show mW (bF P m loc vars x) (fun _ n => fM (Nat.ble n (aH kd)) (k (.int kd (Int.ofNat n)) heap) (cB m o P call loc vars heap k z)) (cB m o P call loc vars heap k z) = _
   rw [r7, qO]
   cases hn : (bF P m loc vars x).isNat with
   | none => rfl
   | some n =>
    simp only [fg]
    cases hb : Nat.ble n (aH kd) with
    | false => rfl
    | true =>
     have ht : cY P s d = none := by
      unfold cY
      rw [hd]
      split <;> rfl
     simp only [fI, bS, hx, ht, kJ, hd, hs, obS]
     cases hv : bF P m loc vars x <;> rw [hv] at hn <;> try (cases hn)
     rename_i kk i
     cases i <;> cases hn
     simp only [aa.isInt, obS, oI hb, cf]
  ·cases hg
 ·rename_i x i hx
  cases hg
  simp only [bS, hx, fe, oS]
  show zU (bF P m loc vars x) (fun l => J2 l i (fun v => lD v fun v => k v heap) z) z = _
  simp only [Dx, F7, lC]
 ·rename_i t parts hx
  obtain ⟨zl, hz, e⟩ := ad.1 hg
  simp only [bS, hx, fe, hz, fg]
  split at e
  ·rename_i fields hu
   obtain ⟨hi, e1⟩ := af.1 e
   obtain ⟨l, hl, e2⟩ := ad.1 e1
   cases e2
   simp only [hu, hi, bcT, fe, vY P m loc vars _ _ _ hl, fg, cf]
   exact wV loc vars l zl _ z
  ·cases e
 ·rename_i t len parts hx
  split at hg
  ·rename_i el hu
   obtain ⟨h1, e1⟩ := af.1 hg
   obtain ⟨zl, hz, e2⟩ := ad.1 e1
   obtain ⟨h3, e3⟩ := af.1 e2
   cases e3
   simp only [bS, hx, hu, h1, bcT, fe, hz, fg, h3, cf]
   show C1 _ loc vars (gp len zl) (fun cs => DC heap (.cells cs el false true) fun p h => k (.slice p 0 len (some len)) h) z = _
   rw [wV, List.map_map]
   simp only [zZ]
   rfl
  ·cases hg
 ·rename_i c hx
  split at hg
  ·rename_i hc
   split at hg
   ·rename_i x ha
    split at hg
    ·rename_i t ht
     split at hg
     ·rename_i hu
      cases hg
      simp only [bS, hx, hc, ha, List.map_cons, List.map_nil, dL, ht, BD, hu, oS]
      show yG (bF P m loc vars x) (fun n _ => k (.int .i64 (Int.ofNat n)) heap) z = _
      cases bF P m loc vars x <;> rfl
     ·rename_i el hu
      cases hg
      simp only [bS, hx, hc, ha, List.map_cons, List.map_nil, dL, ht, BD, hu, oS]
      show Mk (bF P m loc vars x) (fun n => k (.int .i64 (Int.ofNat n)) heap) z = _
      cases bF P m loc vars x <;> rfl
     ·cases hg
    ·cases hg
   ·cases hg
  ·rename_i f hc
   obtain ⟨fn, hf, e1⟩ := ad.1 hg
   obtain ⟨b, hb, e2⟩ := ad.1 e1
   obtain ⟨hn, e3⟩ := au.1 e2
   obtain ⟨hlt, e4⟩ := af.1 e3
   cases e4
   have hv : bF P m loc vars (.func f) = .func f [] [] := rfl
   simp only [bS, hx, hc, hv, pM, hf, obS, hb, hn, hlt, bcF, bcT, List.append_nil, List.nil_append, pZ]
   show FK _ loc vars (fun vs => Iv (call f vs heap) k z) = _
   rw [CD]
  ·cases hg
 ·cases hg
end
end Go.HL
namespace Go.HL
open Go
noncomputable section
set_option linter.unusedVariables false
def JZ (P : Program) (m : Nat) (o : Oper) (c : Operand) (a : Operand) (b : Operand) : Option kf := some (Jt (aI P m c) (aI P m a) (aI P m b))
def K3 (P : Program) (m : Nat) (o : Oper) (t : TypeId) (a : Operand) : Option kf := ob (gH P t) fun b => some (ae b (Fp (P.cellsOf t) (aI P m a)) (Fq (aI P m a)))
def HA (P : Program) (m : Nat) (o : Oper) (t : TypeId) (a : Operand) (v : Operand) : Option kf := ob (P.info? t) fun _ => some (Fo (P.cellsOf t) (aI P m a) (aI P m v))
def HE (P : Program) (m : Nat) (o : Oper) (e : TypeId) : Option kf := ob (ag P e) fun z => some (Ft z e)
def LB (P : Program) (m : Nat) (o : Oper) (e : TypeId) (x : Operand) : Option kf := some (Mp e (aI P m x))
def Ah (P : Program) (m : Nat) (o : Oper) (x : Operand) : Option kf := some (Mo (aI P m x))
def HD (P : Program) (m : Nat) (o : Oper) (op : BinOp) (t : TypeId) (x : Operand) (y : Operand) (x_4 : TypeId) : Option kf := ob (Ln op (P.underlying t)) fun f => some (go2 f m o (aI P m x) (aI P m y))
def JY (P : Program) (m : Nat) (o : Oper) (op : UnOp) (x_1 : TypeId) (x : Operand) : Option kf := ob (Lo op) fun f => some (Qr f m o (aI P m x))
def y6 (P : Program) (m : Nat) (o : Oper) (t : TypeId) (x : Operand) (f : Nat) : Option kf := match P.underlying t with
  | some (.struct fields) => ob fields[f]? fun fd => ae (Nat.beq (P.cellsOf fd.type) 0) none (some (BR fd.offset (aI P m x)))
  | _ => none
def y5 (P : Program) (m : Nat) (o : Oper) (t : TypeId) (x : Operand) (i : Operand) : Option kf := ae (cw P t) (match P.underlying t with
  | some (.slice e) => some (BP (P.cellsOf e) (aI P m x) (aI P m i))
  | some (.array n e) => some (BQ n (P.cellsOf e) (aI P m x) (aI P m i))
  | _ => none) none
def HB (P : Program) (m : Nat) (o : Oper) (t : TypeId) (x : Operand) (i : Operand) : Option kf := ae (cw P t) (match P.underlying t with
  | some .string => some (BO (aI P m x) (aI P m i))
  | _ => none) none
def Ck (P : Program) (m : Nat) (o : Oper) (s : TypeId) (d : TypeId) (x : Operand) : Option kf := match P.underlying d with
  | some (.int k) => ob (P.underlying s) fun _ => some (Jx k m o (aI P m x))
  | _ => none
def Cj (P : Program) (m : Nat) (o : Oper) (x : Operand) (i : Nat) : Option kf := some (yU (aI P m x) i)
def HC (P : Program) (m : Nat) (o : Oper) (t : TypeId) (parts : Array (Nat × Operand)) : Option kf := ob (ag P t) fun z => match P.underlying t with
  | some (.struct fields) => ae (jj P fields.toList) (ob (r4 P m fields.toList parts.toList) fun l => some (Fs l z)) none
  | _ => none
def xm (P : Program) (m : Nat) (o : Oper) (t : TypeId) (len : Nat) (parts : Array (Nat × Operand)) : Option kf := match P.underlying t with
  | some (.slice e) => ae (Nat.ble (Nat.mul len (P.cellsOf e)) 16777216)
    (ob (ag P e) fun z => ae (Nat.beq z.length (P.cellsOf e)) (some (BS (parts.toList.map fun p => (Nat.mul p.1 (P.cellsOf e), P.cellsOf e, aI P m p.2)) (gp len z) e len)) none) none
  | _ => none
def K4 (P : Program) (m : Nat) (o : Oper) (c : Call) : Option kf := match c.callee with
  | .builtin .len => match c.args.toList with
   | [x] => match c.argTypes[0]? with
    | some t => match P.underlying t with
     | some .string => some (Jv (aI P m x))
     | some (.slice _) => some (Jw (aI P m x))
     | _ => none
    | none => none
   | _ => none
  | .value (.func f) => ob P.funcs[f]? fun fn => ob fn.body fun _ => ae (fn.name == "runtime.NumGoroutine") none (ae (Nat.blt f bd) (some (Jy f (c.args.toList.map (aI P m)))) none)
  | _ => none
def Bu (g : Option kf) (m : Nat) (o : Oper) : xE := @Option.rec kf (fun _ => Nat → Oper → xE) (fun m o => .mk (cB m o)) (fun g _ _ => .mk g) g m o
def mL (P : Program) (m : Nat) (o : Oper) : xE :=
 @Op.rec (fun _ => Program → Nat → Oper → xE) (fun x P m _ => .QZ (aI P m x)) (fun x P m _ => .QZ (aI P m x)) (fun a0 a1 a2 P m o => Bu (JZ P m o a0 a1 a2) m o) (fun a0 P m o => Bu (HE P m o a0) m o) (fun a0 a1 P m o => Bu (LB P m o a0 a1) m o) (fun a0 a1 P m o => Bu (HC P m o a0 a1) m o) (fun a0 a1 a2 P m o => Bu (xm P m o a0 a1 a2) m o) (fun _ _ _ _ _ m o => .mk (cB m o)) (fun a0 a1 P m o => Bu (K3 P m o a0 a1) m o) (fun a0 a1 a2 P m o => Bu (HA P m o a0 a1 a2) m o) (fun _ _ m o => .mk (cB m o)) (fun _ _ m o => .mk (cB m o)) (fun a0 P m o => Bu (Ah P m o a0) m o) (fun a0 a1 a2 a3 a4 P m o => Bu (HD P m o a0 a1 a2 a3 a4) m o) (fun a0 a1 a2 P m o => Bu (JY P m o a0 a1 a2) m o) (fun a0 a1 a2 P m o => Bu (Ck P m o a0 a1 a2) m o) (fun _ _ _ m o => .mk (cB m o)) (fun _ _ _ m o => .mk (cB m o)) (fun _ _ _ _ m o => .mk (cB m o)) (fun _ _ _ m o => .mk (cB m o)) (fun _ _ _ m o => .mk (cB m o)) (fun _ _ _ _ m o => .mk (cB m o)) (fun _ _ _ _ _ _ m o => .mk (cB m o)) (fun a0 a1 a2 P m o => Bu (y6 P m o a0 a1 a2) m o) (fun _ _ _ _ m o => .mk (cB m o)) (fun a0 a1 a2 P m o => Bu (y5 P m o a0 a1 a2) m o) (fun a0 a1 a2 P m o => Bu (HB P m o a0 a1 a2) m o) (fun _ _ _ _ _ m o => .mk (cB m o)) (fun _ _ _ _ _ m o => .mk (cB m o)) (fun _ _ _ _ m o => .mk (cB m o)) (fun _ _ _ _ _ m o => .mk (cB m o)) (fun _ _ _ m o => .mk (cB m o)) (fun _ _ _ m o => .mk (cB m o)) (fun _ _ m o => .mk (cB m o)) (fun _ _ _ _ _ m o => .mk (cB m o)) (fun a0 a1 P m o => Bu (Cj P m o a0 a1) m o) (fun a0 P m o => Bu (K4 P m o a0) m o) (fun _ _ m o => .mk (cB m o)) (fun _ _ m o => .mk (cB m o)) (fun _ _ m o => .mk (cB m o)) (fun _ _ _ m o => .mk (cB m o)) (fun _ _ _ _ m o => .mk (cB m o)) (fun _ _ _ m o => .mk (cB m o)) o.op P m o
theorem Ej (P : Program) (m : Nat) (o : Oper) : (mL P m o).run = (Bu (Ce P m o) m o).run := by
 unfold mL Ce
 generalize o.op = p
 cases p <;> rfl
theorem zc (P : Program) (m : Nat) (o : Oper) (call : ah) (loc vars : Sl) (heap : Heap) (k : Kt) (z : aK) :
  (mL P m o).run P call loc vars heap k z = px (bS P (bF P m loc vars) heap o) call k z := by
 rw [Ej]
 cases hg : Ce P m o with
 | some g => exact JW hg call loc vars heap k z
 | none => exact qO m o P call loc vars heap k z
end
end Go.HL
namespace Go.HL
open Go
noncomputable section
def M0 (m : Nat) (d : Nat) : cT := ae (bit m d) (.var d) (.loc d)
def gf (m : Nat) (ops : Array Oper) (o : Oper) : ka := match o.guard with
 | none => .no
 | some g => match (ops[g.1]?).bind (·.dst) with
  | some d => .on (M0 m d) g.2
  | none => .stuck
def kL (m : Nat) : Option Tmp → Aw
 | none => .none
 | some d => ae (bit m d) (.var d) (.loc d)
def fN (P : Program) (m : Nat) (ops : Array Oper) : List Oper → ij
 | [] => .nil
 | o :: l => JV (gf m ops o) (kL m o.dst) (mL P m o) (fN P m ops l)
def db : List Oper → Nat
 | [] => 0
 | o :: l => match o.dst with
  | some d => ae (Nat.ble d (db l)) (db l) d
  | none => db l
def vC (P : Program) (call : ah) (ops : Array Oper) (l : List Oper) (s : St) : aK := ob (ey P call ops l s) fk
def Ad (s : St) : Sl → Heap → aK := fun vars h => some (.dw, ⟨⟨[], vars⟩, h, s.defers, s.c8, s.mask, s.bt⟩)
structure y9 (m : Nat) (L V loc vars : Sl) : Prop where
 flush : ∀ k : Sl → aK, fR m L V k = k vars
 low : ∀ i, bit m i = false → assoc loc (assoc vars .bad i) i = assoc L (assoc V .bad i) i
 kept : ∀ i, bit m i = true → assoc vars .bad i = assoc L (assoc V .bad i) i
theorem CF {m : Nat} {L V loc vars : Sl} (h : y9 m L V loc vars) (d : Nat) : (M0 m d).get loc vars = assoc L (assoc V .bad d) d := by
 unfold M0
 cases hb : bit m d with
 | true => rw [bcT, cT.Lk]; exact h.kept d hb
 | false => rw [bcF, cT.Fu]; exact h.low d hb
theorem wX {m : Nat} {L V loc vars : Sl} (h : y9 m L V loc vars) (P : Program) : bF P m loc vars = Env.eval P ⟨L, V⟩ := by
 funext x
 cases x <;> first | rfl | skip
 exact CF h _
theorem AG {m : Nat} {L V loc vars : Sl} (h : y9 m L V loc vars) (ops : Array Oper) (o : Oper) (yes no z : aK) :
  EE (gf m ops o) loc vars yes no z = oR (bJ ops o ⟨L, V⟩) (fun w => fM w yes no) z := by
 unfold gf bJ
 split
 ·rename_i hg; simp only [hg]; rfl
 ·rename_i g hg
  simp only [hg]
  split
  ·rename_i d hd
   simp only [hd]
   show F4 ((M0 m d).get loc vars) (fun b => fM (ae g.2 b (ae b false true)) yes no) no z = _
   rw [CF h]
   have e : (⟨L, V⟩ : Env).get d = assoc L (assoc V .bad d) d := rfl
   rw [e]
   cases assoc L (assoc V .bad d) d <;> rfl
  ·rename_i hd; simp only [hd]; rfl
def Ge (l : Sl) (d : Nat) (v : aa) : Sl := eP l d v id
theorem oO {β : Type} (d : Nat) (v : aa) : ∀ (l : Sl) (k : Sl → β), eP l d v k = k (Ge l d v)
 | [], k => rfl
 | p :: l, k => by
  have h1 : eP (p :: l) d v k = @Bool.rec (fun _ => β) (eP l d v fun r => k (p :: r)) (k ((d, v) :: l)) (Nat.beq p.1 d) := rfl
  have h2 : Ge (p :: l) d v = @Bool.rec (fun _ => Sl) (eP l d v fun r => p :: r) ((d, v) :: l) (Nat.beq p.1 d) := rfl
  rw [h1, h2, oO d v l (fun r => k (p :: r)), oO d v l (fun r => p :: r)]
  cases Nat.beq p.1 d <;> rfl
theorem xA (l : Sl) (d : Nat) (v : aa) (x : aa) (i : Nat) : assoc (Ge l d v) x i = if d = i then v else assoc l x i := by
 obtain ⟨m, e1, e2⟩ := qQ d v l (id : Sl → Sl)
 have : Ge l d v = m := e1
 rw [this]; exact e2 x i
def ID (dst : Option Tmp) (v : aa) (l : Sl) : Sl := match dst with
 | none => l
 | some d => (d, v) :: l
theorem Ba (dst : Option Tmp) (v : aa) (L V : Sl) : Env.put ⟨L, V⟩ dst v = ⟨ID dst v L, V⟩ := by cases dst <;> rfl
theorem KO {m : Nat} {L V loc vars : Sl} (h : y9 m L V loc vars) (dst : Option Tmp) (v : aa) (ih : RK) (P : Program) (call : ah) (heap : Heap) (k : Sl → Heap → aK) (z : aK) :
  ∃ loc' vars', Gm (kL m dst) v ih P call loc vars heap k z = ih P call loc' vars' heap k z ∧ y9 m (ID dst v L) V loc' vars' := by
 cases dst with
 | none => exact ⟨loc, vars, rfl, h⟩
 | some d =>
  cases hb : bit m d with
  | false =>
   refine ⟨(d, v) :: loc, vars, by simp only [kL, hb, bcF]; rfl, ?_, ?_, ?_⟩
   ·intro k
    show fR m L V (fun vars' => ae (bit m d) (eP vars' d v k) (k vars')) = k vars
    rw [h.flush, hb, bcF]
   ·intro i hi
    show assoc ((d, v) :: loc) _ i = assoc ((d, v) :: L) _ i
    rw [bx, bx, h.low i hi]
   ·intro i hi
    show _ = assoc ((d, v) :: L) _ i
    have : d ≠ i := by rintro rfl; rw [hb] at hi; cases hi
    rw [bx, if_neg this, h.kept i hi]
  | true =>
   refine ⟨loc, Ge vars d v, ?_, ?_, ?_, ?_⟩
   ·simp only [kL, hb, bcT]
    show Bb vars d v (fun vars => ih P call loc vars heap k z) = _
    rw [EX, oO]
   ·intro k'
    show fR m L V (fun vars' => ae (bit m d) (eP vars' d v k') (k' vars')) = k' (Ge vars d v)
    rw [h.flush, hb, bcT, oO]
   ·intro i hi
    show assoc loc _ i = assoc ((d, v) :: L) _ i
    have : d ≠ i := by rintro rfl; rw [hb] at hi; cases hi
    rw [bx, if_neg this, xA, if_neg this, h.low i hi]
   ·intro i hi
    show _ = assoc ((d, v) :: L) _ i
    rw [bx, xA, h.kept i hi]
theorem D5 (P : Program) (call : ah) (ops : Array Oper) (o : Oper) (l : List Oper) (s : St) :
  vC P call ops (o :: l) s = ob (fE P call ops o s) fun r => match r.1 with | .dw => vC P call ops l r.2 | e => fk (e, r.2) := by
 unfold vC
 simp only [ey]
 cases fE P call ops o s with
 | none => rfl
 | some r => obtain ⟨ex, s'⟩ := r; cases ex <;> rfl
def uX (bt : Nat) (l : List Oper) : Prop := ∀ o ∈ l, fits o.dst bt = true
theorem nT {bt : Nat} : ∀ {l : List Oper}, db l < bt → uX bt l
 | [], _ => fun o h => by cases h
 | o :: l, h => by
  have key : fits o.dst bt = true ∧ db l < bt := by
   simp only [db] at h
   cases hd : o.dst with
   | none => rw [hd] at h; exact ⟨rfl, h⟩
   | some d =>
    rw [hd] at h
    simp only at h
    cases hb : Nat.ble d (db l) with
    | true =>
     rw [hb, bcT] at h
     have := Nat.le_of_ble_eq_true hb
     exact ⟨by show Nat.blt d bt = true; rw [eW]; exact decide_eq_true (by omega), h⟩
    | false =>
     rw [hb, bcF] at h
     have : db l < d := Nat.lt_of_not_le (by intro hle; rw [Nat.ble_eq_true_of_le hle] at hb; cases hb)
     exact ⟨by show Nat.blt d bt = true; rw [eW]; exact decide_eq_true h, Nat.lt_trans this h⟩
  intro q hq
  rcases List.mem_cons.1 hq with rfl | hq
  ·exact key.1
  ·exact nT key.2 q hq
theorem EV (P : Program) (call : ah) (ops : Array Oper) (m : Nat) : ∀ (l : List Oper) (s : St) (loc vars : Sl) (z : aK), m = s.mask → y9 m s.env.loc s.env.vars loc vars → uX s.bt l → z = vC P call ops l s →
  zK (fN P m ops l) P call loc vars s.heap (Ad s) z = z
 | [], s, loc, vars, z, hm, h, _, hz => by
  show Ad s vars s.heap = z
  rw [hz]
  show Ad s vars s.heap = fR s.mask s.env.loc s.env.vars fun vars => Ad s vars s.heap
  rw [← hm, h.flush]
 | o :: l, s, loc, vars, z, hm, h, hf, hz => by
  have hfit : fits o.dst s.bt = true := hf o (by simp)
  have hl : uX s.bt l := fun q hq => hf q (by simp [hq])
  rw [D5] at hz
  unfold fE at hz
  have next : ∀ (v : aa) (h' : Heap), z = vC P call ops l (s.with o.dst v h') → Gm (kL m o.dst) v (zK (fN P m ops l)) P call loc vars h' (Ad s) z = z := by
   intro v h' e
   obtain ⟨loc', vars', e1, e2⟩ := KO h o.dst v (zK (fN P m ops l)) P call h' (Ad s) z
   rw [e1]
   have e3 : y9 m (s.with o.dst v h').env.loc (s.with o.dst v h').env.vars loc' vars' := by
    show y9 m (Env.put s.env o.dst v).loc (Env.put s.env o.dst v).vars loc' vars'
    have : Env.put s.env o.dst v = ⟨ID o.dst v s.env.loc, s.env.vars⟩ := Ba o.dst v s.env.loc s.env.vars
    rw [this]; exact e2
   exact EV P call ops m l (s.with o.dst v h') loc' vars' z hm e3 hl e
  show zK (JV (gf m ops o) (kL m o.dst) (mL P m o) (fN P m ops l)) P call loc vars s.heap (Ad s) z = z
  rw [JU]
  show EE (gf m ops o) loc vars ((mL P m o).run P call loc vars s.heap (fun v h' => Gm (kL m o.dst) v (zK (fN P m ops l)) P call loc vars h' (Ad s) z) z)
   (Gm (kL m o.dst) bw (zK (fN P m ops l)) P call loc vars s.heap (Ad s) z) z = z
  rw [AG h]
  have henv : (⟨s.env.loc, s.env.vars⟩ : Env) = s.env := rfl
  rw [henv]
  cases hw : bJ ops o s.env with
  | none => rfl
  | some w =>
   rw [hw] at hz
   simp only [obS, hfit, bcT] at hz
   simp only [fg]
   cases w with
   | false =>
    simp only [bcF, obS] at hz
    exact next _ _ hz
   | true =>
    simp only [bcT] at hz
    simp only [fI]
    rw [zc, wX h P, henv]
    cases ho : bS P (s.env.eval P) s.heap o with
    | none => rfl
    | some out =>
     rw [ho] at hz
     simp only [obS] at hz
     cases out with
     | val v h' =>
      rw [cf]
      simp only [bC, force_eq, obS] at hz
      exact next _ _ hz
     | enter f args h' =>
      rw [pZ, EU]
      simp only [bC] at hz
      cases hc : call f args h' with
      | none => rfl
      | some r =>
       obtain ⟨cr, h2⟩ := r
       rw [hc] at hz
       cases cr with
       | ret v =>
        simp only [obS, force_eq] at hz
        exact next _ _ hz
       | c8 v => rfl
     | defer f args h' => rfl
     | mV h' => rfl
     | c8 v h' => rfl
/-! ## Regions whose order is open -/
inductive sg where
 | nil
 | cons (i : Nat) (o : Oper) (aZ rd : Bool) (g : ka) (dst : Option Nat) (op : xE) (rest : sg)
abbrev DK := Program → ah → List cL → Sl → Sl → Heap → (List cL → Sl → Heap → aK) → aK → aK
def Dl (dst : Option Nat) (v : aa) (loc : Sl) (k : Sl → aK) : aK := @Option.rec Nat (fun _ => aa → Sl → (Sl → aK) → aK) (fun _ loc k => k loc) (fun d v loc k => k ((d, v) :: loc)) dst v loc k
def L9 (aZ rd w : Bool) (i : Nat) (o : Oper) (dst : Option Nat) (v : aa) (loc vars : Sl) (h h' : Heap) (log : List cL) (k : List cL → aK) (z : aK) : aK :=
 fM aZ (k (.change i h h' :: log)) (fM rd (@Option.rec Nat (fun _ => aK) z (fun _ => fM w (k (.read i o ⟨loc, vars⟩ v :: log)) (k log)) dst) (k log))
def Il (i : Nat) (o : Oper) (aZ rd : Bool) (g : ka) (dst : Option Nat) (op : xE) (ih : DK) : DK := fun P call log loc vars heap k z =>
 EE g loc vars
  (op.run P call loc vars heap (fun v h => L9 aZ rd true i o dst v loc vars heap h log (fun log => Dl dst v loc fun loc => ih P call log loc vars h k z) z) z)
  (L9 aZ rd false i o dst bw loc vars heap heap log (fun log => Dl dst bw loc fun loc => ih P call log loc vars heap k z) z) z
def C8 (r : sg) : DK := @sg.rec (fun _ => DK) (fun _ _ log loc _ heap k _ => k log loc heap) (fun i o aZ rd g dst op _ ih => Il i o aZ rd g dst op ih) r
def dt (P : Program) (ops : Array Oper) : List Nat → sg
 | [] => .nil
 | i :: l => match ops[i]? with
  | none => .nil
  | some o => .cons i o (aB P o) (cu P o) (gf 0 ops o) o.dst (mL P 0 o) (dt P ops l)
def E4 (l : Sl) (mask : Nat) (vars : Sl) (k : Sl → aK) : aK :=
 @List.rec (Nat × aa) (fun _ => Nat → Sl → (Sl → aK) → aK) (fun _ vars k => k vars) (fun p _ ih mask vars k => ih mask vars fun vars' => fM (bit mask p.1) (Bb vars' p.1 p.2 k) (k vars')) l mask vars k
theorem yX (mask : Nat) : ∀ (l vars : Sl) (k : Sl → aK), E4 l mask vars k = fR mask l vars k
 | [], vars, k => rfl
 | p :: l, vars, k => by
  show E4 l mask vars (fun vars' => fM (bit mask p.1) (Bb vars' p.1 p.2 k) (k vars')) = fR mask l vars fun vars' => ae (bit mask p.1) (eP vars' p.1 p.2 k) (k vars')
  rw [yX mask l]
  congr 1
  funext vars'
  rw [EX]; rfl
def A8 (log : List cL) : Bool := @List.rec cL (fun _ => Bool) false (fun e _ ih => @cL.rec (fun _ => Bool → Bool) (fun _ _ _ _ _ => true) (fun _ _ _ ih => ih) e ih) log
def Nh (P : Program) (bV : Array Nat) (log : List cL) : Bool := ae (A8 log) (kC P bV log log) true
theorem rm (P : Program) (bV : Array Nat) (full : List cL) : ∀ log, A8 log = false → kC P bV full log = true
 | [], _ => rfl
 | .read .. :: _, h => by cases h
 | .change _ _ _ :: l, h => rm P bV full l h
theorem L8 (P : Program) (bV : Array Nat) (log : List cL) : Nh P bV log = kC P bV log log := by
 unfold Nh
 cases h : A8 log with
 | true => rfl
 | false => rw [rm P _ _ log h]; rfl
def tM (P : Program) (call : ah) (ops : Array Oper) (s0 : St) (l : List Nat) (log : List cL) (s : St) : aK :=
 ob (eu P call ops (Region.before ops) l log none s) fun r => ob (qq P ops (Region.before ops) s0 r) fk
def Ee (P : Program) (bV : Array Nat) (s0 : St) (defers : List (Nat × List aa)) : List cL → Sl → Heap → aK := fun log loc heap =>
 fM (Nh P bV log) (E4 loc s0.mask s0.env.vars fun vars => some (.dw, ⟨⟨[], vars⟩, heap, defers, s0.c8, s0.mask, s0.bt⟩)) none
theorem ur (i : Nat) : bit 0 i = false := by
 unfold bit
 show Nat.beq (0 / _ % 2) 1 = false
 rw [Nat.zero_div]; rfl
theorem uc : ∀ (L V : Sl) (k : Sl → aK), fR 0 L V k = k V
 | [], V, k => rfl
 | p :: l, V, k => by
  show fR 0 l V (fun vars' => ae (bit 0 p.1) (eP vars' p.1 p.2 k) (k vars')) = k V
  rw [uc l V, ur]; rfl
theorem yQ (L V : Sl) : y9 0 L V L V := ⟨uc L V, fun _ _ => rfl, fun i hi => by rw [ur] at hi; cases hi⟩
theorem KP (dst : Option Nat) (v : aa) (loc : Sl) (k : Sl → aK) : Dl dst v loc k = k (ID dst v loc) := by cases dst <;> rfl
theorem C7 (P : Program) (call : ah) (ops : Array Oper) (s0 : St) : ∀ (l : List Nat) (log : List cL) (s : St) (z : aK), s.env.vars = s0.env.vars → uX s.bt ops.toList → (∀ i ∈ l, i < ops.size) →
  z = tM P call ops s0 l log s → C8 (dt P ops l) P call log s.env.loc s.env.vars s.heap (Ee P (Region.before ops) s0 s.defers) z = z
 | [], log, s, z, hv, hf, hs, hz => by
  show Ee P (Region.before ops) s0 s.defers log s.env.loc s.heap = z
  rw [hz]
  unfold Ee tM
  simp only [eu, obS, qq]
  rw [L8]
  cases kC P (Region.before ops) log log with
  | false => rfl
  | true =>
   simp only [fI, bcT, obS, fk]
   rw [yX, hv]
 | i :: l, log, s, z, hv, hf, hs, hz => by
  have hi : i < ops.size := hs i (by simp)
  have ho : ops[i]? = some ops[i] := Array.getElem?_eq_getElem hi
  generalize hoo : ops[i] = o at ho
  have hfit : fits o.dst s.bt = true := hf o (by rw [← hoo]; simp)
  have e0 : dt P ops (i :: l) = .cons i o (aB P o) (cu P o) (gf 0 ops o) o.dst (mL P 0 o) (dt P ops l) := by
   simp only [dt, ho]
  rw [e0]
  unfold tM at hz
  simp only [eu, o5, bcF, ho, obS] at hz
  unfold fE at hz
  have next : ∀ (w : Bool) (v : aa) (h' : Heap), bJ ops o s.env = some w →
    z = ob (ae (aB P o) (eu P call ops (Region.before ops) l (.change i s.heap h' :: log) none (s.with o.dst v h'))
     (ae (cu P o) (ob o.dst fun d => ob (bJ ops o s.env) fun w => eu P call ops (Region.before ops) l (ae w (.read i o s.env ((s.with o.dst v h').env.get d) :: log) log) none (s.with o.dst v h'))
      (eu P call ops (Region.before ops) l log none (s.with o.dst v h')))) (fun r => ob (qq P ops (Region.before ops) s0 r) fk) →
    L9 (aB P o) (cu P o) w i o o.dst v s.env.loc s.env.vars s.heap h' log (fun log => Dl o.dst v s.env.loc fun loc => C8 (dt P ops l) P call log loc s.env.vars h' (Ee P (Region.before ops) s0 s.defers) z) z = z := by
   intro w v h' hw e
   have hnext : ∀ log', z = tM P call ops s0 l log' (s.with o.dst v h') → Dl o.dst v s.env.loc (fun loc => C8 (dt P ops l) P call log' loc s.env.vars h' (Ee P (Region.before ops) s0 s.defers) z) = z := by
    intro log' e'
    rw [KP]
    have e3 : (s.with o.dst v h').env = ⟨ID o.dst v s.env.loc, s.env.vars⟩ := Ba o.dst v s.env.loc s.env.vars
    have := C7 P call ops s0 l log' (s.with o.dst v h') z (by rw [e3]; exact hv) hf (fun j hj => hs j (by simp [hj])) e'
    rw [e3] at this
    exact this
   unfold L9
   cases hc : aB P o with
   | true =>
    rw [hc] at e
    simp only [bcT] at e
    simp only [fI]
    exact hnext _ e
   | false =>
    rw [hc] at e
    simp only [bcF] at e
    simp only [sZ]
    cases hr : cu P o with
    | false =>
     rw [hr] at e
     simp only [bcF] at e
     simp only [sZ]
     exact hnext _ e
    | true =>
     rw [hr] at e
     simp only [bcT] at e
     simp only [fI]
     cases hd : o.dst with
     | none => rfl
     | some d =>
      rw [hd, hw] at e
      simp only [obS] at e
      rw [hd] at hnext
      cases w with
      | false => exact hnext _ e
      | true =>
       have e5 : (s.with (some d) v h').env.get d = v := by
        show xB ((d, v) :: s.env.loc) (assoc s.env.vars .bad d) d = v
        show assoc ((d, v) :: s.env.loc) (assoc s.env.vars .bad d) d = v
        rw [bx, if_pos rfl]
       rw [e5] at e
       exact hnext _ e
  show Il i o (aB P o) (cu P o) (gf 0 ops o) o.dst (mL P 0 o) (C8 (dt P ops l)) P call log s.env.loc s.env.vars s.heap (Ee P (Region.before ops) s0 s.defers) z = z
  unfold Il
  have hlike := yQ s.env.loc s.env.vars
  have henv : (⟨s.env.loc, s.env.vars⟩ : Env) = s.env := rfl
  rw [AG hlike, henv]
  cases hw : bJ ops o s.env with
  | none => rfl
  | some w =>
   have nextw := next w
   rw [hw] at hz
   simp only [obS, hfit, bcT] at hz
   simp only [fg]
   cases w with
   | false =>
    simp only [bcF, obS] at hz
    exact nextw _ _ hw (by rw [hw]; exact hz)
   | true =>
    simp only [bcT] at hz
    simp only [fI]
    rw [zc, wX hlike P, henv]
    cases hop : bS P (s.env.eval P) s.heap o with
    | none => rfl
    | some out =>
     rw [hop] at hz
     simp only [obS] at hz
     cases out with
     | val v h' =>
      rw [cf]
      simp only [bC, force_eq, obS] at hz
      exact nextw _ _ hw (by rw [hw]; exact hz)
     | enter f args h' =>
      rw [pZ, EU]
      simp only [bC] at hz
      cases hc : call f args h' with
      | none => rfl
      | some r =>
       obtain ⟨cr, h2⟩ := r
       rw [hc] at hz
       cases cr with
       | ret v =>
        simp only [obS, force_eq] at hz
        exact nextw _ _ hw (by rw [hw]; exact hz)
       | c8 v => rfl
     | defer f args h' => rfl
     | mV h' => rfl
     | c8 v h' => rfl
end
end Go.HL
namespace Go.HL
open Go
noncomputable section
set_option linter.unusedVariables false
inductive iQ where
 | skip
 | region (mx m : Nat) (r : ij) (ops : Array Oper)
 | draw (mx : Nat) (r : sg) (ops : Array Oper)
 | drawn (mx : Nat) (r : sg) (ops : Array Oper) (bV : Array Nat)
 | seq (a b : iQ)
 | cond (c : cT) (a b : iQ)
 | block (id : Nat) (b : iQ)
 | loop (b : iQ)
 | exit (id : Nat)
 | ret
 | range (g : Operand) (ps : Array Tmp) (x y : Code)
 | bad
def fJ (P : Program) (m : Nat) : Code → iQ
 | .skip => .skip
 | .label _ => .skip
 | .region _ ops d => ae d (.draw (db ops.toList) (dt P ops (da P ops)) ops) (.region (db ops.toList) m (fN P m ops ops.toList) ops)
 | .seq a b => .seq (fJ P m a) (fJ P m b)
 | .cond c a b => .cond (aI P 0 c) (fJ P m a) (fJ P m b)
 | .block id b => .block id (fJ P m b)
 | .loop b => .loop (fJ P m b)
 | .exit id => .exit id
 | .ret => .ret
 | .rangeFunc g ps x y => .range g ps x y
 | _ => .bad
abbrev nu := iQ → St → aK
def Qm (l : Sl) (y n : aK) : aK := @List.rec (Nat × aa) (fun _ => aK) y (fun _ _ _ => n) l
def BN (mx m : Nat) (r : ij) (s : St) (P : Program) (call : ah) (z : aK) : aK :=
 @St.rec (fun _ => Nat → Nat → ij → Program → ah → aK → aK) (fun env heap defers c8 mask bt mx m r P call z =>
  fM (Nat.beq mask m) (fM (Nat.blt mx bt) (Qm env.loc (zK r P (jm c8 call) [] env.vars heap (fun vars h => some (.dw, ⟨⟨[], vars⟩, h, defers, c8, mask, bt⟩)) z) z) z) z) s mx m r P call z
def uY (mx m : Nat) (r : ij) (ops : Array Oper) (s : St) (P : Program) (call : ah) : aK := BN mx m r s P call (vC P (jm s.c8 call) ops ops.toList s)
def A9 (mx : Nat) (r : sg) (bV : Array Nat) (s : St) (P : Program) (call : ah) (z : aK) : aK :=
 fM (Nat.blt mx s.bt) (C8 r P call [] s.env.loc s.env.vars s.heap (Ee P bV s s.defers) z) z
def JF (mx : Nat) (r : sg) (ops : Array Oper) (s : St) (P : Program) (call : ah) : aK :=
 fM (gV P ops) (A9 mx r (Region.before ops) s P (gate call) (tM P (gate call) ops s (da P ops) [] s.alone)) none
def JE (mx : Nat) (r : sg) (ops : Array Oper) (bV : Array Nat) (s : St) (P : Program) (call : ah) : aK := A9 mx r bV s P (gate call) (tM P (gate call) ops s (da P ops) [] s.alone)
def Bo (r : aK) (k : St → aK) : aK :=
 @Option.rec (Ex × St) (fun _ => (St → aK) → aK) (fun _ => none) (fun p k => @Ex.rec (fun _ => (Ex × St) → (St → aK) → aK) (fun p k => k p.2) (fun _ p _ => some p) (fun p _ => some p) (fun _ p _ => some p) p.1 p k) r k
def DV (r : aK) (id : Nat) : aK :=
 @Option.rec (Ex × St) (fun _ => Nat → aK) (fun _ => none) (fun p id => @Ex.rec (fun _ => (Ex × St) → Nat → aK) (fun p _ => some p) (fun j p id => fM (Nat.beq j id) (some (.dw, p.2)) (some p)) (fun p _ => some p) (fun _ p _ => some p) p.1 p id) r id
def stepG (c : iQ) (P : Program) (call : ah) (ih : nu) (s : St) : aK :=
 @iQ.rec (fun _ => Program → ah → nu → St → aK) (fun _ _ _ s => some (.dw, s)) (fun mx m r ops P call _ s => uY mx m r ops s P call) (fun mx r ops P call _ s => JF mx r ops s P call) (fun mx r ops bV P call _ s => JE mx r ops bV s P call)
  (fun a b _ _ _ _ ih s => Bo (ih a s) fun s => ih b s) (fun c a b _ _ _ _ ih s => sQ (c.get s.env.loc s.env.vars) (fun t => fM t (ih a s) (ih b s)) none)
  (fun id b _ _ _ ih s => DV (ih b s) id) (fun b _ _ _ ih s => Bo (ih b s) fun s => ih (.loop b) s) (fun id _ _ _ s => some (.exit id, s)) (fun _ _ _ s => some (.ret, s)) (fun g ps x y P call _ s => my P call g ps x y s) (fun _ _ _ _ => none) c P call ih s
theorem Bn (r : aK) (k : St → aK) : Bo r k = ob r fun r => match r.1 with | .dw => k r.2 | e => some (e, r.2) := by
 rcases r with _ | ⟨ex, s⟩
 ·rfl
 ·cases ex <;> rfl
theorem H6 (r : aK) (id : Nat) : DV r id = ob r fun r => match r.1 with | .exit j => ae (Nat.beq j id) (some (.dw, r.2)) (some (.exit j, r.2)) | e => some (e, r.2) := by
 rcases r with _ | ⟨ex, s⟩
 ·rfl
 ·cases ex <;> rfl
theorem DR (m : Nat) (V : Sl) : y9 m [] V [] V := ⟨fun _ => rfl, fun _ _ => rfl, fun _ _ => rfl⟩
theorem E7 (P : Program) (call : ah) (m : Nat) (ops : Array Oper) (s : St) :
  uY (db ops.toList) m (fN P m ops ops.toList) ops s P call = ob (ey P (jm s.c8 call) ops ops.toList s) fk := by
 show uY (db ops.toList) m (fN P m ops ops.toList) ops s P call = vC P (jm s.c8 call) ops ops.toList s
 unfold uY BN
 obtain ⟨⟨loc, vars⟩, heap, defers, c8, mask, bt⟩ := s
 simp only
 cases h1 : Nat.beq mask m with
 | false => rfl
 | true =>
  cases h2 : Nat.blt (db ops.toList) bt with
  | false => rfl
  | true =>
   simp only [fI]
   cases loc with
   | cons p l => rfl
   | nil =>
    have hm : m = mask := (Nat.eq_of_beq_eq_true h1).symm
    have hl : db ops.toList < bt := by rw [eW] at h2; exact of_decide_eq_true h2
    exact EV P (jm c8 call) ops m ops.toList ⟨⟨[], vars⟩, heap, defers, c8, mask, bt⟩ [] vars _ hm (DR m vars) (nT hl) rfl
theorem yV (P : Program) (call : ah) (ops : Array Oper) (s : St) (hp : gV P ops = true) :
  A9 (db ops.toList) (dt P ops (da P ops)) (Region.before ops) s P call (tM P call ops s (da P ops) [] s.alone) = tM P call ops s (da P ops) [] s.alone := by
 unfold A9
 cases h2 : Nat.blt (db ops.toList) s.bt with
 | false => rfl
 | true =>
  simp only [fI]
  have hl : db ops.toList < s.bt := by rw [eW] at h2; exact of_decide_eq_true h2
  refine C7 P call ops s (da P ops) [] s.alone _ rfl (nT hl) (fun i hi => ?_) rfl
  have h1 := (vX hp).2.2.2 i hi
  unfold Bi at h1
  cases ho : ops[i]? with
  | none => rw [ho] at h1; cases h1
  | some o => exact (Array.getElem?_eq_some_iff.1 ho).1
inductive Good (P : Program) : iQ → Code → Prop where
 | skip : Good P .skip .skip
 | label (l : _) : Good P .skip (.label l)
 | region (m : Nat) (id : _) (ops : Array Oper) : Good P (.region (db ops.toList) m (fN P m ops ops.toList) ops) (.region id ops false)
 | draw (id : _) (ops : Array Oper) : Good P (.draw (db ops.toList) (dt P ops (da P ops)) ops) (.region id ops true)
 | drawn (id : _) (ops : Array Oper) (h : gV P ops = true) : Good P (.drawn (db ops.toList) (dt P ops (da P ops)) ops (Region.before ops)) (.region id ops true)
 | seq {a b : iQ} {c d : Code} (h : Good P a c) (h' : Good P b d) : Good P (.seq a b) (.seq c d)
 | cond (x : Operand) {a b : iQ} {c d : Code} (h : Good P a c) (h' : Good P b d) : Good P (.cond (aI P 0 x) a b) (.cond x c d)
 | block (id : _) {a : iQ} {c : Code} (h : Good P a c) : Good P (.block id a) (.block id c)
 | loop {a : iQ} {c : Code} (h : Good P a c) : Good P (.loop a) (.loop c)
 | exit (id : _) : Good P (.exit id) (.exit id)
 | ret : Good P .ret .ret
 | range (g : Operand) (ps : Array Tmp) (x y : Code) : Good P (.range g ps x y) (.rangeFunc g ps x y)
 | bad (c : Code) (h : ∀ K ih s, ct P K ih c s = none) : Good P .bad c
theorem dP (P : Program) (m : Nat) : ∀ c, Good P (fJ P m c) c
 | .skip => .skip
 | .label l => .label l
 | .region id ops d => by cases d; exact .region m id ops; exact .draw id ops
 | .seq a b => .seq (dP P m a) (dP P m b)
 | .cond x a b => .cond x (dP P m a) (dP P m b)
 | .block id a => .block id (dP P m a)
 | .loop a => .loop (dP P m a)
 | .exit id => .exit id
 | .ret => .ret
 | .goto _ => .bad _ fun _ _ _ => rfl
 | .scope _ => .bad _ fun _ _ _ => rfl
 | .refuse _ => .bad _ fun _ _ _ => rfl
 | .rangeFunc g ps x y => .range g ps x y
theorem Ik (P : Program) (K call : ah) (ih : nu) (ih' : Code → St → aK) (hcall : call = eZ K (cJ P ih')) (h : ∀ f c, Good P f c → ∀ s, ih f s = ih' c s) {f : iQ} {c : Code} (hg : Good P f c) (s : St) :
  stepG f P call ih s = ct P K ih' c s := by
 subst hcall
 cases hg with
 | skip => rfl
 | label l => rfl
 | region m id ops => exact E7 P _ m ops s
 | draw id ops =>
  show JF _ _ _ s P _ = ae (gV P ops) _ none
  unfold JF
  cases hp : gV P ops with
  | false => rfl
  | true => exact yV P _ ops s hp
 | drawn id ops hp =>
  show JE _ _ _ _ s P _ = ae (gV P ops) _ none
  rw [hp]
  exact yV P _ ops s hp
 | seq ha hb =>
  rename_i a b c d
  show Bo (ih a s) (fun s => ih b s) = _
  rw [Bn]
  simp only [h _ _ ha, h _ _ hb, ct]
  rfl
 | cond x ha hb =>
  rename_i a b c d
  show sQ (bF P 0 s.env.loc s.env.vars x) (fun t => fM t (ih a s) (ih b s)) none = _
  rw [yH, wX (yQ s.env.loc s.env.vars) P]
  simp only [h _ _ ha, h _ _ hb, ct]
  show oR (s.env.eval P x).isBool _ _ = ob (s.env.eval P x).isBool _
  cases (s.env.eval P x).isBool with
  | none => rfl
  | some t => cases t <;> rfl
 | block id ha =>
  rename_i a c
  show DV (ih a s) id = _
  rw [H6]
  simp only [h _ _ ha, ct]
  rfl
 | loop ha =>
  rename_i a c
  show Bo (ih a s) (fun s => ih (.loop a) s) = _
  rw [Bn]
  simp only [h _ _ ha, h _ _ (Good.loop ha), ct]
  rfl
 | exit id => rfl
 | ret => rfl
 | range g ps x y => rfl
 | bad c hb => rw [hb]; rfl
/-! ## Calls -/
abbrev RC := Option (qD × Heap)
def CW (x : aa) (f : aa → RC) : RC :=
 @aa.rec (fun _ => (aa → RC) → RC) (fun _ => PUnit) (fun f => f .bad) (fun b f => f (.bool b)) (fun k n f => f (.int k n)) (fun n c f => f (.str n c)) (fun f => f .gi) (fun p o f => f (.ptr p o)) (fun f => f .aC) (fun p o l c f => f (.slice p o l c)) (fun f => f .mG) (fun p f => f (.map p)) (fun f => f .nj) (fun g a b _ _ f => f (.func g a b)) (fun f => f .iD) (fun t v _ f => f (.iface t v)) (fun l _ f => f (.agg l)) (fun l _ f => f (.tuple l)) (fun k f => f (.yield k)) (fun k f => f (.mark k)) (fun k lo hi f => f (.Df k lo hi)) (fun f => f .empty) (fun k f => f (.rest k)) PUnit.unit (fun _ _ _ _ => PUnit.unit) x f
theorem G4 (x : aa) (f : aa → RC) : CW x f = f x := by cases x <;> rfl
structure cW where
 fn : Func
 body : iQ
 mask : Nat
 res : Option (List cT)
def kK : List ResultVar → Option (List cT)
 | [] => some []
 | .tmp t :: l => ob (kK l) fun r => some (.loc t :: r)
 | .cell .. :: _ => none
def FL (l : List cT) (loc vars : Sl) (k : List aa → RC) : RC :=
 @List.rec cT (fun _ => Sl → Sl → (List aa → RC) → RC) (fun _ _ k => k []) (fun a _ ih loc vars k => CW (a.get loc vars) fun v => ih loc vars fun r => k (v :: r)) l loc vars k
def Oi (l : List aa) : aa := @List.rec aa (fun _ => aa) (.tuple []) (fun v t _ => @List.rec aa (fun _ => aa) v (fun x t' _ => .tuple (v :: x :: t')) t) l
def KG (P : Program) (ff : cW) (s : St) : RC :=
 @Option.rec (List cT) (fun _ => Program → cW → St → RC) (fun P ff s => ob (kn P ff.fn s) fun v => some (.ret v, s.heap)) (fun l _ _ s => FL l s.env.loc s.env.vars fun vs => some (.ret (Oi vs), s.heap)) ff.res P ff s
def th (P : Program) (run : nu) (fn : Func) (p : FQ) (s : St) : RC := gC P (fun c s => run (fJ P 0 c) s) fn s.defers p s
def z7 (P : Program) (run : nu) (ff : cW) (s : St) : RC :=
 @List.rec (Nat × List aa) (fun _ => Program → nu → cW → St → RC) (fun P _ ff s => KG P ff s) (fun _ _ _ P run ff s => th P run ff.fn .calm s) s.defers P run ff s
def P1 (P : Program) (run : nu) (ff : cW) (r : aK) : RC :=
 @Option.rec (Ex × St) (fun _ => Program → nu → cW → RC) (fun _ _ _ => none) (fun r P run ff => @Ex.rec (fun _ => St → Program → nu → cW → RC) (fun s P run ff => z7 P run ff s) (fun _ _ _ _ _ => none)
  (fun s P run ff => z7 P run ff s) (fun v s P run ff => th P run ff.fn (.on v) s) r.1 r.2 P run ff) r P run ff
def Aa (n : Nat) (k : Nat → RC) : RC := @Nat.rec (fun _ => RC) (k 0) (fun m _ => k (Nat.succ m)) n
def MW (l : List aa) (i : Nat) (k : Sl → RC) : RC := @List.rec aa (fun _ => Nat → (Sl → RC) → RC) (fun _ k => k []) (fun v _ ih i k => ih (Nat.succ i) fun r => k ((i, v) :: r)) l i k
def OS (l : List aa) : Nat := @List.rec aa (fun _ => Nat) 0 (fun _ _ ih => Nat.succ ih) l
def Ed (P : Program) (run : nu) (ff : cW) (args : List aa) (h : Heap) : RC :=
 MW args 0 fun vars => Aa (OS args) fun n => Aa (Nat.lor ff.mask (Nat.sub (Nat.pow 2 n) 1)) fun mask => Aa (Nat.add n (Nat.sub ff.fn.ntmps n)) fun bt =>
  P1 P run ff (run ff.body ⟨⟨[], vars⟩, h, [], .none, mask, bt⟩)
def OW (t : T cW) (n : Nat) : Option cW :=
 @T.rec cW (fun _ => Nat → Option cW) (fun _ => none)
  (fun _ v _ gl gr n => @Nat.rec (fun _ => Option cW) v (fun m _ => @Bool.rec (fun _ => Option cW) (gr (Nat.div m 2)) (gl (Nat.div m 2)) (Nat.beq (Nat.mod m 2) 0)) n) t n
def ma (P : Program) (tbl : T cW) (run : nu) : ah := fun f args h =>
 @Option.rec cW (fun _ => Program → nu → List aa → Heap → RC) (fun _ _ _ _ => none) (fun ff P run args h => Ed P run ff args h) (OW tbl f) P run args h
def Cq (P : Program) (tbl : T cW) (run : nu) : ah := fun f args h => @Bool.rec (fun _ => RC) (zI P (Nat.sub f bd) args h) (ma P tbl run f args h) (Nat.blt f bd)
def v7 (K c : ah) : ah := fun f args h => @Option.rec (qD × Heap) (fun _ => RC → RC) (fun r => r) (fun x _ => some x) (K f args h) (c f args h)
structure MB (P : Program) (ff : cW) (fn : Func) (c : Code) : Prop where
 func : ff.fn = fn
 body : Good P ff.body c
 mask : ff.mask = bB fn
 res : ff.res = kK fn.results.toList
def pn (P : Program) (tbl : T cW) : Prop := ∀ f, match P.funcs[f]? with
 | none => tbl.get f = none
 | some fn => match fn.body with
  | none => tbl.get f = none
  | some c => ∃ ff, tbl.get f = some ff ∧ MB P ff fn c
theorem CE (loc vars : Sl) : ∀ (l : List cT) (k : List aa → RC), FL l loc vars k = k (l.map fun a => a.get loc vars)
 | [], k => rfl
 | a :: l, k => by
  show CW (a.get loc vars) (fun v => FL l loc vars fun r => k (v :: r)) = _
  rw [G4, CE loc vars l]; rfl
theorem td (n : Nat) (k : Nat → RC) : Aa n k = k n := by cases n <;> rfl
theorem F6 : ∀ (l : List aa) (i : Nat) (k : Sl → RC), MW l i k = k (cg l i)
 | [], i, k => rfl
 | v :: l, i, k => by
  show MW l (Nat.succ i) (fun r => k ((i, v) :: r)) = _
  rw [F6 l]; rfl
theorem Lc (l : List aa) : OS l = l.length := A4 l
theorem xf (P : Program) (s : St) : ∀ {l : List ResultVar} {r : List cT}, kK l = some r → ew P s l = some (r.map fun a => a.get s.env.loc s.env.vars)
 | [], r, e => by cases e; rfl
 | .tmp t :: l, r, e => by
  simp only [kK] at e
  obtain ⟨r', h1, h2⟩ := ad.1 e
  cases h2
  simp only [ew, xf P s h1, obS, List.map_cons]
  rw [cT.Fu]; rfl
 | .cell a t :: l, r, e => by cases e
theorem KF (P : Program) (ff : cW) (hr : ff.res = kK ff.fn.results.toList) (s : St) : KG P ff s = ob (kn P ff.fn s) fun v => some (.ret v, s.heap) := by
 unfold KG
 cases h : ff.res with
 | none => rfl
 | some l =>
  show FL l s.env.loc s.env.vars (fun vs => some (.ret (Oi vs), s.heap)) = _
  rw [CE]
  rw [h] at hr
  unfold kn
  rw [xf P s hr.symm]
  simp only [obS]
  generalize l.map (fun a => a.get s.env.loc s.env.vars) = vs
  rcases vs with _ | ⟨a, _ | ⟨b, vs⟩⟩ <;> rfl
theorem C9 (P : Program) (run : nu) (ff : cW) (hr : ff.res = kK ff.fn.results.toList) (s : St) : z7 P run ff s = gC P (fun c s => run (fJ P 0 c) s) ff.fn s.defers .calm s := by
 unfold z7
 cases hd : s.defers with
 | nil => show KG P ff s = _; rw [KF P ff hr]; rfl
 | cons d ds => show th P run ff.fn .calm s = _; unfold th; rw [hd]
theorem K6 {P : Program} {tbl : T cW} (ht : pn P tbl) (run : nu) (run' : Code → St → aK) (h : ∀ f c, Good P f c → ∀ s, run f s = run' c s) : ma P tbl run = mN P run' := by
 funext f args hp
 unfold ma mN
 have hg : OW tbl f = tbl.get f := rfl
 have htf := ht f
 rw [hg]
 cases hf : P.funcs[f]? with
 | none => rw [hf] at htf; simp only at htf; rw [htf]; rfl
 | some fn =>
  rw [hf] at htf
  simp only [obS] at htf ⊢
  cases hb : fn.body with
  | none => rw [hb] at htf; simp only at htf; rw [htf]; rfl
  | some c =>
   rw [hb] at htf
   simp only [obS] at htf ⊢
   obtain ⟨ff, hff, hgood⟩ := htf
   rw [hff]
   show Ed P run ff args hp = _
   unfold Ed
   rw [F6, td, td, td, Lc]
   have e : run ff.body ⟨⟨[], cg args 0⟩, hp, [], .none, Nat.lor ff.mask (Nat.sub (Nat.pow 2 args.length) 1), Nat.add args.length (Nat.sub ff.fn.ntmps args.length)⟩ = run' c (gF fn args hp .none) := by
    rw [h _ _ hgood.body, hgood.mask, hgood.func]; rfl
   rw [e]
   cases run' c (gF fn args hp .none) with
   | none => rfl
   | some r =>
    obtain ⟨ex, s⟩ := r
    have hrun : (fun c s => run (fJ P 0 c) s) = run' := by funext c s; exact h _ _ (dP P 0 c) s
    have hres : ff.res = kK ff.fn.results.toList := by rw [hgood.res, hgood.func]
    simp only [obS]
    cases ex with
    | dw =>
     show z7 P run ff s = _
     rw [C9 P run ff hres, hrun, hgood.func]
    | ret =>
     show z7 P run ff s = _
     rw [C9 P run ff hres, hrun, hgood.func]
    | exit id => rfl
    | c8 v => show th P run ff.fn (.on v) s = _; unfold th; rw [hrun, hgood.func]
theorem Cp {P : Program} {tbl : T cW} (ht : pn P tbl) (run : nu) (run' : Code → St → aK) (h : ∀ f c, Good P f c → ∀ s, run f s = run' c s) : Cq P tbl run = cJ P run' := by
 funext f args hp
 unfold Cq cJ
 rw [K6 ht run run' h]
 cases Nat.blt f bd <;> rfl
theorem Ep (K c : ah) : v7 K c = eZ K c := by
 funext f args h
 unfold v7 eZ
 cases K f args h <;> rfl
def Fw (P : Program) (tbl : T cW) (K : ah) (n : Nat) : nu := @Nat.rec (fun _ => nu) (fun _ _ => none) (fun _ ih c s => stepG c P (v7 K (Cq P tbl ih)) ih s) n
theorem C2 {P : Program} {tbl : T cW} (ht : pn P tbl) (K : ah) : ∀ (n : Nat) (f : iQ) (c : Code), Good P f c → ∀ s, Fw P tbl K n f s = jQ P K n c s
 | 0, _, _, _, _ => rfl
 | n + 1, f, c, hg, s => by
  have h := C2 ht K n
  refine Ik P K (v7 K (Cq P tbl (Fw P tbl K n))) (Fw P tbl K n) (jQ P K n) ?_ h hg s
  rw [Ep, Cp ht _ _ h]
def B4 (P : Program) (tbl : T cW) (K : ah) (n : Nat) : ah := Cq P tbl (Fw P tbl K n)
theorem KD {P : Program} {tbl : T cW} (ht : pn P tbl) (K : ah) (n : Nat) : B4 P tbl K n = MI P K n := Cp ht _ _ (C2 ht K n)
/-! ## Plans that are known -/
structure Pl where
 MP : List Nat
 bV : List Nat
def nE : List Nat → List Nat → Bool
 | [], [] => true
 | a :: l, b :: m => ae (Nat.beq a b) (nE l m) false
 | _, _ => false
theorem nD : ∀ {l m : List Nat}, nE l m = true → l = m
 | [], [], _ => rfl
 | a :: l, b :: m, h => by
  simp only [nE] at h
  cases hb : Nat.beq a b with
  | false => rw [hb] at h; cases h
  | true =>
   rw [hb] at h
   rw [Nat.eq_of_beq_eq_true hb, nD h]
 | [], _ :: _, h => by cases h
 | _ :: _, [], h => by cases h
def fZ (P : Program) (m : Nat) : Code → List Pl → iQ × List Pl
 | .region _ ops d, pl => ae d (match pl with
  | [] => (.draw (db ops.toList) (dt P ops (da P ops)) ops, [])
  | p :: pl => (.drawn (db ops.toList) (dt P ops p.MP) ops ⟨p.bV⟩, pl)) (.region (db ops.toList) m (fN P m ops ops.toList) ops, pl)
 | .seq a b, pl => (.seq (fZ P m a pl).1 (fZ P m b (fZ P m a pl).2).1, (fZ P m b (fZ P m a pl).2).2)
 | .cond c a b, pl => (.cond (aI P 0 c) (fZ P m a pl).1 (fZ P m b (fZ P m a pl).2).1, (fZ P m b (fZ P m a pl).2).2)
 | .block id b, pl => (.block id (fZ P m b pl).1, (fZ P m b pl).2)
 | .loop b, pl => (.loop (fZ P m b pl).1, (fZ P m b pl).2)
 | .exit id, pl => (.exit id, pl)
 | .rangeFunc g ps x y, pl => (.range g ps x y, pl)
 | .ret, pl => (.ret, pl)
 | .skip, pl => (.skip, pl)
 | .label _, pl => (.skip, pl)
 | _, pl => (.bad, pl)
def Dy (P : Program) : Code → List Pl → Option (List Pl)
 | .region _ ops d, pl => ae d (match pl with
  | [] => some []
  | p :: pl => ae (gV P ops) (ae (nE p.MP (da P ops)) (ae (nE p.bV (Region.before ops).toList) (some pl) none) none) none) (some pl)
 | .seq a b, pl => ob (Dy P a pl) fun pl => Dy P b pl
 | .cond _ a b, pl => ob (Dy P a pl) fun pl => Dy P b pl
 | .block _ b, pl => Dy P b pl
 | .loop b, pl => Dy P b pl
 | _, pl => some pl
theorem iC (P : Program) (m : Nat) : ∀ (c : Code) (pl r : List Pl), Dy P c pl = some r → (fZ P m c pl).2 = r ∧ Good P (fZ P m c pl).1 c
 | .skip, pl, r, h => by cases h; exact ⟨rfl, .skip⟩
 | .label l, pl, r, h => by cases h; exact ⟨rfl, .label l⟩
 | .region id ops d, pl, r, h => by
  cases d with
  | false => cases h; exact ⟨rfl, .region m id ops⟩
  | true =>
   cases pl with
   | nil => cases h; exact ⟨rfl, .draw id ops⟩
   | cons p pl =>
    simp only [Dy, bcT] at h
    obtain ⟨h1, e1⟩ := af.1 h
    obtain ⟨h2, e2⟩ := af.1 e1
    obtain ⟨h3, e3⟩ := af.1 e2
    cases e3
    have e4 : (⟨p.bV⟩ : Array Nat) = Region.before ops := by rw [nD h3]
    refine ⟨rfl, ?_⟩
    show Good P (.drawn (db ops.toList) (dt P ops p.MP) ops ⟨p.bV⟩) _
    rw [e4, nD h2]
    exact .drawn id ops h1
 | .seq a b, pl, r, h => by
  simp only [Dy] at h
  obtain ⟨q, h1, h2⟩ := ad.1 h
  obtain ⟨e1, g1⟩ := iC P m a pl q h1
  obtain ⟨e2, g2⟩ := iC P m b q r h2
  simp only [fZ]
  rw [e1]
  exact ⟨e2, .seq g1 g2⟩
 | .cond x a b, pl, r, h => by
  simp only [Dy] at h
  obtain ⟨q, h1, h2⟩ := ad.1 h
  obtain ⟨e1, g1⟩ := iC P m a pl q h1
  obtain ⟨e2, g2⟩ := iC P m b q r h2
  simp only [fZ]
  rw [e1]
  exact ⟨e2, .cond x g1 g2⟩
 | .block id b, pl, r, h => by
  obtain ⟨e1, g1⟩ := iC P m b pl r h
  exact ⟨e1, .block id g1⟩
 | .loop b, pl, r, h => by
  obtain ⟨e1, g1⟩ := iC P m b pl r h
  exact ⟨e1, .loop g1⟩
 | .exit id, pl, r, h => by cases h; exact ⟨rfl, .exit id⟩
 | .ret, pl, r, h => by cases h; exact ⟨rfl, .ret⟩
 | .goto l, pl, r, h => by cases h; exact ⟨rfl, .bad _ fun _ _ _ => rfl⟩
 | .scope _, pl, r, h => by cases h; exact ⟨rfl, .bad _ fun _ _ _ => rfl⟩
 | .refuse _, pl, r, h => by cases h; exact ⟨rfl, .bad _ fun _ _ _ => rfl⟩
 | .rangeFunc g ps x y, pl, r, h => by cases h; exact ⟨rfl, .range g ps x y⟩
abbrev Plans := List (Nat × List Pl)
def ko (t : Plans) (i : Nat) : List Pl := assoc t [] i
def zV (P : Program) (fn : Func) (pl : List Pl) : Bool := match fn.body with
 | some c => match Dy P c pl with
  | some _ => true
  | none => false
 | none => true
def gx (P : Program) : Plans → Bool
 | [] => true
 | p :: t => ae (match P.funcs[p.1]? with | some fn => zV P fn p.2 | none => true) (gx P t) false
theorem wa {P : Program} : ∀ {t : Plans}, gx P t = true → ∀ (i : Nat) (fn : Func), P.funcs[i]? = some fn → ko t i = [] ∨ zV P fn (ko t i) = true
 | [], _, _, _, _ => .inl rfl
 | p :: t, h, i, fn, hf => by
  have h' : ae (match P.funcs[p.1]? with | some fn => zV P fn p.2 | none => true) (gx P t) false = true := h
  have e : ko (p :: t) i = if p.1 = i then p.2 else ko t i := bx _ _ _ _
  rw [e]
  cases hb : (match P.funcs[p.1]? with | some fn => zV P fn p.2 | none => true) with
  | false => rw [hb] at h'; cases h'
  | true =>
   rw [hb] at h'
   by_cases hi : p.1 = i
   ·rw [if_pos hi]
    rw [hi, hf] at hb
    exact .inr hb
   ·rw [if_neg hi]; exact wa h' i fn hf
theorem tW {P : Program} : ∀ {s t : Plans}, gx P s = true → gx P t = true → gx P (s ++ t) = true
 | [], _, _, h => h
 | p :: s, t, h, h' => by
  have h1 : ae (match P.funcs[p.1]? with | some fn => zV P fn p.2 | none => true) (gx P s) false = true := h
  show ae (match P.funcs[p.1]? with | some fn => zV P fn p.2 | none => true) (gx P (s ++ t)) false = true
  cases hb : (match P.funcs[p.1]? with | some fn => zV P fn p.2 | none => true) with
  | false => rw [hb] at h1; cases h1
  | true => rw [hb] at h1; exact tW h1 h'
def jV (P : Program) (fn : Func) (pl : List Pl) : Option cW := match fn.body with
 | some c => some ⟨fn, (fZ P (Nat.lor (bB fn) (Nat.sub (Nat.pow 2 (Nat.add fn.params.size fn.nfree)) 1)) c pl).1, bB fn, kK fn.results.toList⟩
 | none => none
theorem mC (P : Program) : ∀ c, Dy P c [] = some []
 | .skip => rfl
 | .label _ => rfl
 | .region _ _ d => by cases d <;> rfl
 | .seq a b => by simp only [Dy, mC P a, obS, mC P b]
 | .cond _ a b => by simp only [Dy, mC P a, obS, mC P b]
 | .block _ b => mC P b
 | .loop b => mC P b
 | .exit _ => rfl
 | .ret => rfl
 | .goto _ => rfl
 | .scope _ => rfl
 | .refuse _ => rfl
 | .rangeFunc .. => rfl
theorem y4 {P : Program} {fn : Func} {c : Code} (hb : fn.body = some c) {pl : List Pl} (h : pl = [] ∨ zV P fn pl = true) : ∃ ff, jV P fn pl = some ff ∧ MB P ff fn c := by
 have hg : ∀ m, Good P (fZ P m c pl).1 c := by
  intro m
  rcases h with rfl | h
  ·exact (iC P m c [] [] (mC P c)).2
  ·simp only [zV, hb] at h
   cases ho : Dy P c pl with
   | none => rw [ho] at h; cases h
   | some r => exact (iC P m c pl r ho).2
 refine ⟨_, by simp only [jV, hb]; rfl, ⟨rfl, hg _, rfl, rfl⟩⟩
/-! ## The tree of functions -/
def IC {α : Type} (t : T α) (i : Nat) (o : Option α) : T α := match o with | some a => t.set i a | none => t
def lE (P : Program) (pls : Plans) : List Func → Nat → T cW → T cW
 | [], _, t => t
 | fn :: l, i, t => lE P pls l (Nat.succ i) (IC t i (jV P fn (ko pls i)))
def uJ (P : Program) (pls : Plans) : T cW := lE P pls P.funcs.toList 0 .leaf
theorem BT {α : Type} (t : T α) (i j : Nat) (o : Option α) : (IC t i o).get j = if j = i then o.or (t.get j) else t.get j := by
 cases o with
 | none => simp [IC]
 | some a => simp only [IC, T.uW, Option.some_or]
theorem pB (P : Program) (pls : Plans) : ∀ (l : List Func) (i : Nat) (t : T cW), (∀ j, i ≤ j → t.get j = none) → ∀ j, (lE P pls l i t).get j = if i ≤ j then (l[j - i]?).bind (fun fn => jV P fn (ko pls j)) else t.get j
 | [], i, t, ht, j => by
  simp only [lE]
  split
  ·rename_i h; rw [ht j h]; simp
  ·rfl
 | fn :: l, i, t, ht, j => by
  simp only [lE]
  have hi := pB P pls l (Nat.succ i) (IC t i (jV P fn (ko pls i))) (fun k hk => by rw [BT, if_neg (by omega)]; exact ht k (by omega)) j
  rw [hi]
  by_cases h1 : Nat.succ i ≤ j
  ·rw [if_pos h1, if_pos (by omega)]
   obtain ⟨m, rfl⟩ : ∃ m, j = i + 1 + m := ⟨j - (i + 1), by omega⟩
   rw [show i + 1 + m - i = m + 1 by omega, show i + 1 + m - Nat.succ i = m by omega]
   rfl
  ·rw [if_neg h1, BT]
   by_cases h2 : j = i
   ·subst h2
    rw [if_pos rfl, if_pos (Nat.le_refl _), ht j (Nat.le_refl _)]
    simp
   ·rw [if_neg h2, if_neg (by omega)]
theorem D1 {P : Program} {pls : Plans} (h : gx P pls = true) : pn P (uJ P pls) := by
 intro f
 have e : (uJ P pls).get f = (P.funcs[f]?).bind (fun fn => jV P fn (ko pls f)) := by
  unfold uJ
  rw [pB P pls _ 0 .leaf (fun _ _ => rfl) f, if_pos (Nat.zero_le _)]
  simp
 split
 ·rename_i hf; rw [e, hf]; rfl
 ·rename_i fn hf
  split
  ·rename_i hb; rw [e, hf]; simp only [Option.bind_some, jV, hb]
  ·rename_i c hb
   obtain ⟨ff, h1, h2⟩ := y4 hb (wa h f fn hf)
   exact ⟨ff, by rw [e, hf]; exact h1, h2⟩
end
end Go.HL
namespace Go.HL
open Go
set_option linter.unusedVariables false
/-! ## Memories by lists -/
noncomputable section
def dy : List (Nat × aG) → Nat → Option aG
 | [], _ => none
 | p :: l, k => if k = p.1 then some p.2 else dy l k
def ir (t : T aG) : List (Nat × aG) → T aG
 | [] => t
 | p :: l => (ir t l).set p.1 p.2
theorem kH (t : T aG) : ∀ (l : List (Nat × aG)) (k : Nat), (ir t l).get k = (dy l k).or (t.get k)
 | [], k => rfl
 | p :: l, k => by
  simp only [ir, dy]
  rw [T.uW]
  split
  ·rfl
  ·exact kH t l k
theorem dV : ∀ {l : List (Nat × aG)} {k : Nat} {o : aG}, dy l k = some o → (k, o) ∈ l
 | p :: l, k, o, h => by
  simp only [dy] at h
  split at h
  ·rename_i hk; cases h; rw [hk]; exact List.mem_cons_self
  ·exact List.mem_cons_of_mem _ (dV h)
def qp : List (Nat × aG) → Nat → Bool
 | [], _ => false
 | p :: l, k => ae (Nat.beq k p.1) true (qp l k)
theorem qo : ∀ {l : List (Nat × aG)} {k : Nat}, qp l k = true ↔ ∃ o, dy l k = some o
 | [], k => by simp [qp, dy]
 | p :: l, k => by
  simp only [qp, dy, bcE, bD]
  by_cases h : k = p.1
  ·simp [h]
  ·simp [h, qo (l := l)]
def Fy : List cS → List cS → Bool
 | [], [] => true
 | a :: l, b :: m => ae (aa.beq a.key b.key) (ae (aa.beq a.val b.val) (ae (Nat.beq a.born b.born) (Fy l m) false) false) false
 | _, _ => false
def ES (a b : Bool) : Bool := ae a b (ae b false true)
def MU : aG → aG → Bool
 | .cells l e s r, .cells l' e' s' r' => ae (Nat.beq e e') (ae (ES s s') (ae (ES r r') (rV l l') false) false) false
 | .map l c r, .map l' c' r' => ae (Nat.beq c c') (ae (ES r r') (Fy l l') false) false
 | .dead, .dead => true
 | .iter none, .iter none => true
 | .iter (some a), .iter (some b) => Nat.beq a b
 | _, _ => false
theorem bcFe {b t : Bool} : ae b t false = true ↔ b = true ∧ t = true := by cases b <;> simp
theorem ui : ∀ {l m : List cS}, Fy l m = true → l = m
 | [], [], _ => rfl
 | a :: l, b :: m, h => by
  simp only [Fy, bcFe] at h
  obtain ⟨h1, h2, h3, h4⟩ := h
  obtain ⟨ak, av, ab⟩ := a
  obtain ⟨bk, bv, bb⟩ := b
  simp only at h1 h2 h3
  rw [ig _ _ h1, ig _ _ h2, Nat.eq_of_beq_eq_true h3, ui h4]
 | [], _ :: _, h => by cases h
 | _ :: _, [], h => by cases h
theorem nH {a b : Bool} (h : ES a b = true) : a = b := by cases a <;> cases b <;> first | rfl | cases h
theorem Dz {a b : aG} (h : MU a b = true) : a = b := by
 unfold MU at h
 split at h
 ·simp only [bcFe] at h
  obtain ⟨h1, h2, h3, h4⟩ := h
  rw [Nat.eq_of_beq_eq_true h1, nH h2, nH h3, fS _ _ h4]
 ·simp only [bcFe] at h
  obtain ⟨h1, h2, h3⟩ := h
  rw [Nat.eq_of_beq_eq_true h1, nH h2, ui h3]
 ·rfl
 ·rfl
 ·rw [Nat.eq_of_beq_eq_true h]
 ·cases h
def zB (h : Heap) : List (Nat × aG) → Bool
 | [] => true
 | p :: l => ae (match h.get p.1 with | some o => MU o p.2 | none => false) (zB h l) false
theorem lF {h : Heap} : ∀ {l : List (Nat × aG)}, zB h l = true → ∀ {k : Nat} {o : aG}, (k, o) ∈ l → h.get k = some o
 | p :: l, e, k, o, hm => by
  simp only [zB, bcFe] at e
  rcases List.mem_cons.1 hm with rfl | hm
  ·cases hg : h.get k with
   | none => simp only [hg] at e; exact absurd e.1 (by simp)
   | some o' => simp only [hg] at e; rw [Dz e.1]
  ·exact lF e.2 hm
/-! ## Known calls -/
structure sh where
 f : Nat
 args : List aa
 next : Nat
 nk : List (Nat × aG)
 res : aa
 next' : Nat
 bO : List (Nat × aG)
def sh.lU (e : sh) : Heap := ⟨e.next, ir .leaf e.nk⟩
def Lf (e : sh) : List (Nat × aG) → Bool
 | [] => true
 | p :: l => ae p.2.live (ae (qp e.bO p.1) (ae (Nat.blt p.1 e.next) (Lf e l) false) false) false
def F0 (e : sh) : List (Nat × aG) → Bool
 | [] => true
 | p :: l => ae (ae (qp e.nk p.1) true (ae p.2.owned true (ae p.2.live false true))) (F0 e l) false
def Ix (run : ah) (e : sh) : Bool := match run e.f e.args e.lU with
 | some r => match r.1 with
  | .ret v => ae (aa.beq v e.res) (ae (Nat.beq r.2.next e.next') (ae (zB r.2 e.bO) (ae (Lf e e.nk) (F0 e e.bO) false) false) false) false
  | _ => false
 | none => false
def gq (run : ah) (e : sh) : Bool := ae (Nat.blt e.f bd) (Ix run e) false
def known : List sh → ah
 | [], _, _, _ => none
 | e :: l, f, args, h => ae (Nat.beq e.f f) (ae (ae (rV e.args args) (ae (Nat.beq e.next h.next) (zB h e.nk) false) false) (some (.ret e.res, ⟨e.next', ir h.t e.bO⟩)) (known l f args h)) (known l f args h)
end
section
variable {P : Program}
theorem ry {e : sh} : ∀ {l : List (Nat × aG)}, Lf e l = true → ∀ {k : Nat} {o : aG}, (k, o) ∈ l → o.live = true ∧ (∃ o', dy e.bO k = some o') ∧ k < e.next
 | p :: l, h, k, o, hm => by
  simp only [Lf, bcFe] at h
  obtain ⟨h1, h2, h3, h4⟩ := h
  rcases List.mem_cons.1 hm with rfl | hm
  ·exact ⟨h1, qo.1 h2, by rw [eW] at h3; exact of_decide_eq_true h3⟩
  ·exact ry h4 hm
theorem yE {e : sh} : ∀ {l : List (Nat × aG)}, F0 e l = true → ∀ {k : Nat} {o : aG}, (k, o) ∈ l → (∃ o', dy e.nk k = some o') ∨ o.owned = true ∨ o.live = false
 | p :: l, h, k, o, hm => by
  simp only [F0, bcFe] at h
  obtain ⟨h1, h2⟩ := h
  rcases List.mem_cons.1 hm with rfl | hm
  ·cases hk : qp e.nk k with
   | true => exact .inl (qo.1 hk)
   | false =>
    simp only [hk, bcF] at h1
    cases ho : o.owned with
    | true => exact .inr (.inl rfl)
    | false =>
     simp only [ho, bcF] at h1
     cases hl : o.live with
     | true => simp only [hl, bcT] at h1; cases h1
     | false => exact .inr (.inr rfl)
  ·exact yE h2 hm
def pz (P : Program) (e : sh) : Prop := ∃ run, aX P run ∧ gq run e = true
theorem pz.lt {e : sh} (h : pz P e) : e.f < bd := by
 obtain ⟨_, _, hp⟩ := h
 unfold gq at hp
 obtain ⟨h1, _⟩ := bcFe.1 hp
 rw [eW] at h1
 exact of_decide_eq_true h1
theorem lT (e : sh) (k : Nat) : e.lU.get k = dy e.nk k := by
 show (ir .leaf e.nk).get k = _
 rw [kH]
 show (dy e.nk k).or none = _
 cases dy e.nk k <;> rfl
theorem JK {e : sh} (hf : pz P e) {h : Heap} (hn : e.next = h.next) (hs : zB h e.nk = true) {σ : aj} {w : World} (hr : Rel P σ h w) {vs : List Value} (hv : ao σ e.args vs) :
  Calls P e.f ⟨vs⟩ w fun x w' => ∃ τ, Step P σ h w τ ⟨e.next', ir h.t e.bO⟩ w' ∧ si τ (.ret e.res) x := by
 have hlt := hf.lt
 obtain ⟨run, hrun, hp0⟩ := hf
 have hp := (bcFe.1 hp0).2
 unfold Ix at hp
 cases he : run e.f e.args e.lU with
 | none => rw [he] at hp; cases hp
 | some r =>
  obtain ⟨cr, h1⟩ := r
  rw [he] at hp
  cases cr with
  | c8 v => cases hp
  | ret v =>
   simp only [bcFe] at hp
   obtain ⟨e1, e2, e3, e4, e5⟩ := hp
   have hres := ig _ _ e1
   subst hres
   have hnx : h1.next = e.next' := Nat.eq_of_beq_eq_true e2
   have hsub : ∀ {k o}, e.lU.get k = some o → h.get k = some o := by
    intro k o hk
    rw [lT] at hk
    exact lF hs (dV hk)
   have nk : Rel P σ e.lU w := by
    refine ⟨fun k o p hk => hr.obj k o p (hsub hk), fun k hk => hr.fresh k (by rw [← hn]; exact hk), fun k o hk => ?_, hr.o7, fun k k' o o' p p' hk hk' => hr.inj k k' o o' p p' (hsub hk) (hsub hk'), hr.od⟩
    show k < e.next
    rw [hn]; exact hr.uZ k o (hsub hk)
   refine ((hrun e.f e.args e.lU _ h1 he σ w vs nk hv).1 hlt).mono fun x w' ⟨τ, st, hc⟩ => ⟨τ, ?_, hc⟩
   have hget : ∀ k, (⟨e.next', ir h.t e.bO⟩ : Heap).get k = (dy e.bO k).or (h.get k) := fun k => kH h.t e.bO k
   have bO : ∀ {k o}, dy e.bO k = some o → h1.get k = some o := fun hk => lF e3 (dV hk)
   have hlow : ∀ k, k < h.next → τ k = σ k := fun k hk => st.low k (by show k < e.next; rw [hn]; exact hk)
   have hnext : h.next ≤ e.next' := by rw [← hn, ← hnx]; exact st.next
   -- what is kept of the rest
   have hrest : ∀ {k o p}, dy e.bO k = none → h.get k = some o → o.live = true → σ k = some p → w'.heap[p.bN]? = w.heap[p.bN]? := by
    intro k o p hk ho hl hp
    refine st.kept.block p.bN (hr.o7 k p hp) ?_
    rintro ⟨k', o', p', hk', ho', hp', hb⟩
    have hk2 := hsub hk'
    have : k' ≠ k := by
     rintro rfl
     rw [lT] at hk'
     obtain ⟨_, ⟨o2, ho2⟩, _⟩ := ry e4 (dV hk')
     rw [hk] at ho2; cases ho2
    exact hr.inj k' k o' o p' p hk2 ho ho' hl this hp' hp hb
   have hownIn : ∀ b, My σ e.lU b → ∃ k o p, dy e.nk k = some o ∧ h.get k = some o ∧ o.owned = true ∧ σ k = some p ∧ p.bN = b := by
    rintro b ⟨k, o, p, hk, ho, hp, hb⟩
    exact ⟨k, o, p, by rw [← lT]; exact hk, hsub hk, ho, hp, hb⟩
   have hhin : ∀ {k o}, dy e.nk k = some o → ∃ o', dy e.bO k = some o' := fun hk => (ry e4 (dV hk)).2.1
   refine ⟨st.le, ?_, ?_, ?_, hnext, hlow, ?_⟩
   ·-- the memories
    refine ⟨?_, ?_, ?_, st.rel.o7, ?_, st.rel.od⟩
    ·intro k o p hk hl hp
     rw [hget] at hk
     cases hk2 : dy e.bO k with
     | some o2 =>
      rw [hk2] at hk
      cases hk
      exact st.rel.obj k o p (bO hk2) hl hp
     | none =>
      rw [hk2] at hk
      have hk' : h.get k = some o := hk
      have hp' : σ k = some p := by rw [← hlow k (hr.uZ k o hk')]; exact hp
      rw [hrest hk2 hk' hl hp']
      exact (hr.obj k o p hk' hl hp').mono st.le
    ·intro k hk
     exact st.rel.fresh k (by rw [hnx]; exact hk)
    ·intro k o hk
     rw [hget] at hk
     show k < e.next'
     cases hk2 : dy e.bO k with
     | some o2 => rw [← hnx]; exact st.rel.uZ k o2 (bO hk2)
     | none =>
      rw [hk2] at hk
      have hk' : h.get k = some o := hk
      exact Nat.lt_of_lt_of_le (hr.uZ k o hk') hnext
    ·intro k k' o o' p p' hk hk' ho ho' hne hp hp'
     rw [hget] at hk hk'
     cases hk2 : dy e.bO k with
     | some o2 =>
      rw [hk2] at hk; cases hk
      cases hk2' : dy e.bO k' with
      | some o2' =>
       rw [hk2'] at hk'; cases hk'
       exact st.rel.inj k k' o o' p p' (bO hk2) (bO hk2') ho ho' hne hp hp'
      | none =>
       rw [hk2'] at hk'
       have hk3 : h.get k' = some o' := hk'
       have hp3 : σ k' = some p' := by rw [← hlow k' (hr.uZ k' o' hk3)]; exact hp'
       intro hb
       have hlt : p.bN < w.heap.size := by rw [hb]; exact hr.o7 k' p' hp3
       obtain ⟨q, oq, pq, g1, g2, g3, g4, g5⟩ := hownIn p.bN (st.own p.bN hlt ⟨k, o, p, bO hk2, ho, hp, rfl⟩)
       have hq : q ≠ k' := by
        rintro rfl
        obtain ⟨o9, h9⟩ := hhin g1
        rw [hk2'] at h9; cases h9
       exact hr.inj q k' oq o' pq p' g2 hk3 g3 ho' hq g4 hp3 (g5.trans hb)
     | none =>
      rw [hk2] at hk
      have hk3 : h.get k = some o := hk
      have hp3 : σ k = some p := by rw [← hlow k (hr.uZ k o hk3)]; exact hp
      cases hk2' : dy e.bO k' with
      | none =>
       rw [hk2'] at hk'
       have hk4 : h.get k' = some o' := hk'
       have hp4 : σ k' = some p' := by rw [← hlow k' (hr.uZ k' o' hk4)]; exact hp'
       exact hr.inj k k' o o' p p' hk3 hk4 ho ho' hne hp3 hp4
      | some o2' =>
       rw [hk2'] at hk'; cases hk'
       intro hb
       rcases yE e5 (dV hk2') with ⟨oi, hi⟩ | hown | hdead
       ·have hi2 : h.get k' = some oi := lF hs (dV hi)
        have hlive := (ry e4 (dV hi)).1
        have hp4 : σ k' = some p' := by rw [← hlow k' (hr.uZ k' oi hi2)]; exact hp'
        exact hr.inj k k' o oi p p' hk3 hi2 ho hlive hne hp3 hp4 hb
       ·have hlt : p'.bN < w.heap.size := by rw [← hb]; exact hr.o7 k p hp3
        obtain ⟨q, oq, pq, g1, g2, g3, g4, g5⟩ := hownIn p'.bN (st.own p'.bN hlt ⟨k', o', p', bO hk2', hown, hp', rfl⟩)
        have hq : q ≠ k := by
         rintro rfl
         obtain ⟨o9, h9⟩ := hhin g1
         rw [hk2] at h9; cases h9
        exact hr.inj q k oq o pq p g2 hk3 g3 (aG.lf ho) hq g4 hp3 (g5.trans hb.symm)
       ·rw [hdead] at ho'; cases ho'
   ·-- the blocks
    refine ⟨st.kept.os, st.kept.tape, st.kept.output, st.kept.size, fun b hb hno => st.kept.block b hb fun hown => hno ?_⟩
    obtain ⟨k, o, p, hk, ho, hp, hpb⟩ := hown
    exact ⟨k, o, p, hsub hk, ho, hp, hpb⟩
   ·rintro b hb ⟨k, o, p, hk, ho, hp, hpb⟩
    rw [hget] at hk
    cases hk2 : dy e.bO k with
    | some o2 =>
     rw [hk2] at hk; cases hk
     obtain ⟨q, oq, pq, g1, g2, g3, g4, g5⟩ := hownIn b (st.own b hb ⟨k, o, p, bO hk2, ho, hp, hpb⟩)
     exact ⟨q, oq, pq, g2, g3, g4, g5⟩
    | none =>
     rw [hk2] at hk
     have hk3 : h.get k = some o := hk
     exact ⟨k, o, p, hk3, ho, by rw [← hlow k (hr.uZ k o hk3)]; exact hp, hpb⟩
   ·intro k hk hn0
    rw [hget]
    cases hk2 : dy e.bO k with
    | none => rfl
    | some o2 =>
     have h2 := bO hk2
     have h3 := st.idle k (by show k < e.next; rw [hn]; exact hk) hn0
     rw [h2] at h3
     show some o2 = h.get k
     exact (hsub h3.symm).symm
theorem BY : ∀ e ∈ ([] : List sh), pz P e := fun _ h => by cases h
theorem p7 {e : sh} {es : List sh} (h : pz P e) (hs : ∀ x ∈ es, pz P x) : ∀ x ∈ e :: es, pz P x := by
 intro x hx
 rcases List.mem_cons.1 hx with rfl | hx
 ·exact h
 ·exact hs x hx
theorem nY : ∀ {es : List sh}, (∀ e ∈ es, pz P e) → aX P (known es)
 | [], _ => fun f args h cr h' e => by cases e
 | e :: l, hf => by
  intro f args h cr h' hc
  simp only [known] at hc
  have hrest := nY (es := l) fun x hx => hf x (by simp [hx])
  cases h1 : Nat.beq e.f f with
  | false => rw [h1, bcF] at hc; exact hrest f args h cr h' hc
  | true =>
   rw [h1, bcT] at hc
   cases h2 : ae (rV e.args args) (ae (Nat.beq e.next h.next) (zB h e.nk) false) false with
   | false => rw [h2, bcF] at hc; exact hrest f args h cr h' hc
   | true =>
    rw [h2, bcT] at hc
    cases hc
    simp only [bcFe] at h2
    obtain ⟨g1, g2, g3⟩ := h2
    have ef := Nat.eq_of_beq_eq_true h1
    have ea := fS _ _ g1
    subst ef
    subst ea
    intro σ w vs hr hv
    have hlt := (hf e (by simp)).lt
    exact ⟨fun _ => JK (hf e (by simp)) (Nat.eq_of_beq_eq_true g2) g3 hr hv, fun hge => absurd hlt (Nat.not_lt.2 hge)⟩
end
end Go.HL
