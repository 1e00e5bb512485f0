/- HL, run by the kernel: the fast evaluator; known calls. No statement of the seat stands here. -/
import Derived.Test.YtngeipnhbigdmaaGreatDoorHlA
import Derived.Test.YtngeipnhbigdmaaGreatDoorHlD
import Derived.Test.YtngeipnhbigdmaaGreatDoorHlF
namespace Go.HL
open Go
noncomputable section
set_option linter.unusedVariables false
def GJ (P : Program) (ρ : Operand → ad) (h : Heap) (x : Operand) : Option Out := some (.val (ρ x) h)
def BX (P : Program) (ρ : Operand → ad) (h : Heap) (x : Operand) : Option Out := some (.val (ρ x) h)
def GH (P : Program) (ρ : Operand → ad) (h : Heap) (c : Operand) (a : Operand) (b : Operand) : Option Out := ob (ρ c).isBool fun t => some (.val (ae t (ρ a) (ρ b)) h)
def EI (P : Program) (ρ : Operand → ad) (h : Heap) (e : TypeId) : Option Out := ob (ah P e) fun z => some (.val (.ptr h.next 0) (h.new (.cells z e false true)))
def Iz (P : Program) (ρ : Operand → ad) (h : Heap) (e : TypeId) (x : Operand) : Option Out := ob (ρ x).cells fun l => some (.val (.ptr h.next 0) (h.new (.cells l e false true)))
def EG (P : Program) (ρ : Operand → ad) (h : Heap) (t : TypeId) (parts : Array (Nat × Operand)) : Option Out := ob (ah P t) fun z => match P.underlying t with
  | some (.struct fields) => ae (iP P fields.toList) (ob (placesOf P fields.toList ρ parts.toList) fun l => ob (eY l z) fun cs => some (.val (.agg cs) h)) none
  | some (.array _ e) => ob (P.info? e) fun _ => ob (eY (parts.toList.map fun p => (Nat.mul p.1 (P.cellsOf e), P.cellsOf e, ρ p.2)) z) fun cs => some (.val (.agg cs) h)
  | _ => none
def uL (P : Program) (ρ : Operand → ad) (h : Heap) (t : TypeId) (len : Nat) (parts : Array (Nat × Operand)) : Option Out := match P.underlying t with
  | some (.slice e) => ae (Nat.ble (Nat.mul len (P.cellsOf e)) 16777216)
    (ob (ah P e) fun z => ae (Nat.beq z.length (P.cellsOf e)) (ob (eY (parts.toList.map fun p => (Nat.mul p.1 (P.cellsOf e), P.cellsOf e, ρ p.2)) (fO len z)) fun cs =>
     some (.val (.slice h.next 0 len (some len)) (h.new (.cells cs e false true)))) none) none
  | _ => none
def GK (P : Program) (ρ : Operand → ad) (h : Heap) (t : TypeId) (a : Operand) : Option Out := ob (ρ a).dv fun a => val h (loadT P h t a.1 a.2)
def Ez (P : Program) (ρ : Operand → ad) (h : Heap) (t : TypeId) (a : Operand) (v : Operand) : Option Out := ob (P.info? t) fun _ => ob (ρ a).dv fun a => ob (ρ v).cells fun l => ae (Nat.beq l.length (P.cellsOf t)) (ob (ix h a.1 a.2 l) fun h' => some (.val bD h')) none
def yp (P : Program) (ρ : Operand → ad) (h : Heap) (x : Operand) : Option Out := match ρ x with
  | .ptr k off => some (.val (.ptr k off) h)
  | .func f a b => some (.val (.func f a b) h)
  | _ => none
def EH (P : Program) (ρ : Operand → ad) (h : Heap) (op : BinOp) (t : TypeId) (x : Operand) (y : Operand) (x_4 : TypeId) : Option Out := val h (jK P op t (ae (isLit x) true (isLit y)) (ρ x) (ρ y))
def GG (P : Program) (ρ : Operand → ad) (h : Heap) (op : UnOp) (x_1 : TypeId) (x : Operand) : Option Out := val h (Jq op (ρ x))
def zS (P : Program) (ρ : Operand → ad) (h : Heap) (s : TypeId) (d : TypeId) (x : Operand) : Option Out := match cN P s d with
  | some _ => yS (ρ x) h
  | none => k9 P s d (ρ x) h
def pZ (P : Program) (ρ : Operand → ad) (h : Heap) (t : TypeId) (x : Operand) : Option Out := match P.underlying t with
  | some (.interface _) => none
  | some _ => some (.val (.iface t (ρ x)) h)
  | none => none
def yr (P : Program) (ρ : Operand → ad) (h : Heap) (ff : Fn) (first : Array Operand) (cap : Array Operand) : Option Out := match ff with
  | .func f => some (.val (.func f (first.toList.map ρ) (cap.toList.map ρ)) h)
  | _ => none
def zQ (P : Program) (ρ : Operand → ad) (h : Heap) (t : TypeId) (r : Option Operand) : Option Out := match P.underlying t with
  | some (.map _ _) => match r with
   | none => some (.val (.map h.next) (h.new (.map [] 0 true)))
   | some x => ob (ρ x).isInt fun _ => some (.val (.map h.next) (h.new (.map [] 0 true)))
  | _ => none
def wy (P : Program) (ρ : Operand → ad) (h : Heap) (t : TypeId) (l : Operand) (c : Operand) : Option Out := match P.underlying t with
  | some (.slice e) => ob (ρ l).isNat fun l => ob (ρ c).isNat fun c => ae (Nat.ble l c) (ae (Nat.ble (Nat.mul (P.bytesOf e) c) fj) (ae (Nat.ble c fj)
    (ob (ah P e) fun z => ae (Nat.beq z.length (P.cellsOf e)) (some (.val (.slice h.next 0 l (some c)) (h.new (.cells (fO c z) e false true)))) none) none) none) none
  | _ => none
def EA (P : Program) (ρ : Operand → ad) (h : Heap) (t : TypeId) (x : Operand) (lo : Option Operand) (hi : Option Operand) (mx : Option Operand) : Option Out := ae (cg P t) (val h (iy P h t (ρ x) (lo.map ρ) (hi.map ρ) (mx.map ρ))) none
def wA (P : Program) (ρ : Operand → ad) (h : Heap) (t : TypeId) (x : Operand) (f : Nat) : Option Out := match P.underlying t with
  | some (.struct fields) => ob (ρ x).dv fun a => ob fields[f]? fun fd => ae (Nat.beq (P.cellsOf fd.type) 0) none (some (.val (.ptr a.1 (Nat.add a.2 fd.offset)) h))
  | _ => none
def EE (P : Program) (ρ : Operand → ad) (h : Heap) (t : TypeId) (x : Operand) (f : Nat) : Option Out := match P.underlying t with
  | some (.struct fields) => ob (ρ x).isAgg fun cs => ob fields[f]? fun fd => val h (jS P fd.type cs fd.offset)
  | _ => none
def wz (P : Program) (ρ : Operand → ad) (h : Heap) (t : TypeId) (x : Operand) (i : Operand) : Option Out := ae (cg P t) (ob (ρ i).isNat fun i => match P.underlying t with
  | some (.array n e) => ob (ρ x).dv fun a => ae (Nat.blt i n) (some (.val (.ptr a.1 (Nat.add a.2 (Nat.mul i (P.cellsOf e)))) h)) none
  | some (.slice e) => match ρ x with
   | .slice k off n _ => ae (Nat.blt i n) (some (.val (.ptr k (Nat.add off (Nat.mul i (P.cellsOf e)))) h)) none
   | _ => none
  | _ => none) none
def ED (P : Program) (ρ : Operand → ad) (h : Heap) (t : TypeId) (x : Operand) (i : Operand) : Option Out := ae (cg P t) (ob (ρ i).isNat fun i => match P.underlying t with
  | some (.array n e) => ob (ρ x).isAgg fun cs => ae (Nat.blt i n) (val h (jS P e cs (Nat.mul i (P.cellsOf e)))) none
  | some .string => match ρ x with
   | .str n c => ae (Nat.blt i n) (some (.val (.int .u8 (Int.ofNat (dP n c i))) h)) none
   | _ => none
  | _ => none) none
def BV (P : Program) (ρ : Operand → ad) (h : Heap) (t : TypeId) (x : Operand) (i : Operand) (ok : Bool) : Option Out := nY P t (ρ x) (ρ i) ok h
def wx (P : Program) (ρ : Operand → ad) (h : Heap) (t : TypeId) (m : Operand) (k : Operand) (v : Operand) : Option Out := jO P t (ρ m) (ρ k) (ρ v) h
def BW (P : Program) (ρ : Operand → ad) (h : Heap) (t : TypeId) (m : Operand) (k : Operand) (v : Operand) : Option Out := jO P t (ρ m) (ρ k) (ρ v) h
def yq (P : Program) (ρ : Operand → ad) (h : Heap) (t : TypeId) (m : Operand) (k : Operand) : Option Out := yL P t (ρ m) (ρ k) h
def uK (P : Program) (ρ : Operand → ad) (h : Heap) (x_0 : TypeId) (m : Operand) (s : Operand) (v : Operand) : Option Out := ob (ρ m).lh fun r => ob (ρ s).isNat fun n => ob (h.entries r) fun o => ae o.2.2
   (ob (vS n o.1) fun e => some (.val bD (h.put r (.map (o.1.set e.1 ⟨e.2.key, ρ v, e.2.born⟩) o.2.1 true)))) none
def uJ (P : Program) (ρ : Operand → ad) (h : Heap) (x : Operand) (x_1 : TypeId) (asserted : TypeId) (ok : Bool) : Option Out := match P.underlying asserted with
  | some (.interface _) => none
  | some _ => match ρ x with
   | .hZ => ae ok (ob (hJ P asserted) fun z => some (.val (.tuple [z, .bool false]) h)) none
   | .iface t v => ae (Nat.beq t asserted) (some (.val (ae ok (.tuple [v, .bool true]) v) h))
     (ae ok (ob (hJ P asserted) fun z => some (.val (.tuple [z, .bool false]) h)) none)
   | _ => none
  | none => none
def EB (P : Program) (ρ : Operand → ad) (h : Heap) (t : TypeId) (x : Operand) : Option Out := ym P t (ρ x) h
def GI (P : Program) (ρ : Operand → ad) (h : Heap) (it : Operand) (str : Bool) : Option Out := Dm (ρ it) str h
def zR (P : Program) (ρ : Operand → ad) (h : Heap) (x : Operand) (i : Nat) : Option Out := ob (ρ x).isTuple fun l => val h (nth l i)
def GL (P : Program) (ρ : Operand → ad) (h : Heap) (c : Call) : Option Out := match c.callee with
  | .builtin b => dc P b c.argTypes (c.args.toList.map ρ) h
  | .value f => match ρ f with
   | .func f first cap => oO P f (first ++ (c.args.toList.map ρ ++ cap)) h
   | .yield k => some (.enter (Nat.add b7 k) (c.args.toList.map ρ) h)
   | _ => none
  | .invoke recv name => match ρ recv with
   | .iface t x => ob (tE P t name) fun f => oO P f (x :: c.args.toList.map ρ) h
   | _ => none
def EF (P : Program) (ρ : Operand → ad) (h : Heap) (c : Call) : Option Out := match c.callee with
  | .value f => match ρ f with
   | .func f first cap => some (.defer f (first ++ (c.args.toList.map ρ ++ cap)) h)
   | _ => none
  | _ => none
def EC (P : Program) (ρ : Operand → ad) (h : Heap) (x : Operand) : Option Out := match ρ x with
  | .iface t v => some (.bV (.iface t v) h)
  | _ => none
def Nl (P : Program) (ρ : Operand → ad) (h : Heap) (o : Oper) : Option Out :=
 @Op.rec (fun _ => Program → (Operand → ad) → Heap → Option Out) (fun a0 P ρ h => GJ P ρ h a0) (fun a0 P ρ h => BX P ρ h a0) (fun a0 a1 a2 P ρ h => GH P ρ h a0 a1 a2) (fun a0 P ρ h => EI P ρ h a0) (fun a0 a1 P ρ h => Iz P ρ h a0 a1) (fun a0 a1 P ρ h => EG P ρ h a0 a1) (fun a0 a1 a2 P ρ h => uL P ρ h a0 a1 a2) (fun a0 a1 a2 a3 P ρ h => BW P ρ h a0 a1 a2 a3) (fun a0 a1 P ρ h => GK P ρ h a0 a1) (fun a0 a1 a2 P ρ h => Ez P ρ h a0 a1 a2) (fun _ _ _ _ => none) (fun _ _ _ _ => none) (fun a0 P ρ h => yp P ρ h a0) (fun a0 a1 a2 a3 a4 P ρ h => EH P ρ h a0 a1 a2 a3 a4) (fun a0 a1 a2 P ρ h => GG P ρ h a0 a1 a2) (fun a0 a1 a2 P ρ h => zS P ρ h a0 a1 a2) (fun _ _ _ _ _ => none) (fun a0 a1 P ρ h => pZ P ρ h a0 a1) (fun a0 a1 a2 P ρ h => yr P ρ h a0 a1 a2) (fun a0 a1 P ρ h => zQ P ρ h a0 a1) (fun _ _ _ _ _ => none) (fun a0 a1 a2 P ρ h => wy P ρ h a0 a1 a2) (fun a0 a1 a2 a3 a4 P ρ h => EA P ρ h a0 a1 a2 a3 a4) (fun a0 a1 a2 P ρ h => wA P ρ h a0 a1 a2) (fun a0 a1 a2 P ρ h => EE P ρ h a0 a1 a2) (fun a0 a1 a2 P ρ h => wz P ρ h a0 a1 a2) (fun a0 a1 a2 P ρ h => ED P ρ h a0 a1 a2) (fun a0 a1 a2 a3 P ρ h => BV P ρ h a0 a1 a2 a3) (fun a0 a1 a2 a3 P ρ h => wx P ρ h a0 a1 a2 a3) (fun a0 a1 a2 P ρ h => yq P ρ h a0 a1 a2) (fun a0 a1 a2 a3 P ρ h => uK P ρ h a0 a1 a2 a3) (fun a0 a1 P ρ h => EB P ρ h a0 a1) (fun a0 a1 P ρ h => GI P ρ h a0 a1) (fun _ _ _ _ => none) (fun a0 a1 a2 a3 P ρ h => uJ P ρ h a0 a1 a2 a3) (fun a0 a1 P ρ h => zR P ρ h a0 a1) (fun a0 P ρ h => GL P ρ h a0) (fun _ _ _ _ => none) (fun a0 P ρ h => EF P ρ h a0) (fun a0 P ρ h => EC P ρ h a0) (fun _ _ _ _ _ => none) (fun _ _ _ _ _ _ => none) (fun _ _ _ _ _ => none) o.op P ρ h
theorem Kf (P : Program) (ρ : Operand → ad) (h : Heap) (o : Oper) : Nl P ρ h o = bO P ρ h o := by
 unfold Nl bO
 generalize o.op = p
 cases p <;> first | rfl | skip
 rename_i f a b
 cases f <;> rfl
end
end Go.HL
namespace Go.HL
open Go
noncomputable section
set_option linter.unusedVariables false
abbrev Sl := List (Nat × ad)
def mY (x : ad) (f : Nat → Nat → aL) (z : aL) : aL :=
 @ad.rec (fun _ => (Nat → Nat → aL) → aL → aL) (fun _ => PUnit) (fun _ z => z) (fun _ _ z => z) (fun _ _ _ z => z) (fun _ _ _ z => z) (fun _ z => z) (fun p o f z => f p o) (fun _ z => z) (fun _ _ _ _ _ z => z) (fun _ z => z) (fun _ _ z => z) (fun _ z => z) (fun _ _ _ _ _ _ z => z) (fun _ z => z) (fun _ _ _ _ z => z) (fun _ _ _ z => z) (fun _ _ _ z => z) (fun _ _ z => z) (fun _ _ z => z) (fun _ _ _ _ z => z) (fun _ z => z) (fun _ _ z => z) PUnit.unit (fun _ _ _ _ => PUnit.unit) x f z
def rA (x : ad) (f : Bool → aL) (z : aL) : aL :=
 @ad.rec (fun _ => (Bool → aL) → aL → aL) (fun _ => PUnit) (fun _ z => z) (fun b f z => f b) (fun _ _ _ z => z) (fun _ _ _ z => z) (fun _ z => z) (fun _ _ _ z => z) (fun _ z => z) (fun _ _ _ _ _ z => z) (fun _ z => z) (fun _ _ z => z) (fun _ z => z) (fun _ _ _ _ _ _ z => z) (fun _ z => z) (fun _ _ _ _ z => z) (fun _ _ _ z => z) (fun _ _ _ z => z) (fun _ _ z => z) (fun _ _ z => z) (fun _ _ _ _ z => z) (fun _ z => z) (fun _ _ z => z) PUnit.unit (fun _ _ _ _ => PUnit.unit) x f z
def xe (x : ad) (f : Nat → Nat → aL) (z : aL) : aL :=
 @ad.rec (fun _ => (Nat → Nat → aL) → aL → aL) (fun _ => PUnit) (fun _ z => z) (fun _ _ z => z) (fun _ _ _ z => z) (fun n c f z => f n c) (fun _ z => z) (fun _ _ _ z => z) (fun _ z => z) (fun _ _ _ _ _ z => z) (fun _ z => z) (fun _ _ z => z) (fun _ z => z) (fun _ _ _ _ _ _ z => z) (fun _ z => z) (fun _ _ _ _ z => z) (fun _ _ _ z => z) (fun _ _ _ z => z) (fun _ _ z => z) (fun _ _ z => z) (fun _ _ _ _ z => z) (fun _ z => z) (fun _ _ z => z) PUnit.unit (fun _ _ _ _ => PUnit.unit) x f z
def mv (x : ad) (f : IntKind → Nat → aL) (z : aL) : aL :=
 @ad.rec (fun _ => (IntKind → Nat → aL) → aL → aL) (fun _ => PUnit) (fun _ z => z) (fun _ _ z => z) (fun k n f z => @Int.rec (fun _ => (IntKind → Nat → aL) → aL → aL) (fun m f _ => f k m) (fun _ _ z => z) n f z) (fun _ _ _ z => z) (fun _ z => z) (fun _ _ _ z => z) (fun _ z => z) (fun _ _ _ _ _ z => z) (fun _ z => z) (fun _ _ z => z) (fun _ z => z) (fun _ _ _ _ _ _ z => z) (fun _ z => z) (fun _ _ _ _ z => z) (fun _ _ _ z => z) (fun _ _ _ z => z) (fun _ _ z => z) (fun _ _ z => z) (fun _ _ _ _ z => z) (fun _ z => z) (fun _ _ z => z) PUnit.unit (fun _ _ _ _ => PUnit.unit) x f z
def JB (x : ad) (f : Nat → aL) (z : aL) : aL :=
 @ad.rec (fun _ => (Nat → aL) → aL → aL) (fun _ => PUnit) (fun _ z => z) (fun _ _ z => z) (fun _ _ _ z => z) (fun _ _ _ z => z) (fun _ z => z) (fun _ _ _ z => z) (fun f z => f 0) (fun p o l c f z => f l) (fun _ z => z) (fun _ _ z => z) (fun _ z => z) (fun _ _ _ _ _ _ z => z) (fun _ z => z) (fun _ _ _ _ z => z) (fun _ _ _ z => z) (fun _ _ _ z => z) (fun _ _ z => z) (fun _ _ z => z) (fun _ _ _ _ z => z) (fun f z => f 0) (fun k f z => f 0) PUnit.unit (fun _ _ _ _ => PUnit.unit) x f z
def Dd (x : ad) (f : Nat → Nat → Nat → aL) (z : aL) : aL :=
 @ad.rec (fun _ => (Nat → Nat → Nat → aL) → aL → aL) (fun _ => PUnit) (fun _ z => z) (fun _ _ z => z) (fun _ _ _ z => z) (fun _ _ _ z => z) (fun _ z => z) (fun _ _ _ z => z) (fun _ z => z) (fun p o l c f z => f p o l) (fun _ z => z) (fun _ _ z => z) (fun _ z => z) (fun _ _ _ _ _ _ z => z) (fun _ z => z) (fun _ _ _ _ z => z) (fun _ _ _ z => z) (fun _ _ _ z => z) (fun _ _ z => z) (fun _ _ z => z) (fun _ _ _ _ z => z) (fun _ z => z) (fun _ _ z => z) PUnit.unit (fun _ _ _ _ => PUnit.unit) x f z
def yu (x : ad) (f : List ad → aL) (z : aL) : aL :=
 @ad.rec (fun _ => (List ad → aL) → aL → aL) (fun _ => PUnit) (fun _ z => z) (fun _ _ z => z) (fun _ _ _ z => z) (fun _ _ _ z => z) (fun _ z => z) (fun _ _ _ z => z) (fun _ z => z) (fun _ _ _ _ _ z => z) (fun _ z => z) (fun _ _ z => z) (fun _ z => z) (fun _ _ _ _ _ _ z => z) (fun _ z => z) (fun _ _ _ _ z => z) (fun _ _ _ z => z) (fun l _ f z => f l) (fun _ _ z => z) (fun _ _ z => z) (fun _ _ _ _ z => z) (fun _ z => z) (fun _ _ z => z) PUnit.unit (fun _ _ _ _ => PUnit.unit) x f z
def onCells (x : ad) (f : List ad → aL) (z : aL) : aL :=
 @ad.rec (fun _ => (List ad → aL) → aL → aL) (fun _ => PUnit) (fun _ z => z) (fun b f z => f [.bool b]) (fun k n f z => f [.int k n]) (fun n c f z => f [.str n c]) (fun f z => f [.fK ]) (fun p o f z => f [.ptr p o]) (fun f z => f [.aD ]) (fun p o l c f z => f [.slice p o l c]) (fun f z => f [.lV ]) (fun p f z => f [.map p]) (fun f z => f [.mF ]) (fun g a b _ _ f z => f [.func g a b]) (fun f z => f [.hZ ]) (fun t v _ f z => f [.iface t v]) (fun l _ f z => f l) (fun _ _ _ z => z) (fun k f z => f [.yield k]) (fun k f z => f [.mark k]) (fun k lo hi f z => f [.BJ k lo hi]) (fun f z => f [.empty ]) (fun k f z => f [.rest k]) PUnit.unit (fun _ _ _ _ => PUnit.unit) x f z
def JA (x : ad) (f : ad → aL) (z : aL) : aL :=
 @ad.rec (fun _ => (ad → aL) → aL → aL) (fun _ => PUnit) (fun _ z => z) (fun _ _ z => z) (fun _ _ _ z => z) (fun _ _ _ z => z) (fun _ z => z) (fun p o f z => f (.ptr p o)) (fun _ z => z) (fun _ _ _ _ _ z => z) (fun _ z => z) (fun _ _ z => z) (fun _ z => z) (fun g a b _ _ f z => f (.func g a b)) (fun _ z => z) (fun _ _ _ _ z => z) (fun _ _ _ z => z) (fun _ _ _ z => z) (fun _ _ z => z) (fun _ _ z => z) (fun _ _ _ _ z => z) (fun _ z => z) (fun _ _ z => z) PUnit.unit (fun _ _ _ _ => PUnit.unit) x f z
def De (x : ad) (f : Bool → aL) (no z : aL) : aL :=
 @ad.rec (fun _ => (Bool → aL) → aL → aL → aL) (fun _ => PUnit) (fun f no z => z) (fun b f no z => f b) (fun _ _ f no z => z) (fun _ _ f no z => z) (fun f no z => z) (fun _ _ f no z => z) (fun f no z => z) (fun _ _ _ _ f no z => z) (fun f no z => z) (fun _ f no z => z) (fun f no z => z) (fun _ _ _ _ _ f no z => z) (fun f no z => z) (fun _ _ _ f no z => z) (fun _ _ f no z => z) (fun _ _ f no z => no) (fun _ f no z => z) (fun _ f no z => z) (fun _ _ _ f no z => z) (fun f no z => z) (fun _ f no z => z) PUnit.unit (fun _ _ _ _ => PUnit.unit) x f no z
def kN (x : ad) (f : ad → aL) : aL :=
 @ad.rec (fun _ => (ad → aL) → aL) (fun _ => PUnit) (fun f => f .bad) (fun b f => f (.bool b)) (fun k n f => f (.int k n)) (fun n c f => f (.str n c)) (fun f => f .fK) (fun p o f => f (.ptr p o)) (fun f => f .aD) (fun p o l c f => f (.slice p o l c)) (fun f => f .lV) (fun p f => f (.map p)) (fun f => f .mF) (fun g a b _ _ f => f (.func g a b)) (fun f => f .hZ) (fun t v _ f => f (.iface t v)) (fun l _ f => f (.agg l)) (fun l _ f => f (.tuple l)) (fun k f => f (.yield k)) (fun k f => f (.mark k)) (fun k lo hi f => f (.BJ k lo hi)) (fun f => f .empty) (fun k f => f (.rest k)) PUnit.unit (fun _ _ _ _ => PUnit.unit) x f
def ja (b : Bool) (f : Bool → aL) : aL := @Bool.rec (fun _ => aL) (f false) (f true) b
def cG (n : Nat) (k : Nat → aL) : aL := @Nat.rec (fun _ => aL) (k 0) (fun m _ => k (Nat.succ m)) n
def fx (b : Bool) (t e : aL) : aL := @Bool.rec (fun _ => aL) e t b
/-! ## Lists -/
def sA (l : Sl) (d : ad) (t : Nat) : ad :=
 @List.rec (Nat × ad) (fun _ => ad → Nat → ad) (fun d _ => d) (fun p _ ih d t => @Bool.rec (fun _ => ad) (ih d t) p.2 (Nat.beq p.1 t)) l d t
def zM (l : Sl) (key : Nat) (v : ad) (k : Sl → aL) : aL :=
 @List.rec (Nat × ad) (fun _ => Nat → ad → (Sl → aL) → aL) (fun key v k => k [(key, v)])
  (fun p t ih key v k => @Bool.rec (fun _ => aL) (ih key v fun r => k (p :: r)) (k ((key, v) :: t)) (Nat.beq p.1 key)) l key v k
def GO (l : List ad) (n : Nat) (f : ad → aL) (z : aL) : aL :=
 @List.rec ad (fun _ => Nat → (ad → aL) → aL → aL) (fun _ _ z => z) (fun v _ ih n f z => @Nat.rec (fun _ => aL) (f v) (fun m _ => ih m f z) n) l n f z
def D1 (l : List ad) (n : Nat) (k : List ad → aL) (z : aL) : aL :=
 @List.rec ad (fun _ => Nat → (List ad → aL) → aL → aL) (fun n k z => @Nat.rec (fun _ => aL) (k []) (fun _ _ => z) n)
  (fun v _ ih n k z => @Nat.rec (fun _ => aL) (k []) (fun m _ => ih m (fun t => k (v :: t)) z) n) l n k z
def Hz (l : List ad) (n : Nat) : List ad :=
 @List.rec ad (fun _ => Nat → List ad) (fun _ => []) (fun v t ih n => @Nat.rec (fun _ => List ad) (v :: t) (fun m _ => ih m) n) l n
def xb (l : List ad) (n : Nat) (w : List ad) (k : List ad → aL) (z : aL) : aL :=
 @List.rec ad (fun _ => Nat → List ad → (List ad → aL) → aL → aL) (fun _ w k z => @List.rec ad (fun _ => aL) (k []) (fun _ _ _ => z) w)
  (fun v t ih n w k z => @Nat.rec (fun _ => aL) (@List.rec ad (fun _ => aL) (k (v :: t)) (fun x w' _ => ih 0 w' (fun r => k (x :: r)) z) w) (fun m _ => ih m w (fun r => k (v :: r)) z) n) l n w k z
def F3 (l : List ad) : Nat := @List.rec ad (fun _ => Nat) 0 (fun _ _ ih => Nat.succ ih) l
/-! ## Memory -/
def LO (t : T aE) (n : Nat) : Option aE :=
 @T.rec aE (fun _ => Nat → Option aE) (fun _ => none)
  (fun _ v _ gl gr n => @Nat.rec (fun _ => Option aE) v (fun m _ => @Bool.rec (fun _ => Option aE) (gr (Nat.div m 2)) (gl (Nat.div m 2)) (Nat.beq (Nat.mod m 2) 0)) n) t n
def pk (h : Heap) (p : Nat) (f : List ad → Nat → Bool → Bool → aL) (z : aL) : aL :=
 @Option.rec aE (fun _ => (List ad → Nat → Bool → Bool → aL) → aL → aL) (fun _ z => z)
  (fun o f z => @aE.rec (fun _ => (List ad → Nat → Bool → Bool → aL) → aL → aL) (fun l e s r f _ => f l e s r) (fun _ _ _ _ z => z) (fun _ _ z => z) (fun _ z => z) (fun _ z => z) (fun _ _ _ _ _ _ _ z => z) o f z) (LO h.t p) f z
def BA (a : aE) (fuel : Nat) (t : T aE) (n : Nat) (k : T aE → aL) : aL :=
 @Nat.rec (fun _ => aE → T aE → Nat → (T aE → aL) → aL) (fun _ t _ k => k t)
  (fun _ ih a t n k => @T.rec aE (fun _ => aE → (aE → T aE → Nat → (T aE → aL) → aL) → Nat → (T aE → aL) → aL)
   (fun a ih n k => @Nat.rec (fun _ => aL) (k (.node .leaf (some a) .leaf)) (fun m _ => @Bool.rec (fun _ => aL) (ih a .leaf (Nat.div m 2) fun t => k (.node .leaf none t)) (ih a .leaf (Nat.div m 2) fun t => k (.node t none .leaf)) (Nat.beq (Nat.mod m 2) 0)) n)
   (fun l v r _ _ a ih n k => @Nat.rec (fun _ => aL) (k (.node l (some a) r)) (fun m _ => @Bool.rec (fun _ => aL) (ih a r (Nat.div m 2) fun t => k (.node l v t)) (ih a l (Nat.div m 2) fun t => k (.node t v r)) (Nat.beq (Nat.mod m 2) 0)) n)
   t a ih n k) fuel a t n k
def Kb (h : Heap) (p : Nat) (o : aE) (k : Heap → aL) : aL := BA o (Nat.succ p) h.t p fun t => k ⟨h.next, t⟩
def C3 (h : Heap) (o : aE) (k : Nat → Heap → aL) : aL := BA o (Nat.succ h.next) h.t h.next fun t => cG (Nat.succ h.next) fun n => k h.next ⟨n, t⟩
def y5 (h : Heap) (p off : Nat) (l : List ad) (k : Heap → aL) (z : aL) : aL :=
 pk h p (fun c e s r => fx r (xb c off l (fun c => Kb h p (.cells c e s true) k) z) z) z
/-! ## Operands, operations -/
inductive cI where
 | loc (t : Nat)
 | var (t : Nat)
 | val (v : ad)
def cI.get (a : cI) (loc vars : Sl) : ad := @cI.rec (fun _ => Sl → Sl → ad) (fun t loc vars => sA loc (sA vars .bad t) t) (fun t _ vars => sA vars .bad t) (fun v _ _ => v) a loc vars
abbrev Kt := ad → Heap → aL
abbrev jM := Program → ai → Sl → Sl → Heap → Kt → aL → aL
def Hh (a : cI) : jM := fun P call loc vars heap k z => kN (a.get loc vars) fun v => k v heap
inductive wa where
 | mk (g : jM)
 | O6 (a : cI)
def wa.run (o : wa) : jM := @wa.rec (fun _ => jM) (fun g => g) (fun a => Hh a) o
abbrev F1 := ad → (ad → aL) → aL → aL
abbrev F2 := ad → ad → (ad → aL) → aL → aL
def aJ (P : Program) (m : Nat) (x : Operand) : cI := match x with
 | .tmp t => ae (bit m t) (.var t) (.loc t)
 | x => .val (Env.eval P ⟨[], []⟩ x)
def bA (P : Program) (m : Nat) (loc vars : Sl) (x : Operand) : ad := (aJ P m x).get loc vars
def Gj (r : Option (pB × Heap)) (k : Kt) (z : aL) : aL :=
 @Option.rec (pB × Heap) (fun _ => Kt → aL → aL) (fun _ z => z) (fun r k z => @pB.rec (fun _ => Heap → Kt → aL → aL) (fun v h k _ => kN v fun v => k v h) (fun _ _ _ z => z) r.1 r.2 k z) r k z
def ow (r : Option Out) (call : ai) (k : Kt) (z : aL) : aL :=
 @Option.rec Out (fun _ => ai → Kt → aL → aL) (fun _ _ z => z) (fun o call k z => @Out.rec (fun _ => ai → Kt → aL → aL) (fun v h _ k _ => force v fun v => k v h) (fun f args h call k z => Gj (call f args h) k z)
  (fun _ _ _ _ _ z => z) (fun _ _ _ z => z) (fun _ _ _ _ z => z) o call k z) r call k z
def ct (m : Nat) (o : Oper) : jM := fun P call loc vars heap k z => ow (Nl P (bA P m loc vars) heap o) call k z
def Hg (c a b : cI) : jM := fun P call loc vars heap k z => rA (c.get loc vars) (fun t => fx t (kN (a.get loc vars) fun v => k v heap) (kN (b.get loc vars) fun v => k v heap)) z
def Dz (a : cI) : jM := fun P call loc vars heap k z => mY (a.get loc vars) (fun p o => pk heap p (fun l _ _ _ => GO l o (fun v => k v heap) z) z) z
def Dy (n : Nat) (a : cI) : jM := fun P call loc vars heap k z => mY (a.get loc vars) (fun p o => pk heap p (fun l _ _ _ => D1 (Hz l o) n (fun l => k (.agg l) heap) z) z) z
def Dx (n : Nat) (a v : cI) : jM := fun P call loc vars heap k z =>
 mY (a.get loc vars) (fun p o => onCells (v.get loc vars) (fun l => fx (Nat.beq (F3 l) n) (y5 heap p o l (fun h => k bD h) z) z) z) z
def DB (l : List ad) (e : Nat) : jM := fun P call loc vars heap k z => C3 heap (.cells l e false true) fun p h => k (.ptr p 0) h
def JI (e : Nat) (a : cI) : jM := fun P call loc vars heap k z => onCells (a.get loc vars) (fun l => C3 heap (.cells l e false true) fun p h => k (.ptr p 0) h) z
def Nt (f : F1) (m : Nat) (o : Oper) (a : cI) : jM := fun P call loc vars heap k z => f (a.get loc vars) (fun v => k v heap) (ct m o P call loc vars heap k z)
def go2 (f : F2) (m : Nat) (o : Oper) (a b : cI) : jM := fun P call loc vars heap k z => f (a.get loc vars) (b.get loc vars) (fun v => k v heap) (ct m o P call loc vars heap k z)
def Am (cnt n : Nat) (a i : cI) : jM := fun P call loc vars heap k z =>
 mv (i.get loc vars) (fun _ i => mY (a.get loc vars) (fun p o => fx (Nat.blt i cnt) (cG (Nat.add o (Nat.mul i n)) fun q => k (.ptr p q) heap) z) z) z
def Al (n : Nat) (a i : cI) : jM := fun P call loc vars heap k z =>
 mv (i.get loc vars) (fun _ i => Dd (a.get loc vars) (fun p o len => fx (Nat.blt i len) (cG (Nat.add o (Nat.mul i n)) fun q => k (.ptr p q) heap) z) z) z
def An (n : Nat) (a : cI) : jM := fun P call loc vars heap k z => mY (a.get loc vars) (fun p o => cG (Nat.add o n) fun q => k (.ptr p q) heap) z
def Ak (a i : cI) : jM := fun P call loc vars heap k z =>
 mv (i.get loc vars) (fun _ i => xe (a.get loc vars) (fun n c => fx (Nat.blt i n) (cG (dP n c i) fun b => k (.int .u8 (Int.ofNat b)) heap) z) z) z
def Hi (a : cI) : jM := fun P call loc vars heap k z => xe (a.get loc vars) (fun n _ => k (.int .i64 (Int.ofNat n)) heap) z
def Hj (a : cI) : jM := fun P call loc vars heap k z => JB (a.get loc vars) (fun n => k (.int .i64 (Int.ofNat n)) heap) z
def JH (a : cI) : jM := fun P call loc vars heap k z => JA (a.get loc vars) (fun v => k v heap) z
def Hk (kd : IntKind) (m : Nat) (o : Oper) (a : cI) : jM := fun P call loc vars heap k z =>
 mv (a.get loc vars) (fun _ n => fx (Nat.ble n (aG kd)) (k (.int kd (Int.ofNat n)) heap) (ct m o P call loc vars heap k z)) (ct m o P call loc vars heap k z)
def xr (a : cI) (i : Nat) : jM := fun P call loc vars heap k z => yu (a.get loc vars) (fun l => GO l i (fun v => kN v fun v => k v heap) z) z
def DP (l : List cI) (loc vars : Sl) (k : List ad → aL) : aL :=
 @List.rec cI (fun _ => Sl → Sl → (List ad → aL) → aL) (fun _ _ k => k []) (fun a _ ih loc vars k => kN (a.get loc vars) fun v => ih loc vars fun r => k (v :: r)) l loc vars k
def Hl (f : Nat) (args : List cI) : jM := fun P call loc vars heap k z => DP args loc vars fun vs => Gj (call f vs heap) k z
def Az (l : List (Nat × Nat × cI)) (loc vars : Sl) (cells : List ad) (k : List ad → aL) (z : aL) : aL :=
 @List.rec (Nat × Nat × cI) (fun _ => Sl → Sl → List ad → (List ad → aL) → aL → aL) (fun _ _ cells k _ => k cells)
  (fun p _ ih loc vars cells k z => onCells (p.2.2.get loc vars) (fun v => fx (Nat.beq p.2.1 0) z (fx (Nat.beq (F3 v) p.2.1) (xb cells p.1 v (fun c => ih loc vars c k z) z) z)) z) l loc vars cells k z
def DA (parts : List (Nat × Nat × cI)) (zl : List ad) : jM := fun P call loc vars heap k z => Az parts loc vars zl (fun cs => k (.agg cs) heap) z
def Ao (parts : List (Nat × Nat × cI)) (zl : List ad) (e len : Nat) : jM := fun P call loc vars heap k z =>
 Az parts loc vars zl (fun cs => C3 heap (.cells cs e false true) fun p h => k (.slice p 0 len (some len)) h) z
/-! ## Numbers -/
def Dl (x y : ad) (g : IntKind → Nat → Nat → aL) (z : aL) : aL :=
 mv x (fun kx m => mv y (fun ky n => fx (Nat.beq (aG kx) (aG ky)) (g kx m n) z) z) z
def ME : F2 := fun x y f z => Dl x y (fun k m n => cG (Nat.add m n) fun s => fx (Nat.ble s (aG k)) (f (.int k (Int.ofNat s))) z) z
def Lk : F2 := fun x y f z => Dl x y (fun k m n => fx (Nat.ble n m) (fx (Nat.ble m (aG k)) (cG (Nat.sub m n) fun s => f (.int k (Int.ofNat s))) z) z) z
def LH : F2 := fun x y f z => Dl x y (fun k m n => cG (Nat.mul m n) fun s => fx (Nat.ble s (aG k)) (f (.int k (Int.ofNat s))) z) z
def LI : F2 := fun x y f z => Dl x y (fun _ m n => ja (Nat.blt m n) fun b => f (.bool b)) z
def LJ : F2 := fun x y f z => Dl x y (fun _ m n => ja (Nat.ble m n) fun b => f (.bool b)) z
def LN : F2 := fun x y f z => Dl x y (fun _ m n => ja (Nat.blt n m) fun b => f (.bool b)) z
def LQ : F2 := fun x y f z => Dl x y (fun _ m n => ja (Nat.ble n m) fun b => f (.bool b)) z
def LY : F2 := fun x y f z => Dl x y (fun _ m n => ja (Nat.beq m n) fun b => f (.bool b)) z
def LC : F2 := fun x y f z => Dl x y (fun _ m n => ja (Nat.beq m n) fun b => f (.bool (ae b false true))) z
def MC : F2 := fun x y f z => Dl x y (fun k m n => fx (Nat.ble m (aG k)) (fx (Nat.ble n (aG k)) (cG (Nat.land m n) fun s => f (.int k (Int.ofNat s))) z) z) z
def O5 : F2 := fun x y f z => Dl x y (fun k m n => fx (Nat.ble m (aG k)) (fx (Nat.ble n (aG k)) (cG (Nat.lor m n) fun s => f (.int k (Int.ofNat s))) z) z) z
def Ga : F2 := fun x y f z => xe x (fun n c => xe y (fun m d => ja (zx n c m d) fun b => f (.bool b)) z) z
def Lz : F1 := fun x f z => rA x (fun b => fx b (f (.bool false)) (f (.bool true))) z
def M4 : F1 := fun x f z => mv x (fun k n => fx (Nat.blt 3 (gG k)) (fx (Nat.ble n (aG k)) (cG (Nat.sub (aG k) n) fun s => f (.int k (Int.ofNat s))) z) z) z
/-! ## Regions whose order is fixed -/
inductive jH where
 | no
 | on (a : cI) (want : Bool)
 | stuck
def CX (g : jH) (loc vars : Sl) (yes no z : aL) : aL :=
 @jH.rec (fun _ => Sl → Sl → aL → aL → aL → aL) (fun _ _ yes _ _ => yes) (fun a w loc vars yes no z => De (a.get loc vars) (fun b => fx (ae w b (ae b false true)) yes no) no z) (fun _ _ _ _ z => z) g loc vars yes no z
inductive z7 where
 | none
 | loc (d : Nat)
 | var (d : Nat)
abbrev RK := Program → ai → Sl → Sl → Heap → (Sl → Heap → aL) → aL → aL
def Ek (ds : z7) (v : ad) (ih : RK) : RK := @z7.rec (fun _ => ad → RK → RK) (fun _ ih => ih) (fun d v ih P call loc vars heap k z => ih P call ((d, v) :: loc) vars heap k z)
 (fun d v ih P call loc vars heap k z => zM vars d v fun vars => ih P call loc vars heap k z) ds v ih
inductive gQ where
 | nil
 | cons (g : jH) (ds : z7) (op : wa) (rest : gQ)
 | opL (d : Nat) (op : wa) (rest : gQ)
 | opV (d : Nat) (op : wa) (rest : gQ)
 | Nq (a : cI) (d : Nat) (rest : gQ)
 | Np (a : cI) (d : Nat) (rest : gQ)
def ye (r : gQ) : RK :=
 @gQ.rec (fun _ => RK) (fun _ _ _ vars heap k _ => k vars heap)
  (fun g ds op _ ih P call loc vars heap k z => CX g loc vars (op.run P call loc vars heap (fun v h => Ek ds v ih P call loc vars h k z) z) (Ek ds bD ih P call loc vars heap k z) z)
  (fun d op _ ih P call loc vars heap k z => op.run P call loc vars heap (fun v h => ih P call ((d, v) :: loc) vars h k z) z)
  (fun d op _ ih P call loc vars heap k z => op.run P call loc vars heap (fun v h => zM vars d v fun vars => ih P call loc vars h k z) z)
  (fun a d _ ih P call loc vars heap k z => kN (a.get loc vars) fun v => ih P call ((d, v) :: loc) vars heap k z)
  (fun a d _ ih P call loc vars heap k z => kN (a.get loc vars) fun v => zM vars d v fun vars => ih P call loc vars heap k z) r
def K4 (d : Nat) (op : wa) (rest : gQ) : gQ := @wa.rec (fun _ => Nat → wa → gQ → gQ) (fun _ d op rest => .opL d op rest) (fun a d _ rest => .Nq a d rest) op d op rest
def K3 (d : Nat) (op : wa) (rest : gQ) : gQ := @wa.rec (fun _ => Nat → wa → gQ → gQ) (fun _ d op rest => .opV d op rest) (fun a d _ rest => .Np a d rest) op d op rest
def HG (g : jH) (ds : z7) (op : wa) (rest : gQ) : gQ :=
 @jH.rec (fun _ => jH → z7 → wa → gQ → gQ) (fun g ds op rest => @z7.rec (fun _ => jH → z7 → wa → gQ → gQ) (fun g ds op rest => .cons g ds op rest) (fun d _ _ op rest => K4 d op rest) (fun d _ _ op rest => K3 d op rest) ds g ds op rest)
  (fun _ _ g ds op rest => .cons g ds op rest) (fun g ds op rest => .cons g ds op rest) g g ds op rest
theorem HF (g : jH) (ds : z7) (op : wa) (rest : gQ) : ye (HG g ds op rest) = ye (.cons g ds op rest) := by
 cases g <;> cases ds <;> cases op <;> rfl
end
end Go.HL
namespace Go.HL
open Go
noncomputable section
/-! ## What the recursors do -/
def oR {α : Type} (o : Option α) (f : α → aL) (z : aL) : aL := match o with | some a => f a | none => z
@[simp] theorem eK {α : Type} (a : α) (f : α → aL) (z : aL) : oR (some a) f z = f a := rfl
@[simp] theorem MM {α : Type} (f : α → aL) (z : aL) : oR (none : Option α) f z = z := rfl
theorem kM (x : ad) (f : ad → aL) : kN x f = f x := by cases x <;> rfl
@[simp] theorem fo (t e : aL) : fx true t e = t := rfl
@[simp] theorem rI (t e : aL) : fx false t e = e := rfl
theorem re (b : Bool) (f : Bool → aL) : ja b f = f b := by cases b <;> rfl
theorem eh (n : Nat) (k : Nat → aL) : cG n k = k n := by cases n <;> rfl
theorem uU (l : Sl) : ∀ (d : ad) (t : Nat), sA l d t = assoc l d t := by
 induction l with
 | nil => intro d t; rfl
 | cons p l ih =>
  intro d t
  show (@Bool.rec (fun _ => ad) (sA l d t) p.2 (Nat.beq p.1 t)) = @Bool.rec (fun _ => ad) (assoc l d t) p.2 (Nat.beq p.1 t)
  rw [ih]
theorem Da (l : Sl) (key : Nat) (v : ad) : ∀ (k : Sl → aL), zM l key v k = er l key v k := by
 induction l with
 | nil => intro k; rfl
 | cons p l ih =>
  intro k
  show (@Bool.rec (fun _ => aL) (zM l key v fun r => k (p :: r)) (k ((key, v) :: l)) (Nat.beq p.1 key)) = @Bool.rec (fun _ => aL) (er l key v fun r => k (p :: r)) (k ((key, v) :: l)) (Nat.beq p.1 key)
  rw [ih]
theorem Di (l : List ad) : ∀ (n : Nat) (f : ad → aL) (z : aL), GO l n f z = oR (nth l n) f z := by
 induction l with
 | nil => intro n f z; rfl
 | cons v l ih => intro n f z; cases n with
  | zero => rfl
  | succ m => exact ih m f z
theorem G8 (l : List ad) : ∀ (n : Nat) (k : List ad → aL) (z : aL), D1 l n k z = oR (eV l n some) k z := by
 induction l with
 | nil => intro n k z; cases n <;> rfl
 | cons v l ih => intro n k z; cases n with
  | zero => rfl
  | succ m =>
   show D1 l m (fun t => k (v :: t)) z = oR (eV l m fun t => some (v :: t)) k z
   rw [ih m, br, br]
   split <;> rfl
theorem Hy (l : List ad) : ∀ n, Hz l n = jz l n := by
 induction l with
 | nil => intro n; rfl
 | cons v l ih => intro n; cases n with
  | zero => rfl
  | succ m => exact ih m
theorem zP (l : List ad) : ∀ (n : Nat) (w : List ad) (k : List ad → aL) (z : aL), xb l n w k z = oR (gu l n w some) k z := by
 induction l with
 | nil => intro n w k z; cases w <;> rfl
 | cons v l ih => intro n w k z; cases n with
  | zero => cases w with
   | nil => rfl
   | cons x w =>
    show xb l 0 w (fun r => k (x :: r)) z = oR (gu l 0 w fun r => some (x :: r)) k z
    rw [ih 0, dJ, dJ]
    split <;> rfl
  | succ m =>
   show xb l m w (fun r => k (v :: r)) z = oR (gu l m w fun r => some (v :: r)) k z
   rw [ih m, dJ, dJ]
   split <;> rfl
theorem yD (l : List ad) : F3 l = l.length := by
 induction l with
 | nil => rfl
 | cons v l ih => show Nat.succ (F3 l) = _; rw [ih]; rfl
theorem IU (t : T aE) (n : Nat) : LO t n = t.get n := rfl
theorem rS (h : Heap) (p : Nat) (f : List ad → Nat → Bool → Bool → aL) (z : aL) : pk h p f z = oR (h.cells p) (fun o => f o.1 o.2.1 o.2.2.1 o.2.2.2) z := by
 unfold pk Heap.cells Heap.get
 rw [IU]
 cases h.t.get p with
 | none => rfl
 | some o => cases o <;> rfl
theorem D5 (a : aE) (fuel : Nat) : ∀ (t : T aE) (n : Nat) (k : T aE → aL), BA a fuel t n k = k (T.lF a fuel t n) := by
 induction fuel with
 | zero => intro t n k; rfl
 | succ f ih =>
  intro t n k
  cases t with
  | leaf => cases n with
   | zero => rfl
   | succ m =>
    show (@Bool.rec (fun _ => aL) (BA a f .leaf (m / 2) fun t => k (.node .leaf none t)) (BA a f .leaf (m / 2) fun t => k (.node t none .leaf)) (Nat.beq (m % 2) 0)) = k (@Bool.rec (fun _ => T aE) (T.node .leaf none (T.lF a f .leaf (m / 2))) (T.node (T.lF a f .leaf (m / 2)) none .leaf) (Nat.beq (m % 2) 0))
    rw [ih, ih]
    cases Nat.beq (m % 2) 0 <;> rfl
  | node l v r => cases n with
   | zero => rfl
   | succ m =>
    show (@Bool.rec (fun _ => aL) (BA a f r (m / 2) fun t => k (.node l v t)) (BA a f l (m / 2) fun t => k (.node t v r)) (Nat.beq (m % 2) 0)) = k (@Bool.rec (fun _ => T aE) (T.node l v (T.lF a f r (m / 2))) (T.node (T.lF a f l (m / 2)) v r) (Nat.beq (m % 2) 0))
    rw [ih, ih]
    cases Nat.beq (m % 2) 0 <;> rfl
theorem Iu (h : Heap) (p : Nat) (o : aE) (k : Heap → aL) : Kb h p o k = k (h.put p o) := by unfold Kb; rw [D5]; rfl
theorem yy (h : Heap) (o : aE) (k : Nat → Heap → aL) : C3 h o k = k h.next (h.new o) := by unfold C3; rw [D5, eh]; rfl
theorem E9 (h : Heap) (p off : Nat) (l : List ad) (k : Heap → aL) (z : aL) : y5 h p off l k z = oR (ix h p off l) k z := by
 unfold y5 ix
 rw [rS]
 cases h.cells p with
 | none => rfl
 | some o =>
  simp only [eK, obS]
  cases o.2.2.2 with
  | false => rfl
  | true =>
   simp only [fo, bcT]
   rw [zP, dJ, dJ]
   split
   ·simp only [eK]; rw [Iu]
   ·rfl
theorem cI.DC (t : Nat) (loc vars : Sl) : (cI.loc t).get loc vars = assoc loc (assoc vars .bad t) t := by
 show sA loc (sA vars .bad t) t = _
 rw [uU, uU]
theorem cI.IT (t : Nat) (loc vars : Sl) : (cI.var t).get loc vars = assoc vars .bad t := by
 show sA vars .bad t = _
 rw [uU]
section
variable {call : ai} {k : Kt} {z : aL}
@[simp] theorem L7 : ow none call k z = z := rfl
@[simp] theorem bW (v : ad) (h : Heap) : ow (some (.val v h)) call k z = k v h := by
 show force v (fun v => k v h) = _
 rw [force_eq]
@[simp] theorem oZ (f : Nat) (args : List ad) (h : Heap) : ow (some (.enter f args h)) call k z = Gj (call f args h) k z := rfl
theorem D7 (r : Option (pB × Heap)) : Gj r k z = match r with | some (.ret v, h) => k v h | _ => z := by
 rcases r with _ | ⟨_ | _, h⟩ <;> first | rfl | skip
 exact kM _ _
theorem eJ {α : Type} (o : Option α) (f : α → Option Out) : ow (ob o f) call k z = oR o (fun a => ow (f a) call k z) z := by cases o <;> rfl
theorem lN (b : Bool) (x : Option Out) : ow (ae b x none) call k z = fx b (ow x call k z) z := by cases b <;> rfl
theorem nT (h : Heap) (v : Option ad) : ow (val h v) call k z = oR v (fun v => k v h) z := by
 cases v with
 | none => rfl
 | some v => exact bW _ _
end
theorem GM {α β : Type} (o : Option α) (f : α → Option β) (g : β → aL) (z : aL) : oR (ob o f) g z = oR o (fun a => oR (f a) g z) z := by cases o <;> rfl
theorem mX (x : ad) (f : Nat → Nat → aL) (z : aL) : mY x f z = oR x.dv (fun a => f a.1 a.2) z := by cases x <;> rfl
theorem xf (x : ad) (f : Bool → aL) (z : aL) : rA x f z = oR x.isBool f z := by cases x <;> rfl
theorem BZ (x : ad) (f : List ad → aL) (z : aL) : yu x f z = oR x.isTuple f z := by cases x <;> rfl
theorem p0 (x : ad) (f : List ad → aL) (z : aL) : onCells x f z = oR x.cells f z := by cases x <;> rfl
theorem q0 (x : ad) (f : Nat → aL) (z : aL) : mv x (fun _ n => f n) z = oR x.isNat f z := by
 cases x <;> first | rfl | skip
 rename_i kd n
 cases n <;> rfl
/-! ## Numbers -/
theorem Ab {k j : IntKind} (h : Nat.beq (aG k) (aG j) = true) : k = j := by
 cases k <;> cases j <;> first | rfl | (exact absurd h (by decide))
theorem wh (k : IntKind) : sameKind k k = true := by cases k <;> rfl
def iq (f : F2) (op : BinOp) (t : TypeId) (P : Program) : Prop := ∀ x y k z, f x y k z = z ∨ ∃ v, eH P op t x y = some v ∧ f x y k z = k v
theorem kW {g : (ad → aL) → aL → IntKind → Nat → Nat → aL} {op : BinOp} {t : TypeId} {P : Program} (hs : op ≠ .shl) (hr : op ≠ .shr)
  (h : ∀ f z k m n, g f z k m n = z ∨ ∃ v, iL op k (Int.ofNat m) (Int.ofNat n) = some v ∧ g f z k m n = f v) : iq (fun x y f z => Dl x y (g f z) z) op t P := by
 intro x y f z
 cases x <;> try exact .inl rfl
 rename_i kx a
 cases a <;> try exact .inl rfl
 rename_i m
 cases y <;> try exact .inl rfl
 rename_i ky b
 cases b <;> try exact .inl rfl
 rename_i n
 show fx (Nat.beq (aG kx) (aG ky)) (g f z kx m n) z = z ∨ ∃ v, _ ∧ fx (Nat.beq (aG kx) (aG ky)) (g f z kx m n) z = f v
 cases hb : Nat.beq (aG kx) (aG ky) with
 | false => exact .inl rfl
 | true =>
  obtain rfl := Ab hb
  rcases h f z kx m n with h | ⟨v, h1, h2⟩
  ·exact .inl h
  ·refine .inr ⟨v, ?_, h2⟩
   show (match op with | .shl => _ | .shr => _ | op => ae (sameKind kx kx) (iL op kx (Int.ofNat m) (Int.ofNat n)) none) = _
   rw [wh]
   split <;> first | exact absurd rfl hs | exact absurd rfl hr | exact h1
theorem nK {k : IntKind} {n : Nat} (h : Nat.ble n (aG k) = true) : dj k (Int.ofNat n) = Int.ofNat n := by
 unfold dj
 show ae (Nat.ble n (aG k)) _ _ = _
 rw [h]; rfl
theorem zd {k : IntKind} {n : Nat} (h : n ≤ aG k) : k.wrap (Int.ofNat n) = Int.ofNat n := by
 have h2 : ((n : Int)) ≤ (aG k : Int) := by exact_mod_cast h
 cases k <;> simp only [aG] at h2 <;> simp only [IntKind.wrap, IntKind.bits, IntKind.signed, Int.ofNat_eq_natCast] <;> simp <;> omega
theorem xZ {k : IntKind} {n : Nat} (h : n ≤ aG k) : pJ k (Int.ofNat n) = n := by
 have h2 : ((n : Int)) ≤ (aG k : Int) := by exact_mod_cast h
 cases k <;> simp only [aG] at h2 <;> simp only [pJ, IntKind.bits, Int.ofNat_eq_natCast] <;> (have h3 : (0:Int) ≤ n := by omega) <;> (show Int.toNat ((n : Int) % _) = n) <;> (rw [Int.emod_eq_of_lt h3 (by omega)]; rfl)
theorem sE (k : IntKind) : ∃ j, aG k + 1 = 2 ^ j := by
 cases k
 ·exact ⟨7, rfl⟩
 ·exact ⟨15, rfl⟩
 ·exact ⟨31, rfl⟩
 ·exact ⟨63, rfl⟩
 ·exact ⟨8, rfl⟩
 ·exact ⟨16, rfl⟩
 ·exact ⟨32, rfl⟩
 ·exact ⟨64, rfl⟩
theorem FW (t : TypeId) (P : Program) : iq ME .add t P := by
 refine kW (g := fun f z k m n => cG (Nat.add m n) fun s => fx (Nat.ble s (aG k)) (f (.int k (Int.ofNat s))) z) (by simp) (by simp) fun f z k m n => ?_
 simp only [eh]
 cases hb : Nat.ble (Nat.add m n) (aG k) with
 | false => exact .inl rfl
 | true => exact .inr ⟨_, congrArg (fun i => some (ad.int k i)) (nK hb), rfl⟩
theorem EN (t : TypeId) (P : Program) : iq LH .mul t P := by
 refine kW (g := fun f z k m n => cG (Nat.mul m n) fun s => fx (Nat.ble s (aG k)) (f (.int k (Int.ofNat s))) z) (by simp) (by simp) fun f z k m n => ?_
 simp only [eh]
 cases hb : Nat.ble (Nat.mul m n) (aG k) with
 | false => exact .inl rfl
 | true => exact .inr ⟨_, congrArg (fun i => some (ad.int k i)) (nK hb), rfl⟩
theorem E6 (t : TypeId) (P : Program) : iq Lk .sub t P := by
 refine kW (g := fun f z k m n => fx (Nat.ble n m) (fx (Nat.ble m (aG k)) (cG (Nat.sub m n) fun s => f (.int k (Int.ofNat s))) z) z) (by simp) (by simp) fun f z k m n => ?_
 simp only [eh]
 cases hb : Nat.ble n m with
 | false => exact .inl rfl
 | true =>
  cases hc : Nat.ble m (aG k) with
  | false => exact .inl rfl
  | true =>
   refine .inr ⟨_, ?_, rfl⟩
   have h1 : n ≤ m := Nat.le_of_ble_eq_true hb
   have h2 : m ≤ aG k := Nat.le_of_ble_eq_true hc
   have e : Int.sub (Int.ofNat m) (Int.ofNat n) = Int.ofNat (Nat.sub m n) := by
    show (m : Int) - (n : Int) = ((m - n : Nat) : Int)
    omega
   show some (ad.int k (dj k (Int.sub (Int.ofNat m) (Int.ofNat n)))) = _
   rw [e, nK]
   exact Nat.ble_eq_true_of_le (Nat.le_trans (Nat.sub_le _ _) h2)
theorem nz {op : BinOp} (c : Nat → Nat → Bool) (hs : op ≠ .shl) (hr : op ≠ .shr) (h : ∀ k m n, iL op k (Int.ofNat m) (Int.ofNat n) = some (.bool (c m n))) (t : TypeId) (P : Program) :
  iq (fun x y f z => Dl x y (fun _ m n => ja (c m n) fun b => f (.bool b)) z) op t P := by
 refine kW (g := fun f z k m n => ja (c m n) fun b => f (.bool b)) hs hr fun f z k m n => ?_
 simp only [re]
 exact .inr ⟨_, h k m n, rfl⟩
theorem Dv (m n : Nat) : FZ (Int.ofNat m) (Int.ofNat n) = Nat.blt m n := by
 show ae (Nat.ble n m) false true = _
 rw [eE, fe, bcE]
 by_cases h : n ≤ m
 ·rw [decide_eq_true h, decide_eq_false (by omega)]; rfl
 ·rw [decide_eq_false h, decide_eq_true (by omega)]; rfl
theorem EO (t : TypeId) (P : Program) : iq LI .lss t P := nz _ (by simp) (by simp) (fun _ m n => by simp only [iL, Dv]) t P
theorem F0 (t : TypeId) (P : Program) : iq LJ .leq t P := nz _ (by simp) (by simp) (fun _ m n => rfl) t P
theorem Fg (t : TypeId) (P : Program) : iq LN .gtr t P := nz (fun m n => Nat.blt n m) (by simp) (by simp) (fun _ m n => by simp only [iL, Dv]) t P
theorem Fh (t : TypeId) (P : Program) : iq LQ .geq t P := nz (fun m n => Nat.ble n m) (by simp) (by simp) (fun _ m n => rfl) t P
theorem Fp (t : TypeId) (P : Program) : iq LY .eql t P := nz _ (by simp) (by simp) (fun _ m n => rfl) t P
theorem EM (t : TypeId) (P : Program) : iq LC .neq t P := by
 refine kW (g := fun f z k m n => ja (Nat.beq m n) fun b => f (.bool (ae b false true))) (by simp) (by simp) fun f z k m n => ?_
 simp only [re]
 exact .inr ⟨_, rfl, rfl⟩
theorem vU {op : BinOp} (c : Nat → Nat → Nat) (hs : op ≠ .shl) (hr : op ≠ .shr) (h : ∀ k m n, iL op k (Int.ofNat m) (Int.ofNat n) = some (.int k (k.wrap (Int.ofNat (c (pJ k (Int.ofNat m)) (pJ k (Int.ofNat n)))))))
  (hc : ∀ j m n, m < 2 ^ j → n < 2 ^ j → c m n < 2 ^ j) (t : TypeId) (P : Program) :
  iq (fun x y f z => Dl x y (fun k m n => fx (Nat.ble m (aG k)) (fx (Nat.ble n (aG k)) (cG (c m n) fun s => f (.int k (Int.ofNat s))) z) z) z) op t P := by
 refine kW (g := fun f z k m n => fx (Nat.ble m (aG k)) (fx (Nat.ble n (aG k)) (cG (c m n) fun s => f (.int k (Int.ofNat s))) z) z) hs hr fun f z k m n => ?_
 simp only [eh]
 cases hb : Nat.ble m (aG k) with
 | false => exact .inl rfl
 | true =>
  cases hd : Nat.ble n (aG k) with
  | false => exact .inl rfl
  | true =>
   refine .inr ⟨_, ?_, rfl⟩
   have h1 : m ≤ aG k := Nat.le_of_ble_eq_true hb
   have h2 : n ≤ aG k := Nat.le_of_ble_eq_true hd
   obtain ⟨j, hj⟩ := sE k
   rw [h, xZ h1, xZ h2, zd]
   have := hc j m n (by omega) (by omega)
   omega
theorem FV (t : TypeId) (P : Program) : iq MC .and t P := vU Nat.land (by simp) (by simp) (fun _ _ _ => rfl) (fun j m n h1 h2 => Nat.and_lt_two_pow m h2) t P
theorem Gy (t : TypeId) (P : Program) : iq O5 .or t P := vU Nat.lor (by simp) (by simp) (fun _ _ _ => rfl) (fun j m n h1 h2 => Nat.or_lt_two_pow h1 h2) t P
theorem zn (t : TypeId) (P : Program) : iq Ga .eql t P := by
 intro x y f z
 cases x <;> try exact .inl rfl
 cases y <;> try exact .inl rfl
 rename_i n c m d
 exact .inr ⟨.bool (zx n c m d), rfl, re (zx n c m d) fun b => f (.bool b)⟩
def DY (f : F1) (op : UnOp) : Prop := ∀ x k z, f x k z = z ∨ ∃ v, Jq op x = some v ∧ f x k z = k v
theorem EL : DY Lz .not := by
 intro x k z
 cases x <;> try exact .inl rfl
 rename_i b
 cases b <;> exact .inr ⟨_, rfl, rfl⟩
theorem FE : DY M4 .xor := by
 intro x f z
 cases x <;> try exact .inl rfl
 rename_i k a
 cases a <;> try exact .inl rfl
 rename_i n
 show fx (Nat.blt 3 (gG k)) (fx (Nat.ble n (aG k)) (cG (Nat.sub (aG k) n) fun s => f (.int k (Int.ofNat s))) z) z = z ∨ ∃ v, _ ∧ fx (Nat.blt 3 (gG k)) (fx (Nat.ble n (aG k)) (cG (Nat.sub (aG k) n) fun s => f (.int k (Int.ofNat s))) z) z = f v
 simp only [eh]
 cases hb : Nat.blt 3 (gG k) with
 | false => exact .inl rfl
 | true =>
  cases hd : Nat.ble n (aG k) with
  | false => exact .inl rfl
  | true =>
   refine .inr ⟨_, ?_, rfl⟩
   have h2 : n ≤ aG k := Nat.le_of_ble_eq_true hd
   show some (ad.int k (k.wrap (Int.ofNat (Nat.xor (pJ k (Int.ofNat n)) (Nat.sub (Nat.pow 2 k.bits) 1))))) = _
   have hk : Nat.sub (Nat.pow 2 k.bits) 1 = aG k := by cases k <;> first | rfl | (exact absurd hb (by decide))
   obtain ⟨j, hj⟩ := sE k
   have e : Nat.xor n (aG k) = Nat.sub (aG k) n := by
    show n ^^^ aG k = aG k - n
    have h3 : aG k = 2 ^ j - 1 := by omega
    rw [h3, Nat.sub_right_comm, Nat.sub_sub]
    apply Nat.eq_of_testBit_eq
    intro i
    rw [Nat.testBit_xor, Nat.testBit_two_pow_sub_one, Nat.testBit_two_pow_sub_succ (n := j) (x := n) (by omega)]
    by_cases hi : i < j
    ·simp [hi]
    ·have : n.testBit i = false := Nat.testBit_lt_two_pow (Nat.lt_of_lt_of_le (by omega : n < 2 ^ j) (Nat.pow_le_pow_right (by omega) (by omega)))
     simp [hi, this]
   rw [xZ h2, hk, e]
   exact congrArg (fun i => some (ad.int k i)) (zd (Nat.sub_le (aG k) n))
end
end Go.HL
namespace Go.HL
open Go
noncomputable section
def IX (op : BinOp) (d : Option TypeDesc) : Option F2 := match d with
 | some (.int _) => match op with
  | .add => some ME | .sub => some Lk | .mul => some LH | .lss => some LI | .leq => some LJ | .gtr => some LN | .geq => some LQ | .eql => some LY | .neq => some LC
  | .and => some MC | .or => some O5 | _ => none
 | some .string => match op with
  | .eql => some Ga
  | _ => none
 | _ => none
def IY (op : UnOp) : Option F1 := match op with
 | .not => some Lz
 | .xor => some M4
 | _ => none
def pW (P : Program) (m : Nat) (fields : List Field) : List (Nat × Operand) → Option (List (Nat × Nat × cI))
 | [] => some []
 | p :: rest => ob (nth fields p.1) fun f => ob (pW P m fields rest) fun l => some ((f.offset, P.cellsOf f.type, aJ P m p.2) :: l)
def AN (P : Program) (m : Nat) (o : Oper) : Option jM := match o.op with
 | .move x => some (Hh (aJ P m x))
 | .assign x => some (Hh (aJ P m x))
 | .pick c a b => some (Hg (aJ P m c) (aJ P m a) (aJ P m b))
 | .load t a => ob (gj P t) fun b => some (ae b (Dy (P.cellsOf t) (aJ P m a)) (Dz (aJ P m a)))
 | .store t a v => ob (P.info? t) fun _ => some (Dx (P.cellsOf t) (aJ P m a) (aJ P m v))
 | .alloc e => ob (ah P e) fun z => some (DB z e)
 | .box e x => some (JI e (aJ P m x))
 | .nilCheck x => some (JH (aJ P m x))
 | .binOp op t x y _ => ob (IX op (P.underlying t)) fun f => some (go2 f m o (aJ P m x) (aJ P m y))
 | .unOp op _ x => ob (IY op) fun f => some (Nt f m o (aJ P m x))
 | .fieldAddr t x f => match P.underlying t with
  | some (.struct fields) => ob fields[f]? fun fd => ae (Nat.beq (P.cellsOf fd.type) 0) none (some (An fd.offset (aJ P m x)))
  | _ => none
 | .indexAddr t x i => ae (cg P t) (match P.underlying t with
  | some (.slice e) => some (Al (P.cellsOf e) (aJ P m x) (aJ P m i))
  | some (.array n e) => some (Am n (P.cellsOf e) (aJ P m x) (aJ P m i))
  | _ => none) none
 | .index t x i => ae (cg P t) (match P.underlying t with
  | some .string => some (Ak (aJ P m x) (aJ P m i))
  | _ => none) none
 | .convert s d x => match P.underlying d with
  | some (.int k) => ob (P.underlying s) fun _ => some (Hk k m o (aJ P m x))
  | _ => none
 | .extract x i => some (xr (aJ P m x) i)
 | .build t parts => ob (ah P t) fun z => match P.underlying t with
  | some (.struct fields) => ae (iP P fields.toList) (ob (pW P m fields.toList parts.toList) fun l => some (DA l z)) none
  | _ => none
 | .buildSlice t len parts => match P.underlying t with
  | some (.slice e) => ae (Nat.ble (Nat.mul len (P.cellsOf e)) 16777216)
    (ob (ah P e) fun z => ae (Nat.beq z.length (P.cellsOf e)) (some (Ao (parts.toList.map fun p => (Nat.mul p.1 (P.cellsOf e), P.cellsOf e, aJ P m p.2)) (fO len z) e len)) none) none
  | _ => none
 | .call c => match c.callee with
  | .builtin .len => match c.args.toList with
   | [x] => match c.argTypes[0]? with
    | some t => match P.underlying t with
     | some .string => some (Hi (aJ P m x))
     | some (.slice _) => some (Hj (aJ P m x))
     | _ => none
    | none => none
   | _ => none
  | .value (.func f) => ob P.funcs[f]? fun fn => ob fn.body fun _ => ae (fn.name == "runtime.NumGoroutine") none (ae (Nat.blt f b7) (some (Hl f (c.args.toList.map (aJ P m)))) none)
  | _ => none
 | _ => none
theorem pM (m : Nat) (o : Oper) (P : Program) (call : ai) (loc vars : Sl) (heap : Heap) (k : Kt) (z : aL) : ct m o P call loc vars heap k z = ow (bO P (bA P m loc vars) heap o) call k z := by
 unfold ct
 rw [Kf]
theorem Ba (P : Program) (m : Nat) (loc vars : Sl) : ∀ (l : List Operand) (k : List ad → aL), DP (l.map (aJ P m)) loc vars k = k (l.map (bA P m loc vars))
 | [], k => rfl
 | x :: l, k => by
  show kN (bA P m loc vars x) (fun v => DP (l.map (aJ P m)) loc vars fun r => k (v :: r)) = _
  rw [kM, Ba P m loc vars l]
  rfl
theorem vt (loc vars : Sl) : ∀ (l : List (Nat × Nat × cI)) (cells : List ad) (k : List ad → aL) (z : aL),
  Az l loc vars cells k z = oR (eY (l.map fun p => (p.1, p.2.1, p.2.2.get loc vars)) cells) k z
 | [], cells, k, z => rfl
 | p :: l, cells, k, z => by
  show onCells (p.2.2.get loc vars) (fun v => fx (Nat.beq p.2.1 0) z (fx (Nat.beq (F3 v) p.2.1) (xb cells p.1 v (fun c => Az l loc vars c k z) z) z)) z = _
  simp only [List.map_cons, eY]
  rw [p0, GM]
  congr 1
  funext v
  rw [yD]
  cases Nat.beq p.2.1 0 with
  | true => rfl
  | false =>
   simp only [rI, bcF]
   cases Nat.beq v.length p.2.1 with
   | false => rfl
   | true =>
    simp only [fo, bcT]
    rw [zP, dJ, dJ]
    split
    ·simp only [eK]; exact vt loc vars l _ k z
    ·rfl
theorem uD (P : Program) (m : Nat) (loc vars : Sl) (fields : List Field) : ∀ (parts : List (Nat × Operand)) (l : List (Nat × Nat × cI)), pW P m fields parts = some l →
  placesOf P fields (bA P m loc vars) parts = some (l.map fun p => (p.1, p.2.1, p.2.2.get loc vars))
 | [], l, e => by cases e; rfl
 | p :: rest, l, e => by
  simp only [pW] at e
  obtain ⟨f, h1, e1⟩ := aa.1 e
  obtain ⟨l', h2, e2⟩ := aa.1 e1
  cases e2
  simp only [placesOf, h1, obS, uD P m loc vars fields rest l' h2]
  rfl
section
variable {P : Program} {m : Nat} {o : Oper} {call : ai} {loc vars : Sl} {heap : Heap} {k : Kt} {z : aL}
theorem FQ {op : BinOp} {t : TypeId} {c : Bool} {x y v : ad} (h : eH P op t x y = some v) : jK P op t c x y = some v := by
 unfold jK
 split
 ·exfalso
  cases op <;> simp [eH, vv] at h
 ·exfalso
  cases op <;> simp [eH, vv, qy] at h
 ·exact h
theorem Ky {f : F2} {op : BinOp} {t : TypeId} {x y : Operand} {yt : TypeId} (ho : o.op = .binOp op t x y yt) (hf : iq f op t P) :
  go2 f m o (aJ P m x) (aJ P m y) P call loc vars heap k z = ow (bO P (bA P m loc vars) heap o) call k z := by
 show f (bA P m loc vars x) (bA P m loc vars y) (fun v => k v heap) (ct m o P call loc vars heap k z) = _
 rw [pM]
 rcases hf (bA P m loc vars x) (bA P m loc vars y) (fun v => k v heap) (ow (bO P (bA P m loc vars) heap o) call k z) with h | ⟨v, h1, h2⟩
 ·exact h
 ·rw [h2]
  simp only [bO, ho, FQ h1]
  exact (bW v heap).symm
theorem Kz {f : F1} {op : UnOp} {t : TypeId} {x : Operand} (ho : o.op = .unOp op t x) (hf : DY f op) :
  Nt f m o (aJ P m x) P call loc vars heap k z = ow (bO P (bA P m loc vars) heap o) call k z := by
 show f (bA P m loc vars x) (fun v => k v heap) (ct m o P call loc vars heap k z) = _
 rw [pM]
 rcases hf (bA P m loc vars x) (fun v => k v heap) (ow (bO P (bA P m loc vars) heap o) call k z) with h | ⟨v, h1, h2⟩
 ·exact h
 ·rw [h2]
  simp only [bO, ho, h1]
  exact (bW v heap).symm
end
theorem Fm {op : BinOp} {d : Option TypeDesc} {f : F2} (h : IX op d = some f) (t : TypeId) (P : Program) : iq f op t P := by
 unfold IX at h
 split at h
 ·split at h <;> cases h
  ·exact FW t P
  ·exact E6 t P
  ·exact EN t P
  ·exact EO t P
  ·exact F0 t P
  ·exact Fg t P
  ·exact Fh t P
  ·exact Fp t P
  ·exact EM t P
  ·exact FV t P
  ·exact Gy t P
 ·split at h <;> cases h
  exact zn t P
 ·cases h
theorem Fo {op : UnOp} {f : F1} (h : IY op = some f) : DY f op := by
 unfold IY at h
 split at h <;> cases h
 ·exact EL
 ·exact FE
theorem HH {P : Program} {m : Nat} {o : Oper} {g : jM} (hg : AN P m o = some g) (call : ai) (loc vars : Sl) (heap : Heap) (k : Kt) (z : aL) :
  g P call loc vars heap k z = ow (bO P (bA P m loc vars) heap o) call k z := by
 unfold AN at hg
 split at hg
 ·rename_i x hx
  cases hg
  simp only [bO, hx, bW]
  exact kM _ _
 ·rename_i x hx
  cases hg
  simp only [bO, hx, bW]
  exact kM _ _
 ·rename_i c a b hx
  cases hg
  simp only [bO, hx, eJ, bW]
  show rA (bA P m loc vars c) (fun t => fx t (kN (bA P m loc vars a) fun v => k v heap) (kN (bA P m loc vars b) fun v => k v heap)) z = _
  simp only [xf, kM]
  congr 1
  funext t
  cases t <;> rfl
 ·rename_i t a hx
  obtain ⟨b, hb, e⟩ := aa.1 hg
  cases e
  simp only [bO, hx, eJ, nT, loadT, hb, obS]
  cases b with
  | false =>
   show mY (bA P m loc vars a) (fun p o => pk heap p (fun l _ _ _ => GO l o (fun v => k v heap) z) z) z = _
   simp only [mX, rS, Di, bcF, my, GM]
  | true =>
   show mY (bA P m loc vars a) (fun p o => pk heap p (fun l _ _ _ => D1 (Hz l o) (P.cellsOf t) (fun l => k (.agg l) heap) z) z) z = _
   simp only [mX, rS, G8, Hy, bcT, dZ, GM, eK]
 ·rename_i t a v hx
  obtain ⟨i, hi, e⟩ := aa.1 hg
  cases e
  simp only [bO, hx, eJ, hi, eK, lN, bW]
  show mY (bA P m loc vars a) (fun p o => onCells (bA P m loc vars v) (fun l => fx (Nat.beq (F3 l) (P.cellsOf t)) (y5 heap p o l (fun h => k bD h) z) z) z) z = _
  simp only [mX, p0, yD, E9]
 ·rename_i e hx
  obtain ⟨zl, hz, e1⟩ := aa.1 hg
  cases e1
  simp only [bO, hx, eJ, hz, eK, bW]
  exact yy _ _ _
 ·rename_i e x hx
  cases hg
  simp only [bO, hx, eJ, bW]
  show onCells (bA P m loc vars x) (fun l => C3 heap (.cells l e false true) fun p h => k (.ptr p 0) h) z = _
  simp only [p0, yy]
 ·rename_i x hx
  cases hg
  simp only [bO, hx]
  show JA (bA P m loc vars x) (fun v => k v heap) z = _
  cases bA P m loc vars x <;> first | rfl | exact (bW _ _).symm
 ·rename_i op t x y yt hx
  obtain ⟨f, hf, e⟩ := aa.1 hg
  cases e
  exact Ky hx (Fm hf t P)
 ·rename_i op t x hx
  obtain ⟨f, hf, e⟩ := aa.1 hg
  cases e
  exact Kz hx (Fo hf)
 ·rename_i t x f hx
  split at hg
  ·rename_i fields hu
   obtain ⟨fd, hf, e⟩ := aa.1 hg
   obtain ⟨hz, e1⟩ := au.1 e
   cases e1
   simp only [bO, hx, hu, eJ, hf, eK, hz, bcF, bW]
   show mY (bA P m loc vars x) (fun p o => cG (Nat.add o fd.offset) fun q => k (.ptr p q) heap) z = _
   simp only [mX, eh]
  ·cases hg
 ·rename_i t x i hx
  obtain ⟨he, e⟩ := af.1 hg
  simp only [bO, hx, he, bcT, eJ]
  split at e
  ·rename_i el hu
   cases e
   simp only [hu]
   show mv (bA P m loc vars i) (fun _ i => Dd (bA P m loc vars x) (fun p o len => fx (Nat.blt i len) (cG (Nat.add o (Nat.mul i (P.cellsOf el))) fun q => k (.ptr p q) heap) z) z) z = _
   rw [q0]
   congr 1
   funext i
   cases bA P m loc vars x <;> first | rfl | skip
   simp only [lN, bW]
   rename_i p o len cap
   show fx (Nat.blt i len) (cG (Nat.add o (Nat.mul i (P.cellsOf el))) fun q => k (.ptr p q) heap) z = _
   rw [eh]
  ·rename_i n el hu
   cases e
   simp only [hu]
   show mv (bA P m loc vars i) (fun _ i => mY (bA P m loc vars x) (fun p o => fx (Nat.blt i n) (cG (Nat.add o (Nat.mul i (P.cellsOf el))) fun q => k (.ptr p q) heap) z) z) z = _
   rw [q0]
   congr 1
   funext i
   simp only [eJ, lN, bW, mX, eh]
  ·cases e
 ·rename_i t x i hx
  obtain ⟨he, e⟩ := af.1 hg
  simp only [bO, hx, he, bcT, eJ]
  split at e
  ·rename_i hu
   cases e
   simp only [hu]
   show mv (bA P m loc vars i) (fun _ i => xe (bA P m loc vars x) (fun n c => fx (Nat.blt i n) (cG (dP n c i) fun b => k (.int .u8 (Int.ofNat b)) heap) z) z) z = _
   rw [q0]
   congr 1
   funext i
   cases bA P m loc vars x <;> first | rfl | skip
   simp only [lN, bW]
   rename_i n c
   show fx (Nat.blt i n) (cG (dP n c i) fun b => k (.int .u8 (Int.ofNat b)) heap) z = _
   rw [eh]
  ·cases e
 ·rename_i s d x hx
  split at hg
  ·rename_i kd hd
   obtain ⟨ds, hs, e⟩ := aa.1 hg
   cases e
   show mv (bA P m loc vars x) (fun _ n => fx (Nat.ble n (aG kd)) (k (.int kd (Int.ofNat n)) heap) (ct m o P call loc vars heap k z)) (ct m o P call loc vars heap k z) = _
   rw [q0, pM]
   cases hn : (bA P m loc vars x).isNat with
   | none => rfl
   | some n =>
    simp only [eK]
    cases hb : Nat.ble n (aG kd) with
    | false => rfl
    | true =>
     have ht : cN P s d = none := by
      unfold cN
      rw [hd]
      split <;> rfl
     simp only [fo, bO, hx, ht, k9, hd, hs, obS]
     cases hv : bA P m loc vars x <;> rw [hv] at hn <;> try (cases hn)
     rename_i kk i
     cases i <;> cases hn
     simp only [ad.isInt, obS, nK hb, bW]
  ·cases hg
 ·rename_i x i hx
  cases hg
  simp only [bO, hx, eJ, nT]
  show yu (bA P m loc vars x) (fun l => GO l i (fun v => kN v fun v => k v heap) z) z = _
  simp only [BZ, Di, kM]
 ·rename_i t parts hx
  obtain ⟨zl, hz, e⟩ := aa.1 hg
  simp only [bO, hx, eJ, hz, eK]
  split at e
  ·rename_i fields hu
   obtain ⟨hi, e1⟩ := af.1 e
   obtain ⟨l, hl, e2⟩ := aa.1 e1
   cases e2
   simp only [hu, hi, bcT, eJ, uD P m loc vars _ _ _ hl, eK, bW]
   exact vt loc vars l zl _ z
  ·cases e
 ·rename_i t len parts hx
  split at hg
  ·rename_i el hu
   obtain ⟨h1, e1⟩ := af.1 hg
   obtain ⟨zl, hz, e2⟩ := aa.1 e1
   obtain ⟨h3, e3⟩ := af.1 e2
   cases e3
   simp only [bO, hx, hu, h1, bcT, eJ, hz, eK, h3, bW]
   show Az _ loc vars (fO len zl) (fun cs => C3 heap (.cells cs el false true) fun p h => k (.slice p 0 len (some len)) h) z = _
   rw [vt, List.map_map]
   simp only [yy]
   rfl
  ·cases hg
 ·rename_i c hx
  split at hg
  ·rename_i hc
   split at hg
   ·rename_i x ha
    split at hg
    ·rename_i t ht
     split at hg
     ·rename_i hu
      cases hg
      simp only [bO, hx, hc, ha, List.map_cons, List.map_nil, dc, ht, A9, hu, nT]
      show xe (bA P m loc vars x) (fun n _ => k (.int .i64 (Int.ofNat n)) heap) z = _
      cases bA P m loc vars x <;> rfl
     ·rename_i el hu
      cases hg
      simp only [bO, hx, hc, ha, List.map_cons, List.map_nil, dc, ht, A9, hu, nT]
      show JB (bA P m loc vars x) (fun n => k (.int .i64 (Int.ofNat n)) heap) z = _
      cases bA P m loc vars x <;> rfl
     ·cases hg
    ·cases hg
   ·cases hg
  ·rename_i f hc
   obtain ⟨fn, hf, e1⟩ := aa.1 hg
   obtain ⟨b, hb, e2⟩ := aa.1 e1
   obtain ⟨hn, e3⟩ := au.1 e2
   obtain ⟨hlt, e4⟩ := af.1 e3
   cases e4
   have hv : bA P m loc vars (.func f) = .func f [] [] := rfl
   simp only [bO, hx, hc, hv, oO, hf, obS, hb, hn, hlt, bcF, bcT, List.append_nil, List.nil_append, oZ]
   show DP _ loc vars (fun vs => Gj (call f vs heap) k z) = _
   rw [Ba]
  ·cases hg
 ·cases hg
end
end Go.HL
namespace Go.HL
open Go
noncomputable section
set_option linter.unusedVariables false
def HK (P : Program) (m : Nat) (o : Oper) (c : Operand) (a : Operand) (b : Operand) : Option jM := some (Hg (aJ P m c) (aJ P m a) (aJ P m b))
def HM (P : Program) (m : Nat) (o : Oper) (t : TypeId) (a : Operand) : Option jM := ob (gj P t) fun b => some (ae b (Dy (P.cellsOf t) (aJ P m a)) (Dz (aJ P m a)))
def FF (P : Program) (m : Nat) (o : Oper) (t : TypeId) (a : Operand) (v : Operand) : Option jM := ob (P.info? t) fun _ => some (Dx (P.cellsOf t) (aJ P m a) (aJ P m v))
def FJ (P : Program) (m : Nat) (o : Oper) (e : TypeId) : Option jM := ob (ah P e) fun z => some (DB z e)
def J9 (P : Program) (m : Nat) (o : Oper) (e : TypeId) (x : Operand) : Option jM := some (JI e (aJ P m x))
def yQ (P : Program) (m : Nat) (o : Oper) (x : Operand) : Option jM := some (JH (aJ P m x))
def FI (P : Program) (m : Nat) (o : Oper) (op : BinOp) (t : TypeId) (x : Operand) (y : Operand) (x_4 : TypeId) : Option jM := ob (IX op (P.underlying t)) fun f => some (go2 f m o (aJ P m x) (aJ P m y))
def HJ (P : Program) (m : Nat) (o : Oper) (op : UnOp) (x_1 : TypeId) (x : Operand) : Option jM := ob (IY op) fun f => some (Nt f m o (aJ P m x))
def wJ (P : Program) (m : Nat) (o : Oper) (t : TypeId) (x : Operand) (f : Nat) : Option jM := match P.underlying t with
  | some (.struct fields) => ob fields[f]? fun fd => ae (Nat.beq (P.cellsOf fd.type) 0) none (some (An fd.offset (aJ P m x)))
  | _ => none
def wH (P : Program) (m : Nat) (o : Oper) (t : TypeId) (x : Operand) (i : Operand) : Option jM := ae (cg P t) (match P.underlying t with
  | some (.slice e) => some (Al (P.cellsOf e) (aJ P m x) (aJ P m i))
  | some (.array n e) => some (Am n (P.cellsOf e) (aJ P m x) (aJ P m i))
  | _ => none) none
def FG (P : Program) (m : Nat) (o : Oper) (t : TypeId) (x : Operand) (i : Operand) : Option jM := ae (cg P t) (match P.underlying t with
  | some .string => some (Ak (aJ P m x) (aJ P m i))
  | _ => none) none
def AQ (P : Program) (m : Nat) (o : Oper) (s : TypeId) (d : TypeId) (x : Operand) : Option jM := match P.underlying d with
  | some (.int k) => ob (P.underlying s) fun _ => some (Hk k m o (aJ P m x))
  | _ => none
def AP (P : Program) (m : Nat) (o : Oper) (x : Operand) (i : Nat) : Option jM := some (xr (aJ P m x) i)
def FH (P : Program) (m : Nat) (o : Oper) (t : TypeId) (parts : Array (Nat × Operand)) : Option jM := ob (ah P t) fun z => match P.underlying t with
  | some (.struct fields) => ae (iP P fields.toList) (ob (pW P m fields.toList parts.toList) fun l => some (DA l z)) none
  | _ => none
def vL (P : Program) (m : Nat) (o : Oper) (t : TypeId) (len : Nat) (parts : Array (Nat × Operand)) : Option jM := match P.underlying t with
  | some (.slice e) => ae (Nat.ble (Nat.mul len (P.cellsOf e)) 16777216)
    (ob (ah P e) fun z => ae (Nat.beq z.length (P.cellsOf e)) (some (Ao (parts.toList.map fun p => (Nat.mul p.1 (P.cellsOf e), P.cellsOf e, aJ P m p.2)) (fO len z) e len)) none) none
  | _ => none
def HN (P : Program) (m : Nat) (o : Oper) (c : Call) : Option jM := match c.callee with
  | .builtin .len => match c.args.toList with
   | [x] => match c.argTypes[0]? with
    | some t => match P.underlying t with
     | some .string => some (Hi (aJ P m x))
     | some (.slice _) => some (Hj (aJ P m x))
     | _ => none
    | none => none
   | _ => none
  | .value (.func f) => ob P.funcs[f]? fun fn => ob fn.body fun _ => ae (fn.name == "runtime.NumGoroutine") none (ae (Nat.blt f b7) (some (Hl f (c.args.toList.map (aJ P m)))) none)
  | _ => none
def A2 (g : Option jM) (m : Nat) (o : Oper) : wa := @Option.rec jM (fun _ => Nat → Oper → wa) (fun m o => .mk (ct m o)) (fun g _ _ => .mk g) g m o
def mc (P : Program) (m : Nat) (o : Oper) : wa :=
 @Op.rec (fun _ => Program → Nat → Oper → wa) (fun x P m _ => .O6 (aJ P m x)) (fun x P m _ => .O6 (aJ P m x)) (fun a0 a1 a2 P m o => A2 (HK P m o a0 a1 a2) m o) (fun a0 P m o => A2 (FJ P m o a0) m o) (fun a0 a1 P m o => A2 (J9 P m o a0 a1) m o) (fun a0 a1 P m o => A2 (FH P m o a0 a1) m o) (fun a0 a1 a2 P m o => A2 (vL P m o a0 a1 a2) m o) (fun _ _ _ _ _ m o => .mk (ct m o)) (fun a0 a1 P m o => A2 (HM P m o a0 a1) m o) (fun a0 a1 a2 P m o => A2 (FF P m o a0 a1 a2) m o) (fun _ _ m o => .mk (ct m o)) (fun _ _ m o => .mk (ct m o)) (fun a0 P m o => A2 (yQ P m o a0) m o) (fun a0 a1 a2 a3 a4 P m o => A2 (FI P m o a0 a1 a2 a3 a4) m o) (fun a0 a1 a2 P m o => A2 (HJ P m o a0 a1 a2) m o) (fun a0 a1 a2 P m o => A2 (AQ P m o a0 a1 a2) m o) (fun _ _ _ m o => .mk (ct m o)) (fun _ _ _ m o => .mk (ct m o)) (fun _ _ _ _ m o => .mk (ct m o)) (fun _ _ _ m o => .mk (ct m o)) (fun _ _ _ m o => .mk (ct m o)) (fun _ _ _ _ m o => .mk (ct m o)) (fun _ _ _ _ _ _ m o => .mk (ct m o)) (fun a0 a1 a2 P m o => A2 (wJ P m o a0 a1 a2) m o) (fun _ _ _ _ m o => .mk (ct m o)) (fun a0 a1 a2 P m o => A2 (wH P m o a0 a1 a2) m o) (fun a0 a1 a2 P m o => A2 (FG P m o a0 a1 a2) m o) (fun _ _ _ _ _ m o => .mk (ct m o)) (fun _ _ _ _ _ m o => .mk (ct m o)) (fun _ _ _ _ m o => .mk (ct m o)) (fun _ _ _ _ _ m o => .mk (ct m o)) (fun _ _ _ m o => .mk (ct m o)) (fun _ _ _ m o => .mk (ct m o)) (fun _ _ m o => .mk (ct m o)) (fun _ _ _ _ _ m o => .mk (ct m o)) (fun a0 a1 P m o => A2 (AP P m o a0 a1) m o) (fun a0 P m o => A2 (HN P m o a0) m o) (fun _ _ m o => .mk (ct m o)) (fun _ _ m o => .mk (ct m o)) (fun _ _ m o => .mk (ct m o)) (fun _ _ _ m o => .mk (ct m o)) (fun _ _ _ _ m o => .mk (ct m o)) (fun _ _ _ m o => .mk (ct m o)) o.op P m o
theorem CL (P : Program) (m : Nat) (o : Oper) : (mc P m o).run = (A2 (AN P m o) m o).run := by
 unfold mc AN
 generalize o.op = p
 cases p <;> rfl
theorem xG (P : Program) (m : Nat) (o : Oper) (call : ai) (loc vars : Sl) (heap : Heap) (k : Kt) (z : aL) :
  (mc P m o).run P call loc vars heap k z = ow (bO P (bA P m loc vars) heap o) call k z := by
 rw [CL]
 cases hg : AN P m o with
 | some g => exact HH hg call loc vars heap k z
 | none => exact pM m o P call loc vars heap k z
end
end Go.HL
namespace Go.HL
open Go
noncomputable section
def Jk (m : Nat) (d : Nat) : cI := ae (bit m d) (.var d) (.loc d)
def fI (m : Nat) (ops : Array Oper) (o : Oper) : jH := match o.guard with
 | none => .no
 | some g => match (ops[g.1]?).bind (·.dst) with
  | some d => .on (Jk m d) g.2
  | none => .stuck
def kc (m : Nat) : Option Tmp → z7
 | none => .none
 | some d => ae (bit m d) (.var d) (.loc d)
def fy (P : Program) (m : Nat) (ops : Array Oper) : List Oper → gQ
 | [] => .nil
 | o :: l => HG (fI m ops o) (kc m o.dst) (mc P m o) (fy P m ops l)
def cQ : List Oper → Nat
 | [] => 0
 | o :: l => match o.dst with
  | some d => ae (Nat.ble d (cQ l)) (cQ l) d
  | none => cQ l
def ua (P : Program) (call : ai) (ops : Array Oper) (l : List Oper) (s : St) : aL := ob (dR P call ops l s) eP
def yM (s : St) : Sl → Heap → aL := fun vars h => some (.dh, ⟨⟨[], vars⟩, h, s.defers, s.bV, s.mask, s.bX⟩)
structure wN (m : Nat) (L V loc vars : Sl) : Prop where
 flush : ∀ k : Sl → aL, fB m L V k = k vars
 low : ∀ i, bit m i = false → assoc loc (assoc vars .bad i) i = assoc L (assoc V .bad i) i
 kept : ∀ i, bit m i = true → assoc vars .bad i = assoc L (assoc V .bad i) i
theorem Bc {m : Nat} {L V loc vars : Sl} (h : wN m L V loc vars) (d : Nat) : (Jk m d).get loc vars = assoc L (assoc V .bad d) d := by
 unfold Jk
 cases hb : bit m d with
 | true => rw [bcT, cI.IT]; exact h.kept d hb
 | false => rw [bcF, cI.DC]; exact h.low d hb
theorem vu {m : Nat} {L V loc vars : Sl} (h : wN m L V loc vars) (P : Program) : bA P m loc vars = Env.eval P ⟨L, V⟩ := by
 funext x
 cases x <;> first | rfl | skip
 exact Bc h _
theorem zf {m : Nat} {L V loc vars : Sl} (h : wN m L V loc vars) (ops : Array Oper) (o : Oper) (yes no z : aL) :
  CX (fI m ops o) loc vars yes no z = oR (bC ops o ⟨L, V⟩) (fun w => fx w yes no) z := by
 unfold fI bC
 split
 ·rename_i hg; simp only [hg]; rfl
 ·rename_i g hg
  simp only [hg]
  split
  ·rename_i d hd
   simp only [hd]
   show De ((Jk m d).get loc vars) (fun b => fx (ae g.2 b (ae b false true)) yes no) no z = _
   rw [Bc h]
   have e : (⟨L, V⟩ : Env).get d = assoc L (assoc V .bad d) d := rfl
   rw [e]
   cases assoc L (assoc V .bad d) d <;> rfl
  ·rename_i hd; simp only [hd]; rfl
def Ec (l : Sl) (d : Nat) (v : ad) : Sl := er l d v id
theorem nP {β : Type} (d : Nat) (v : ad) : ∀ (l : Sl) (k : Sl → β), er l d v k = k (Ec l d v)
 | [], k => rfl
 | p :: l, k => by
  have h1 : er (p :: l) d v k = @Bool.rec (fun _ => β) (er l d v fun r => k (p :: r)) (k ((d, v) :: l)) (Nat.beq p.1 d) := rfl
  have h2 : Ec (p :: l) d v = @Bool.rec (fun _ => Sl) (er l d v fun r => p :: r) ((d, v) :: l) (Nat.beq p.1 d) := rfl
  rw [h1, h2, nP d v l (fun r => k (p :: r)), nP d v l (fun r => p :: r)]
  cases Nat.beq p.1 d <;> rfl
theorem vW (l : Sl) (d : Nat) (v : ad) (x : ad) (i : Nat) : assoc (Ec l d v) x i = if d = i then v else assoc l x i := by
 obtain ⟨m, e1, e2⟩ := pO d v l (id : Sl → Sl)
 have : Ec l d v = m := e1
 rw [this]; exact e2 x i
def Gr (dst : Option Tmp) (v : ad) (l : Sl) : Sl := match dst with
 | none => l
 | some d => (d, v) :: l
theorem zK (dst : Option Tmp) (v : ad) (L V : Sl) : Env.put ⟨L, V⟩ dst v = ⟨Gr dst v L, V⟩ := by cases dst <;> rfl
theorem Iv {m : Nat} {L V loc vars : Sl} (h : wN m L V loc vars) (dst : Option Tmp) (v : ad) (ih : RK) (P : Program) (call : ai) (heap : Heap) (k : Sl → Heap → aL) (z : aL) :
  ∃ loc' vars', Ek (kc m dst) v ih P call loc vars heap k z = ih P call loc' vars' heap k z ∧ wN m (Gr dst v L) V loc' vars' := by
 cases dst with
 | none => exact ⟨loc, vars, rfl, h⟩
 | some d =>
  cases hb : bit m d with
  | false =>
   refine ⟨(d, v) :: loc, vars, by simp only [kc, hb, bcF]; rfl, ?_, ?_, ?_⟩
   ·intro k
    show fB m L V (fun vars' => ae (bit m d) (er vars' d v k) (k vars')) = k vars
    rw [h.flush, hb, bcF]
   ·intro i hi
    show assoc ((d, v) :: loc) _ i = assoc ((d, v) :: L) _ i
    rw [bq, bq, h.low i hi]
   ·intro i hi
    show _ = assoc ((d, v) :: L) _ i
    have : d ≠ i := by rintro rfl; rw [hb] at hi; cases hi
    rw [bq, if_neg this, h.kept i hi]
  | true =>
   refine ⟨loc, Ec vars d v, ?_, ?_, ?_, ?_⟩
   ·simp only [kc, hb, bcT]
    show zM vars d v (fun vars => ih P call loc vars heap k z) = _
    rw [Da, nP]
   ·intro k'
    show fB m L V (fun vars' => ae (bit m d) (er vars' d v k') (k' vars')) = k' (Ec vars d v)
    rw [h.flush, hb, bcT, nP]
   ·intro i hi
    show assoc loc _ i = assoc ((d, v) :: L) _ i
    have : d ≠ i := by rintro rfl; rw [hb] at hi; cases hi
    rw [bq, if_neg this, vW, if_neg this, h.low i hi]
   ·intro i hi
    show _ = assoc ((d, v) :: L) _ i
    rw [bq, vW, h.kept i hi]
theorem Bw (P : Program) (call : ai) (ops : Array Oper) (o : Oper) (l : List Oper) (s : St) :
  ua P call ops (o :: l) s = ob (fm P call ops o s) fun r => match r.1 with | .dh => ua P call ops l r.2 | e => eP (e, r.2) := by
 unfold ua
 simp only [dR]
 cases fm P call ops o s with
 | none => rfl
 | some r => obtain ⟨ex, s'⟩ := r; cases ex <;> rfl
def tH (bX : Nat) (l : List Oper) : Prop := ∀ o ∈ l, fits o.dst bX = true
theorem n8 {bX : Nat} : ∀ {l : List Oper}, cQ l < bX → tH bX l
 | [], _ => fun o h => by cases h
 | o :: l, h => by
  have key : fits o.dst bX = true ∧ cQ l < bX := by
   simp only [cQ] at h
   cases hd : o.dst with
   | none => rw [hd] at h; exact ⟨rfl, h⟩
   | some d =>
    rw [hd] at h
    simp only at h
    cases hb : Nat.ble d (cQ l) with
    | true =>
     rw [hb, bcT] at h
     have := Nat.le_of_ble_eq_true hb
     exact ⟨by show Nat.blt d bX = true; rw [fe]; exact decide_eq_true (by omega), h⟩
    | false =>
     rw [hb, bcF] at h
     have : cQ l < d := Nat.lt_of_not_le (by intro hle; rw [Nat.ble_eq_true_of_le hle] at hb; cases hb)
     exact ⟨by show Nat.blt d bX = true; rw [fe]; exact decide_eq_true h, Nat.lt_trans this h⟩
  intro q hq
  rcases List.mem_cons.1 hq with rfl | hq
  ·exact key.1
  ·exact n8 key.2 q hq
theorem D8 (P : Program) (call : ai) (ops : Array Oper) (m : Nat) : ∀ (l : List Oper) (s : St) (loc vars : Sl) (z : aL), m = s.mask → wN m s.env.loc s.env.vars loc vars → tH s.bX l → z = ua P call ops l s →
  ye (fy P m ops l) P call loc vars s.heap (yM s) z = z
 | [], s, loc, vars, z, hm, h, _, hz => by
  show yM s vars s.heap = z
  rw [hz]
  show yM s vars s.heap = fB s.mask s.env.loc s.env.vars fun vars => yM s vars s.heap
  rw [← hm, h.flush]
 | o :: l, s, loc, vars, z, hm, h, hf, hz => by
  have hfit : fits o.dst s.bX = true := hf o (by simp)
  have hl : tH s.bX l := fun q hq => hf q (by simp [hq])
  rw [Bw] at hz
  unfold fm at hz
  have next : ∀ (v : ad) (h' : Heap), z = ua P call ops l (s.with o.dst v h') → Ek (kc m o.dst) v (ye (fy P m ops l)) P call loc vars h' (yM s) z = z := by
   intro v h' e
   obtain ⟨loc', vars', e1, e2⟩ := Iv h o.dst v (ye (fy P m ops l)) P call h' (yM s) z
   rw [e1]
   have e3 : wN m (s.with o.dst v h').env.loc (s.with o.dst v h').env.vars loc' vars' := by
    show wN m (Env.put s.env o.dst v).loc (Env.put s.env o.dst v).vars loc' vars'
    have : Env.put s.env o.dst v = ⟨Gr o.dst v s.env.loc, s.env.vars⟩ := zK o.dst v s.env.loc s.env.vars
    rw [this]; exact e2
   exact D8 P call ops m l (s.with o.dst v h') loc' vars' z hm e3 hl e
  show ye (HG (fI m ops o) (kc m o.dst) (mc P m o) (fy P m ops l)) P call loc vars s.heap (yM s) z = z
  rw [HF]
  show CX (fI m ops o) loc vars ((mc P m o).run P call loc vars s.heap (fun v h' => Ek (kc m o.dst) v (ye (fy P m ops l)) P call loc vars h' (yM s) z) z)
   (Ek (kc m o.dst) bD (ye (fy P m ops l)) P call loc vars s.heap (yM s) z) z = z
  rw [zf h]
  have henv : (⟨s.env.loc, s.env.vars⟩ : Env) = s.env := rfl
  rw [henv]
  cases hw : bC ops o s.env with
  | none => rfl
  | some w =>
   rw [hw] at hz
   simp only [obS, hfit, bcT] at hz
   simp only [eK]
   cases w with
   | false =>
    simp only [bcF, obS] at hz
    exact next _ _ hz
   | true =>
    simp only [bcT] at hz
    simp only [fo]
    rw [xG, vu h P, henv]
    cases ho : bO P (s.env.eval P) s.heap o with
    | none => rfl
    | some out =>
     rw [ho] at hz
     simp only [obS] at hz
     cases out with
     | val v h' =>
      rw [bW]
      simp only [bu, force_eq, obS] at hz
      exact next _ _ hz
     | enter f args h' =>
      rw [oZ, D7]
      simp only [bu] at hz
      cases hc : call f args h' with
      | none => rfl
      | some r =>
       obtain ⟨cr, h2⟩ := r
       rw [hc] at hz
       cases cr with
       | ret v =>
        simp only [obS, force_eq] at hz
        exact next _ _ hz
       | bV v => rfl
     | defer f args h' => rfl
     | mu h' => rfl
     | bV v h' => rfl
/-! ## Regions whose order is open -/
inductive qY where
 | nil
 | cons (i : Nat) (o : Oper) (aS rd : Bool) (g : jH) (dst : Option Nat) (op : wa) (rest : qY)
abbrev DK := Program → ai → List cE → Sl → Sl → Heap → (List cE → Sl → Heap → aL) → aL → aL
def BP (dst : Option Nat) (v : ad) (loc : Sl) (k : Sl → aL) : aL := @Option.rec Nat (fun _ => ad → Sl → (Sl → aL) → aL) (fun _ loc k => k loc) (fun d v loc k => k ((d, v) :: loc)) dst v loc k
def IG (aS rd w : Bool) (i : Nat) (o : Oper) (dst : Option Nat) (v : ad) (loc vars : Sl) (h h' : Heap) (log : List cE) (k : List cE → aL) (z : aL) : aL :=
 fx aS (k (.change i h h' :: log)) (fx rd (@Option.rec Nat (fun _ => aL) z (fun _ => fx w (k (.read i o ⟨loc, vars⟩ v :: log)) (k log)) dst) (k log))
def Ge (i : Nat) (o : Oper) (aS rd : Bool) (g : jH) (dst : Option Nat) (op : wa) (ih : DK) : DK := fun P call log loc vars heap k z =>
 CX g loc vars
  (op.run P call loc vars heap (fun v h => IG aS rd true i o dst v loc vars heap h log (fun log => BP dst v loc fun loc => ih P call log loc vars h k z) z) z)
  (IG aS rd false i o dst bD loc vars heap heap log (fun log => BP dst bD loc fun loc => ih P call log loc vars heap k z) z) z
def AH (r : qY) : DK := @qY.rec (fun _ => DK) (fun _ _ log loc _ heap k _ => k log loc heap) (fun i o aS rd g dst op _ ih => Ge i o aS rd g dst op ih) r
def db (P : Program) (ops : Array Oper) : List Nat → qY
 | [] => .nil
 | i :: l => match ops[i]? with
  | none => .nil
  | some o => .cons i o (aB P o) (bY P o) (fI 0 ops o) o.dst (mc P 0 o) (db P ops l)
def Cx (l : Sl) (mask : Nat) (vars : Sl) (k : Sl → aL) : aL :=
 @List.rec (Nat × ad) (fun _ => Nat → Sl → (Sl → aL) → aL) (fun _ vars k => k vars) (fun p _ ih mask vars k => ih mask vars fun vars' => fx (bit mask p.1) (zM vars' p.1 p.2 k) (k vars')) l mask vars k
theorem xw (mask : Nat) : ∀ (l vars : Sl) (k : Sl → aL), Cx l mask vars k = fB mask l vars k
 | [], vars, k => rfl
 | p :: l, vars, k => by
  show Cx l mask vars (fun vars' => fx (bit mask p.1) (zM vars' p.1 p.2 k) (k vars')) = fB mask l vars fun vars' => ae (bit mask p.1) (er vars' p.1 p.2 k) (k vars')
  rw [xw mask l]
  congr 1
  funext vars'
  rw [Da]; rfl
def yH (log : List cE) : Bool := @List.rec cE (fun _ => Bool) false (fun e _ ih => @cE.rec (fun _ => Bool → Bool) (fun _ _ _ _ _ => true) (fun _ _ _ ih => ih) e ih) log
def Km (P : Program) (bU : Array Nat) (log : List cE) : Bool := ae (yH log) (jW P bU log log) true
theorem qm (P : Program) (bU : Array Nat) (full : List cE) : ∀ log, yH log = false → jW P bU full log = true
 | [], _ => rfl
 | .read .. :: _, h => by cases h
 | .change _ _ _ :: l, h => qm P bU full l h
theorem IF (P : Program) (bU : Array Nat) (log : List cE) : Km P bU log = jW P bU log log := by
 unfold Km
 cases h : yH log with
 | true => rfl
 | false => rw [qm P _ _ log h]; rfl
def sg (P : Program) (call : ai) (ops : Array Oper) (s0 : St) (l : List Nat) (log : List cE) (s : St) : aL :=
 ob (dO P call ops (Region.before ops) l log none s) fun r => ob (pf P ops (Region.before ops) s0 r) eP
def CG (P : Program) (bU : Array Nat) (s0 : St) (defers : List (Nat × List ad)) : List cE → Sl → Heap → aL := fun log loc heap =>
 fx (Km P bU log) (Cx loc s0.mask s0.env.vars fun vars => some (.dh, ⟨⟨[], vars⟩, heap, defers, s0.bV, s0.mask, s0.bX⟩)) none
theorem sT (i : Nat) : bit 0 i = false := by
 unfold bit
 show Nat.beq (0 / _ % 2) 1 = false
 rw [Nat.zero_div]; rfl
theorem sK : ∀ (L V : Sl) (k : Sl → aL), fB 0 L V k = k V
 | [], V, k => rfl
 | p :: l, V, k => by
  show fB 0 l V (fun vars' => ae (bit 0 p.1) (er vars' p.1 p.2 k) (k vars')) = k V
  rw [sK l V, sT]; rfl
theorem xm (L V : Sl) : wN 0 L V L V := ⟨sK L V, fun _ _ => rfl, fun i hi => by rw [sT] at hi; cases hi⟩
theorem Iw (dst : Option Nat) (v : ad) (loc : Sl) (k : Sl → aL) : BP dst v loc k = k (Gr dst v loc) := by cases dst <;> rfl
theorem AG (P : Program) (call : ai) (ops : Array Oper) (s0 : St) : ∀ (l : List Nat) (log : List cE) (s : St) (z : aL), s.env.vars = s0.env.vars → tH s.bX ops.toList → (∀ i ∈ l, i < ops.size) →
  z = sg P call ops s0 l log s → AH (db P ops l) P call log s.env.loc s.env.vars s.heap (CG P (Region.before ops) s0 s.defers) z = z
 | [], log, s, z, hv, hf, hs, hz => by
  show CG P (Region.before ops) s0 s.defers log s.env.loc s.heap = z
  rw [hz]
  unfold CG sg
  simp only [dO, obS, pf]
  rw [IF]
  cases jW P (Region.before ops) log log with
  | false => rfl
  | true =>
   simp only [fo, bcT, obS, eP]
   rw [xw, hv]
 | i :: l, log, s, z, hv, hf, hs, hz => by
  have hi : i < ops.size := hs i (by simp)
  have ho : ops[i]? = some ops[i] := Array.getElem?_eq_getElem hi
  generalize hoo : ops[i] = o at ho
  have hfit : fits o.dst s.bX = true := hf o (by rw [← hoo]; simp)
  have e0 : db P ops (i :: l) = .cons i o (aB P o) (bY P o) (fI 0 ops o) o.dst (mc P 0 o) (db P ops l) := by
   simp only [db, ho]
  rw [e0]
  unfold sg at hz
  simp only [dO, nh, bcF, ho, obS] at hz
  unfold fm at hz
  have next : ∀ (w : Bool) (v : ad) (h' : Heap), bC ops o s.env = some w →
    z = ob (ae (aB P o) (dO P call ops (Region.before ops) l (.change i s.heap h' :: log) none (s.with o.dst v h'))
     (ae (bY P o) (ob o.dst fun d => ob (bC ops o s.env) fun w => dO P call ops (Region.before ops) l (ae w (.read i o s.env ((s.with o.dst v h').env.get d) :: log) log) none (s.with o.dst v h'))
      (dO P call ops (Region.before ops) l log none (s.with o.dst v h')))) (fun r => ob (pf P ops (Region.before ops) s0 r) eP) →
    IG (aB P o) (bY P o) w i o o.dst v s.env.loc s.env.vars s.heap h' log (fun log => BP o.dst v s.env.loc fun loc => AH (db P ops l) P call log loc s.env.vars h' (CG P (Region.before ops) s0 s.defers) z) z = z := by
   intro w v h' hw e
   have hnext : ∀ log', z = sg P call ops s0 l log' (s.with o.dst v h') → BP o.dst v s.env.loc (fun loc => AH (db P ops l) P call log' loc s.env.vars h' (CG P (Region.before ops) s0 s.defers) z) = z := by
    intro log' e'
    rw [Iw]
    have e3 : (s.with o.dst v h').env = ⟨Gr o.dst v s.env.loc, s.env.vars⟩ := zK o.dst v s.env.loc s.env.vars
    have := AG P call ops s0 l log' (s.with o.dst v h') z (by rw [e3]; exact hv) hf (fun j hj => hs j (by simp [hj])) e'
    rw [e3] at this
    exact this
   unfold IG
   cases hc : aB P o with
   | true =>
    rw [hc] at e
    simp only [bcT] at e
    simp only [fo]
    exact hnext _ e
   | false =>
    rw [hc] at e
    simp only [bcF] at e
    simp only [rI]
    cases hr : bY P o with
    | false =>
     rw [hr] at e
     simp only [bcF] at e
     simp only [rI]
     exact hnext _ e
    | true =>
     rw [hr] at e
     simp only [bcT] at e
     simp only [fo]
     cases hd : o.dst with
     | none => rfl
     | some d =>
      rw [hd, hw] at e
      simp only [obS] at e
      rw [hd] at hnext
      cases w with
      | false => exact hnext _ e
      | true =>
       have e5 : (s.with (some d) v h').env.get d = v := by
        show vX ((d, v) :: s.env.loc) (assoc s.env.vars .bad d) d = v
        show assoc ((d, v) :: s.env.loc) (assoc s.env.vars .bad d) d = v
        rw [bq, if_pos rfl]
       rw [e5] at e
       exact hnext _ e
  show Ge i o (aB P o) (bY P o) (fI 0 ops o) o.dst (mc P 0 o) (AH (db P ops l)) P call log s.env.loc s.env.vars s.heap (CG P (Region.before ops) s0 s.defers) z = z
  unfold Ge
  have hlike := xm s.env.loc s.env.vars
  have henv : (⟨s.env.loc, s.env.vars⟩ : Env) = s.env := rfl
  rw [zf hlike, henv]
  cases hw : bC ops o s.env with
  | none => rfl
  | some w =>
   have nextw := next w
   rw [hw] at hz
   simp only [obS, hfit, bcT] at hz
   simp only [eK]
   cases w with
   | false =>
    simp only [bcF, obS] at hz
    exact nextw _ _ hw (by rw [hw]; exact hz)
   | true =>
    simp only [bcT] at hz
    simp only [fo]
    rw [xG, vu hlike P, henv]
    cases hop : bO P (s.env.eval P) s.heap o with
    | none => rfl
    | some out =>
     rw [hop] at hz
     simp only [obS] at hz
     cases out with
     | val v h' =>
      rw [bW]
      simp only [bu, force_eq, obS] at hz
      exact nextw _ _ hw (by rw [hw]; exact hz)
     | enter f args h' =>
      rw [oZ, D7]
      simp only [bu] at hz
      cases hc : call f args h' with
      | none => rfl
      | some r =>
       obtain ⟨cr, h2⟩ := r
       rw [hc] at hz
       cases cr with
       | ret v =>
        simp only [obS, force_eq] at hz
        exact nextw _ _ hw (by rw [hw]; exact hz)
       | bV v => rfl
     | defer f args h' => rfl
     | mu h' => rfl
     | bV v h' => rfl
end
end Go.HL
namespace Go.HL
open Go
noncomputable section
set_option linter.unusedVariables false
inductive ir where
 | skip
 | region (mx m : Nat) (r : gQ) (ops : Array Oper)
 | draw (mx : Nat) (r : qY) (ops : Array Oper)
 | drawn (mx : Nat) (r : qY) (ops : Array Oper) (bU : Array Nat)
 | seq (a b : ir)
 | cond (c : cI) (a b : ir)
 | block (id : Nat) (b : ir)
 | loop (b : ir)
 | exit (id : Nat)
 | ret
 | range (g : Operand) (ps : Array Tmp) (x y : Code)
 | bad
def fp (P : Program) (m : Nat) : Code → ir
 | .skip => .skip
 | .label _ => .skip
 | .region _ ops d => ae d (.draw (cQ ops.toList) (db P ops (cP P ops)) ops) (.region (cQ ops.toList) m (fy P m ops ops.toList) ops)
 | .seq a b => .seq (fp P m a) (fp P m b)
 | .cond c a b => .cond (aJ P 0 c) (fp P m a) (fp P m b)
 | .block id b => .block id (fp P m b)
 | .loop b => .loop (fp P m b)
 | .exit id => .exit id
 | .ret => .ret
 | .rangeFunc g ps x y => .range g ps x y
 | _ => .bad
abbrev mG := ir → St → aL
def Nn (l : Sl) (y n : aL) : aL := @List.rec (Nat × ad) (fun _ => aL) y (fun _ _ _ => n) l
def Aj (mx m : Nat) (r : gQ) (s : St) (P : Program) (call : ai) (z : aL) : aL :=
 @St.rec (fun _ => Nat → Nat → gQ → Program → ai → aL → aL) (fun env heap defers bV mask bX mx m r P call z =>
  fx (Nat.beq mask m) (fx (Nat.blt mx bX) (Nn env.loc (ye r P (iS bV call) [] env.vars heap (fun vars h => some (.dh, ⟨⟨[], vars⟩, h, defers, bV, mask, bX⟩)) z) z) z) z) s mx m r P call z
def tI (mx m : Nat) (r : gQ) (ops : Array Oper) (s : St) (P : Program) (call : ai) : aL := Aj mx m r s P call (ua P (iS s.bV call) ops ops.toList s)
def yI (mx : Nat) (r : qY) (bU : Array Nat) (s : St) (P : Program) (call : ai) (z : aL) : aL :=
 fx (Nat.blt mx s.bX) (AH r P call [] s.env.loc s.env.vars s.heap (CG P bU s s.defers) z) z
def Hs (mx : Nat) (r : qY) (ops : Array Oper) (s : St) (P : Program) (call : ai) : aL :=
 fx (gD P ops) (yI mx r (Region.before ops) s P (gate call) (sg P (gate call) ops s (cP P ops) [] s.alone)) none
def Hr (mx : Nat) (r : qY) (ops : Array Oper) (bU : Array Nat) (s : St) (P : Program) (call : ai) : aL := yI mx r bU s P (gate call) (sg P (gate call) ops s (cP P ops) [] s.alone)
def zZ (r : aL) (k : St → aL) : aL :=
 @Option.rec (Ex × St) (fun _ => (St → aL) → aL) (fun _ => none) (fun p k => @Ex.rec (fun _ => (Ex × St) → (St → aL) → aL) (fun p k => k p.2) (fun _ p _ => some p) (fun p _ => some p) (fun _ p _ => some p) p.1 p k) r k
def Cm (r : aL) (id : Nat) : aL :=
 @Option.rec (Ex × St) (fun _ => Nat → aL) (fun _ => none) (fun p id => @Ex.rec (fun _ => (Ex × St) → Nat → aL) (fun p _ => some p) (fun j p id => fx (Nat.beq j id) (some (.dh, p.2)) (some p)) (fun p _ => some p) (fun _ p _ => some p) p.1 p id) r id
def stepG (c : ir) (P : Program) (call : ai) (ih : mG) (s : St) : aL :=
 @ir.rec (fun _ => Program → ai → mG → St → aL) (fun _ _ _ s => some (.dh, s)) (fun mx m r ops P call _ s => tI mx m r ops s P call) (fun mx r ops P call _ s => Hs mx r ops s P call) (fun mx r ops bU P call _ s => Hr mx r ops bU s P call)
  (fun a b _ _ _ _ ih s => zZ (ih a s) fun s => ih b s) (fun c a b _ _ _ _ ih s => rA (c.get s.env.loc s.env.vars) (fun t => fx t (ih a s) (ih b s)) none)
  (fun id b _ _ _ ih s => Cm (ih b s) id) (fun b _ _ _ ih s => zZ (ih b s) fun s => ih (.loop b) s) (fun id _ _ _ s => some (.exit id, s)) (fun _ _ _ s => some (.ret, s)) (fun g ps x y P call _ s => lL P call g ps x y s) (fun _ _ _ _ => none) c P call ih s
theorem zY (r : aL) (k : St → aL) : zZ r k = ob r fun r => match r.1 with | .dh => k r.2 | e => some (e, r.2) := by
 rcases r with _ | ⟨ex, s⟩
 ·rfl
 ·cases ex <;> rfl
theorem F4 (r : aL) (id : Nat) : Cm r id = ob r fun r => match r.1 with | .exit j => ae (Nat.beq j id) (some (.dh, r.2)) (some (.exit j, r.2)) | e => some (e, r.2) := by
 rcases r with _ | ⟨ex, s⟩
 ·rfl
 ·cases ex <;> rfl
theorem Cj (m : Nat) (V : Sl) : wN m [] V [] V := ⟨fun _ => rfl, fun _ _ => rfl, fun _ _ => rfl⟩
theorem CA (P : Program) (call : ai) (m : Nat) (ops : Array Oper) (s : St) :
  tI (cQ ops.toList) m (fy P m ops ops.toList) ops s P call = ob (dR P (iS s.bV call) ops ops.toList s) eP := by
 show tI (cQ ops.toList) m (fy P m ops ops.toList) ops s P call = ua P (iS s.bV call) ops ops.toList s
 unfold tI Aj
 obtain ⟨⟨loc, vars⟩, heap, defers, bV, mask, bX⟩ := s
 simp only
 cases h1 : Nat.beq mask m with
 | false => rfl
 | true =>
  cases h2 : Nat.blt (cQ ops.toList) bX with
  | false => rfl
  | true =>
   simp only [fo]
   cases loc with
   | cons p l => rfl
   | nil =>
    have hm : m = mask := (Nat.eq_of_beq_eq_true h1).symm
    have hl : cQ ops.toList < bX := by rw [fe] at h2; exact of_decide_eq_true h2
    exact D8 P (iS bV call) ops m ops.toList ⟨⟨[], vars⟩, heap, defers, bV, mask, bX⟩ [] vars _ hm (Cj m vars) (n8 hl) rfl
theorem xu (P : Program) (call : ai) (ops : Array Oper) (s : St) (hp : gD P ops = true) :
  yI (cQ ops.toList) (db P ops (cP P ops)) (Region.before ops) s P call (sg P call ops s (cP P ops) [] s.alone) = sg P call ops s (cP P ops) [] s.alone := by
 unfold yI
 cases h2 : Nat.blt (cQ ops.toList) s.bX with
 | false => rfl
 | true =>
  simp only [fo]
  have hl : cQ ops.toList < s.bX := by rw [fe] at h2; exact of_decide_eq_true h2
  refine AG P call ops s (cP P ops) [] s.alone _ rfl (n8 hl) (fun i hi => ?_) rfl
  have h1 := (uB hp).2.2.2 i hi
  unfold zT at h1
  cases ho : ops[i]? with
  | none => rw [ho] at h1; cases h1
  | some o => exact (Array.getElem?_eq_some_iff.1 ho).1
inductive Good (P : Program) : ir → Code → Prop where
 | skip : Good P .skip .skip
 | label (l : _) : Good P .skip (.label l)
 | region (m : Nat) (id : _) (ops : Array Oper) : Good P (.region (cQ ops.toList) m (fy P m ops ops.toList) ops) (.region id ops false)
 | draw (id : _) (ops : Array Oper) : Good P (.draw (cQ ops.toList) (db P ops (cP P ops)) ops) (.region id ops true)
 | drawn (id : _) (ops : Array Oper) (h : gD P ops = true) : Good P (.drawn (cQ ops.toList) (db P ops (cP P ops)) ops (Region.before ops)) (.region id ops true)
 | seq {a b : ir} {c d : Code} (h : Good P a c) (h' : Good P b d) : Good P (.seq a b) (.seq c d)
 | cond (x : Operand) {a b : ir} {c d : Code} (h : Good P a c) (h' : Good P b d) : Good P (.cond (aJ P 0 x) a b) (.cond x c d)
 | block (id : _) {a : ir} {c : Code} (h : Good P a c) : Good P (.block id a) (.block id c)
 | loop {a : ir} {c : Code} (h : Good P a c) : Good P (.loop a) (.loop c)
 | exit (id : _) : Good P (.exit id) (.exit id)
 | ret : Good P .ret .ret
 | range (g : Operand) (ps : Array Tmp) (x y : Code) : Good P (.range g ps x y) (.rangeFunc g ps x y)
 | bad (c : Code) (h : ∀ K ih s, cb P K ih c s = none) : Good P .bad c
theorem dC (P : Program) (m : Nat) : ∀ c, Good P (fp P m c) c
 | .skip => .skip
 | .label l => .label l
 | .region id ops d => by cases d; exact .region m id ops; exact .draw id ops
 | .seq a b => .seq (dC P m a) (dC P m b)
 | .cond x a b => .cond x (dC P m a) (dC P m b)
 | .block id a => .block id (dC P m a)
 | .loop a => .loop (dC P m a)
 | .exit id => .exit id
 | .ret => .ret
 | .goto _ => .bad _ fun _ _ _ => rfl
 | .scope _ => .bad _ fun _ _ _ => rfl
 | .refuse _ => .bad _ fun _ _ _ => rfl
 | .rangeFunc g ps x y => .range g ps x y
theorem Gd (P : Program) (K call : ai) (ih : mG) (ih' : Code → St → aL) (hcall : call = eG K (cC P ih')) (h : ∀ f c, Good P f c → ∀ s, ih f s = ih' c s) {f : ir} {c : Code} (hg : Good P f c) (s : St) :
  stepG f P call ih s = cb P K ih' c s := by
 subst hcall
 cases hg with
 | skip => rfl
 | label l => rfl
 | region m id ops => exact CA P _ m ops s
 | draw id ops =>
  show Hs _ _ _ s P _ = ae (gD P ops) _ none
  unfold Hs
  cases hp : gD P ops with
  | false => rfl
  | true => exact xu P _ ops s hp
 | drawn id ops hp =>
  show Hr _ _ _ _ s P _ = ae (gD P ops) _ none
  rw [hp]
  exact xu P _ ops s hp
 | seq ha hb =>
  rename_i a b c d
  show zZ (ih a s) (fun s => ih b s) = _
  rw [zY]
  simp only [h _ _ ha, h _ _ hb, cb]
  rfl
 | cond x ha hb =>
  rename_i a b c d
  show rA (bA P 0 s.env.loc s.env.vars x) (fun t => fx t (ih a s) (ih b s)) none = _
  rw [xf, vu (xm s.env.loc s.env.vars) P]
  simp only [h _ _ ha, h _ _ hb, cb]
  show oR (s.env.eval P x).isBool _ _ = ob (s.env.eval P x).isBool _
  cases (s.env.eval P x).isBool with
  | none => rfl
  | some t => cases t <;> rfl
 | block id ha =>
  rename_i a c
  show Cm (ih a s) id = _
  rw [F4]
  simp only [h _ _ ha, cb]
  rfl
 | loop ha =>
  rename_i a c
  show zZ (ih a s) (fun s => ih (.loop a) s) = _
  rw [zY]
  simp only [h _ _ ha, h _ _ (Good.loop ha), cb]
  rfl
 | exit id => rfl
 | ret => rfl
 | range g ps x y => rfl
 | bad c hb => rw [hb]; rfl
/-! ## Calls -/
abbrev RC := Option (pB × Heap)
def Bo (x : ad) (f : ad → RC) : RC :=
 @ad.rec (fun _ => (ad → RC) → RC) (fun _ => PUnit) (fun f => f .bad) (fun b f => f (.bool b)) (fun k n f => f (.int k n)) (fun n c f => f (.str n c)) (fun f => f .fK) (fun p o f => f (.ptr p o)) (fun f => f .aD) (fun p o l c f => f (.slice p o l c)) (fun f => f .lV) (fun p f => f (.map p)) (fun f => f .mF) (fun g a b _ _ f => f (.func g a b)) (fun f => f .hZ) (fun t v _ f => f (.iface t v)) (fun l _ f => f (.agg l)) (fun l _ f => f (.tuple l)) (fun k f => f (.yield k)) (fun k f => f (.mark k)) (fun k lo hi f => f (.BJ k lo hi)) (fun f => f .empty) (fun k f => f (.rest k)) PUnit.unit (fun _ _ _ _ => PUnit.unit) x f
theorem E3 (x : ad) (f : ad → RC) : Bo x f = f x := by cases x <;> rfl
structure cK where
 fn : Func
 body : ir
 mask : Nat
 res : Option (List cI)
def ka : List ResultVar → Option (List cI)
 | [] => some []
 | .tmp t :: l => ob (ka l) fun r => some (.loc t :: r)
 | .cell .. :: _ => none
def DQ (l : List cI) (loc vars : Sl) (k : List ad → RC) : RC :=
 @List.rec cI (fun _ => Sl → Sl → (List ad → RC) → RC) (fun _ _ k => k []) (fun a _ ih loc vars k => Bo (a.get loc vars) fun v => ih loc vars fun r => k (v :: r)) l loc vars k
def Lg (l : List ad) : ad := @List.rec ad (fun _ => ad) (.tuple []) (fun v t _ => @List.rec ad (fun _ => ad) v (fun x t' _ => .tuple (v :: x :: t')) t) l
def Iq (P : Program) (ff : cK) (s : St) : RC :=
 @Option.rec (List cI) (fun _ => Program → cK → St → RC) (fun P ff s => ob (jQ P ff.fn s) fun v => some (.ret v, s.heap)) (fun l _ _ s => DQ l s.env.loc s.env.vars fun vs => some (.ret (Lg vs), s.heap)) ff.res P ff s
def rM (P : Program) (run : mG) (fn : Func) (p : DV) (s : St) : RC := fZ P (fun c s => run (fp P 0 c) s) fn s.defers p s
def xB (P : Program) (run : mG) (ff : cK) (s : St) : RC :=
 @List.rec (Nat × List ad) (fun _ => Program → mG → cK → St → RC) (fun P _ ff s => Iq P ff s) (fun _ _ _ P run ff s => rM P run ff.fn .calm s) s.defers P run ff s
def LW (P : Program) (run : mG) (ff : cK) (r : aL) : RC :=
 @Option.rec (Ex × St) (fun _ => Program → mG → cK → RC) (fun _ _ _ => none) (fun r P run ff => @Ex.rec (fun _ => St → Program → mG → cK → RC) (fun s P run ff => xB P run ff s) (fun _ _ _ _ _ => none)
  (fun s P run ff => xB P run ff s) (fun v s P run ff => rM P run ff.fn (.on v) s) r.1 r.2 P run ff) r P run ff
def yJ (n : Nat) (k : Nat → RC) : RC := @Nat.rec (fun _ => RC) (k 0) (fun m _ => k (Nat.succ m)) n
def Ki (l : List ad) (i : Nat) (k : Sl → RC) : RC := @List.rec ad (fun _ => Nat → (Sl → RC) → RC) (fun _ k => k []) (fun v _ ih i k => ih (Nat.succ i) fun r => k ((i, v) :: r)) l i k
def LM (l : List ad) : Nat := @List.rec ad (fun _ => Nat) 0 (fun _ _ ih => Nat.succ ih) l
def CF (P : Program) (run : mG) (ff : cK) (args : List ad) (h : Heap) : RC :=
 Ki args 0 fun vars => yJ (LM args) fun n => yJ (Nat.lor ff.mask (Nat.sub (Nat.pow 2 n) 1)) fun mask => yJ (Nat.add n (Nat.sub ff.fn.ntmps n)) fun bX =>
  LW P run ff (run ff.body ⟨⟨[], vars⟩, h, [], .none, mask, bX⟩)
def LP (t : T cK) (n : Nat) : Option cK :=
 @T.rec cK (fun _ => Nat → Option cK) (fun _ => none)
  (fun _ v _ gl gr n => @Nat.rec (fun _ => Option cK) v (fun m _ => @Bool.rec (fun _ => Option cK) (gr (Nat.div m 2)) (gl (Nat.div m 2)) (Nat.beq (Nat.mod m 2) 0)) n) t n
def mB (P : Program) (tbl : T cK) (run : mG) : ai := fun f args h =>
 @Option.rec cK (fun _ => Program → mG → List ad → Heap → RC) (fun _ _ _ _ => none) (fun ff P run args h => CF P run ff args h) (LP tbl f) P run args h
def AV (P : Program) (tbl : T cK) (run : mG) : ai := fun f args h => @Bool.rec (fun _ => RC) (yb P (Nat.sub f b7) args h) (mB P tbl run f args h) (Nat.blt f b7)
def tJ (K c : ai) : ai := fun f args h => @Option.rec (pB × Heap) (fun _ => RC → RC) (fun r => r) (fun x _ => some x) (K f args h) (c f args h)
structure JU (P : Program) (ff : cK) (fn : Func) (c : Code) : Prop where
 func : ff.fn = fn
 body : Good P ff.body c
 mask : ff.mask = jm fn
 res : ff.res = ka fn.results.toList
def oo (P : Program) (tbl : T cK) : Prop := ∀ f, match P.funcs[f]? with
 | none => tbl.get f = none
 | some fn => match fn.body with
  | none => tbl.get f = none
  | some c => ∃ ff, tbl.get f = some ff ∧ JU P ff fn c
theorem Bb (loc vars : Sl) : ∀ (l : List cI) (k : List ad → RC), DQ l loc vars k = k (l.map fun a => a.get loc vars)
 | [], k => rfl
 | a :: l, k => by
  show Bo (a.get loc vars) (fun v => DQ l loc vars fun r => k (v :: r)) = _
  rw [E3, Bb loc vars l]; rfl
theorem rJ (n : Nat) (k : Nat → RC) : yJ n k = k n := by cases n <;> rfl
theorem Dh : ∀ (l : List ad) (i : Nat) (k : Sl → RC), Ki l i k = k (ck l i)
 | [], i, k => rfl
 | v :: l, i, k => by
  show Ki l (Nat.succ i) (fun r => k ((i, v) :: r)) = _
  rw [Dh l]; rfl
theorem IJ (l : List ad) : LM l = l.length := yD l
theorem vG (P : Program) (s : St) : ∀ {l : List ResultVar} {r : List cI}, ka l = some r → dQ P s l = some (r.map fun a => a.get s.env.loc s.env.vars)
 | [], r, e => by cases e; rfl
 | .tmp t :: l, r, e => by
  simp only [ka] at e
  obtain ⟨r', h1, h2⟩ := aa.1 e
  cases h2
  simp only [dQ, vG P s h1, obS, List.map_cons]
  rw [cI.DC]; rfl
 | .cell a t :: l, r, e => by cases e
theorem Ip (P : Program) (ff : cK) (hr : ff.res = ka ff.fn.results.toList) (s : St) : Iq P ff s = ob (jQ P ff.fn s) fun v => some (.ret v, s.heap) := by
 unfold Iq
 cases h : ff.res with
 | none => rfl
 | some l =>
  show DQ l s.env.loc s.env.vars (fun vs => some (.ret (Lg vs), s.heap)) = _
  rw [Bb]
  rw [h] at hr
  unfold jQ
  rw [vG P s hr.symm]
  simp only [obS]
  generalize l.map (fun a => a.get s.env.loc s.env.vars) = vs
  rcases vs with _ | ⟨a, _ | ⟨b, vs⟩⟩ <;> rfl
theorem AI (P : Program) (run : mG) (ff : cK) (hr : ff.res = ka ff.fn.results.toList) (s : St) : xB P run ff s = fZ P (fun c s => run (fp P 0 c) s) ff.fn s.defers .calm s := by
 unfold xB
 cases hd : s.defers with
 | nil => show Iq P ff s = _; rw [Ip P ff hr]; rfl
 | cons d ds => show rM P run ff.fn .calm s = _; unfold rM; rw [hd]
theorem HP {P : Program} {tbl : T cK} (ht : oo P tbl) (run : mG) (run' : Code → St → aL) (h : ∀ f c, Good P f c → ∀ s, run f s = run' c s) : mB P tbl run = me P run' := by
 funext f args hp
 unfold mB me
 have hg : LP tbl f = tbl.get f := rfl
 have htf := ht f
 rw [hg]
 cases hf : P.funcs[f]? with
 | none => rw [hf] at htf; simp only at htf; rw [htf]; rfl
 | some fn =>
  rw [hf] at htf
  simp only [obS] at htf ⊢
  cases hb : fn.body with
  | none => rw [hb] at htf; simp only at htf; rw [htf]; rfl
  | some c =>
   rw [hb] at htf
   simp only [obS] at htf ⊢
   obtain ⟨ff, hff, hgood⟩ := htf
   rw [hff]
   show CF P run ff args hp = _
   unfold CF
   rw [Dh, rJ, rJ, rJ, IJ]
   have e : run ff.body ⟨⟨[], ck args 0⟩, hp, [], .none, Nat.lor ff.mask (Nat.sub (Nat.pow 2 args.length) 1), Nat.add args.length (Nat.sub ff.fn.ntmps args.length)⟩ = run' c (gh fn args hp .none) := by
    rw [h _ _ hgood.body, hgood.mask, hgood.func]; rfl
   rw [e]
   cases run' c (gh fn args hp .none) with
   | none => rfl
   | some r =>
    obtain ⟨ex, s⟩ := r
    have hrun : (fun c s => run (fp P 0 c) s) = run' := by funext c s; exact h _ _ (dC P 0 c) s
    have hres : ff.res = ka ff.fn.results.toList := by rw [hgood.res, hgood.func]
    simp only [obS]
    cases ex with
    | dh =>
     show xB P run ff s = _
     rw [AI P run ff hres, hrun, hgood.func]
    | ret =>
     show xB P run ff s = _
     rw [AI P run ff hres, hrun, hgood.func]
    | exit id => rfl
    | bV v => show rM P run ff.fn (.on v) s = _; unfold rM; rw [hrun, hgood.func]
theorem AU {P : Program} {tbl : T cK} (ht : oo P tbl) (run : mG) (run' : Code → St → aL) (h : ∀ f c, Good P f c → ∀ s, run f s = run' c s) : AV P tbl run = cC P run' := by
 funext f args hp
 unfold AV cC
 rw [HP ht run run' h]
 cases Nat.blt f b7 <;> rfl
theorem CN (K c : ai) : tJ K c = eG K c := by
 funext f args h
 unfold tJ eG
 cases K f args h <;> rfl
def DE (P : Program) (tbl : T cK) (K : ai) (n : Nat) : mG := @Nat.rec (fun _ => mG) (fun _ _ => none) (fun _ ih c s => stepG c P (tJ K (AV P tbl ih)) ih s) n
theorem AA {P : Program} {tbl : T cK} (ht : oo P tbl) (K : ai) : ∀ (n : Nat) (f : ir) (c : Code), Good P f c → ∀ s, DE P tbl K n f s = jx P K n c s
 | 0, _, _, _, _ => rfl
 | n + 1, f, c, hg, s => by
  have h := AA ht K n
  refine Gd P K (tJ K (AV P tbl (DE P tbl K n))) (DE P tbl K n) (jx P K n) ?_ h hg s
  rw [CN, AU ht _ _ h]
def zz (P : Program) (tbl : T cK) (K : ai) (n : Nat) : ai := AV P tbl (DE P tbl K n)
theorem Im {P : Program} {tbl : T cK} (ht : oo P tbl) (K : ai) (n : Nat) : zz P tbl K n = K5 P K n := AU ht _ _ (AA ht K n)
/-! ## Plans that are known -/
structure Pl where
 Kc : List Nat
 bU : List Nat
def mO : List Nat → List Nat → Bool
 | [], [] => true
 | a :: l, b :: m => ae (Nat.beq a b) (mO l m) false
 | _, _ => false
theorem mN : ∀ {l m : List Nat}, mO l m = true → l = m
 | [], [], _ => rfl
 | a :: l, b :: m, h => by
  simp only [mO] at h
  cases hb : Nat.beq a b with
  | false => rw [hb] at h; cases h
  | true =>
   rw [hb] at h
   rw [Nat.eq_of_beq_eq_true hb, mN h]
 | [], _ :: _, h => by cases h
 | _ :: _, [], h => by cases h
def fH (P : Program) (m : Nat) : Code → List Pl → ir × List Pl
 | .region _ ops d, pl => ae d (match pl with
  | [] => (.draw (cQ ops.toList) (db P ops (cP P ops)) ops, [])
  | p :: pl => (.drawn (cQ ops.toList) (db P ops p.Kc) ops ⟨p.bU⟩, pl)) (.region (cQ ops.toList) m (fy P m ops ops.toList) ops, pl)
 | .seq a b, pl => (.seq (fH P m a pl).1 (fH P m b (fH P m a pl).2).1, (fH P m b (fH P m a pl).2).2)
 | .cond c a b, pl => (.cond (aJ P 0 c) (fH P m a pl).1 (fH P m b (fH P m a pl).2).1, (fH P m b (fH P m a pl).2).2)
 | .block id b, pl => (.block id (fH P m b pl).1, (fH P m b pl).2)
 | .loop b, pl => (.loop (fH P m b pl).1, (fH P m b pl).2)
 | .exit id, pl => (.exit id, pl)
 | .rangeFunc g ps x y, pl => (.range g ps x y, pl)
 | .ret, pl => (.ret, pl)
 | .skip, pl => (.skip, pl)
 | .label _, pl => (.skip, pl)
 | _, pl => (.bad, pl)
def C0 (P : Program) : Code → List Pl → Option (List Pl)
 | .region _ ops d, pl => ae d (match pl with
  | [] => some []
  | p :: pl => ae (gD P ops) (ae (mO p.Kc (cP P ops)) (ae (mO p.bU (Region.before ops).toList) (some pl) none) none) none) (some pl)
 | .seq a b, pl => ob (C0 P a pl) fun pl => C0 P b pl
 | .cond _ a b, pl => ob (C0 P a pl) fun pl => C0 P b pl
 | .block _ b, pl => C0 P b pl
 | .loop b, pl => C0 P b pl
 | _, pl => some pl
theorem hY (P : Program) (m : Nat) : ∀ (c : Code) (pl r : List Pl), C0 P c pl = some r → (fH P m c pl).2 = r ∧ Good P (fH P m c pl).1 c
 | .skip, pl, r, h => by cases h; exact ⟨rfl, .skip⟩
 | .label l, pl, r, h => by cases h; exact ⟨rfl, .label l⟩
 | .region id ops d, pl, r, h => by
  cases d with
  | false => cases h; exact ⟨rfl, .region m id ops⟩
  | true =>
   cases pl with
   | nil => cases h; exact ⟨rfl, .draw id ops⟩
   | cons p pl =>
    simp only [C0, bcT] at h
    obtain ⟨h1, e1⟩ := af.1 h
    obtain ⟨h2, e2⟩ := af.1 e1
    obtain ⟨h3, e3⟩ := af.1 e2
    cases e3
    have e4 : (⟨p.bU⟩ : Array Nat) = Region.before ops := by rw [mN h3]
    refine ⟨rfl, ?_⟩
    show Good P (.drawn (cQ ops.toList) (db P ops p.Kc) ops ⟨p.bU⟩) _
    rw [e4, mN h2]
    exact .drawn id ops h1
 | .seq a b, pl, r, h => by
  simp only [C0] at h
  obtain ⟨q, h1, h2⟩ := aa.1 h
  obtain ⟨e1, g1⟩ := hY P m a pl q h1
  obtain ⟨e2, g2⟩ := hY P m b q r h2
  simp only [fH]
  rw [e1]
  exact ⟨e2, .seq g1 g2⟩
 | .cond x a b, pl, r, h => by
  simp only [C0] at h
  obtain ⟨q, h1, h2⟩ := aa.1 h
  obtain ⟨e1, g1⟩ := hY P m a pl q h1
  obtain ⟨e2, g2⟩ := hY P m b q r h2
  simp only [fH]
  rw [e1]
  exact ⟨e2, .cond x g1 g2⟩
 | .block id b, pl, r, h => by
  obtain ⟨e1, g1⟩ := hY P m b pl r h
  exact ⟨e1, .block id g1⟩
 | .loop b, pl, r, h => by
  obtain ⟨e1, g1⟩ := hY P m b pl r h
  exact ⟨e1, .loop g1⟩
 | .exit id, pl, r, h => by cases h; exact ⟨rfl, .exit id⟩
 | .ret, pl, r, h => by cases h; exact ⟨rfl, .ret⟩
 | .goto l, pl, r, h => by cases h; exact ⟨rfl, .bad _ fun _ _ _ => rfl⟩
 | .scope _, pl, r, h => by cases h; exact ⟨rfl, .bad _ fun _ _ _ => rfl⟩
 | .refuse _, pl, r, h => by cases h; exact ⟨rfl, .bad _ fun _ _ _ => rfl⟩
 | .rangeFunc g ps x y, pl, r, h => by cases h; exact ⟨rfl, .range g ps x y⟩
abbrev Plans := List (Nat × List Pl)
def jR (t : Plans) (i : Nat) : List Pl := assoc t [] i
def yv (P : Program) (fn : Func) (pl : List Pl) : Bool := match fn.body with
 | some c => match C0 P c pl with
  | some _ => true
  | none => false
 | none => true
def fU (P : Program) : Plans → Bool
 | [] => true
 | p :: t => ae (match P.funcs[p.1]? with | some fn => yv P fn p.2 | none => true) (fU P t) false
theorem uM {P : Program} : ∀ {t : Plans}, fU P t = true → ∀ (i : Nat) (fn : Func), P.funcs[i]? = some fn → jR t i = [] ∨ yv P fn (jR t i) = true
 | [], _, _, _, _ => .inl rfl
 | p :: t, h, i, fn, hf => by
  have h' : ae (match P.funcs[p.1]? with | some fn => yv P fn p.2 | none => true) (fU P t) false = true := h
  have e : jR (p :: t) i = if p.1 = i then p.2 else jR t i := bq _ _ _ _
  rw [e]
  cases hb : (match P.funcs[p.1]? with | some fn => yv P fn p.2 | none => true) with
  | false => rw [hb] at h'; cases h'
  | true =>
   rw [hb] at h'
   by_cases hi : p.1 = i
   ·rw [if_pos hi]
    rw [hi, hf] at hb
    exact .inr hb
   ·rw [if_neg hi]; exact uM h' i fn hf
theorem sw {P : Program} : ∀ {s t : Plans}, fU P s = true → fU P t = true → fU P (s ++ t) = true
 | [], _, _, h => h
 | p :: s, t, h, h' => by
  have h1 : ae (match P.funcs[p.1]? with | some fn => yv P fn p.2 | none => true) (fU P s) false = true := h
  show ae (match P.funcs[p.1]? with | some fn => yv P fn p.2 | none => true) (fU P (s ++ t)) false = true
  cases hb : (match P.funcs[p.1]? with | some fn => yv P fn p.2 | none => true) with
  | false => rw [hb] at h1; cases h1
  | true => rw [hb] at h1; exact sw h1 h'
def jB (P : Program) (fn : Func) (pl : List Pl) : Option cK := match fn.body with
 | some c => some ⟨fn, (fH P (Nat.lor (jm fn) (Nat.sub (Nat.pow 2 (Nat.add fn.params.size fn.nfree)) 1)) c pl).1, jm fn, ka fn.results.toList⟩
 | none => none
theorem lP (P : Program) : ∀ c, C0 P c [] = some []
 | .skip => rfl
 | .label _ => rfl
 | .region _ _ d => by cases d <;> rfl
 | .seq a b => by simp only [C0, lP P a, obS, lP P b]
 | .cond _ a b => by simp only [C0, lP P a, obS, lP P b]
 | .block _ b => lP P b
 | .loop b => lP P b
 | .exit _ => rfl
 | .ret => rfl
 | .goto _ => rfl
 | .scope _ => rfl
 | .refuse _ => rfl
 | .rangeFunc .. => rfl
theorem wG {P : Program} {fn : Func} {c : Code} (hb : fn.body = some c) {pl : List Pl} (h : pl = [] ∨ yv P fn pl = true) : ∃ ff, jB P fn pl = some ff ∧ JU P ff fn c := by
 have hg : ∀ m, Good P (fH P m c pl).1 c := by
  intro m
  rcases h with rfl | h
  ·exact (hY P m c [] [] (lP P c)).2
  ·simp only [yv, hb] at h
   cases ho : C0 P c pl with
   | none => rw [ho] at h; cases h
   | some r => exact (hY P m c pl r ho).2
 refine ⟨_, by simp only [jB, hb]; rfl, ⟨rfl, hg _, rfl, rfl⟩⟩
/-! ## The tree of functions -/
def Gq {α : Type} (t : T α) (i : Nat) (o : Option α) : T α := match o with | some a => t.set i a | none => t
def kP (P : Program) (pls : Plans) : List Func → Nat → T cK → T cK
 | [], _, t => t
 | fn :: l, i, t => kP P pls l (Nat.succ i) (Gq t i (jB P fn (jR pls i)))
def tu (P : Program) (pls : Plans) : T cK := kP P pls P.funcs.toList 0 .leaf
theorem Ap {α : Type} (t : T α) (i j : Nat) (o : Option α) : (Gq t i o).get j = if j = i then o.or (t.get j) else t.get j := by
 cases o with
 | none => simp [Gq]
 | some a => simp only [Gq, T.tG, Option.some_or]
theorem oC (P : Program) (pls : Plans) : ∀ (l : List Func) (i : Nat) (t : T cK), (∀ j, i ≤ j → t.get j = none) → ∀ j, (kP P pls l i t).get j = if i ≤ j then (l[j - i]?).bind (fun fn => jB P fn (jR pls j)) else t.get j
 | [], i, t, ht, j => by
  simp only [kP]
  split
  ·rename_i h; rw [ht j h]; simp
  ·rfl
 | fn :: l, i, t, ht, j => by
  simp only [kP]
  have hi := oC P pls l (Nat.succ i) (Gq t i (jB P fn (jR pls i))) (fun k hk => by rw [Ap, if_neg (by omega)]; exact ht k (by omega)) j
  rw [hi]
  by_cases h1 : Nat.succ i ≤ j
  ·rw [if_pos h1, if_pos (by omega)]
   obtain ⟨m, rfl⟩ : ∃ m, j = i + 1 + m := ⟨j - (i + 1), by omega⟩
   rw [show i + 1 + m - i = m + 1 by omega, show i + 1 + m - Nat.succ i = m by omega]
   rfl
  ·rw [if_neg h1, Ap]
   by_cases h2 : j = i
   ·subst h2
    rw [if_pos rfl, if_pos (Nat.le_refl _), ht j (Nat.le_refl _)]
    simp
   ·rw [if_neg h2, if_neg (by omega)]
theorem Bt {P : Program} {pls : Plans} (h : fU P pls = true) : oo P (tu P pls) := by
 intro f
 have e : (tu P pls).get f = (P.funcs[f]?).bind (fun fn => jB P fn (jR pls f)) := by
  unfold tu
  rw [oC P pls _ 0 .leaf (fun _ _ => rfl) f, if_pos (Nat.zero_le _)]
  simp
 split
 ·rename_i hf; rw [e, hf]; rfl
 ·rename_i fn hf
  split
  ·rename_i hb; rw [e, hf]; simp only [Option.bind_some, jB, hb]
  ·rename_i c hb
   obtain ⟨ff, h1, h2⟩ := wG hb (uM h f fn hf)
   exact ⟨ff, by rw [e, hf]; exact h1, h2⟩
end
end Go.HL
namespace Go.HL
open Go
set_option linter.unusedVariables false
/-! ## Memories by lists -/
noncomputable section
def dm : List (Nat × aE) → Nat → Option aE
 | [], _ => none
 | p :: l, k => if k = p.1 then some p.2 else dm l k
def hH (t : T aE) : List (Nat × aE) → T aE
 | [] => t
 | p :: l => (hH t l).set p.1 p.2
theorem jY (t : T aE) : ∀ (l : List (Nat × aE)) (k : Nat), (hH t l).get k = (dm l k).or (t.get k)
 | [], k => rfl
 | p :: l, k => by
  simp only [hH, dm]
  rw [T.tG]
  split
  ·rfl
  ·exact jY t l k
theorem dL : ∀ {l : List (Nat × aE)} {k : Nat} {o : aE}, dm l k = some o → (k, o) ∈ l
 | p :: l, k, o, h => by
  simp only [dm] at h
  split at h
  ·rename_i hk; cases h; rw [hk]; exact List.mem_cons_self
  ·exact List.mem_cons_of_mem _ (dL h)
def p9 : List (Nat × aE) → Nat → Bool
 | [], _ => false
 | p :: l, k => ae (Nat.beq k p.1) true (p9 l k)
theorem p8 : ∀ {l : List (Nat × aE)} {k : Nat}, p9 l k = true ↔ ∃ o, dm l k = some o
 | [], k => by simp [p9, dm]
 | p :: l, k => by
  simp only [p9, dm, bcE, bm]
  by_cases h : k = p.1
  ·simp [h]
  ·simp [h, p8 (l := l)]
def DG : List cH → List cH → Bool
 | [], [] => true
 | a :: l, b :: m => ae (ad.beq a.key b.key) (ae (ad.beq a.val b.val) (ae (Nat.beq a.born b.born) (DG l m) false) false) false
 | _, _ => false
def D6 (a b : Bool) : Bool := ae a b (ae b false true)
def Kg : aE → aE → Bool
 | .cells l e s r, .cells l' e' s' r' => ae (Nat.beq e e') (ae (D6 s s') (ae (D6 r r') (qN l l') false) false) false
 | .map l c r, .map l' c' r' => ae (Nat.beq c c') (ae (D6 r r') (DG l l') false) false
 | .dead, .dead => true
 | .iter none, .iter none => true
 | .iter (some a), .iter (some b) => Nat.beq a b
 | _, _ => false
theorem bcFe {b t : Bool} : ae b t false = true ↔ b = true ∧ t = true := by cases b <;> simp
theorem sQ : ∀ {l m : List cH}, DG l m = true → l = m
 | [], [], _ => rfl
 | a :: l, b :: m, h => by
  simp only [DG, bcFe] at h
  obtain ⟨h1, h2, h3, h4⟩ := h
  obtain ⟨ak, av, ab⟩ := a
  obtain ⟨bk, bv, bb⟩ := b
  simp only at h1 h2 h3
  rw [gO _ _ h1, gO _ _ h2, Nat.eq_of_beq_eq_true h3, sQ h4]
 | [], _ :: _, h => by cases h
 | _ :: _, [], h => by cases h
theorem mR {a b : Bool} (h : D6 a b = true) : a = b := by cases a <;> cases b <;> first | rfl | cases h
theorem C1 {a b : aE} (h : Kg a b = true) : a = b := by
 unfold Kg at h
 split at h
 ·simp only [bcFe] at h
  obtain ⟨h1, h2, h3, h4⟩ := h
  rw [Nat.eq_of_beq_eq_true h1, mR h2, mR h3, fC _ _ h4]
 ·simp only [bcFe] at h
  obtain ⟨h1, h2, h3⟩ := h
  rw [Nat.eq_of_beq_eq_true h1, mR h2, sQ h3]
 ·rfl
 ·rfl
 ·rw [Nat.eq_of_beq_eq_true h]
 ·cases h
def y4 (h : Heap) : List (Nat × aE) → Bool
 | [] => true
 | p :: l => ae (match h.get p.1 with | some o => Kg o p.2 | none => false) (y4 h l) false
theorem kQ {h : Heap} : ∀ {l : List (Nat × aE)}, y4 h l = true → ∀ {k : Nat} {o : aE}, (k, o) ∈ l → h.get k = some o
 | p :: l, e, k, o, hm => by
  simp only [y4, bcFe] at e
  rcases List.mem_cons.1 hm with rfl | hm
  ·cases hg : h.get k with
   | none => simp only [hg] at e; exact absurd e.1 (by simp)
   | some o' => simp only [hg] at e; rw [C1 e.1]
  ·exact kQ e.2 hm
/-! ## Known calls -/
structure qZ where
 f : Nat
 args : List ad
 next : Nat
 ln : List (Nat × aE)
 res : ad
 next' : Nat
 bJ : List (Nat × aE)
def qZ.lk (e : qZ) : Heap := ⟨e.next, hH .leaf e.ln⟩
def IL (e : qZ) : List (Nat × aE) → Bool
 | [] => true
 | p :: l => ae p.2.live (ae (p9 e.bJ p.1) (ae (Nat.blt p.1 e.next) (IL e l) false) false) false
def Dc (e : qZ) : List (Nat × aE) → Bool
 | [] => true
 | p :: l => ae (ae (p9 e.ln p.1) true (ae p.2.owned true (ae p.2.live false true))) (Dc e l) false
def Gl (run : ai) (e : qZ) : Bool := match run e.f e.args e.lk with
 | some r => match r.1 with
  | .ret v => ae (ad.beq v e.res) (ae (Nat.beq r.2.next e.next') (ae (y4 r.2 e.bJ) (ae (IL e e.ln) (Dc e e.bJ) false) false) false) false
  | _ => false
 | none => false
def fR (run : ai) (e : qZ) : Bool := ae (Nat.blt e.f b7) (Gl run e) false
def known : List qZ → ai
 | [], _, _, _ => none
 | e :: l, f, args, h => ae (Nat.beq e.f f) (ae (ae (qN e.args args) (ae (Nat.beq e.next h.next) (y4 h e.ln) false) false) (some (.ret e.res, ⟨e.next', hH h.t e.bJ⟩)) (known l f args h)) (known l f args h)
end
section
variable {P : Program}
theorem qx {e : qZ} : ∀ {l : List (Nat × aE)}, IL e l = true → ∀ {k : Nat} {o : aE}, (k, o) ∈ l → o.live = true ∧ (∃ o', dm e.bJ k = some o') ∧ k < e.next
 | p :: l, h, k, o, hm => by
  simp only [IL, bcFe] at h
  obtain ⟨h1, h2, h3, h4⟩ := h
  rcases List.mem_cons.1 hm with rfl | hm
  ·exact ⟨h1, p8.1 h2, by rw [fe] at h3; exact of_decide_eq_true h3⟩
  ·exact qx h4 hm
theorem xc {e : qZ} : ∀ {l : List (Nat × aE)}, Dc e l = true → ∀ {k : Nat} {o : aE}, (k, o) ∈ l → (∃ o', dm e.ln k = some o') ∨ o.owned = true ∨ o.live = false
 | p :: l, h, k, o, hm => by
  simp only [Dc, bcFe] at h
  obtain ⟨h1, h2⟩ := h
  rcases List.mem_cons.1 hm with rfl | hm
  ·cases hk : p9 e.ln k with
   | true => exact .inl (p8.1 hk)
   | false =>
    simp only [hk, bcF] at h1
    cases ho : o.owned with
    | true => exact .inr (.inl rfl)
    | false =>
     simp only [ho, bcF] at h1
     cases hl : o.live with
     | true => simp only [hl, bcT] at h1; cases h1
     | false => exact .inr (.inr rfl)
  ·exact xc h2 hm
def oA (P : Program) (e : qZ) : Prop := ∃ run, aW P run ∧ fR run e = true
theorem oA.lt {e : qZ} (h : oA P e) : e.f < b7 := by
 obtain ⟨_, _, hp⟩ := h
 unfold fR at hp
 obtain ⟨h1, _⟩ := bcFe.1 hp
 rw [fe] at h1
 exact of_decide_eq_true h1
theorem lj (e : qZ) (k : Nat) : e.lk.get k = dm e.ln k := by
 show (hH .leaf e.ln).get k = _
 rw [jY]
 show (dm e.ln k).or none = _
 cases dm e.ln k <;> rfl
theorem Hx {e : qZ} (hf : oA P e) {h : Heap} (hn : e.next = h.next) (hs : y4 h e.ln = true) {σ : aj} {w : World} (hr : Rel P σ h w) {vs : List Value} (hv : aq σ e.args vs) :
  Calls P e.f ⟨vs⟩ w fun x w' => ∃ τ, Step P σ h w τ ⟨e.next', hH h.t e.bJ⟩ w' ∧ r5 τ (.ret e.res) x := by
 have hlt := hf.lt
 obtain ⟨run, hrun, hp0⟩ := hf
 have hp := (bcFe.1 hp0).2
 unfold Gl at hp
 cases he : run e.f e.args e.lk with
 | none => rw [he] at hp; cases hp
 | some r =>
  obtain ⟨cr, h1⟩ := r
  rw [he] at hp
  cases cr with
  | bV v => cases hp
  | ret v =>
   simp only [bcFe] at hp
   obtain ⟨e1, e2, e3, e4, e5⟩ := hp
   have hres := gO _ _ e1
   subst hres
   have hnx : h1.next = e.next' := Nat.eq_of_beq_eq_true e2
   have hsub : ∀ {k o}, e.lk.get k = some o → h.get k = some o := by
    intro k o hk
    rw [lj] at hk
    exact kQ hs (dL hk)
   have ln : Rel P σ e.lk w := by
    refine ⟨fun k o p hk => hr.obj k o p (hsub hk), fun k hk => hr.fresh k (by rw [← hn]; exact hk), fun k o hk => ?_, hr.o5, fun k k' o o' p p' hk hk' => hr.inj k k' o o' p p' (hsub hk) (hsub hk'), hr.oz⟩
    show k < e.next
    rw [hn]; exact hr.vy k o (hsub hk)
   refine ((hrun e.f e.args e.lk _ h1 he σ w vs ln hv).1 hlt).mono fun x w' ⟨τ, st, hc⟩ => ⟨τ, ?_, hc⟩
   have hget : ∀ k, (⟨e.next', hH h.t e.bJ⟩ : Heap).get k = (dm e.bJ k).or (h.get k) := fun k => jY h.t e.bJ k
   have bJ : ∀ {k o}, dm e.bJ k = some o → h1.get k = some o := fun hk => kQ e3 (dL hk)
   have hlow : ∀ k, k < h.next → τ k = σ k := fun k hk => st.low k (by show k < e.next; rw [hn]; exact hk)
   have hnext : h.next ≤ e.next' := by rw [← hn, ← hnx]; exact st.next
   -- what is kept of the rest
   have hrest : ∀ {k o p}, dm e.bJ k = none → h.get k = some o → o.live = true → σ k = some p → w'.heap[p.bM]? = w.heap[p.bM]? := by
    intro k o p hk ho hl hp
    refine st.kept.block p.bM (hr.o5 k p hp) ?_
    rintro ⟨k', o', p', hk', ho', hp', hb⟩
    have hk2 := hsub hk'
    have : k' ≠ k := by
     rintro rfl
     rw [lj] at hk'
     obtain ⟨_, ⟨o2, ho2⟩, _⟩ := qx e4 (dL hk')
     rw [hk] at ho2; cases ho2
    exact hr.inj k' k o' o p' p hk2 ho ho' hl this hp' hp hb
   have hownIn : ∀ b, JS σ e.lk b → ∃ k o p, dm e.ln k = some o ∧ h.get k = some o ∧ o.owned = true ∧ σ k = some p ∧ p.bM = b := by
    rintro b ⟨k, o, p, hk, ho, hp, hb⟩
    exact ⟨k, o, p, by rw [← lj]; exact hk, hsub hk, ho, hp, hb⟩
   have hhin : ∀ {k o}, dm e.ln k = some o → ∃ o', dm e.bJ k = some o' := fun hk => (qx e4 (dL hk)).2.1
   refine ⟨st.le, ?_, ?_, ?_, hnext, hlow, ?_⟩
   ·-- the memories
    refine ⟨?_, ?_, ?_, st.rel.o5, ?_, st.rel.oz⟩
    ·intro k o p hk hl hp
     rw [hget] at hk
     cases hk2 : dm e.bJ k with
     | some o2 =>
      rw [hk2] at hk
      cases hk
      exact st.rel.obj k o p (bJ hk2) hl hp
     | none =>
      rw [hk2] at hk
      have hk' : h.get k = some o := hk
      have hp' : σ k = some p := by rw [← hlow k (hr.vy k o hk')]; exact hp
      rw [hrest hk2 hk' hl hp']
      exact (hr.obj k o p hk' hl hp').mono st.le
    ·intro k hk
     exact st.rel.fresh k (by rw [hnx]; exact hk)
    ·intro k o hk
     rw [hget] at hk
     show k < e.next'
     cases hk2 : dm e.bJ k with
     | some o2 => rw [← hnx]; exact st.rel.vy k o2 (bJ hk2)
     | none =>
      rw [hk2] at hk
      have hk' : h.get k = some o := hk
      exact Nat.lt_of_lt_of_le (hr.vy k o hk') hnext
    ·intro k k' o o' p p' hk hk' ho ho' hne hp hp'
     rw [hget] at hk hk'
     cases hk2 : dm e.bJ k with
     | some o2 =>
      rw [hk2] at hk; cases hk
      cases hk2' : dm e.bJ k' with
      | some o2' =>
       rw [hk2'] at hk'; cases hk'
       exact st.rel.inj k k' o o' p p' (bJ hk2) (bJ hk2') ho ho' hne hp hp'
      | none =>
       rw [hk2'] at hk'
       have hk3 : h.get k' = some o' := hk'
       have hp3 : σ k' = some p' := by rw [← hlow k' (hr.vy k' o' hk3)]; exact hp'
       intro hb
       have hlt : p.bM < w.heap.size := by rw [hb]; exact hr.o5 k' p' hp3
       obtain ⟨q, oq, pq, g1, g2, g3, g4, g5⟩ := hownIn p.bM (st.own p.bM hlt ⟨k, o, p, bJ hk2, ho, hp, rfl⟩)
       have hq : q ≠ k' := by
        rintro rfl
        obtain ⟨o9, h9⟩ := hhin g1
        rw [hk2'] at h9; cases h9
       exact hr.inj q k' oq o' pq p' g2 hk3 g3 ho' hq g4 hp3 (g5.trans hb)
     | none =>
      rw [hk2] at hk
      have hk3 : h.get k = some o := hk
      have hp3 : σ k = some p := by rw [← hlow k (hr.vy k o hk3)]; exact hp
      cases hk2' : dm e.bJ k' with
      | none =>
       rw [hk2'] at hk'
       have hk4 : h.get k' = some o' := hk'
       have hp4 : σ k' = some p' := by rw [← hlow k' (hr.vy k' o' hk4)]; exact hp'
       exact hr.inj k k' o o' p p' hk3 hk4 ho ho' hne hp3 hp4
      | some o2' =>
       rw [hk2'] at hk'; cases hk'
       intro hb
       rcases xc e5 (dL hk2') with ⟨oi, hi⟩ | hown | hdead
       ·have hi2 : h.get k' = some oi := kQ hs (dL hi)
        have hlive := (qx e4 (dL hi)).1
        have hp4 : σ k' = some p' := by rw [← hlow k' (hr.vy k' oi hi2)]; exact hp'
        exact hr.inj k k' o oi p p' hk3 hi2 ho hlive hne hp3 hp4 hb
       ·have hlt : p'.bM < w.heap.size := by rw [← hb]; exact hr.o5 k p hp3
        obtain ⟨q, oq, pq, g1, g2, g3, g4, g5⟩ := hownIn p'.bM (st.own p'.bM hlt ⟨k', o', p', bJ hk2', hown, hp', rfl⟩)
        have hq : q ≠ k := by
         rintro rfl
         obtain ⟨o9, h9⟩ := hhin g1
         rw [hk2] at h9; cases h9
        exact hr.inj q k oq o pq p g2 hk3 g3 (aE.kD ho) hq g4 hp3 (g5.trans hb.symm)
       ·rw [hdead] at ho'; cases ho'
   ·-- the blocks
    refine ⟨st.kept.os, st.kept.tape, st.kept.output, st.kept.size, fun b hb hno => st.kept.block b hb fun hown => hno ?_⟩
    obtain ⟨k, o, p, hk, ho, hp, hpb⟩ := hown
    exact ⟨k, o, p, hsub hk, ho, hp, hpb⟩
   ·rintro b hb ⟨k, o, p, hk, ho, hp, hpb⟩
    rw [hget] at hk
    cases hk2 : dm e.bJ k with
    | some o2 =>
     rw [hk2] at hk; cases hk
     obtain ⟨q, oq, pq, g1, g2, g3, g4, g5⟩ := hownIn b (st.own b hb ⟨k, o, p, bJ hk2, ho, hp, hpb⟩)
     exact ⟨q, oq, pq, g2, g3, g4, g5⟩
    | none =>
     rw [hk2] at hk
     have hk3 : h.get k = some o := hk
     exact ⟨k, o, p, hk3, ho, by rw [← hlow k (hr.vy k o hk3)]; exact hp, hpb⟩
   ·intro k hk hn0
    rw [hget]
    cases hk2 : dm e.bJ k with
    | none => rfl
    | some o2 =>
     have h2 := bJ hk2
     have h3 := st.idle k (by show k < e.next; rw [hn]; exact hk) hn0
     rw [h2] at h3
     show some o2 = h.get k
     exact (hsub h3.symm).symm
theorem Au : ∀ e ∈ ([] : List qZ), oA P e := fun _ h => by cases h
theorem o8 {e : qZ} {es : List qZ} (h : oA P e) (hs : ∀ x ∈ es, oA P x) : ∀ x ∈ e :: es, oA P x := by
 intro x hx
 rcases List.mem_cons.1 hx with rfl | hx
 ·exact h
 ·exact hs x hx
theorem nd : ∀ {es : List qZ}, (∀ e ∈ es, oA P e) → aW P (known es)
 | [], _ => fun f args h cr h' e => by cases e
 | e :: l, hf => by
  intro f args h cr h' hc
  simp only [known] at hc
  have hrest := nd (es := l) fun x hx => hf x (by simp [hx])
  cases h1 : Nat.beq e.f f with
  | false => rw [h1, bcF] at hc; exact hrest f args h cr h' hc
  | true =>
   rw [h1, bcT] at hc
   cases h2 : ae (qN e.args args) (ae (Nat.beq e.next h.next) (y4 h e.ln) false) false with
   | false => rw [h2, bcF] at hc; exact hrest f args h cr h' hc
   | true =>
    rw [h2, bcT] at hc
    cases hc
    simp only [bcFe] at h2
    obtain ⟨g1, g2, g3⟩ := h2
    have ef := Nat.eq_of_beq_eq_true h1
    have ea := fC _ _ g1
    subst ef
    subst ea
    intro σ w vs hr hv
    have hlt := (hf e (by simp)).lt
    exact ⟨fun _ => Hx (hf e (by simp)) (Nat.eq_of_beq_eq_true g2) g3 hr hv, fun hge => absurd hlt (Nat.not_lt.2 hge)⟩
end
end Go.HL
