/- What a flow graph is here, and how it lies in the memory. No statement of the seat stands here. -/
import Derived.Test.YtfmflhdogffjoaaGreatDoorSB
import Derived.Test.YtfmflhdogffjoaaGreatDoorFvT
namespace Go.HL
open Go
namespace Fv
structure InstrD where
  kind : Int
  op : Int
  d : Int
  a : Int
  b : Int
  imm : Int
  args : List Int
  av : HVal
structure NodeD where
  ins : List InstrD
  iv : HVal
  fin : Int
  a : Int
  to : Int
  els : Int
structure FlowD where
  n : Nat
  c : Nat
  params : List (Nat × Nat × Bool)
  pv : HVal
  shared : List (Nat × Nat × Int)
  sv : HVal
  regs : Int
  nodes : List NodeD
  nv : HVal
noncomputable section
def intCells (a : Int) : List HVal := [.int .i64 a]
def InstrD.cells (x : InstrD) : List HVal := [.int .i64 x.kind, .int .i64 x.op, .int .i64 x.d, .int .i64 x.a, .int .i64 x.b, .int .i32 x.imm, x.av]
def NodeD.cells (x : NodeD) : List HVal := [x.iv, .int .i64 x.fin, .int .i64 x.a, .int .i64 x.to, .int .i64 x.els]
def paramCells (p : Nat × Nat × Bool) : List HVal := [.str p.1 p.2.1, .bool p.2.2]
def arrayCells (p : Nat × Nat × Int) : List HVal := [.str p.1 p.2.1, .int .i64 p.2.2]
def FlowD.cells (f : FlowD) : List HVal := [.str f.n f.c, f.pv, f.sv, .int .i64 f.regs, f.nv]
def big : Nat := 1152921504606846976
structure NameOk (p : Nat × Nat) : Prop where
  len : p.1 ≤ 1152921504606846976
  zero : 0 < p.1 ∨ p.2 = 0
/-- the words of an instruction -/
structure InstrD.Ok (h : Heap) (x : InstrD) : Prop where
  args : SliceAt h x.av 1 (x.args.map intCells)
  len : x.args.length ≤ 1152921504606846976
  lo : -2147483648 ≤ x.imm
  hi : x.imm ≤ 2147483647
structure NodeD.Ok (h : Heap) (x : NodeD) : Prop where
  ins : SliceAt h x.iv 7 (x.ins.map InstrD.cells)
  len : x.ins.length ≤ 1152921504606846976
  loose : Loose x.iv
  each : ∀ y ∈ x.ins, y.Ok h
structure FlowD.Ok (h : Heap) (f : FlowD) : Prop where
  name : NameOk (f.n, f.c)
  params : SliceAt h f.pv 2 (f.params.map paramCells)
  plen : f.params.length ≤ 1152921504606846976
  pnames : ∀ p ∈ f.params, NameOk (p.1, p.2.1)
  shared : SliceAt h f.sv 2 (f.shared.map arrayCells)
  slen : f.shared.length ≤ 1152921504606846976
  snames : ∀ p ∈ f.shared, NameOk (p.1, p.2.1)
  nodes : SliceAt h f.nv 5 (f.nodes.map NodeD.cells)
  nlen : f.nodes.length ≤ 1152921504606846976
  each : ∀ x ∈ f.nodes, x.Ok h
theorem InstrD.Ok.grow {h h' : Heap} {x : InstrD} (g : Grow h h') (o : x.Ok h) : x.Ok h' := ⟨o.args.grow g, o.len, o.lo, o.hi⟩
theorem NodeD.Ok.grow {h h' : Heap} {x : NodeD} (g : Grow h h') (o : x.Ok h) : x.Ok h' := ⟨o.ins.grow g, o.len, o.loose, fun y hy => (o.each y hy).grow g⟩
theorem FlowD.Ok.grow {h h' : Heap} {f : FlowD} (g : Grow h h') (o : f.Ok h) : f.Ok h' := ⟨o.name, o.params.grow g, o.plen, o.pnames, o.shared.grow g, o.slen, o.snames, o.nodes.grow g, o.nlen, fun x hx => (o.each x hx).grow g⟩
theorem FlowD.Ok.lp {h : Heap} {f : FlowD} (o : f.Ok h) : lenV f.pv = some f.params.length := by simpa using o.params.1
theorem FlowD.Ok.ls {h : Heap} {f : FlowD} (o : f.Ok h) : lenV f.sv = some f.shared.length := by simpa using o.shared.1
theorem FlowD.Ok.ln {h : Heap} {f : FlowD} (o : f.Ok h) : lenV f.nv = some f.nodes.length := by simpa using o.nodes.1
theorem NodeD.Ok.li {h : Heap} {x : NodeD} (o : x.Ok h) : lenV x.iv = some x.ins.length := by simpa using o.ins.1
theorem InstrD.Ok.la {h : Heap} {x : InstrD} (o : x.Ok h) : lenV x.av = some x.args.length := by simpa using o.args.1
/-! elements by a number -/
def noParam : Nat × Nat × Bool := (0, 0, false)
def FlowD.param (f : FlowD) (a : Int) : Nat × Nat × Bool := f.params.getD a.toNat noParam
theorem row_at {α : Type} {l : List α} {g : α → List HVal} {a : Int} (d : α) (h0 : 0 ≤ a) (h1 : a < (l.length : Int)) : (l.map g)[a.toNat]? = some (g (l.getD a.toNat d)) := by
  have hj : a.toNat < l.length := by omega
  simp [List.getD, List.getElem?_eq_getElem hj]
theorem FlowD.param_row {f : FlowD} {a : Int} (h0 : 0 ≤ a) (h1 : a < (f.params.length : Int)) : (f.params.map paramCells)[a.toNat]? = some (paramCells (f.param a)) := row_at noParam h0 h1
/-! what a kind has -/
structure UsesD where
  d : Bool
  a : Bool
  b : Bool
  barrier : Bool
  array : Bool
  args : Bool
  ops : Int
  folds : Bool
  imm : Bool
  param : Bool
def UsesD.cells (u : UsesD) : List HVal := [.bool u.d, .bool u.a, .bool u.b, .bool u.barrier, .bool u.array, .bool u.args, .int .i64 u.ops, .bool u.folds, .bool u.imm, .bool u.param]
end
end Fv
end Go.HL
