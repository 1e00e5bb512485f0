/- The argument, a flow graph as data, laid into HL's memory. No statement of the seat stands here. -/
import Derived.Test.YtfmflhdogffjoaaGreatDoorSC
import Derived.Test.YtfmflhdogffjoaaGreatDoorFvD
import Derived.KernelRfl
import Derived.Test.YtfmflhdogffjoaaGreatDoorChecked
namespace Go.HL
open Go Go.Proofs
namespace Fv
noncomputable section
theorem cells9 : Tryz.prog.cellsOf 9 = 1 := by kernel_rfl
theorem cells4 : Tryz.prog.cellsOf 4 = 1 := by kernel_rfl
theorem cells3 : Tryz.prog.cellsOf 3 = 1 := by kernel_rfl
theorem cells21 : Tryz.prog.cellsOf 21 = 1 := by kernel_rfl
theorem cells22 : Tryz.prog.cellsOf 22 = 1 := by kernel_rfl
theorem cells23 : Tryz.prog.cellsOf 23 = 1 := by kernel_rfl
theorem cells24 : Tryz.prog.cellsOf 24 = 1 := by kernel_rfl
theorem cells38 : Tryz.prog.cellsOf 38 = 1 := by kernel_rfl
theorem cells41 : Tryz.prog.cellsOf 41 = 1 := by kernel_rfl
theorem cells35 : Tryz.prog.cellsOf 35 = 2 := by kernel_rfl
theorem cells37 : Tryz.prog.cellsOf 37 = 2 := by kernel_rfl
theorem cells40 : Tryz.prog.cellsOf 40 = 5 := by kernel_rfl
theorem cells43 : Tryz.prog.cellsOf 43 = 7 := by kernel_rfl
theorem cells26 : Tryz.prog.cellsOf 26 = 5 := by kernel_rfl
theorem bytes3 : Tryz.prog.bytesOf 3 = 8 := by kernel_rfl
theorem bytes35 : Tryz.prog.bytesOf 35 = 24 := by kernel_rfl
theorem bytes37 : Tryz.prog.bytesOf 37 = 24 := by kernel_rfl
theorem bytes40 : Tryz.prog.bytesOf 40 = 56 := by kernel_rfl
theorem bytes43 : Tryz.prog.bytesOf 43 = 72 := by kernel_rfl
def SlOk {α : Type} (w : Nat) (cells : α → List HVal) (Ok : Heap → α → Prop) (h : Heap) (p : List α × HVal) : Prop := SliceAt h p.2 w (p.1.map cells) ∧ p.1.length ≤ 1152921504606846976 ∧ Loose p.2 ∧ ∀ a ∈ p.1, Ok h a
theorem stays_slice {α : Type} {w : Nat} {cells : α → List HVal} {Ok : Heap → α → Prop} (hst : Stays Ok) : Stays (SlOk w cells Ok) :=
  fun _ _ _ g ⟨o1, o2, o3, o4⟩ => ⟨o1.grow g, o2, o3, fun b hb => hst _ _ _ g (o4 b hb)⟩
theorem stays_free {α : Type} {Q : α → Prop} : Stays fun (_ : Heap) (a : α) => Q a := fun _ _ _ _ o => o
theorem stays_and {α β : Type} {Oa : Heap → α → Prop} {Ob : Heap → β → Prop} (ha : Stays Oa) (hb : Stays Ob) : Stays fun (h : Heap) (p : α × β) => Oa h p.1 ∧ Ob h p.2 :=
  fun _ _ _ g ⟨o1, o2⟩ => ⟨ha _ _ _ g o1, hb _ _ _ g o2⟩
theorem len2 {α : Type} {l : List α} (h : l.length = 2) : ∃ a b, l = [a, b] := by
  match l, h with
  | [a, b], _ => exact ⟨a, b, rfl⟩
theorem len5 {α : Type} {l : List α} (h : l.length = 5) : ∃ a b c d e, l = [a, b, c, d, e] := by
  match l, h with
  | [a, b, c, d, e], _ => exact ⟨a, b, c, d, e, rfl⟩
theorem len7 {α : Type} {l : List α} (h : l.length = 7) : ∃ a b c d e f g, l = [a, b, c, d, e, f, g] := by
  match l, h with
  | [a, b, c, d, e, f, g], _ => exact ⟨a, b, c, d, e, f, g, rfl⟩
theorem bounds_i32 {n : Int} (h : (Lit.int .i32 n).wf = true) : -2147483648 ≤ n ∧ n ≤ 2147483647 := by
  simp only [Lit.wf, Bool.and_eq_true, decide_eq_true_eq] at h
  exact h
section
variable {H : Type} {enc : TypeId × Value → H} {W : World} {fuel : Nat} {cs : List Value} {x : DataW H × List MemPlace}
theorem lift_param (hd : DataW.trod enc Tryz.prog W 0 (fun _ => true) true fuel 35 cs = some x) (hsz : Sz Tryz.prog 35 x.1) : Lift Tryz.prog W paramCells (fun _ p => NameOk (p.1, p.2.1)) cs := by
  obtain ⟨xs, n, _, rfl, hl, hlen, hf⟩ := DataW.trod_struct Tryz.underlying35 hd
  rw [cells35] at hl
  obtain ⟨c0, c1, rfl⟩ := len2 hl
  obtain ⟨x0, x1, rfl⟩ := len2 hlen
  have f0 : DataW.trod enc Tryz.prog W 0 (fun _ => true) true n 9 (List.take (Tryz.prog.cellsOf 9) (List.drop 0 [c0, c1])) = some x0 := hf 0 _ rfl
  have f1 : DataW.trod enc Tryz.prog W 0 (fun _ => true) true n 4 (List.take (Tryz.prog.cellsOf 4) (List.drop 1 [c0, c1])) = some x1 := hf 1 _ rfl
  rw [cells9] at f0; rw [cells4] at f1
  have z0 : Sz Tryz.prog 9 x0.1 := sz_struct Tryz.underlying35 hsz (i := 0) rfl rfl
  have l0 : Lift Tryz.prog W _ _ [c0] := lift_string Tryz.underlying9 f0 z0
  have l1 : Lift Tryz.prog W _ _ [c1] := lift_bool Tryz.underlying4 f1
  exact (l0.pair stays_free l1).conv (fun p => (p.1.1, p.1.2, p.2)) (fun p => rfl) fun h p o => ⟨o.1.1, o.1.2⟩
theorem lift_array (hd : DataW.trod enc Tryz.prog W 0 (fun _ => true) true fuel 37 cs = some x) (hsz : Sz Tryz.prog 37 x.1) : Lift Tryz.prog W arrayCells (fun _ p => NameOk (p.1, p.2.1)) cs := by
  obtain ⟨xs, n, _, rfl, hl, hlen, hf⟩ := DataW.trod_struct Tryz.underlying37 hd
  rw [cells37] at hl
  obtain ⟨c0, c1, rfl⟩ := len2 hl
  obtain ⟨x0, x1, rfl⟩ := len2 hlen
  have f0 : DataW.trod enc Tryz.prog W 0 (fun _ => true) true n 9 (List.take (Tryz.prog.cellsOf 9) (List.drop 0 [c0, c1])) = some x0 := hf 0 _ rfl
  have f1 : DataW.trod enc Tryz.prog W 0 (fun _ => true) true n 3 (List.take (Tryz.prog.cellsOf 3) (List.drop 1 [c0, c1])) = some x1 := hf 1 _ rfl
  rw [cells9] at f0; rw [cells3] at f1
  have z0 : Sz Tryz.prog 9 x0.1 := sz_struct Tryz.underlying37 hsz (i := 0) rfl rfl
  have l0 : Lift Tryz.prog W _ _ [c0] := lift_string Tryz.underlying9 f0 z0
  have l1 : Lift Tryz.prog W _ _ [c1] := lift_int Tryz.underlying3 f1
  exact (l0.pair stays_free l1).conv (fun p => (p.1.1, p.1.2, p.2)) (fun p => rfl) fun h p o => ⟨o.1.1, o.1.2⟩
theorem lift_instr (hd : DataW.trod enc Tryz.prog W 0 (fun _ => true) true fuel 43 cs = some x) (hsz : Sz Tryz.prog 43 x.1) : Lift Tryz.prog W InstrD.cells InstrD.Ok cs := by
  obtain ⟨xs, n, _, rfl, hl, hlen, hf⟩ := DataW.trod_struct Tryz.underlying43 hd
  rw [cells43] at hl
  obtain ⟨c0, c1, c2, c3, c4, c5, c6, rfl⟩ := len7 hl
  obtain ⟨x0, x1, x2, x3, x4, x5, x6, rfl⟩ := len7 hlen
  have f0 : DataW.trod enc Tryz.prog W 0 (fun _ => true) true n 3 (List.take (Tryz.prog.cellsOf 3) (List.drop 0 [c0, c1, c2, c3, c4, c5, c6])) = some x0 := hf 0 _ rfl
  have f1 : DataW.trod enc Tryz.prog W 0 (fun _ => true) true n 3 (List.take (Tryz.prog.cellsOf 3) (List.drop 1 [c0, c1, c2, c3, c4, c5, c6])) = some x1 := hf 1 _ rfl
  have f2 : DataW.trod enc Tryz.prog W 0 (fun _ => true) true n 3 (List.take (Tryz.prog.cellsOf 3) (List.drop 2 [c0, c1, c2, c3, c4, c5, c6])) = some x2 := hf 2 _ rfl
  have f3 : DataW.trod enc Tryz.prog W 0 (fun _ => true) true n 3 (List.take (Tryz.prog.cellsOf 3) (List.drop 3 [c0, c1, c2, c3, c4, c5, c6])) = some x3 := hf 3 _ rfl
  have f4 : DataW.trod enc Tryz.prog W 0 (fun _ => true) true n 3 (List.take (Tryz.prog.cellsOf 3) (List.drop 4 [c0, c1, c2, c3, c4, c5, c6])) = some x4 := hf 4 _ rfl
  have f5 : DataW.trod enc Tryz.prog W 0 (fun _ => true) true n 21 (List.take (Tryz.prog.cellsOf 21) (List.drop 5 [c0, c1, c2, c3, c4, c5, c6])) = some x5 := hf 5 _ rfl
  have f6 : DataW.trod enc Tryz.prog W 0 (fun _ => true) true n 41 (List.take (Tryz.prog.cellsOf 41) (List.drop 6 [c0, c1, c2, c3, c4, c5, c6])) = some x6 := hf 6 _ rfl
  rw [cells3] at f0 f1 f2 f3 f4; rw [cells21] at f5; rw [cells41] at f6
  have z6 : Sz Tryz.prog 41 x6.1 := sz_struct Tryz.underlying43 hsz (i := 6) rfl rfl
  have l0 : Lift Tryz.prog W _ _ [c0] := lift_int Tryz.underlying3 f0
  have l1 : Lift Tryz.prog W _ _ [c1] := lift_int Tryz.underlying3 f1
  have l2 : Lift Tryz.prog W _ _ [c2] := lift_int Tryz.underlying3 f2
  have l3 : Lift Tryz.prog W _ _ [c3] := lift_int Tryz.underlying3 f3
  have l4 : Lift Tryz.prog W _ _ [c4] := lift_int Tryz.underlying3 f4
  have l5 : Lift Tryz.prog W _ _ [c5] := lift_int Tryz.underlying21 f5
  have l6 : Lift Tryz.prog W _ (SlOk 1 intCells fun _ a => (Lit.int .i64 a).wf = true) [c6] := lift_slice (cells := intCells) Tryz.underlying41 cells3 (by decide) (fun _ => rfl) stays_free (by rw [bytes3]; decide) (fun n cs x h _ => lift_int Tryz.underlying3 h) f6 z6
  exact (l0.pair stays_free (l1.pair stays_free (l2.pair stays_free (l3.pair stays_free (l4.pair stays_free (l5.pair stays_free l6)))))).conv
    (fun p => ⟨p.1, p.2.1, p.2.2.1, p.2.2.2.1, p.2.2.2.2.1, p.2.2.2.2.2.1, p.2.2.2.2.2.2.1, p.2.2.2.2.2.2.2⟩) (fun p => rfl) fun h p o =>
    ⟨o.2.2.2.2.2.2.1, o.2.2.2.2.2.2.2.1, (bounds_i32 o.2.2.2.2.2.1).1, (bounds_i32 o.2.2.2.2.2.1).2⟩
theorem lift_node (hd : DataW.trod enc Tryz.prog W 0 (fun _ => true) true fuel 40 cs = some x) (hsz : Sz Tryz.prog 40 x.1) : Lift Tryz.prog W NodeD.cells NodeD.Ok cs := by
  obtain ⟨xs, n, _, rfl, hl, hlen, hf⟩ := DataW.trod_struct Tryz.underlying40 hd
  rw [cells40] at hl
  obtain ⟨c0, c1, c2, c3, c4, rfl⟩ := len5 hl
  obtain ⟨x0, x1, x2, x3, x4, rfl⟩ := len5 hlen
  have f0 : DataW.trod enc Tryz.prog W 0 (fun _ => true) true n 38 (List.take (Tryz.prog.cellsOf 38) (List.drop 0 [c0, c1, c2, c3, c4])) = some x0 := hf 0 _ rfl
  have f1 : DataW.trod enc Tryz.prog W 0 (fun _ => true) true n 3 (List.take (Tryz.prog.cellsOf 3) (List.drop 1 [c0, c1, c2, c3, c4])) = some x1 := hf 1 _ rfl
  have f2 : DataW.trod enc Tryz.prog W 0 (fun _ => true) true n 3 (List.take (Tryz.prog.cellsOf 3) (List.drop 2 [c0, c1, c2, c3, c4])) = some x2 := hf 2 _ rfl
  have f3 : DataW.trod enc Tryz.prog W 0 (fun _ => true) true n 3 (List.take (Tryz.prog.cellsOf 3) (List.drop 3 [c0, c1, c2, c3, c4])) = some x3 := hf 3 _ rfl
  have f4 : DataW.trod enc Tryz.prog W 0 (fun _ => true) true n 3 (List.take (Tryz.prog.cellsOf 3) (List.drop 4 [c0, c1, c2, c3, c4])) = some x4 := hf 4 _ rfl
  rw [cells3] at f1 f2 f3 f4; rw [cells38] at f0
  have z0 : Sz Tryz.prog 38 x0.1 := sz_struct Tryz.underlying40 hsz (i := 0) rfl rfl
  have l0 : Lift Tryz.prog W _ (SlOk 7 InstrD.cells InstrD.Ok) [c0] := lift_slice Tryz.underlying38 cells43 (by decide) (fun _ => rfl) (fun _ _ _ g o => o.grow g) (by rw [bytes43]; decide) (fun n cs x h z => lift_instr h z) f0 z0
  have l1 : Lift Tryz.prog W _ _ [c1] := lift_int Tryz.underlying3 f1
  have l2 : Lift Tryz.prog W _ _ [c2] := lift_int Tryz.underlying3 f2
  have l3 : Lift Tryz.prog W _ _ [c3] := lift_int Tryz.underlying3 f3
  have l4 : Lift Tryz.prog W _ _ [c4] := lift_int Tryz.underlying3 f4
  exact (l0.pair (stays_slice fun _ _ _ g o => o.grow g) (l1.pair stays_free (l2.pair stays_free (l3.pair stays_free l4)))).conv
    (fun p => ⟨p.1.1, p.1.2, p.2.1, p.2.2.1, p.2.2.2.1, p.2.2.2.2⟩) (fun p => rfl) fun h p o => ⟨o.1.1, o.1.2.1, o.1.2.2.1, o.1.2.2.2⟩
theorem lift_flow (hd : DataW.trod enc Tryz.prog W 0 (fun _ => true) true fuel 26 cs = some x) (hsz : Sz Tryz.prog 26 x.1) : Lift Tryz.prog W FlowD.cells FlowD.Ok cs := by
  obtain ⟨xs, n, _, rfl, hl, hlen, hf⟩ := DataW.trod_struct Tryz.underlying26 hd
  rw [cells26] at hl
  obtain ⟨c0, c1, c2, c3, c4, rfl⟩ := len5 hl
  obtain ⟨x0, x1, x2, x3, x4, rfl⟩ := len5 hlen
  have f0 : DataW.trod enc Tryz.prog W 0 (fun _ => true) true n 9 (List.take (Tryz.prog.cellsOf 9) (List.drop 0 [c0, c1, c2, c3, c4])) = some x0 := hf 0 _ rfl
  have f1 : DataW.trod enc Tryz.prog W 0 (fun _ => true) true n 22 (List.take (Tryz.prog.cellsOf 22) (List.drop 1 [c0, c1, c2, c3, c4])) = some x1 := hf 1 _ rfl
  have f2 : DataW.trod enc Tryz.prog W 0 (fun _ => true) true n 23 (List.take (Tryz.prog.cellsOf 23) (List.drop 2 [c0, c1, c2, c3, c4])) = some x2 := hf 2 _ rfl
  have f3 : DataW.trod enc Tryz.prog W 0 (fun _ => true) true n 3 (List.take (Tryz.prog.cellsOf 3) (List.drop 3 [c0, c1, c2, c3, c4])) = some x3 := hf 3 _ rfl
  have f4 : DataW.trod enc Tryz.prog W 0 (fun _ => true) true n 24 (List.take (Tryz.prog.cellsOf 24) (List.drop 4 [c0, c1, c2, c3, c4])) = some x4 := hf 4 _ rfl
  rw [cells9] at f0; rw [cells22] at f1; rw [cells23] at f2; rw [cells3] at f3; rw [cells24] at f4
  have z0 : Sz Tryz.prog 9 x0.1 := sz_struct Tryz.underlying26 hsz (i := 0) rfl rfl
  have z1 : Sz Tryz.prog 22 x1.1 := sz_struct Tryz.underlying26 hsz (i := 1) rfl rfl
  have z2 : Sz Tryz.prog 23 x2.1 := sz_struct Tryz.underlying26 hsz (i := 2) rfl rfl
  have z4 : Sz Tryz.prog 24 x4.1 := sz_struct Tryz.underlying26 hsz (i := 4) rfl rfl
  have l0 : Lift Tryz.prog W _ _ [c0] := lift_string Tryz.underlying9 f0 z0
  have l1 : Lift Tryz.prog W _ (SlOk 2 paramCells fun _ p => NameOk (p.1, p.2.1)) [c1] := lift_slice Tryz.underlying22 cells35 (by decide) (fun _ => rfl) stays_free (by rw [bytes35]; decide) (fun n cs x h z => lift_param h z) f1 z1
  have l2 : Lift Tryz.prog W _ (SlOk 2 arrayCells fun _ p => NameOk (p.1, p.2.1)) [c2] := lift_slice Tryz.underlying23 cells37 (by decide) (fun _ => rfl) stays_free (by rw [bytes37]; decide) (fun n cs x h z => lift_array h z) f2 z2
  have l3 : Lift Tryz.prog W _ _ [c3] := lift_int Tryz.underlying3 f3
  have l4 : Lift Tryz.prog W _ (SlOk 5 NodeD.cells NodeD.Ok) [c4] := lift_slice Tryz.underlying24 cells40 (by decide) (fun _ => rfl) (fun _ _ _ g o => o.grow g) (by rw [bytes40]; decide) (fun n cs x h z => lift_node h z) f4 z4
  exact (l0.pair stays_free (l1.pair (stays_slice stays_free) (l2.pair (stays_slice stays_free) (l3.pair stays_free l4)))).conv
    (fun p => ⟨p.1.1, p.1.2, p.2.1.1, p.2.1.2, p.2.2.1.1, p.2.2.1.2, p.2.2.2.1, p.2.2.2.2.1, p.2.2.2.2.2⟩) (fun p => rfl) fun h p o =>
    ⟨⟨o.1.1, o.1.2⟩, o.2.1.1, o.2.1.2.1, o.2.1.2.2.2, o.2.2.1.1, o.2.2.1.2.1, o.2.2.1.2.2.2, o.2.2.2.2.1, o.2.2.2.2.2.1, o.2.2.2.2.2.2.2⟩
end
end
end Fv
end Go.HL
