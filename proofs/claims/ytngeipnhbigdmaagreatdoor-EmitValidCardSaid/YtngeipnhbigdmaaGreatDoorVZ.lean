/- The argument as data, laid into HL's memory. No statement of the seat stands here. -/
import Derived.Test.YtngeipnhbigdmaaGreatDoorSC
import Derived.Test.YtngeipnhbigdmaaGreatDoorMA
import Derived.Test.YtngeipnhbigdmaaGreatDoorChecked
import Derived.Test.YtngeipnhbigdmaaGreatDoorVD
set_option linter.unusedVariables false
set_option linter.unusedSimpArgs false
namespace Go.HL
open Go Go.Deep Go.Proofs
noncomputable section
section
variable {P : Program} {W : World}
theorem lift_sliceF {H : Type} {enc : TypeId × Value → H} {α : Type} {cells : α → List HVal} {Ok : Heap → α → Prop} {t e w : Nat} (ht : P.underlying t = some (.slice e)) (hw : P.cellsOf e = w) (hw0 : 0 < w) (hcells : ∀ a, (cells a).length = w) (hst : Stays Ok)
  (hby : 0 < P.bytesOf e) (helem : ∀ n cs x, DataW.trod enc P W 0 (fun _ => true) true n e cs = some x → Sz P e x.1 → Lift P W cells Ok cs) {fuel : Nat} {cs : List Value} {x : DataW H × List MemPlace} (hd : DataW.trod enc P W 0 (fun _ => true) true fuel t cs = some x) (hsz : Sz P t x.1) :
  Lift P W (fun p : List α × HVal => [p.2]) (fun h p => SliceAt h p.2 w (p.1.map cells) ∧ p.1.length ≤ 1152921504606846976 ∧ FreeAt h p.2 ∧ ∀ a ∈ p.1, Ok h a) cs := by
 rcases open_slice ht hd with ⟨rfl, _⟩ | ⟨a, len, cap, m, n, D, Pl, rfl, hb, hl, hm, hmm, hxe, hx⟩
 ·exact .here ([], .nils) (fun σ => VRels.cons rfl VRels.nil) (fun x hx => by simp at hx; subst hx; rfl) fun h => ⟨sliceAt_nils, by simp, .nils, fun a ha => by cases ha⟩
 ·have hmc : m = cap := by simpa using hmm
  subst hmc
  rw [hxe] at hsz
  obtain ⟨hz1, hz2⟩ := sz_slice ht hsz
  by_cases hl0 : len = 0
  ·subst hl0
   refine .here ([], .empty) (fun σ => VRels.cons ⟨a, m, rfl⟩ VRels.nil) (fun x hx => by simp at hx; subst hx; rfl) fun h => ⟨⟨rfl, fun i r hr => by simp at hr⟩, by simp, .empty, fun a ha => by cases ha⟩
  ·rw [hw] at hx
   obtain ⟨CS, hCS⟩ := choose_lt (α := List Value) (p := fun i c => W.cells? 0 (a.add (i * w)) w = some c ∧ DataW.trod enc P W 0 (fun _ => true) true n e c = some (D i, Pl i)) (n := len) (fun i hi => hx i (by omega))
   -- the block
   have h0 := World.cells?_some (hCS 0 (by omega)).1
   have hc0 : ∃ v, W.cell? ((a.add (0 * w)).add 0) = some v := by
    rw [h0.2.2 0 hw0]
    exact ⟨_, List.getElem?_eq_getElem (by rw [h0.2.1]; exact hw0)⟩
   have ha0 : (a.add (0 * w)).add 0 = a := by simp [Addr.add]
   rw [ha0] at hc0
   obtain ⟨v0, hv0⟩ := hc0
   have hblk : ∃ C el fr, W.heap[a.block]? = some (.cells C el fr) ∧ a.spot = none := by
    unfold World.cell? at hv0
    split at hv0
    ·rename_i C el fr hC
     refine ⟨C, el, fr, hC, ?_⟩
     cases hs : a.spot with
     | none => rfl
     | some s => rw [hs] at hv0; simp at hv0
    ·cases hv0
   obtain ⟨C, el, fr, hC, hsp⟩ := hblk
   have hrows : ∀ i, i < len → (CS i).length = w ∧ ∀ j, j < w → C.toList[a.off + i * w + j]? = (CS i)[j]? := by
    intro i hi
    obtain ⟨_, h1, h2⟩ := World.cells?_some (hCS i hi).1
    refine ⟨h1, fun j hj => ?_⟩
    rw [← h2 j hj]
    obtain ⟨b1, b2, b3⟩ := addr_adds a (i * w)
    obtain ⟨c1, c2, c3⟩ := addr_adds (a.add (i * w)) j
    unfold World.cell?
    rw [c1, b1, hC]
    simp only [c3 (b3 hsp), Option.isSome_none, Bool.false_eq_true, if_false, c2, b2]
    simp
   have hflat := cellsOf_flatten hrows
   have hll := Lift.list (P := P) (W := W) (cells := cells) hst (css := (List.range len).map CS) (by
    intro c hc
    obtain ⟨i, hi, rfl⟩ := List.mem_map.1 hc
    exact helem _ _ _ (hCS i (List.mem_range.1 hi)).2 (hz2 _ (List.mem_map_of_mem hi)))
   intro σ h s
   obtain ⟨σ1, h1, ws, s1, hle1, hg1, hv1, hs1, hlen, hok⟩ := hll σ h s
   simp only [List.length_map, List.length_range] at hlen
   have hal : (ws.flatMap cells).length = len * w := by
    rw [← hlen]
    clear hv1 hs1 hok hlen
    induction ws with
    | nil => simp
    | cons b ws ih => rw [List.flatMap_cons, List.length_append, ih, hcells, List.length_cons, Nat.add_mul]; omega
   have hlt : a.block < W.heap.size := (Array.getElem?_eq_some_iff.1 hC).1
   have hor : ORel P σ1 ⟨a.block, a.off, 0, 0⟩ (.cells (ws.flatMap cells) 0 true false) W.heap[a.block]? := by
    refine ⟨C, el, fr, hC, ?_, hs1, fun e => absurd rfl e, (fun e => by cases e), (fun e => by cases e), (fun _ e => by cases e), .inl rfl⟩
    show VRels σ1 (ws.flatMap cells) ((C.toList.drop a.off).take (ws.flatMap cells).length)
    rw [hal, ← hflat]; exact hv1
   obtain ⟨σ2, s2, hle2, hg2, hp⟩ := s1.new hor rfl hlt
   have hget : (h1.new (.cells (ws.flatMap cells) 0 true false)).get h1.next = some (.cells (ws.flatMap cells) 0 true false) := by simp
   refine ⟨σ2, _, (ws, .slice h1.next 0 len none), s2, Places.le_trans hle1 hle2, hg1.trans hg2, VRels.cons ⟨_, m, hp, ?_, hl, .inl rfl⟩ VRels.nil, fun x hx => by simp at hx; subst hx; rfl, ⟨?_, fun i r hr => ?_⟩, ?_, .slice _ _ _ _ _ _ hget, fun b hb => hst _ _ _ hg2 (hok b hb)⟩
   ·obtain ⟨bk, of, sp⟩ := a
    simp only at hsp
    subst hsp
    rfl
   ·show some len = some (ws.map cells).length
    rw [List.length_map, hlen]
   ·refine ⟨h1.next, 0, none, by rw [List.length_map, hlen], row_of hget ?_⟩
    simp only [Nat.add_eq, Nat.mul_eq, Nat.zero_add]
    exact flatMap_row hcells hr
   ·rw [hlen]
    simp only [List.length_map, List.length_range] at hz1
    have h1 : len + (m - len) ≤ (len + (m - len)) * P.bytesOf e := Nat.le_mul_of_pos_right _ hby
    have : reachBytes ≤ 1152921504606846976 := by decide
    omega
end
namespace Em
section
variable {H : Type} {enc : TypeId × Value → H} {W : World} {fuel : Nat} {cs : List Value} {x : DataW H × List MemPlace}
end
end Em
end
end Go.HL
namespace Go.HL
open Go Go.Deep Go.Proofs
namespace Ev
open Em
noncomputable section
theorem cells9 : Tryz.prog.cellsOf 9 = 1 := by kernel_rfl
theorem cells4 : Tryz.prog.cellsOf 4 = 1 := by kernel_rfl
theorem cells3 : Tryz.prog.cellsOf 3 = 1 := by kernel_rfl
theorem cells21 : Tryz.prog.cellsOf 21 = 1 := by kernel_rfl
theorem cells22 : Tryz.prog.cellsOf 22 = 1 := by kernel_rfl
theorem cells23 : Tryz.prog.cellsOf 23 = 1 := by kernel_rfl
theorem cells24 : Tryz.prog.cellsOf 24 = 1 := by kernel_rfl
theorem cells70 : Tryz.prog.cellsOf 70 = 2 := by kernel_rfl
theorem cells72 : Tryz.prog.cellsOf 72 = 2 := by kernel_rfl
theorem cells74 : Tryz.prog.cellsOf 74 = 8 := by kernel_rfl
theorem cells26 : Tryz.prog.cellsOf 26 = 5 := by kernel_rfl
theorem bytes70 : Tryz.prog.bytesOf 70 = 24 := by kernel_rfl
theorem bytes72 : Tryz.prog.bytesOf 72 = 24 := by kernel_rfl
theorem bytes74 : Tryz.prog.bytesOf 74 = 64 := by kernel_rfl
def SlF {α : Type} (w : Nat) (cells : α → List HVal) (Q : α → Prop) (h : Heap) (p : List α × HVal) : Prop := SliceAt h p.2 w (p.1.map cells) ∧ p.1.length ≤ 1152921504606846976 ∧ FreeAt h p.2 ∧ ∀ a ∈ p.1, Q a
theorem stays_F {α : Type} {w : Nat} {cells : α → List HVal} {Q : α → Prop} : Stays (SlF w cells Q) :=
 fun _ _ _ g ⟨o1, o2, o3, o4⟩ => ⟨o1.grow g, o2, o3.grow g, o4⟩
theorem stays_free {α : Type} {Q : α → Prop} : Stays fun (_ : Heap) (a : α) => Q a := fun _ _ _ _ o => o
theorem SlF.rd {α : Type} {w : Nat} {cells : α → List HVal} {Q : α → Prop} {h : Heap} {p : List α × HVal} (s : SlF w cells Q h p) : (HL.rd p.2 w (p.1.map cells)).holds h := by
 obtain ⟨o1, _, o3, _⟩ := s
 refine ⟨o1, fun k hk => ?_⟩
 generalize p.2 = v at o3 hk
 cases o3 with
 | nils => cases hk
 | empty => cases hk
 | slice k' off c l s r hg => cases hk; exact ⟨_, hg⟩
theorem len2 {α : Type} {l : List α} (h : l.length = 2) : ∃ a b, l = [a, b] := by
 match l, h with
 | [a, b], _ => exact ⟨a, b, rfl⟩
theorem len5 {α : Type} {l : List α} (h : l.length = 5) : ∃ a b c d e, l = [a, b, c, d, e] := by
 match l, h with
 | [a, b, c, d, e], _ => exact ⟨a, b, c, d, e, rfl⟩
theorem len8 {α : Type} {l : List α} (h : l.length = 8) : ∃ a b c d e f g i, l = [a, b, c, d, e, f, g, i] := by
 match l, h with
 | [a, b, c, d, e, f, g, i], _ => exact ⟨a, b, c, d, e, f, g, i, rfl⟩
theorem bounds_i32 {n : Int} (h : (Lit.int .i32 n).wf = true) : -2147483648 ≤ n ∧ n ≤ 2147483647 := by
 simp only [Lit.wf, Bool.and_eq_true, decide_eq_true_eq] at h
 exact h
section
variable {H : Type} {enc : TypeId × Value → H} {W : World} {fuel : Nat} {cs : List Value} {x : DataW H × List MemPlace}
theorem lift_bytes (hd : DataW.trod enc Tryz.prog W 0 (fun _ => true) true fuel 9 cs = some x) (hsz : Sz Tryz.prog 9 x.1) : Lift Tryz.prog W (fun b : List Nat => [strB b]) (fun _ b => NmOk b) cs := by
 obtain ⟨s, rfl, hx, hs⟩ := DataW.trod_string Tryz.underlying9 hd
 have hlt : ∀ y ∈ s.data.toList.map UInt8.toNat, y < 256 := toNat_lt _
 have e : s.size = s.data.toList.length := by rw [Array.length_toList]; rfl
 have e2 : (s.data.toList.map UInt8.toNat).length = s.size := by rw [List.length_map, e]
 have e3 : codeN (s.data.toList.map UInt8.toNat) 0 = codeOf s.data.toList := by
  rw [← toS_code hlt, toS_toNat]
 refine .here (s.data.toList.map UInt8.toNat) (fun σ => VRels.cons ⟨s, rfl, e2.symm, e3.symm⟩ VRels.nil) (fun x hx => by simp at hx; subst hx; rfl) fun _ => ⟨hlt, ?_⟩
 have : reachBytes ≤ 1152921504606846976 := by decide
 rw [hx] at hsz
 have := hsz s.data.toList.length (by show _ ∈ DataW.weights Tryz.prog 9 (.lit (.string s.data.toList)); rw [DataW.weights]; simp)
 rw [e2]
 omega
theorem lift_param (hd : DataW.trod enc Tryz.prog W 0 (fun _ => true) true fuel 70 cs = some x) (hsz : Sz Tryz.prog 70 x.1) : Lift Tryz.prog W pcell (fun _ p => NmOk p.1) cs := by
 obtain ⟨xs, n, _, rfl, hl, hlen, hf⟩ := DataW.trod_struct Tryz.underlying70 hd
 rw [cells70] at hl
 obtain ⟨c0, c1, rfl⟩ := len2 hl
 obtain ⟨x0, x1, rfl⟩ := len2 hlen
 have f0 : DataW.trod enc Tryz.prog W 0 (fun _ => true) true n 9 (List.take (Tryz.prog.cellsOf 9) (List.drop 0 [c0, c1])) = some x0 := hf 0 _ rfl
 have f1 : DataW.trod enc Tryz.prog W 0 (fun _ => true) true n 4 (List.take (Tryz.prog.cellsOf 4) (List.drop 1 [c0, c1])) = some x1 := hf 1 _ rfl
 rw [cells9] at f0; rw [cells4] at f1
 have z0 : Sz Tryz.prog 9 x0.1 := sz_struct Tryz.underlying70 hsz (i := 0) rfl rfl
 have l0 : Lift Tryz.prog W _ _ [c0] := lift_bytes f0 z0
 have l1 : Lift Tryz.prog W _ _ [c1] := lift_bool Tryz.underlying4 f1
 exact (l0.pair stays_free l1).conv (fun p => p) (fun p => rfl) fun h p o => o.1
theorem lift_array (hd : DataW.trod enc Tryz.prog W 0 (fun _ => true) true fuel 72 cs = some x) (hsz : Sz Tryz.prog 72 x.1) : Lift Tryz.prog W (fun a : List Nat × Int => [strB a.1, .int .i64 a.2]) (fun _ p => NmOk p.1) cs := by
 obtain ⟨xs, n, _, rfl, hl, hlen, hf⟩ := DataW.trod_struct Tryz.underlying72 hd
 rw [cells72] at hl
 obtain ⟨c0, c1, rfl⟩ := len2 hl
 obtain ⟨x0, x1, rfl⟩ := len2 hlen
 have f0 : DataW.trod enc Tryz.prog W 0 (fun _ => true) true n 9 (List.take (Tryz.prog.cellsOf 9) (List.drop 0 [c0, c1])) = some x0 := hf 0 _ rfl
 have f1 : DataW.trod enc Tryz.prog W 0 (fun _ => true) true n 3 (List.take (Tryz.prog.cellsOf 3) (List.drop 1 [c0, c1])) = some x1 := hf 1 _ rfl
 rw [cells9] at f0; rw [cells3] at f1
 have z0 : Sz Tryz.prog 9 x0.1 := sz_struct Tryz.underlying72 hsz (i := 0) rfl rfl
 have l0 : Lift Tryz.prog W _ _ [c0] := lift_bytes f0 z0
 have l1 : Lift Tryz.prog W _ _ [c1] := lift_int Tryz.underlying3 f1
 exact (l0.pair stays_free l1).conv (fun p => p) (fun p => rfl) fun h p o => o.1
theorem lift_insn (hd : DataW.trod enc Tryz.prog W 0 (fun _ => true) true fuel 74 cs = some x) (hsz : Sz Tryz.prog 74 x.1) : Lift Tryz.prog W icell (fun _ a => -2147483648 ≤ a.imm ∧ a.imm ≤ 2147483647) cs := by
 obtain ⟨xs, n, _, rfl, hl, hlen, hf⟩ := DataW.trod_struct Tryz.underlying74 hd
 rw [cells74] at hl
 obtain ⟨c0, c1, c2, c3, c4, c5, c6, c7, rfl⟩ := len8 hl
 obtain ⟨x0, x1, x2, x3, x4, x5, x6, x7, rfl⟩ := len8 hlen
 have f0 : DataW.trod enc Tryz.prog W 0 (fun _ => true) true n 3 (List.take (Tryz.prog.cellsOf 3) (List.drop 0 [c0, c1, c2, c3, c4, c5, c6, c7])) = some x0 := hf 0 _ rfl
 have f1 : DataW.trod enc Tryz.prog W 0 (fun _ => true) true n 3 (List.take (Tryz.prog.cellsOf 3) (List.drop 1 [c0, c1, c2, c3, c4, c5, c6, c7])) = some x1 := hf 1 _ rfl
 have f2 : DataW.trod enc Tryz.prog W 0 (fun _ => true) true n 3 (List.take (Tryz.prog.cellsOf 3) (List.drop 2 [c0, c1, c2, c3, c4, c5, c6, c7])) = some x2 := hf 2 _ rfl
 have f3 : DataW.trod enc Tryz.prog W 0 (fun _ => true) true n 3 (List.take (Tryz.prog.cellsOf 3) (List.drop 3 [c0, c1, c2, c3, c4, c5, c6, c7])) = some x3 := hf 3 _ rfl
 have f4 : DataW.trod enc Tryz.prog W 0 (fun _ => true) true n 3 (List.take (Tryz.prog.cellsOf 3) (List.drop 4 [c0, c1, c2, c3, c4, c5, c6, c7])) = some x4 := hf 4 _ rfl
 have f5 : DataW.trod enc Tryz.prog W 0 (fun _ => true) true n 21 (List.take (Tryz.prog.cellsOf 21) (List.drop 5 [c0, c1, c2, c3, c4, c5, c6, c7])) = some x5 := hf 5 _ rfl
 have f6 : DataW.trod enc Tryz.prog W 0 (fun _ => true) true n 3 (List.take (Tryz.prog.cellsOf 3) (List.drop 6 [c0, c1, c2, c3, c4, c5, c6, c7])) = some x6 := hf 6 _ rfl
 have f7 : DataW.trod enc Tryz.prog W 0 (fun _ => true) true n 3 (List.take (Tryz.prog.cellsOf 3) (List.drop 7 [c0, c1, c2, c3, c4, c5, c6, c7])) = some x7 := hf 7 _ rfl
 rw [cells3] at f0 f1 f2 f3 f4 f6 f7; rw [cells21] at f5
 have l0 : Lift Tryz.prog W _ _ [c0] := lift_int Tryz.underlying3 f0
 have l1 : Lift Tryz.prog W _ _ [c1] := lift_int Tryz.underlying3 f1
 have l2 : Lift Tryz.prog W _ _ [c2] := lift_int Tryz.underlying3 f2
 have l3 : Lift Tryz.prog W _ _ [c3] := lift_int Tryz.underlying3 f3
 have l4 : Lift Tryz.prog W _ _ [c4] := lift_int Tryz.underlying3 f4
 have l5 : Lift Tryz.prog W _ _ [c5] := lift_int Tryz.underlying21 f5
 have l6 : Lift Tryz.prog W _ _ [c6] := lift_int Tryz.underlying3 f6
 have l7 : Lift Tryz.prog W _ _ [c7] := lift_int Tryz.underlying3 f7
 exact (l0.pair stays_free (l1.pair stays_free (l2.pair stays_free (l3.pair stays_free (l4.pair stays_free (l5.pair stays_free (l6.pair stays_free l7))))))).conv
  (fun p => ⟨p.1, p.2.1, p.2.2.1, p.2.2.2.1, p.2.2.2.2.1, p.2.2.2.2.2.1, p.2.2.2.2.2.2.1, p.2.2.2.2.2.2.2⟩) (fun p => rfl) fun h p o => bounds_i32 o.2.2.2.2.2.1
theorem lift_code (hd : DataW.trod enc Tryz.prog W 0 (fun _ => true) true fuel 26 cs = some x) (hsz : Sz Tryz.prog 26 x.1) : Lift Tryz.prog W (fun q : CodeI × HVal × HVal × HVal => [strB q.1.name, q.2.1, q.2.2.1, .int .i64 q.1.local, q.2.2.2]) (fun h q => (codeR q.1.toP q.2.1 q.2.2.1 q.2.2.2).holds h ∧ q.1.Ok) cs := by
 obtain ⟨xs, n, _, rfl, hl, hlen, hf⟩ := DataW.trod_struct Tryz.underlying26 hd
 rw [cells26] at hl
 obtain ⟨c0, c1, c2, c3, c4, rfl⟩ := len5 hl
 obtain ⟨x0, x1, x2, x3, x4, rfl⟩ := len5 hlen
 have f0 : DataW.trod enc Tryz.prog W 0 (fun _ => true) true n 9 (List.take (Tryz.prog.cellsOf 9) (List.drop 0 [c0, c1, c2, c3, c4])) = some x0 := hf 0 _ rfl
 have f1 : DataW.trod enc Tryz.prog W 0 (fun _ => true) true n 22 (List.take (Tryz.prog.cellsOf 22) (List.drop 1 [c0, c1, c2, c3, c4])) = some x1 := hf 1 _ rfl
 have f2 : DataW.trod enc Tryz.prog W 0 (fun _ => true) true n 23 (List.take (Tryz.prog.cellsOf 23) (List.drop 2 [c0, c1, c2, c3, c4])) = some x2 := hf 2 _ rfl
 have f3 : DataW.trod enc Tryz.prog W 0 (fun _ => true) true n 3 (List.take (Tryz.prog.cellsOf 3) (List.drop 3 [c0, c1, c2, c3, c4])) = some x3 := hf 3 _ rfl
 have f4 : DataW.trod enc Tryz.prog W 0 (fun _ => true) true n 24 (List.take (Tryz.prog.cellsOf 24) (List.drop 4 [c0, c1, c2, c3, c4])) = some x4 := hf 4 _ rfl
 rw [cells9] at f0; rw [cells22] at f1; rw [cells23] at f2; rw [cells3] at f3; rw [cells24] at f4
 have z0 : Sz Tryz.prog 9 x0.1 := sz_struct Tryz.underlying26 hsz (i := 0) rfl rfl
 have z1 : Sz Tryz.prog 22 x1.1 := sz_struct Tryz.underlying26 hsz (i := 1) rfl rfl
 have z2 : Sz Tryz.prog 23 x2.1 := sz_struct Tryz.underlying26 hsz (i := 2) rfl rfl
 have z4 : Sz Tryz.prog 24 x4.1 := sz_struct Tryz.underlying26 hsz (i := 4) rfl rfl
 have l0 : Lift Tryz.prog W _ _ [c0] := lift_bytes f0 z0
 have l1 : Lift Tryz.prog W _ (SlF 2 pcell fun p => NmOk p.1) [c1] := lift_sliceF Tryz.underlying22 cells70 (by decide) (fun _ => rfl) stays_free (by rw [bytes70]; decide) (fun n cs x h z => lift_param h z) f1 z1
 have l2 : Lift Tryz.prog W _ (SlF 2 (fun a : List Nat × Int => [strB a.1, .int .i64 a.2]) fun p => NmOk p.1) [c2] := lift_sliceF Tryz.underlying23 cells72 (by decide) (fun _ => rfl) stays_free (by rw [bytes72]; decide) (fun n cs x h z => lift_array h z) f2 z2
 have l3 : Lift Tryz.prog W _ _ [c3] := lift_int Tryz.underlying3 f3
 have l4 : Lift Tryz.prog W _ (SlF 8 icell fun a => -2147483648 ≤ a.imm ∧ a.imm ≤ 2147483647) [c4] := lift_sliceF Tryz.underlying24 cells74 (by decide) (fun _ => rfl) stays_free (by rw [bytes74]; decide) (fun n cs x h z => lift_insn h z) f4 z4
 exact (l0.pair stays_free (l1.pair stays_F (l2.pair stays_F (l3.pair stays_free l4)))).conv
  (fun p => (⟨p.1, p.2.1.1, p.2.2.1.1, p.2.2.2.1, p.2.2.2.2.1⟩, p.2.1.2, p.2.2.1.2, p.2.2.2.2.2)) (fun p => rfl) fun h p o => by
   obtain ⟨o0, o1, o2, _, o4⟩ := o
   refine ⟨⟨?_, ?_, o4.rd⟩, o0, o1.2.1, o1.2.2.2, o2.2.1, o2.2.2.2, o4.2.1, o4.2.2.2⟩
   ·have := o1.rd
    unfold CodeI.toP
    simp only [List.map_map]
    exact this
   ·have := o2.rd
    unfold CodeI.toP
    simp only [List.map_map]
    exact this
end
end
end Ev
end Go.HL
