/- What is known beforehand; the argument as data, laid into HL's memory. No statement of the seat stands here. -/
import Derived.Test.YtngeipnhbigdmaaGreatDoorSC
import Derived.Test.YtngeipnhbigdmaaGreatDoorMA
import Derived.Test.YtngeipnhbigdmaaGreatDoorChecked
import Derived.Test.YtngeipnhbigdmaaGreatDoorVD
import Derived.Test.YtngeipnhbigdmaaGreatDoorAA
import Derived.Test.YtngeipnhbigdmaaGreatDoorEnt6
set_option linter.unusedVariables false
set_option linter.unusedSimpArgs false
namespace Go.HL
open Go Go.Deep Go.Proofs
noncomputable section
section
variable {P : Program} {W : World}
theorem nV {H : Type} {enc : TypeId × Value → H} {α : Type} {cells : α → List aa} {Ok : Heap → α → Prop} {t e w : Nat} (ht : P.underlying t = some (.slice e)) (hw : P.cellsOf e = w) (hw0 : 0 < w) (hcells : ∀ a, (cells a).length = w) (hst : CH Ok)
  (hby : 0 < P.bytesOf e) (helem : ∀ n cs x, DataW.trod enc P W 0 (fun _ => true) true n e cs = some x → Sz P e x.1 → eb P W cells Ok cs) {fuel : Nat} {cs : List Value} {x : DataW H × List MemPlace} (hd : DataW.trod enc P W 0 (fun _ => true) true fuel t cs = some x) (hsz : Sz P t x.1) :
  eb P W (fun p : List α × aa => [p.2]) (fun h p => mS h p.2 w (p.1.map cells) ∧ p.1.length ≤ 1152921504606846976 ∧ oD h p.2 ∧ ∀ a ∈ p.1, Ok h a) cs := by
 rcases open_slice ht hd with ⟨rfl, _⟩ | ⟨a, len, cap, m, n, D, Pl, rfl, hb, hl, hm, hmm, hxe, hx⟩
 ·exact .here ([], .aC) (fun σ => ao.cons rfl ao.nil) (fun x hx => by simp at hx; subst hx; rfl) fun h => ⟨zD, by simp, .aC, fun a ha => by cases ha⟩
 ·have hmc : m = cap := by simpa using hmm
  subst hmc
  rw [hxe] at hsz
  obtain ⟨hz1, hz2⟩ := Ie ht hsz
  by_cases hl0 : len = 0
  ·subst hl0
   refine .here ([], .empty) (fun σ => ao.cons ⟨a, m, rfl⟩ ao.nil) (fun x hx => by simp at hx; subst hx; rfl) fun h => ⟨⟨rfl, fun i r hr => by simp at hr⟩, by simp, .empty, fun a ha => by cases ha⟩
  ·rw [hw] at hx
   obtain ⟨CS, hCS⟩ := choose_lt (α := List Value) (p := fun i c => W.cells? 0 (a.add (i * w)) w = some c ∧ DataW.trod enc P W 0 (fun _ => true) true n e c = some (D i, Pl i)) (n := len) (fun i hi => hx i (by omega))
   -- the block
   have h0 := World.cells?_some (hCS 0 (by omega)).1
   have hc0 : ∃ v, W.cell? ((a.add (0 * w)).add 0) = some v := by
    rw [h0.2.2 0 hw0]
    exact ⟨_, List.getElem?_eq_getElem (by rw [h0.2.1]; exact hw0)⟩
   have ha0 : (a.add (0 * w)).add 0 = a := by simp [Addr.add]
   rw [ha0] at hc0
   obtain ⟨v0, hv0⟩ := hc0
   have hblk : ∃ C el fr, W.heap[a.block]? = some (.cells C el fr) ∧ a.spot = none := by
    unfold World.cell? at hv0
    split at hv0
    ·rename_i C el fr hC
     refine ⟨C, el, fr, hC, ?_⟩
     cases hs : a.spot with
     | none => rfl
     | some s => rw [hs] at hv0; simp at hv0
    ·cases hv0
   obtain ⟨C, el, fr, hC, hsp⟩ := hblk
   have hrows : ∀ i, i < len → (CS i).length = w ∧ ∀ j, j < w → C.toList[a.off + i * w + j]? = (CS i)[j]? := by
    intro i hi
    obtain ⟨_, h1, h2⟩ := World.cells?_some (hCS i hi).1
    refine ⟨h1, fun j hj => ?_⟩
    rw [← h2 j hj]
    obtain ⟨b1, b2, b3⟩ := zm a (i * w)
    obtain ⟨c1, c2, c3⟩ := zm (a.add (i * w)) j
    unfold World.cell?
    rw [c1, b1, hC]
    simp only [c3 (b3 hsp), Option.isSome_none, Bool.false_eq_true, if_false, c2, b2]
    simp
   have hflat := nc hrows
   have hll := eb.list (P := P) (W := W) (cells := cells) hst (css := (List.range len).map CS) (by
    intro c hc
    obtain ⟨i, hi, rfl⟩ := List.mem_map.1 hc
    exact helem _ _ _ (hCS i (List.mem_range.1 hi)).2 (hz2 _ (List.mem_map_of_mem hi)))
   intro σ h s
   obtain ⟨σ1, h1, ws, s1, hle1, hg1, hv1, hs1, hlen, hok⟩ := hll σ h s
   simp only [List.length_map, List.length_range] at hlen
   have hal : (ws.flatMap cells).length = len * w := by
    rw [← hlen]
    clear hv1 hs1 hok hlen
    induction ws with
    | nil => simp
    | cons b ws ih => rw [List.flatMap_cons, List.length_append, ih, hcells, List.length_cons, Nat.add_mul]; omega
   have hlt : a.block < W.heap.size := (Array.getElem?_eq_some_iff.1 hC).1
   have hor : lu P σ1 ⟨a.block, a.off, 0, 0⟩ (.cells (ws.flatMap cells) 0 true false) W.heap[a.block]? := by
    refine ⟨C, el, fr, hC, ?_, hs1, fun e => absurd rfl e, (fun e => by cases e), (fun e => by cases e), (fun _ e => by cases e), .inl rfl⟩
    show ao σ1 (ws.flatMap cells) ((C.toList.drop a.off).take (ws.flatMap cells).length)
    rw [hal, ← hflat]; exact hv1
   obtain ⟨σ2, s2, hle2, hg2, hp⟩ := s1.new hor rfl hlt
   have hget : (h1.new (.cells (ws.flatMap cells) 0 true false)).get h1.next = some (.cells (ws.flatMap cells) 0 true false) := by simp
   refine ⟨σ2, _, (ws, .slice h1.next 0 len none), s2, aj.le_trans hle1 hle2, hg1.trans hg2, ao.cons ⟨_, m, hp, ?_, hl, .inl rfl⟩ ao.nil, fun x hx => by simp at hx; subst hx; rfl, ⟨?_, fun i r hr => ?_⟩, ?_, .slice _ _ _ _ _ _ hget, fun b hb => hst _ _ _ hg2 (hok b hb)⟩
   ·obtain ⟨bk, of, sp⟩ := a
    simp only at hsp
    subst hsp
    rfl
   ·show some len = some (ws.map cells).length
    rw [List.length_map, hlen]
   ·refine ⟨h1.next, 0, none, by rw [List.length_map, hlen], zH hget ?_⟩
    simp only [Nat.add_eq, Nat.mul_eq, Nat.zero_add]
    exact ue hcells hr
   ·rw [hlen]
    simp only [List.length_map, List.length_range] at hz1
    have h1 : len + (m - len) ≤ (len + (m - len)) * P.bytesOf e := Nat.le_mul_of_pos_right _ hby
    have : reachBytes ≤ 1152921504606846976 := by decide
    omega
end
namespace Em
section
variable {H : Type} {enc : TypeId × Value → H} {W : World} {fuel : Nat} {cs : List Value} {x : DataW H × List MemPlace}
end
end Em
end
end Go.HL
namespace Go.HL
open Go Go.Deep Go.Proofs
namespace Ev
open Em
noncomputable section
theorem En : Tryz.prog.cellsOf 9 = 1 := by kernel_rfl
theorem NJ : Tryz.prog.cellsOf 4 = 1 := by kernel_rfl
theorem Eo : Tryz.prog.cellsOf 3 = 1 := by kernel_rfl
theorem LH : Tryz.prog.cellsOf 21 = 1 := by kernel_rfl
theorem LG : Tryz.prog.cellsOf 22 = 1 := by kernel_rfl
theorem LF : Tryz.prog.cellsOf 23 = 1 := by kernel_rfl
theorem LD : Tryz.prog.cellsOf 24 = 1 := by kernel_rfl
theorem FD : Tryz.prog.cellsOf 70 = 2 := by kernel_rfl
theorem FC : Tryz.prog.cellsOf 72 = 2 := by kernel_rfl
theorem FB : Tryz.prog.cellsOf 74 = 8 := by kernel_rfl
theorem LC : Tryz.prog.cellsOf 26 = 5 := by kernel_rfl
theorem LQ : Tryz.prog.bytesOf 70 = 24 := by kernel_rfl
theorem LP : Tryz.prog.bytesOf 72 = 24 := by kernel_rfl
theorem LO : Tryz.prog.bytesOf 74 = 64 := by kernel_rfl
def O9 {α : Type} (w : Nat) (cells : α → List aa) (Q : α → Prop) (h : Heap) (p : List α × aa) : Prop := mS h p.2 w (p.1.map cells) ∧ p.1.length ≤ 1152921504606846976 ∧ oD h p.2 ∧ ∀ a ∈ p.1, Q a
theorem EN {α : Type} {w : Nat} {cells : α → List aa} {Q : α → Prop} : CH (O9 w cells Q) :=
 fun _ _ _ g ⟨o1, o2, o3, o4⟩ => ⟨o1.grow g, o2, o3.grow g, o4⟩
theorem bZ {α : Type} {Q : α → Prop} : CH fun (_ : Heap) (a : α) => Q a := fun _ _ _ _ o => o
theorem O9.rd {α : Type} {w : Nat} {cells : α → List aa} {Q : α → Prop} {h : Heap} {p : List α × aa} (s : O9 w cells Q h p) : (HL.rd p.2 w (p.1.map cells)).holds h := by
 obtain ⟨o1, _, o3, _⟩ := s
 refine ⟨o1, fun k hk => ?_⟩
 generalize p.2 = v at o3 hk
 cases o3 with
 | aC => cases hk
 | empty => cases hk
 | slice k' off c l s r hg => cases hk; exact ⟨_, hg⟩
theorem Ld {α : Type} {l : List α} (h : l.length = 2) : ∃ a b, l = [a, b] := by
 match l, h with
 | [a, b], _ => exact ⟨a, b, rfl⟩
theorem OT {α : Type} {l : List α} (h : l.length = 5) : ∃ a b c d e, l = [a, b, c, d, e] := by
 match l, h with
 | [a, b, c, d, e], _ => exact ⟨a, b, c, d, e, rfl⟩
theorem len8 {α : Type} {l : List α} (h : l.length = 8) : ∃ a b c d e f g i, l = [a, b, c, d, e, f, g, i] := by
 match l, h with
 | [a, b, c, d, e, f, g, i], _ => exact ⟨a, b, c, d, e, f, g, i, rfl⟩
theorem bounds_i32 {n : Int} (h : (Lit.int .i32 n).wf = true) : -2147483648 ≤ n ∧ n ≤ 2147483647 := by
 simp only [Lit.wf, Bool.and_eq_true, decide_eq_true_eq] at h
 exact h
section
variable {H : Type} {enc : TypeId × Value → H} {W : World} {fuel : Nat} {cs : List Value} {x : DataW H × List MemPlace}
theorem qj (hd : DataW.trod enc Tryz.prog W 0 (fun _ => true) true fuel 9 cs = some x) (hsz : Sz Tryz.prog 9 x.1) : eb Tryz.prog W (fun b : List Nat => [aY b]) (fun _ b => py b) cs := by
 obtain ⟨s, rfl, hx, hs⟩ := DataW.trod_string Tryz.underlying9 hd
 have hlt : ∀ y ∈ s.data.toList.map UInt8.toNat, y < 256 := toNat_lt _
 have e : s.size = s.data.toList.length := by rw [Array.length_toList]; rfl
 have e2 : (s.data.toList.map UInt8.toNat).length = s.size := by rw [List.length_map, e]
 have e3 : aO (s.data.toList.map UInt8.toNat) 0 = codeOf s.data.toList := by
  rw [← vu hlt, yg]
 refine .here (s.data.toList.map UInt8.toNat) (fun σ => ao.cons ⟨s, rfl, e2.symm, e3.symm⟩ ao.nil) (fun x hx => by simp at hx; subst hx; rfl) fun _ => ⟨hlt, ?_⟩
 have : reachBytes ≤ 1152921504606846976 := by decide
 rw [hx] at hsz
 have := hsz s.data.toList.length (by show _ ∈ DataW.weights Tryz.prog 9 (.lit (.string s.data.toList)); rw [DataW.weights]; simp)
 rw [e2]
 omega
theorem DS (hd : DataW.trod enc Tryz.prog W 0 (fun _ => true) true fuel 70 cs = some x) (hsz : Sz Tryz.prog 70 x.1) : eb Tryz.prog W gu (fun _ p => py p.1) cs := by
 obtain ⟨xs, n, _, rfl, hl, hlen, hf⟩ := DataW.trod_struct Tryz.underlying70 hd
 rw [FD] at hl
 obtain ⟨c0, c1, rfl⟩ := Ld hl
 obtain ⟨x0, x1, rfl⟩ := Ld hlen
 have f0 : DataW.trod enc Tryz.prog W 0 (fun _ => true) true n 9 (List.take (Tryz.prog.cellsOf 9) (List.drop 0 [c0, c1])) = some x0 := hf 0 _ rfl
 have f1 : DataW.trod enc Tryz.prog W 0 (fun _ => true) true n 4 (List.take (Tryz.prog.cellsOf 4) (List.drop 1 [c0, c1])) = some x1 := hf 1 _ rfl
 rw [En] at f0; rw [NJ] at f1
 have z0 : Sz Tryz.prog 9 x0.1 := jv Tryz.underlying70 hsz (i := 0) rfl rfl
 have l0 : eb Tryz.prog W _ _ [c0] := qj f0 z0
 have l1 : eb Tryz.prog W _ _ [c1] := H3 Tryz.underlying4 f1
 exact (l0.pair bZ l1).conv (fun p => p) (fun p => rfl) fun h p o => o.1
theorem DT (hd : DataW.trod enc Tryz.prog W 0 (fun _ => true) true fuel 72 cs = some x) (hsz : Sz Tryz.prog 72 x.1) : eb Tryz.prog W (fun a : List Nat × Int => [aY a.1, .int .i64 a.2]) (fun _ p => py p.1) cs := by
 obtain ⟨xs, n, _, rfl, hl, hlen, hf⟩ := DataW.trod_struct Tryz.underlying72 hd
 rw [FC] at hl
 obtain ⟨c0, c1, rfl⟩ := Ld hl
 obtain ⟨x0, x1, rfl⟩ := Ld hlen
 have f0 : DataW.trod enc Tryz.prog W 0 (fun _ => true) true n 9 (List.take (Tryz.prog.cellsOf 9) (List.drop 0 [c0, c1])) = some x0 := hf 0 _ rfl
 have f1 : DataW.trod enc Tryz.prog W 0 (fun _ => true) true n 3 (List.take (Tryz.prog.cellsOf 3) (List.drop 1 [c0, c1])) = some x1 := hf 1 _ rfl
 rw [En] at f0; rw [Eo] at f1
 have z0 : Sz Tryz.prog 9 x0.1 := jv Tryz.underlying72 hsz (i := 0) rfl rfl
 have l0 : eb Tryz.prog W _ _ [c0] := qj f0 z0
 have l1 : eb Tryz.prog W _ _ [c1] := fH Tryz.underlying3 f1
 exact (l0.pair bZ l1).conv (fun p => p) (fun p => rfl) fun h p o => o.1
theorem H0 (hd : DataW.trod enc Tryz.prog W 0 (fun _ => true) true fuel 74 cs = some x) (hsz : Sz Tryz.prog 74 x.1) : eb Tryz.prog W eo (fun _ a => -2147483648 ≤ a.cV ∧ a.cV ≤ 2147483647) cs := by
 obtain ⟨xs, n, _, rfl, hl, hlen, hf⟩ := DataW.trod_struct Tryz.underlying74 hd
 rw [FB] at hl
 obtain ⟨c0, c1, c2, c3, c4, c5, c6, c7, rfl⟩ := len8 hl
 obtain ⟨x0, x1, x2, x3, x4, x5, x6, x7, rfl⟩ := len8 hlen
 have f0 : DataW.trod enc Tryz.prog W 0 (fun _ => true) true n 3 (List.take (Tryz.prog.cellsOf 3) (List.drop 0 [c0, c1, c2, c3, c4, c5, c6, c7])) = some x0 := hf 0 _ rfl
 have f1 : DataW.trod enc Tryz.prog W 0 (fun _ => true) true n 3 (List.take (Tryz.prog.cellsOf 3) (List.drop 1 [c0, c1, c2, c3, c4, c5, c6, c7])) = some x1 := hf 1 _ rfl
 have f2 : DataW.trod enc Tryz.prog W 0 (fun _ => true) true n 3 (List.take (Tryz.prog.cellsOf 3) (List.drop 2 [c0, c1, c2, c3, c4, c5, c6, c7])) = some x2 := hf 2 _ rfl
 have f3 : DataW.trod enc Tryz.prog W 0 (fun _ => true) true n 3 (List.take (Tryz.prog.cellsOf 3) (List.drop 3 [c0, c1, c2, c3, c4, c5, c6, c7])) = some x3 := hf 3 _ rfl
 have f4 : DataW.trod enc Tryz.prog W 0 (fun _ => true) true n 3 (List.take (Tryz.prog.cellsOf 3) (List.drop 4 [c0, c1, c2, c3, c4, c5, c6, c7])) = some x4 := hf 4 _ rfl
 have f5 : DataW.trod enc Tryz.prog W 0 (fun _ => true) true n 21 (List.take (Tryz.prog.cellsOf 21) (List.drop 5 [c0, c1, c2, c3, c4, c5, c6, c7])) = some x5 := hf 5 _ rfl
 have f6 : DataW.trod enc Tryz.prog W 0 (fun _ => true) true n 3 (List.take (Tryz.prog.cellsOf 3) (List.drop 6 [c0, c1, c2, c3, c4, c5, c6, c7])) = some x6 := hf 6 _ rfl
 have f7 : DataW.trod enc Tryz.prog W 0 (fun _ => true) true n 3 (List.take (Tryz.prog.cellsOf 3) (List.drop 7 [c0, c1, c2, c3, c4, c5, c6, c7])) = some x7 := hf 7 _ rfl
 rw [Eo] at f0 f1 f2 f3 f4 f6 f7; rw [LH] at f5
 have l0 : eb Tryz.prog W _ _ [c0] := fH Tryz.underlying3 f0
 have l1 : eb Tryz.prog W _ _ [c1] := fH Tryz.underlying3 f1
 have l2 : eb Tryz.prog W _ _ [c2] := fH Tryz.underlying3 f2
 have l3 : eb Tryz.prog W _ _ [c3] := fH Tryz.underlying3 f3
 have l4 : eb Tryz.prog W _ _ [c4] := fH Tryz.underlying3 f4
 have l5 : eb Tryz.prog W _ _ [c5] := fH Tryz.underlying21 f5
 have l6 : eb Tryz.prog W _ _ [c6] := fH Tryz.underlying3 f6
 have l7 : eb Tryz.prog W _ _ [c7] := fH Tryz.underlying3 f7
 exact (l0.pair bZ (l1.pair bZ (l2.pair bZ (l3.pair bZ (l4.pair bZ (l5.pair bZ (l6.pair bZ l7))))))).conv
  (fun p => ⟨p.1, p.2.1, p.2.2.1, p.2.2.2.1, p.2.2.2.2.1, p.2.2.2.2.2.1, p.2.2.2.2.2.2.1, p.2.2.2.2.2.2.2⟩) (fun p => rfl) fun h p o => bounds_i32 o.2.2.2.2.2.1
theorem H2 (hd : DataW.trod enc Tryz.prog W 0 (fun _ => true) true fuel 26 cs = some x) (hsz : Sz Tryz.prog 26 x.1) : eb Tryz.prog W (fun q : br × aa × aa × aa => [aY q.1.name, q.2.1, q.2.2.1, .int .i64 q.1.local, q.2.2.2]) (fun h q => (n8 q.1.gM q.2.1 q.2.2.1 q.2.2.2).holds h ∧ q.1.Ok) cs := by
 obtain ⟨xs, n, _, rfl, hl, hlen, hf⟩ := DataW.trod_struct Tryz.underlying26 hd
 rw [LC] at hl
 obtain ⟨c0, c1, c2, c3, c4, rfl⟩ := OT hl
 obtain ⟨x0, x1, x2, x3, x4, rfl⟩ := OT hlen
 have f0 : DataW.trod enc Tryz.prog W 0 (fun _ => true) true n 9 (List.take (Tryz.prog.cellsOf 9) (List.drop 0 [c0, c1, c2, c3, c4])) = some x0 := hf 0 _ rfl
 have f1 : DataW.trod enc Tryz.prog W 0 (fun _ => true) true n 22 (List.take (Tryz.prog.cellsOf 22) (List.drop 1 [c0, c1, c2, c3, c4])) = some x1 := hf 1 _ rfl
 have f2 : DataW.trod enc Tryz.prog W 0 (fun _ => true) true n 23 (List.take (Tryz.prog.cellsOf 23) (List.drop 2 [c0, c1, c2, c3, c4])) = some x2 := hf 2 _ rfl
 have f3 : DataW.trod enc Tryz.prog W 0 (fun _ => true) true n 3 (List.take (Tryz.prog.cellsOf 3) (List.drop 3 [c0, c1, c2, c3, c4])) = some x3 := hf 3 _ rfl
 have f4 : DataW.trod enc Tryz.prog W 0 (fun _ => true) true n 24 (List.take (Tryz.prog.cellsOf 24) (List.drop 4 [c0, c1, c2, c3, c4])) = some x4 := hf 4 _ rfl
 rw [En] at f0; rw [LG] at f1; rw [LF] at f2; rw [Eo] at f3; rw [LD] at f4
 have z0 : Sz Tryz.prog 9 x0.1 := jv Tryz.underlying26 hsz (i := 0) rfl rfl
 have z1 : Sz Tryz.prog 22 x1.1 := jv Tryz.underlying26 hsz (i := 1) rfl rfl
 have z2 : Sz Tryz.prog 23 x2.1 := jv Tryz.underlying26 hsz (i := 2) rfl rfl
 have z4 : Sz Tryz.prog 24 x4.1 := jv Tryz.underlying26 hsz (i := 4) rfl rfl
 have l0 : eb Tryz.prog W _ _ [c0] := qj f0 z0
 have l1 : eb Tryz.prog W _ (O9 2 gu fun p => py p.1) [c1] := nV Tryz.underlying22 FD (by decide) (fun _ => rfl) bZ (by rw [LQ]; decide) (fun n cs x h z => DS h z) f1 z1
 have l2 : eb Tryz.prog W _ (O9 2 (fun a : List Nat × Int => [aY a.1, .int .i64 a.2]) fun p => py p.1) [c2] := nV Tryz.underlying23 FC (by decide) (fun _ => rfl) bZ (by rw [LP]; decide) (fun n cs x h z => DT h z) f2 z2
 have l3 : eb Tryz.prog W _ _ [c3] := fH Tryz.underlying3 f3
 have l4 : eb Tryz.prog W _ (O9 8 eo fun a => -2147483648 ≤ a.cV ∧ a.cV ≤ 2147483647) [c4] := nV Tryz.underlying24 FB (by decide) (fun _ => rfl) bZ (by rw [LO]; decide) (fun n cs x h z => H0 h z) f4 z4
 exact (l0.pair bZ (l1.pair EN (l2.pair EN (l3.pair bZ l4)))).conv
  (fun p => (⟨p.1, p.2.1.1, p.2.2.1.1, p.2.2.2.1, p.2.2.2.2.1⟩, p.2.1.2, p.2.2.1.2, p.2.2.2.2.2)) (fun p => rfl) fun h p o => by
   obtain ⟨o0, o1, o2, _, o4⟩ := o
   refine ⟨⟨?_, ?_, o4.rd⟩, o0, o1.2.1, o1.2.2.2, o2.2.1, o2.2.2.2, o4.2.1, o4.2.2.2⟩
   ·have := o1.rd
    unfold br.gM
    simp only [List.map_map]
    exact this
   ·have := o2.rd
    unfold br.gM
    simp only [List.map_map]
    exact this
end
end
end Ev
end Go.HL
namespace Go.HL
open Go Go.Proofs
namespace Ev
open Em
noncomputable section
def base (t2 t3 : Nat) : List (Nat × aG) := [(0, fA), (1, DU), (2, uF t2), (3, uF t3), (4, xN)]
variable {t2 t3 : Nat}
theorem Jg {h : Heap} (hb : (lies (base t2 t3)).holds h) : (lies Kh).holds h := fun p hp => hb p (by rw [List.mem_singleton.1 (show p ∈ [(0, fA)] from hp)]; exact List.mem_cons_self)
theorem Nn {h : Heap} (hb : (lies (base t2 t3)).holds h) : h.get 1 = some DU := hb (1, DU) (by simp [base])
theorem Nl {h : Heap} (hb : (lies (base t2 t3)).holds h) : h.get 2 = some (uF t2) := hb (2, uF t2) (by simp [base])
theorem Nk {h : Heap} (hb : (lies (base t2 t3)).holds h) : h.get 3 = some (uF t3) := hb (3, uF t3) (by simp [base])
theorem Nj {h : Heap} (hb : (lies (base t2 t3)).holds h) : h.get 4 = some xN := hb (4, xN) (by simp [base])
theorem Ot : tC P Ny := by
 refine ⟨Ho, rfl, tO.symm, fun p hp => ?_⟩
 have hp : p ∈ [(0, fA)] := hp
 rw [List.mem_singleton.1 hp]
 exact ⟨rfl, .cells (pR _), by rw [show P.globals.size = 11 from tO]; decide⟩
theorem AD : qH = vj := rfl
def Kq (t2 t3 : Nat) (args : List aa) (h : Heap) (v : aa) : Prop := ∃ n : Int, args = [.int .i64 n] ∧ (-9223372036854775808 ≤ n ∧ n ≤ 9223372036854775807) ∧ (lies (base t2 t3)).holds h ∧ v = aY (aQ n)
def jY (t2 t3 : Nat) (args : List aa) (h : Heap) (v : aa) : Prop := ∃ b, args = [aY b, .int .i64 10, .int .i64 64] ∧ (∀ x ∈ b, x < 256) ∧ b.length ≤ 1000000 ∧ (lies (base t2 t3)).holds h ∧ v = .tuple [.int .i64 (eH b), .bad]
theorem jY.eq {args : List aa} {h : Heap} {v v' : aa} (a : jY t2 t3 args h v) (b : jY t2 t3 args h v') : v = v' := by
 obtain ⟨b, rfl, hb, _, _, rfl⟩ := a
 obtain ⟨b', e, hb', _, _, rfl⟩ := b
 injection e with e1
 rw [jD hb hb' e1]
open Classical in
def K0 (t2 t3 : Nat) : ah := fun f args h =>
 if f = 149 then (if (lies (base t2 t3)).holds h ∧ args = [] then some (.ret (.map h.next), h.new vj) else none)
 else if f = 8 then (if (lies (base t2 t3)).holds h ∧ args = [] then some (.ret (.bool true), h) else none)
 else if f = 70 then (if p : ∃ v, Kq t2 t3 args h v then some (.ret p.choose, h) else none)
 else if f = 137 then (if p : ∃ v, oC args h v then some (.ret p.choose, h) else none)
 else if f = 48 then (if p : ∃ r, mR args h r then some p.choose else none)
 else if f = 90 then (if p : ∃ v, jY t2 t3 args h v then some (.ret p.choose, h) else none)
 else none
theorem Ff {f : Nat} {a : List aa} {h : Heap} (n1 : f ≠ 149) (n2 : f ≠ 8) (n3 : f ≠ 70) (n4 : f ≠ 137) (n5 : f ≠ 48) (n6 : f ≠ 90) : K0 t2 t3 f a h = none := by
 unfold K0
 rw [if_neg n1, if_neg n2, if_neg n3, if_neg n4, if_neg n5, if_neg n6]
theorem Jj : KN (base t2 t3) (K0 t2 t3) := by
 refine ⟨fun f h8 hl a h => ?_, fun h hb => ?_, fun h hb => ?_⟩
 ·refine Ff ?_ ?_ ?_ ?_ ?_ ?_
  ·rintro rfl; exact absurd hl (by decide)
  ·rintro rfl; cases h8
  ·rintro rfl; exact absurd hl (by decide)
  ·rintro rfl; exact absurd hl (by decide)
  ·rintro rfl; exact absurd hl (by decide)
  ·rintro rfl; exact absurd hl (by decide)
 ·unfold K0
  rw [if_pos rfl, if_pos ⟨hb, rfl⟩]
 ·unfold K0
  rw [if_neg (by decide), if_pos rfl, if_pos ⟨hb, rfl⟩]
theorem Nq : KL (base t2 t3) (K0 t2 t3) := by
 refine ⟨fun h n hb h1 h2 => ?_, fun h s l hne hbb hl hll hr => ?_⟩
 ·have p : ∃ v, Kq t2 t3 [.int .i64 n] h v := ⟨_, n, rfl, ⟨by omega, by omega⟩, hb, rfl⟩
  unfold K0
  rw [if_neg (by decide), if_neg (by decide), if_pos rfl, dif_pos p]
  obtain ⟨m, e, _, _, hv⟩ := p.choose_spec
  injection e with e
  injection e with _ e
  rw [hv, ← e]
 ·have hj : oC [s, .str 1 32] h (aY (aJ l)) := ⟨s, l, rfl, hne, hbb, hl, hll, hr, rfl⟩
  have p : ∃ v, oC [s, .str 1 32] h v := ⟨_, hj⟩
  unfold K0
  rw [if_neg (by decide), if_neg (by decide), if_neg (by decide), if_pos rfl, dif_pos p, oC.eq p.choose_spec hj]
theorem Le : KR (base t2 t3) (K0 t2 t3) := by
 refine ⟨fun f hf a h => ?_, fun h b c hb hby hc hl => ?_, fun h b hb hby hl => ?_⟩
 ·have e : f = 91 ∨ f = 162 := by simpa using hf
  rcases e with rfl | rfl <;> exact Ff (by decide) (by decide) (by decide) (by decide) (by decide) (by decide)
 ·have hj : mR [aY b, .str 1 c] h (.ret (.slice h.next 0 (cutAt c b).length (some (cutAt c b).length)), h.new (.cells ((cutAt c b).map aY) 9 false true)) := ⟨b, c, rfl, hby, hc, hl, Nn hb, rfl⟩
  have p : ∃ r, mR [aY b, .str 1 c] h r := ⟨_, hj⟩
  unfold K0
  rw [if_neg (by decide), if_neg (by decide), if_neg (by decide), if_neg (by decide), if_pos rfl, dif_pos p, mR.eq p.choose_spec hj]
 ·have hj : jY t2 t3 [aY b, .int .i64 10, .int .i64 64] h (.tuple [.int .i64 (eH b), .bad]) := ⟨b, rfl, hby, hl, hb, rfl⟩
  have p : ∃ v, jY t2 t3 [aY b, .int .i64 10, .int .i64 64] h v := ⟨_, hj⟩
  unfold K0
  rw [if_neg (by decide), if_neg (by decide), if_neg (by decide), if_neg (by decide), if_neg (by decide), if_pos rfl, dif_pos p, jY.eq p.choose_spec hj]
theorem Js (n : Nat) (h : n < 11) : n < P.globals.size := by rw [show P.globals.size = 11 from tO]; exact h
theorem Ji : aX P (K0 t2 t3) := by
 intro f args h r h' e
 unfold K0 at e
 intro σ w vs hr hv
 split at e
 ·rename_i hf
  subst hf
  split at e
  ·rename_i hb
   obtain ⟨hb, rfl⟩ := hb
   have hvs := hv.cE
   subst hvs
   cases e
   refine ⟨fun _ => ?_, fun hge => absurd hge (by decide)⟩
   exact (vR Mh (k0 := 11) rfl yc qG rfl (Jg hb) hr).mono fun x w' ⟨τ, st, hc⟩ => ⟨τ, by rw [← AD]; exact st, hc⟩
  ·cases e
 split at e
 ·rename_i hf
  subst hf
  split at e
  ·rename_i hb
   obtain ⟨hb, rfl⟩ := hb
   have hvs := hv.cE
   subst hvs
   cases e
   refine ⟨fun _ => ?_, fun hge => absurd hge (by decide)⟩
   exact (xM Ot rfl (Jg hb) hr).mono fun x w' ⟨st, hc⟩ => ⟨σ, st, hc⟩
  ·cases e
 split at e
 ·rename_i hf
  subst hf
  split at e
  ·rename_i p
   obtain ⟨n, e1, e2, e3, e4⟩ := p.choose_spec
   cases e
   refine ⟨fun _ => ?_, fun hge => absurd hge (by decide)⟩
   rw [e4]
   subst e1
   exact (DX e2.1 e2.2 hr (Nj e3) (Js 4 (by decide)) hv).mono fun x w' ⟨st, hc⟩ => ⟨σ, st, hc⟩
  ·cases e
 split at e
 ·rename_i hf
  subst hf
  split at e
  ·rename_i p
   have hj := p.choose_spec
   cases e
   refine ⟨fun _ => ?_, fun hge => absurd hge (by decide)⟩
   exact (DW hj hr hv).mono fun x w' ⟨st, hc⟩ => ⟨σ, st, hc⟩
  ·cases e
 split at e
 ·rename_i hf
  subst hf
  split at e
  ·rename_i p
   obtain ⟨b, c, e1, e2, e3, e4, e5, e6⟩ := p.choose_spec
   have e := Option.some.inj e
   rw [e6] at e
   cases e
   refine ⟨fun _ => ?_, fun hge => absurd hge (by decide)⟩
   subst e1
   exact AU e2 e3 e4 hr e5 (Js 1 (by decide)) hv
  ·cases e
 split at e
 ·rename_i hf
  subst hf
  split at e
  ·rename_i p
   obtain ⟨b, e1, e2, e3, e4, e5⟩ := p.choose_spec
   cases e
   refine ⟨fun _ => ?_, fun hge => absurd hge (by decide)⟩
   rw [e5]
   subst e1
   exact (Bd e2 e3 hr (Nl e4) (Nk e4) (Js 3 (by decide)) hv).mono fun x w' ⟨st, hc⟩ => ⟨σ, st, hc⟩
  ·cases e
 ·cases e
end
end Ev
end Go.HL
