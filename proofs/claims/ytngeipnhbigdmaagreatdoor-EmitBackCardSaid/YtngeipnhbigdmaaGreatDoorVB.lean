/- The walk: the reference's text; strconv.Itoa and strings.Join by the kit's contracts. No statement of the seat stands here. -/
import Derived.Test.YtngeipnhbigdmaaGreatDoorVA
import Derived.Shelf.Strings.OnBuilder
import Derived.Shelf.LaysM
import Derived.Shelf.Strconv.Itoa3
import Derived.Test.YtngeipnhbigdmaaGreatDoorProg
set_option linter.unusedVariables false
set_option linter.unusedSimpArgs false
namespace Go.HL
open Go Go.Proofs
namespace Ev
open Em
set_option maxRecDepth 10000
set_option maxHeartbeats 4000000
variable {K : ah} {base : List (Nat × aG)}
def jc (c : aR) : List Nat := [99, 111, 100, 101, 32] ++ c.name ++ [32, 108, 111, 99, 97, 108, 32] ++ aQ c.local ++ [10]
def mz (p : List Nat × Bool) : List Nat := if p.2 then [98, 117, 102, 102, 101, 114, 32] ++ p.1 ++ [10] else [105, 110, 116, 32] ++ p.1 ++ [10]
def uH (a : List Nat × Nat) : List Nat := [115, 104, 97, 114, 101, 100, 32] ++ a.1 ++ [32] ++ aQ a.2 ++ [10]
def wG (i : Nat) (x : bI) : List Nat := aQ i ++ [32] ++ yP x ++ [10]
def mH (l : List bI) (n : Nat) : List Nat := (List.range n).flatMap fun j => wG j (l.getD j aP)
def bM (c : aR) : List Nat := jc c ++ c.params.flatMap mz ++ c.shared.flatMap uH ++ mH c.aq c.aq.length
theorem BA (l : List bI) (n : Nat) : mH l (n + 1) = mH l n ++ wG n (l.getD n aP) := by
 simp [mH, List.range_succ]
theorem Nr {p : Prop} [Decidable p] {a b n : Nat} (ha : p → a ≤ n) (hb : ¬ p → b ≤ n) : (if p then a else b) ≤ n := by
 by_cases h : p
 ·rw [if_pos h]; exact ha h
 ·rw [if_neg h]; exact hb h
theorem yO {x : bI} (hx : Av x) : (yP x).length ≤ 100 := by
 obtain ⟨gJ, hu, hb, hs⟩ := hx
 have f1 := gJ.d
 have f2 := gJ.a
 have f3 := gJ.b
 have f4 := gJ.cV
 have f5 := gJ.to
 have f6 := gJ.join
 have l1 := Dj (n := x.d) (by omega) (by omega)
 have l2 := Dj (n := x.a) (by omega) (by omega)
 have l3 := Dj (n := x.b) (by omega) (by omega)
 have l4 := eY (n := x.cV) (by omega) (by omega)
 have l5 := eY (n := x.to) (by omega) (by omega)
 have l6 := eY (n := x.join) (by omega) (by omega)
 have l7 := Nx x.op
 have l8 := wN (l := uT) (k := x.op.toNat) (by decide)
 have l9 := wN (l := bT) (k := x.op.toNat) (by decide)
 have l10 := wN (l := qF) (k := x.op.toNat) (by decide)
 simp only [yP, apply_ite List.length]
 repeat' (refine Nr (fun _ => ?_) (fun _ => ?_))
 all_goals first | (simp only [List.length_append, List.length_cons, List.length_nil]; omega) | simp
structure Kn (c : aR) : Prop where
 gJ : dZ c
 lines : ∀ x ∈ c.aq, Av x
 valid : c.gM.sK = true
end Ev
end Go.HL
namespace Go.HL
open Go
namespace Ev
open Em
theorem GZ {f : aD} {x : bI} (h : f.jO x = true) (hf : k9 x) : Av x := by
 unfold aD.jO at h
 simp only [Bool.and_eq_true, decide_eq_true_eq] at h
 obtain ⟨⟨⟨⟨⟨⟨⟨_, ho⟩, _⟩, _⟩, _⟩, _⟩, _⟩, _⟩ := h
 refine ⟨hf, fun e => ?_, fun e => ?_, fun e => ?_⟩
 ·rw [e, if_neg (by decide)] at ho
  exact eT ho (by decide)
 ·rw [e, if_neg (by decide)] at ho
  exact eT ho (by decide)
 ·rw [e, if_neg (by decide)] at ho
  exact eT ho (by decide)
theorem yi {c : aR} (h : V c = true) : Kn c := by
 have hf := fy h
 refine ⟨hf, fun x hx => ?_, ?_⟩
 ·have h2 := h
  unfold V at h2
  simp only [Bool.and_eq_true] at h2
  have hv := h2.2
  unfold aD.dm at hv
  simp only [Bool.and_eq_true, List.all_eq_true] at hv
  exact GZ (hv.2 x hx) (hf.each x hx)
 ·rw [← AM]
  unfold V at h
  simp only [Bool.and_eq_true] at h
  exact h.2
end Ev
end Go.HL
namespace Go.Proofs
open Go.Shelf
def Tryz.lays156_ren : Go.Shelf.Ren := ⟨fun | 156 => 137 | 165 => 238 | 166 => 68 | 169 => 72 | 240 => 136 | 241 => 326 | 276 => 237 | 277 => 367 | n => n, fun | 31 => 100 | 9 => 9 | 3 => 3 | 4 => 4 | 0 => 0 | 20 => 20 | 72 => 142 | 76 => 145 | 70 => 139 | 37 => 140 | 75 => 144 | 127 => 228 | 164 => 339 | 5 => 5 | 80 => 96 | n => n, fun | n => n⟩
theorem Tryz.lays156 : Go.Proofs.Lays.n156 Tryz.prog Tryz.lays156_ren := {
 mixed := by kernel_rfl
 f156 := Tryz.func137.trans (congrArg some (by kernel_rfl))
 f165 := Tryz.func238.trans (congrArg some (by kernel_rfl))
 f166 := Tryz.func68.trans (congrArg some (by kernel_rfl))
 f169 := Tryz.func72.trans (congrArg some (by kernel_rfl))
 f240 := Tryz.func136.trans (congrArg some (by kernel_rfl))
 f241 := Tryz.func326.trans (congrArg some (by kernel_rfl))
 f276 := Tryz.func237.trans (congrArg some (by kernel_rfl))
 f277 := Tryz.func367.trans (congrArg some (by kernel_rfl))
 t0 := Tryz.underlying0
 a0 := Tryz.isAgg0
 z0 := Tryz.sizeOf0
 v0 := Tryz.zeroValue0
 t3 := Tryz.underlying3
 a3 := Tryz.isAgg3
 z3 := Tryz.sizeOf3
 v3 := Tryz.zeroValue3
 t4 := Tryz.underlying4
 a4 := Tryz.isAgg4
 z4 := Tryz.sizeOf4
 v4 := Tryz.zeroValue4
 t9 := Tryz.underlying9
 a9 := Tryz.isAgg9
 z9 := Tryz.sizeOf9
 v9 := Tryz.zeroValue9
 t20 := Tryz.underlying20
 a20 := Tryz.isAgg20
 z20 := Tryz.sizeOf20
 v20 := Tryz.zeroValue20
 t31 := Tryz.underlying100
 a31 := Tryz.isAgg100
 z31 := Tryz.sizeOf100
 v31 := Tryz.zeroValue100
 t37 := Tryz.underlying140
 a37 := Tryz.isAgg140
 z37 := Tryz.sizeOf140
 v37 := Tryz.zeroValue140
 t70 := Tryz.underlying139
 a70 := Tryz.isAgg139
 z70 := Tryz.sizeOf139
 v70 := Tryz.zeroValue139
 t72 := Tryz.underlying142
 a72 := Tryz.isAgg142
 z72 := Tryz.sizeOf142
 v72 := Tryz.zeroValue142
 t75 := Tryz.underlying144
 a75 := Tryz.isAgg144
 z75 := Tryz.sizeOf144
 v75 := Tryz.zeroValue144
 t76 := Tryz.underlying145
 a76 := Tryz.isAgg145
 z76 := Tryz.sizeOf145
 v76 := Tryz.zeroValue145
 t127 := Tryz.underlying228
 a127 := Tryz.isAgg228
 z127 := Tryz.sizeOf228
 v127 := Tryz.zeroValue228
 t164 := Tryz.underlying339
 a164 := Tryz.isAgg339
 z164 := Tryz.sizeOf339
 v164 := Tryz.zeroValue339 }
theorem Tryz.Builder_Extra_156 : Builder.Extra Tryz.prog Tryz.lays156_ren := {
 sizeBuilder := by kernel_rfl
 liesBuilder := by kernel_rfl
 t5 := Tryz.underlying5
 a5 := Tryz.isAgg5
 z5 := Tryz.sizeOf5
 v5 := Tryz.zeroValue5
 infoByte := by kernel_rfl
 cellsByte := by kernel_rfl
 sizeByte := by kernel_rfl
 neB5 := by decide }
open Go.RowKit in
open Go.RowKit in
theorem Tryz.strings_Join (bk o c : Nat) (xs : List ByteArray) (sep : ByteArray) (w : World) (hcells : ∀ (j : Nat) x, xs[j]? = some x → w.cell? ⟨bk, o + j, none⟩ = some (.string x)) (hbk : bk < w.heap.size) (hN : xs.length ≤ 140737488355328) (hcap : xs.length ≤ c) (hlen : (Lib.join (xs.map (·.data.toList)) sep.data.toList).length ≤ 140737488355328) :
  Calls Tryz.prog 137 #[.slice (some ⟨bk, o, none⟩) xs.length c, .string sep] w fun e w' => e = .returned (.string ⟨(Lib.join (xs.map (·.data.toList)) sep.data.toList).toArray⟩) ∧ Below w.heap.size w w' := Any.strings_Join Tryz.lays156 Tryz.Builder_Extra_156 bk o c xs sep w hcells hbk hN hcap hlen
def Tryz.laysM171_ren : Go.Shelf.Ren := ⟨fun | 171 => 70 | 243 => 138 | 246 => 239 | 283 => 327 | 284 => 328 | 285 => 329 | 286 => 330 | 129 => 369 | 317 => 368 | 318 => 370 | 319 => 371 | 320 => 372 | 337 => 402 | 338 => 403 | n => n, fun | 3 => 3 | 9 => 9 | 2 => 2 | 4 => 4 | 171 => 396 | 0 => 0 | 53 => 196 | 37 => 140 | 5 => 5 | 173 => 399 | 212 => 449 | 51 => 42 | 20 => 20 | 213 => 450 | 46 => 225 | 232 => 508 | 233 => 509 | n => n, fun | 17 => 4 | 18 => 8 | 19 => 9 | n => n⟩
theorem Tryz.laysM171 : Go.Proofs.LaysM.n171 Tryz.prog Tryz.laysM171_ren := {
 mixed := by kernel_rfl
 f129 := Tryz.func369.trans (congrArg some (by kernel_rfl))
 f171 := Tryz.func70.trans (congrArg some (by kernel_rfl))
 f243 := Tryz.func138.trans (congrArg some (by kernel_rfl))
 f246 := Tryz.func239.trans (congrArg some (by kernel_rfl))
 f283 := Tryz.func327.trans (congrArg some (by kernel_rfl))
 f284 := Tryz.func328.trans (congrArg some (by kernel_rfl))
 f285 := Tryz.func329.trans (congrArg some (by kernel_rfl))
 f286 := Tryz.func330.trans (congrArg some (by kernel_rfl))
 f317 := Tryz.func368.trans (congrArg some (by kernel_rfl))
 f318 := Tryz.func370.trans (congrArg some (by kernel_rfl))
 f319 := Tryz.func371.trans (congrArg some (by kernel_rfl))
 f320 := Tryz.func372.trans (congrArg some (by kernel_rfl))
 f337 := Tryz.func402.trans (congrArg some (by kernel_rfl))
 f338 := Tryz.func403.trans (congrArg some (by kernel_rfl))
 t0 := Tryz.underlying0
 a0 := Tryz.isAgg0
 z0 := Tryz.sizeOf0
 v0 := Tryz.zeroValue0
 t2 := Tryz.underlying2
 a2 := Tryz.isAgg2
 z2 := Tryz.sizeOf2
 v2 := Tryz.zeroValue2
 t3 := Tryz.underlying3
 a3 := Tryz.isAgg3
 z3 := Tryz.sizeOf3
 v3 := Tryz.zeroValue3
 t4 := Tryz.underlying4
 a4 := Tryz.isAgg4
 z4 := Tryz.sizeOf4
 v4 := Tryz.zeroValue4
 t5 := Tryz.underlying5
 a5 := Tryz.isAgg5
 z5 := Tryz.sizeOf5
 v5 := Tryz.zeroValue5
 t9 := Tryz.underlying9
 a9 := Tryz.isAgg9
 z9 := Tryz.sizeOf9
 v9 := Tryz.zeroValue9
 t20 := Tryz.underlying20
 a20 := Tryz.isAgg20
 z20 := Tryz.sizeOf20
 v20 := Tryz.zeroValue20
 t37 := Tryz.underlying140
 a37 := Tryz.isAgg140
 z37 := Tryz.sizeOf140
 v37 := Tryz.zeroValue140
 t46 := Tryz.underlying225
 a46 := Tryz.isAgg225
 z46 := Tryz.sizeOf225
 v46 := Tryz.zeroValue225
 t51 := Tryz.underlying42
 a51 := Tryz.isAgg42
 z51 := Tryz.sizeOf42
 v51 := Tryz.zeroValue42
 t53 := Tryz.underlying196
 a53 := Tryz.isAgg196
 z53 := Tryz.sizeOf196
 v53 := Tryz.zeroValue196
 t171 := Tryz.underlying396
 a171 := Tryz.isAgg396
 z171 := Tryz.sizeOf396
 v171 := Tryz.zeroValue396
 t173 := Tryz.underlying399
 a173 := Tryz.isAgg399
 z173 := Tryz.sizeOf399
 v173 := Tryz.zeroValue399
 t212 := Tryz.underlying449
 a212 := Tryz.isAgg449
 z212 := Tryz.sizeOf449
 v212 := Tryz.zeroValue449
 t213 := Tryz.underlying450
 a213 := Tryz.isAgg450
 z213 := Tryz.sizeOf450
 t232 := Tryz.underlying508
 a232 := Tryz.isAgg508
 z232 := Tryz.sizeOf508
 v232 := Tryz.zeroValue508
 t233 := Tryz.underlying509
 a233 := Tryz.isAgg509
 z233 := Tryz.sizeOf509
 v233 := Tryz.zeroValue509
 g17 := by kernel_rfl
 g18 := by kernel_rfl
 g19 := by kernel_rfl
 i0 := by kernel_rfl
 i2 := by kernel_rfl
 i3 := by kernel_rfl
 i4 := by kernel_rfl
 i5 := by kernel_rfl
 i9 := by kernel_rfl
 i20 := by kernel_rfl
 i37 := by kernel_rfl
 i46 := by kernel_rfl
 i51 := by kernel_rfl
 i53 := by kernel_rfl
 i171 := by kernel_rfl
 i173 := by kernel_rfl
 i212 := by kernel_rfl
 i232 := by kernel_rfl
 i233 := by kernel_rfl
 m17 := by kernel_rfl
 m18 := by kernel_rfl
 m19 := by kernel_rfl }
open Go.RowKit Go.Sort Go.Lib in
theorem Tryz.strconv_Itoa (n : Int) (h0 : -9223372036854775808 ≤ n) (h1 : n ≤ 9223372036854775807) (w : World) (htab : Lib.TabIs Tryz.prog w "internal/strconv.uint64pow10" .u64 Lib.pow10Tab) :
  Calls Tryz.prog 70 #[.int .i64 n] w fun e w' => e = .returned (.string ⟨(Lib.itoa n).toArray⟩) ∧ ∃ k os, w' = grow (w.drewN k) os := Any.strconv_Itoa Tryz.laysM171 n h0 h1 w htab
end Go.Proofs
namespace Go.HL
open Go Go.Proofs
noncomputable section
namespace Ev
open Em
/-! ## Strings -/
theorem xk : ∀ (l : List Nat) (a : Nat), (∀ x ∈ l, x < 256) → (l.map UInt8.ofNat).foldl (fun a b => Nat.add (Nat.mul a 256) b.toNat) a = aO l a
 | [], a, _ => rfl
 | x :: l, a, h => by
  have hx : (UInt8.ofNat x).toNat = x := by
   rw [UInt8.toNat_ofNat']; exact Nat.mod_eq_of_lt (h x (by simp))
  show (l.map UInt8.ofNat).foldl _ (Nat.add (Nat.mul a 256) (UInt8.ofNat x).toNat) = aO l (a * 256 + x)
  rw [hx, xk l _ fun y hy => h y (by simp [hy])]; rfl
def gU (l : List Nat) : ByteArray := ⟨(l.map UInt8.ofNat).toArray⟩
theorem jC (l : List Nat) : (gU l).size = l.length := by simp [gU, ByteArray.size]
theorem vt (l : List Nat) : (gU l).data.toList = l.map UInt8.ofNat := rfl
theorem vu {l : List Nat} (h : ∀ x ∈ l, x < 256) : codeOf (gU l).data.toList = aO l 0 := xk l 0 h
theorem ofNat_toNat {l : List Nat} (h : ∀ x ∈ l, x < 256) : (l.map UInt8.ofNat).map UInt8.toNat = l := by
 rw [List.map_map]
 conv => rhs; rw [← List.map_id l]
 refine List.map_congr_left fun x hx => ?_
 show (UInt8.ofNat x).toNat = x
 rw [UInt8.toNat_ofNat']; exact Nat.mod_eq_of_lt (h x hx)
theorem pf {l : List Nat} (h : ∀ x ∈ l, x < 256) : Ae l.length (aO l 0) 0 l.length = l := by
 have := rJ (gU l)
 rw [jC, vu h, vt, ofNat_toNat h] at this
 exact this
theorem jD {l m : List Nat} (hl : ∀ x ∈ l, x < 256) (hm : ∀ x ∈ m, x < 256) (h : aY l = aY m) : l = m := by
 injection h with h1 h2
 rw [← pf hl, h1, h2, pf hm]
theorem qM {σ : aj} {l : List Nat} (hl : ∀ x ∈ l, x < 256) {v : Value} (h : aA σ (aY l) v) : v = .string (gU l) := by
 obtain ⟨s, rfl, h1, h2⟩ := h
 have e1 := rJ s
 rw [h1, h2, pf hl] at e1
 have e2 : s.data.toList = (gU l).data.toList := by
  rw [vt, e1, List.map_map]
  conv => lhs; rw [← List.map_id s.data.toList]
  refine List.map_congr_left fun x _ => ?_
  show x = UInt8.ofNat x.toNat
  exact UInt8.ofNat_toNat.symm
 have e3 : s.data = (gU l).data := Array.toList_inj.1 e2
 congr 1
 cases s
 cases h4 : gU l
 rw [h4] at e3
 simp only at e3
 rw [e3]
theorem zx {σ : aj} {l : List Nat} (hl : ∀ x ∈ l, x < 256) : aA σ (aY l) (.string (gU l)) := ⟨_, rfl, jC l, vu hl⟩
/-! ## The memory below stays -/
theorem iy {P : Program} {σ : aj} {h : Heap} {w w' : World} (hr : Rel P σ h w) (b : RowKit.Below w.heap.size w w') : Step P σ h w σ h w' :=
 ⟨σ.le_refl, ⟨fun k o p hk' hl hp => by rw [b.block p.bN (hr.o7 k p hp)]; exact hr.obj k o p hk' hl hp, hr.fresh, hr.uZ, fun k p hp => Nat.lt_of_lt_of_le (hr.o7 k p hp) b.size, hr.inj, hr.od⟩,
  ⟨b.os, b.tape, b.output, b.size, fun i hi _ => b.block i hi⟩, fun _ _ e => e, Nat.le_refl _, fun _ _ => rfl, fun _ _ _ => rfl⟩
theorem Ew (w : World) (q : Nat) (os : Array Obj) : RowKit.Below w.heap.size w (Sort.grow (w.drewN q) os) :=
 ⟨rfl, rfl, rfl, by simp [Sort.grow], fun i hi => by
  show ((w.drewN q).heap ++ os)[i]? = _
  rw [Array.getElem?_append_left (by show i < w.heap.size; omega)]
  rfl⟩
/-! ## Itoa -/
theorem decDigits_eq (n : Nat) : (Lib.decDigits n).map UInt8.toNat = eC n := by
 induction n using Nat.strongRecOn with
 | _ n ih =>
  rw [Lib.decDigits]
  by_cases h : n < 10
  ·rw [dif_pos h, cA h]
   simp only [List.map_cons, List.map_nil, UInt8.toNat_ofNat']
   congr 1
   omega
  ·rw [dif_neg h, List.map_append, ih (n / 10) (by omega), jU h, cA (n := n % 10) (by omega)]
   simp only [List.map_cons, List.map_nil, UInt8.toNat_ofNat']
   congr 2
   omega
theorem Fg (n : Int) : (Lib.itoa n).map UInt8.toNat = aQ n := by
 unfold Lib.itoa aQ
 split
 ·rw [List.map_cons, decDigits_eq]
  congr 2
  omega
 ·exact decDigits_eq _
theorem toNat_lt (l : List UInt8) : ∀ x ∈ l.map UInt8.toNat, x < 256 := by
 intro x hx
 obtain ⟨y, _, rfl⟩ := List.mem_map.1 hx
 exact y.toNat_lt
theorem yg (l : List UInt8) : gU (l.map UInt8.toNat) = ⟨l.toArray⟩ := by
 unfold gU
 rw [List.map_map]
 congr 2
 conv => rhs; rw [← List.map_id l]
 refine List.map_congr_left fun x _ => ?_
 exact UInt8.ofNat_toNat
theorem Lz (n : Int) : ∀ x ∈ aQ n, x < 256 := by rw [← Fg]; exact toNat_lt _
def KS : List aa := (List.range 20).map fun i => .int .u64 ((10 ^ i : Nat) : Int)
def xN : aG := .cells KS 0 false false
theorem AR {σ : aj} {k : IntKind} : ∀ {l : List Int} {m : List Value}, ao σ (l.map fun z => .int k z) m → m = l.map fun z => .int k z
 | [], m, h => h.cE
 | z :: l, m, h => by
  obtain ⟨v, m', rfl, h1, h2⟩ := h.cons_inv
  rw [AR h2, show v = .int k z from h1]; rfl
theorem Qi : Tryz.prog.globalNamed "internal/strconv.uint64pow10" = some 4 := by kernel_rfl
theorem KQ {σ : aj} {h : Heap} {w : World} (hr : Rel P σ h w) (hg : h.get 4 = some xN) (hgs : 4 < P.globals.size) : Lib.TabIs P w "internal/strconv.uint64pow10" .u64 Lib.pow10Tab := by
 obtain ⟨p, hp, hb, h0⟩ := hr.od 4 hgs
 obtain ⟨C, elem, fr, e1, e2, _, _, _, e3, _⟩ := hr.obj 4 xN p hg rfl hp
 obtain ⟨_, e3⟩ := e3 rfl
 rw [h0, List.drop_zero, List.take_of_length_le (by rw [Array.length_toList, e3]; exact Nat.le_refl _)] at e2
 unfold Lib.TabIs World.var?
 rw [show P.globalNamed "internal/strconv.uint64pow10" = some 4 from Qi]
 show (match w.heap[4]? with | some (.cells cs _ _) => some cs | _ => none) = _
 rw [← hb, e1]
 have e4 : C.toList = Lib.pow10Tab.map fun z => .int .u64 z := by
  refine AR (σ := σ) (k := .u64) ?_
  have : KS = Lib.pow10Tab.map fun z => aa.int .u64 z := by
   unfold KS Lib.pow10Tab
   rw [List.map_map]; rfl
  rw [← this]; exact e2
 show some C = some _
 rw [← e4]
/-! ## Join -/
def aJ : List (List Nat) → List Nat
 | [] => []
 | x :: r => x ++ (r.map (32 :: ·)).flatten
abbrev sB (x : List Nat) : List aa := [aY x]
theorem wC {l : List (List Nat)} (h : ∀ x ∈ l, ∀ b ∈ x, b < 256) : ∀ b ∈ aJ l, b < 256 := by
 cases l with
 | nil => intro b hb; cases hb
 | cons x r =>
  intro b hb
  rcases List.mem_append.1 hb with hb | hb
  ·exact h x (by simp) b hb
  ·obtain ⟨y, hy, hby⟩ := List.mem_flatten.1 hb
   obtain ⟨z, hz, rfl⟩ := List.mem_map.1 hy
   rcases List.mem_cons.1 hby with rfl | hby
   ·decide
   ·exact h z (by simp [hz]) b hby
theorem join_eq (l : List (List Nat)) : Lib.join ((l.map gU).map (·.data.toList)) [32] = (aJ l).map UInt8.ofNat := by
 cases l with
 | nil => rfl
 | cons x r =>
  rw [List.map_cons, List.map_cons, Lib.join_cons]
  unfold Lib.joinTail aJ
  rw [List.map_append, List.map_flatten, List.map_map, List.map_map, List.map_map]
  rfl
def oC (args : List aa) (h : Heap) (v : aa) : Prop := ∃ s l, args = [s, .str 1 32] ∧ l ≠ [] ∧ (∀ x ∈ l, ∀ b ∈ x, b < 256) ∧ (aJ l).length ≤ 1000000 ∧ l.length ≤ 1000000 ∧ (rd s 1 (l.map sB)).holds h ∧ v = aY (aJ l)
theorem KJ {h : Heap} {s : aa} {l m : List (List Nat)} (hl : ∀ x ∈ l, ∀ b ∈ x, b < 256) (hm : ∀ x ∈ m, ∀ b ∈ x, b < 256) (a : (rd s 1 (l.map sB)).holds h) (b : (rd s 1 (m.map sB)).holds h) : l = m := by
 have a := a.slice
 have b := b.slice
 have e : l.length = m.length := by
  have h1 := a.len
  have h2 := b.len
  rw [h1] at h2
  simpa using h2
 refine List.ext_getElem e fun i h1 h2 => ?_
 obtain ⟨k, off, cap, e1, r1⟩ := a.row i (sB l[i]) (by rw [List.getElem?_map, List.getElem?_eq_getElem h1]; rfl)
 obtain ⟨k2, off2, cap2, e2, r2⟩ := b.row i (sB m[i]) (by rw [List.getElem?_map, List.getElem?_eq_getElem h2]; rfl)
 rw [e1] at e2
 injection e2 with g1 g2 g3 g4
 subst g1 g2
 have q1 := r1.load
 have q2 := r2.load
 rw [show (sB m[i]).length = (sB l[i]).length from rfl, q1] at q2
 have q2 := Option.some.inj q2
 injection q2 with q2
 exact jD (hl _ (List.getElem_mem h1)) (hm _ (List.getElem_mem h2)) q2
theorem oC.eq {args : List aa} {h : Heap} {v v' : aa} (a : oC args h v) (b : oC args h v') : v = v' := by
 obtain ⟨s, l, e, _, h1, _, _, h2, rfl⟩ := a
 obtain ⟨s', l', e', _, h1', _, _, h2', rfl⟩ := b
 subst e
 injection e' with e'
 subst e'
 rw [KJ h1 h1' h2 h2']
theorem DW {args : List aa} {h : Heap} {v : aa} (a : oC args h v) {σ : aj} {w : World} {vs : List Value} (hr : Rel P σ h w) (hv : ao σ args vs) : Calls P 137 ⟨vs⟩ w fun e w' => Step P σ h w σ h w' ∧ si σ (.ret v) e := by
 obtain ⟨s, l, rfl, hne, hb, hlen, hll, hrd, rfl⟩ := a
 obtain ⟨v1, m, rfl, g1, hv⟩ := hv.cons_inv
 obtain ⟨v2, m, rfl, g2, hv⟩ := hv.cons_inv
 have := hv.cE
 subst this
 have g2 : v2 = .string (gU [32]) := qM (l := [32]) (by simp) g2
 subst g2
 have h0 : 0 < l.length := List.length_pos_iff.2 hne
 have row := hrd.slice.row
 rw [List.length_map] at row
 obtain ⟨k, off, cap, rfl, _⟩ := row 0 (sB l[0]) (by rw [List.getElem?_map, List.getElem?_eq_getElem h0]; rfl)
 obtain ⟨p, c, hp, rfl, hc, _⟩ := g1
 have hcell : ∀ (j : Nat) (x : ByteArray), (l.map gU)[j]? = some x → w.cell? ⟨p.bN, p.base + off + j, none⟩ = some (.string x) := by
  intro j x hx
  rw [List.getElem?_map] at hx
  cases hj : l[j]? with
  | none => rw [hj] at hx; cases hx
  | some y =>
   rw [hj] at hx
   cases hx
   obtain ⟨k', off', cap', e, hrow⟩ := row j (sB y) (by rw [List.getElem?_map, hj]; rfl)
   injection e with e1 e2
   subst e1 e2
   obtain ⟨u, hu, hvu, _⟩ := p3 hr hp (hrow.nth (j := 0) rfl)
   have hy : y ∈ l := List.mem_of_getElem? hj
   rw [qM (hb y hy) hvu] at hu
   rw [← hu]
   congr 2
   show p.base + off + j = p.base + (off + j * 1 + 0)
   omega
 have hjl : (Lib.join ((l.map gU).map (·.data.toList)) (gU [32]).data.toList) = (aJ l).map UInt8.ofNat := join_eq l
 have hc' := Tryz.strings_Join p.bN (p.base + off) c (l.map gU) (gU [32]) w hcell (hr.o7 k p hp) (by rw [List.length_map]; omega) (by rw [List.length_map]; exact hc) (by rw [hjl, List.length_map]; omega)
 rw [List.length_map] at hc'
 refine hc'.mono fun e w' ⟨he, hw⟩ => ⟨iy hr hw, ?_⟩
 refine ⟨_, he, ?_⟩
 have := zx (σ := σ) (wC hb)
 rw [hjl]
 exact this
theorem DX {n : Int} (h1 : -9223372036854775808 ≤ n) (h2 : n ≤ 9223372036854775807) {h : Heap} {σ : aj} {w : World} {vs : List Value} (hr : Rel P σ h w) (hg : h.get 4 = some xN) (hgs : 4 < P.globals.size) (hv : ao σ [.int .i64 n] vs) : Calls P 70 ⟨vs⟩ w fun e w' => Step P σ h w σ h w' ∧ si σ (.ret (aY (aQ n))) e := by
 obtain ⟨v1, m, rfl, g1, hv⟩ := hv.cons_inv
 have := hv.cE
 subst this
 have g1 : v1 = .int .i64 n := g1
 subst g1
 refine (Tryz.strconv_Itoa n h1 h2 w (KQ hr hg hgs)).mono fun e w' ⟨he, k, os, hw⟩ => ⟨iy hr (by rw [hw]; exact Ew w k os), ?_⟩
 refine ⟨_, he, ?_⟩
 rw [← Fg, ← yg]
 exact zx (toNat_lt _)
structure KL (base : List (Nat × aG)) (K : ah) : Prop where
 itoa : ∀ h n, (lies base).holds h → -4294967296 < n → n < 4294967296 → K 70 [.int .i64 n] h = some (.ret (aY (aQ n)), h)
 join : ∀ h s l, l ≠ [] → (∀ x ∈ l, ∀ b ∈ x, b < 256) → (aJ l).length ≤ 1000000 → l.length ≤ 1000000 → (rd s 1 (l.map sB)).holds h → K 137 [s, .str 1 32] h = some (.ret (aY (aJ l)), h)
end Ev
end
end Go.HL
