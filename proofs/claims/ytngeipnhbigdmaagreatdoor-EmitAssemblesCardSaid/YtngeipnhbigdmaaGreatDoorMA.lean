/- Words of code, numbers, names; the types that the walks meet. No statement of the seat stands here. -/
import Derived.Test.YtngeipnhbigdmaaGreatDoorXC
import Derived.Test.YtngeipnhbigdmaaGreatDoorProg
import Derived.KernelRfl
set_option linter.unusedVariables false
set_option linter.unusedSimpArgs false
namespace Go.HL.Em
structure bI where
 kind : Int
 op : Int
 d : Int
 a : Int
 b : Int
 cL : Int
 to : Int
 join : Int
deriving DecidableEq
structure bg where
 name : List Nat
 params : List (List Nat × Bool)
 shared : List (List Nat × Nat)
 «local» : Nat
 ay : List bI
deriving DecidableEq
/-! ## Readers -/
abbrev S := List Nat × Bool
def andThen {α β : Type} (f : S → α × S) (g : α → S → β × S) : S → β × S := fun s => g (f s).1 (f s).2
def Reads {α : Type} (f : S → α × S) (w : List Nat) (a : α) : Prop := ∀ t, f (w ++ t, false) = (a, (t, false))
theorem Reads.andThen {α β : Type} {f : S → α × S} {g : α → S → β × S} {w w' : List Nat} {a : α} {b : β} (h : Reads f w a) (k : Reads (g a) w' b) : Reads (andThen f g) (w ++ w') b := fun t => by
 unfold Em.andThen
 rw [List.append_assoc, h (w' ++ t)]
 exact k t
def Good (rd : Nat → S → Nat × S) : Prop := ∀ bX w t, w ≤ bX → rd bX (w :: t, false) = (w, (t, false))
/-! ## Names -/
def bytesOf : Nat → Nat → List Nat
 | 0, _ => []
 | m + 1, w => w % 256 :: bytesOf m (w / 256)
def jG (b : List Nat) : Prop := b.length ≤ 16 ∧ ∀ x ∈ b, x < 256
/-! ## Lists -/
/-! ## Code -/
def signed (n : Nat) : Int := if n < 2147483648 then (n : Int) else (n : Int) - 4294967296
structure nG (x : bI) : Prop where
 kind : 0 ≤ x.kind ∧ x.kind < 256
 op : 0 ≤ x.op ∧ x.op < 256
 d : 0 ≤ x.d ∧ x.d < 256
 a : 0 ≤ x.a ∧ x.a < 256
 b : 0 ≤ x.b ∧ x.b < 256
 cL : -2147483648 ≤ x.cL ∧ x.cL ≤ 2147483647
 to : 0 ≤ x.to ∧ x.to ≤ 2000
 join : 0 ≤ x.join ∧ x.join ≤ 2000
structure w9 (c : bg) : Prop where
 name : jG c.name
 params : c.params.length ≤ 6
 eW : ∀ p ∈ c.params, jG p.1
 shared : c.shared.length ≤ 4
 dX : ∀ p ∈ c.shared, jG p.1 ∧ p.2 ≤ 64
 «local» : c.local ≤ 64
 ay : c.ay.length ≤ 2000
 each : ∀ x ∈ c.ay, nG x
end Go.HL.Em
namespace Go.HL.Em
variable {V : bg → Bool} {l : List Nat} {c : bg}
end Go.HL.Em
namespace Go.HL
open Go
noncomputable section
namespace Em
noncomputable abbrev P : Program := Go.Proofs.Tryz.prog
noncomputable def ax : iF := [(3, .int .i64, 1), (4, .bool, 1), (5, .int .u8, 1), (9, .str, 1), (21, .int .i32, 1), (22, .slice 70, 1), (23, .slice 72, 1), (24, .slice 74, 1), (26, .struct [(0, 9), (1, 22), (2, 23), (3, 3), (4, 24)], 5), (29, .slice 42, 1), (30, .int .i64, 1), (42, .int .u32, 1), (56, .slice 21, 1), (70, .struct [(0, 9), (1, 4)], 2), (72, .struct [(0, 9), (1, 3)], 2), (74, .struct [(0, 3), (1, 3), (2, 3), (3, 3), (4, 3), (5, 21), (6, 3), (7, 3)], 8), (80, .struct [(0, 4), (1, 4), (2, 4), (3, 4), (4, 4), (5, 4), (6, 4), (7, 4), (8, 4), (9, 4), (10, 4), (11, 3)], 12), (81, .array 16 80, 192), (92, .struct [(0, 29), (1, 4)], 2), (95, .struct [(0, 29), (1, 3), (2, 4)], 3), (100, .slice 9, 1), (109, .slice 3, 1), (140, .slice 5, 1), (150, .map 9 4, 1), (196, .int .u64, 1), (225, .int .u64, 1)]
theorem hT : bH P ax = true := by kernel_rfl
theorem z3 : ah P 3 = some [.int .i64 0] := by kernel_rfl
theorem z4 : ah P 4 = some [.bool false] := by kernel_rfl
theorem z5 : ah P 5 = some [.int .u8 0] := by kernel_rfl
theorem z9 : ah P 9 = some [.str 0 0] := by kernel_rfl
theorem b9 : P.bytesOf 9 = 16 := by kernel_rfl
theorem z21 : ah P 21 = some [.int .i32 0] := by kernel_rfl
theorem N5 : ah P 22 = some [.aD] := by kernel_rfl
theorem N3 : ah P 23 = some [.aD] := by kernel_rfl
theorem z24 : ah P 24 = some [.aD] := by kernel_rfl
theorem MX : ah P 26 = some [.str 0 0, .aD, .aD, .int .i64 0, .aD] := by kernel_rfl
theorem MW : ah P 29 = some [.aD] := by kernel_rfl
theorem MV : ah P 30 = some [.int .i64 0] := by kernel_rfl
theorem MS : ah P 42 = some [.int .u32 0] := by kernel_rfl
theorem z56 : ah P 56 = some [.aD] := by kernel_rfl
theorem z70 : ah P 70 = some [.str 0 0, .bool false] := by kernel_rfl
theorem z72 : ah P 72 = some [.str 0 0, .int .i64 0] := by kernel_rfl
theorem MR : ah P 74 = some [.int .i64 0, .int .i64 0, .int .i64 0, .int .i64 0, .int .i64 0, .int .i32 0, .int .i64 0, .int .i64 0] := by kernel_rfl
theorem z80 : ah P 80 = some [.bool false, .bool false, .bool false, .bool false, .bool false, .bool false, .bool false, .bool false, .bool false, .bool false, .bool false, .int .i64 0] := by kernel_rfl
theorem z92 : ah P 92 = some [.aD, .bool false] := by kernel_rfl
theorem z95 : ah P 95 = some [.aD, .int .i64 0, .bool false] := by kernel_rfl
theorem JY : ah P 100 = some [.aD] := by kernel_rfl
theorem z109 : ah P 109 = some [.aD] := by kernel_rfl
theorem JX : ah P 140 = some [.aD] := by kernel_rfl
theorem z196 : ah P 196 = some [.int .u64 0] := by kernel_rfl
theorem N4 : ah P 225 = some [.int .u64 0] := by kernel_rfl
noncomputable def Lb : List ad := fO 16 [.bool false, .bool false, .bool false, .bool false, .bool false, .bool false, .bool false, .bool false, .bool false, .bool false, .bool false, .int .i64 0]
theorem z81 : ah P 81 = some Lb := by kernel_rfl
noncomputable def zl : List (Nat × List ad) := [(3, [.int .i64 0]), (4, [.bool false]), (5, [.int .u8 0]), (9, [.str 0 0]), (21, [.int .i32 0]), (22, [.aD]), (23, [.aD]), (24, [.aD]), (26, [.str 0 0, .aD, .aD, .int .i64 0, .aD]), (29, [.aD]), (30, [.int .i64 0]), (42, [.int .u32 0]), (56, [.aD]), (70, [.str 0 0, .bool false]), (72, [.str 0 0, .int .i64 0]), (74, [.int .i64 0, .int .i64 0, .int .i64 0, .int .i64 0, .int .i64 0, .int .i32 0, .int .i64 0, .int .i64 0]), (80, [.bool false, .bool false, .bool false, .bool false, .bool false, .bool false, .bool false, .bool false, .bool false, .bool false, .bool false, .int .i64 0]), (92, [.aD, .bool false]), (95, [.aD, .int .i64 0, .bool false]), (100, [.aD]), (109, [.aD]), (140, [.aD]), (196, [.int .u64 0]), (225, [.int .u64 0]), (81, Lb)]
theorem hX : TK P ax zl := ⟨hT, z3, z4, z5, z9, z21, N5, N3, z24, MX, MW, MV, MS, z56, z70, z72, MR, z80, z92, z95, JY, z109, JX, z196, N4, z81, trivial⟩
theorem Mx : ar P 13 := ⟨_, _, Go.Proofs.Tryz.func13, rfl, by kernel_rfl, rfl⟩
theorem Mu : ar P 14 := ⟨_, _, Go.Proofs.Tryz.func14, rfl, by kernel_rfl, rfl⟩
theorem Ml : ar P 18 := ⟨_, _, Go.Proofs.Tryz.func18, rfl, by kernel_rfl, rfl⟩
theorem NS : ar P 34 := ⟨_, _, Go.Proofs.Tryz.func34, rfl, by kernel_rfl, rfl⟩
theorem NR : ar P 35 := ⟨_, _, Go.Proofs.Tryz.func35, rfl, by kernel_rfl, rfl⟩
theorem NQ : ar P 36 := ⟨_, _, Go.Proofs.Tryz.func36, rfl, by kernel_rfl, rfl⟩
theorem NP : ar P 37 := ⟨_, _, Go.Proofs.Tryz.func37, rfl, by kernel_rfl, rfl⟩
theorem NO : ar P 38 := ⟨_, _, Go.Proofs.Tryz.func38, rfl, by kernel_rfl, rfl⟩
theorem KS : ar P 39 := ⟨_, _, Go.Proofs.Tryz.func39, rfl, by kernel_rfl, rfl⟩
theorem NN : ar P 40 := ⟨_, _, Go.Proofs.Tryz.func40, rfl, by kernel_rfl, rfl⟩
theorem NM : ar P 41 := ⟨_, _, Go.Proofs.Tryz.func41, rfl, by kernel_rfl, rfl⟩
theorem NL : ar P 42 := ⟨_, _, Go.Proofs.Tryz.func42, rfl, by kernel_rfl, rfl⟩
theorem NK : ar P 46 := ⟨_, _, Go.Proofs.Tryz.func46, rfl, by kernel_rfl, rfl⟩
theorem NJ : ar P 47 := ⟨_, _, Go.Proofs.Tryz.func47, rfl, by kernel_rfl, rfl⟩
theorem KO : ar P 78 := ⟨_, _, Go.Proofs.Tryz.func78, rfl, by kernel_rfl, rfl⟩
theorem ND : ar P 79 := ⟨_, _, Go.Proofs.Tryz.func79, rfl, by kernel_rfl, rfl⟩
theorem FL : ar P 80 := ⟨_, _, Go.Proofs.Tryz.func80, rfl, by kernel_rfl, rfl⟩
theorem NB : ar P 81 := ⟨_, _, Go.Proofs.Tryz.func81, rfl, by kernel_rfl, rfl⟩
theorem NA : ar P 82 := ⟨_, _, Go.Proofs.Tryz.func82, rfl, by kernel_rfl, rfl⟩
theorem Ma : ar P 83 := ⟨_, _, Go.Proofs.Tryz.func83, rfl, by kernel_rfl, rfl⟩
theorem Jb : ar P 84 := ⟨_, _, Go.Proofs.Tryz.func84, rfl, by kernel_rfl, rfl⟩
theorem KM : ar P 85 := ⟨_, _, Go.Proofs.Tryz.func85, rfl, by kernel_rfl, rfl⟩
theorem JO : ar P 148 := ⟨_, _, Go.Proofs.Tryz.func148, rfl, by kernel_rfl, rfl⟩
theorem Mr : ar P 149 := ⟨_, _, Go.Proofs.Tryz.func149, rfl, by kernel_rfl, rfl⟩
theorem Mq : ar P 150 := ⟨_, _, Go.Proofs.Tryz.func150, rfl, by kernel_rfl, rfl⟩
theorem Mo : ar P 152 := ⟨_, _, Go.Proofs.Tryz.func152, rfl, by kernel_rfl, rfl⟩
theorem HS : ar P 153 := ⟨_, _, Go.Proofs.Tryz.func153, rfl, by kernel_rfl, rfl⟩
theorem JN : ar P 154 := ⟨_, _, Go.Proofs.Tryz.func154, rfl, by kernel_rfl, rfl⟩
theorem HU : ar P 146 := ⟨_, _, Go.Proofs.Tryz.func146, rfl, by kernel_rfl, rfl⟩
theorem HT : ar P 147 := ⟨_, _, Go.Proofs.Tryz.func147, rfl, by kernel_rfl, rfl⟩
theorem Mp : ar P 151 := ⟨_, _, Go.Proofs.Tryz.func151, rfl, by kernel_rfl, rfl⟩
theorem Mk : ar P 241 := ⟨_, _, Go.Proofs.Tryz.func241, rfl, by kernel_rfl, rfl⟩
theorem Mj : ar P 242 := ⟨_, _, Go.Proofs.Tryz.func242, rfl, by kernel_rfl, rfl⟩
theorem Mi : ar P 243 := ⟨_, _, Go.Proofs.Tryz.func243, rfl, by kernel_rfl, rfl⟩
theorem Mh : ar P 244 := ⟨_, _, Go.Proofs.Tryz.func244, rfl, by kernel_rfl, rfl⟩
theorem JK : ar P 310 := ⟨_, _, Go.Proofs.Tryz.func310, rfl, by kernel_rfl, rfl⟩
theorem Mf : ar P 312 := ⟨_, _, Go.Proofs.Tryz.func312, rfl, by kernel_rfl, rfl⟩
theorem Me : ar P 314 := ⟨_, _, Go.Proofs.Tryz.func314, rfl, by kernel_rfl, rfl⟩
theorem J {K : ai} {E : eT} {ops : Array Oper} {o : Oper} {l : List Oper} {L : SL} {B B' : List cj} {G : List Part} {m n : Nat} {R : SL → List cj → List Part → Prop} {sv : SV} (he : u0 P ax zl ops o L B n = some (sv, B')) (hr : w4 P K E ops l (bf o.dst sv L) B' G m n R) : w4 P K E ops (o :: l) L B G m n R := .cons (q hX he hr)
end Em
end
end Go.HL
namespace Go.HL
open Go
noncomputable section
namespace Em
def fM : List (Nat × Nat) := [(4, 1718972003), (6, 118083455706476), (6, 108256368682354), (3, 6909556), (6, 126892148680036), (3, 7103860), (2, 26982), (4, 1701606245), (5, 512852847717), (5, 422826041707), (8, 7165066978433856869), (6, 125780071117422), (7, 27691691891320178), (6, 107152713541987), (7, 27988534160089972), (3, 7629156), (3, 6449508), (3, 6580589), (4, 1735551332), (3, 7170414), (3, 7168376), (3, 6382692), (3, 6385252), (2, 28530), (3, 7892850)]
def tO : aE := .map (fM.zipIdx.map fun p => ⟨kn p.1, .bool true, p.2⟩) 25 true
def Nr (f : Nat) : Bool := Nat.beq f 149 || (Nat.beq f 70 || (Nat.beq f 137 || (Nat.beq f 48 || (Nat.beq f 90 || (Nat.beq f 91 || Nat.beq f 162)))))
structure KN (base : List (Nat × aE)) (K : ai) : Prop where
 none : ∀ f, Nat.beq f 8 = false → Nr f = false → ∀ a h, K f a h = none
 words : ∀ h, (lies base).holds h → K 149 [] h = some (.ret (.map h.next), h.new tO)
 Mz : ∀ h, (lies base).holds h → K 8 [] h = some (.ret (.bool true), h)
def Lc (n : Nat) : List ad := [.int .u32 (n : Int)]
def words (v : ad) (l : List Nat) : Part := IV v 1 (l.map Lc)
end Em
end
end Go.HL
namespace Go.HL
open Go Go.Proofs
namespace Em
set_option maxRecDepth 10000
variable {K : ai} {base : List (Nat × aE)}
end Em
end Go.HL
namespace Go.HL
open Go Go.Proofs
namespace Em
set_option maxRecDepth 10000
variable {K : ai} {base : List (Nat × aE)}
abbrev i64 (n : Nat) : ad := .int .i64 (n : Int)
abbrev u32 (n : Nat) : ad := .int .u32 (n : Int)
abbrev aR (l : List Nat) : ad := .str l.length (aO l 0)
end Em
end Go.HL
namespace Go.HL
open Go Go.Proofs
namespace Em
set_option maxRecDepth 10000
variable {K : ai} {base : List (Nat × aE)}
abbrev sq (p : List Nat × Bool) : List ad := [aR p.1, .bool p.2]
abbrev Bf (p : List Nat × Nat) : List ad := [aR p.1, i64 p.2]
abbrev ez (x : bI) : List ad := [.int .i64 x.kind, .int .i64 x.op, .int .i64 x.d, .int .i64 x.a, .int .i64 x.b, .int .i32 x.cL, .int .i64 x.to, .int .i64 x.join]
abbrev JW : List ad := [.str 0 0, .aD, .aD, .int .i64 0, .aD]
abbrev xH (c : bg) (pv sv iv : ad) : ad := .agg [aR c.name, pv, sv, i64 c.local, iv]
def og (c : bg) (pv sv iv : ad) : List Part := [aH 70 2 pv (c.params.map sq), aH 72 2 sv (c.shared.map Bf), aH 74 8 iv (c.ay.map ez)]
end Em
end Go.HL
namespace Go.HL
open Go Go.Proofs
namespace Em
set_option maxRecDepth 10000
variable {K : ai} {base : List (Nat × aE)}
def eL (c : Int) : Bool := decide (97 ≤ c ∧ c ≤ 122 ∨ 65 ≤ c ∧ c ≤ 90)
def iC (c : Int) : Bool := decide (48 ≤ c ∧ c ≤ 57)
def gI (c : Int) : Bool := eL c || iC c || decide (c = 95)
theorem uX (hK : KN base K) (c : Int) (h : Heap) (w : Wf h) : Sp P K 148 [.int .u8 c] h (dE (.bool (eL c)) h) := by
 refine Sp.start (m := 5) (n := 17) w (hK.none 148 rfl rfl _ _) Tryz.func148 rfl rfl (by kernel_rfl) rfl rfl ?_
 repeat' (first | refine aw.a_ ?_ | refine ag.s_ ?_ | (refine X 0 ?_; (refine J Z ?_) <;> (refine Y Z ?_)) | (refine X 1 ?_; (refine J Z ?_) <;> ((refine .cons (qc Z ?_ ?_)) <;> intro _) <;> (iterate 2 refine J Z ?_) <;> (first | (refine J Z ?_) | (refine .cons (qc Z ?_ ?_)) <;> intro _) <;> (iterate 3 refine J Z ?_) <;> (first | (refine J Z ?_) | (refine .cons (qc Z ?_ ?_)) <;> intro _) <;> (iterate 2 refine J Z ?_) <;> (first | (refine J Z ?_) | (refine .cons (qc Z ?_ ?_)) <;> intro _) <;> (iterate 3 refine J Z ?_) <;> (refine Y Z ?_)) | refine ag.r_ ?_ | refine aw.r_ hX rfl ?_)
 all_goals (intro h f; refine ⟨?_, f.aS⟩; clear f; first | (simp_all [aP, eL]; done) | (simp_all [aP, eL]; omega) | (simp_all [aP, eL]; intros; exfalso; omega) | (simp_all [aP, eL]; split <;> intros <;> first | omega | (exfalso; omega) | simp_all))
theorem Fz (hK : KN base K) (c : Int) (h : Heap) (w : Wf h) : Sp P K 241 [.int .u8 c] h (dE (.bool (iC c)) h) := by
 refine Sp.start (m := 5) (n := 9) w (hK.none 241 rfl rfl _ _) Tryz.func241 rfl rfl (by kernel_rfl) rfl rfl ?_
 repeat' (first | refine aw.a_ ?_ | refine ag.s_ ?_ | (refine X 0 ?_; (refine J Z ?_) <;> (refine Y Z ?_)) | (refine X 1 ?_; (refine J Z ?_) <;> ((refine .cons (qc Z ?_ ?_)) <;> intro _) <;> (iterate 2 refine J Z ?_) <;> (first | (refine J Z ?_) | (refine .cons (qc Z ?_ ?_)) <;> intro _) <;> (iterate 2 refine J Z ?_) <;> (refine Y Z ?_)) | refine ag.r_ ?_ | refine aw.r_ hX rfl ?_)
 all_goals (intro h f; refine ⟨?_, f.aS⟩; clear f; first | (simp_all [aP, iC]; done) | (simp_all [aP, iC]; omega) | (simp_all [aP, iC]; intros; exfalso; omega) | (simp_all [aP, iC]; split <;> intros <;> first | omega | (exfalso; omega) | simp_all))
theorem Fe (hK : KN base K) (c : Int) (h : Heap) (w : Wf h) : Sp P K 150 [.int .u8 c] h (dE (.bool (gI c)) h) := by
 refine Sp.start (m := 5) (n := 13) w (hK.none 150 rfl rfl _ _) Tryz.func150 rfl rfl (by kernel_rfl) rfl rfl ?_
 repeat' (first | refine aw.a_ ?_ | refine ag.s_ ?_ | (refine X 0 ?_; (refine J Z ?_) <;> (refine Y Z ?_)) | (refine X 1 ?_; (refine J Z ?_) <;> ((refine .cons (aV Z Z Z Z JO Z Z (fun h f => uX hK _ h f.wf) ?_ ?_)) <;> intro _) <;> (iterate 2 refine J Z ?_) <;> (first | (refine J Z ?_) | (refine .cons (aV Z Z Z Z Mk Z Z (fun h f => Fz hK _ h f.wf) ?_ ?_)) <;> intro _) <;> (iterate 3 refine J Z ?_) <;> (first | (refine J Z ?_) | (refine .cons (qc Z ?_ ?_)) <;> intro _) <;> (iterate 2 refine J Z ?_) <;> (refine Y Z ?_)) | refine ag.r_ ?_ | refine aw.r_ hX rfl ?_)
 all_goals (intro h f; refine ⟨?_, f.aS⟩; clear f; first | (simp_all [aP, gI]; done) | (simp_all [aP, gI]; omega) | (simp_all [aP, gI]; intros; exfalso; omega) | (simp_all [aP, gI]; split <;> intros <;> first | omega | (exfalso; omega) | simp_all))
theorem sD (hK : KN base K) (c : Int) (h : Heap) (w : Wf h) : Sp P K 310 [.int .u8 c] h (dE (.bool (eL c)) h) := by
 refine Sp.start (m := 5) (n := 17) w (hK.none 310 rfl rfl _ _) Tryz.func310 rfl rfl (by kernel_rfl) rfl rfl ?_
 repeat' (first | refine aw.a_ ?_ | refine ag.s_ ?_ | (refine X 0 ?_; (refine J Z ?_) <;> (refine Y Z ?_)) | (refine X 1 ?_; (refine J Z ?_) <;> ((refine .cons (qc Z ?_ ?_)) <;> intro _) <;> (iterate 2 refine J Z ?_) <;> (first | (refine J Z ?_) | (refine .cons (qc Z ?_ ?_)) <;> intro _) <;> (iterate 3 refine J Z ?_) <;> (first | (refine J Z ?_) | (refine .cons (qc Z ?_ ?_)) <;> intro _) <;> (iterate 2 refine J Z ?_) <;> (first | (refine J Z ?_) | (refine .cons (qc Z ?_ ?_)) <;> intro _) <;> (iterate 3 refine J Z ?_) <;> (refine Y Z ?_)) | refine ag.r_ ?_ | refine aw.r_ hX rfl ?_)
 all_goals (intro h f; refine ⟨?_, f.aS⟩; clear f; first | (simp_all [aP, eL]; done) | (simp_all [aP, eL]; omega) | (simp_all [aP, eL]; intros; exfalso; omega) | (simp_all [aP, eL]; split <;> intros <;> first | omega | (exfalso; omega) | simp_all))
theorem CH (hK : KN base K) (c : Int) (h : Heap) (w : Wf h) : Sp P K 312 [.int .u8 c] h (dE (.bool (iC c)) h) := by
 refine Sp.start (m := 5) (n := 9) w (hK.none 312 rfl rfl _ _) Tryz.func312 rfl rfl (by kernel_rfl) rfl rfl ?_
 repeat' (first | refine aw.a_ ?_ | refine ag.s_ ?_ | (refine X 0 ?_; (refine J Z ?_) <;> (refine Y Z ?_)) | (refine X 1 ?_; (refine J Z ?_) <;> ((refine .cons (qc Z ?_ ?_)) <;> intro _) <;> (iterate 2 refine J Z ?_) <;> (first | (refine J Z ?_) | (refine .cons (qc Z ?_ ?_)) <;> intro _) <;> (iterate 2 refine J Z ?_) <;> (refine Y Z ?_)) | refine ag.r_ ?_ | refine aw.r_ hX rfl ?_)
 all_goals (intro h f; refine ⟨?_, f.aS⟩; clear f; first | (simp_all [aP, iC]; done) | (simp_all [aP, iC]; omega) | (simp_all [aP, iC]; intros; exfalso; omega) | (simp_all [aP, iC]; split <;> intros <;> first | omega | (exfalso; omega) | simp_all))
theorem Cs (hK : KN base K) (c : Int) (h : Heap) (w : Wf h) : Sp P K 314 [.int .u8 c] h (dE (.bool (gI c)) h) := by
 refine Sp.start (m := 5) (n := 13) w (hK.none 314 rfl rfl _ _) Tryz.func314 rfl rfl (by kernel_rfl) rfl rfl ?_
 repeat' (first | refine aw.a_ ?_ | refine ag.s_ ?_ | (refine X 0 ?_; (refine J Z ?_) <;> (refine Y Z ?_)) | (refine X 1 ?_; (refine J Z ?_) <;> ((refine .cons (aV Z Z Z Z JK Z Z (fun h f => sD hK _ h f.wf) ?_ ?_)) <;> intro _) <;> (iterate 2 refine J Z ?_) <;> (first | (refine J Z ?_) | (refine .cons (aV Z Z Z Z Mf Z Z (fun h f => CH hK _ h f.wf) ?_ ?_)) <;> intro _) <;> (iterate 3 refine J Z ?_) <;> (first | (refine J Z ?_) | (refine .cons (qc Z ?_ ?_)) <;> intro _) <;> (iterate 2 refine J Z ?_) <;> (refine Y Z ?_)) | refine ag.r_ ?_ | refine aw.r_ hX rfl ?_)
 all_goals (intro h f; refine ⟨?_, f.aS⟩; clear f; first | (simp_all [aP, gI]; done) | (simp_all [aP, gI]; omega) | (simp_all [aP, gI]; intros; exfalso; omega) | (simp_all [aP, gI]; split <;> intros <;> first | omega | (exfalso; omega) | simp_all))
def jk (op : Int) : Int × Bool := if op = 0 ∨ op = 6 ∨ op = 7 then (0, true) else if op = 18 then (2147483647, true) else if op = 19 then (-2147483648, true) else if op = 5 then (-1, true) else (0, false)
def cY (op : Int) : Bool := (jk op).2
theorem A0 (hK : KN base K) (op : Int) (h : Heap) (w : Wf h) : Sp P K 151 [.int .i64 op] h (dE (.tuple [.int .i32 (jk op).1, .bool (jk op).2]) h) := by
 refine Sp.start (m := 10813) (n := 15) w (hK.none 151 rfl rfl _ _) Tryz.func151 rfl rfl (by kernel_rfl) rfl rfl ?_
 repeat' (first | refine aw.a_ ?_ | refine ag.s_ ?_ | (refine X 0 ?_; (iterate 2 refine J Z ?_) <;> (refine Y Z ?_)) | (refine X 1 ?_; (refine J Z ?_) <;> (refine Y Z ?_)) | (refine X 2 ?_; ((refine .cons (qc Z ?_ ?_)) <;> intro _) <;> (refine J Z ?_) <;> (refine Y Z ?_)) | (refine X 3 ?_; ((refine .cons (qc Z ?_ ?_)) <;> intro _) <;> (refine J Z ?_) <;> (refine Y Z ?_)) | (refine X 4 ?_; ((refine .cons (qc Z ?_ ?_)) <;> intro _) <;> (refine J Z ?_) <;> (refine Y Z ?_)) | (refine X 5 ?_; (iterate 2 refine J Z ?_) <;> (refine Y Z ?_)) | (refine X 6 ?_; ((refine .cons (qc Z ?_ ?_)) <;> intro _) <;> (refine J Z ?_) <;> (refine Y Z ?_)) | (refine X 7 ?_; (iterate 2 refine J Z ?_) <;> (refine Y Z ?_)) | (refine X 8 ?_; ((refine .cons (qc Z ?_ ?_)) <;> intro _) <;> (refine J Z ?_) <;> (refine Y Z ?_)) | (refine X 9 ?_; (iterate 2 refine J Z ?_) <;> (refine Y Z ?_)) | (refine X 10 ?_; ((refine .cons (qc Z ?_ ?_)) <;> intro _) <;> (refine J Z ?_) <;> (refine Y Z ?_)) | (refine X 11 ?_; (iterate 2 refine J Z ?_) <;> (refine Y Z ?_)) | (refine X 12 ?_; (iterate 2 refine J Z ?_) <;> (refine Y Z ?_)) | refine ag.r_ ?_ | refine aw.d_ ?_ | refine aw.f_ ?_ | refine ag.t_ rfl ?_ | refine ag.f_ rfl ?_ | refine ag.k_ ?_ | refine ag.b_ ?_ | refine aw.b_ ?_ | refine aw.r_ hX rfl ?_)
 all_goals (intro h f; refine ⟨?_, f.aS⟩; clear f; first | (simp_all [aP, jk]; done) | (simp_all [aP, jk]; omega) | (simp_all [aP, jk]; intros; exfalso; omega) | (simp_all [aP, jk]; split <;> intros <;> first | omega | (exfalso; omega) | simp_all))
theorem yz (hK : KN base K) (op : Int) (h : Heap) (w : Wf h) : Sp P K 244 [.int .i64 op] h (dE (.tuple [.int .i32 (jk op).1, .bool (jk op).2]) h) := by
 refine Sp.start (m := 10813) (n := 15) w (hK.none 244 rfl rfl _ _) Tryz.func244 rfl rfl (by kernel_rfl) rfl rfl ?_
 repeat' (first | refine aw.a_ ?_ | refine ag.s_ ?_ | (refine X 0 ?_; (iterate 2 refine J Z ?_) <;> (refine Y Z ?_)) | (refine X 1 ?_; (refine J Z ?_) <;> (refine Y Z ?_)) | (refine X 2 ?_; ((refine .cons (qc Z ?_ ?_)) <;> intro _) <;> (refine J Z ?_) <;> (refine Y Z ?_)) | (refine X 3 ?_; ((refine .cons (qc Z ?_ ?_)) <;> intro _) <;> (refine J Z ?_) <;> (refine Y Z ?_)) | (refine X 4 ?_; ((refine .cons (qc Z ?_ ?_)) <;> intro _) <;> (refine J Z ?_) <;> (refine Y Z ?_)) | (refine X 5 ?_; (iterate 2 refine J Z ?_) <;> (refine Y Z ?_)) | (refine X 6 ?_; ((refine .cons (qc Z ?_ ?_)) <;> intro _) <;> (refine J Z ?_) <;> (refine Y Z ?_)) | (refine X 7 ?_; (iterate 2 refine J Z ?_) <;> (refine Y Z ?_)) | (refine X 8 ?_; ((refine .cons (qc Z ?_ ?_)) <;> intro _) <;> (refine J Z ?_) <;> (refine Y Z ?_)) | (refine X 9 ?_; (iterate 2 refine J Z ?_) <;> (refine Y Z ?_)) | (refine X 10 ?_; ((refine .cons (qc Z ?_ ?_)) <;> intro _) <;> (refine J Z ?_) <;> (refine Y Z ?_)) | (refine X 11 ?_; (iterate 2 refine J Z ?_) <;> (refine Y Z ?_)) | (refine X 12 ?_; (iterate 2 refine J Z ?_) <;> (refine Y Z ?_)) | refine ag.r_ ?_ | refine aw.d_ ?_ | refine aw.f_ ?_ | refine ag.t_ rfl ?_ | refine ag.f_ rfl ?_ | refine ag.k_ ?_ | refine ag.b_ ?_ | refine aw.b_ ?_ | refine aw.r_ hX rfl ?_)
 all_goals (intro h f; refine ⟨?_, f.aS⟩; clear f; first | (simp_all [aP, jk]; done) | (simp_all [aP, jk]; omega) | (simp_all [aP, jk]; intros; exfalso; omega) | (simp_all [aP, jk]; split <;> intros <;> first | omega | (exfalso; omega) | simp_all))
theorem o6 (hK : KN base K) (op : Int) (h : Heap) (w : Wf h) : Sp P K 79 [.int .i64 op] h (dE (.bool (cY op)) h) := by
 refine Sp.start (m := 21) (n := 11) w (hK.none 79 rfl rfl _ _) Tryz.func79 rfl rfl (by kernel_rfl) rfl rfl ?_
 repeat' (first | refine aw.a_ ?_ | refine ag.s_ ?_ | (refine X 0 ?_; (refine J Z ?_) <;> (refine Y Z ?_)) | (refine X 1 ?_; (refine J Z ?_) <;> (refine .cons (ao Z Z Z Z Mp Z Z (fun h f => A0 hK _ h f.wf) ?_)) <;> (iterate 5 refine J Z ?_) <;> (refine Y Z ?_)) | (refine X 2 ?_; (iterate 2 refine J Z ?_) <;> (refine Y Z ?_)) | refine ag.r_ ?_ | refine aw.r_ hX rfl ?_)
 all_goals (intro h f; refine ⟨?_, f.aS⟩; clear f; first | (simp_all [aP, cY]; done) | (simp_all [aP, cY]; omega) | (simp_all [aP, cY]; intros; exfalso; omega) | (simp_all [aP, cY]; split <;> intros <;> first | omega | (exfalso; omega) | simp_all))
theorem vk (hK : KN base K) (op : Int) (h : Heap) (w : Wf h) : Sp P K 154 [.int .i64 op] h (dE (.bool (cY op)) h) := by
 refine Sp.start (m := 21) (n := 11) w (hK.none 154 rfl rfl _ _) Tryz.func154 rfl rfl (by kernel_rfl) rfl rfl ?_
 repeat' (first | refine aw.a_ ?_ | refine ag.s_ ?_ | (refine X 0 ?_; (refine J Z ?_) <;> (refine Y Z ?_)) | (refine X 1 ?_; (refine J Z ?_) <;> (refine .cons (ao Z Z Z Z Mh Z Z (fun h f => yz hK _ h f.wf) ?_)) <;> (iterate 5 refine J Z ?_) <;> (refine Y Z ?_)) | (refine X 2 ?_; (iterate 2 refine J Z ?_) <;> (refine Y Z ?_)) | refine ag.r_ ?_ | refine aw.r_ hX rfl ?_)
 all_goals (intro h f; refine ⟨?_, f.aS⟩; clear f; first | (simp_all [aP, cY]; done) | (simp_all [aP, cY]; omega) | (simp_all [aP, cY]; intros; exfalso; omega) | (simp_all [aP, cY]; split <;> intros <;> first | omega | (exfalso; omega) | simp_all))
def oT (op : Int) : Bool := decide (0 ≤ op ∧ op < 3)
def mi (op : Int) : Bool := decide (0 ≤ op ∧ op < 20)
theorem ng (hK : KN base K) (op : Int) (h : Heap) (w : Wf h) : Sp P K 146 [.int .i64 op] h (dE (.bool (oT op)) h) := by
 refine Sp.start (m := 5) (n := 9) w (hK.none 146 rfl rfl _ _) Tryz.func146 rfl rfl (by kernel_rfl) rfl rfl ?_
 repeat' (first | refine aw.a_ ?_ | refine ag.s_ ?_ | (refine X 0 ?_; (refine J Z ?_) <;> (refine Y Z ?_)) | (refine X 1 ?_; (refine J Z ?_) <;> ((refine .cons (qc Z ?_ ?_)) <;> intro _) <;> (iterate 2 refine J Z ?_) <;> (first | (refine J Z ?_) | (refine .cons (qc Z ?_ ?_)) <;> intro _) <;> (iterate 2 refine J Z ?_) <;> (refine Y Z ?_)) | refine ag.r_ ?_ | refine aw.r_ hX rfl ?_)
 all_goals (intro h f; refine ⟨?_, f.aS⟩; clear f; first | (simp_all [aP, oT]; done) | (simp_all [aP, oT]; omega) | (simp_all [aP, oT]; intros; exfalso; omega) | (simp_all [aP, oT]; split <;> intros <;> first | omega | (exfalso; omega) | simp_all))
theorem lX (hK : KN base K) (op : Int) (h : Heap) (w : Wf h) : Sp P K 147 [.int .i64 op] h (dE (.bool (mi op)) h) := by
 refine Sp.start (m := 5) (n := 9) w (hK.none 147 rfl rfl _ _) Tryz.func147 rfl rfl (by kernel_rfl) rfl rfl ?_
 repeat' (first | refine aw.a_ ?_ | refine ag.s_ ?_ | (refine X 0 ?_; (refine J Z ?_) <;> (refine Y Z ?_)) | (refine X 1 ?_; (refine J Z ?_) <;> ((refine .cons (qc Z ?_ ?_)) <;> intro _) <;> (iterate 2 refine J Z ?_) <;> (first | (refine J Z ?_) | (refine .cons (qc Z ?_ ?_)) <;> intro _) <;> (iterate 2 refine J Z ?_) <;> (refine Y Z ?_)) | refine ag.r_ ?_ | refine aw.r_ hX rfl ?_)
 all_goals (intro h f; refine ⟨?_, f.aS⟩; clear f; first | (simp_all [aP, mi]; done) | (simp_all [aP, mi]; omega) | (simp_all [aP, mi]; intros; exfalso; omega) | (simp_all [aP, mi]; split <;> intros <;> first | omega | (exfalso; omega) | simp_all))
def vg (k : Int) : Bool × Bool × Bool := (decide (k = 0 ∨ k = 4 ∨ k = 5 ∨ k = 11 ∨ k = 1 ∨ k = 2 ∨ k = 6 ∨ k = 10 ∨ k = 3), decide (k = 1 ∨ k = 2 ∨ k = 6 ∨ k = 10 ∨ k = 3 ∨ k = 7 ∨ k = 8 ∨ k = 12 ∨ k = 14), decide (k = 3 ∨ k = 7 ∨ k = 8))
theorem mask38 : Nat.lor (jm Tryz.f38) (Nat.sub (Nat.pow 2 1) 1) = 2427005 := by kernel_rfl
theorem IS (hK : KN base K) (k : Int) (h : Heap) (w : Wf h) : Sp P K 38 [.int .i64 k] h (dE (.tuple [.bool (vg k).1, .bool (vg k).2.1, .bool (vg k).2.2]) h) := by
 refine Sp.start (m := 2427005) (n := 24) w (hK.none 38 rfl rfl _ _) Tryz.func38 rfl rfl mask38 rfl rfl ?_
 repeat' (first | refine aw.a_ ?_ | refine ag.s_ ?_ | (refine X 0 ?_; (iterate 3 refine J Z ?_) <;> (refine Y Z ?_)) | (refine X 1 ?_; (refine J Z ?_) <;> (refine Y Z ?_)) | (refine X 2 ?_; ((refine .cons (qc Z ?_ ?_)) <;> intro _) <;> (refine J Z ?_) <;> (refine Y Z ?_)) | (refine X 3 ?_; ((refine .cons (qc Z ?_ ?_)) <;> intro _) <;> (refine J Z ?_) <;> (refine Y Z ?_)) | (refine X 4 ?_; ((refine .cons (qc Z ?_ ?_)) <;> intro _) <;> (refine J Z ?_) <;> (refine Y Z ?_)) | (refine X 5 ?_; ((refine .cons (qc Z ?_ ?_)) <;> intro _) <;> (refine J Z ?_) <;> (refine Y Z ?_)) | (refine X 6 ?_; (iterate 3 refine J Z ?_) <;> (refine Y Z ?_)) | (refine X 7 ?_; ((refine .cons (qc Z ?_ ?_)) <;> intro _) <;> (refine J Z ?_) <;> (refine Y Z ?_)) | (refine X 8 ?_; ((refine .cons (qc Z ?_ ?_)) <;> intro _) <;> (refine J Z ?_) <;> (refine Y Z ?_)) | (refine X 9 ?_; ((refine .cons (qc Z ?_ ?_)) <;> intro _) <;> (refine J Z ?_) <;> (refine Y Z ?_)) | (refine X 10 ?_; ((refine .cons (qc Z ?_ ?_)) <;> intro _) <;> (refine J Z ?_) <;> (refine Y Z ?_)) | (refine X 11 ?_; (iterate 3 refine J Z ?_) <;> (refine Y Z ?_)) | (refine X 12 ?_; ((refine .cons (qc Z ?_ ?_)) <;> intro _) <;> (refine J Z ?_) <;> (refine Y Z ?_)) | (refine X 13 ?_; (iterate 3 refine J Z ?_) <;> (refine Y Z ?_)) | (refine X 14 ?_; ((refine .cons (qc Z ?_ ?_)) <;> intro _) <;> (refine J Z ?_) <;> (refine Y Z ?_)) | (refine X 15 ?_; ((refine .cons (qc Z ?_ ?_)) <;> intro _) <;> (refine J Z ?_) <;> (refine Y Z ?_)) | (refine X 16 ?_; (iterate 3 refine J Z ?_) <;> (refine Y Z ?_)) | (refine X 17 ?_; ((refine .cons (qc Z ?_ ?_)) <;> intro _) <;> (refine J Z ?_) <;> (refine Y Z ?_)) | (refine X 18 ?_; ((refine .cons (qc Z ?_ ?_)) <;> intro _) <;> (refine J Z ?_) <;> (refine Y Z ?_)) | (refine X 19 ?_; (iterate 3 refine J Z ?_) <;> (refine Y Z ?_)) | (refine X 20 ?_; (iterate 3 refine J Z ?_) <;> (refine Y Z ?_)) | refine ag.r_ ?_ | refine aw.d_ ?_ | refine aw.f_ ?_ | refine ag.t_ rfl ?_ | refine ag.f_ rfl ?_ | refine ag.k_ ?_ | refine ag.b_ ?_ | refine aw.b_ ?_ | refine aw.r_ hX rfl ?_)
 all_goals (intro h f; refine ⟨?_, f.aS⟩; clear f; first | (simp_all [aP, vg]; done) | (simp_all [aP, vg]; omega) | (simp_all [aP, vg]; intros; exfalso; omega) | (simp_all [aP, vg]; split <;> intros <;> first | omega | (exfalso; omega) | simp_all))
def oE (how op : Int) : Bool := if how = 1 then oT op else if how = 2 then mi op else if how = 3 then decide (0 ≤ op ∧ op < 4) else if how = 4 then cY op else decide (op = 0)
theorem mask84 : Nat.lor (jm Tryz.f84) (Nat.sub (Nat.pow 2 2) 1) = 4211827 := by kernel_rfl
theorem pN (hK : KN base K) (how op : Int) (h : Heap) (w : Wf h) : Sp P K 84 [.int .i64 how, .int .i64 op] h (dE (.bool (oE how op)) h) := by
 refine Sp.start (m := 4211827) (n := 28) w (hK.none 84 rfl rfl _ _) Tryz.func84 rfl rfl mask84 rfl rfl ?_
 repeat' (first | refine aw.a_ ?_ | refine ag.s_ ?_ | (refine X 0 ?_; (refine J Z ?_) <;> (refine Y Z ?_)) | (refine X 1 ?_; (refine J Z ?_) <;> (refine Y Z ?_)) | (refine X 2 ?_; ((refine .cons (qc Z ?_ ?_)) <;> intro _) <;> (refine J Z ?_) <;> (refine Y Z ?_)) | (refine X 3 ?_; (refine J Z ?_) <;> ((refine .cons (aV Z Z Z Z HU Z Z (fun h f => ng hK _ h f.wf) ?_ ?_)) <;> intro _) <;> (refine J Z ?_) <;> (refine Y Z ?_)) | (refine X 4 ?_; ((refine .cons (qc Z ?_ ?_)) <;> intro _) <;> (refine J Z ?_) <;> (refine Y Z ?_)) | (refine X 5 ?_; (refine J Z ?_) <;> ((refine .cons (aV Z Z Z Z HT Z Z (fun h f => lX hK _ h f.wf) ?_ ?_)) <;> intro _) <;> (refine J Z ?_) <;> (refine Y Z ?_)) | (refine X 6 ?_; ((refine .cons (qc Z ?_ ?_)) <;> intro _) <;> (refine J Z ?_) <;> (refine Y Z ?_)) | (refine X 7 ?_; (refine J Z ?_) <;> ((refine .cons (qc Z ?_ ?_)) <;> intro _) <;> (iterate 2 refine J Z ?_) <;> (first | (refine J Z ?_) | (refine .cons (qc Z ?_ ?_)) <;> intro _) <;> (iterate 2 refine J Z ?_) <;> (refine Y Z ?_)) | (refine X 8 ?_; ((refine .cons (qc Z ?_ ?_)) <;> intro _) <;> (refine J Z ?_) <;> (refine Y Z ?_)) | (refine X 9 ?_; (refine J Z ?_) <;> ((refine .cons (aV Z Z Z Z JN Z Z (fun h f => vk hK _ h f.wf) ?_ ?_)) <;> intro _) <;> (refine J Z ?_) <;> (refine Y Z ?_)) | (refine X 10 ?_; (refine J Z ?_) <;> ((refine .cons (qc Z ?_ ?_)) <;> intro _) <;> (refine J Z ?_) <;> (refine Y Z ?_)) | refine ag.r_ ?_ | refine aw.d_ ?_ | refine aw.f_ ?_ | refine ag.t_ rfl ?_ | refine ag.f_ rfl ?_ | refine ag.k_ ?_ | refine ag.b_ ?_ | refine aw.b_ ?_ | refine aw.r_ hX rfl ?_)
 all_goals (intro h f; refine ⟨?_, f.aS⟩; clear f; first | (simp_all [aP, oE]; done) | (simp_all [aP, oE]; omega) | (simp_all [aP, oE]; intros; exfalso; omega) | (simp_all [aP, oE]; split <;> intros <;> first | omega | (exfalso; omega) | simp_all))
def bS (used : Bool) (n bX : Int) : Bool := if used then decide (0 ≤ n ∧ n < bX) else decide (n = 0)
theorem gz (hK : KN base K) (used : Bool) (n bX : Int) (h : Heap) (w : Wf h) : Sp P K 80 [.bool used, .int .i64 n, .int .i64 bX] h (dE (.bool (bS used n bX)) h) := by
 cases used
 all_goals
  refine Sp.start (m := 327) (n := 18) w (hK.none 80 rfl rfl _ _) Tryz.func80 rfl rfl (by kernel_rfl) rfl rfl ?_
  repeat' (first | refine aw.a_ ?_ | refine ag.s_ ?_ | (refine X 0 ?_; (refine J Z ?_) <;> (refine Y Z ?_)) | (refine X 1 ?_; (iterate 2 refine J Z ?_) <;> (refine Y Z ?_)) | (refine X 2 ?_; (refine J Z ?_) <;> ((refine .cons (qc Z ?_ ?_)) <;> intro _) <;> (refine J Z ?_) <;> (refine Y Z ?_)) | (refine X 3 ?_; (refine J Z ?_) <;> ((refine .cons (qc Z ?_ ?_)) <;> intro _) <;> (iterate 3 refine J Z ?_) <;> (first | (refine J Z ?_) | (refine .cons (qc Z ?_ ?_)) <;> intro _) <;> (iterate 2 refine J Z ?_) <;> (refine Y Z ?_)) | refine ag.r_ ?_ | refine aw.d_ ?_ | refine ag.t_ rfl ?_ | refine ag.f_ rfl ?_ | refine ag.k_ ?_ | refine aw.r_ hX rfl ?_)
  all_goals (intro h f; refine ⟨?_, f.aS⟩; clear f; first | (simp_all [aP, bS]; done) | (simp_all [aP, bS]; omega) | (simp_all [aP, bS]; intros; exfalso; omega) | (simp_all [aP, bS]; split <;> intros <;> first | omega | (exfalso; omega) | simp_all))
theorem yd (hK : KN base K) (used : Bool) (n : Int) (h : Heap) (w : Wf h) : Sp P K 39 [.bool used, .int .i64 n] h (dE (.bool (bS used n 16)) h) := by
 cases used
 all_goals
  refine Sp.start (m := 19) (n := 22) w (hK.none 39 rfl rfl _ _) Tryz.func39 rfl rfl (by kernel_rfl) rfl rfl ?_
  repeat' (first | refine aw.a_ ?_ | refine ag.s_ ?_ | (refine X 0 ?_; (refine J Z ?_) <;> (refine Y Z ?_)) | (refine X 1 ?_; (iterate 3 refine J Z ?_) <;> (first | (refine J Z ?_) | (refine .cons (qc Z ?_ ?_)) <;> intro _) <;> (iterate 3 refine J Z ?_) <;> (first | (refine J Z ?_) | (refine .cons (qc Z ?_ ?_)) <;> intro _) <;> (iterate 6 refine J Z ?_) <;> (first | (refine J Z ?_) | (refine .cons (qc Z ?_ ?_)) <;> intro _) <;> (iterate 3 refine J Z ?_) <;> (refine Y Z ?_)) | refine ag.r_ ?_ | refine aw.r_ hX rfl ?_)
  all_goals (intro h f; refine ⟨?_, f.aS⟩; clear f; first | (simp_all [aP, bS]; done) | (simp_all [aP, bS]; omega) | (simp_all [aP, bS]; intros; exfalso; omega) | (simp_all [aP, bS]; split <;> intros <;> first | omega | (exfalso; omega) | simp_all))
end Em
end Go.HL
