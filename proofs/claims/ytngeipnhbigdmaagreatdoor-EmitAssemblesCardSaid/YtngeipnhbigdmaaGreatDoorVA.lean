/- The walk: width, digits, the reference's lines. No statement of the seat stands here. -/
import Derived.Test.YtngeipnhbigdmaaGreatDoorMD
import Derived.Test.YtngeipnhbigdmaaGreatDoorXC
set_option linter.unusedVariables false
set_option linter.unusedSimpArgs false
namespace Go.HL
open Go
noncomputable section
namespace Ev
open Em
noncomputable def ax : iF := [(2, .int .i64, 1), (3, .int .i64, 1), (4, .bool, 1), (5, .int .u8, 1), (9, .str, 1), (21, .int .i32, 1), (22, .slice 70, 1), (23, .slice 72, 1), (24, .slice 74, 1), (26, .struct [(0, 9), (1, 22), (2, 23), (3, 3), (4, 24)], 5), (29, .slice 42, 1), (30, .int .i64, 1), (42, .int .u32, 1), (45, .slice 108, 1), (47, .struct [(0, 9), (1, 22), (2, 23), (3, 3), (4, 45)], 5), (70, .struct [(0, 9), (1, 4)], 2), (72, .struct [(0, 9), (1, 3)], 2), (74, .struct [(0, 3), (1, 3), (2, 3), (3, 3), (4, 3), (5, 21), (6, 3), (7, 3)], 8), (80, .struct [(0, 4), (1, 4), (2, 4), (3, 4), (4, 4), (5, 4), (6, 4), (7, 4), (8, 4), (9, 4), (10, 4), (11, 3)], 12), (100, .slice 9, 1), (106, .slice 111, 1), (108, .struct [(0, 106), (1, 3), (2, 3), (3, 3), (4, 3)], 5), (109, .slice 3, 1), (111, .struct [(0, 3), (1, 3), (2, 3), (3, 3), (4, 3), (5, 21), (6, 109)], 7), (139, .ref, 1), (140, .slice 5, 1), (142, .struct [(0, 139), (1, 140)], 2), (245, .ref, 1), (247, .struct [(0, 9), (1, 245), (2, 3)], 3), (248, .slice 247, 1), (342, .array 3 9, 3)]
theorem hT : bH P ax = true := by kernel_rfl
theorem z2 : ah P 2 = some [.int .i64 0] := by kernel_rfl
theorem z3 : ah P 3 = some [.int .i64 0] := by kernel_rfl
theorem z4 : ah P 4 = some [.bool false] := by kernel_rfl
theorem z5 : ah P 5 = some [.int .u8 0] := by kernel_rfl
theorem b5 : P.bytesOf 5 = 1 := by kernel_rfl
theorem z9 : ah P 9 = some [.str 0 0] := by kernel_rfl
theorem b9 : P.bytesOf 9 = 16 := by kernel_rfl
theorem z21 : ah P 21 = some [.int .i32 0] := by kernel_rfl
theorem N5 : ah P 22 = some [.aD] := by kernel_rfl
theorem N3 : ah P 23 = some [.aD] := by kernel_rfl
theorem z24 : ah P 24 = some [.aD] := by kernel_rfl
theorem MX : ah P 26 = some [.str 0 0, .aD, .aD, .int .i64 0, .aD] := by kernel_rfl
theorem MW : ah P 29 = some [.aD] := by kernel_rfl
theorem MV : ah P 30 = some [.int .i64 0] := by kernel_rfl
theorem MS : ah P 42 = some [.int .u32 0] := by kernel_rfl
theorem z45 : ah P 45 = some [.aD] := by kernel_rfl
theorem z47 : ah P 47 = some [.str 0 0, .aD, .aD, .int .i64 0, .aD] := by kernel_rfl
theorem z70 : ah P 70 = some [.str 0 0, .bool false] := by kernel_rfl
theorem NZ : P.bytesOf 70 = 24 := by kernel_rfl
theorem z72 : ah P 72 = some [.str 0 0, .int .i64 0] := by kernel_rfl
theorem O9 : P.bytesOf 72 = 24 := by kernel_rfl
theorem MR : ah P 74 = some [.int .i64 0, .int .i64 0, .int .i64 0, .int .i64 0, .int .i64 0, .int .i32 0, .int .i64 0, .int .i64 0] := by kernel_rfl
theorem O8 : P.bytesOf 74 = 64 := by kernel_rfl
theorem z80 : ah P 80 = some [.bool false, .bool false, .bool false, .bool false, .bool false, .bool false, .bool false, .bool false, .bool false, .bool false, .bool false, .int .i64 0] := by kernel_rfl
theorem JY : ah P 100 = some [.aD] := by kernel_rfl
theorem N9 : ah P 106 = some [.aD] := by kernel_rfl
theorem N8 : ah P 108 = some [.aD, .int .i64 0, .int .i64 0, .int .i64 0, .int .i64 0] := by kernel_rfl
theorem z109 : ah P 109 = some [.aD] := by kernel_rfl
theorem N7 : ah P 111 = some [.int .i64 0, .int .i64 0, .int .i64 0, .int .i64 0, .int .i64 0, .int .i32 0, .aD] := by kernel_rfl
theorem z139 : ah P 139 = some [.fK] := by kernel_rfl
-- 139: a pointer to 142
theorem JX : ah P 140 = some [.aD] := by kernel_rfl
theorem N6 : ah P 142 = some [.fK, .aD] := by kernel_rfl
theorem N0 : ah P 245 = some [.mF] := by kernel_rfl
theorem MZ : ah P 247 = some [.str 0 0, .mF, .int .i64 0] := by kernel_rfl
theorem MY : ah P 248 = some [.aD] := by kernel_rfl
theorem MT : ah P 342 = some [.str 0 0, .str 0 0, .str 0 0] := by kernel_rfl
-- 342: 3 of 9
theorem MU : ah P 339 = some [.fK] := by kernel_rfl
theorem My : ar P 12 := ⟨_, _, Go.Proofs.Tryz.func12, rfl, by kernel_rfl, rfl⟩
theorem NW : ar P 19 := ⟨_, _, Go.Proofs.Tryz.func19, rfl, by kernel_rfl, rfl⟩
theorem NV : ar P 20 := ⟨_, _, Go.Proofs.Tryz.func20, rfl, by kernel_rfl, rfl⟩
theorem NU : ar P 31 := ⟨_, _, Go.Proofs.Tryz.func31, rfl, by kernel_rfl, rfl⟩
theorem CO : ar P 32 := ⟨_, _, Go.Proofs.Tryz.func32, rfl, by kernel_rfl, rfl⟩
theorem NT : ar P 33 := ⟨_, _, Go.Proofs.Tryz.func33, rfl, by kernel_rfl, rfl⟩
theorem Md : ar P 48 := ⟨_, _, Go.Proofs.Tryz.func48, rfl, by kernel_rfl, rfl⟩
theorem px : ar P 49 := ⟨_, _, Go.Proofs.Tryz.func49, rfl, by kernel_rfl, rfl⟩
theorem NI : ar P 50 := ⟨_, _, Go.Proofs.Tryz.func50, rfl, by kernel_rfl, rfl⟩
theorem KQ : ar P 51 := ⟨_, _, Go.Proofs.Tryz.func51, rfl, by kernel_rfl, rfl⟩
theorem po : ar P 52 := ⟨_, _, Go.Proofs.Tryz.func52, rfl, by kernel_rfl, rfl⟩
theorem NH : ar P 53 := ⟨_, _, Go.Proofs.Tryz.func53, rfl, by kernel_rfl, rfl⟩
theorem HR : ar P 68 := ⟨_, _, Go.Proofs.Tryz.func68, rfl, by kernel_rfl, rfl⟩
theorem HQ : ar P 69 := ⟨_, _, Go.Proofs.Tryz.func69, rfl, by kernel_rfl, rfl⟩
theorem AW : ar P 70 := ⟨_, _, Go.Proofs.Tryz.func70, rfl, by kernel_rfl, rfl⟩
theorem NG : ar P 71 := ⟨_, _, Go.Proofs.Tryz.func71, rfl, by kernel_rfl, rfl⟩
theorem NF : ar P 72 := ⟨_, _, Go.Proofs.Tryz.func72, rfl, by kernel_rfl, rfl⟩
theorem Mc : ar P 73 := ⟨_, _, Go.Proofs.Tryz.func73, rfl, by kernel_rfl, rfl⟩
theorem kH : ar P 74 := ⟨_, _, Go.Proofs.Tryz.func74, rfl, by kernel_rfl, rfl⟩
theorem Jc : ar P 75 := ⟨_, _, Go.Proofs.Tryz.func75, rfl, by kernel_rfl, rfl⟩
theorem Mb : ar P 76 := ⟨_, _, Go.Proofs.Tryz.func76, rfl, by kernel_rfl, rfl⟩
theorem KP : ar P 77 := ⟨_, _, Go.Proofs.Tryz.func77, rfl, by kernel_rfl, rfl⟩
theorem Nz : ar P 90 := ⟨_, _, Go.Proofs.Tryz.func90, rfl, by kernel_rfl, rfl⟩
theorem M9 : ar P 91 := ⟨_, _, Go.Proofs.Tryz.func91, rfl, by kernel_rfl, rfl⟩
theorem Ny : ar P 92 := ⟨_, _, Go.Proofs.Tryz.func92, rfl, by kernel_rfl, rfl⟩
theorem rX : ar P 93 := ⟨_, _, Go.Proofs.Tryz.func93, rfl, by kernel_rfl, rfl⟩
theorem M8 : ar P 94 := ⟨_, _, Go.Proofs.Tryz.func94, rfl, by kernel_rfl, rfl⟩
theorem rW : ar P 95 := ⟨_, _, Go.Proofs.Tryz.func95, rfl, by kernel_rfl, rfl⟩
theorem M7 : ar P 96 := ⟨_, _, Go.Proofs.Tryz.func96, rfl, by kernel_rfl, rfl⟩
theorem KK : ar P 97 := ⟨_, _, Go.Proofs.Tryz.func97, rfl, by kernel_rfl, rfl⟩
theorem Nx : ar P 98 := ⟨_, _, Go.Proofs.Tryz.func98, rfl, by kernel_rfl, rfl⟩
theorem Mw : ar P 136 := ⟨_, _, Go.Proofs.Tryz.func136, rfl, by kernel_rfl, rfl⟩
theorem Mv : ar P 137 := ⟨_, _, Go.Proofs.Tryz.func137, rfl, by kernel_rfl, rfl⟩
theorem HW : ar P 139 := ⟨_, _, Go.Proofs.Tryz.func139, rfl, by kernel_rfl, rfl⟩
theorem Mt : ar P 140 := ⟨_, _, Go.Proofs.Tryz.func140, rfl, by kernel_rfl, rfl⟩
theorem Ms : ar P 141 := ⟨_, _, Go.Proofs.Tryz.func141, rfl, by kernel_rfl, rfl⟩
theorem JQ : ar P 142 := ⟨_, _, Go.Proofs.Tryz.func142, rfl, by kernel_rfl, rfl⟩
theorem HV : ar P 143 := ⟨_, _, Go.Proofs.Tryz.func143, rfl, by kernel_rfl, rfl⟩
theorem JP : ar P 144 := ⟨_, _, Go.Proofs.Tryz.func144, rfl, by kernel_rfl, rfl⟩
theorem DL : ar P 145 := ⟨_, _, Go.Proofs.Tryz.func145, rfl, by kernel_rfl, rfl⟩
theorem HU : ar P 146 := ⟨_, _, Go.Proofs.Tryz.func146, rfl, by kernel_rfl, rfl⟩
theorem HT : ar P 147 := ⟨_, _, Go.Proofs.Tryz.func147, rfl, by kernel_rfl, rfl⟩
theorem DJ : ar P 161 := ⟨_, _, Go.Proofs.Tryz.func161, rfl, by kernel_rfl, rfl⟩
theorem Mn : ar P 162 := ⟨_, _, Go.Proofs.Tryz.func162, rfl, by kernel_rfl, rfl⟩
theorem JL : ar P 163 := ⟨_, _, Go.Proofs.Tryz.func163, rfl, by kernel_rfl, rfl⟩
theorem Mm : ar P 166 := ⟨_, _, Go.Proofs.Tryz.func166, rfl, by kernel_rfl, rfl⟩
noncomputable def zl : List (Nat × List ad) := [(2, [.int .i64 0]), (3, [.int .i64 0]), (4, [.bool false]), (5, [.int .u8 0]), (9, [.str 0 0]), (21, [.int .i32 0]), (22, [.aD]), (23, [.aD]), (24, [.aD]), (26, [.str 0 0, .aD, .aD, .int .i64 0, .aD]), (29, [.aD]), (30, [.int .i64 0]), (42, [.int .u32 0]), (45, [.aD]), (47, [.str 0 0, .aD, .aD, .int .i64 0, .aD]), (70, [.str 0 0, .bool false]), (72, [.str 0 0, .int .i64 0]), (74, [.int .i64 0, .int .i64 0, .int .i64 0, .int .i64 0, .int .i64 0, .int .i32 0, .int .i64 0, .int .i64 0]), (80, [.bool false, .bool false, .bool false, .bool false, .bool false, .bool false, .bool false, .bool false, .bool false, .bool false, .bool false, .int .i64 0]), (100, [.aD]), (106, [.aD]), (108, [.aD, .int .i64 0, .int .i64 0, .int .i64 0, .int .i64 0]), (109, [.aD]), (111, [.int .i64 0, .int .i64 0, .int .i64 0, .int .i64 0, .int .i64 0, .int .i32 0, .aD]), (139, [.fK]), (140, [.aD]), (142, [.fK, .aD]), (245, [.mF]), (247, [.str 0 0, .mF, .int .i64 0]), (248, [.aD]), (342, [.str 0 0, .str 0 0, .str 0 0]), (339, [.fK])]
theorem hX : TK P ax zl := ⟨hT, z2, z3, z4, z5, z9, z21, N5, N3, z24, MX, MW, MV, MS, z45, z47, z70, z72, MR, z80, JY, N9, N8, z109, N7, z139, JX, N6, N0, MZ, MY, MT, MU, trivial⟩
theorem J {K : ai} {E : eT} {ops : Array Oper} {o : Oper} {l : List Oper} {L : SL} {B B' : List cj} {G : List Part} {m n : Nat} {R : SL → List cj → List Part → Prop} {sv : SV} (he : u0 P ax zl ops o L B n = some (sv, B')) (hr : w4 P K E ops l (bf o.dst sv L) B' G m n R) : w4 P K E ops (o :: l) L B G m n R := .cons (q hX he hr)
end Ev
end
end Go.HL
namespace Go.HL
open Go Go.Proofs
namespace Ev
open Em
set_option maxRecDepth 10000
variable {K : ai} {base : List (Nat × aE)}
end Ev
end Go.HL
namespace Go.HL
open Go Go.Proofs
namespace Ev
open Em
set_option maxRecDepth 10000
variable {K : ai} {base : List (Nat × aE)}
def dH (n : Nat) : List Nat := if n < 10 then [48 + n] else dH (n / 10) ++ [48 + n % 10]
termination_by n
decreasing_by omega
theorem bK {n : Nat} (h : n < 10) : dH n = [48 + n] := by rw [dH, if_pos h]
theorem gi {n : Nat} (h : ¬ n < 10) : dH n = dH (n / 10) ++ dH (n % 10) := by
 rw [dH, if_neg h, bK (n := n % 10) (by omega)]
theorem vC (n : Nat) : (dH n).length ≤ n + 1 := by
 induction n using Nat.strongRecOn with
 | _ n ih =>
  by_cases h : n < 10
  ·rw [bK h]; simp
  ·rw [gi h, bK (n := n % 10) (by omega), List.length_append]
   have := ih (n / 10) (by omega)
   simp only [List.length_singleton]; omega
theorem vA (hK : KN base K) (n : Nat) (hn : n < 4294967296) (h : Heap) (w : Wf h) : Sp P K 145 [i64 n] h (dE (aR (dH n)) h) := by
 induction n using Nat.strongRecOn generalizing h with
 | _ n ih =>
  refine Sp.start (m := 21) (n := 17) w (hK.none 145 rfl rfl _ _) Tryz.func145 rfl rfl (by kernel_rfl) rfl rfl ?_
  have hlen := vC (n / 10)
  have hlen2 := vC (n % 10)
  repeat' (first | refine aw.a_ ?_ | refine ag.s_ ?_ | (refine X 0 ?_; (refine J Z ?_) <;> (refine Y Z ?_)) | (refine X 1 ?_; (refine J Z ?_) <;> ((refine .cons (qc Z ?_ ?_)) <;> intro _) <;> (refine Y Z ?_)) | (refine X 2 ?_; (refine J Z ?_) <;> (refine .cons (qa (d := ((48 + n : Nat) : Int)) Z Z Z Z Z (by rw [wI (by omega) (by omega)]; omega) Z Z ?_)) <;> (refine .cons (qw (b := ((48 + n : Nat) : Int)) hX Z Z Z Z (by rw [tN]; omega) Z Z ?_)) <;> (refine J Z ?_) <;> ((refine w4.eF 0 (fun k => aH 5 1 (.slice k 0 1 (some 1)) ([48 + n].map gx)) Z (fun k => .own Z (by simp [gx]) Z) (fun _ => Z) Z fun k0 => ?_); (refine .cons (Nd (bs := [48 + n]) hX Z Z Z Z Z .h (by simp) (by simp; omega) Z Z ?_))) <;> (refine J Z ?_) <;> (refine Y Z ?_)) | (refine X 3 ?_; (refine J Z ?_) <;> (refine .cons (qn Z Z Z (FP (b := 10) (by omega) (by decide)) Z Z ?_)) <;> (refine .cons (ao Z Z Z Z DL Z Z (fun h f => ih (n / 10) (by omega) (by omega) h f.wf) ?_)) <;> (refine J Z ?_) <;> (refine .cons (qn Z Z Z (Jf (b := 10) (by decide)) Z Z ?_)) <;> (refine .cons (ao Z Z Z Z DL Z Z (fun h f => ih (n % 10) (by omega) (by omega) h f.wf) ?_)) <;> (refine .cons (bd Z Z Z (by omega) Z Z ?_)) <;> (refine J Z ?_) <;> (refine Y Z ?_)) | refine ag.r_ ?_ | refine aw.d_ ?_ | refine ag.t_ rfl ?_ | refine ag.f_ rfl ?_ | refine ag.k_ ?_ | refine aw.r_ hX rfl ?_)
  ·rename_i e
   exact fun h f => ⟨by rw [bK (n := n) (by omega)]; rfl, f.aS.bx .nil⟩
  ·rename_i e
   exact fun h f => ⟨by rw [gi (n := n) (by omega)]; rfl, f.aS⟩
end Ev
end Go.HL
namespace Go.HL
open Go Go.Proofs
namespace Ev
open Em
set_option maxRecDepth 10000
variable {K : ai} {base : List (Nat × aE)}
def aQ (n : Int) : List Nat := if n < 0 then 45 :: dH (-n).toNat else dH n.toNat
theorem HA (n : Nat) : aQ (n : Int) = dH n := by
 unfold aQ
 rw [if_neg (by omega)]; rfl
theorem w8 (hK : KN base K) (n : Int) (h1 : -4294967296 < n) (h2 : n < 4294967296) (h : Heap) (w : Wf h) : Sp P K 73 [.int .i64 n] h (dE (aR (aQ n)) h) := by
 have hl := vC (-n).toNat
 refine Sp.start (m := 21) (n := 11) w (hK.none 73 rfl rfl _ _) Tryz.func73 rfl rfl (by kernel_rfl) rfl rfl ?_
 repeat' (first | refine aw.a_ ?_ | refine ag.s_ ?_ | (refine X 0 ?_; (refine J Z ?_) <;> (refine Y Z ?_)) | (refine X 1 ?_; (refine J Z ?_) <;> ((refine .cons (qc Z ?_ ?_)) <;> intro _) <;> (refine Y Z ?_)) | (refine X 2 ?_; (refine J Z ?_) <;> (refine .cons (qa (d := (((-n).toNat : Nat) : Int)) Z Z Z Z Z (by rw [wI (by omega) (by omega)]; omega) Z Z ?_)) <;> (refine .cons (ao Z Z Z Z DL Z Z (fun h f => vA hK (-n).toNat (by omega) h f.wf) ?_)) <;> (refine .cons (bd (a := [45]) Z Z Z (by simp only [List.length_singleton]; omega) Z Z ?_)) <;> (refine J Z ?_) <;> (refine Y Z ?_)) | refine ag.r_ ?_ | refine aw.d_ ?_ | refine ag.t_ rfl ?_ | refine ag.f_ rfl ?_ | refine ag.k_ ?_ | refine aw.r_ hX rfl ?_)
 ·rename_i e
  exact fun h f => ⟨by rw [aQ, if_pos (by omega)]; rfl, f.aS⟩
 ·rename_i e
  obtain ⟨m, rfl⟩ : ∃ m : Nat, n = m := ⟨n.toNat, by omega⟩
  rw [HA]
  repeat' (first | refine aw.a_ ?_ | (refine X 3 ?_; (refine J Z ?_) <;> (refine .cons (ao Z Z Z Z DL Z Z (fun h f => vA hK m (by omega) h f.wf) ?_)) <;> (refine J Z ?_) <;> (refine Y Z ?_)) | refine ag.r_ ?_ | refine aw.r_ hX rfl ?_)
  exact fun h f => ⟨rfl, f.aS⟩
theorem lS (hK : KN base K) (n : Int) (h1 : -4294967296 < n) (h2 : n < 4294967296) (h : Heap) (w : Wf h) : Sp P K 32 [.int .i64 n] h (dE (aR (aQ n)) h) := by
 refine Sp.start (m := 5) (n := 5) w (hK.none 32 rfl rfl _ _) Tryz.func32 rfl rfl (by kernel_rfl) rfl rfl ?_
 repeat' (first | refine aw.a_ ?_ | refine ag.s_ ?_ | (refine X 0 ?_; (refine J Z ?_) <;> (refine Y Z ?_)) | (refine X 1 ?_; (refine J Z ?_) <;> (refine .cons (ao Z Z Z Z Mc Z Z (fun h f => w8 hK n h1 h2 h f.wf) ?_)) <;> (refine J Z ?_) <;> (refine Y Z ?_)) | refine ag.r_ ?_ | refine aw.r_ hX rfl ?_)
 exact fun h f => ⟨rfl, f.aS⟩
end Ev
end Go.HL
namespace Go.HL
open Go Go.Proofs
namespace Ev
open Em
set_option maxRecDepth 10000
variable {K : ai} {base : List (Nat × aE)}
def uT : List (List Nat) := [[45], [126], [33]]
def bT : List (List Nat) := [[43], [45], [42], [47], [37], [38], [124], [94], [60, 60], [62, 62], [62, 62, 62], [60], [60, 61], [61, 61], [33, 61], [60, 58], [38, 38], [124, 124], [109, 105, 110], [109, 97, 120]]
def fT (k : Int) : List Nat := if k = 0 then [97, 100, 100] else if k = 18 then [109, 105, 110] else if k = 19 then [109, 97, 120] else if k = 5 then [97, 110, 100] else if k = 6 then [111, 114] else [120, 111, 114]
theorem Lp (hK : KN base K) (n : Int) (h1 : -4294967296 < n) (h2 : n < 4294967296) (hl : (aQ n).length ≤ 100) (h : Heap) (w : Wf h) : Sp P K 74 [.int .i64 n] h (dE (aR (114 :: aQ n)) h) := by
 refine Sp.start (m := 5) (n := 6) w (hK.none 74 rfl rfl _ _) Tryz.func74 rfl rfl (by kernel_rfl) rfl rfl ?_
 repeat' (first | refine aw.a_ ?_ | refine ag.s_ ?_ | (refine X 0 ?_; (refine J Z ?_) <;> (refine Y Z ?_)) | (refine X 1 ?_; (refine J Z ?_) <;> (refine .cons (ao Z Z Z Z CO Z Z (fun h f => lS hK n h1 h2 h f.wf) ?_)) <;> (refine .cons (bd (a := [114]) Z Z Z (by simp only [List.length_singleton]; omega) Z Z ?_)) <;> (refine J Z ?_) <;> (refine Y Z ?_)) | refine ag.r_ ?_ | refine aw.r_ hX rfl ?_)
 exact fun h f => ⟨rfl, f.aS⟩
theorem ng (hK : KN base K) (n : Int) (h : Heap) (w : Wf h) : Sp P K 146 [.int .i64 n] h (dE (.bool (decide (0 ≤ n ∧ n < 3))) h) := by
 refine Sp.start (m := 5) (n := 9) w (hK.none 146 rfl rfl _ _) Tryz.func146 rfl rfl (by kernel_rfl) rfl rfl ?_
 repeat' (first | refine aw.a_ ?_ | refine ag.s_ ?_ | (refine X 0 ?_; (refine J Z ?_) <;> (refine Y Z ?_)) | (refine X 1 ?_; (refine J Z ?_) <;> ((refine .cons (qc Z ?_ ?_)) <;> intro _) <;> (iterate 2 refine J Z ?_) <;> (first | (refine J Z ?_) | (refine .cons (qc Z ?_ ?_)) <;> intro _) <;> (iterate 2 refine J Z ?_) <;> (refine Y Z ?_)) | refine ag.r_ ?_ | refine aw.r_ hX rfl ?_)
 all_goals (intro h f; refine ⟨?_, f.aS⟩; clear f; first | (simp_all [aP]; done) | (simp_all [aP]; omega) | (simp_all [aP]; intros; exfalso; omega) | (simp_all [aP]; split <;> intros <;> first | omega | (exfalso; omega) | simp_all))
theorem lX (hK : KN base K) (n : Int) (h : Heap) (w : Wf h) : Sp P K 147 [.int .i64 n] h (dE (.bool (decide (0 ≤ n ∧ n < 20))) h) := by
 refine Sp.start (m := 5) (n := 9) w (hK.none 147 rfl rfl _ _) Tryz.func147 rfl rfl (by kernel_rfl) rfl rfl ?_
 repeat' (first | refine aw.a_ ?_ | refine ag.s_ ?_ | (refine X 0 ?_; (refine J Z ?_) <;> (refine Y Z ?_)) | (refine X 1 ?_; (refine J Z ?_) <;> ((refine .cons (qc Z ?_ ?_)) <;> intro _) <;> (iterate 2 refine J Z ?_) <;> (first | (refine J Z ?_) | (refine .cons (qc Z ?_ ?_)) <;> intro _) <;> (iterate 2 refine J Z ?_) <;> (refine Y Z ?_)) | refine ag.r_ ?_ | refine aw.r_ hX rfl ?_)
 all_goals (intro h f; refine ⟨?_, f.aS⟩; clear f; first | (simp_all [aP]; done) | (simp_all [aP]; omega) | (simp_all [aP]; intros; exfalso; omega) | (simp_all [aP]; split <;> intros <;> first | omega | (exfalso; omega) | simp_all))
theorem gX (hK : KN base K) (k : Nat) (hk : k < 3) (h : Heap) (w : Wf h) : Sp P K 75 [i64 k] h (dE (aR (uT.getD k [])) h) := by
 obtain rfl | rfl | rfl : k = 0 ∨ k = 1 ∨ k = 2 := by omega
 all_goals
  refine Sp.start (m := 37) (n := 10) w (hK.none 75 rfl rfl _ _) Tryz.func75 rfl rfl (by kernel_rfl) rfl rfl ?_
  repeat' (first | refine aw.a_ ?_ | refine ag.s_ ?_ | (refine X 0 ?_; (refine J Z ?_) <;> (refine Y Z ?_)) | (refine X 1 ?_; (refine J Z ?_) <;> (refine .cons (ao Z Z Z Z HU Z Z (fun h f => ng hK _ h f.wf) ?_)) <;> (refine J Z ?_) <;> (refine Y Z ?_)) | (refine X 3 ?_; (iterate 2 refine J Z ?_) <;> (refine .cons (Gm hX Z Z Z Z Z (by decide) Z Z ?_)) <;> (iterate 2 refine J Z ?_) <;> (refine Y Z ?_)) | refine ag.r_ ?_ | refine ag.f_ rfl ?_ | refine ag.k_ ?_ | refine aw.r_ hX rfl ?_)
  exact fun h f => ⟨rfl, f.aS⟩
theorem nA (hK : KN base K) (k : Nat) (hk : k < 20) (h : Heap) (w : Wf h) : Sp P K 76 [i64 k] h (dE (aR (bT.getD k [])) h) := by
 obtain rfl | rfl | rfl | rfl | rfl | rfl | rfl | rfl | rfl | rfl | rfl | rfl | rfl | rfl | rfl | rfl | rfl | rfl | rfl | rfl : k = 0 ∨ k = 1 ∨ k = 2 ∨ k = 3 ∨ k = 4 ∨ k = 5 ∨ k = 6 ∨ k = 7 ∨ k = 8 ∨ k = 9 ∨ k = 10 ∨ k = 11 ∨ k = 12 ∨ k = 13 ∨ k = 14 ∨ k = 15 ∨ k = 16 ∨ k = 17 ∨ k = 18 ∨ k = 19 := by omega
 all_goals
  refine Sp.start (m := 37) (n := 10) w (hK.none 76 rfl rfl _ _) Tryz.func76 rfl rfl (by kernel_rfl) rfl rfl ?_
  repeat' (first | refine aw.a_ ?_ | refine ag.s_ ?_ | (refine X 0 ?_; (refine J Z ?_) <;> (refine Y Z ?_)) | (refine X 1 ?_; (refine J Z ?_) <;> (refine .cons (ao Z Z Z Z HT Z Z (fun h f => lX hK _ h f.wf) ?_)) <;> (refine J Z ?_) <;> (refine Y Z ?_)) | (refine X 3 ?_; (iterate 2 refine J Z ?_) <;> (refine .cons (Gm hX Z Z Z Z Z (by decide) Z Z ?_)) <;> (iterate 2 refine J Z ?_) <;> (refine Y Z ?_)) | refine ag.r_ ?_ | refine ag.f_ rfl ?_ | refine ag.k_ ?_ | refine aw.r_ hX rfl ?_)
  exact fun h f => ⟨rfl, f.aS⟩
theorem lZ (hK : KN base K) (n : Int) (h : Heap) (w : Wf h) : Sp P K 77 [.int .i64 n] h (dE (aR (fT n)) h) := by
 refine Sp.start (m := 5469) (n := 14) w (hK.none 77 rfl rfl _ _) Tryz.func77 rfl rfl (by kernel_rfl) rfl rfl ?_
 repeat' (first | refine aw.a_ ?_ | refine ag.s_ ?_ | (refine X 0 ?_; (refine J Z ?_) <;> (refine Y Z ?_)) | (refine X 1 ?_; (refine J Z ?_) <;> (refine Y Z ?_)) | (refine X 2 ?_; ((refine .cons (qc Z ?_ ?_)) <;> intro _) <;> (refine J Z ?_) <;> (refine Y Z ?_)) | (refine X 3 ?_; (refine J Z ?_) <;> (refine Y Z ?_)) | (refine X 4 ?_; ((refine .cons (qc Z ?_ ?_)) <;> intro _) <;> (refine J Z ?_) <;> (refine Y Z ?_)) | (refine X 5 ?_; (refine J Z ?_) <;> (refine Y Z ?_)) | (refine X 6 ?_; ((refine .cons (qc Z ?_ ?_)) <;> intro _) <;> (refine J Z ?_) <;> (refine Y Z ?_)) | (refine X 7 ?_; (refine J Z ?_) <;> (refine Y Z ?_)) | (refine X 8 ?_; ((refine .cons (qc Z ?_ ?_)) <;> intro _) <;> (refine J Z ?_) <;> (refine Y Z ?_)) | (refine X 9 ?_; (refine J Z ?_) <;> (refine Y Z ?_)) | (refine X 10 ?_; ((refine .cons (qc Z ?_ ?_)) <;> intro _) <;> (refine J Z ?_) <;> (refine Y Z ?_)) | (refine X 11 ?_; (refine J Z ?_) <;> (refine Y Z ?_)) | (refine X 12 ?_; (refine J Z ?_) <;> (refine Y Z ?_)) | refine ag.r_ ?_ | refine aw.d_ ?_ | refine aw.f_ ?_ | refine ag.t_ rfl ?_ | refine ag.f_ rfl ?_ | refine ag.k_ ?_ | refine ag.b_ ?_ | refine aw.b_ ?_ | refine aw.r_ hX rfl ?_)
 all_goals exact fun h f => ⟨by simp_all [fT, aP, aO]; exact ⟨rfl, rfl⟩, f.aS⟩
theorem rN : ∀ (k n : Nat), 0 < k → n < 10 ^ k → (dH n).length ≤ k := by
 intro k
 induction k with
 | zero => intro n h; omega
 | succ k ih =>
  intro n _ hn
  by_cases h : n < 10
  ·rw [bK h]; simp
  ·rw [gi h, bK (n := n % 10) (by omega), List.length_append, List.length_singleton]
   have hk : 0 < k := by
    cases k with
    | zero => omega
    | succ k => omega
   have := ih (n / 10) hk (by rw [Nat.pow_succ] at hn; omega)
   omega
theorem da {n : Int} (h1 : -4294967296 < n) (h2 : n < 4294967296) : (aQ n).length ≤ 11 := by
 unfold aQ
 split
 ·have := rN 10 (-n).toNat (by decide) (by omega)
  simp only [List.length_cons]; omega
 ·have := rN 10 n.toNat (by decide) (by omega)
  omega
end Ev
end Go.HL
namespace Go.HL
open Go Go.Proofs
namespace Ev
open Em
set_option maxRecDepth 10000
set_option maxHeartbeats 4000000
variable {K : ai} {base : List (Nat × aE)}
def rT (n : Int) : List Nat := 114 :: aQ n
def ov : List (List Nat) := [[116, 105, 100], [98, 105, 100], [100, 105, 109], [103, 114, 105, 100]]
def qo (x : bI) : List Nat :=
 if x.kind = 0 then rT x.d ++ [32, 61, 32] ++ aQ x.cL
 else if x.kind = 1 then rT x.d ++ [32, 61, 32] ++ rT x.a
 else if x.kind = 2 then rT x.d ++ [32, 61, 32] ++ uT.getD x.op.toNat [] ++ [32] ++ rT x.a
 else if x.kind = 3 then rT x.d ++ [32, 61, 32] ++ rT x.a ++ [32] ++ bT.getD x.op.toNat [] ++ [32] ++ rT x.b
 else if x.kind = 4 then rT x.d ++ [32, 61, 32] ++ ov.getD x.op.toNat []
 else if x.kind = 5 then rT x.d ++ [32, 61, 32, 112, 97, 114, 97, 109, 32] ++ aQ x.cL
 else if x.kind = 6 then rT x.d ++ [32, 61, 32, 97, 114, 114, 97, 121, 32] ++ aQ x.cL ++ [32] ++ rT x.a
 else if x.kind = 7 then [97, 114, 114, 97, 121, 32] ++ aQ x.cL ++ [32] ++ rT x.a ++ [32, 61, 32] ++ rT x.b
 else if x.kind = 8 then [97, 116, 111, 109, 105, 99, 32] ++ fT x.op ++ [32, 97, 114, 114, 97, 121, 32] ++ aQ x.cL ++ [32] ++ rT x.a ++ [32] ++ rT x.b
 else if x.kind = 9 then [98, 97, 114, 114, 105, 101, 114, 32] ++ aQ x.cL
 else if x.kind = 10 then rT x.d ++ [32, 61, 32, 99, 111, 108, 108, 101, 99, 116, 32] ++ fT x.op ++ [32] ++ rT x.a ++ [32] ++ aQ x.cL
 else if x.kind = 11 then rT x.d ++ [32, 61, 32, 108, 111, 99, 97, 108, 32] ++ aQ x.cL
 else if x.kind = 12 then [108, 111, 99, 97, 108, 32] ++ aQ x.cL ++ [32, 61, 32] ++ rT x.a
 else if x.kind = 13 then [106, 117, 109, 112, 32] ++ aQ x.to
 else if x.kind = 14 then [98, 114, 97, 110, 99, 104, 32] ++ rT x.a ++ [32] ++ aQ x.to ++ [32, 106, 111, 105, 110, 32] ++ aQ x.join
 else [101, 120, 105, 116]
theorem ry {n : Int} (h1 : -4294967296 < n) (h2 : n < 4294967296) : (rT n).length ≤ 12 := by
 have := da h1 h2
 simp only [rT, List.length_cons]; omega
theorem Hq (n : Int) : (fT n).length ≤ 3 := by
 unfold fT
 repeat' split
 all_goals simp
theorem dy (hK : KN base K) (n : Int) (h1 : 0 ≤ n) (h2 : n < 256) (h : Heap) (w : Wf h) : Sp P K 74 [.int .i64 n] h (dE (aR (rT n)) h) := Lp hK n (by omega) (by omega) (by have := da (n := n) (by omega) (by omega); omega) h w
theorem Bm (hK : KN base K) (n : Int) (h1 : 0 ≤ n) (h2 : n < 3) (h : Heap) (w : Wf h) : Sp P K 75 [.int .i64 n] h (dE (aR (uT.getD n.toNat [])) h) := by
 obtain ⟨k, rfl⟩ := Int.eq_ofNat_of_zero_le h1
 exact gX hK k (by omega) h w
theorem B5 (hK : KN base K) (n : Int) (h1 : 0 ≤ n) (h2 : n < 20) (h : Heap) (w : Wf h) : Sp P K 76 [.int .i64 n] h (dE (aR (bT.getD n.toNat [])) h) := by
 obtain ⟨k, rfl⟩ := Int.eq_ofNat_of_zero_le h1
 exact nA hK k (by omega) h w
structure s6 (x : bI) : Prop where
 dB : nG x
 u : x.kind = 2 → 0 ≤ x.op ∧ x.op < 3
 b : x.kind = 3 → 0 ≤ x.op ∧ x.op < 20
 s : x.kind = 4 → 0 ≤ x.op ∧ x.op < 4
theorem np {l : List (List Nat)} {k : Nat} (h : ∀ x ∈ l, x.length ≤ 4) : (l.getD k []).length ≤ 4 := by
 by_cases hk : k < l.length
 ·exact h _ (aY _ hk)
 ·rw [List.getD, List.getElem?_eq_none (by omega)]; simp
theorem mask33 : Nat.lor (jm Tryz.f33) (Nat.sub (Nat.pow 2 1) 1) = 24320120850511845024061644935650417107858539768186383 := by kernel_rfl
theorem GX (hK : KN base K) (x : bI) (hx : s6 x) (h : Heap) (w : Wf h) : Sp P K 33 [.agg (ez x)] h (dE (aR (qo x)) h) := by
 obtain ⟨dB, hu, hb, hs⟩ := hx
 have f1 := dB.d
 have f2 := dB.a
 have f3 := dB.b
 have f4 := dB.cL
 have f5 := dB.to
 have f6 := dB.join
 have f7 := dB.kind
 have l1 := ry (n := x.d) (by omega) (by omega)
 have l2 := ry (n := x.a) (by omega) (by omega)
 have l3 := ry (n := x.b) (by omega) (by omega)
 have l4 := da (n := x.cL) (by omega) (by omega)
 have l5 := da (n := x.to) (by omega) (by omega)
 have l6 := da (n := x.join) (by omega) (by omega)
 have l7 := Hq x.op
 have l8 := np (l := uT) (k := x.op.toNat) (by decide)
 have l9 := np (l := bT) (k := x.op.toNat) (by decide)
 refine Sp.start (m := 24320120850511845024061644935650417107858539768186383) (n := 190) w (hK.none 33 rfl rfl _ _) Tryz.func33 rfl rfl mask33 rfl rfl ?_
 repeat' (first | refine aw.a_ ?_ | refine ag.s_ ?_ | (refine X 0 ?_; (iterate 2 refine J Z ?_) <;> (refine Y Z ?_)) | (refine X 1 ?_; (iterate 2 refine J Z ?_) <;> (refine .cons (qw hX Z Z Z Z (wI (by omega) (by omega)) Z Z ?_)) <;> (refine .cons (ao Z Z Z Z Mc Z Z (fun h f => w8 hK x.cL (by omega) (by omega) h f.wf) ?_)) <;> (refine J Z ?_) <;> (refine Y Z ?_)) | (refine X 2 ?_; (iterate 2 refine J Z ?_) <;> (refine Y Z ?_)) | (refine X 3 ?_; ((refine .cons (qc Z ?_ ?_)) <;> intro _) <;> (refine J Z ?_) <;> (refine Y Z ?_)) | (refine X 4 ?_; (iterate 2 refine J Z ?_) <;> (refine .cons (ao Z Z Z Z kH Z Z (fun h f => dy hK x.d (by omega) (by omega) h f.wf) ?_)) <;> (refine .cons (bd (b := [32, 61, 32]) Z Z Z (by simp only [List.length_append, List.length_cons, List.length_nil]; omega) Z Z ?_)) <;> (refine J Z ?_) <;> (refine .cons (bd Z Z Z (by simp only [List.length_append, List.length_cons, List.length_nil]; omega) Z Z ?_)) <;> (refine J Z ?_) <;> (refine Y Z ?_)) | (refine X 5 ?_; ((refine .cons (qc Z ?_ ?_)) <;> intro _) <;> (refine J Z ?_) <;> (refine Y Z ?_)) | (refine ag.draw (id := 6) ax [0, 1, 4, 5, 2, 3, 6, 7, 8] #[0, 1, 3, 7, 0, 16, 55, 127, 255] (by kernel_rfl) (by kernel_rfl) (by kernel_rfl) ?_; (refine .cq hX rfl rfl rfl ?_) <;> ((refine .cons rfl (q hX rfl ?_)) <;> refine ⟨_, .fw hX.ax rfl rfl rfl rfl rfl rfl rfl rfl (suB rfl) rfl rfl rfl, ?_⟩) <;> (refine .cq hX rfl rfl rfl ?_) <;> ((refine .cons rfl (q hX rfl ?_)) <;> refine ⟨_, .fw hX.ax rfl rfl rfl rfl rfl rfl rfl rfl (suB rfl) rfl rfl rfl, ?_⟩) <;> ((refine .cons rfl (ao rfl rfl rfl rfl kH rfl rfl (fun h f => dy hK x.d (by omega) (by omega) h f.wf) ?_)) <;> refine ⟨_, .comp rfl, ?_⟩) <;> ((refine .cons rfl (bd (b := [32, 61, 32]) rfl rfl rfl (by simp only [List.length_append, List.length_cons, List.length_nil]; omega) rfl rfl ?_)) <;> refine ⟨_, .comp rfl, ?_⟩) <;> ((refine .cons rfl (ao rfl rfl rfl rfl kH rfl rfl (fun h f => dy hK x.a (by omega) (by omega) h f.wf) ?_)) <;> refine ⟨_, .comp rfl, ?_⟩) <;> ((refine .cons rfl (bd rfl rfl rfl (by simp only [List.length_append, List.length_cons, List.length_nil]; omega) rfl rfl ?_)) <;> refine ⟨_, .comp rfl, ?_⟩) <;> (refine .cq hX rfl rfl rfl ?_) <;> (refine .nil ⟨?_, .intro rfl ?_⟩ <;> (repeat' (first | exact trivial | exact .inl rfl | exact .inr (.inl ⟨_, _, _, _, rfl, rfl, rfl⟩) | refine ⟨?_, ?_⟩)))) | (refine X 7 ?_; ((refine .cons (qc Z ?_ ?_)) <;> intro _) <;> (refine J Z ?_) <;> (refine Y Z ?_)) | (refine ag.draw (id := 8) ax [0, 1, 4, 5, 9, 10, 2, 3, 6, 7, 8, 11, 12, 13] #[0, 1, 3, 7, 0, 16, 55, 127, 255, 0, 512, 1655, 4095, 8191] (by kernel_rfl) (by kernel_rfl) (by kernel_rfl) ?_; (refine .cq hX rfl rfl rfl ?_) <;> ((refine .cons rfl (q hX rfl ?_)) <;> refine ⟨_, .fw hX.ax rfl rfl rfl rfl rfl rfl rfl rfl (suB rfl) rfl rfl rfl, ?_⟩) <;> (refine .cq hX rfl rfl rfl ?_) <;> ((refine .cons rfl (q hX rfl ?_)) <;> refine ⟨_, .fw hX.ax rfl rfl rfl rfl rfl rfl rfl rfl (suB rfl) rfl rfl rfl, ?_⟩) <;> (refine .cq hX rfl rfl rfl ?_) <;> ((refine .cons rfl (q hX rfl ?_)) <;> refine ⟨_, .fw hX.ax rfl rfl rfl rfl rfl rfl rfl rfl (suB rfl) rfl rfl rfl, ?_⟩) <;> ((refine .cons rfl (ao rfl rfl rfl rfl kH rfl rfl (fun h f => dy hK x.d (by omega) (by omega) h f.wf) ?_)) <;> refine ⟨_, .comp rfl, ?_⟩) <;> ((refine .cons rfl (bd (b := [32, 61, 32]) rfl rfl rfl (by simp only [List.length_append, List.length_cons, List.length_nil]; omega) rfl rfl ?_)) <;> refine ⟨_, .comp rfl, ?_⟩) <;> ((refine .cons rfl (ao rfl rfl rfl rfl Jc rfl rfl (fun h f => Bm hK x.op (by omega) (by omega) h f.wf) ?_)) <;> refine ⟨_, .comp rfl, ?_⟩) <;> ((refine .cons rfl (bd rfl rfl rfl (by simp only [List.length_append, List.length_cons, List.length_nil]; omega) rfl rfl ?_)) <;> refine ⟨_, .comp rfl, ?_⟩) <;> ((refine .cons rfl (bd (b := [32]) rfl rfl rfl (by simp only [List.length_append, List.length_cons, List.length_nil]; omega) rfl rfl ?_)) <;> refine ⟨_, .comp rfl, ?_⟩) <;> ((refine .cons rfl (ao rfl rfl rfl rfl kH rfl rfl (fun h f => dy hK x.a (by omega) (by omega) h f.wf) ?_)) <;> refine ⟨_, .comp rfl, ?_⟩) <;> ((refine .cons rfl (bd rfl rfl rfl (by simp only [List.length_append, List.length_cons, List.length_nil]; omega) rfl rfl ?_)) <;> refine ⟨_, .comp rfl, ?_⟩) <;> (refine .cq hX rfl rfl rfl ?_) <;> (refine .nil ⟨?_, .intro rfl ?_⟩ <;> (repeat' (first | exact trivial | exact .inl rfl | exact .inr (.inl ⟨_, _, _, _, rfl, rfl, rfl⟩) | refine ⟨?_, ?_⟩)))) | (refine X 9 ?_; ((refine .cons (qc Z ?_ ?_)) <;> intro _) <;> (refine J Z ?_) <;> (refine Y Z ?_)) | (refine ag.draw (id := 10) ax [0, 1, 4, 5, 9, 10, 14, 15, 2, 3, 6, 7, 8, 11, 12, 16, 13, 17, 18] #[0, 1, 3, 7, 0, 16, 55, 127, 255, 0, 512, 1655, 4095, 8191, 0, 16384, 52855, 131071, 262143] (by kernel_rfl) (by kernel_rfl) (by kernel_rfl) ?_; (refine .cq hX rfl rfl rfl ?_) <;> ((refine .cons rfl (q hX rfl ?_)) <;> refine ⟨_, .fw hX.ax rfl rfl rfl rfl rfl rfl rfl rfl (suB rfl) rfl rfl rfl, ?_⟩) <;> (refine .cq hX rfl rfl rfl ?_) <;> ((refine .cons rfl (q hX rfl ?_)) <;> refine ⟨_, .fw hX.ax rfl rfl rfl rfl rfl rfl rfl rfl (suB rfl) rfl rfl rfl, ?_⟩) <;> (refine .cq hX rfl rfl rfl ?_) <;> ((refine .cons rfl (q hX rfl ?_)) <;> refine ⟨_, .fw hX.ax rfl rfl rfl rfl rfl rfl rfl rfl (suB rfl) rfl rfl rfl, ?_⟩) <;> (refine .cq hX rfl rfl rfl ?_) <;> ((refine .cons rfl (q hX rfl ?_)) <;> refine ⟨_, .fw hX.ax rfl rfl rfl rfl rfl rfl rfl rfl (suB rfl) rfl rfl rfl, ?_⟩) <;> ((refine .cons rfl (ao rfl rfl rfl rfl kH rfl rfl (fun h f => dy hK x.d (by omega) (by omega) h f.wf) ?_)) <;> refine ⟨_, .comp rfl, ?_⟩) <;> ((refine .cons rfl (bd (b := [32, 61, 32]) rfl rfl rfl (by simp only [List.length_append, List.length_cons, List.length_nil]; omega) rfl rfl ?_)) <;> refine ⟨_, .comp rfl, ?_⟩) <;> ((refine .cons rfl (ao rfl rfl rfl rfl kH rfl rfl (fun h f => dy hK x.a (by omega) (by omega) h f.wf) ?_)) <;> refine ⟨_, .comp rfl, ?_⟩) <;> ((refine .cons rfl (bd rfl rfl rfl (by simp only [List.length_append, List.length_cons, List.length_nil]; omega) rfl rfl ?_)) <;> refine ⟨_, .comp rfl, ?_⟩) <;> ((refine .cons rfl (bd (b := [32]) rfl rfl rfl (by simp only [List.length_append, List.length_cons, List.length_nil]; omega) rfl rfl ?_)) <;> refine ⟨_, .comp rfl, ?_⟩) <;> ((refine .cons rfl (ao rfl rfl rfl rfl Mb rfl rfl (fun h f => B5 hK x.op (by omega) (by omega) h f.wf) ?_)) <;> refine ⟨_, .comp rfl, ?_⟩) <;> ((refine .cons rfl (bd rfl rfl rfl (by simp only [List.length_append, List.length_cons, List.length_nil]; omega) rfl rfl ?_)) <;> refine ⟨_, .comp rfl, ?_⟩) <;> ((refine .cons rfl (ao rfl rfl rfl rfl kH rfl rfl (fun h f => dy hK x.b (by omega) (by omega) h f.wf) ?_)) <;> refine ⟨_, .comp rfl, ?_⟩) <;> ((refine .cons rfl (bd (b := [32]) rfl rfl rfl (by simp only [List.length_append, List.length_cons, List.length_nil]; omega) rfl rfl ?_)) <;> refine ⟨_, .comp rfl, ?_⟩) <;> ((refine .cons rfl (bd rfl rfl rfl (by simp only [List.length_append, List.length_cons, List.length_nil]; omega) rfl rfl ?_)) <;> refine ⟨_, .comp rfl, ?_⟩) <;> (refine .cq hX rfl rfl rfl ?_) <;> (refine .nil ⟨?_, .intro rfl ?_⟩ <;> (repeat' (first | exact trivial | exact .inl rfl | exact .inr (.inl ⟨_, _, _, _, rfl, rfl, rfl⟩) | refine ⟨?_, ?_⟩)))) | (refine X 11 ?_; ((refine .cons (qc Z ?_ ?_)) <;> intro _) <;> (refine J Z ?_) <;> (refine Y Z ?_)) | (refine X 13 ?_; ((refine .cons (qc Z ?_ ?_)) <;> intro _) <;> (refine J Z ?_) <;> (refine Y Z ?_)) | (refine X 14 ?_; (iterate 2 refine J Z ?_) <;> (refine .cons (ao Z Z Z Z kH Z Z (fun h f => dy hK x.d (by omega) (by omega) h f.wf) ?_)) <;> (refine .cons (bd (b := [32, 61, 32, 112, 97, 114, 97, 109, 32]) Z Z Z (by simp only [List.length_append, List.length_cons, List.length_nil]; omega) Z Z ?_)) <;> (refine J Z ?_) <;> (refine .cons (bd Z Z Z (by simp only [List.length_append, List.length_cons, List.length_nil]; omega) Z Z ?_)) <;> (refine J Z ?_) <;> (refine Y Z ?_)) | (refine X 15 ?_; ((refine .cons (qc Z ?_ ?_)) <;> intro _) <;> (refine J Z ?_) <;> (refine Y Z ?_)) | (refine ag.draw (id := 16) ax [0, 1, 4, 7, 8, 2, 3, 9, 5, 6, 10, 11] #[0, 1, 3, 7, 0, 31, 63, 0, 128, 391, 1023, 2047] (by kernel_rfl) (by kernel_rfl) (by kernel_rfl) ?_; (refine .cq hX rfl rfl rfl ?_) <;> ((refine .cons rfl (q hX rfl ?_)) <;> refine ⟨_, .fw hX.ax rfl rfl rfl rfl rfl rfl rfl rfl (suB rfl) rfl rfl rfl, ?_⟩) <;> (iterate 2 refine .cq hX rfl rfl rfl ?_) <;> ((refine .cons rfl (q hX rfl ?_)) <;> refine ⟨_, .fw hX.ax rfl rfl rfl rfl rfl rfl rfl rfl (suB rfl) rfl rfl rfl, ?_⟩) <;> ((refine .cons rfl (ao rfl rfl rfl rfl kH rfl rfl (fun h f => dy hK x.d (by omega) (by omega) h f.wf) ?_)) <;> refine ⟨_, .comp rfl, ?_⟩) <;> ((refine .cons rfl (bd (b := [32, 61, 32, 97, 114, 114, 97, 121, 32]) rfl rfl rfl (by simp only [List.length_append, List.length_cons, List.length_nil]; omega) rfl rfl ?_)) <;> refine ⟨_, .comp rfl, ?_⟩) <;> ((refine .cons rfl (ao rfl rfl rfl rfl kH rfl rfl (fun h f => dy hK x.a (by omega) (by omega) h f.wf) ?_)) <;> refine ⟨_, .comp rfl, ?_⟩) <;> ((refine .cons rfl (bd rfl rfl rfl (by simp only [List.length_append, List.length_cons, List.length_nil]; omega) rfl rfl ?_)) <;> refine ⟨_, .comp rfl, ?_⟩) <;> ((refine .cons rfl (bd (b := [32]) rfl rfl rfl (by simp only [List.length_append, List.length_cons, List.length_nil]; omega) rfl rfl ?_)) <;> refine ⟨_, .comp rfl, ?_⟩) <;> ((refine .cons rfl (bd rfl rfl rfl (by simp only [List.length_append, List.length_cons, List.length_nil]; omega) rfl rfl ?_)) <;> refine ⟨_, .comp rfl, ?_⟩) <;> (refine .cq hX rfl rfl rfl ?_) <;> (refine .nil ⟨?_, .intro rfl ?_⟩ <;> (repeat' (first | exact trivial | exact .inl rfl | exact .inr (.inl ⟨_, _, _, _, rfl, rfl, rfl⟩) | refine ⟨?_, ?_⟩)))) | (refine X 17 ?_; ((refine .cons (qc Z ?_ ?_)) <;> intro _) <;> (refine J Z ?_) <;> (refine Y Z ?_)) | (refine ag.draw (id := 18) ax [0, 1, 2, 3, 4, 8, 9, 5, 6, 10, 7, 11, 12] #[0, 1, 3, 0, 8, 24, 63, 127, 0, 256, 824, 2047, 4095] (by kernel_rfl) (by kernel_rfl) (by kernel_rfl) ?_; (refine .cq hX rfl rfl rfl ?_) <;> ((refine .cons rfl (bd (a := [97, 114, 114, 97, 121, 32]) rfl rfl rfl (by simp only [List.length_append, List.length_cons, List.length_nil]; omega) rfl rfl ?_)) <;> refine ⟨_, .comp rfl, ?_⟩) <;> ((refine .cons rfl (bd (b := [32]) rfl rfl rfl (by simp only [List.length_append, List.length_cons, List.length_nil]; omega) rfl rfl ?_)) <;> refine ⟨_, .comp rfl, ?_⟩) <;> (refine .cq hX rfl rfl rfl ?_) <;> ((refine .cons rfl (q hX rfl ?_)) <;> refine ⟨_, .fw hX.ax rfl rfl rfl rfl rfl rfl rfl rfl (suB rfl) rfl rfl rfl, ?_⟩) <;> (refine .cq hX rfl rfl rfl ?_) <;> ((refine .cons rfl (q hX rfl ?_)) <;> refine ⟨_, .fw hX.ax rfl rfl rfl rfl rfl rfl rfl rfl (suB rfl) rfl rfl rfl, ?_⟩) <;> ((refine .cons rfl (ao rfl rfl rfl rfl kH rfl rfl (fun h f => dy hK x.a (by omega) (by omega) h f.wf) ?_)) <;> refine ⟨_, .comp rfl, ?_⟩) <;> ((refine .cons rfl (bd rfl rfl rfl (by simp only [List.length_append, List.length_cons, List.length_nil]; omega) rfl rfl ?_)) <;> refine ⟨_, .comp rfl, ?_⟩) <;> ((refine .cons rfl (ao rfl rfl rfl rfl kH rfl rfl (fun h f => dy hK x.b (by omega) (by omega) h f.wf) ?_)) <;> refine ⟨_, .comp rfl, ?_⟩) <;> ((refine .cons rfl (bd (b := [32, 61, 32]) rfl rfl rfl (by simp only [List.length_append, List.length_cons, List.length_nil]; omega) rfl rfl ?_)) <;> refine ⟨_, .comp rfl, ?_⟩) <;> ((refine .cons rfl (bd rfl rfl rfl (by simp only [List.length_append, List.length_cons, List.length_nil]; omega) rfl rfl ?_)) <;> refine ⟨_, .comp rfl, ?_⟩) <;> (refine .cq hX rfl rfl rfl ?_) <;> (refine .nil ⟨?_, .intro rfl ?_⟩ <;> (repeat' (first | exact trivial | exact .inl rfl | exact .inr (.inl ⟨_, _, _, _, rfl, rfl, rfl⟩) | refine ⟨?_, ?_⟩)))) | (refine X 19 ?_; ((refine .cons (qc Z ?_ ?_)) <;> intro _) <;> (refine J Z ?_) <;> (refine Y Z ?_)) | (refine ag.draw (id := 20) ax [0, 1, 5, 8, 9, 13, 14, 2, 3, 10, 4, 6, 7, 11, 12, 15, 16, 17] #[0, 1, 3, 7, 15, 0, 63, 127, 0, 256, 775, 2047, 4095, 0, 8192, 26375, 65535, 131071] (by kernel_rfl) (by kernel_rfl) (by kernel_rfl) ?_; (refine .cq hX rfl rfl rfl ?_) <;> ((refine .cons rfl (q hX rfl ?_)) <;> refine ⟨_, .fw hX.ax rfl rfl rfl rfl rfl rfl rfl rfl (suB rfl) rfl rfl rfl, ?_⟩) <;> (iterate 2 refine .cq hX rfl rfl rfl ?_) <;> ((refine .cons rfl (q hX rfl ?_)) <;> refine ⟨_, .fw hX.ax rfl rfl rfl rfl rfl rfl rfl rfl (suB rfl) rfl rfl rfl, ?_⟩) <;> (refine .cq hX rfl rfl rfl ?_) <;> ((refine .cons rfl (q hX rfl ?_)) <;> refine ⟨_, .fw hX.ax rfl rfl rfl rfl rfl rfl rfl rfl (suB rfl) rfl rfl rfl, ?_⟩) <;> ((refine .cons rfl (ao rfl rfl rfl rfl KP rfl rfl (fun h f => lZ hK x.op h f.wf) ?_)) <;> refine ⟨_, .comp rfl, ?_⟩) <;> ((refine .cons rfl (bd (a := [97, 116, 111, 109, 105, 99, 32]) rfl rfl rfl (by simp only [List.length_append, List.length_cons, List.length_nil]; omega) rfl rfl ?_)) <;> refine ⟨_, .comp rfl, ?_⟩) <;> ((refine .cons rfl (ao rfl rfl rfl rfl kH rfl rfl (fun h f => dy hK x.a (by omega) (by omega) h f.wf) ?_)) <;> refine ⟨_, .comp rfl, ?_⟩) <;> ((refine .cons rfl (bd (b := [32, 97, 114, 114, 97, 121, 32]) rfl rfl rfl (by simp only [List.length_append, List.length_cons, List.length_nil]; omega) rfl rfl ?_)) <;> refine ⟨_, .comp rfl, ?_⟩) <;> ((refine .cons rfl (bd rfl rfl rfl (by simp only [List.length_append, List.length_cons, List.length_nil]; omega) rfl rfl ?_)) <;> refine ⟨_, .comp rfl, ?_⟩) <;> ((refine .cons rfl (bd (b := [32]) rfl rfl rfl (by simp only [List.length_append, List.length_cons, List.length_nil]; omega) rfl rfl ?_)) <;> refine ⟨_, .comp rfl, ?_⟩) <;> ((refine .cons rfl (bd rfl rfl rfl (by simp only [List.length_append, List.length_cons, List.length_nil]; omega) rfl rfl ?_)) <;> refine ⟨_, .comp rfl, ?_⟩) <;> ((refine .cons rfl (bd (b := [32]) rfl rfl rfl (by simp only [List.length_append, List.length_cons, List.length_nil]; omega) rfl rfl ?_)) <;> refine ⟨_, .comp rfl, ?_⟩) <;> ((refine .cons rfl (ao rfl rfl rfl rfl kH rfl rfl (fun h f => dy hK x.b (by omega) (by omega) h f.wf) ?_)) <;> refine ⟨_, .comp rfl, ?_⟩) <;> ((refine .cons rfl (bd rfl rfl rfl (by simp only [List.length_append, List.length_cons, List.length_nil]; omega) rfl rfl ?_)) <;> refine ⟨_, .comp rfl, ?_⟩) <;> (refine .cq hX rfl rfl rfl ?_) <;> (refine .nil ⟨?_, .intro rfl ?_⟩ <;> (repeat' (first | exact trivial | exact .inl rfl | exact .inr (.inl ⟨_, _, _, _, rfl, rfl, rfl⟩) | refine ⟨?_, ?_⟩)))) | (refine X 21 ?_; ((refine .cons (qc Z ?_ ?_)) <;> intro _) <;> (refine J Z ?_) <;> (refine Y Z ?_)) | (refine X 22 ?_; (refine J Z ?_) <;> (refine .cons (bd (a := [98, 97, 114, 114, 105, 101, 114, 32]) Z Z Z (by simp only [List.length_append, List.length_cons, List.length_nil]; omega) Z Z ?_)) <;> (refine J Z ?_) <;> (refine Y Z ?_)) | (refine X 23 ?_; ((refine .cons (qc Z ?_ ?_)) <;> intro _) <;> (refine J Z ?_) <;> (refine Y Z ?_)) | (refine ag.draw (id := 24) ax [0, 1, 4, 5, 9, 10, 14, 2, 3, 6, 7, 8, 11, 12, 13, 15, 16] #[0, 1, 3, 7, 0, 16, 55, 127, 255, 0, 512, 1655, 4095, 8191, 0, 32767, 65535] (by kernel_rfl) (by kernel_rfl) (by kernel_rfl) ?_; (refine .cq hX rfl rfl rfl ?_) <;> ((refine .cons rfl (q hX rfl ?_)) <;> refine ⟨_, .fw hX.ax rfl rfl rfl rfl rfl rfl rfl rfl (suB rfl) rfl rfl rfl, ?_⟩) <;> (refine .cq hX rfl rfl rfl ?_) <;> ((refine .cons rfl (q hX rfl ?_)) <;> refine ⟨_, .fw hX.ax rfl rfl rfl rfl rfl rfl rfl rfl (suB rfl) rfl rfl rfl, ?_⟩) <;> (refine .cq hX rfl rfl rfl ?_) <;> ((refine .cons rfl (q hX rfl ?_)) <;> refine ⟨_, .fw hX.ax rfl rfl rfl rfl rfl rfl rfl rfl (suB rfl) rfl rfl rfl, ?_⟩) <;> (refine .cq hX rfl rfl rfl ?_) <;> ((refine .cons rfl (ao rfl rfl rfl rfl kH rfl rfl (fun h f => dy hK x.d (by omega) (by omega) h f.wf) ?_)) <;> refine ⟨_, .comp rfl, ?_⟩) <;> ((refine .cons rfl (bd (b := [32, 61, 32, 99, 111, 108, 108, 101, 99, 116, 32]) rfl rfl rfl (by simp only [List.length_append, List.length_cons, List.length_nil]; omega) rfl rfl ?_)) <;> refine ⟨_, .comp rfl, ?_⟩) <;> ((refine .cons rfl (ao rfl rfl rfl rfl KP rfl rfl (fun h f => lZ hK x.op h f.wf) ?_)) <;> refine ⟨_, .comp rfl, ?_⟩) <;> ((refine .cons rfl (bd rfl rfl rfl (by simp only [List.length_append, List.length_cons, List.length_nil]; omega) rfl rfl ?_)) <;> refine ⟨_, .comp rfl, ?_⟩) <;> ((refine .cons rfl (bd (b := [32]) rfl rfl rfl (by simp only [List.length_append, List.length_cons, List.length_nil]; omega) rfl rfl ?_)) <;> refine ⟨_, .comp rfl, ?_⟩) <;> ((refine .cons rfl (ao rfl rfl rfl rfl kH rfl rfl (fun h f => dy hK x.a (by omega) (by omega) h f.wf) ?_)) <;> refine ⟨_, .comp rfl, ?_⟩) <;> ((refine .cons rfl (bd rfl rfl rfl (by simp only [List.length_append, List.length_cons, List.length_nil]; omega) rfl rfl ?_)) <;> refine ⟨_, .comp rfl, ?_⟩) <;> ((refine .cons rfl (bd (b := [32]) rfl rfl rfl (by simp only [List.length_append, List.length_cons, List.length_nil]; omega) rfl rfl ?_)) <;> refine ⟨_, .comp rfl, ?_⟩) <;> ((refine .cons rfl (bd rfl rfl rfl (by simp only [List.length_append, List.length_cons, List.length_nil]; omega) rfl rfl ?_)) <;> refine ⟨_, .comp rfl, ?_⟩) <;> (refine .cq hX rfl rfl rfl ?_) <;> (refine .nil ⟨?_, .intro rfl ?_⟩ <;> (repeat' (first | exact trivial | exact .inl rfl | exact .inr (.inl ⟨_, _, _, _, rfl, rfl, rfl⟩) | refine ⟨?_, ?_⟩)))) | (refine X 25 ?_; ((refine .cons (qc Z ?_ ?_)) <;> intro _) <;> (refine J Z ?_) <;> (refine Y Z ?_)) | (refine X 26 ?_; (iterate 2 refine J Z ?_) <;> (refine .cons (ao Z Z Z Z kH Z Z (fun h f => dy hK x.d (by omega) (by omega) h f.wf) ?_)) <;> (refine .cons (bd (b := [32, 61, 32, 108, 111, 99, 97, 108, 32]) Z Z Z (by simp only [List.length_append, List.length_cons, List.length_nil]; omega) Z Z ?_)) <;> (refine J Z ?_) <;> (refine .cons (bd Z Z Z (by simp only [List.length_append, List.length_cons, List.length_nil]; omega) Z Z ?_)) <;> (refine J Z ?_) <;> (refine Y Z ?_)) | (refine X 27 ?_; ((refine .cons (qc Z ?_ ?_)) <;> intro _) <;> (refine J Z ?_) <;> (refine Y Z ?_)) | (refine X 28 ?_; (refine J Z ?_) <;> (refine .cons (bd (a := [108, 111, 99, 97, 108, 32]) Z Z Z (by simp only [List.length_append, List.length_cons, List.length_nil]; omega) Z Z ?_)) <;> (refine .cons (bd (b := [32, 61, 32]) Z Z Z (by simp only [List.length_append, List.length_cons, List.length_nil]; omega) Z Z ?_)) <;> (iterate 2 refine J Z ?_) <;> (refine .cons (ao Z Z Z Z kH Z Z (fun h f => dy hK x.a (by omega) (by omega) h f.wf) ?_)) <;> (refine .cons (bd Z Z Z (by simp only [List.length_append, List.length_cons, List.length_nil]; omega) Z Z ?_)) <;> (refine J Z ?_) <;> (refine Y Z ?_)) | (refine X 29 ?_; ((refine .cons (qc Z ?_ ?_)) <;> intro _) <;> (refine J Z ?_) <;> (refine Y Z ?_)) | (refine X 30 ?_; (iterate 2 refine J Z ?_) <;> (refine .cons (ao Z Z Z Z CO Z Z (fun h f => lS hK x.to (by omega) (by omega) h f.wf) ?_)) <;> (refine .cons (bd (a := [106, 117, 109, 112, 32]) Z Z Z (by simp only [List.length_append, List.length_cons, List.length_nil]; omega) Z Z ?_)) <;> (refine J Z ?_) <;> (refine Y Z ?_)) | (refine X 31 ?_; ((refine .cons (qc Z ?_ ?_)) <;> intro _) <;> (refine J Z ?_) <;> (refine Y Z ?_)) | (refine ag.draw (id := 32) ax [0, 1, 5, 6, 10, 11, 2, 3, 7, 4, 8, 9, 12, 13, 14] #[0, 1, 3, 7, 15, 0, 32, 103, 255, 511, 0, 1024, 3303, 8191, 16383] (by kernel_rfl) (by kernel_rfl) (by kernel_rfl) ?_; (refine .cq hX rfl rfl rfl ?_) <;> ((refine .cons rfl (q hX rfl ?_)) <;> refine ⟨_, .fw hX.ax rfl rfl rfl rfl rfl rfl rfl rfl (suB rfl) rfl rfl rfl, ?_⟩) <;> (refine .cq hX rfl rfl rfl ?_) <;> ((refine .cons rfl (q hX rfl ?_)) <;> refine ⟨_, .fw hX.ax rfl rfl rfl rfl rfl rfl rfl rfl (suB rfl) rfl rfl rfl, ?_⟩) <;> (refine .cq hX rfl rfl rfl ?_) <;> ((refine .cons rfl (q hX rfl ?_)) <;> refine ⟨_, .fw hX.ax rfl rfl rfl rfl rfl rfl rfl rfl (suB rfl) rfl rfl rfl, ?_⟩) <;> ((refine .cons rfl (ao rfl rfl rfl rfl kH rfl rfl (fun h f => dy hK x.a (by omega) (by omega) h f.wf) ?_)) <;> refine ⟨_, .comp rfl, ?_⟩) <;> ((refine .cons rfl (bd (a := [98, 114, 97, 110, 99, 104, 32]) rfl rfl rfl (by simp only [List.length_append, List.length_cons, List.length_nil]; omega) rfl rfl ?_)) <;> refine ⟨_, .comp rfl, ?_⟩) <;> ((refine .cons rfl (ao rfl rfl rfl rfl CO rfl rfl (fun h f => lS hK x.to (by omega) (by omega) h f.wf) ?_)) <;> refine ⟨_, .comp rfl, ?_⟩) <;> ((refine .cons rfl (bd (b := [32]) rfl rfl rfl (by simp only [List.length_append, List.length_cons, List.length_nil]; omega) rfl rfl ?_)) <;> refine ⟨_, .comp rfl, ?_⟩) <;> ((refine .cons rfl (bd rfl rfl rfl (by simp only [List.length_append, List.length_cons, List.length_nil]; omega) rfl rfl ?_)) <;> refine ⟨_, .comp rfl, ?_⟩) <;> ((refine .cons rfl (bd (b := [32, 106, 111, 105, 110, 32]) rfl rfl rfl (by simp only [List.length_append, List.length_cons, List.length_nil]; omega) rfl rfl ?_)) <;> refine ⟨_, .comp rfl, ?_⟩) <;> ((refine .cons rfl (ao rfl rfl rfl rfl CO rfl rfl (fun h f => lS hK x.join (by omega) (by omega) h f.wf) ?_)) <;> refine ⟨_, .comp rfl, ?_⟩) <;> ((refine .cons rfl (bd rfl rfl rfl (by simp only [List.length_append, List.length_cons, List.length_nil]; omega) rfl rfl ?_)) <;> refine ⟨_, .comp rfl, ?_⟩) <;> (refine .cq hX rfl rfl rfl ?_) <;> (refine .nil ⟨?_, .intro rfl ?_⟩ <;> (repeat' (first | exact trivial | exact .inl rfl | exact .inr (.inl ⟨_, _, _, _, rfl, rfl, rfl⟩) | refine ⟨?_, ?_⟩)))) | (refine X 33 ?_; (refine J Z ?_) <;> (refine Y Z ?_)) | refine ag.r_ ?_ | refine aw.d_ ?_ | refine aw.f_ ?_ | refine ag.t_ rfl ?_ | refine ag.f_ rfl ?_ | refine ag.k_ ?_ | refine ag.b_ ?_ | refine aw.b_ ?_ | refine aw.r_ hX rfl ?_)
 case' refine_2.refine_2.refine_2.refine_2.refine_1 =>
  have h4 : x.kind = 4 := by omega
  obtain ⟨s1, s2⟩ := hs h4
  have hop : x.op = 0 ∨ x.op = 1 ∨ x.op = 2 ∨ x.op = 3 := by omega
  obtain ⟨kind, op, d, a, b, cL, to, join⟩ := x
  simp only at *
  rcases hop with rfl | rfl | rfl | rfl
  all_goals
   repeat' (first | refine aw.a_ ?_ | (refine ag.draw (id := 12) ax [0, 1, 4, 5, 6, 7, 8, 2, 3, 9, 10] #[0, 1, 3, 7, 0, 0, 32, 112, 240, 511, 1023] (by kernel_rfl) (by kernel_rfl) (by kernel_rfl) ?_; (refine .cq hX rfl rfl rfl ?_) <;> ((refine .cons rfl (q hX rfl ?_)) <;> refine ⟨_, .fw hX.ax rfl rfl rfl rfl rfl rfl rfl rfl (suB rfl) rfl rfl rfl, ?_⟩) <;> (iterate 2 refine .cq hX rfl rfl rfl ?_) <;> ((refine .cons rfl (q hX rfl ?_)) <;> refine ⟨_, .fw hX.ax rfl rfl rfl rfl rfl rfl rfl rfl (suB rfl) rfl rfl rfl, ?_⟩) <;> ((refine .cons rfl (Gm hX rfl rfl rfl rfl rfl (by decide) rfl rfl ?_)) <;> refine ⟨_, .comp rfl, ?_⟩) <;> ((refine .cons rfl (q hX rfl ?_)) <;> refine ⟨_, .fw hX.ax rfl rfl rfl rfl rfl rfl rfl rfl (suB rfl) rfl rfl rfl, ?_⟩) <;> ((refine .cons rfl (ao rfl rfl rfl rfl kH rfl rfl (fun h f => dy hK d (by omega) (by omega) h f.wf) ?_)) <;> refine ⟨_, .comp rfl, ?_⟩) <;> ((refine .cons rfl (bd (b := [32, 61, 32]) rfl rfl rfl (by simp only [List.length_append, List.length_cons, List.length_nil]; omega) rfl rfl ?_)) <;> refine ⟨_, .comp rfl, ?_⟩) <;> (first | (refine .cons rfl (bd (b := [116, 105, 100]) rfl rfl rfl (by simp only [List.length_append, List.length_cons, List.length_nil]; omega) rfl rfl ?_)) <;> refine ⟨_, .comp rfl, ?_⟩ | (refine .cons rfl (bd (b := [98, 105, 100]) rfl rfl rfl (by simp only [List.length_append, List.length_cons, List.length_nil]; omega) rfl rfl ?_)) <;> refine ⟨_, .comp rfl, ?_⟩ | (refine .cons rfl (bd (b := [100, 105, 109]) rfl rfl rfl (by simp only [List.length_append, List.length_cons, List.length_nil]; omega) rfl rfl ?_)) <;> refine ⟨_, .comp rfl, ?_⟩ | (refine .cons rfl (bd (b := [103, 114, 105, 100]) rfl rfl rfl (by simp only [List.length_append, List.length_cons, List.length_nil]; omega) rfl rfl ?_)) <;> refine ⟨_, .comp rfl, ?_⟩) <;> (refine .cq hX rfl rfl rfl ?_) <;> (refine .nil ⟨?_, .intro rfl ?_⟩ <;> (repeat' (first | exact trivial | exact .inl rfl | exact .inr (.inl ⟨_, _, _, _, rfl, rfl, rfl⟩) | refine ⟨?_, ?_⟩)))) | refine ag.r_ ?_ | refine aw.d_ ?_ | refine aw.f_ ?_ | refine aw.r_ hX rfl ?_)
 all_goals
  refine fun h f => ⟨?_, f.aS⟩
  unfold qo
  simp only [*, ↓reduceIte]
  rfl
end Ev
end Go.HL
