/- The walk: width, digits, the reference's lines. No statement of the seat stands here. -/
import Derived.Test.YtngeipnhbigdmaaGreatDoorMD
import Derived.Test.YtngeipnhbigdmaaGreatDoorXC
set_option linter.unusedVariables false
set_option linter.unusedSimpArgs false
namespace Go.HL
open Go
noncomputable section
namespace Ev
open Em
noncomputable def aw : iO := [(2, .int .i64, 1), (3, .int .i64, 1), (4, .bool, 1), (5, .int .u8, 1), (9, .str, 1), (21, .int .i32, 1), (22, .slice 70, 1), (23, .slice 72, 1), (24, .slice 74, 1), (26, .struct [(0, 9), (1, 22), (2, 23), (3, 3), (4, 24)], 5), (29, .slice 42, 1), (30, .int .i64, 1), (42, .int .u32, 1), (45, .slice 108, 1), (47, .struct [(0, 9), (1, 22), (2, 23), (3, 3), (4, 45)], 5), (70, .struct [(0, 9), (1, 4)], 2), (72, .struct [(0, 9), (1, 3)], 2), (74, .struct [(0, 3), (1, 3), (2, 3), (3, 3), (4, 3), (5, 21), (6, 3), (7, 3)], 8), (80, .struct [(0, 4), (1, 4), (2, 4), (3, 4), (4, 4), (5, 4), (6, 4), (7, 4), (8, 4), (9, 4), (10, 4), (11, 3)], 12), (100, .slice 9, 1), (106, .slice 111, 1), (108, .struct [(0, 106), (1, 3), (2, 3), (3, 3), (4, 3)], 5), (109, .slice 3, 1), (111, .struct [(0, 3), (1, 3), (2, 3), (3, 3), (4, 3), (5, 21), (6, 109)], 7), (139, .ref, 1), (140, .slice 5, 1), (142, .struct [(0, 139), (1, 140)], 2), (245, .ref, 1), (247, .struct [(0, 9), (1, 245), (2, 3)], 3), (248, .slice 247, 1), (342, .array 3 9, 3)]
theorem hT : bH P aw = true := by kernel_rfl
theorem z2 : ag P 2 = some [.int .i64 0] := by kernel_rfl
theorem b2 : P.bytesOf 2 = 8 := by kernel_rfl
theorem z3 : ag P 3 = some [.int .i64 0] := by kernel_rfl
theorem z4 : ag P 4 = some [.bool false] := by kernel_rfl
theorem z5 : ag P 5 = some [.int .u8 0] := by kernel_rfl
theorem b5 : P.bytesOf 5 = 1 := by kernel_rfl
theorem z9 : ag P 9 = some [.str 0 0] := by kernel_rfl
theorem b9 : P.bytesOf 9 = 16 := by kernel_rfl
theorem z21 : ag P 21 = some [.int .i32 0] := by kernel_rfl
theorem Q1 : ag P 22 = some [.aC] := by kernel_rfl
theorem PZ : ag P 23 = some [.aC] := by kernel_rfl
theorem z24 : ag P 24 = some [.aC] := by kernel_rfl
theorem PV : ag P 26 = some [.str 0 0, .aC, .aC, .int .i64 0, .aC] := by kernel_rfl
theorem PU : ag P 29 = some [.aC] := by kernel_rfl
theorem PT : ag P 30 = some [.int .i64 0] := by kernel_rfl
theorem PQ : ag P 42 = some [.int .u32 0] := by kernel_rfl
theorem NV : P.bytesOf 42 = 4 := by kernel_rfl
theorem z45 : ag P 45 = some [.aC] := by kernel_rfl
theorem z47 : ag P 47 = some [.str 0 0, .aC, .aC, .int .i64 0, .aC] := by kernel_rfl
theorem z70 : ag P 70 = some [.str 0 0, .bool false] := by kernel_rfl
theorem PL : P.bytesOf 70 = 24 := by kernel_rfl
theorem z72 : ag P 72 = some [.str 0 0, .int .i64 0] := by kernel_rfl
theorem QO : P.bytesOf 72 = 24 := by kernel_rfl
theorem PO : ag P 74 = some [.int .i64 0, .int .i64 0, .int .i64 0, .int .i64 0, .int .i64 0, .int .i32 0, .int .i64 0, .int .i64 0] := by kernel_rfl
theorem QN : P.bytesOf 74 = 64 := by kernel_rfl
theorem z80 : ag P 80 = some [.bool false, .bool false, .bool false, .bool false, .bool false, .bool false, .bool false, .bool false, .bool false, .bool false, .bool false, .int .i64 0] := by kernel_rfl
theorem MD : ag P 100 = some [.aC] := by kernel_rfl
theorem Q6 : ag P 106 = some [.aC] := by kernel_rfl
theorem Q5 : ag P 108 = some [.aC, .int .i64 0, .int .i64 0, .int .i64 0, .int .i64 0] := by kernel_rfl
theorem z109 : ag P 109 = some [.aC] := by kernel_rfl
theorem Q4 : ag P 111 = some [.int .i64 0, .int .i64 0, .int .i64 0, .int .i64 0, .int .i64 0, .int .i32 0, .aC] := by kernel_rfl
theorem z139 : ag P 139 = some [.gi] := by kernel_rfl
-- 139: a pointer to 142
theorem MC : ag P 140 = some [.aC] := by kernel_rfl
theorem Q3 : ag P 142 = some [.gi, .aC] := by kernel_rfl
theorem PY : ag P 245 = some [.nj] := by kernel_rfl
theorem PX : ag P 247 = some [.str 0 0, .nj, .int .i64 0] := by kernel_rfl
theorem PW : ag P 248 = some [.aC] := by kernel_rfl
theorem PR : ag P 342 = some [.str 0 0, .str 0 0, .str 0 0] := by kernel_rfl
-- 342: 3 of 9
theorem PS : ag P 339 = some [.gi] := by kernel_rfl
theorem Mm : Nat.lor (bB Go.Proofs.Tryz.f6) (Nat.sub (Nat.pow 2 3) 1) = 166153499492457297226809949466525647 := by kernel_rfl
theorem R4 : az P 7 := ⟨_, _, Go.Proofs.Tryz.func7, rfl, by kernel_rfl, rfl⟩
theorem ca9 : az P 9 := ⟨_, _, Go.Proofs.Tryz.func9, rfl, by kernel_rfl, rfl⟩
theorem QK : az P 11 := ⟨_, _, Go.Proofs.Tryz.func11, rfl, by kernel_rfl, rfl⟩
theorem Nd : Nat.lor (bB Go.Proofs.Tryz.f19) (Nat.sub (Nat.pow 2 1) 1) = 10633823968755211784176707178384604413 := by kernel_rfl
theorem Pj : az P 19 := ⟨_, _, Go.Proofs.Tryz.func19, rfl, by kernel_rfl, rfl⟩
theorem Nc : Nat.lor (bB Go.Proofs.Tryz.f21) (Nat.sub (Nat.pow 2 1) 1) = 618970056608308448888619263 := by kernel_rfl
theorem QJ : az P 21 := ⟨_, _, Go.Proofs.Tryz.func21, rfl, by kernel_rfl, rfl⟩
theorem Na : Nat.lor (bB Go.Proofs.Tryz.f31) (Nat.sub (Nat.pow 2 1) 1) = 540440201696641967 := by kernel_rfl
theorem Pe : az P 31 := ⟨_, _, Go.Proofs.Tryz.func31, rfl, by kernel_rfl, rfl⟩
theorem Pd : az P 48 := ⟨_, _, Go.Proofs.Tryz.func48, rfl, by kernel_rfl, rfl⟩
theorem qz : az P 49 := ⟨_, _, Go.Proofs.Tryz.func49, rfl, by kernel_rfl, rfl⟩
theorem N6 : Nat.lor (bB Go.Proofs.Tryz.f50) (Nat.sub (Nat.pow 2 1) 1) = 85075784036996973239212380010840064077 := by kernel_rfl
theorem QE : az P 50 := ⟨_, _, Go.Proofs.Tryz.func50, rfl, by kernel_rfl, rfl⟩
theorem K8 : az P 68 := ⟨_, _, Go.Proofs.Tryz.func68, rfl, by kernel_rfl, rfl⟩
theorem K7 : az P 69 := ⟨_, _, Go.Proofs.Tryz.func69, rfl, by kernel_rfl, rfl⟩
theorem Cr : az P 70 := ⟨_, _, Go.Proofs.Tryz.func70, rfl, by kernel_rfl, rfl⟩
theorem N4 : Nat.lor (bB Go.Proofs.Tryz.f71) (Nat.sub (Nat.pow 2 1) 1) = 5276041190745505870876331431952511 := by kernel_rfl
theorem QB : az P 71 := ⟨_, _, Go.Proofs.Tryz.func71, rfl, by kernel_rfl, rfl⟩
theorem QA : az P 72 := ⟨_, _, Go.Proofs.Tryz.func72, rfl, by kernel_rfl, rfl⟩
theorem Qw : az P 90 := ⟨_, _, Go.Proofs.Tryz.func90, rfl, by kernel_rfl, rfl⟩
theorem Pc : az P 91 := ⟨_, _, Go.Proofs.Tryz.func91, rfl, by kernel_rfl, rfl⟩
theorem MY : Nat.lor (bB Go.Proofs.Tryz.f92) (Nat.sub (Nat.pow 2 2) 1) = 1517496042198921570502388987760221864113213683 := by kernel_rfl
theorem Qv : az P 92 := ⟨_, _, Go.Proofs.Tryz.func92, rfl, by kernel_rfl, rfl⟩
theorem tz : az P 93 := ⟨_, _, Go.Proofs.Tryz.func93, rfl, by kernel_rfl, rfl⟩
theorem Pb : az P 94 := ⟨_, _, Go.Proofs.Tryz.func94, rfl, by kernel_rfl, rfl⟩
theorem Fc : Nat.lor (bB Go.Proofs.Tryz.f136) (Nat.sub (Nat.pow 2 1) 1) = 524353 := by kernel_rfl
theorem Pu : az P 136 := ⟨_, _, Go.Proofs.Tryz.func136, rfl, by kernel_rfl, rfl⟩
theorem Pt : az P 137 := ⟨_, _, Go.Proofs.Tryz.func137, rfl, by kernel_rfl, rfl⟩
theorem Ka : az P 139 := ⟨_, _, Go.Proofs.Tryz.func139, rfl, by kernel_rfl, rfl⟩
theorem Ps : az P 140 := ⟨_, _, Go.Proofs.Tryz.func140, rfl, by kernel_rfl, rfl⟩
theorem Pr : az P 141 := ⟨_, _, Go.Proofs.Tryz.func141, rfl, by kernel_rfl, rfl⟩
theorem Mv : az P 142 := ⟨_, _, Go.Proofs.Tryz.func142, rfl, by kernel_rfl, rfl⟩
theorem K9 : az P 143 := ⟨_, _, Go.Proofs.Tryz.func143, rfl, by kernel_rfl, rfl⟩
theorem L7 : Nat.lor (bB Go.Proofs.Tryz.f144) (Nat.sub (Nat.pow 2 1) 1) = 1079421 := by kernel_rfl
theorem Mu : az P 144 := ⟨_, _, Go.Proofs.Tryz.func144, rfl, by kernel_rfl, rfl⟩
theorem L6 : Nat.lor (bB Go.Proofs.Tryz.f161) (Nat.sub (Nat.pow 2 2) 1) = 67571 := by kernel_rfl
theorem FE : az P 161 := ⟨_, _, Go.Proofs.Tryz.func161, rfl, by kernel_rfl, rfl⟩
theorem Pm : az P 162 := ⟨_, _, Go.Proofs.Tryz.func162, rfl, by kernel_rfl, rfl⟩
theorem Mr : az P 163 := ⟨_, _, Go.Proofs.Tryz.func163, rfl, by kernel_rfl, rfl⟩
theorem Pk : az P 166 := ⟨_, _, Go.Proofs.Tryz.func166, rfl, by kernel_rfl, rfl⟩
noncomputable def zl : List (Nat × List aa) := [(2, [.int .i64 0]), (3, [.int .i64 0]), (4, [.bool false]), (5, [.int .u8 0]), (9, [.str 0 0]), (21, [.int .i32 0]), (22, [.aC]), (23, [.aC]), (24, [.aC]), (26, [.str 0 0, .aC, .aC, .int .i64 0, .aC]), (29, [.aC]), (30, [.int .i64 0]), (42, [.int .u32 0]), (45, [.aC]), (47, [.str 0 0, .aC, .aC, .int .i64 0, .aC]), (70, [.str 0 0, .bool false]), (72, [.str 0 0, .int .i64 0]), (74, [.int .i64 0, .int .i64 0, .int .i64 0, .int .i64 0, .int .i64 0, .int .i32 0, .int .i64 0, .int .i64 0]), (80, [.bool false, .bool false, .bool false, .bool false, .bool false, .bool false, .bool false, .bool false, .bool false, .bool false, .bool false, .int .i64 0]), (100, [.aC]), (106, [.aC]), (108, [.aC, .int .i64 0, .int .i64 0, .int .i64 0, .int .i64 0]), (109, [.aC]), (111, [.int .i64 0, .int .i64 0, .int .i64 0, .int .i64 0, .int .i64 0, .int .i32 0, .aC]), (139, [.gi]), (140, [.aC]), (142, [.gi, .aC]), (245, [.nj]), (247, [.str 0 0, .nj, .int .i64 0]), (248, [.aC]), (342, [.str 0 0, .str 0 0, .str 0 0]), (339, [.gi])]
theorem hX : TK P aw zl := ⟨hT, z2, z3, z4, z5, z9, z21, Q1, PZ, z24, PV, PU, PT, PQ, z45, z47, z70, z72, PO, z80, MD, Q6, Q5, z109, Q4, z139, MC, Q3, PY, PX, PW, PR, PS, trivial⟩
theorem O {K : ah} {E : eK} {ops : Array Oper} {o : Oper} {pl : List Nat} {al al' : List AX} {L : SL} {B B' : List bX} {G : List Part} {m n i : Nat} {RA : List AX → SL → List bX → List Part → Prop} {sv : SV} (hi : ops[i]? = some o) (he : qN P aw zl ops o L B n = some (sv, B')) (hu : G3 P ops i o L B G (bm o.dst sv L) B' G al = some al') (hw : iZ P K E aw ops pl al' (bm o.dst sv L) B' G m n RA) : iZ P K E aw ops (i :: pl) al L B G m n RA := iZ.cq hX hi he hu hw
theorem J {K : ah} {E : eK} {ops : Array Oper} {o : Oper} {l : List Oper} {L : SL} {B B' : List bX} {G : List Part} {m n : Nat} {R : SL → List bX → List Part → Prop} {sv : SV} (he : qN P aw zl ops o L B n = some (sv, B')) (hr : HZ P K E ops l (bm o.dst sv L) B' G m n R) : HZ P K E ops (o :: l) L B G m n R := .cons (q hX he hr)
end Ev
end
end Go.HL
namespace Go.HL
open Go Go.Proofs
namespace Ev
open Em
set_option maxRecDepth 10000
variable {K : ah} {base : List (Nat × aG)}
structure Ko (c : aD) : Prop where
 name : c.n ≤ 100
 heads : c.params.length + c.shared.length ≤ 400
 eg : ∀ p ∈ c.params, p.1 ≤ 100
 dF : ∀ p ∈ c.shared, p.1 ≤ 100
def PJ : Nat × Nat × Bool := (0, 0, false)
def PK : Nat × Nat × Int := (0, 0, 0)
theorem eJ {α : Type} {l : List α} {q : α → Prop} {i : Nat} (d : α) (hi : i < l.length) (h : ∀ j, j < i → q (l.getD j d)) (hx : q (l.getD i d)) : ∀ j, j < i + 1 → q (l.getD j d) := by
 intro j hj
 by_cases e : j = i
 ·subst e; exact hx
 ·exact h j (by omega)
theorem FM {α : Type} {l : List α} {q : α → Prop} (d : α) (h : ∀ j, j < l.length → q (l.getD j d)) : ∀ a ∈ l, q a := by
 intro a ha
 obtain ⟨j, hj, rfl⟩ := List.getElem_of_mem ha
 have := h j hj
 rwa [List.getD, List.getElem?_eq_getElem hj] at this
theorem CQ (hK : KN base K) (c : aD) (pv sv : aa) (h : Heap) (w : Wf h) (hc : mU c) (hp : (rd pv 2 (c.params.map pc)).holds h) (hs : (rd sv 2 (c.shared.map ac)).holds h) :
  Sp P K 21 [.agg [.str c.n c.c, pv, sv, .int .i64 0, .aC]] h (Tr (fun v C' => ∃ b, v = .bool b ∧ (b = false → Ko c) ∧ C' = []) h) := by
 have lp := aV hp
 have ls := aV hs
 have b1 := hc.Gq
 have b2 := hc.Im
 refine Sp.start (m := 618970056608308448888619263) (n := 107) w (hK.none 21 rfl rfl _ _) Tryz.func21 rfl rfl Nc rfl rfl ?_
 repeat' (first | refine ax.a_ ?_ | refine ai.s_ ?_ | (refine X 0 ?_; (iterate 2 refine J Z ?_) <;> (refine Y Z ?_)) | (refine X 1 ?_; (iterate 5 refine J Z ?_) <;> (refine .cons (ql hX Z Z Z Z Z Z (by assumption) Z Z ?_)) <;> (refine .cons (qa (d := ((c.params.length : Nat) : Int)) Z Z Z Z Z (by rw [wI (by omega) (by omega)]; omega) Z Z ?_)) <;> (iterate 2 refine J Z ?_) <;> (refine .cons (ql hX Z Z Z Z Z Z (by assumption) Z Z ?_)) <;> (refine .cons (qa (d := ((c.params.length + c.shared.length : Nat) : Int)) Z Z Z Z Z (by rw [wI (by omega) (by omega)]; omega) Z Z ?_)) <;> (refine J Z ?_) <;> (refine Y Z ?_)) | (refine X 2 ?_; (refine J Z ?_) <;> ((refine .cons (qc Z ?_ ?_)) <;> intro _) <;> (iterate 4 refine J Z ?_) <;> (first | (refine J Z ?_) | (refine .cons (qc Z ?_ ?_)) <;> intro _) <;> (refine J Z ?_) <;> (refine Y Z ?_)) | (refine X 3 ?_; (refine J Z ?_) <;> (refine Y Z ?_)) | (refine X 4 ?_; (refine J Z ?_) <;> (refine Y Z ?_)) | refine ai.r_ ?_ | refine ax.d_ ?_ | refine ai.t_ rfl ?_ | refine ai.f_ rfl ?_ | refine ai.k_ ?_ | refine ai.b_ ?_ | refine ax.r_ hX rfl ?_)
 ·exact fun h f => ⟨[], f.aZ, true, rfl, by simp, rfl⟩
 ·exact fun h f => ⟨[], f.aZ, true, rfl, by simp, rfl⟩
 refine ai.loop (ι := Nat) (fun a => [(4, .ext (i64 a)), (3, .ext (i64 (c.params.length + c.shared.length))), (1, .ptr 0 0)]) (fun _ => [.own [.str c.n c.c, pv, sv, .int .i64 0, .aC] 47 false]) (fun _ => []) (fun a => a ≤ c.params.length ∧ ∀ j, j < a → (c.params.getD j PJ).1 ≤ 100) (fun a => c.params.length - a) 0 ⟨⟨rfl, rfl, rfl, trivial⟩, ⟨_, rfl⟩, ⟨_, .nil⟩⟩ ⟨Nat.zero_le _, by omega⟩ (fun _ => rfl) (fun _ => rfl) (fun _ => rfl) ?_
 rintro i ⟨hi, hn⟩ next
 repeat' (first | refine ax.a_ ?_ | refine ai.s_ ?_ | (refine X 5 ?_; (iterate 3 refine J Z ?_) <;> (refine .cons (ql hX Z Z Z Z Z Z (by assumption) Z Z ?_)) <;> ((refine .cons (qc Z ?_ ?_)) <;> intro _) <;> (refine Y Z ?_)) | (refine X 7 ?_; (iterate 3 refine J Z ?_) <;> (refine .cons (bq hX Z Z Z Z Z (.of hp) (aM PJ (by omega)) Z Z Z ?_)) <;> (iterate 3 refine J Z ?_) <;> ((refine .cons (qc Z ?_ ?_)) <;> intro _) <;> (refine Y Z ?_)) | (refine X 8 ?_; (refine J Z ?_) <;> (refine Y Z ?_)) | (refine X 6 ?_; (refine J Z ?_) <;> (refine .cons (qa Z Z Z Z Z (wI (by first | omega | (simp only [Int.ofNat_eq_natCast]; omega)) (by first | omega | (simp only [Int.ofNat_eq_natCast]; omega))) Z Z ?_)) <;> (refine J Z ?_) <;> (refine Y Z ?_)) | (refine X 9 ?_; (refine J Z ?_) <;> (refine Y Z ?_)) | refine ai.r_ ?_ | refine ax.d_ ?_ | refine ax.f_ ?_ | refine ai.t_ rfl ?_ | refine ai.f_ rfl ?_ | refine ai.k_ ?_ | refine ai.b_ ?_ | refine ai.e_ ?_ | refine ax.e_ ?_ | refine ax.c_ ?_ | refine ax.b_ ?_ | refine ax.r_ hX rfl ?_)
 ·exact fun h f => ⟨[], f.aZ, true, rfl, by simp, rfl⟩
 ·exact next (i + 1) _ _ _ (by omega) ⟨⟨rfl, rfl, rfl, trivial⟩, ⟨_, rfl⟩, ⟨_, .nil⟩⟩ ⟨by omega, eJ (q := fun p : Nat × Nat × Bool => p.1 ≤ 100) PJ (by omega) hn (by omega)⟩
 clear next
 have hi2 : i = c.params.length := by omega
 subst hi2
 refine ai.loop (ι := Nat) (fun a => [(5, .ext (i64 a)), (3, .ext (i64 (c.params.length + c.shared.length))), (1, .ptr 0 0)]) (fun _ => [.own [.str c.n c.c, pv, sv, .int .i64 0, .aC] 47 false]) (fun _ => []) (fun a => a ≤ c.shared.length ∧ ∀ j, j < a → (c.shared.getD j PK).1 ≤ 100) (fun a => c.shared.length - a) 0 ⟨⟨rfl, rfl, rfl, trivial⟩, ⟨_, rfl⟩, ⟨_, .nil⟩⟩ ⟨Nat.zero_le _, by omega⟩ (fun _ => rfl) (fun _ => rfl) (fun _ => rfl) ?_
 rintro i ⟨hi, hm⟩ next
 repeat' (first | refine ax.a_ ?_ | refine ai.s_ ?_ | (refine X 10 ?_; (iterate 3 refine J Z ?_) <;> (refine .cons (ql hX Z Z Z Z Z Z (by assumption) Z Z ?_)) <;> ((refine .cons (qc Z ?_ ?_)) <;> intro _) <;> (refine Y Z ?_)) | (refine X 12 ?_; (iterate 3 refine J Z ?_) <;> (refine .cons (bq hX Z Z Z Z Z (.of hs) (aM PK (by omega)) Z Z Z ?_)) <;> (iterate 3 refine J Z ?_) <;> ((refine .cons (qc Z ?_ ?_)) <;> intro _) <;> (refine Y Z ?_)) | (refine X 13 ?_; (refine J Z ?_) <;> (refine Y Z ?_)) | (refine X 11 ?_; (refine J Z ?_) <;> (refine .cons (qa Z Z Z Z Z (wI (by first | omega | (simp only [Int.ofNat_eq_natCast]; omega)) (by first | omega | (simp only [Int.ofNat_eq_natCast]; omega))) Z Z ?_)) <;> (refine J Z ?_) <;> (refine Y Z ?_)) | (refine X 14 ?_; (refine J Z ?_) <;> (refine Y Z ?_)) | refine ai.r_ ?_ | refine ax.d_ ?_ | refine ax.f_ ?_ | refine ai.t_ rfl ?_ | refine ai.f_ rfl ?_ | refine ai.k_ ?_ | refine ai.b_ ?_ | refine ai.e_ ?_ | refine ax.e_ ?_ | refine ax.c_ ?_ | refine ax.b_ ?_ | refine ax.r_ hX rfl ?_)
 ·exact fun h f => ⟨[], f.aZ, true, rfl, by simp, rfl⟩
 ·exact next (i + 1) _ _ _ (by omega) ⟨⟨rfl, rfl, rfl, trivial⟩, ⟨_, rfl⟩, ⟨_, .nil⟩⟩ ⟨by omega, eJ (q := fun p : Nat × Nat × Int => p.1 ≤ 100) PK (by omega) hm (by omega)⟩
 clear next
 have hi2 : i = c.shared.length := by omega
 subst hi2
 refine ai.loop (ι := Unit) (fun _ => [(6, .ext (i64 0)), (3, .ext (i64 (c.params.length + c.shared.length))), (1, .ptr 0 0)]) (fun _ => [.own [.str c.n c.c, pv, sv, .int .i64 0, .aC] 47 false]) (fun _ => []) (fun _ => True) (fun _ => 0) () ⟨⟨rfl, rfl, rfl, trivial⟩, ⟨_, rfl⟩, ⟨_, .nil⟩⟩ trivial (fun _ => rfl) (fun _ => rfl) (fun _ => rfl) ?_
 rintro ⟨⟩ _ next
 clear next
 repeat' (first | refine ax.a_ ?_ | refine ai.s_ ?_ | (refine X 15 ?_; (iterate 9 refine J Z ?_) <;> (refine Y Z ?_)) | (refine X 22 ?_; (refine J Z ?_) <;> ((refine .cons (qc Z ?_ ?_)) <;> intro _) <;> (refine J Z ?_) <;> (refine Y Z ?_)) | refine ai.r_ ?_ | refine ai.f_ rfl ?_ | refine ai.e_ ?_ | refine ax.e_ ?_ | refine ax.c_ ?_ | refine ax.r_ hX rfl ?_)
 ·exact fun h f => ⟨[], f.aZ, true, rfl, by simp, rfl⟩
 ·exact fun h f => ⟨[], f.aZ, false, rfl, fun _ => ⟨by omega, by omega, FM PJ hn, FM PK hm⟩, rfl⟩
theorem mM {v : aa} {n : Nat} (h : dO v = some n) : v.cells = some [v] := by
 cases v <;> first | rfl | cases h
def M6 (c : aD) : Prop := Ko c ∧ c.aq.length ≤ 400
theorem AE (hK : KN base K) (c : aD) (pv sv iv : aa) (h : Heap) (w : Wf h) (hc : mU c) (hr : (n8 c pv sv iv).holds h) :
  Sp P K 7 [cv c pv sv iv] h (Tr (fun v C' => ∃ b, v = .bool b ∧ (b = false → M6 c) ∧ C' = []) h) := by
 have li := aV hr.2.2
 have b3 := hc.Jo
 have cp := mM (aV hr.1)
 have cs := mM (aV hr.2.1)
 refine Sp.start (m := 7) (n := 17) w (hK.none 7 rfl rfl _ _) Tryz.func7 rfl rfl (by kernel_rfl) rfl rfl ?_
 repeat' (first | refine ax.a_ ?_ | refine ai.s_ ?_ | (refine X 0 ?_; (iterate 2 refine J Z ?_) <;> (refine Y Z ?_)) | (refine X 1 ?_; (iterate 2 refine J Z ?_) <;> (refine .cons (ql hX Z Z Z Z Z Z (by assumption) Z Z ?_)) <;> ((refine .cons (qc Z ?_ ?_)) <;> intro _) <;> (iterate 7 refine J Z ?_) <;> (first | (refine .cons (IA hX Z Z Z Z Z (by simp only [eI, cp, cs, obS]; rfl) Z Z ?_)) | (refine J Z ?_)) <;> (first | (refine J Z ?_) | (refine .cons (fD Z Z Z Z QJ Z Z (fun h f => CQ hK c pv sv h f.wf hc (f.ro (.of hr)).1 (f.ro (.of hr)).2.1) ?_)) <;> (rintro v C' ⟨b, rfl, hb, rfl⟩)) <;> (iterate 2 refine J Z ?_) <;> (refine Y Z ?_)) | refine ai.r_ ?_ | refine ax.r_ hX rfl ?_)
 ·exact fun h f => ⟨[], f.aZ, true, rfl, by simp, rfl⟩
 ·exact fun h f => ⟨[], f.aZ, b, rfl, fun e => ⟨hb e, by omega⟩, rfl⟩
end Ev
end Go.HL
namespace Go.HL
open Go Go.Proofs
namespace Ev
open Em
set_option maxRecDepth 10000
variable {K : ah} {base : List (Nat × aG)}
def eC (n : Nat) : List Nat := if n < 10 then [48 + n] else eC (n / 10) ++ [48 + n % 10]
termination_by n
decreasing_by omega
theorem cA {n : Nat} (h : n < 10) : eC n = [48 + n] := by rw [eC, if_pos h]
theorem jU {n : Nat} (h : ¬ n < 10) : eC n = eC (n / 10) ++ eC (n % 10) := by
 rw [eC, if_neg h, cA (n := n % 10) (by omega)]
end Ev
end Go.HL
namespace Go.HL
open Go Go.Proofs
namespace Ev
open Em
set_option maxRecDepth 10000
variable {K : ah} {base : List (Nat × aG)}
def aQ (n : Int) : List Nat := if n < 0 then 45 :: eC (-n).toNat else eC n.toNat
end Ev
end Go.HL
namespace Go.HL
open Go Go.Proofs
namespace Ev
open Em
set_option maxRecDepth 10000
variable {K : ah} {base : List (Nat × aG)}
def uT : List (List Nat) := [[45], [126], [33]]
def bT : List (List Nat) := [[43], [45], [42], [47], [37], [38], [124], [94], [60, 60], [62, 62], [62, 62, 62], [60], [60, 61], [61, 61], [33, 61], [60, 58], [38, 38], [124, 124], [109, 105, 110], [109, 97, 120]]
def fT (k : Int) : List Nat := if k = 0 then [97, 100, 100] else if k = 18 then [109, 105, 110] else if k = 19 then [109, 97, 120] else if k = 5 then [97, 110, 100] else if k = 6 then [111, 114] else [120, 111, 114]
theorem tl : ∀ (k n : Nat), 0 < k → n < 10 ^ k → (eC n).length ≤ k := by
 intro k
 induction k with
 | zero => intro n h; omega
 | succ k ih =>
  intro n _ hn
  by_cases h : n < 10
  ·rw [cA h]; simp
  ·rw [jU h, cA (n := n % 10) (by omega), List.length_append, List.length_singleton]
   have hk : 0 < k := by
    cases k with
    | zero => omega
    | succ k => omega
   have := ih (n / 10) hk (by rw [Nat.pow_succ] at hn; omega)
   omega
theorem eY {n : Int} (h1 : -4294967296 < n) (h2 : n < 4294967296) : (aQ n).length ≤ 11 := by
 unfold aQ
 split
 ·have := tl 10 (-n).toNat (by decide) (by omega)
  simp only [List.length_cons]; omega
 ·have := tl 10 n.toNat (by decide) (by omega)
  omega
end Ev
end Go.HL
namespace Go.HL
open Go Go.Proofs
namespace Ev
open Em
set_option maxRecDepth 10000
set_option maxHeartbeats 4000000
variable {K : ah} {base : List (Nat × aG)}
def rT (n : Int) : List Nat := 114 :: aQ n
def qF : List (List Nat) := [[116, 105, 100], [98, 105, 100], [100, 105, 109], [103, 114, 105, 100]]
def yP (x : bI) : List Nat :=
 if x.kind = 0 then rT x.d ++ [32, 61, 32] ++ aQ x.cV
 else if x.kind = 1 then rT x.d ++ [32, 61, 32] ++ rT x.a
 else if x.kind = 2 then rT x.d ++ [32, 61, 32] ++ uT.getD x.op.toNat [] ++ [32] ++ rT x.a
 else if x.kind = 3 then rT x.d ++ [32, 61, 32] ++ rT x.a ++ [32] ++ bT.getD x.op.toNat [] ++ [32] ++ rT x.b
 else if x.kind = 4 then rT x.d ++ [32, 61, 32] ++ qF.getD x.op.toNat []
 else if x.kind = 5 then rT x.d ++ [32, 61, 32, 112, 97, 114, 97, 109, 32] ++ aQ x.cV
 else if x.kind = 6 then rT x.d ++ [32, 61, 32, 97, 114, 114, 97, 121, 32] ++ aQ x.cV ++ [32] ++ rT x.a
 else if x.kind = 7 then [97, 114, 114, 97, 121, 32] ++ aQ x.cV ++ [32] ++ rT x.a ++ [32, 61, 32] ++ rT x.b
 else if x.kind = 8 then [97, 116, 111, 109, 105, 99, 32] ++ fT x.op ++ [32, 97, 114, 114, 97, 121, 32] ++ aQ x.cV ++ [32] ++ rT x.a ++ [32] ++ rT x.b
 else if x.kind = 9 then [98, 97, 114, 114, 105, 101, 114, 32] ++ aQ x.cV
 else if x.kind = 10 then rT x.d ++ [32, 61, 32, 99, 111, 108, 108, 101, 99, 116, 32] ++ fT x.op ++ [32] ++ rT x.a ++ [32] ++ aQ x.cV
 else if x.kind = 11 then rT x.d ++ [32, 61, 32, 108, 111, 99, 97, 108, 32] ++ aQ x.cV
 else if x.kind = 12 then [108, 111, 99, 97, 108, 32] ++ aQ x.cV ++ [32, 61, 32] ++ rT x.a
 else if x.kind = 13 then [106, 117, 109, 112, 32] ++ aQ x.to
 else if x.kind = 14 then [98, 114, 97, 110, 99, 104, 32] ++ rT x.a ++ [32] ++ aQ x.to ++ [32, 106, 111, 105, 110, 32] ++ aQ x.join
 else [101, 120, 105, 116]
theorem Dj {n : Int} (h1 : -4294967296 < n) (h2 : n < 4294967296) : (rT n).length ≤ 12 := by
 have := eY h1 h2
 simp only [rT, List.length_cons]; omega
theorem Nx (n : Int) : (fT n).length ≤ 3 := by
 unfold fT
 repeat' split
 all_goals simp
structure Av (x : bI) : Prop where
 gJ : k9 x
 u : x.kind = 2 → 0 ≤ x.op ∧ x.op < 3
 b : x.kind = 3 → 0 ≤ x.op ∧ x.op < 20
 s : x.kind = 4 → 0 ≤ x.op ∧ x.op < 4
theorem wN {l : List (List Nat)} {k : Nat} (h : ∀ x ∈ l, x.length ≤ 4) : (l.getD k []).length ≤ 4 := by
 by_cases hk : k < l.length
 ·exact h _ (bh _ hk)
 ·rw [List.getD, List.getElem?_eq_none (by omega)]; simp
end Ev
end Go.HL
