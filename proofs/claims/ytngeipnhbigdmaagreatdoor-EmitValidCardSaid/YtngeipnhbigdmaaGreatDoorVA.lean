/- The walk: width, digits, the reference's lines. No statement of the seat stands here. -/
import Derived.Test.YtngeipnhbigdmaaGreatDoorMD
import Derived.Test.YtngeipnhbigdmaaGreatDoorXC
set_option linter.unusedVariables false
set_option linter.unusedSimpArgs false
namespace Go.HL
open Go
noncomputable section
namespace Ev
open Em
noncomputable def tab : Tab := [(2, .int .i64, 1), (3, .int .i64, 1), (4, .bool, 1), (5, .int .u8, 1), (9, .str, 1), (21, .int .i32, 1), (22, .slice 70, 1), (23, .slice 72, 1), (24, .slice 74, 1), (26, .struct [(0, 9), (1, 22), (2, 23), (3, 3), (4, 24)], 5), (29, .slice 42, 1), (30, .int .i64, 1), (42, .int .u32, 1), (45, .slice 108, 1), (47, .struct [(0, 9), (1, 22), (2, 23), (3, 3), (4, 45)], 5), (70, .struct [(0, 9), (1, 4)], 2), (72, .struct [(0, 9), (1, 3)], 2), (74, .struct [(0, 3), (1, 3), (2, 3), (3, 3), (4, 3), (5, 21), (6, 3), (7, 3)], 8), (80, .struct [(0, 4), (1, 4), (2, 4), (3, 4), (4, 4), (5, 4), (6, 4), (7, 4), (8, 4), (9, 4), (10, 4), (11, 3)], 12), (100, .slice 9, 1), (106, .slice 111, 1), (108, .struct [(0, 106), (1, 3), (2, 3), (3, 3), (4, 3)], 5), (109, .slice 3, 1), (111, .struct [(0, 3), (1, 3), (2, 3), (3, 3), (4, 3), (5, 21), (6, 109)], 7), (139, .ref, 1), (140, .slice 5, 1), (142, .struct [(0, 139), (1, 140)], 2), (245, .ref, 1), (247, .struct [(0, 9), (1, 245), (2, 3)], 3), (248, .slice 247, 1), (342, .array 3 9, 3)]
theorem hT : tabOk P tab = true := by kernel_rfl
theorem z2 : zeroCells? P 2 = some [.int .i64 0] := by kernel_rfl
theorem z3 : zeroCells? P 3 = some [.int .i64 0] := by kernel_rfl
theorem z4 : zeroCells? P 4 = some [.bool false] := by kernel_rfl
theorem z5 : zeroCells? P 5 = some [.int .u8 0] := by kernel_rfl
theorem b5 : P.bytesOf 5 = 1 := by kernel_rfl
theorem z9 : zeroCells? P 9 = some [.str 0 0] := by kernel_rfl
theorem b9 : P.bytesOf 9 = 16 := by kernel_rfl
theorem z21 : zeroCells? P 21 = some [.int .i32 0] := by kernel_rfl
theorem z22 : zeroCells? P 22 = some [.nils] := by kernel_rfl
theorem z23 : zeroCells? P 23 = some [.nils] := by kernel_rfl
theorem z24 : zeroCells? P 24 = some [.nils] := by kernel_rfl
theorem z26 : zeroCells? P 26 = some [.str 0 0, .nils, .nils, .int .i64 0, .nils] := by kernel_rfl
theorem z29 : zeroCells? P 29 = some [.nils] := by kernel_rfl
theorem z30 : zeroCells? P 30 = some [.int .i64 0] := by kernel_rfl
theorem z42 : zeroCells? P 42 = some [.int .u32 0] := by kernel_rfl
theorem z45 : zeroCells? P 45 = some [.nils] := by kernel_rfl
theorem z47 : zeroCells? P 47 = some [.str 0 0, .nils, .nils, .int .i64 0, .nils] := by kernel_rfl
theorem z70 : zeroCells? P 70 = some [.str 0 0, .bool false] := by kernel_rfl
theorem z72 : zeroCells? P 72 = some [.str 0 0, .int .i64 0] := by kernel_rfl
theorem z74 : zeroCells? P 74 = some [.int .i64 0, .int .i64 0, .int .i64 0, .int .i64 0, .int .i64 0, .int .i32 0, .int .i64 0, .int .i64 0] := by kernel_rfl
theorem z80 : zeroCells? P 80 = some [.bool false, .bool false, .bool false, .bool false, .bool false, .bool false, .bool false, .bool false, .bool false, .bool false, .bool false, .int .i64 0] := by kernel_rfl
theorem z100 : zeroCells? P 100 = some [.nils] := by kernel_rfl
theorem z106 : zeroCells? P 106 = some [.nils] := by kernel_rfl
theorem z108 : zeroCells? P 108 = some [.nils, .int .i64 0, .int .i64 0, .int .i64 0, .int .i64 0] := by kernel_rfl
theorem z109 : zeroCells? P 109 = some [.nils] := by kernel_rfl
theorem z111 : zeroCells? P 111 = some [.int .i64 0, .int .i64 0, .int .i64 0, .int .i64 0, .int .i64 0, .int .i32 0, .nils] := by kernel_rfl
theorem z139 : zeroCells? P 139 = some [.nilp] := by kernel_rfl
-- 139: a pointer to 142
theorem z140 : zeroCells? P 140 = some [.nils] := by kernel_rfl
theorem z142 : zeroCells? P 142 = some [.nilp, .nils] := by kernel_rfl
theorem z245 : zeroCells? P 245 = some [.nilf] := by kernel_rfl
theorem z247 : zeroCells? P 247 = some [.str 0 0, .nilf, .int .i64 0] := by kernel_rfl
theorem z248 : zeroCells? P 248 = some [.nils] := by kernel_rfl
theorem z342 : zeroCells? P 342 = some [.str 0 0, .str 0 0, .str 0 0] := by kernel_rfl
-- 342: 3 of 9
theorem z339 : zeroCells? P 339 = some [.nilp] := by kernel_rfl
theorem mask3 : Nat.lor (maskOf Go.Proofs.Tryz.f3) (Nat.sub (Nat.pow 2 1) 1) = 6143 := by kernel_rfl
theorem mask7 : Nat.lor (maskOf Go.Proofs.Tryz.f7) (Nat.sub (Nat.pow 2 1) 1) = 7 := by kernel_rfl
theorem ca7 : Callable P 7 := ⟨_, _, Go.Proofs.Tryz.func7, rfl, by kernel_rfl, rfl⟩
theorem mask9 : Nat.lor (maskOf Go.Proofs.Tryz.f9) (Nat.sub (Nat.pow 2 1) 1) = 79 := by kernel_rfl
theorem ca9 : Callable P 9 := ⟨_, _, Go.Proofs.Tryz.func9, rfl, by kernel_rfl, rfl⟩
theorem mask11 : Nat.lor (maskOf Go.Proofs.Tryz.f11) (Nat.sub (Nat.pow 2 1) 1) = 79 := by kernel_rfl
theorem ca11 : Callable P 11 := ⟨_, _, Go.Proofs.Tryz.func11, rfl, by kernel_rfl, rfl⟩
theorem mask12 : Nat.lor (maskOf Go.Proofs.Tryz.f12) (Nat.sub (Nat.pow 2 1) 1) = 9671406701032225785251071 := by kernel_rfl
theorem ca12 : Callable P 12 := ⟨_, _, Go.Proofs.Tryz.func12, rfl, by kernel_rfl, rfl⟩
theorem mask21 : Nat.lor (maskOf Go.Proofs.Tryz.f21) (Nat.sub (Nat.pow 2 1) 1) = 618970056608308448888619263 := by kernel_rfl
theorem ca21 : Callable P 21 := ⟨_, _, Go.Proofs.Tryz.func21, rfl, by kernel_rfl, rfl⟩
theorem mask31 : Nat.lor (maskOf Go.Proofs.Tryz.f31) (Nat.sub (Nat.pow 2 1) 1) = 540440201696641967 := by kernel_rfl
theorem ca31 : Callable P 31 := ⟨_, _, Go.Proofs.Tryz.func31, rfl, by kernel_rfl, rfl⟩
theorem mask32 : Nat.lor (maskOf Go.Proofs.Tryz.f32) (Nat.sub (Nat.pow 2 1) 1) = 5 := by kernel_rfl
theorem ca32 : Callable P 32 := ⟨_, _, Go.Proofs.Tryz.func32, rfl, by kernel_rfl, rfl⟩
theorem mask33 : Nat.lor (maskOf Go.Proofs.Tryz.f33) (Nat.sub (Nat.pow 2 1) 1) = 24320120850511845024061644935650417107858539768186383 := by kernel_rfl
theorem ca33 : Callable P 33 := ⟨_, _, Go.Proofs.Tryz.func33, rfl, by kernel_rfl, rfl⟩
theorem mask68 : Nat.lor (maskOf Go.Proofs.Tryz.f68) (Nat.sub (Nat.pow 2 2) 1) = 51 := by kernel_rfl
theorem ca68 : Callable P 68 := ⟨_, _, Go.Proofs.Tryz.func68, rfl, by kernel_rfl, rfl⟩
theorem mask69 : Nat.lor (maskOf Go.Proofs.Tryz.f69) (Nat.sub (Nat.pow 2 1) 1) = 5 := by kernel_rfl
theorem ca69 : Callable P 69 := ⟨_, _, Go.Proofs.Tryz.func69, rfl, by kernel_rfl, rfl⟩
theorem ca70 : Callable P 70 := ⟨_, _, Go.Proofs.Tryz.func70, rfl, by kernel_rfl, rfl⟩
theorem mask71 : Nat.lor (maskOf Go.Proofs.Tryz.f71) (Nat.sub (Nat.pow 2 1) 1) = 5276041190745505870876331431952511 := by kernel_rfl
theorem ca71 : Callable P 71 := ⟨_, _, Go.Proofs.Tryz.func71, rfl, by kernel_rfl, rfl⟩
theorem mask72 : Nat.lor (maskOf Go.Proofs.Tryz.f72) (Nat.sub (Nat.pow 2 1) 1) = 5 := by kernel_rfl
theorem ca72 : Callable P 72 := ⟨_, _, Go.Proofs.Tryz.func72, rfl, by kernel_rfl, rfl⟩
theorem mask73 : Nat.lor (maskOf Go.Proofs.Tryz.f73) (Nat.sub (Nat.pow 2 1) 1) = 21 := by kernel_rfl
theorem ca73 : Callable P 73 := ⟨_, _, Go.Proofs.Tryz.func73, rfl, by kernel_rfl, rfl⟩
theorem mask74 : Nat.lor (maskOf Go.Proofs.Tryz.f74) (Nat.sub (Nat.pow 2 1) 1) = 5 := by kernel_rfl
theorem ca74 : Callable P 74 := ⟨_, _, Go.Proofs.Tryz.func74, rfl, by kernel_rfl, rfl⟩
theorem mask75 : Nat.lor (maskOf Go.Proofs.Tryz.f75) (Nat.sub (Nat.pow 2 1) 1) = 37 := by kernel_rfl
theorem ca75 : Callable P 75 := ⟨_, _, Go.Proofs.Tryz.func75, rfl, by kernel_rfl, rfl⟩
theorem mask76 : Nat.lor (maskOf Go.Proofs.Tryz.f76) (Nat.sub (Nat.pow 2 1) 1) = 37 := by kernel_rfl
theorem ca76 : Callable P 76 := ⟨_, _, Go.Proofs.Tryz.func76, rfl, by kernel_rfl, rfl⟩
theorem mask77 : Nat.lor (maskOf Go.Proofs.Tryz.f77) (Nat.sub (Nat.pow 2 1) 1) = 5469 := by kernel_rfl
theorem ca77 : Callable P 77 := ⟨_, _, Go.Proofs.Tryz.func77, rfl, by kernel_rfl, rfl⟩
theorem mask136 : Nat.lor (maskOf Go.Proofs.Tryz.f136) (Nat.sub (Nat.pow 2 1) 1) = 524353 := by kernel_rfl
theorem ca136 : Callable P 136 := ⟨_, _, Go.Proofs.Tryz.func136, rfl, by kernel_rfl, rfl⟩
theorem ca137 : Callable P 137 := ⟨_, _, Go.Proofs.Tryz.func137, rfl, by kernel_rfl, rfl⟩
theorem mask139 : Nat.lor (maskOf Go.Proofs.Tryz.f139) (Nat.sub (Nat.pow 2 1) 1) = 5 := by kernel_rfl
theorem ca139 : Callable P 139 := ⟨_, _, Go.Proofs.Tryz.func139, rfl, by kernel_rfl, rfl⟩
theorem mask140 : Nat.lor (maskOf Go.Proofs.Tryz.f140) (Nat.sub (Nat.pow 2 1) 1) = 5 := by kernel_rfl
theorem ca140 : Callable P 140 := ⟨_, _, Go.Proofs.Tryz.func140, rfl, by kernel_rfl, rfl⟩
theorem mask141 : Nat.lor (maskOf Go.Proofs.Tryz.f141) (Nat.sub (Nat.pow 2 1) 1) = 261 := by kernel_rfl
theorem ca141 : Callable P 141 := ⟨_, _, Go.Proofs.Tryz.func141, rfl, by kernel_rfl, rfl⟩
theorem mask142 : Nat.lor (maskOf Go.Proofs.Tryz.f142) (Nat.sub (Nat.pow 2 1) 1) = 261 := by kernel_rfl
theorem ca142 : Callable P 142 := ⟨_, _, Go.Proofs.Tryz.func142, rfl, by kernel_rfl, rfl⟩
theorem mask143 : Nat.lor (maskOf Go.Proofs.Tryz.f143) (Nat.sub (Nat.pow 2 0) 1) = 1 := by kernel_rfl
theorem ca143 : Callable P 143 := ⟨_, _, Go.Proofs.Tryz.func143, rfl, by kernel_rfl, rfl⟩
theorem mask144 : Nat.lor (maskOf Go.Proofs.Tryz.f144) (Nat.sub (Nat.pow 2 1) 1) = 1079421 := by kernel_rfl
theorem ca144 : Callable P 144 := ⟨_, _, Go.Proofs.Tryz.func144, rfl, by kernel_rfl, rfl⟩
theorem mask145 : Nat.lor (maskOf Go.Proofs.Tryz.f145) (Nat.sub (Nat.pow 2 1) 1) = 21 := by kernel_rfl
theorem ca145 : Callable P 145 := ⟨_, _, Go.Proofs.Tryz.func145, rfl, by kernel_rfl, rfl⟩
theorem mask146 : Nat.lor (maskOf Go.Proofs.Tryz.f146) (Nat.sub (Nat.pow 2 1) 1) = 5 := by kernel_rfl
theorem ca146 : Callable P 146 := ⟨_, _, Go.Proofs.Tryz.func146, rfl, by kernel_rfl, rfl⟩
theorem mask147 : Nat.lor (maskOf Go.Proofs.Tryz.f147) (Nat.sub (Nat.pow 2 1) 1) = 5 := by kernel_rfl
theorem ca147 : Callable P 147 := ⟨_, _, Go.Proofs.Tryz.func147, rfl, by kernel_rfl, rfl⟩
theorem mask163 : Nat.lor (maskOf Go.Proofs.Tryz.f163) (Nat.sub (Nat.pow 2 0) 1) = 3 := by kernel_rfl
theorem ca163 : Callable P 163 := ⟨_, _, Go.Proofs.Tryz.func163, rfl, by kernel_rfl, rfl⟩
theorem mask166 : Nat.lor (maskOf Go.Proofs.Tryz.f166) (Nat.sub (Nat.pow 2 0) 1) = 1 := by kernel_rfl
theorem ca166 : Callable P 166 := ⟨_, _, Go.Proofs.Tryz.func166, rfl, by kernel_rfl, rfl⟩
noncomputable def zl : List (Nat × List HVal) := [(2, [.int .i64 0]), (3, [.int .i64 0]), (4, [.bool false]), (5, [.int .u8 0]), (9, [.str 0 0]), (21, [.int .i32 0]), (22, [.nils]), (23, [.nils]), (24, [.nils]), (26, [.str 0 0, .nils, .nils, .int .i64 0, .nils]), (29, [.nils]), (30, [.int .i64 0]), (42, [.int .u32 0]), (45, [.nils]), (47, [.str 0 0, .nils, .nils, .int .i64 0, .nils]), (70, [.str 0 0, .bool false]), (72, [.str 0 0, .int .i64 0]), (74, [.int .i64 0, .int .i64 0, .int .i64 0, .int .i64 0, .int .i64 0, .int .i32 0, .int .i64 0, .int .i64 0]), (80, [.bool false, .bool false, .bool false, .bool false, .bool false, .bool false, .bool false, .bool false, .bool false, .bool false, .bool false, .int .i64 0]), (100, [.nils]), (106, [.nils]), (108, [.nils, .int .i64 0, .int .i64 0, .int .i64 0, .int .i64 0]), (109, [.nils]), (111, [.int .i64 0, .int .i64 0, .int .i64 0, .int .i64 0, .int .i64 0, .int .i32 0, .nils]), (139, [.nilp]), (140, [.nils]), (142, [.nilp, .nils]), (245, [.nilf]), (247, [.str 0 0, .nilf, .int .i64 0]), (248, [.nils]), (342, [.str 0 0, .str 0 0, .str 0 0]), (339, [.nilp])]
theorem hX : TK P tab zl := ⟨hT, z2, z3, z4, z5, z9, z21, z22, z23, z24, z26, z29, z30, z42, z45, z47, z70, z72, z74, z80, z100, z106, z108, z109, z111, z139, z140, z142, z245, z247, z248, z342, z339, trivial⟩
end Ev
end
end Go.HL
namespace Go.HL
open Go Go.Proofs
namespace Ev
open Em
set_option maxRecDepth 10000
variable {K : CallFn} {base : List (Nat × HObj)}
structure Narrow (c : CodeP) : Prop where
 name : c.n ≤ 100
 heads : c.params.length + c.shared.length ≤ 400
 pname : ∀ p ∈ c.params, p.1 ≤ 100
 sname : ∀ p ∈ c.shared, p.1 ≤ 100
def noP : Nat × Nat × Bool := (0, 0, false)
def noA : Nat × Nat × Int := (0, 0, 0)
theorem all_step {α : Type} {l : List α} {q : α → Prop} {i : Nat} (d : α) (hi : i < l.length) (h : ∀ j, j < i → q (l.getD j d)) (hx : q (l.getD i d)) : ∀ j, j < i + 1 → q (l.getD j d) := by
 intro j hj
 by_cases e : j = i
 ·subst e; exact hx
 ·exact h j (by omega)
theorem all_mem {α : Type} {l : List α} {q : α → Prop} (d : α) (h : ∀ j, j < l.length → q (l.getD j d)) : ∀ a ∈ l, q a := by
 intro a ha
 obtain ⟨j, hj, rfl⟩ := List.getElem_of_mem ha
 have := h j hj
 rwa [List.getD, List.getElem?_eq_getElem hj] at this
theorem wide21_run (hK : KN base K) (c : CodeP) (pv sv : HVal) (h : Heap) (w : Wf h) (hc : CodeOk c) (hp : (rd pv 2 (c.params.map pc)).holds h) (hs : (rd sv 2 (c.shared.map ac)).holds h) :
  Sp P K 21 [.agg [.str c.n c.c, pv, sv, .int .i64 0, .nils]] h (Tr (fun v C' => ∃ b, v = .bool b ∧ (b = false → Narrow c) ∧ C' = []) h) := by
 have lp := rd_len hp
 have ls := rd_len hs
 have b1 := hc.plen
 have b2 := hc.slen
 refine Sp.start (m := 618970056608308448888619263) (n := 107) w (hK.none 21 rfl rfl _ _) Tryz.func21 rfl rfl mask21 rfl rfl ?_
 repeat' (first
  | refine ToX.a_ ?_
  | refine WCX.s_ ?_
  | (refine WCX.g_ (id := 0) ?_; (iterate 2 refine .cons (q hX rfl ?_)) <;> (refine .nil (.intro rfl ?_)))
  | (refine WCX.g_ (id := 1) ?_; (iterate 5 refine .cons (q hX rfl ?_)) <;> ((refine .cons (ql hX rfl rfl rfl rfl rfl rfl (by assumption) rfl rfl ?_))) <;> ((refine .cons (qa (d := ((c.params.length : Nat) : Int)) rfl rfl rfl rfl rfl (by rw [wI (by omega) (by omega)]; omega) rfl rfl ?_))) <;> (iterate 2 refine .cons (q hX rfl ?_)) <;> ((refine .cons (ql hX rfl rfl rfl rfl rfl rfl (by assumption) rfl rfl ?_))) <;> ((refine .cons (qa (d := ((c.params.length + c.shared.length : Nat) : Int)) rfl rfl rfl rfl rfl (by rw [wI (by omega) (by omega)]; omega) rfl rfl ?_))) <;> (refine .cons (q hX rfl ?_)) <;> (refine .nil (.intro rfl ?_)))
  | (refine WCX.g_ (id := 2) ?_; (refine .cons (q hX rfl ?_)) <;> ((refine .cons (qc rfl ?_ ?_)) <;> intro _) <;> (iterate 4 refine .cons (q hX rfl ?_)) <;> (first | (refine .cons (q hX rfl ?_)) | (refine .cons (qc rfl ?_ ?_)) <;> intro _) <;> (refine .cons (q hX rfl ?_)) <;> (refine .nil (.intro rfl ?_)))
  | (refine WCX.g_ (id := 3) ?_; (refine .cons (q hX rfl ?_)) <;> (refine .nil (.intro rfl ?_)))
  | (refine WCX.g_ (id := 4) ?_; (refine .cons (q hX rfl ?_)) <;> (refine .nil (.intro rfl ?_)))
  | refine WCX.r_ ?_
  | refine ToX.d_ ?_
  | refine WCX.t_ rfl ?_
  | refine WCX.f_ rfl ?_
  | refine WCX.k_ ?_
  | refine WCX.b_ ?_
  | refine ToX.r_ hX rfl ?_)
 ·exact fun h f => ⟨[], f.chg, true, rfl, by simp, rfl⟩
 ·exact fun h f => ⟨[], f.chg, true, rfl, by simp, rfl⟩
 refine WCX.loop (ι := Nat) (fun a => [(4, .ext (i64 a)), (3, .ext (i64 (c.params.length + c.shared.length))), (1, .ptr 0 0)]) (fun _ => [.own [.str c.n c.c, pv, sv, .int .i64 0, .nils] 47 false]) (fun _ => []) (fun a => a ≤ c.params.length ∧ ∀ j, j < a → (c.params.getD j noP).1 ≤ 100) (fun a => c.params.length - a) 0 ⟨⟨rfl, rfl, rfl, trivial⟩, ⟨_, rfl⟩, ⟨_, .nil⟩⟩ ⟨Nat.zero_le _, by omega⟩ (fun _ => rfl) (fun _ => rfl) (fun _ => rfl) ?_
 rintro i ⟨hi, hn⟩ next
 repeat' (first
  | refine ToX.a_ ?_
  | refine WCX.s_ ?_
  | (refine WCX.g_ (id := 5) ?_; (iterate 3 refine .cons (q hX rfl ?_)) <;> ((refine .cons (ql hX rfl rfl rfl rfl rfl rfl (by assumption) rfl rfl ?_))) <;> ((refine .cons (qc rfl ?_ ?_)) <;> intro _) <;> (refine .nil (.intro rfl ?_)))
  | (refine WCX.g_ (id := 7) ?_; (iterate 3 refine .cons (q hX rfl ?_)) <;> ((refine .cons (qidx hX rfl rfl rfl rfl rfl (.of hp) (row_i noP (by omega)) rfl rfl rfl ?_))) <;> (iterate 3 refine .cons (q hX rfl ?_)) <;> ((refine .cons (qc rfl ?_ ?_)) <;> intro _) <;> (refine .nil (.intro rfl ?_)))
  | (refine WCX.g_ (id := 8) ?_; (refine .cons (q hX rfl ?_)) <;> (refine .nil (.intro rfl ?_)))
  | (refine WCX.g_ (id := 6) ?_; (refine .cons (q hX rfl ?_)) <;> ((refine .cons (qa rfl rfl rfl rfl rfl (wI (by first | omega | (simp only [Int.ofNat_eq_natCast]; omega)) (by first | omega | (simp only [Int.ofNat_eq_natCast]; omega))) rfl rfl ?_))) <;> (refine .cons (q hX rfl ?_)) <;> (refine .nil (.intro rfl ?_)))
  | (refine WCX.g_ (id := 9) ?_; (refine .cons (q hX rfl ?_)) <;> (refine .nil (.intro rfl ?_)))
  | refine WCX.r_ ?_
  | refine ToX.d_ ?_
  | refine ToX.f_ ?_
  | refine WCX.t_ rfl ?_
  | refine WCX.f_ rfl ?_
  | refine WCX.k_ ?_
  | refine WCX.b_ ?_
  | refine WCX.e_ ?_
  | refine ToX.e_ ?_
  | refine ToX.c_ ?_
  | refine ToX.b_ ?_
  | refine ToX.r_ hX rfl ?_)
 ·exact fun h f => ⟨[], f.chg, true, rfl, by simp, rfl⟩
 ·exact next (i + 1) _ _ _ (by omega) ⟨⟨rfl, rfl, rfl, trivial⟩, ⟨_, rfl⟩, ⟨_, .nil⟩⟩ ⟨by omega, all_step (q := fun p : Nat × Nat × Bool => p.1 ≤ 100) noP (by omega) hn (by omega)⟩
 clear next
 have hi2 : i = c.params.length := by omega
 subst hi2
 refine WCX.loop (ι := Nat) (fun a => [(5, .ext (i64 a)), (3, .ext (i64 (c.params.length + c.shared.length))), (1, .ptr 0 0)]) (fun _ => [.own [.str c.n c.c, pv, sv, .int .i64 0, .nils] 47 false]) (fun _ => []) (fun a => a ≤ c.shared.length ∧ ∀ j, j < a → (c.shared.getD j noA).1 ≤ 100) (fun a => c.shared.length - a) 0 ⟨⟨rfl, rfl, rfl, trivial⟩, ⟨_, rfl⟩, ⟨_, .nil⟩⟩ ⟨Nat.zero_le _, by omega⟩ (fun _ => rfl) (fun _ => rfl) (fun _ => rfl) ?_
 rintro i ⟨hi, hm⟩ next
 repeat' (first
  | refine ToX.a_ ?_
  | refine WCX.s_ ?_
  | (refine WCX.g_ (id := 10) ?_; (iterate 3 refine .cons (q hX rfl ?_)) <;> ((refine .cons (ql hX rfl rfl rfl rfl rfl rfl (by assumption) rfl rfl ?_))) <;> ((refine .cons (qc rfl ?_ ?_)) <;> intro _) <;> (refine .nil (.intro rfl ?_)))
  | (refine WCX.g_ (id := 12) ?_; (iterate 3 refine .cons (q hX rfl ?_)) <;> ((refine .cons (qidx hX rfl rfl rfl rfl rfl (.of hs) (row_i noA (by omega)) rfl rfl rfl ?_))) <;> (iterate 3 refine .cons (q hX rfl ?_)) <;> ((refine .cons (qc rfl ?_ ?_)) <;> intro _) <;> (refine .nil (.intro rfl ?_)))
  | (refine WCX.g_ (id := 13) ?_; (refine .cons (q hX rfl ?_)) <;> (refine .nil (.intro rfl ?_)))
  | (refine WCX.g_ (id := 11) ?_; (refine .cons (q hX rfl ?_)) <;> ((refine .cons (qa rfl rfl rfl rfl rfl (wI (by first | omega | (simp only [Int.ofNat_eq_natCast]; omega)) (by first | omega | (simp only [Int.ofNat_eq_natCast]; omega))) rfl rfl ?_))) <;> (refine .cons (q hX rfl ?_)) <;> (refine .nil (.intro rfl ?_)))
  | (refine WCX.g_ (id := 14) ?_; (refine .cons (q hX rfl ?_)) <;> (refine .nil (.intro rfl ?_)))
  | refine WCX.r_ ?_
  | refine ToX.d_ ?_
  | refine ToX.f_ ?_
  | refine WCX.t_ rfl ?_
  | refine WCX.f_ rfl ?_
  | refine WCX.k_ ?_
  | refine WCX.b_ ?_
  | refine WCX.e_ ?_
  | refine ToX.e_ ?_
  | refine ToX.c_ ?_
  | refine ToX.b_ ?_
  | refine ToX.r_ hX rfl ?_)
 ·exact fun h f => ⟨[], f.chg, true, rfl, by simp, rfl⟩
 ·exact next (i + 1) _ _ _ (by omega) ⟨⟨rfl, rfl, rfl, trivial⟩, ⟨_, rfl⟩, ⟨_, .nil⟩⟩ ⟨by omega, all_step (q := fun p : Nat × Nat × Int => p.1 ≤ 100) noA (by omega) hm (by omega)⟩
 clear next
 have hi2 : i = c.shared.length := by omega
 subst hi2
 refine WCX.loop (ι := Unit) (fun _ => [(6, .ext (i64 0)), (3, .ext (i64 (c.params.length + c.shared.length))), (1, .ptr 0 0)]) (fun _ => [.own [.str c.n c.c, pv, sv, .int .i64 0, .nils] 47 false]) (fun _ => []) (fun _ => True) (fun _ => 0) () ⟨⟨rfl, rfl, rfl, trivial⟩, ⟨_, rfl⟩, ⟨_, .nil⟩⟩ trivial (fun _ => rfl) (fun _ => rfl) (fun _ => rfl) ?_
 rintro ⟨⟩ _ next
 clear next
 repeat' (first
  | refine ToX.a_ ?_
  | refine WCX.s_ ?_
  | (refine WCX.g_ (id := 15) ?_; (iterate 9 refine .cons (q hX rfl ?_)) <;> (refine .nil (.intro rfl ?_)))
  | (refine WCX.g_ (id := 22) ?_; (refine .cons (q hX rfl ?_)) <;> ((refine .cons (qc rfl ?_ ?_)) <;> intro _) <;> (refine .cons (q hX rfl ?_)) <;> (refine .nil (.intro rfl ?_)))
  | refine WCX.r_ ?_
  | refine WCX.f_ rfl ?_
  | refine WCX.e_ ?_
  | refine ToX.e_ ?_
  | refine ToX.c_ ?_
  | refine ToX.r_ hX rfl ?_)
 ·exact fun h f => ⟨[], f.chg, true, rfl, by simp, rfl⟩
 ·exact fun h f => ⟨[], f.chg, false, rfl, fun _ => ⟨by omega, by omega, all_mem noP hn, all_mem noA hm⟩, rfl⟩
theorem cells_of_len {v : HVal} {n : Nat} (h : lenV v = some n) : v.cells = some [v] := by
 cases v <;> first | rfl | cases h
def NarrowI (c : CodeP) : Prop := Narrow c ∧ c.insns.length ≤ 400
theorem wide_run (hK : KN base K) (c : CodeP) (pv sv iv : HVal) (h : Heap) (w : Wf h) (hc : CodeOk c) (hr : (codeR c pv sv iv).holds h) :
  Sp P K 7 [cv c pv sv iv] h (Tr (fun v C' => ∃ b, v = .bool b ∧ (b = false → NarrowI c) ∧ C' = []) h) := by
 have li := rd_len hr.2.2
 have b3 := hc.ilen
 have cp := cells_of_len (rd_len hr.1)
 have cs := cells_of_len (rd_len hr.2.1)
 refine Sp.start (m := 7) (n := 17) w (hK.none 7 rfl rfl _ _) Tryz.func7 rfl rfl mask7 rfl rfl ?_
 repeat' (first
  | refine ToX.a_ ?_
  | refine WCX.s_ ?_
  | (refine WCX.g_ (id := 0) ?_; (iterate 2 refine .cons (q hX rfl ?_)) <;> (refine .nil (.intro rfl ?_)))
  | (refine WCX.g_ (id := 1) ?_; (iterate 2 refine .cons (q hX rfl ?_)) <;> ((refine .cons (ql hX rfl rfl rfl rfl rfl rfl (by assumption) rfl rfl ?_))) <;> ((refine .cons (qc rfl ?_ ?_)) <;> intro _) <;> (iterate 7 refine .cons (q hX rfl ?_)) <;> (first | (refine .cons (qbuild hX rfl rfl rfl rfl rfl (by simp only [fillH, cp, cs, obS]; rfl) rfl rfl ?_)) | (refine .cons (q hX rfl ?_))) <;> (first | (refine .cons (q hX rfl ?_)) | (refine .cons (qcall rfl rfl rfl rfl ca21 rfl rfl (fun h f => wide21_run hK c pv sv h f.wf hc (f.ro (.of hr)).1 (f.ro (.of hr)).2.1) ?_)) <;> (rintro v C' ⟨b, rfl, hb, rfl⟩)) <;> (iterate 2 refine .cons (q hX rfl ?_)) <;> (refine .nil (.intro rfl ?_)))
  | refine WCX.r_ ?_
  | refine ToX.r_ hX rfl ?_)
 ·exact fun h f => ⟨[], f.chg, true, rfl, by simp, rfl⟩
 ·exact fun h f => ⟨[], f.chg, b, rfl, fun e => ⟨hb e, by omega⟩, rfl⟩
end Ev
end Go.HL
namespace Go.HL
open Go Go.Proofs
namespace Ev
open Em
set_option maxRecDepth 10000
variable {K : CallFn} {base : List (Nat × HObj)}
def decB (n : Nat) : List Nat := if n < 10 then [48 + n] else decB (n / 10) ++ [48 + n % 10]
termination_by n
decreasing_by omega
theorem decB_small {n : Nat} (h : n < 10) : decB n = [48 + n] := by rw [decB, if_pos h]
theorem decB_big {n : Nat} (h : ¬ n < 10) : decB n = decB (n / 10) ++ decB (n % 10) := by
 rw [decB, if_neg h, decB_small (n := n % 10) (by omega)]
theorem decB_len (n : Nat) : (decB n).length ≤ n + 1 := by
 induction n using Nat.strongRecOn with
 | _ n ih =>
  by_cases h : n < 10
  ·rw [decB_small h]; simp
  ·rw [decB_big h, decB_small (n := n % 10) (by omega), List.length_append]
   have := ih (n / 10) (by omega)
   simp only [List.length_singleton]; omega
theorem digits_run (hK : KN base K) (n : Nat) (hn : n < 4294967296) (h : Heap) (w : Wf h) : Sp P K 145 [i64 n] h (Val (strB (decB n)) h) := by
 induction n using Nat.strongRecOn generalizing h with
 | _ n ih =>
  refine Sp.start (m := 21) (n := 17) w (hK.none 145 rfl rfl _ _) Tryz.func145 rfl rfl mask145 rfl rfl ?_
  have hlen := decB_len (n / 10)
  have hlen2 := decB_len (n % 10)
  repeat' (first
   | refine ToX.a_ ?_
   | refine WCX.s_ ?_
   | (refine WCX.g_ (id := 0) ?_; (refine .cons (q hX rfl ?_)) <;> (refine .nil (.intro rfl ?_)))
   | (refine WCX.g_ (id := 1) ?_; (refine .cons (q hX rfl ?_)) <;> ((refine .cons (qc rfl ?_ ?_)) <;> intro _) <;> (refine .nil (.intro rfl ?_)))
   | (refine WCX.g_ (id := 2) ?_; (refine .cons (q hX rfl ?_)) <;> ((refine .cons (qa (d := ((48 + n : Nat) : Int)) rfl rfl rfl rfl rfl (by rw [wI (by omega) (by omega)]; omega) rfl rfl ?_))) <;> ((refine .cons (qw (b := ((48 + n : Nat) : Int)) hX rfl rfl rfl rfl (by rw [wrapF_u8]; omega) rfl rfl ?_))) <;> (refine .cons (q hX rfl ?_)) <;> (((refine WOX.leak 0 (fun k => ownS 5 1 (.slice k 0 1 (some 1)) ([48 + n].map bcell)) rfl (fun k => .own rfl (by simp [bcell]) rfl) (fun _ => rfl) rfl fun k0 => ?_); (refine .cons (qstr (bs := [48 + n]) hX rfl rfl rfl rfl rfl .h (by simp) (by simp; omega) rfl rfl ?_)))) <;> (refine .cons (q hX rfl ?_)) <;> (refine .nil (.intro rfl ?_)))
   | (refine WCX.g_ (id := 3) ?_; (refine .cons (q hX rfl ?_)) <;> ((refine .cons (qn rfl rfl rfl (bin_quo64 (b := 10) (by omega) (by decide)) rfl rfl ?_))) <;> ((refine .cons (qcallV rfl rfl rfl rfl ca145 rfl rfl (fun h f => ih (n / 10) (by omega) (by omega) h f.wf) ?_))) <;> (refine .cons (q hX rfl ?_)) <;> ((refine .cons (qn rfl rfl rfl (bin_rem (b := 10) (by decide)) rfl rfl ?_))) <;> ((refine .cons (qcallV rfl rfl rfl rfl ca145 rfl rfl (fun h f => ih (n % 10) (by omega) (by omega) h f.wf) ?_))) <;> ((refine .cons (qcat rfl rfl rfl (by omega) rfl rfl ?_))) <;> (refine .cons (q hX rfl ?_)) <;> (refine .nil (.intro rfl ?_)))
   | refine WCX.r_ ?_
   | refine ToX.d_ ?_
   | refine WCX.t_ rfl ?_
   | refine WCX.f_ rfl ?_
   | refine WCX.k_ ?_
   | refine ToX.r_ hX rfl ?_)
  ·rename_i e
   exact fun h f => ⟨by rw [decB_small (n := n) (by omega)]; rfl, f.chg.picks .nil⟩
  ·rename_i e
   exact fun h f => ⟨by rw [decB_big (n := n) (by omega)]; rfl, f.chg⟩
end Ev
end Go.HL
namespace Go.HL
open Go Go.Proofs
namespace Ev
open Em
set_option maxRecDepth 10000
variable {K : CallFn} {base : List (Nat × HObj)}
def decI (n : Int) : List Nat := if n < 0 then 45 :: decB (-n).toNat else decB n.toNat
theorem decI_nat (n : Nat) : decI (n : Int) = decB n := by
 unfold decI
 rw [if_neg (by omega)]; rfl
theorem Digits_run (hK : KN base K) (n : Int) (h1 : -4294967296 < n) (h2 : n < 4294967296) (h : Heap) (w : Wf h) : Sp P K 73 [.int .i64 n] h (Val (strB (decI n)) h) := by
 have hl := decB_len (-n).toNat
 refine Sp.start (m := 21) (n := 11) w (hK.none 73 rfl rfl _ _) Tryz.func73 rfl rfl mask73 rfl rfl ?_
 repeat' (first
  | refine ToX.a_ ?_
  | refine WCX.s_ ?_
  | (refine WCX.g_ (id := 0) ?_; (refine .cons (q hX rfl ?_)) <;> (refine .nil (.intro rfl ?_)))
  | (refine WCX.g_ (id := 1) ?_; (refine .cons (q hX rfl ?_)) <;> ((refine .cons (qc rfl ?_ ?_)) <;> intro _) <;> (refine .nil (.intro rfl ?_)))
  | (refine WCX.g_ (id := 2) ?_; (refine .cons (q hX rfl ?_)) <;> ((refine .cons (qa (d := (((-n).toNat : Nat) : Int)) rfl rfl rfl rfl rfl (by rw [wI (by omega) (by omega)]; omega) rfl rfl ?_))) <;> ((refine .cons (qcallV rfl rfl rfl rfl ca145 rfl rfl (fun h f => digits_run hK (-n).toNat (by omega) h f.wf) ?_))) <;> ((refine .cons (qcat (a := [45]) rfl rfl rfl (by simp only [List.length_singleton]; omega) rfl rfl ?_))) <;> (refine .cons (q hX rfl ?_)) <;> (refine .nil (.intro rfl ?_)))
  | refine WCX.r_ ?_
  | refine ToX.d_ ?_
  | refine WCX.t_ rfl ?_
  | refine WCX.f_ rfl ?_
  | refine WCX.k_ ?_
  | refine ToX.r_ hX rfl ?_)
 ·rename_i e
  exact fun h f => ⟨by rw [decI, if_pos (by omega)]; rfl, f.chg⟩
 ·rename_i e
  obtain ⟨m, rfl⟩ : ∃ m : Nat, n = m := ⟨n.toNat, by omega⟩
  rw [decI_nat]
  repeat' (first
   | refine ToX.a_ ?_
   | (refine WCX.g_ (id := 3) ?_; (refine .cons (q hX rfl ?_)) <;> ((refine .cons (qcallV rfl rfl rfl rfl ca145 rfl rfl (fun h f => digits_run hK m (by omega) h f.wf) ?_))) <;> (refine .cons (q hX rfl ?_)) <;> (refine .nil (.intro rfl ?_)))
   | refine WCX.r_ ?_
   | refine ToX.r_ hX rfl ?_)
  exact fun h f => ⟨rfl, f.chg⟩
theorem num_run (hK : KN base K) (n : Int) (h1 : -4294967296 < n) (h2 : n < 4294967296) (h : Heap) (w : Wf h) : Sp P K 32 [.int .i64 n] h (Val (strB (decI n)) h) := by
 refine Sp.start (m := 5) (n := 5) w (hK.none 32 rfl rfl _ _) Tryz.func32 rfl rfl mask32 rfl rfl ?_
 repeat' (first
  | refine ToX.a_ ?_
  | refine WCX.s_ ?_
  | (refine WCX.g_ (id := 0) ?_; (refine .cons (q hX rfl ?_)) <;> (refine .nil (.intro rfl ?_)))
  | (refine WCX.g_ (id := 1) ?_; (refine .cons (q hX rfl ?_)) <;> ((refine .cons (qcallV rfl rfl rfl rfl ca73 rfl rfl (fun h f => Digits_run hK n h1 h2 h f.wf) ?_))) <;> (refine .cons (q hX rfl ?_)) <;> (refine .nil (.intro rfl ?_)))
  | refine WCX.r_ ?_
  | refine ToX.r_ hX rfl ?_)
 exact fun h f => ⟨rfl, f.chg⟩
end Ev
end Go.HL
namespace Go.HL
open Go Go.Proofs
namespace Ev
open Em
set_option maxRecDepth 10000
variable {K : CallFn} {base : List (Nat × HObj)}
def uT : List (List Nat) := [[45], [126], [33]]
def bT : List (List Nat) := [[43], [45], [42], [47], [37], [38], [124], [94], [60, 60], [62, 62], [62, 62, 62], [60], [60, 61], [61, 61], [33, 61], [60, 58], [38, 38], [124, 124], [109, 105, 110], [109, 97, 120]]
def fT (k : Int) : List Nat := if k = 0 then [97, 100, 100] else if k = 18 then [109, 105, 110] else if k = 19 then [109, 97, 120] else if k = 5 then [97, 110, 100] else if k = 6 then [111, 114] else [120, 111, 114]
theorem r_run (hK : KN base K) (n : Int) (h1 : -4294967296 < n) (h2 : n < 4294967296) (hl : (decI n).length ≤ 100) (h : Heap) (w : Wf h) : Sp P K 74 [.int .i64 n] h (Val (strB (114 :: decI n)) h) := by
 refine Sp.start (m := 5) (n := 6) w (hK.none 74 rfl rfl _ _) Tryz.func74 rfl rfl mask74 rfl rfl ?_
 repeat' (first
  | refine ToX.a_ ?_
  | refine WCX.s_ ?_
  | (refine WCX.g_ (id := 0) ?_; (refine .cons (q hX rfl ?_)) <;> (refine .nil (.intro rfl ?_)))
  | (refine WCX.g_ (id := 1) ?_; (refine .cons (q hX rfl ?_)) <;> ((refine .cons (qcallV rfl rfl rfl rfl ca32 rfl rfl (fun h f => num_run hK n h1 h2 h f.wf) ?_))) <;> ((refine .cons (qcat (a := [114]) rfl rfl rfl (by simp only [List.length_singleton]; omega) rfl rfl ?_))) <;> (refine .cons (q hX rfl ?_)) <;> (refine .nil (.intro rfl ?_)))
  | refine WCX.r_ ?_
  | refine ToX.r_ hX rfl ?_)
 exact fun h f => ⟨rfl, f.chg⟩
theorem isUnary_run (hK : KN base K) (n : Int) (h : Heap) (w : Wf h) : Sp P K 146 [.int .i64 n] h (Val (.bool (decide (0 ≤ n ∧ n < 3))) h) := by
 refine Sp.start (m := 5) (n := 9) w (hK.none 146 rfl rfl _ _) Tryz.func146 rfl rfl mask146 rfl rfl ?_
 repeat' (first
  | refine ToX.a_ ?_
  | refine WCX.s_ ?_
  | (refine WCX.g_ (id := 0) ?_; (refine .cons (q hX rfl ?_)) <;> (refine .nil (.intro rfl ?_)))
  | (refine WCX.g_ (id := 1) ?_; (refine .cons (q hX rfl ?_)) <;> ((refine .cons (qc rfl ?_ ?_)) <;> intro _) <;> (iterate 2 refine .cons (q hX rfl ?_)) <;> (first | (refine .cons (q hX rfl ?_)) | (refine .cons (qc rfl ?_ ?_)) <;> intro _) <;> (iterate 2 refine .cons (q hX rfl ?_)) <;> (refine .nil (.intro rfl ?_)))
  | refine WCX.r_ ?_
  | refine ToX.r_ hX rfl ?_)
 all_goals (intro h f; refine ⟨?_, f.chg⟩; clear f; first | (simp_all [resV]; done) | (simp_all [resV]; omega) | (simp_all [resV]; intros; exfalso; omega) | (simp_all [resV]; split <;> intros <;> first | omega | (exfalso; omega) | simp_all))
theorem isBinary_run (hK : KN base K) (n : Int) (h : Heap) (w : Wf h) : Sp P K 147 [.int .i64 n] h (Val (.bool (decide (0 ≤ n ∧ n < 20))) h) := by
 refine Sp.start (m := 5) (n := 9) w (hK.none 147 rfl rfl _ _) Tryz.func147 rfl rfl mask147 rfl rfl ?_
 repeat' (first
  | refine ToX.a_ ?_
  | refine WCX.s_ ?_
  | (refine WCX.g_ (id := 0) ?_; (refine .cons (q hX rfl ?_)) <;> (refine .nil (.intro rfl ?_)))
  | (refine WCX.g_ (id := 1) ?_; (refine .cons (q hX rfl ?_)) <;> ((refine .cons (qc rfl ?_ ?_)) <;> intro _) <;> (iterate 2 refine .cons (q hX rfl ?_)) <;> (first | (refine .cons (q hX rfl ?_)) | (refine .cons (qc rfl ?_ ?_)) <;> intro _) <;> (iterate 2 refine .cons (q hX rfl ?_)) <;> (refine .nil (.intro rfl ?_)))
  | refine WCX.r_ ?_
  | refine ToX.r_ hX rfl ?_)
 all_goals (intro h f; refine ⟨?_, f.chg⟩; clear f; first | (simp_all [resV]; done) | (simp_all [resV]; omega) | (simp_all [resV]; intros; exfalso; omega) | (simp_all [resV]; split <;> intros <;> first | omega | (exfalso; omega) | simp_all))
theorem unaryText_run (hK : KN base K) (k : Nat) (hk : k < 3) (h : Heap) (w : Wf h) : Sp P K 75 [i64 k] h (Val (strB (uT.getD k [])) h) := by
 obtain rfl | rfl | rfl : k = 0 ∨ k = 1 ∨ k = 2 := by omega
 all_goals
  refine Sp.start (m := 37) (n := 10) w (hK.none 75 rfl rfl _ _) Tryz.func75 rfl rfl mask75 rfl rfl ?_
  repeat' (first
   | refine ToX.a_ ?_
   | refine WCX.s_ ?_
   | (refine WCX.g_ (id := 0) ?_; (refine .cons (q hX rfl ?_)) <;> (refine .nil (.intro rfl ?_)))
   | (refine WCX.g_ (id := 1) ?_; (refine .cons (q hX rfl ?_)) <;> ((refine .cons (qcallV rfl rfl rfl rfl ca146 rfl rfl (fun h f => isUnary_run hK _ h f.wf) ?_))) <;> (refine .cons (q hX rfl ?_)) <;> (refine .nil (.intro rfl ?_)))
   | (refine WCX.g_ (id := 3) ?_; (iterate 2 refine .cons (q hX rfl ?_)) <;> ((refine .cons (qidxS hX rfl rfl rfl rfl rfl (by decide) rfl rfl ?_))) <;> (iterate 2 refine .cons (q hX rfl ?_)) <;> (refine .nil (.intro rfl ?_)))
   | refine WCX.r_ ?_
   | refine WCX.f_ rfl ?_
   | refine WCX.k_ ?_
   | refine ToX.r_ hX rfl ?_)
  exact fun h f => ⟨rfl, f.chg⟩
theorem binaryText_run (hK : KN base K) (k : Nat) (hk : k < 20) (h : Heap) (w : Wf h) : Sp P K 76 [i64 k] h (Val (strB (bT.getD k [])) h) := by
 obtain rfl | rfl | rfl | rfl | rfl | rfl | rfl | rfl | rfl | rfl | rfl | rfl | rfl | rfl | rfl | rfl | rfl | rfl | rfl | rfl : k = 0 ∨ k = 1 ∨ k = 2 ∨ k = 3 ∨ k = 4 ∨ k = 5 ∨ k = 6 ∨ k = 7 ∨ k = 8 ∨ k = 9 ∨ k = 10 ∨ k = 11 ∨ k = 12 ∨ k = 13 ∨ k = 14 ∨ k = 15 ∨ k = 16 ∨ k = 17 ∨ k = 18 ∨ k = 19 := by omega
 all_goals
  refine Sp.start (m := 37) (n := 10) w (hK.none 76 rfl rfl _ _) Tryz.func76 rfl rfl mask76 rfl rfl ?_
  repeat' (first
   | refine ToX.a_ ?_
   | refine WCX.s_ ?_
   | (refine WCX.g_ (id := 0) ?_; (refine .cons (q hX rfl ?_)) <;> (refine .nil (.intro rfl ?_)))
   | (refine WCX.g_ (id := 1) ?_; (refine .cons (q hX rfl ?_)) <;> ((refine .cons (qcallV rfl rfl rfl rfl ca147 rfl rfl (fun h f => isBinary_run hK _ h f.wf) ?_))) <;> (refine .cons (q hX rfl ?_)) <;> (refine .nil (.intro rfl ?_)))
   | (refine WCX.g_ (id := 3) ?_; (iterate 2 refine .cons (q hX rfl ?_)) <;> ((refine .cons (qidxS hX rfl rfl rfl rfl rfl (by decide) rfl rfl ?_))) <;> (iterate 2 refine .cons (q hX rfl ?_)) <;> (refine .nil (.intro rfl ?_)))
   | refine WCX.r_ ?_
   | refine WCX.f_ rfl ?_
   | refine WCX.k_ ?_
   | refine ToX.r_ hX rfl ?_)
  exact fun h f => ⟨rfl, f.chg⟩
theorem foldWord_run (hK : KN base K) (n : Int) (h : Heap) (w : Wf h) : Sp P K 77 [.int .i64 n] h (Val (strB (fT n)) h) := by
 refine Sp.start (m := 5469) (n := 14) w (hK.none 77 rfl rfl _ _) Tryz.func77 rfl rfl mask77 rfl rfl ?_
 repeat' (first
  | refine ToX.a_ ?_
  | refine WCX.s_ ?_
  | (refine WCX.g_ (id := 0) ?_; (refine .cons (q hX rfl ?_)) <;> (refine .nil (.intro rfl ?_)))
  | (refine WCX.g_ (id := 1) ?_; (refine .cons (q hX rfl ?_)) <;> (refine .nil (.intro rfl ?_)))
  | (refine WCX.g_ (id := 2) ?_; ((refine .cons (qc rfl ?_ ?_)) <;> intro _) <;> (refine .cons (q hX rfl ?_)) <;> (refine .nil (.intro rfl ?_)))
  | (refine WCX.g_ (id := 3) ?_; (refine .cons (q hX rfl ?_)) <;> (refine .nil (.intro rfl ?_)))
  | (refine WCX.g_ (id := 4) ?_; ((refine .cons (qc rfl ?_ ?_)) <;> intro _) <;> (refine .cons (q hX rfl ?_)) <;> (refine .nil (.intro rfl ?_)))
  | (refine WCX.g_ (id := 5) ?_; (refine .cons (q hX rfl ?_)) <;> (refine .nil (.intro rfl ?_)))
  | (refine WCX.g_ (id := 6) ?_; ((refine .cons (qc rfl ?_ ?_)) <;> intro _) <;> (refine .cons (q hX rfl ?_)) <;> (refine .nil (.intro rfl ?_)))
  | (refine WCX.g_ (id := 7) ?_; (refine .cons (q hX rfl ?_)) <;> (refine .nil (.intro rfl ?_)))
  | (refine WCX.g_ (id := 8) ?_; ((refine .cons (qc rfl ?_ ?_)) <;> intro _) <;> (refine .cons (q hX rfl ?_)) <;> (refine .nil (.intro rfl ?_)))
  | (refine WCX.g_ (id := 9) ?_; (refine .cons (q hX rfl ?_)) <;> (refine .nil (.intro rfl ?_)))
  | (refine WCX.g_ (id := 10) ?_; ((refine .cons (qc rfl ?_ ?_)) <;> intro _) <;> (refine .cons (q hX rfl ?_)) <;> (refine .nil (.intro rfl ?_)))
  | (refine WCX.g_ (id := 11) ?_; (refine .cons (q hX rfl ?_)) <;> (refine .nil (.intro rfl ?_)))
  | (refine WCX.g_ (id := 12) ?_; (refine .cons (q hX rfl ?_)) <;> (refine .nil (.intro rfl ?_)))
  | refine WCX.r_ ?_
  | refine ToX.d_ ?_
  | refine ToX.f_ ?_
  | refine WCX.t_ rfl ?_
  | refine WCX.f_ rfl ?_
  | refine WCX.k_ ?_
  | refine WCX.b_ ?_
  | refine ToX.b_ ?_
  | refine ToX.r_ hX rfl ?_)
 all_goals exact fun h f => ⟨by simp_all [fT, resV, codeN]; exact ⟨rfl, rfl⟩, f.chg⟩
theorem decB_len2 : ∀ (k n : Nat), 0 < k → n < 10 ^ k → (decB n).length ≤ k := by
 intro k
 induction k with
 | zero => intro n h; omega
 | succ k ih =>
  intro n _ hn
  by_cases h : n < 10
  ·rw [decB_small h]; simp
  ·rw [decB_big h, decB_small (n := n % 10) (by omega), List.length_append, List.length_singleton]
   have hk : 0 < k := by
    cases k with
    | zero => omega
    | succ k => omega
   have := ih (n / 10) hk (by rw [Nat.pow_succ] at hn; omega)
   omega
theorem decI_len {n : Int} (h1 : -4294967296 < n) (h2 : n < 4294967296) : (decI n).length ≤ 11 := by
 unfold decI
 split
 ·have := decB_len2 10 (-n).toNat (by decide) (by omega)
  simp only [List.length_cons]; omega
 ·have := decB_len2 10 n.toNat (by decide) (by omega)
  omega
end Ev
end Go.HL
namespace Go.HL
open Go Go.Proofs
namespace Ev
open Em
set_option maxRecDepth 10000
set_option maxHeartbeats 4000000
variable {K : CallFn} {base : List (Nat × HObj)}
def rT (n : Int) : List Nat := 114 :: decI n
def spT : List (List Nat) := [[116, 105, 100], [98, 105, 100], [100, 105, 109], [103, 114, 105, 100]]
def lineT (x : InsnD) : List Nat :=
 if x.kind = 0 then rT x.d ++ [32, 61, 32] ++ decI x.imm
 else if x.kind = 1 then rT x.d ++ [32, 61, 32] ++ rT x.a
 else if x.kind = 2 then rT x.d ++ [32, 61, 32] ++ uT.getD x.op.toNat [] ++ [32] ++ rT x.a
 else if x.kind = 3 then rT x.d ++ [32, 61, 32] ++ rT x.a ++ [32] ++ bT.getD x.op.toNat [] ++ [32] ++ rT x.b
 else if x.kind = 4 then rT x.d ++ [32, 61, 32] ++ spT.getD x.op.toNat []
 else if x.kind = 5 then rT x.d ++ [32, 61, 32, 112, 97, 114, 97, 109, 32] ++ decI x.imm
 else if x.kind = 6 then rT x.d ++ [32, 61, 32, 97, 114, 114, 97, 121, 32] ++ decI x.imm ++ [32] ++ rT x.a
 else if x.kind = 7 then [97, 114, 114, 97, 121, 32] ++ decI x.imm ++ [32] ++ rT x.a ++ [32, 61, 32] ++ rT x.b
 else if x.kind = 8 then [97, 116, 111, 109, 105, 99, 32] ++ fT x.op ++ [32, 97, 114, 114, 97, 121, 32] ++ decI x.imm ++ [32] ++ rT x.a ++ [32] ++ rT x.b
 else if x.kind = 9 then [98, 97, 114, 114, 105, 101, 114, 32] ++ decI x.imm
 else if x.kind = 10 then rT x.d ++ [32, 61, 32, 99, 111, 108, 108, 101, 99, 116, 32] ++ fT x.op ++ [32] ++ rT x.a ++ [32] ++ decI x.imm
 else if x.kind = 11 then rT x.d ++ [32, 61, 32, 108, 111, 99, 97, 108, 32] ++ decI x.imm
 else if x.kind = 12 then [108, 111, 99, 97, 108, 32] ++ decI x.imm ++ [32, 61, 32] ++ rT x.a
 else if x.kind = 13 then [106, 117, 109, 112, 32] ++ decI x.to
 else if x.kind = 14 then [98, 114, 97, 110, 99, 104, 32] ++ rT x.a ++ [32] ++ decI x.to ++ [32, 106, 111, 105, 110, 32] ++ decI x.join
 else [101, 120, 105, 116]
theorem rT_len {n : Int} (h1 : -4294967296 < n) (h2 : n < 4294967296) : (rT n).length ≤ 12 := by
 have := decI_len h1 h2
 simp only [rT, List.length_cons]; omega
theorem fT_len (n : Int) : (fT n).length ≤ 3 := by
 unfold fT
 repeat' split
 all_goals simp
theorem r2_run (hK : KN base K) (n : Int) (h1 : 0 ≤ n) (h2 : n < 256) (h : Heap) (w : Wf h) : Sp P K 74 [.int .i64 n] h (Val (strB (rT n)) h) := r_run hK n (by omega) (by omega) (by have := decI_len (n := n) (by omega) (by omega); omega) h w
theorem unaryI_run (hK : KN base K) (n : Int) (h1 : 0 ≤ n) (h2 : n < 3) (h : Heap) (w : Wf h) : Sp P K 75 [.int .i64 n] h (Val (strB (uT.getD n.toNat [])) h) := by
 obtain ⟨k, rfl⟩ := Int.eq_ofNat_of_zero_le h1
 exact unaryText_run hK k (by omega) h w
theorem binaryI_run (hK : KN base K) (n : Int) (h1 : 0 ≤ n) (h2 : n < 20) (h : Heap) (w : Wf h) : Sp P K 76 [.int .i64 n] h (Val (strB (bT.getD n.toNat [])) h) := by
 obtain ⟨k, rfl⟩ := Int.eq_ofNat_of_zero_le h1
 exact binaryText_run hK k (by omega) h w
structure LineOk (x : InsnD) : Prop where
 fine : InsnFine x
 u : x.kind = 2 → 0 ≤ x.op ∧ x.op < 3
 b : x.kind = 3 → 0 ≤ x.op ∧ x.op < 20
 s : x.kind = 4 → 0 ≤ x.op ∧ x.op < 4
theorem getD_len {l : List (List Nat)} {k : Nat} (h : ∀ x ∈ l, x.length ≤ 4) : (l.getD k []).length ≤ 4 := by
 by_cases hk : k < l.length
 ·exact h _ (getD_mem _ hk)
 ·rw [List.getD, List.getElem?_eq_none (by omega)]; simp
theorem line_run (hK : KN base K) (x : InsnD) (hx : LineOk x) (h : Heap) (w : Wf h) : Sp P K 33 [.agg (icell x)] h (Val (strB (lineT x)) h) := by
 obtain ⟨fine, hu, hb, hs⟩ := hx
 have f1 := fine.d
 have f2 := fine.a
 have f3 := fine.b
 have f4 := fine.imm
 have f5 := fine.to
 have f6 := fine.join
 have f7 := fine.kind
 have l1 := rT_len (n := x.d) (by omega) (by omega)
 have l2 := rT_len (n := x.a) (by omega) (by omega)
 have l3 := rT_len (n := x.b) (by omega) (by omega)
 have l4 := decI_len (n := x.imm) (by omega) (by omega)
 have l5 := decI_len (n := x.to) (by omega) (by omega)
 have l6 := decI_len (n := x.join) (by omega) (by omega)
 have l7 := fT_len x.op
 have l8 := getD_len (l := uT) (k := x.op.toNat) (by decide)
 have l9 := getD_len (l := bT) (k := x.op.toNat) (by decide)
 refine Sp.start (m := 24320120850511845024061644935650417107858539768186383) (n := 190) w (hK.none 33 rfl rfl _ _) Tryz.func33 rfl rfl mask33 rfl rfl ?_
 repeat' (first
  | refine ToX.a_ ?_
  | refine WCX.s_ ?_
  | (refine WCX.g_ (id := 0) ?_; (iterate 2 refine .cons (q hX rfl ?_)) <;> (refine .nil (.intro rfl ?_)))
  | (refine WCX.g_ (id := 1) ?_; (iterate 2 refine .cons (q hX rfl ?_)) <;> ((refine .cons (qw hX rfl rfl rfl rfl (wI (by omega) (by omega)) rfl rfl ?_))) <;> ((refine .cons (qcallV rfl rfl rfl rfl ca73 rfl rfl (fun h f => Digits_run hK x.imm (by omega) (by omega) h f.wf) ?_))) <;> (refine .cons (q hX rfl ?_)) <;> (refine .nil (.intro rfl ?_)))
  | (refine WCX.g_ (id := 2) ?_; (iterate 2 refine .cons (q hX rfl ?_)) <;> (refine .nil (.intro rfl ?_)))
  | (refine WCX.g_ (id := 3) ?_; ((refine .cons (qc rfl ?_ ?_)) <;> intro _) <;> (refine .cons (q hX rfl ?_)) <;> (refine .nil (.intro rfl ?_)))
  | (refine WCX.g_ (id := 4) ?_; (iterate 2 refine .cons (q hX rfl ?_)) <;> ((refine .cons (qcallV rfl rfl rfl rfl ca74 rfl rfl (fun h f => r2_run hK x.d (by omega) (by omega) h f.wf) ?_))) <;> ((refine .cons (qcat (b := [32, 61, 32]) rfl rfl rfl (by simp only [List.length_append, List.length_cons, List.length_nil]; omega) rfl rfl ?_))) <;> (refine .cons (q hX rfl ?_)) <;> ((refine .cons (qcat rfl rfl rfl (by simp only [List.length_append, List.length_cons, List.length_nil]; omega) rfl rfl ?_))) <;> (refine .cons (q hX rfl ?_)) <;> (refine .nil (.intro rfl ?_)))
  | (refine WCX.g_ (id := 5) ?_; ((refine .cons (qc rfl ?_ ?_)) <;> intro _) <;> (refine .cons (q hX rfl ?_)) <;> (refine .nil (.intro rfl ?_)))
  | (refine WCX.draw (id := 6) tab [0, 1, 4, 5, 2, 3, 6, 7, 8] #[0, 1, 3, 7, 0, 16, 55, 127, 255] (by kernel_rfl) (by kernel_rfl) (by kernel_rfl) ?_; (refine .cq hX rfl rfl rfl ?_) <;> ((refine .cons rfl (q hX rfl ?_)) <;> refine ⟨_, .rdB hX.tab rfl rfl rfl rfl rfl rfl rfl rfl (suB rfl) rfl rfl rfl, ?_⟩) <;> (refine .cq hX rfl rfl rfl ?_) <;> ((refine .cons rfl (q hX rfl ?_)) <;> refine ⟨_, .rdB hX.tab rfl rfl rfl rfl rfl rfl rfl rfl (suB rfl) rfl rfl rfl, ?_⟩) <;> ((refine .cons rfl (qcallV rfl rfl rfl rfl ca74 rfl rfl (fun h f => r2_run hK x.d (by omega) (by omega) h f.wf) ?_)) <;> refine ⟨_, .comp rfl, ?_⟩) <;> ((refine .cons rfl (qcat (b := [32, 61, 32]) rfl rfl rfl (by simp only [List.length_append, List.length_cons, List.length_nil]; omega) rfl rfl ?_)) <;> refine ⟨_, .comp rfl, ?_⟩) <;> ((refine .cons rfl (qcallV rfl rfl rfl rfl ca74 rfl rfl (fun h f => r2_run hK x.a (by omega) (by omega) h f.wf) ?_)) <;> refine ⟨_, .comp rfl, ?_⟩) <;> ((refine .cons rfl (qcat rfl rfl rfl (by simp only [List.length_append, List.length_cons, List.length_nil]; omega) rfl rfl ?_)) <;> refine ⟨_, .comp rfl, ?_⟩) <;> (refine .cq hX rfl rfl rfl ?_) <;> (refine .nil ⟨?_, .intro rfl ?_⟩ <;> (repeat' (first | exact trivial | exact .inl rfl | exact .inr (.inl ⟨_, _, _, _, rfl, rfl, rfl⟩) | refine ⟨?_, ?_⟩))))
  | (refine WCX.g_ (id := 7) ?_; ((refine .cons (qc rfl ?_ ?_)) <;> intro _) <;> (refine .cons (q hX rfl ?_)) <;> (refine .nil (.intro rfl ?_)))
  | (refine WCX.draw (id := 8) tab [0, 1, 4, 5, 9, 10, 2, 3, 6, 7, 8, 11, 12, 13] #[0, 1, 3, 7, 0, 16, 55, 127, 255, 0, 512, 1655, 4095, 8191] (by kernel_rfl) (by kernel_rfl) (by kernel_rfl) ?_; (refine .cq hX rfl rfl rfl ?_) <;> ((refine .cons rfl (q hX rfl ?_)) <;> refine ⟨_, .rdB hX.tab rfl rfl rfl rfl rfl rfl rfl rfl (suB rfl) rfl rfl rfl, ?_⟩) <;> (refine .cq hX rfl rfl rfl ?_) <;> ((refine .cons rfl (q hX rfl ?_)) <;> refine ⟨_, .rdB hX.tab rfl rfl rfl rfl rfl rfl rfl rfl (suB rfl) rfl rfl rfl, ?_⟩) <;> (refine .cq hX rfl rfl rfl ?_) <;> ((refine .cons rfl (q hX rfl ?_)) <;> refine ⟨_, .rdB hX.tab rfl rfl rfl rfl rfl rfl rfl rfl (suB rfl) rfl rfl rfl, ?_⟩) <;> ((refine .cons rfl (qcallV rfl rfl rfl rfl ca74 rfl rfl (fun h f => r2_run hK x.d (by omega) (by omega) h f.wf) ?_)) <;> refine ⟨_, .comp rfl, ?_⟩) <;> ((refine .cons rfl (qcat (b := [32, 61, 32]) rfl rfl rfl (by simp only [List.length_append, List.length_cons, List.length_nil]; omega) rfl rfl ?_)) <;> refine ⟨_, .comp rfl, ?_⟩) <;> ((refine .cons rfl (qcallV rfl rfl rfl rfl ca75 rfl rfl (fun h f => unaryI_run hK x.op (by omega) (by omega) h f.wf) ?_)) <;> refine ⟨_, .comp rfl, ?_⟩) <;> ((refine .cons rfl (qcat rfl rfl rfl (by simp only [List.length_append, List.length_cons, List.length_nil]; omega) rfl rfl ?_)) <;> refine ⟨_, .comp rfl, ?_⟩) <;> ((refine .cons rfl (qcat (b := [32]) rfl rfl rfl (by simp only [List.length_append, List.length_cons, List.length_nil]; omega) rfl rfl ?_)) <;> refine ⟨_, .comp rfl, ?_⟩) <;> ((refine .cons rfl (qcallV rfl rfl rfl rfl ca74 rfl rfl (fun h f => r2_run hK x.a (by omega) (by omega) h f.wf) ?_)) <;> refine ⟨_, .comp rfl, ?_⟩) <;> ((refine .cons rfl (qcat rfl rfl rfl (by simp only [List.length_append, List.length_cons, List.length_nil]; omega) rfl rfl ?_)) <;> refine ⟨_, .comp rfl, ?_⟩) <;> (refine .cq hX rfl rfl rfl ?_) <;> (refine .nil ⟨?_, .intro rfl ?_⟩ <;> (repeat' (first | exact trivial | exact .inl rfl | exact .inr (.inl ⟨_, _, _, _, rfl, rfl, rfl⟩) | refine ⟨?_, ?_⟩))))
  | (refine WCX.g_ (id := 9) ?_; ((refine .cons (qc rfl ?_ ?_)) <;> intro _) <;> (refine .cons (q hX rfl ?_)) <;> (refine .nil (.intro rfl ?_)))
  | (refine WCX.draw (id := 10) tab [0, 1, 4, 5, 9, 10, 14, 15, 2, 3, 6, 7, 8, 11, 12, 16, 13, 17, 18] #[0, 1, 3, 7, 0, 16, 55, 127, 255, 0, 512, 1655, 4095, 8191, 0, 16384, 52855, 131071, 262143] (by kernel_rfl) (by kernel_rfl) (by kernel_rfl) ?_; (refine .cq hX rfl rfl rfl ?_) <;> ((refine .cons rfl (q hX rfl ?_)) <;> refine ⟨_, .rdB hX.tab rfl rfl rfl rfl rfl rfl rfl rfl (suB rfl) rfl rfl rfl, ?_⟩) <;> (refine .cq hX rfl rfl rfl ?_) <;> ((refine .cons rfl (q hX rfl ?_)) <;> refine ⟨_, .rdB hX.tab rfl rfl rfl rfl rfl rfl rfl rfl (suB rfl) rfl rfl rfl, ?_⟩) <;> (refine .cq hX rfl rfl rfl ?_) <;> ((refine .cons rfl (q hX rfl ?_)) <;> refine ⟨_, .rdB hX.tab rfl rfl rfl rfl rfl rfl rfl rfl (suB rfl) rfl rfl rfl, ?_⟩) <;> (refine .cq hX rfl rfl rfl ?_) <;> ((refine .cons rfl (q hX rfl ?_)) <;> refine ⟨_, .rdB hX.tab rfl rfl rfl rfl rfl rfl rfl rfl (suB rfl) rfl rfl rfl, ?_⟩) <;> ((refine .cons rfl (qcallV rfl rfl rfl rfl ca74 rfl rfl (fun h f => r2_run hK x.d (by omega) (by omega) h f.wf) ?_)) <;> refine ⟨_, .comp rfl, ?_⟩) <;> ((refine .cons rfl (qcat (b := [32, 61, 32]) rfl rfl rfl (by simp only [List.length_append, List.length_cons, List.length_nil]; omega) rfl rfl ?_)) <;> refine ⟨_, .comp rfl, ?_⟩) <;> ((refine .cons rfl (qcallV rfl rfl rfl rfl ca74 rfl rfl (fun h f => r2_run hK x.a (by omega) (by omega) h f.wf) ?_)) <;> refine ⟨_, .comp rfl, ?_⟩) <;> ((refine .cons rfl (qcat rfl rfl rfl (by simp only [List.length_append, List.length_cons, List.length_nil]; omega) rfl rfl ?_)) <;> refine ⟨_, .comp rfl, ?_⟩) <;> ((refine .cons rfl (qcat (b := [32]) rfl rfl rfl (by simp only [List.length_append, List.length_cons, List.length_nil]; omega) rfl rfl ?_)) <;> refine ⟨_, .comp rfl, ?_⟩) <;> ((refine .cons rfl (qcallV rfl rfl rfl rfl ca76 rfl rfl (fun h f => binaryI_run hK x.op (by omega) (by omega) h f.wf) ?_)) <;> refine ⟨_, .comp rfl, ?_⟩) <;> ((refine .cons rfl (qcat rfl rfl rfl (by simp only [List.length_append, List.length_cons, List.length_nil]; omega) rfl rfl ?_)) <;> refine ⟨_, .comp rfl, ?_⟩) <;> ((refine .cons rfl (qcallV rfl rfl rfl rfl ca74 rfl rfl (fun h f => r2_run hK x.b (by omega) (by omega) h f.wf) ?_)) <;> refine ⟨_, .comp rfl, ?_⟩) <;> ((refine .cons rfl (qcat (b := [32]) rfl rfl rfl (by simp only [List.length_append, List.length_cons, List.length_nil]; omega) rfl rfl ?_)) <;> refine ⟨_, .comp rfl, ?_⟩) <;> ((refine .cons rfl (qcat rfl rfl rfl (by simp only [List.length_append, List.length_cons, List.length_nil]; omega) rfl rfl ?_)) <;> refine ⟨_, .comp rfl, ?_⟩) <;> (refine .cq hX rfl rfl rfl ?_) <;> (refine .nil ⟨?_, .intro rfl ?_⟩ <;> (repeat' (first | exact trivial | exact .inl rfl | exact .inr (.inl ⟨_, _, _, _, rfl, rfl, rfl⟩) | refine ⟨?_, ?_⟩))))
  | (refine WCX.g_ (id := 11) ?_; ((refine .cons (qc rfl ?_ ?_)) <;> intro _) <;> (refine .cons (q hX rfl ?_)) <;> (refine .nil (.intro rfl ?_)))
  | (refine WCX.g_ (id := 13) ?_; ((refine .cons (qc rfl ?_ ?_)) <;> intro _) <;> (refine .cons (q hX rfl ?_)) <;> (refine .nil (.intro rfl ?_)))
  | (refine WCX.g_ (id := 14) ?_; (iterate 2 refine .cons (q hX rfl ?_)) <;> ((refine .cons (qcallV rfl rfl rfl rfl ca74 rfl rfl (fun h f => r2_run hK x.d (by omega) (by omega) h f.wf) ?_))) <;> ((refine .cons (qcat (b := [32, 61, 32, 112, 97, 114, 97, 109, 32]) rfl rfl rfl (by simp only [List.length_append, List.length_cons, List.length_nil]; omega) rfl rfl ?_))) <;> (refine .cons (q hX rfl ?_)) <;> ((refine .cons (qcat rfl rfl rfl (by simp only [List.length_append, List.length_cons, List.length_nil]; omega) rfl rfl ?_))) <;> (refine .cons (q hX rfl ?_)) <;> (refine .nil (.intro rfl ?_)))
  | (refine WCX.g_ (id := 15) ?_; ((refine .cons (qc rfl ?_ ?_)) <;> intro _) <;> (refine .cons (q hX rfl ?_)) <;> (refine .nil (.intro rfl ?_)))
  | (refine WCX.draw (id := 16) tab [0, 1, 4, 7, 8, 2, 3, 9, 5, 6, 10, 11] #[0, 1, 3, 7, 0, 31, 63, 0, 128, 391, 1023, 2047] (by kernel_rfl) (by kernel_rfl) (by kernel_rfl) ?_; (refine .cq hX rfl rfl rfl ?_) <;> ((refine .cons rfl (q hX rfl ?_)) <;> refine ⟨_, .rdB hX.tab rfl rfl rfl rfl rfl rfl rfl rfl (suB rfl) rfl rfl rfl, ?_⟩) <;> (iterate 2 refine .cq hX rfl rfl rfl ?_) <;> ((refine .cons rfl (q hX rfl ?_)) <;> refine ⟨_, .rdB hX.tab rfl rfl rfl rfl rfl rfl rfl rfl (suB rfl) rfl rfl rfl, ?_⟩) <;> ((refine .cons rfl (qcallV rfl rfl rfl rfl ca74 rfl rfl (fun h f => r2_run hK x.d (by omega) (by omega) h f.wf) ?_)) <;> refine ⟨_, .comp rfl, ?_⟩) <;> ((refine .cons rfl (qcat (b := [32, 61, 32, 97, 114, 114, 97, 121, 32]) rfl rfl rfl (by simp only [List.length_append, List.length_cons, List.length_nil]; omega) rfl rfl ?_)) <;> refine ⟨_, .comp rfl, ?_⟩) <;> ((refine .cons rfl (qcallV rfl rfl rfl rfl ca74 rfl rfl (fun h f => r2_run hK x.a (by omega) (by omega) h f.wf) ?_)) <;> refine ⟨_, .comp rfl, ?_⟩) <;> ((refine .cons rfl (qcat rfl rfl rfl (by simp only [List.length_append, List.length_cons, List.length_nil]; omega) rfl rfl ?_)) <;> refine ⟨_, .comp rfl, ?_⟩) <;> ((refine .cons rfl (qcat (b := [32]) rfl rfl rfl (by simp only [List.length_append, List.length_cons, List.length_nil]; omega) rfl rfl ?_)) <;> refine ⟨_, .comp rfl, ?_⟩) <;> ((refine .cons rfl (qcat rfl rfl rfl (by simp only [List.length_append, List.length_cons, List.length_nil]; omega) rfl rfl ?_)) <;> refine ⟨_, .comp rfl, ?_⟩) <;> (refine .cq hX rfl rfl rfl ?_) <;> (refine .nil ⟨?_, .intro rfl ?_⟩ <;> (repeat' (first | exact trivial | exact .inl rfl | exact .inr (.inl ⟨_, _, _, _, rfl, rfl, rfl⟩) | refine ⟨?_, ?_⟩))))
  | (refine WCX.g_ (id := 17) ?_; ((refine .cons (qc rfl ?_ ?_)) <;> intro _) <;> (refine .cons (q hX rfl ?_)) <;> (refine .nil (.intro rfl ?_)))
  | (refine WCX.draw (id := 18) tab [0, 1, 2, 3, 4, 8, 9, 5, 6, 10, 7, 11, 12] #[0, 1, 3, 0, 8, 24, 63, 127, 0, 256, 824, 2047, 4095] (by kernel_rfl) (by kernel_rfl) (by kernel_rfl) ?_; (refine .cq hX rfl rfl rfl ?_) <;> ((refine .cons rfl (qcat (a := [97, 114, 114, 97, 121, 32]) rfl rfl rfl (by simp only [List.length_append, List.length_cons, List.length_nil]; omega) rfl rfl ?_)) <;> refine ⟨_, .comp rfl, ?_⟩) <;> ((refine .cons rfl (qcat (b := [32]) rfl rfl rfl (by simp only [List.length_append, List.length_cons, List.length_nil]; omega) rfl rfl ?_)) <;> refine ⟨_, .comp rfl, ?_⟩) <;> (refine .cq hX rfl rfl rfl ?_) <;> ((refine .cons rfl (q hX rfl ?_)) <;> refine ⟨_, .rdB hX.tab rfl rfl rfl rfl rfl rfl rfl rfl (suB rfl) rfl rfl rfl, ?_⟩) <;> (refine .cq hX rfl rfl rfl ?_) <;> ((refine .cons rfl (q hX rfl ?_)) <;> refine ⟨_, .rdB hX.tab rfl rfl rfl rfl rfl rfl rfl rfl (suB rfl) rfl rfl rfl, ?_⟩) <;> ((refine .cons rfl (qcallV rfl rfl rfl rfl ca74 rfl rfl (fun h f => r2_run hK x.a (by omega) (by omega) h f.wf) ?_)) <;> refine ⟨_, .comp rfl, ?_⟩) <;> ((refine .cons rfl (qcat rfl rfl rfl (by simp only [List.length_append, List.length_cons, List.length_nil]; omega) rfl rfl ?_)) <;> refine ⟨_, .comp rfl, ?_⟩) <;> ((refine .cons rfl (qcallV rfl rfl rfl rfl ca74 rfl rfl (fun h f => r2_run hK x.b (by omega) (by omega) h f.wf) ?_)) <;> refine ⟨_, .comp rfl, ?_⟩) <;> ((refine .cons rfl (qcat (b := [32, 61, 32]) rfl rfl rfl (by simp only [List.length_append, List.length_cons, List.length_nil]; omega) rfl rfl ?_)) <;> refine ⟨_, .comp rfl, ?_⟩) <;> ((refine .cons rfl (qcat rfl rfl rfl (by simp only [List.length_append, List.length_cons, List.length_nil]; omega) rfl rfl ?_)) <;> refine ⟨_, .comp rfl, ?_⟩) <;> (refine .cq hX rfl rfl rfl ?_) <;> (refine .nil ⟨?_, .intro rfl ?_⟩ <;> (repeat' (first | exact trivial | exact .inl rfl | exact .inr (.inl ⟨_, _, _, _, rfl, rfl, rfl⟩) | refine ⟨?_, ?_⟩))))
  | (refine WCX.g_ (id := 19) ?_; ((refine .cons (qc rfl ?_ ?_)) <;> intro _) <;> (refine .cons (q hX rfl ?_)) <;> (refine .nil (.intro rfl ?_)))
  | (refine WCX.draw (id := 20) tab [0, 1, 5, 8, 9, 13, 14, 2, 3, 10, 4, 6, 7, 11, 12, 15, 16, 17] #[0, 1, 3, 7, 15, 0, 63, 127, 0, 256, 775, 2047, 4095, 0, 8192, 26375, 65535, 131071] (by kernel_rfl) (by kernel_rfl) (by kernel_rfl) ?_; (refine .cq hX rfl rfl rfl ?_) <;> ((refine .cons rfl (q hX rfl ?_)) <;> refine ⟨_, .rdB hX.tab rfl rfl rfl rfl rfl rfl rfl rfl (suB rfl) rfl rfl rfl, ?_⟩) <;> (iterate 2 refine .cq hX rfl rfl rfl ?_) <;> ((refine .cons rfl (q hX rfl ?_)) <;> refine ⟨_, .rdB hX.tab rfl rfl rfl rfl rfl rfl rfl rfl (suB rfl) rfl rfl rfl, ?_⟩) <;> (refine .cq hX rfl rfl rfl ?_) <;> ((refine .cons rfl (q hX rfl ?_)) <;> refine ⟨_, .rdB hX.tab rfl rfl rfl rfl rfl rfl rfl rfl (suB rfl) rfl rfl rfl, ?_⟩) <;> ((refine .cons rfl (qcallV rfl rfl rfl rfl ca77 rfl rfl (fun h f => foldWord_run hK x.op h f.wf) ?_)) <;> refine ⟨_, .comp rfl, ?_⟩) <;> ((refine .cons rfl (qcat (a := [97, 116, 111, 109, 105, 99, 32]) rfl rfl rfl (by simp only [List.length_append, List.length_cons, List.length_nil]; omega) rfl rfl ?_)) <;> refine ⟨_, .comp rfl, ?_⟩) <;> ((refine .cons rfl (qcallV rfl rfl rfl rfl ca74 rfl rfl (fun h f => r2_run hK x.a (by omega) (by omega) h f.wf) ?_)) <;> refine ⟨_, .comp rfl, ?_⟩) <;> ((refine .cons rfl (qcat (b := [32, 97, 114, 114, 97, 121, 32]) rfl rfl rfl (by simp only [List.length_append, List.length_cons, List.length_nil]; omega) rfl rfl ?_)) <;> refine ⟨_, .comp rfl, ?_⟩) <;> ((refine .cons rfl (qcat rfl rfl rfl (by simp only [List.length_append, List.length_cons, List.length_nil]; omega) rfl rfl ?_)) <;> refine ⟨_, .comp rfl, ?_⟩) <;> ((refine .cons rfl (qcat (b := [32]) rfl rfl rfl (by simp only [List.length_append, List.length_cons, List.length_nil]; omega) rfl rfl ?_)) <;> refine ⟨_, .comp rfl, ?_⟩) <;> ((refine .cons rfl (qcat rfl rfl rfl (by simp only [List.length_append, List.length_cons, List.length_nil]; omega) rfl rfl ?_)) <;> refine ⟨_, .comp rfl, ?_⟩) <;> ((refine .cons rfl (qcat (b := [32]) rfl rfl rfl (by simp only [List.length_append, List.length_cons, List.length_nil]; omega) rfl rfl ?_)) <;> refine ⟨_, .comp rfl, ?_⟩) <;> ((refine .cons rfl (qcallV rfl rfl rfl rfl ca74 rfl rfl (fun h f => r2_run hK x.b (by omega) (by omega) h f.wf) ?_)) <;> refine ⟨_, .comp rfl, ?_⟩) <;> ((refine .cons rfl (qcat rfl rfl rfl (by simp only [List.length_append, List.length_cons, List.length_nil]; omega) rfl rfl ?_)) <;> refine ⟨_, .comp rfl, ?_⟩) <;> (refine .cq hX rfl rfl rfl ?_) <;> (refine .nil ⟨?_, .intro rfl ?_⟩ <;> (repeat' (first | exact trivial | exact .inl rfl | exact .inr (.inl ⟨_, _, _, _, rfl, rfl, rfl⟩) | refine ⟨?_, ?_⟩))))
  | (refine WCX.g_ (id := 21) ?_; ((refine .cons (qc rfl ?_ ?_)) <;> intro _) <;> (refine .cons (q hX rfl ?_)) <;> (refine .nil (.intro rfl ?_)))
  | (refine WCX.g_ (id := 22) ?_; (refine .cons (q hX rfl ?_)) <;> ((refine .cons (qcat (a := [98, 97, 114, 114, 105, 101, 114, 32]) rfl rfl rfl (by simp only [List.length_append, List.length_cons, List.length_nil]; omega) rfl rfl ?_))) <;> (refine .cons (q hX rfl ?_)) <;> (refine .nil (.intro rfl ?_)))
  | (refine WCX.g_ (id := 23) ?_; ((refine .cons (qc rfl ?_ ?_)) <;> intro _) <;> (refine .cons (q hX rfl ?_)) <;> (refine .nil (.intro rfl ?_)))
  | (refine WCX.draw (id := 24) tab [0, 1, 4, 5, 9, 10, 14, 2, 3, 6, 7, 8, 11, 12, 13, 15, 16] #[0, 1, 3, 7, 0, 16, 55, 127, 255, 0, 512, 1655, 4095, 8191, 0, 32767, 65535] (by kernel_rfl) (by kernel_rfl) (by kernel_rfl) ?_; (refine .cq hX rfl rfl rfl ?_) <;> ((refine .cons rfl (q hX rfl ?_)) <;> refine ⟨_, .rdB hX.tab rfl rfl rfl rfl rfl rfl rfl rfl (suB rfl) rfl rfl rfl, ?_⟩) <;> (refine .cq hX rfl rfl rfl ?_) <;> ((refine .cons rfl (q hX rfl ?_)) <;> refine ⟨_, .rdB hX.tab rfl rfl rfl rfl rfl rfl rfl rfl (suB rfl) rfl rfl rfl, ?_⟩) <;> (refine .cq hX rfl rfl rfl ?_) <;> ((refine .cons rfl (q hX rfl ?_)) <;> refine ⟨_, .rdB hX.tab rfl rfl rfl rfl rfl rfl rfl rfl (suB rfl) rfl rfl rfl, ?_⟩) <;> (refine .cq hX rfl rfl rfl ?_) <;> ((refine .cons rfl (qcallV rfl rfl rfl rfl ca74 rfl rfl (fun h f => r2_run hK x.d (by omega) (by omega) h f.wf) ?_)) <;> refine ⟨_, .comp rfl, ?_⟩) <;> ((refine .cons rfl (qcat (b := [32, 61, 32, 99, 111, 108, 108, 101, 99, 116, 32]) rfl rfl rfl (by simp only [List.length_append, List.length_cons, List.length_nil]; omega) rfl rfl ?_)) <;> refine ⟨_, .comp rfl, ?_⟩) <;> ((refine .cons rfl (qcallV rfl rfl rfl rfl ca77 rfl rfl (fun h f => foldWord_run hK x.op h f.wf) ?_)) <;> refine ⟨_, .comp rfl, ?_⟩) <;> ((refine .cons rfl (qcat rfl rfl rfl (by simp only [List.length_append, List.length_cons, List.length_nil]; omega) rfl rfl ?_)) <;> refine ⟨_, .comp rfl, ?_⟩) <;> ((refine .cons rfl (qcat (b := [32]) rfl rfl rfl (by simp only [List.length_append, List.length_cons, List.length_nil]; omega) rfl rfl ?_)) <;> refine ⟨_, .comp rfl, ?_⟩) <;> ((refine .cons rfl (qcallV rfl rfl rfl rfl ca74 rfl rfl (fun h f => r2_run hK x.a (by omega) (by omega) h f.wf) ?_)) <;> refine ⟨_, .comp rfl, ?_⟩) <;> ((refine .cons rfl (qcat rfl rfl rfl (by simp only [List.length_append, List.length_cons, List.length_nil]; omega) rfl rfl ?_)) <;> refine ⟨_, .comp rfl, ?_⟩) <;> ((refine .cons rfl (qcat (b := [32]) rfl rfl rfl (by simp only [List.length_append, List.length_cons, List.length_nil]; omega) rfl rfl ?_)) <;> refine ⟨_, .comp rfl, ?_⟩) <;> ((refine .cons rfl (qcat rfl rfl rfl (by simp only [List.length_append, List.length_cons, List.length_nil]; omega) rfl rfl ?_)) <;> refine ⟨_, .comp rfl, ?_⟩) <;> (refine .cq hX rfl rfl rfl ?_) <;> (refine .nil ⟨?_, .intro rfl ?_⟩ <;> (repeat' (first | exact trivial | exact .inl rfl | exact .inr (.inl ⟨_, _, _, _, rfl, rfl, rfl⟩) | refine ⟨?_, ?_⟩))))
  | (refine WCX.g_ (id := 25) ?_; ((refine .cons (qc rfl ?_ ?_)) <;> intro _) <;> (refine .cons (q hX rfl ?_)) <;> (refine .nil (.intro rfl ?_)))
  | (refine WCX.g_ (id := 26) ?_; (iterate 2 refine .cons (q hX rfl ?_)) <;> ((refine .cons (qcallV rfl rfl rfl rfl ca74 rfl rfl (fun h f => r2_run hK x.d (by omega) (by omega) h f.wf) ?_))) <;> ((refine .cons (qcat (b := [32, 61, 32, 108, 111, 99, 97, 108, 32]) rfl rfl rfl (by simp only [List.length_append, List.length_cons, List.length_nil]; omega) rfl rfl ?_))) <;> (refine .cons (q hX rfl ?_)) <;> ((refine .cons (qcat rfl rfl rfl (by simp only [List.length_append, List.length_cons, List.length_nil]; omega) rfl rfl ?_))) <;> (refine .cons (q hX rfl ?_)) <;> (refine .nil (.intro rfl ?_)))
  | (refine WCX.g_ (id := 27) ?_; ((refine .cons (qc rfl ?_ ?_)) <;> intro _) <;> (refine .cons (q hX rfl ?_)) <;> (refine .nil (.intro rfl ?_)))
  | (refine WCX.g_ (id := 28) ?_; (refine .cons (q hX rfl ?_)) <;> ((refine .cons (qcat (a := [108, 111, 99, 97, 108, 32]) rfl rfl rfl (by simp only [List.length_append, List.length_cons, List.length_nil]; omega) rfl rfl ?_))) <;> ((refine .cons (qcat (b := [32, 61, 32]) rfl rfl rfl (by simp only [List.length_append, List.length_cons, List.length_nil]; omega) rfl rfl ?_))) <;> (iterate 2 refine .cons (q hX rfl ?_)) <;> ((refine .cons (qcallV rfl rfl rfl rfl ca74 rfl rfl (fun h f => r2_run hK x.a (by omega) (by omega) h f.wf) ?_))) <;> ((refine .cons (qcat rfl rfl rfl (by simp only [List.length_append, List.length_cons, List.length_nil]; omega) rfl rfl ?_))) <;> (refine .cons (q hX rfl ?_)) <;> (refine .nil (.intro rfl ?_)))
  | (refine WCX.g_ (id := 29) ?_; ((refine .cons (qc rfl ?_ ?_)) <;> intro _) <;> (refine .cons (q hX rfl ?_)) <;> (refine .nil (.intro rfl ?_)))
  | (refine WCX.g_ (id := 30) ?_; (iterate 2 refine .cons (q hX rfl ?_)) <;> ((refine .cons (qcallV rfl rfl rfl rfl ca32 rfl rfl (fun h f => num_run hK x.to (by omega) (by omega) h f.wf) ?_))) <;> ((refine .cons (qcat (a := [106, 117, 109, 112, 32]) rfl rfl rfl (by simp only [List.length_append, List.length_cons, List.length_nil]; omega) rfl rfl ?_))) <;> (refine .cons (q hX rfl ?_)) <;> (refine .nil (.intro rfl ?_)))
  | (refine WCX.g_ (id := 31) ?_; ((refine .cons (qc rfl ?_ ?_)) <;> intro _) <;> (refine .cons (q hX rfl ?_)) <;> (refine .nil (.intro rfl ?_)))
  | (refine WCX.draw (id := 32) tab [0, 1, 5, 6, 10, 11, 2, 3, 7, 4, 8, 9, 12, 13, 14] #[0, 1, 3, 7, 15, 0, 32, 103, 255, 511, 0, 1024, 3303, 8191, 16383] (by kernel_rfl) (by kernel_rfl) (by kernel_rfl) ?_; (refine .cq hX rfl rfl rfl ?_) <;> ((refine .cons rfl (q hX rfl ?_)) <;> refine ⟨_, .rdB hX.tab rfl rfl rfl rfl rfl rfl rfl rfl (suB rfl) rfl rfl rfl, ?_⟩) <;> (refine .cq hX rfl rfl rfl ?_) <;> ((refine .cons rfl (q hX rfl ?_)) <;> refine ⟨_, .rdB hX.tab rfl rfl rfl rfl rfl rfl rfl rfl (suB rfl) rfl rfl rfl, ?_⟩) <;> (refine .cq hX rfl rfl rfl ?_) <;> ((refine .cons rfl (q hX rfl ?_)) <;> refine ⟨_, .rdB hX.tab rfl rfl rfl rfl rfl rfl rfl rfl (suB rfl) rfl rfl rfl, ?_⟩) <;> ((refine .cons rfl (qcallV rfl rfl rfl rfl ca74 rfl rfl (fun h f => r2_run hK x.a (by omega) (by omega) h f.wf) ?_)) <;> refine ⟨_, .comp rfl, ?_⟩) <;> ((refine .cons rfl (qcat (a := [98, 114, 97, 110, 99, 104, 32]) rfl rfl rfl (by simp only [List.length_append, List.length_cons, List.length_nil]; omega) rfl rfl ?_)) <;> refine ⟨_, .comp rfl, ?_⟩) <;> ((refine .cons rfl (qcallV rfl rfl rfl rfl ca32 rfl rfl (fun h f => num_run hK x.to (by omega) (by omega) h f.wf) ?_)) <;> refine ⟨_, .comp rfl, ?_⟩) <;> ((refine .cons rfl (qcat (b := [32]) rfl rfl rfl (by simp only [List.length_append, List.length_cons, List.length_nil]; omega) rfl rfl ?_)) <;> refine ⟨_, .comp rfl, ?_⟩) <;> ((refine .cons rfl (qcat rfl rfl rfl (by simp only [List.length_append, List.length_cons, List.length_nil]; omega) rfl rfl ?_)) <;> refine ⟨_, .comp rfl, ?_⟩) <;> ((refine .cons rfl (qcat (b := [32, 106, 111, 105, 110, 32]) rfl rfl rfl (by simp only [List.length_append, List.length_cons, List.length_nil]; omega) rfl rfl ?_)) <;> refine ⟨_, .comp rfl, ?_⟩) <;> ((refine .cons rfl (qcallV rfl rfl rfl rfl ca32 rfl rfl (fun h f => num_run hK x.join (by omega) (by omega) h f.wf) ?_)) <;> refine ⟨_, .comp rfl, ?_⟩) <;> ((refine .cons rfl (qcat rfl rfl rfl (by simp only [List.length_append, List.length_cons, List.length_nil]; omega) rfl rfl ?_)) <;> refine ⟨_, .comp rfl, ?_⟩) <;> (refine .cq hX rfl rfl rfl ?_) <;> (refine .nil ⟨?_, .intro rfl ?_⟩ <;> (repeat' (first | exact trivial | exact .inl rfl | exact .inr (.inl ⟨_, _, _, _, rfl, rfl, rfl⟩) | refine ⟨?_, ?_⟩))))
  | (refine WCX.g_ (id := 33) ?_; (refine .cons (q hX rfl ?_)) <;> (refine .nil (.intro rfl ?_)))
  | refine WCX.r_ ?_
  | refine ToX.d_ ?_
  | refine ToX.f_ ?_
  | refine WCX.t_ rfl ?_
  | refine WCX.f_ rfl ?_
  | refine WCX.k_ ?_
  | refine WCX.b_ ?_
  | refine ToX.b_ ?_
  | refine ToX.r_ hX rfl ?_)
 case' refine_2.refine_2.refine_2.refine_2.refine_1 =>
  have h4 : x.kind = 4 := by omega
  obtain ⟨s1, s2⟩ := hs h4
  have hop : x.op = 0 ∨ x.op = 1 ∨ x.op = 2 ∨ x.op = 3 := by omega
  obtain ⟨kind, op, d, a, b, imm, to, join⟩ := x
  simp only at *
  rcases hop with rfl | rfl | rfl | rfl
  all_goals
   repeat' (first
    | refine ToX.a_ ?_
    | (refine WCX.draw (id := 12) tab [0, 1, 4, 5, 6, 7, 8, 2, 3, 9, 10] #[0, 1, 3, 7, 0, 0, 32, 112, 240, 511, 1023] (by kernel_rfl) (by kernel_rfl) (by kernel_rfl) ?_; (refine .cq hX rfl rfl rfl ?_) <;> ((refine .cons rfl (q hX rfl ?_)) <;> refine ⟨_, .rdB hX.tab rfl rfl rfl rfl rfl rfl rfl rfl (suB rfl) rfl rfl rfl, ?_⟩) <;> (iterate 2 refine .cq hX rfl rfl rfl ?_) <;> ((refine .cons rfl (q hX rfl ?_)) <;> refine ⟨_, .rdB hX.tab rfl rfl rfl rfl rfl rfl rfl rfl (suB rfl) rfl rfl rfl, ?_⟩) <;> ((refine .cons rfl (qidxS hX rfl rfl rfl rfl rfl (by decide) rfl rfl ?_)) <;> refine ⟨_, .comp rfl, ?_⟩) <;> ((refine .cons rfl (q hX rfl ?_)) <;> refine ⟨_, .rdB hX.tab rfl rfl rfl rfl rfl rfl rfl rfl (suB rfl) rfl rfl rfl, ?_⟩) <;> ((refine .cons rfl (qcallV rfl rfl rfl rfl ca74 rfl rfl (fun h f => r2_run hK d (by omega) (by omega) h f.wf) ?_)) <;> refine ⟨_, .comp rfl, ?_⟩) <;> ((refine .cons rfl (qcat (b := [32, 61, 32]) rfl rfl rfl (by simp only [List.length_append, List.length_cons, List.length_nil]; omega) rfl rfl ?_)) <;> refine ⟨_, .comp rfl, ?_⟩) <;> (first | (refine .cons rfl (qcat (b := [116, 105, 100]) rfl rfl rfl (by simp only [List.length_append, List.length_cons, List.length_nil]; omega) rfl rfl ?_)) <;> refine ⟨_, .comp rfl, ?_⟩ | (refine .cons rfl (qcat (b := [98, 105, 100]) rfl rfl rfl (by simp only [List.length_append, List.length_cons, List.length_nil]; omega) rfl rfl ?_)) <;> refine ⟨_, .comp rfl, ?_⟩ | (refine .cons rfl (qcat (b := [100, 105, 109]) rfl rfl rfl (by simp only [List.length_append, List.length_cons, List.length_nil]; omega) rfl rfl ?_)) <;> refine ⟨_, .comp rfl, ?_⟩ | (refine .cons rfl (qcat (b := [103, 114, 105, 100]) rfl rfl rfl (by simp only [List.length_append, List.length_cons, List.length_nil]; omega) rfl rfl ?_)) <;> refine ⟨_, .comp rfl, ?_⟩) <;> (refine .cq hX rfl rfl rfl ?_) <;> (refine .nil ⟨?_, .intro rfl ?_⟩ <;> (repeat' (first | exact trivial | exact .inl rfl | exact .inr (.inl ⟨_, _, _, _, rfl, rfl, rfl⟩) | refine ⟨?_, ?_⟩))))
    | refine WCX.r_ ?_
    | refine ToX.d_ ?_
    | refine ToX.f_ ?_
    | refine ToX.r_ hX rfl ?_)
 all_goals
  refine fun h f => ⟨?_, f.chg⟩
  unfold lineT
  simp only [*, ↓reduceIte]
  rfl
end Ev
end Go.HL
