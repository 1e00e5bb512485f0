/- Words of code, numbers, names; the types that the walks meet. No statement of the seat stands here. -/
import Derived.Test.YtngeipnhbigdmaaGreatDoorXC
import Derived.Test.YtngeipnhbigdmaaGreatDoorProg
import Derived.KernelRfl
set_option linter.unusedVariables false
set_option linter.unusedSimpArgs false
namespace Go.HL.Em
structure InsnD where
 kind : Int
 op : Int
 d : Int
 a : Int
 b : Int
 imm : Int
 to : Int
 join : Int
deriving DecidableEq
structure CodeB where
 name : List Nat
 params : List (List Nat × Bool)
 shared : List (List Nat × Nat)
 «local» : Nat
 insns : List InsnD
deriving DecidableEq
/-! ## Readers -/
abbrev S := List Nat × Bool
def andThen {α β : Type} (f : S → α × S) (g : α → S → β × S) : S → β × S := fun s => g (f s).1 (f s).2
def Reads {α : Type} (f : S → α × S) (w : List Nat) (a : α) : Prop := ∀ t, f (w ++ t, false) = (a, (t, false))
theorem Reads.andThen {α β : Type} {f : S → α × S} {g : α → S → β × S} {w w' : List Nat} {a : α} {b : β} (h : Reads f w a) (k : Reads (g a) w' b) : Reads (andThen f g) (w ++ w') b := fun t => by
 unfold Em.andThen
 rw [List.append_assoc, h (w' ++ t)]
 exact k t
def Good (rd : Nat → S → Nat × S) : Prop := ∀ lim w t, w ≤ lim → rd lim (w :: t, false) = (w, (t, false))
/-! ## Names -/
def bytesOf : Nat → Nat → List Nat
 | 0, _ => []
 | m + 1, w => w % 256 :: bytesOf m (w / 256)
def wordOf : List Nat → Nat
 | [] => 0
 | x :: l => x + 256 * wordOf l
theorem bytesOf_wordOf : ∀ {l : List Nat}, (∀ x ∈ l, x < 256) → bytesOf l.length (wordOf l) = l
 | [], _ => rfl
 | x :: l, h => by
  have hx : x < 256 := h x (by simp)
  have ih := bytesOf_wordOf (l := l) fun y hy => h y (by simp [hy])
  show (x + 256 * wordOf l) % 256 :: bytesOf l.length ((x + 256 * wordOf l) / 256) = x :: l
  rw [show (x + 256 * wordOf l) % 256 = x by omega, show (x + 256 * wordOf l) / 256 = wordOf l by omega, ih]
theorem wordOf_lt : ∀ {l : List Nat}, (∀ x ∈ l, x < 256) → wordOf l < 256 ^ l.length
 | [], _ => by simp [wordOf]
 | x :: l, h => by
  have hx : x < 256 := h x (by simp)
  have ih := wordOf_lt (l := l) fun y hy => h y (by simp [hy])
  show x + 256 * wordOf l < 256 ^ (l.length + 1)
  rw [Nat.pow_succ]
  omega
theorem wordOf_take {l : List Nat} (h : ∀ x ∈ l, x < 256) : wordOf (l.take 4) < 4294967296 := by
 have h1 := wordOf_lt (l := l.take 4) fun x hx => h x (List.mem_of_mem_take hx)
 have h2 : (256 : Nat) ^ (l.take 4).length ≤ 256 ^ 4 := Nat.pow_le_pow_right (by omega) (by rw [List.length_take]; omega)
 have h3 : (256 : Nat) ^ 4 = 4294967296 := by decide
 omega
def packs (l : List Nat) : List Nat := if _h : 0 < l.length then wordOf (l.take 4) :: packs (l.drop 4) else []
termination_by l.length
decreasing_by rw [List.length_drop]; omega
def nameE (b : List Nat) : List Nat := b.length :: packs b
def NameFine (b : List Nat) : Prop := b.length ≤ 16 ∧ ∀ x ∈ b, x < 256
/-! ## Lists -/
/-! ## Code -/
def paramE (p : List Nat × Bool) : List Nat := nameE p.1 ++ [if p.2 then 1 else 0]
def arrayE (p : List Nat × Nat) : List Nat := nameE p.1 ++ [p.2]
def signed (n : Nat) : Int := if n < 2147483648 then (n : Int) else (n : Int) - 4294967296
def insnE (x : InsnD) : List Nat := [(x.kind + 256 * x.op).toNat, (x.d + 256 * x.a + 65536 * x.b).toNat, (x.imm % 4294967296).toNat, x.to.toNat, x.join.toNat, 0]
structure InsnFine (x : InsnD) : Prop where
 kind : 0 ≤ x.kind ∧ x.kind < 256
 op : 0 ≤ x.op ∧ x.op < 256
 d : 0 ≤ x.d ∧ x.d < 256
 a : 0 ≤ x.a ∧ x.a < 256
 b : 0 ≤ x.b ∧ x.b < 256
 imm : -2147483648 ≤ x.imm ∧ x.imm ≤ 2147483647
 to : 0 ≤ x.to ∧ x.to ≤ 2000
 join : 0 ≤ x.join ∧ x.join ≤ 2000
def codeE (c : CodeB) : List Nat := nameE c.name ++ ([c.params.length] ++ (c.params.flatMap paramE ++ ([c.shared.length] ++ (c.shared.flatMap arrayE ++ ([c.local] ++ ([c.insns.length] ++ (c.insns.flatMap insnE ++ [])))))))
structure CodeFine (c : CodeB) : Prop where
 name : NameFine c.name
 params : c.params.length ≤ 6
 pname : ∀ p ∈ c.params, NameFine p.1
 shared : c.shared.length ≤ 4
 sname : ∀ p ∈ c.shared, NameFine p.1 ∧ p.2 ≤ 64
 «local» : c.local ≤ 64
 insns : c.insns.length ≤ 2000
 each : ∀ x ∈ c.insns, InsnFine x
end Go.HL.Em
namespace Go.HL.Em
def sumOf (l : List Nat) : Nat := l.foldl (fun n w => (31 * n + w) % 4294967296) 7
def openE (c : CodeB) : List Nat := 65585 :: (codeE c).length :: codeE c
def wholeE (c : CodeB) : List Nat := openE c ++ [sumOf (openE c)]
variable {V : CodeB → Bool} {l : List Nat} {c : CodeB}
end Go.HL.Em
namespace Go.HL
open Go
noncomputable section
namespace Em
noncomputable abbrev P : Program := Go.Proofs.Tryz.prog
noncomputable def tab : Tab := [(3, .int .i64, 1), (4, .bool, 1), (5, .int .u8, 1), (9, .str, 1), (21, .int .i32, 1), (22, .slice 70, 1), (23, .slice 72, 1), (24, .slice 74, 1), (26, .struct [(0, 9), (1, 22), (2, 23), (3, 3), (4, 24)], 5), (29, .slice 42, 1), (30, .int .i64, 1), (42, .int .u32, 1), (56, .slice 21, 1), (70, .struct [(0, 9), (1, 4)], 2), (72, .struct [(0, 9), (1, 3)], 2), (74, .struct [(0, 3), (1, 3), (2, 3), (3, 3), (4, 3), (5, 21), (6, 3), (7, 3)], 8), (80, .struct [(0, 4), (1, 4), (2, 4), (3, 4), (4, 4), (5, 4), (6, 4), (7, 4), (8, 4), (9, 4), (10, 4), (11, 3)], 12), (81, .array 16 80, 192), (92, .struct [(0, 29), (1, 4)], 2), (95, .struct [(0, 29), (1, 3), (2, 4)], 3), (100, .slice 9, 1), (109, .slice 3, 1), (140, .slice 5, 1), (150, .map 9 4, 1), (196, .int .u64, 1), (225, .int .u64, 1)]
theorem hT : tabOk P tab = true := by kernel_rfl
theorem z3 : zeroCells? P 3 = some [.int .i64 0] := by kernel_rfl
theorem z4 : zeroCells? P 4 = some [.bool false] := by kernel_rfl
theorem z5 : zeroCells? P 5 = some [.int .u8 0] := by kernel_rfl
theorem z9 : zeroCells? P 9 = some [.str 0 0] := by kernel_rfl
theorem b9 : P.bytesOf 9 = 16 := by kernel_rfl
theorem z21 : zeroCells? P 21 = some [.int .i32 0] := by kernel_rfl
theorem z22 : zeroCells? P 22 = some [.nils] := by kernel_rfl
theorem z23 : zeroCells? P 23 = some [.nils] := by kernel_rfl
theorem z24 : zeroCells? P 24 = some [.nils] := by kernel_rfl
theorem z26 : zeroCells? P 26 = some [.str 0 0, .nils, .nils, .int .i64 0, .nils] := by kernel_rfl
theorem z29 : zeroCells? P 29 = some [.nils] := by kernel_rfl
theorem z30 : zeroCells? P 30 = some [.int .i64 0] := by kernel_rfl
theorem z42 : zeroCells? P 42 = some [.int .u32 0] := by kernel_rfl
theorem b42 : P.bytesOf 42 = 4 := by kernel_rfl
theorem z56 : zeroCells? P 56 = some [.nils] := by kernel_rfl
theorem z70 : zeroCells? P 70 = some [.str 0 0, .bool false] := by kernel_rfl
theorem z72 : zeroCells? P 72 = some [.str 0 0, .int .i64 0] := by kernel_rfl
theorem z74 : zeroCells? P 74 = some [.int .i64 0, .int .i64 0, .int .i64 0, .int .i64 0, .int .i64 0, .int .i32 0, .int .i64 0, .int .i64 0] := by kernel_rfl
theorem z80 : zeroCells? P 80 = some [.bool false, .bool false, .bool false, .bool false, .bool false, .bool false, .bool false, .bool false, .bool false, .bool false, .bool false, .int .i64 0] := by kernel_rfl
theorem z92 : zeroCells? P 92 = some [.nils, .bool false] := by kernel_rfl
theorem z95 : zeroCells? P 95 = some [.nils, .int .i64 0, .bool false] := by kernel_rfl
theorem z100 : zeroCells? P 100 = some [.nils] := by kernel_rfl
theorem z109 : zeroCells? P 109 = some [.nils] := by kernel_rfl
theorem z140 : zeroCells? P 140 = some [.nils] := by kernel_rfl
theorem z196 : zeroCells? P 196 = some [.int .u64 0] := by kernel_rfl
theorem z225 : zeroCells? P 225 = some [.int .u64 0] := by kernel_rfl
noncomputable def z81c : List HVal := repl 16 [.bool false, .bool false, .bool false, .bool false, .bool false, .bool false, .bool false, .bool false, .bool false, .bool false, .bool false, .int .i64 0]
theorem z81 : zeroCells? P 81 = some z81c := by kernel_rfl
noncomputable def zl : List (Nat × List HVal) := [(3, [.int .i64 0]), (4, [.bool false]), (5, [.int .u8 0]), (9, [.str 0 0]), (21, [.int .i32 0]), (22, [.nils]), (23, [.nils]), (24, [.nils]), (26, [.str 0 0, .nils, .nils, .int .i64 0, .nils]), (29, [.nils]), (30, [.int .i64 0]), (42, [.int .u32 0]), (56, [.nils]), (70, [.str 0 0, .bool false]), (72, [.str 0 0, .int .i64 0]), (74, [.int .i64 0, .int .i64 0, .int .i64 0, .int .i64 0, .int .i64 0, .int .i32 0, .int .i64 0, .int .i64 0]), (80, [.bool false, .bool false, .bool false, .bool false, .bool false, .bool false, .bool false, .bool false, .bool false, .bool false, .bool false, .int .i64 0]), (92, [.nils, .bool false]), (95, [.nils, .int .i64 0, .bool false]), (100, [.nils]), (109, [.nils]), (140, [.nils]), (196, [.int .u64 0]), (225, [.int .u64 0]), (81, z81c)]
theorem hX : TK P tab zl := ⟨hT, z3, z4, z5, z9, z21, z22, z23, z24, z26, z29, z30, z42, z56, z70, z72, z74, z80, z92, z95, z100, z109, z140, z196, z225, z81, trivial⟩
theorem mask13 : Nat.lor (maskOf Go.Proofs.Tryz.f13) (Nat.sub (Nat.pow 2 1) 1) = 142816254623935 := by kernel_rfl
theorem ca13 : Callable P 13 := ⟨_, _, Go.Proofs.Tryz.func13, rfl, by kernel_rfl, rfl⟩
theorem mask14 : Nat.lor (maskOf Go.Proofs.Tryz.f14) (Nat.sub (Nat.pow 2 1) 1) = 1267650600228229402733653787135 := by kernel_rfl
theorem ca14 : Callable P 14 := ⟨_, _, Go.Proofs.Tryz.func14, rfl, by kernel_rfl, rfl⟩
theorem mask15 : Nat.lor (maskOf Go.Proofs.Tryz.f15) (Nat.sub (Nat.pow 2 2) 1) = 33571891 := by kernel_rfl
theorem ca15 : Callable P 15 := ⟨_, _, Go.Proofs.Tryz.func15, rfl, by kernel_rfl, rfl⟩
theorem mask10 : Nat.lor (maskOf Go.Proofs.Tryz.f10) (Nat.sub (Nat.pow 2 1) 1) = 158456325033140378797835555839 := by kernel_rfl
theorem ca10 : Callable P 10 := ⟨_, _, Go.Proofs.Tryz.func10, rfl, by kernel_rfl, rfl⟩
theorem mask28 : Nat.lor (maskOf Go.Proofs.Tryz.f28) (Nat.sub (Nat.pow 2 1) 1) = 70835501465177981715119 := by kernel_rfl
theorem ca28 : Callable P 28 := ⟨_, _, Go.Proofs.Tryz.func28, rfl, by kernel_rfl, rfl⟩
theorem mask29 : Nat.lor (maskOf Go.Proofs.Tryz.f29) (Nat.sub (Nat.pow 2 1) 1) = 268468477 := by kernel_rfl
theorem ca29 : Callable P 29 := ⟨_, _, Go.Proofs.Tryz.func29, rfl, by kernel_rfl, rfl⟩
theorem mask30 : Nat.lor (maskOf Go.Proofs.Tryz.f30) (Nat.sub (Nat.pow 2 1) 1) = 285 := by kernel_rfl
theorem ca30 : Callable P 30 := ⟨_, _, Go.Proofs.Tryz.func30, rfl, by kernel_rfl, rfl⟩
theorem mask34 : Nat.lor (maskOf Go.Proofs.Tryz.f34) (Nat.sub (Nat.pow 2 1) 1) = 4835705442439177032433839 := by kernel_rfl
theorem ca34 : Callable P 34 := ⟨_, _, Go.Proofs.Tryz.func34, rfl, by kernel_rfl, rfl⟩
theorem mask35 : Nat.lor (maskOf Go.Proofs.Tryz.f35) (Nat.sub (Nat.pow 2 0) 1) = 1 := by kernel_rfl
theorem ca35 : Callable P 35 := ⟨_, _, Go.Proofs.Tryz.func35, rfl, by kernel_rfl, rfl⟩
theorem mask36 : Nat.lor (maskOf Go.Proofs.Tryz.f36) (Nat.sub (Nat.pow 2 3) 1) = 17592186110463 := by kernel_rfl
theorem ca36 : Callable P 36 := ⟨_, _, Go.Proofs.Tryz.func36, rfl, by kernel_rfl, rfl⟩
theorem mask37 : Nat.lor (maskOf Go.Proofs.Tryz.f37) (Nat.sub (Nat.pow 2 3) 1) = 144255934154704839 := by kernel_rfl
theorem ca37 : Callable P 37 := ⟨_, _, Go.Proofs.Tryz.func37, rfl, by kernel_rfl, rfl⟩
theorem mask38 : Nat.lor (maskOf Go.Proofs.Tryz.f38) (Nat.sub (Nat.pow 2 1) 1) = 2427005 := by kernel_rfl
theorem ca38 : Callable P 38 := ⟨_, _, Go.Proofs.Tryz.func38, rfl, by kernel_rfl, rfl⟩
theorem mask39 : Nat.lor (maskOf Go.Proofs.Tryz.f39) (Nat.sub (Nat.pow 2 2) 1) = 19 := by kernel_rfl
theorem ca39 : Callable P 39 := ⟨_, _, Go.Proofs.Tryz.func39, rfl, by kernel_rfl, rfl⟩
theorem mask40 : Nat.lor (maskOf Go.Proofs.Tryz.f40) (Nat.sub (Nat.pow 2 1) 1) = 1082423 := by kernel_rfl
theorem ca40 : Callable P 40 := ⟨_, _, Go.Proofs.Tryz.func40, rfl, by kernel_rfl, rfl⟩
theorem mask41 : Nat.lor (maskOf Go.Proofs.Tryz.f41) (Nat.sub (Nat.pow 2 2) 1) = 550292947679 := by kernel_rfl
theorem ca41 : Callable P 41 := ⟨_, _, Go.Proofs.Tryz.func41, rfl, by kernel_rfl, rfl⟩
theorem mask42 : Nat.lor (maskOf Go.Proofs.Tryz.f42) (Nat.sub (Nat.pow 2 2) 1) = 134220863 := by kernel_rfl
theorem ca42 : Callable P 42 := ⟨_, _, Go.Proofs.Tryz.func42, rfl, by kernel_rfl, rfl⟩
theorem mask64 : Nat.lor (maskOf Go.Proofs.Tryz.f64) (Nat.sub (Nat.pow 2 2) 1) = 1073873139 := by kernel_rfl
theorem ca64 : Callable P 64 := ⟨_, _, Go.Proofs.Tryz.func64, rfl, by kernel_rfl, rfl⟩
theorem mask65 : Nat.lor (maskOf Go.Proofs.Tryz.f65) (Nat.sub (Nat.pow 2 2) 1) = 2003 := by kernel_rfl
theorem ca65 : Callable P 65 := ⟨_, _, Go.Proofs.Tryz.func65, rfl, by kernel_rfl, rfl⟩
theorem mask66 : Nat.lor (maskOf Go.Proofs.Tryz.f66) (Nat.sub (Nat.pow 2 2) 1) = 2003 := by kernel_rfl
theorem ca66 : Callable P 66 := ⟨_, _, Go.Proofs.Tryz.func66, rfl, by kernel_rfl, rfl⟩
theorem mask67 : Nat.lor (maskOf Go.Proofs.Tryz.f67) (Nat.sub (Nat.pow 2 1) 1) = 1005 := by kernel_rfl
theorem ca67 : Callable P 67 := ⟨_, _, Go.Proofs.Tryz.func67, rfl, by kernel_rfl, rfl⟩
theorem mask78 : Nat.lor (maskOf Go.Proofs.Tryz.f78) (Nat.sub (Nat.pow 2 1) 1) = 2208301069 := by kernel_rfl
theorem ca78 : Callable P 78 := ⟨_, _, Go.Proofs.Tryz.func78, rfl, by kernel_rfl, rfl⟩
theorem mask79 : Nat.lor (maskOf Go.Proofs.Tryz.f79) (Nat.sub (Nat.pow 2 1) 1) = 21 := by kernel_rfl
theorem ca79 : Callable P 79 := ⟨_, _, Go.Proofs.Tryz.func79, rfl, by kernel_rfl, rfl⟩
theorem mask80 : Nat.lor (maskOf Go.Proofs.Tryz.f80) (Nat.sub (Nat.pow 2 3) 1) = 327 := by kernel_rfl
theorem ca80 : Callable P 80 := ⟨_, _, Go.Proofs.Tryz.func80, rfl, by kernel_rfl, rfl⟩
theorem mask81 : Nat.lor (maskOf Go.Proofs.Tryz.f81) (Nat.sub (Nat.pow 2 3) 1) = 141012366329055 := by kernel_rfl
theorem ca81 : Callable P 81 := ⟨_, _, Go.Proofs.Tryz.func81, rfl, by kernel_rfl, rfl⟩
theorem mask82 : Nat.lor (maskOf Go.Proofs.Tryz.f82) (Nat.sub (Nat.pow 2 3) 1) = 9223372328948203975 := by kernel_rfl
theorem ca82 : Callable P 82 := ⟨_, _, Go.Proofs.Tryz.func82, rfl, by kernel_rfl, rfl⟩
theorem mask83 : Nat.lor (maskOf Go.Proofs.Tryz.f83) (Nat.sub (Nat.pow 2 2) 1) = 131635 := by kernel_rfl
theorem ca83 : Callable P 83 := ⟨_, _, Go.Proofs.Tryz.func83, rfl, by kernel_rfl, rfl⟩
theorem mask84 : Nat.lor (maskOf Go.Proofs.Tryz.f84) (Nat.sub (Nat.pow 2 2) 1) = 4211827 := by kernel_rfl
theorem ca84 : Callable P 84 := ⟨_, _, Go.Proofs.Tryz.func84, rfl, by kernel_rfl, rfl⟩
theorem mask85 : Nat.lor (maskOf Go.Proofs.Tryz.f85) (Nat.sub (Nat.pow 2 4) 1) = 148150413342516709135 := by kernel_rfl
theorem ca85 : Callable P 85 := ⟨_, _, Go.Proofs.Tryz.func85, rfl, by kernel_rfl, rfl⟩
theorem mask148 : Nat.lor (maskOf Go.Proofs.Tryz.f148) (Nat.sub (Nat.pow 2 1) 1) = 5 := by kernel_rfl
theorem ca148 : Callable P 148 := ⟨_, _, Go.Proofs.Tryz.func148, rfl, by kernel_rfl, rfl⟩
theorem ca149 : Callable P 149 := ⟨_, _, Go.Proofs.Tryz.func149, rfl, by kernel_rfl, rfl⟩
theorem mask150 : Nat.lor (maskOf Go.Proofs.Tryz.f150) (Nat.sub (Nat.pow 2 1) 1) = 5 := by kernel_rfl
theorem ca150 : Callable P 150 := ⟨_, _, Go.Proofs.Tryz.func150, rfl, by kernel_rfl, rfl⟩
theorem mask152 : Nat.lor (maskOf Go.Proofs.Tryz.f152) (Nat.sub (Nat.pow 2 2) 1) = 87 := by kernel_rfl
theorem ca152 : Callable P 152 := ⟨_, _, Go.Proofs.Tryz.func152, rfl, by kernel_rfl, rfl⟩
theorem mask153 : Nat.lor (maskOf Go.Proofs.Tryz.f153) (Nat.sub (Nat.pow 2 1) 1) = 5 := by kernel_rfl
theorem ca153 : Callable P 153 := ⟨_, _, Go.Proofs.Tryz.func153, rfl, by kernel_rfl, rfl⟩
theorem mask154 : Nat.lor (maskOf Go.Proofs.Tryz.f154) (Nat.sub (Nat.pow 2 1) 1) = 21 := by kernel_rfl
theorem ca154 : Callable P 154 := ⟨_, _, Go.Proofs.Tryz.func154, rfl, by kernel_rfl, rfl⟩
theorem mask146 : Nat.lor (maskOf Go.Proofs.Tryz.f146) (Nat.sub (Nat.pow 2 1) 1) = 5 := by kernel_rfl
theorem ca146 : Callable P 146 := ⟨_, _, Go.Proofs.Tryz.func146, rfl, by kernel_rfl, rfl⟩
theorem mask147 : Nat.lor (maskOf Go.Proofs.Tryz.f147) (Nat.sub (Nat.pow 2 1) 1) = 5 := by kernel_rfl
theorem ca147 : Callable P 147 := ⟨_, _, Go.Proofs.Tryz.func147, rfl, by kernel_rfl, rfl⟩
theorem mask151 : Nat.lor (maskOf Go.Proofs.Tryz.f151) (Nat.sub (Nat.pow 2 1) 1) = 10813 := by kernel_rfl
theorem ca151 : Callable P 151 := ⟨_, _, Go.Proofs.Tryz.func151, rfl, by kernel_rfl, rfl⟩
theorem mask241 : Nat.lor (maskOf Go.Proofs.Tryz.f241) (Nat.sub (Nat.pow 2 1) 1) = 5 := by kernel_rfl
theorem ca241 : Callable P 241 := ⟨_, _, Go.Proofs.Tryz.func241, rfl, by kernel_rfl, rfl⟩
theorem mask242 : Nat.lor (maskOf Go.Proofs.Tryz.f242) (Nat.sub (Nat.pow 2 1) 1) = 4229133 := by kernel_rfl
theorem ca242 : Callable P 242 := ⟨_, _, Go.Proofs.Tryz.func242, rfl, by kernel_rfl, rfl⟩
theorem mask243 : Nat.lor (maskOf Go.Proofs.Tryz.f243) (Nat.sub (Nat.pow 2 0) 1) = 1 := by kernel_rfl
theorem ca243 : Callable P 243 := ⟨_, _, Go.Proofs.Tryz.func243, rfl, by kernel_rfl, rfl⟩
theorem mask244 : Nat.lor (maskOf Go.Proofs.Tryz.f244) (Nat.sub (Nat.pow 2 1) 1) = 10813 := by kernel_rfl
theorem ca244 : Callable P 244 := ⟨_, _, Go.Proofs.Tryz.func244, rfl, by kernel_rfl, rfl⟩
theorem mask310 : Nat.lor (maskOf Go.Proofs.Tryz.f310) (Nat.sub (Nat.pow 2 1) 1) = 5 := by kernel_rfl
theorem ca310 : Callable P 310 := ⟨_, _, Go.Proofs.Tryz.func310, rfl, by kernel_rfl, rfl⟩
theorem mask312 : Nat.lor (maskOf Go.Proofs.Tryz.f312) (Nat.sub (Nat.pow 2 1) 1) = 5 := by kernel_rfl
theorem ca312 : Callable P 312 := ⟨_, _, Go.Proofs.Tryz.func312, rfl, by kernel_rfl, rfl⟩
theorem mask314 : Nat.lor (maskOf Go.Proofs.Tryz.f314) (Nat.sub (Nat.pow 2 1) 1) = 5 := by kernel_rfl
theorem ca314 : Callable P 314 := ⟨_, _, Go.Proofs.Tryz.func314, rfl, by kernel_rfl, rfl⟩
end Em
end
end Go.HL
namespace Go.HL
open Go
noncomputable section
namespace Em
def wordList : List (Nat × Nat) := [(4, 1718972003), (6, 118083455706476), (6, 108256368682354), (3, 6909556), (6, 126892148680036), (3, 7103860), (2, 26982), (4, 1701606245), (5, 512852847717), (5, 422826041707), (8, 7165066978433856869), (6, 125780071117422), (7, 27691691891320178), (6, 107152713541987), (7, 27988534160089972), (3, 7629156), (3, 6449508), (3, 6580589), (4, 1735551332), (3, 7170414), (3, 7168376), (3, 6382692), (3, 6385252), (2, 28530), (3, 7892850)]
def wordsObj : HObj := .map (wordList.zipIdx.map fun p => ⟨strKey p.1, .bool true, p.2⟩) 25 true
def libF (f : Nat) : Bool := Nat.beq f 149 || (Nat.beq f 70 || (Nat.beq f 137 || (Nat.beq f 48 || (Nat.beq f 90 || (Nat.beq f 91 || Nat.beq f 162)))))
structure KN (base : List (Nat × HObj)) (K : CallFn) : Prop where
 none : ∀ f, Nat.beq f 8 = false → libF f = false → ∀ a h, K f a h = none
 words : ∀ h, (lies base).holds h → K 149 [] h = some (.ret (.map h.next), h.new wordsObj)
 awake : ∀ h, (lies base).holds h → K 8 [] h = some (.ret (.bool true), h)
def wcell (n : Nat) : List HVal := [.int .u32 (n : Int)]
def words (v : HVal) (l : List Nat) : Part := frd v 1 (l.map wcell)
end Em
end
end Go.HL
namespace Go.HL
open Go Go.Proofs
namespace Em
set_option maxRecDepth 10000
variable {K : CallFn} {base : List (Nat × HObj)}
end Em
end Go.HL
namespace Go.HL
open Go Go.Proofs
namespace Em
set_option maxRecDepth 10000
variable {K : CallFn} {base : List (Nat × HObj)}
abbrev i64 (n : Nat) : HVal := .int .i64 (n : Int)
abbrev u32 (n : Nat) : HVal := .int .u32 (n : Int)
abbrev strB (l : List Nat) : HVal := .str l.length (codeN l 0)
end Em
end Go.HL
namespace Go.HL
open Go Go.Proofs
namespace Em
set_option maxRecDepth 10000
variable {K : CallFn} {base : List (Nat × HObj)}
abbrev pcell (p : List Nat × Bool) : List HVal := [strB p.1, .bool p.2]
abbrev acell (p : List Nat × Nat) : List HVal := [strB p.1, i64 p.2]
abbrev icell (x : InsnD) : List HVal := [.int .i64 x.kind, .int .i64 x.op, .int .i64 x.d, .int .i64 x.a, .int .i64 x.b, .int .i32 x.imm, .int .i64 x.to, .int .i64 x.join]
abbrev codeV (c : CodeB) (pv sv iv : HVal) : HVal := .agg [strB c.name, pv, sv, i64 c.local, iv]
end Em
end Go.HL
namespace Go.HL
open Go Go.Proofs
namespace Em
set_option maxRecDepth 10000
variable {K : CallFn} {base : List (Nat × HObj)}
def letterM (c : Int) : Bool := decide (97 ≤ c ∧ c ≤ 122 ∨ 65 ≤ c ∧ c ≤ 90)
def digitM (c : Int) : Bool := decide (48 ≤ c ∧ c ≤ 57)
def innerM (c : Int) : Bool := letterM c || digitM c || decide (c = 95)
theorem letter_run (hK : KN base K) (c : Int) (h : Heap) (w : Wf h) : Sp P K 148 [.int .u8 c] h (Val (.bool (letterM c)) h) := by
 refine Sp.start (m := 5) (n := 17) w (hK.none 148 rfl rfl _ _) Tryz.func148 rfl rfl mask148 rfl rfl ?_
 repeat' (first
  | refine ToX.a_ ?_
  | refine WCX.s_ ?_
  | (refine WCX.g_ (id := 0) ?_; (refine .cons (q hX rfl ?_)) <;> (refine .nil (.intro rfl ?_)))
  | (refine WCX.g_ (id := 1) ?_; (refine .cons (q hX rfl ?_)) <;> ((refine .cons (qc rfl ?_ ?_)) <;> intro _) <;> (iterate 2 refine .cons (q hX rfl ?_)) <;> (first | (refine .cons (q hX rfl ?_)) | (refine .cons (qc rfl ?_ ?_)) <;> intro _) <;> (iterate 3 refine .cons (q hX rfl ?_)) <;> (first | (refine .cons (q hX rfl ?_)) | (refine .cons (qc rfl ?_ ?_)) <;> intro _) <;> (iterate 2 refine .cons (q hX rfl ?_)) <;> (first | (refine .cons (q hX rfl ?_)) | (refine .cons (qc rfl ?_ ?_)) <;> intro _) <;> (iterate 3 refine .cons (q hX rfl ?_)) <;> (refine .nil (.intro rfl ?_)))
  | refine WCX.r_ ?_
  | refine ToX.r_ hX rfl ?_)
 all_goals (intro h f; refine ⟨?_, f.chg⟩; clear f; first | (simp_all [resV, letterM]; done) | (simp_all [resV, letterM]; omega) | (simp_all [resV, letterM]; intros; exfalso; omega) | (simp_all [resV, letterM]; split <;> intros <;> first | omega | (exfalso; omega) | simp_all))
theorem digit_run (hK : KN base K) (c : Int) (h : Heap) (w : Wf h) : Sp P K 241 [.int .u8 c] h (Val (.bool (digitM c)) h) := by
 refine Sp.start (m := 5) (n := 9) w (hK.none 241 rfl rfl _ _) Tryz.func241 rfl rfl mask241 rfl rfl ?_
 repeat' (first
  | refine ToX.a_ ?_
  | refine WCX.s_ ?_
  | (refine WCX.g_ (id := 0) ?_; (refine .cons (q hX rfl ?_)) <;> (refine .nil (.intro rfl ?_)))
  | (refine WCX.g_ (id := 1) ?_; (refine .cons (q hX rfl ?_)) <;> ((refine .cons (qc rfl ?_ ?_)) <;> intro _) <;> (iterate 2 refine .cons (q hX rfl ?_)) <;> (first | (refine .cons (q hX rfl ?_)) | (refine .cons (qc rfl ?_ ?_)) <;> intro _) <;> (iterate 2 refine .cons (q hX rfl ?_)) <;> (refine .nil (.intro rfl ?_)))
  | refine WCX.r_ ?_
  | refine ToX.r_ hX rfl ?_)
 all_goals (intro h f; refine ⟨?_, f.chg⟩; clear f; first | (simp_all [resV, digitM]; done) | (simp_all [resV, digitM]; omega) | (simp_all [resV, digitM]; intros; exfalso; omega) | (simp_all [resV, digitM]; split <;> intros <;> first | omega | (exfalso; omega) | simp_all))
theorem inner_run (hK : KN base K) (c : Int) (h : Heap) (w : Wf h) : Sp P K 150 [.int .u8 c] h (Val (.bool (innerM c)) h) := by
 refine Sp.start (m := 5) (n := 13) w (hK.none 150 rfl rfl _ _) Tryz.func150 rfl rfl mask150 rfl rfl ?_
 repeat' (first
  | refine ToX.a_ ?_
  | refine WCX.s_ ?_
  | (refine WCX.g_ (id := 0) ?_; (refine .cons (q hX rfl ?_)) <;> (refine .nil (.intro rfl ?_)))
  | (refine WCX.g_ (id := 1) ?_; (refine .cons (q hX rfl ?_)) <;> ((refine .cons (qcallB rfl rfl rfl rfl ca148 rfl rfl (fun h f => letter_run hK _ h f.wf) ?_ ?_)) <;> intro _) <;> (iterate 2 refine .cons (q hX rfl ?_)) <;> (first | (refine .cons (q hX rfl ?_)) | (refine .cons (qcallB rfl rfl rfl rfl ca241 rfl rfl (fun h f => digit_run hK _ h f.wf) ?_ ?_)) <;> intro _) <;> (iterate 3 refine .cons (q hX rfl ?_)) <;> (first | (refine .cons (q hX rfl ?_)) | (refine .cons (qc rfl ?_ ?_)) <;> intro _) <;> (iterate 2 refine .cons (q hX rfl ?_)) <;> (refine .nil (.intro rfl ?_)))
  | refine WCX.r_ ?_
  | refine ToX.r_ hX rfl ?_)
 all_goals (intro h f; refine ⟨?_, f.chg⟩; clear f; first | (simp_all [resV, innerM]; done) | (simp_all [resV, innerM]; omega) | (simp_all [resV, innerM]; intros; exfalso; omega) | (simp_all [resV, innerM]; split <;> intros <;> first | omega | (exfalso; omega) | simp_all))
theorem letter2_run (hK : KN base K) (c : Int) (h : Heap) (w : Wf h) : Sp P K 310 [.int .u8 c] h (Val (.bool (letterM c)) h) := by
 refine Sp.start (m := 5) (n := 17) w (hK.none 310 rfl rfl _ _) Tryz.func310 rfl rfl mask310 rfl rfl ?_
 repeat' (first
  | refine ToX.a_ ?_
  | refine WCX.s_ ?_
  | (refine WCX.g_ (id := 0) ?_; (refine .cons (q hX rfl ?_)) <;> (refine .nil (.intro rfl ?_)))
  | (refine WCX.g_ (id := 1) ?_; (refine .cons (q hX rfl ?_)) <;> ((refine .cons (qc rfl ?_ ?_)) <;> intro _) <;> (iterate 2 refine .cons (q hX rfl ?_)) <;> (first | (refine .cons (q hX rfl ?_)) | (refine .cons (qc rfl ?_ ?_)) <;> intro _) <;> (iterate 3 refine .cons (q hX rfl ?_)) <;> (first | (refine .cons (q hX rfl ?_)) | (refine .cons (qc rfl ?_ ?_)) <;> intro _) <;> (iterate 2 refine .cons (q hX rfl ?_)) <;> (first | (refine .cons (q hX rfl ?_)) | (refine .cons (qc rfl ?_ ?_)) <;> intro _) <;> (iterate 3 refine .cons (q hX rfl ?_)) <;> (refine .nil (.intro rfl ?_)))
  | refine WCX.r_ ?_
  | refine ToX.r_ hX rfl ?_)
 all_goals (intro h f; refine ⟨?_, f.chg⟩; clear f; first | (simp_all [resV, letterM]; done) | (simp_all [resV, letterM]; omega) | (simp_all [resV, letterM]; intros; exfalso; omega) | (simp_all [resV, letterM]; split <;> intros <;> first | omega | (exfalso; omega) | simp_all))
theorem digit2_run (hK : KN base K) (c : Int) (h : Heap) (w : Wf h) : Sp P K 312 [.int .u8 c] h (Val (.bool (digitM c)) h) := by
 refine Sp.start (m := 5) (n := 9) w (hK.none 312 rfl rfl _ _) Tryz.func312 rfl rfl mask312 rfl rfl ?_
 repeat' (first
  | refine ToX.a_ ?_
  | refine WCX.s_ ?_
  | (refine WCX.g_ (id := 0) ?_; (refine .cons (q hX rfl ?_)) <;> (refine .nil (.intro rfl ?_)))
  | (refine WCX.g_ (id := 1) ?_; (refine .cons (q hX rfl ?_)) <;> ((refine .cons (qc rfl ?_ ?_)) <;> intro _) <;> (iterate 2 refine .cons (q hX rfl ?_)) <;> (first | (refine .cons (q hX rfl ?_)) | (refine .cons (qc rfl ?_ ?_)) <;> intro _) <;> (iterate 2 refine .cons (q hX rfl ?_)) <;> (refine .nil (.intro rfl ?_)))
  | refine WCX.r_ ?_
  | refine ToX.r_ hX rfl ?_)
 all_goals (intro h f; refine ⟨?_, f.chg⟩; clear f; first | (simp_all [resV, digitM]; done) | (simp_all [resV, digitM]; omega) | (simp_all [resV, digitM]; intros; exfalso; omega) | (simp_all [resV, digitM]; split <;> intros <;> first | omega | (exfalso; omega) | simp_all))
theorem inner2_run (hK : KN base K) (c : Int) (h : Heap) (w : Wf h) : Sp P K 314 [.int .u8 c] h (Val (.bool (innerM c)) h) := by
 refine Sp.start (m := 5) (n := 13) w (hK.none 314 rfl rfl _ _) Tryz.func314 rfl rfl mask314 rfl rfl ?_
 repeat' (first
  | refine ToX.a_ ?_
  | refine WCX.s_ ?_
  | (refine WCX.g_ (id := 0) ?_; (refine .cons (q hX rfl ?_)) <;> (refine .nil (.intro rfl ?_)))
  | (refine WCX.g_ (id := 1) ?_; (refine .cons (q hX rfl ?_)) <;> ((refine .cons (qcallB rfl rfl rfl rfl ca310 rfl rfl (fun h f => letter2_run hK _ h f.wf) ?_ ?_)) <;> intro _) <;> (iterate 2 refine .cons (q hX rfl ?_)) <;> (first | (refine .cons (q hX rfl ?_)) | (refine .cons (qcallB rfl rfl rfl rfl ca312 rfl rfl (fun h f => digit2_run hK _ h f.wf) ?_ ?_)) <;> intro _) <;> (iterate 3 refine .cons (q hX rfl ?_)) <;> (first | (refine .cons (q hX rfl ?_)) | (refine .cons (qc rfl ?_ ?_)) <;> intro _) <;> (iterate 2 refine .cons (q hX rfl ?_)) <;> (refine .nil (.intro rfl ?_)))
  | refine WCX.r_ ?_
  | refine ToX.r_ hX rfl ?_)
 all_goals (intro h f; refine ⟨?_, f.chg⟩; clear f; first | (simp_all [resV, innerM]; done) | (simp_all [resV, innerM]; omega) | (simp_all [resV, innerM]; intros; exfalso; omega) | (simp_all [resV, innerM]; split <;> intros <;> first | omega | (exfalso; omega) | simp_all))
def neutM (op : Int) : Int × Bool := if op = 0 ∨ op = 6 ∨ op = 7 then (0, true) else if op = 18 then (2147483647, true) else if op = 19 then (-2147483648, true) else if op = 5 then (-1, true) else (0, false)
def foldsM (op : Int) : Bool := (neutM op).2
theorem neutral_run (hK : KN base K) (op : Int) (h : Heap) (w : Wf h) : Sp P K 151 [.int .i64 op] h (Val (.tuple [.int .i32 (neutM op).1, .bool (neutM op).2]) h) := by
 refine Sp.start (m := 10813) (n := 15) w (hK.none 151 rfl rfl _ _) Tryz.func151 rfl rfl mask151 rfl rfl ?_
 repeat' (first
  | refine ToX.a_ ?_
  | refine WCX.s_ ?_
  | (refine WCX.g_ (id := 0) ?_; (iterate 2 refine .cons (q hX rfl ?_)) <;> (refine .nil (.intro rfl ?_)))
  | (refine WCX.g_ (id := 1) ?_; (refine .cons (q hX rfl ?_)) <;> (refine .nil (.intro rfl ?_)))
  | (refine WCX.g_ (id := 2) ?_; ((refine .cons (qc rfl ?_ ?_)) <;> intro _) <;> (refine .cons (q hX rfl ?_)) <;> (refine .nil (.intro rfl ?_)))
  | (refine WCX.g_ (id := 3) ?_; ((refine .cons (qc rfl ?_ ?_)) <;> intro _) <;> (refine .cons (q hX rfl ?_)) <;> (refine .nil (.intro rfl ?_)))
  | (refine WCX.g_ (id := 4) ?_; ((refine .cons (qc rfl ?_ ?_)) <;> intro _) <;> (refine .cons (q hX rfl ?_)) <;> (refine .nil (.intro rfl ?_)))
  | (refine WCX.g_ (id := 5) ?_; (iterate 2 refine .cons (q hX rfl ?_)) <;> (refine .nil (.intro rfl ?_)))
  | (refine WCX.g_ (id := 6) ?_; ((refine .cons (qc rfl ?_ ?_)) <;> intro _) <;> (refine .cons (q hX rfl ?_)) <;> (refine .nil (.intro rfl ?_)))
  | (refine WCX.g_ (id := 7) ?_; (iterate 2 refine .cons (q hX rfl ?_)) <;> (refine .nil (.intro rfl ?_)))
  | (refine WCX.g_ (id := 8) ?_; ((refine .cons (qc rfl ?_ ?_)) <;> intro _) <;> (refine .cons (q hX rfl ?_)) <;> (refine .nil (.intro rfl ?_)))
  | (refine WCX.g_ (id := 9) ?_; (iterate 2 refine .cons (q hX rfl ?_)) <;> (refine .nil (.intro rfl ?_)))
  | (refine WCX.g_ (id := 10) ?_; ((refine .cons (qc rfl ?_ ?_)) <;> intro _) <;> (refine .cons (q hX rfl ?_)) <;> (refine .nil (.intro rfl ?_)))
  | (refine WCX.g_ (id := 11) ?_; (iterate 2 refine .cons (q hX rfl ?_)) <;> (refine .nil (.intro rfl ?_)))
  | (refine WCX.g_ (id := 12) ?_; (iterate 2 refine .cons (q hX rfl ?_)) <;> (refine .nil (.intro rfl ?_)))
  | refine WCX.r_ ?_
  | refine ToX.d_ ?_
  | refine ToX.f_ ?_
  | refine WCX.t_ rfl ?_
  | refine WCX.f_ rfl ?_
  | refine WCX.k_ ?_
  | refine WCX.b_ ?_
  | refine ToX.b_ ?_
  | refine ToX.r_ hX rfl ?_)
 all_goals (intro h f; refine ⟨?_, f.chg⟩; clear f; first | (simp_all [resV, neutM]; done) | (simp_all [resV, neutM]; omega) | (simp_all [resV, neutM]; intros; exfalso; omega) | (simp_all [resV, neutM]; split <;> intros <;> first | omega | (exfalso; omega) | simp_all))
theorem neutral2_run (hK : KN base K) (op : Int) (h : Heap) (w : Wf h) : Sp P K 244 [.int .i64 op] h (Val (.tuple [.int .i32 (neutM op).1, .bool (neutM op).2]) h) := by
 refine Sp.start (m := 10813) (n := 15) w (hK.none 244 rfl rfl _ _) Tryz.func244 rfl rfl mask244 rfl rfl ?_
 repeat' (first
  | refine ToX.a_ ?_
  | refine WCX.s_ ?_
  | (refine WCX.g_ (id := 0) ?_; (iterate 2 refine .cons (q hX rfl ?_)) <;> (refine .nil (.intro rfl ?_)))
  | (refine WCX.g_ (id := 1) ?_; (refine .cons (q hX rfl ?_)) <;> (refine .nil (.intro rfl ?_)))
  | (refine WCX.g_ (id := 2) ?_; ((refine .cons (qc rfl ?_ ?_)) <;> intro _) <;> (refine .cons (q hX rfl ?_)) <;> (refine .nil (.intro rfl ?_)))
  | (refine WCX.g_ (id := 3) ?_; ((refine .cons (qc rfl ?_ ?_)) <;> intro _) <;> (refine .cons (q hX rfl ?_)) <;> (refine .nil (.intro rfl ?_)))
  | (refine WCX.g_ (id := 4) ?_; ((refine .cons (qc rfl ?_ ?_)) <;> intro _) <;> (refine .cons (q hX rfl ?_)) <;> (refine .nil (.intro rfl ?_)))
  | (refine WCX.g_ (id := 5) ?_; (iterate 2 refine .cons (q hX rfl ?_)) <;> (refine .nil (.intro rfl ?_)))
  | (refine WCX.g_ (id := 6) ?_; ((refine .cons (qc rfl ?_ ?_)) <;> intro _) <;> (refine .cons (q hX rfl ?_)) <;> (refine .nil (.intro rfl ?_)))
  | (refine WCX.g_ (id := 7) ?_; (iterate 2 refine .cons (q hX rfl ?_)) <;> (refine .nil (.intro rfl ?_)))
  | (refine WCX.g_ (id := 8) ?_; ((refine .cons (qc rfl ?_ ?_)) <;> intro _) <;> (refine .cons (q hX rfl ?_)) <;> (refine .nil (.intro rfl ?_)))
  | (refine WCX.g_ (id := 9) ?_; (iterate 2 refine .cons (q hX rfl ?_)) <;> (refine .nil (.intro rfl ?_)))
  | (refine WCX.g_ (id := 10) ?_; ((refine .cons (qc rfl ?_ ?_)) <;> intro _) <;> (refine .cons (q hX rfl ?_)) <;> (refine .nil (.intro rfl ?_)))
  | (refine WCX.g_ (id := 11) ?_; (iterate 2 refine .cons (q hX rfl ?_)) <;> (refine .nil (.intro rfl ?_)))
  | (refine WCX.g_ (id := 12) ?_; (iterate 2 refine .cons (q hX rfl ?_)) <;> (refine .nil (.intro rfl ?_)))
  | refine WCX.r_ ?_
  | refine ToX.d_ ?_
  | refine ToX.f_ ?_
  | refine WCX.t_ rfl ?_
  | refine WCX.f_ rfl ?_
  | refine WCX.k_ ?_
  | refine WCX.b_ ?_
  | refine ToX.b_ ?_
  | refine ToX.r_ hX rfl ?_)
 all_goals (intro h f; refine ⟨?_, f.chg⟩; clear f; first | (simp_all [resV, neutM]; done) | (simp_all [resV, neutM]; omega) | (simp_all [resV, neutM]; intros; exfalso; omega) | (simp_all [resV, neutM]; split <;> intros <;> first | omega | (exfalso; omega) | simp_all))
theorem folds_run (hK : KN base K) (op : Int) (h : Heap) (w : Wf h) : Sp P K 79 [.int .i64 op] h (Val (.bool (foldsM op)) h) := by
 refine Sp.start (m := 21) (n := 11) w (hK.none 79 rfl rfl _ _) Tryz.func79 rfl rfl mask79 rfl rfl ?_
 repeat' (first
  | refine ToX.a_ ?_
  | refine WCX.s_ ?_
  | (refine WCX.g_ (id := 0) ?_; (refine .cons (q hX rfl ?_)) <;> (refine .nil (.intro rfl ?_)))
  | (refine WCX.g_ (id := 1) ?_; (refine .cons (q hX rfl ?_)) <;> ((refine .cons (qcallV rfl rfl rfl rfl ca151 rfl rfl (fun h f => neutral_run hK _ h f.wf) ?_))) <;> (iterate 5 refine .cons (q hX rfl ?_)) <;> (refine .nil (.intro rfl ?_)))
  | (refine WCX.g_ (id := 2) ?_; (iterate 2 refine .cons (q hX rfl ?_)) <;> (refine .nil (.intro rfl ?_)))
  | refine WCX.r_ ?_
  | refine ToX.r_ hX rfl ?_)
 all_goals (intro h f; refine ⟨?_, f.chg⟩; clear f; first | (simp_all [resV, foldsM]; done) | (simp_all [resV, foldsM]; omega) | (simp_all [resV, foldsM]; intros; exfalso; omega) | (simp_all [resV, foldsM]; split <;> intros <;> first | omega | (exfalso; omega) | simp_all))
theorem folds2_run (hK : KN base K) (op : Int) (h : Heap) (w : Wf h) : Sp P K 154 [.int .i64 op] h (Val (.bool (foldsM op)) h) := by
 refine Sp.start (m := 21) (n := 11) w (hK.none 154 rfl rfl _ _) Tryz.func154 rfl rfl mask154 rfl rfl ?_
 repeat' (first
  | refine ToX.a_ ?_
  | refine WCX.s_ ?_
  | (refine WCX.g_ (id := 0) ?_; (refine .cons (q hX rfl ?_)) <;> (refine .nil (.intro rfl ?_)))
  | (refine WCX.g_ (id := 1) ?_; (refine .cons (q hX rfl ?_)) <;> ((refine .cons (qcallV rfl rfl rfl rfl ca244 rfl rfl (fun h f => neutral2_run hK _ h f.wf) ?_))) <;> (iterate 5 refine .cons (q hX rfl ?_)) <;> (refine .nil (.intro rfl ?_)))
  | (refine WCX.g_ (id := 2) ?_; (iterate 2 refine .cons (q hX rfl ?_)) <;> (refine .nil (.intro rfl ?_)))
  | refine WCX.r_ ?_
  | refine ToX.r_ hX rfl ?_)
 all_goals (intro h f; refine ⟨?_, f.chg⟩; clear f; first | (simp_all [resV, foldsM]; done) | (simp_all [resV, foldsM]; omega) | (simp_all [resV, foldsM]; intros; exfalso; omega) | (simp_all [resV, foldsM]; split <;> intros <;> first | omega | (exfalso; omega) | simp_all))
def unaryM (op : Int) : Bool := decide (0 ≤ op ∧ op < 3)
def binaryM (op : Int) : Bool := decide (0 ≤ op ∧ op < 20)
theorem isUnary_run (hK : KN base K) (op : Int) (h : Heap) (w : Wf h) : Sp P K 146 [.int .i64 op] h (Val (.bool (unaryM op)) h) := by
 refine Sp.start (m := 5) (n := 9) w (hK.none 146 rfl rfl _ _) Tryz.func146 rfl rfl mask146 rfl rfl ?_
 repeat' (first
  | refine ToX.a_ ?_
  | refine WCX.s_ ?_
  | (refine WCX.g_ (id := 0) ?_; (refine .cons (q hX rfl ?_)) <;> (refine .nil (.intro rfl ?_)))
  | (refine WCX.g_ (id := 1) ?_; (refine .cons (q hX rfl ?_)) <;> ((refine .cons (qc rfl ?_ ?_)) <;> intro _) <;> (iterate 2 refine .cons (q hX rfl ?_)) <;> (first | (refine .cons (q hX rfl ?_)) | (refine .cons (qc rfl ?_ ?_)) <;> intro _) <;> (iterate 2 refine .cons (q hX rfl ?_)) <;> (refine .nil (.intro rfl ?_)))
  | refine WCX.r_ ?_
  | refine ToX.r_ hX rfl ?_)
 all_goals (intro h f; refine ⟨?_, f.chg⟩; clear f; first | (simp_all [resV, unaryM]; done) | (simp_all [resV, unaryM]; omega) | (simp_all [resV, unaryM]; intros; exfalso; omega) | (simp_all [resV, unaryM]; split <;> intros <;> first | omega | (exfalso; omega) | simp_all))
theorem isBinary_run (hK : KN base K) (op : Int) (h : Heap) (w : Wf h) : Sp P K 147 [.int .i64 op] h (Val (.bool (binaryM op)) h) := by
 refine Sp.start (m := 5) (n := 9) w (hK.none 147 rfl rfl _ _) Tryz.func147 rfl rfl mask147 rfl rfl ?_
 repeat' (first
  | refine ToX.a_ ?_
  | refine WCX.s_ ?_
  | (refine WCX.g_ (id := 0) ?_; (refine .cons (q hX rfl ?_)) <;> (refine .nil (.intro rfl ?_)))
  | (refine WCX.g_ (id := 1) ?_; (refine .cons (q hX rfl ?_)) <;> ((refine .cons (qc rfl ?_ ?_)) <;> intro _) <;> (iterate 2 refine .cons (q hX rfl ?_)) <;> (first | (refine .cons (q hX rfl ?_)) | (refine .cons (qc rfl ?_ ?_)) <;> intro _) <;> (iterate 2 refine .cons (q hX rfl ?_)) <;> (refine .nil (.intro rfl ?_)))
  | refine WCX.r_ ?_
  | refine ToX.r_ hX rfl ?_)
 all_goals (intro h f; refine ⟨?_, f.chg⟩; clear f; first | (simp_all [resV, binaryM]; done) | (simp_all [resV, binaryM]; omega) | (simp_all [resV, binaryM]; intros; exfalso; omega) | (simp_all [resV, binaryM]; split <;> intros <;> first | omega | (exfalso; omega) | simp_all))
def hasM (k : Int) : Bool × Bool × Bool := (decide (k = 0 ∨ k = 4 ∨ k = 5 ∨ k = 11 ∨ k = 1 ∨ k = 2 ∨ k = 6 ∨ k = 10 ∨ k = 3), decide (k = 1 ∨ k = 2 ∨ k = 6 ∨ k = 10 ∨ k = 3 ∨ k = 7 ∨ k = 8 ∨ k = 12 ∨ k = 14), decide (k = 3 ∨ k = 7 ∨ k = 8))
theorem has_run (hK : KN base K) (k : Int) (h : Heap) (w : Wf h) : Sp P K 38 [.int .i64 k] h (Val (.tuple [.bool (hasM k).1, .bool (hasM k).2.1, .bool (hasM k).2.2]) h) := by
 refine Sp.start (m := 2427005) (n := 24) w (hK.none 38 rfl rfl _ _) Tryz.func38 rfl rfl mask38 rfl rfl ?_
 repeat' (first
  | refine ToX.a_ ?_
  | refine WCX.s_ ?_
  | (refine WCX.g_ (id := 0) ?_; (iterate 3 refine .cons (q hX rfl ?_)) <;> (refine .nil (.intro rfl ?_)))
  | (refine WCX.g_ (id := 1) ?_; (refine .cons (q hX rfl ?_)) <;> (refine .nil (.intro rfl ?_)))
  | (refine WCX.g_ (id := 2) ?_; ((refine .cons (qc rfl ?_ ?_)) <;> intro _) <;> (refine .cons (q hX rfl ?_)) <;> (refine .nil (.intro rfl ?_)))
  | (refine WCX.g_ (id := 3) ?_; ((refine .cons (qc rfl ?_ ?_)) <;> intro _) <;> (refine .cons (q hX rfl ?_)) <;> (refine .nil (.intro rfl ?_)))
  | (refine WCX.g_ (id := 4) ?_; ((refine .cons (qc rfl ?_ ?_)) <;> intro _) <;> (refine .cons (q hX rfl ?_)) <;> (refine .nil (.intro rfl ?_)))
  | (refine WCX.g_ (id := 5) ?_; ((refine .cons (qc rfl ?_ ?_)) <;> intro _) <;> (refine .cons (q hX rfl ?_)) <;> (refine .nil (.intro rfl ?_)))
  | (refine WCX.g_ (id := 6) ?_; (iterate 3 refine .cons (q hX rfl ?_)) <;> (refine .nil (.intro rfl ?_)))
  | (refine WCX.g_ (id := 7) ?_; ((refine .cons (qc rfl ?_ ?_)) <;> intro _) <;> (refine .cons (q hX rfl ?_)) <;> (refine .nil (.intro rfl ?_)))
  | (refine WCX.g_ (id := 8) ?_; ((refine .cons (qc rfl ?_ ?_)) <;> intro _) <;> (refine .cons (q hX rfl ?_)) <;> (refine .nil (.intro rfl ?_)))
  | (refine WCX.g_ (id := 9) ?_; ((refine .cons (qc rfl ?_ ?_)) <;> intro _) <;> (refine .cons (q hX rfl ?_)) <;> (refine .nil (.intro rfl ?_)))
  | (refine WCX.g_ (id := 10) ?_; ((refine .cons (qc rfl ?_ ?_)) <;> intro _) <;> (refine .cons (q hX rfl ?_)) <;> (refine .nil (.intro rfl ?_)))
  | (refine WCX.g_ (id := 11) ?_; (iterate 3 refine .cons (q hX rfl ?_)) <;> (refine .nil (.intro rfl ?_)))
  | (refine WCX.g_ (id := 12) ?_; ((refine .cons (qc rfl ?_ ?_)) <;> intro _) <;> (refine .cons (q hX rfl ?_)) <;> (refine .nil (.intro rfl ?_)))
  | (refine WCX.g_ (id := 13) ?_; (iterate 3 refine .cons (q hX rfl ?_)) <;> (refine .nil (.intro rfl ?_)))
  | (refine WCX.g_ (id := 14) ?_; ((refine .cons (qc rfl ?_ ?_)) <;> intro _) <;> (refine .cons (q hX rfl ?_)) <;> (refine .nil (.intro rfl ?_)))
  | (refine WCX.g_ (id := 15) ?_; ((refine .cons (qc rfl ?_ ?_)) <;> intro _) <;> (refine .cons (q hX rfl ?_)) <;> (refine .nil (.intro rfl ?_)))
  | (refine WCX.g_ (id := 16) ?_; (iterate 3 refine .cons (q hX rfl ?_)) <;> (refine .nil (.intro rfl ?_)))
  | (refine WCX.g_ (id := 17) ?_; ((refine .cons (qc rfl ?_ ?_)) <;> intro _) <;> (refine .cons (q hX rfl ?_)) <;> (refine .nil (.intro rfl ?_)))
  | (refine WCX.g_ (id := 18) ?_; ((refine .cons (qc rfl ?_ ?_)) <;> intro _) <;> (refine .cons (q hX rfl ?_)) <;> (refine .nil (.intro rfl ?_)))
  | (refine WCX.g_ (id := 19) ?_; (iterate 3 refine .cons (q hX rfl ?_)) <;> (refine .nil (.intro rfl ?_)))
  | (refine WCX.g_ (id := 20) ?_; (iterate 3 refine .cons (q hX rfl ?_)) <;> (refine .nil (.intro rfl ?_)))
  | refine WCX.r_ ?_
  | refine ToX.d_ ?_
  | refine ToX.f_ ?_
  | refine WCX.t_ rfl ?_
  | refine WCX.f_ rfl ?_
  | refine WCX.k_ ?_
  | refine WCX.b_ ?_
  | refine ToX.b_ ?_
  | refine ToX.r_ hX rfl ?_)
 all_goals (intro h f; refine ⟨?_, f.chg⟩; clear f; first | (simp_all [resV, hasM]; done) | (simp_all [resV, hasM]; omega) | (simp_all [resV, hasM]; intros; exfalso; omega) | (simp_all [resV, hasM]; split <;> intros <;> first | omega | (exfalso; omega) | simp_all))
def signM (how op : Int) : Bool := if how = 1 then unaryM op else if how = 2 then binaryM op else if how = 3 then decide (0 ≤ op ∧ op < 4) else if how = 4 then foldsM op else decide (op = 0)
theorem sign_run (hK : KN base K) (how op : Int) (h : Heap) (w : Wf h) : Sp P K 84 [.int .i64 how, .int .i64 op] h (Val (.bool (signM how op)) h) := by
 refine Sp.start (m := 4211827) (n := 28) w (hK.none 84 rfl rfl _ _) Tryz.func84 rfl rfl mask84 rfl rfl ?_
 repeat' (first
  | refine ToX.a_ ?_
  | refine WCX.s_ ?_
  | (refine WCX.g_ (id := 0) ?_; (refine .cons (q hX rfl ?_)) <;> (refine .nil (.intro rfl ?_)))
  | (refine WCX.g_ (id := 1) ?_; (refine .cons (q hX rfl ?_)) <;> (refine .nil (.intro rfl ?_)))
  | (refine WCX.g_ (id := 2) ?_; ((refine .cons (qc rfl ?_ ?_)) <;> intro _) <;> (refine .cons (q hX rfl ?_)) <;> (refine .nil (.intro rfl ?_)))
  | (refine WCX.g_ (id := 3) ?_; (refine .cons (q hX rfl ?_)) <;> ((refine .cons (qcallB rfl rfl rfl rfl ca146 rfl rfl (fun h f => isUnary_run hK _ h f.wf) ?_ ?_)) <;> intro _) <;> (refine .cons (q hX rfl ?_)) <;> (refine .nil (.intro rfl ?_)))
  | (refine WCX.g_ (id := 4) ?_; ((refine .cons (qc rfl ?_ ?_)) <;> intro _) <;> (refine .cons (q hX rfl ?_)) <;> (refine .nil (.intro rfl ?_)))
  | (refine WCX.g_ (id := 5) ?_; (refine .cons (q hX rfl ?_)) <;> ((refine .cons (qcallB rfl rfl rfl rfl ca147 rfl rfl (fun h f => isBinary_run hK _ h f.wf) ?_ ?_)) <;> intro _) <;> (refine .cons (q hX rfl ?_)) <;> (refine .nil (.intro rfl ?_)))
  | (refine WCX.g_ (id := 6) ?_; ((refine .cons (qc rfl ?_ ?_)) <;> intro _) <;> (refine .cons (q hX rfl ?_)) <;> (refine .nil (.intro rfl ?_)))
  | (refine WCX.g_ (id := 7) ?_; (refine .cons (q hX rfl ?_)) <;> ((refine .cons (qc rfl ?_ ?_)) <;> intro _) <;> (iterate 2 refine .cons (q hX rfl ?_)) <;> (first | (refine .cons (q hX rfl ?_)) | (refine .cons (qc rfl ?_ ?_)) <;> intro _) <;> (iterate 2 refine .cons (q hX rfl ?_)) <;> (refine .nil (.intro rfl ?_)))
  | (refine WCX.g_ (id := 8) ?_; ((refine .cons (qc rfl ?_ ?_)) <;> intro _) <;> (refine .cons (q hX rfl ?_)) <;> (refine .nil (.intro rfl ?_)))
  | (refine WCX.g_ (id := 9) ?_; (refine .cons (q hX rfl ?_)) <;> ((refine .cons (qcallB rfl rfl rfl rfl ca154 rfl rfl (fun h f => folds2_run hK _ h f.wf) ?_ ?_)) <;> intro _) <;> (refine .cons (q hX rfl ?_)) <;> (refine .nil (.intro rfl ?_)))
  | (refine WCX.g_ (id := 10) ?_; (refine .cons (q hX rfl ?_)) <;> ((refine .cons (qc rfl ?_ ?_)) <;> intro _) <;> (refine .cons (q hX rfl ?_)) <;> (refine .nil (.intro rfl ?_)))
  | refine WCX.r_ ?_
  | refine ToX.d_ ?_
  | refine ToX.f_ ?_
  | refine WCX.t_ rfl ?_
  | refine WCX.f_ rfl ?_
  | refine WCX.k_ ?_
  | refine WCX.b_ ?_
  | refine ToX.b_ ?_
  | refine ToX.r_ hX rfl ?_)
 all_goals (intro h f; refine ⟨?_, f.chg⟩; clear f; first | (simp_all [resV, signM]; done) | (simp_all [resV, signM]; omega) | (simp_all [resV, signM]; intros; exfalso; omega) | (simp_all [resV, signM]; split <;> intros <;> first | omega | (exfalso; omega) | simp_all))
def withinM (used : Bool) (n lim : Int) : Bool := if used then decide (0 ≤ n ∧ n < lim) else decide (n = 0)
theorem within_run (hK : KN base K) (used : Bool) (n lim : Int) (h : Heap) (w : Wf h) : Sp P K 80 [.bool used, .int .i64 n, .int .i64 lim] h (Val (.bool (withinM used n lim)) h) := by
 cases used
 all_goals
  refine Sp.start (m := 327) (n := 18) w (hK.none 80 rfl rfl _ _) Tryz.func80 rfl rfl mask80 rfl rfl ?_
  repeat' (first
   | refine ToX.a_ ?_
   | refine WCX.s_ ?_
   | (refine WCX.g_ (id := 0) ?_; (refine .cons (q hX rfl ?_)) <;> (refine .nil (.intro rfl ?_)))
   | (refine WCX.g_ (id := 1) ?_; (iterate 2 refine .cons (q hX rfl ?_)) <;> (refine .nil (.intro rfl ?_)))
   | (refine WCX.g_ (id := 2) ?_; (refine .cons (q hX rfl ?_)) <;> ((refine .cons (qc rfl ?_ ?_)) <;> intro _) <;> (refine .cons (q hX rfl ?_)) <;> (refine .nil (.intro rfl ?_)))
   | (refine WCX.g_ (id := 3) ?_; (refine .cons (q hX rfl ?_)) <;> ((refine .cons (qc rfl ?_ ?_)) <;> intro _) <;> (iterate 3 refine .cons (q hX rfl ?_)) <;> (first | (refine .cons (q hX rfl ?_)) | (refine .cons (qc rfl ?_ ?_)) <;> intro _) <;> (iterate 2 refine .cons (q hX rfl ?_)) <;> (refine .nil (.intro rfl ?_)))
   | refine WCX.r_ ?_
   | refine ToX.d_ ?_
   | refine WCX.t_ rfl ?_
   | refine WCX.f_ rfl ?_
   | refine WCX.k_ ?_
   | refine ToX.r_ hX rfl ?_)
  all_goals (intro h f; refine ⟨?_, f.chg⟩; clear f; first | (simp_all [resV, withinM]; done) | (simp_all [resV, withinM]; omega) | (simp_all [resV, withinM]; intros; exfalso; omega) | (simp_all [resV, withinM]; split <;> intros <;> first | omega | (exfalso; omega) | simp_all))
theorem reg_run (hK : KN base K) (used : Bool) (n : Int) (h : Heap) (w : Wf h) : Sp P K 39 [.bool used, .int .i64 n] h (Val (.bool (withinM used n 16)) h) := by
 cases used
 all_goals
  refine Sp.start (m := 19) (n := 22) w (hK.none 39 rfl rfl _ _) Tryz.func39 rfl rfl mask39 rfl rfl ?_
  repeat' (first
   | refine ToX.a_ ?_
   | refine WCX.s_ ?_
   | (refine WCX.g_ (id := 0) ?_; (refine .cons (q hX rfl ?_)) <;> (refine .nil (.intro rfl ?_)))
   | (refine WCX.g_ (id := 1) ?_; (iterate 3 refine .cons (q hX rfl ?_)) <;> (first | (refine .cons (q hX rfl ?_)) | (refine .cons (qc rfl ?_ ?_)) <;> intro _) <;> (iterate 3 refine .cons (q hX rfl ?_)) <;> (first | (refine .cons (q hX rfl ?_)) | (refine .cons (qc rfl ?_ ?_)) <;> intro _) <;> (iterate 6 refine .cons (q hX rfl ?_)) <;> (first | (refine .cons (q hX rfl ?_)) | (refine .cons (qc rfl ?_ ?_)) <;> intro _) <;> (iterate 3 refine .cons (q hX rfl ?_)) <;> (refine .nil (.intro rfl ?_)))
   | refine WCX.r_ ?_
   | refine ToX.r_ hX rfl ?_)
  all_goals (intro h f; refine ⟨?_, f.chg⟩; clear f; first | (simp_all [resV, withinM]; done) | (simp_all [resV, withinM]; omega) | (simp_all [resV, withinM]; intros; exfalso; omega) | (simp_all [resV, withinM]; split <;> intros <;> first | omega | (exfalso; omega) | simp_all))
end Em
end Go.HL
