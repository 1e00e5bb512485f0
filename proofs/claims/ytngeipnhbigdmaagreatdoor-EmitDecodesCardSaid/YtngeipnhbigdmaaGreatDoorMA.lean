/- Words of code, written and read, as plain functions; the types that the walks meet. No statement of the seat stands here. -/
import Derived.Test.YtngeipnhbigdmaaGreatDoorXC
import Derived.Test.YtngeipnhbigdmaaGreatDoorProg
import Derived.KernelRfl
set_option linter.unusedVariables false
set_option linter.unusedSimpArgs false
namespace Go.HL.Em
structure InsnD where
  kind : Int
  op : Int
  d : Int
  a : Int
  b : Int
  imm : Int
  to : Int
  join : Int
deriving DecidableEq
/-- names are lists of bytes here -/
structure CodeB where
  name : List Nat
  params : List (List Nat × Bool)
  shared : List (List Nat × Nat)
  «local» : Nat
  insns : List InsnD
deriving DecidableEq
/-! ## Readers -/
/-- the words left, and whether one was not right -/
abbrev S := List Nat × Bool
def andThen {α β : Type} (f : S → α × S) (g : α → S → β × S) : S → β × S := fun s => g (f s).1 (f s).2
def give {α : Type} (a : α) : S → α × S := fun s => (a, s)
/-- of these words this is read -/
def Reads {α : Type} (f : S → α × S) (w : List Nat) (a : α) : Prop := ∀ t, f (w ++ t, false) = (a, (t, false))
theorem Reads.give {α : Type} (a : α) : Reads (give a) [] a := fun _ => rfl
theorem Reads.andThen {α β : Type} {f : S → α × S} {g : α → S → β × S} {w w' : List Nat} {a : α} {b : β} (h : Reads f w a) (k : Reads (g a) w' b) : Reads (andThen f g) (w ++ w') b := fun t => by
  unfold Em.andThen
  rw [List.append_assoc, h (w' ++ t)]
  exact k t
def Good (rd : Nat → S → Nat × S) : Prop := ∀ lim w t, w ≤ lim → rd lim (w :: t, false) = (w, (t, false))
theorem Good.reads {rd : Nat → S → Nat × S} (g : Good rd) {lim w : Nat} (h : w ≤ lim) : Reads (rd lim) [w] w := fun t => g lim w t h
/-- the program's -/
def nextP (lim : Nat) : S → Nat × S
  | ([], _) => (0, ([], true))
  | (w :: t, b) => if lim < w then (0, (w :: t, true)) else (w, (t, b))
/-- the reference's -/
def wordR (most : Nat) : S → Nat × S
  | (l, true) => (0, (l, true))
  | ([], false) => (0, ([], true))
  | (w :: t, false) => if most < w then (0, (w :: t, true)) else (w, (t, false))
theorem nextP_good : Good nextP := fun lim w t h => by simp [nextP, Nat.not_lt.2 h]
theorem wordR_good : Good wordR := fun lim w t h => by simp [wordR, Nat.not_lt.2 h]
/-! ## Names -/
def bytesOf : Nat → Nat → List Nat
  | 0, _ => []
  | m + 1, w => w % 256 :: bytesOf m (w / 256)
def wordOf : List Nat → Nat
  | [] => 0
  | x :: l => x + 256 * wordOf l
theorem bytesOf_length : ∀ (m w : Nat), (bytesOf m w).length = m
  | 0, _ => rfl
  | m + 1, w => by simp [bytesOf, bytesOf_length m]
theorem bytesOf_lt : ∀ (m w : Nat), ∀ x ∈ bytesOf m w, x < 256
  | 0, _, x, h => by cases h
  | m + 1, w, x, h => by
    rcases List.mem_cons.1 h with rfl | h
    · omega
    · exact bytesOf_lt m _ x h
theorem bytesOf_wordOf : ∀ {l : List Nat}, (∀ x ∈ l, x < 256) → bytesOf l.length (wordOf l) = l
  | [], _ => rfl
  | x :: l, h => by
    have hx : x < 256 := h x (by simp)
    have ih := bytesOf_wordOf (l := l) fun y hy => h y (by simp [hy])
    show (x + 256 * wordOf l) % 256 :: bytesOf l.length ((x + 256 * wordOf l) / 256) = x :: l
    rw [show (x + 256 * wordOf l) % 256 = x by omega, show (x + 256 * wordOf l) / 256 = wordOf l by omega, ih]
theorem wordOf_lt : ∀ {l : List Nat}, (∀ x ∈ l, x < 256) → wordOf l < 256 ^ l.length
  | [], _ => by simp [wordOf]
  | x :: l, h => by
    have hx : x < 256 := h x (by simp)
    have ih := wordOf_lt (l := l) fun y hy => h y (by simp [hy])
    show x + 256 * wordOf l < 256 ^ (l.length + 1)
    rw [Nat.pow_succ]
    omega
theorem wordOf_take {l : List Nat} (h : ∀ x ∈ l, x < 256) : wordOf (l.take 4) < 4294967296 := by
  have h1 := wordOf_lt (l := l.take 4) fun x hx => h x (List.mem_of_mem_take hx)
  have h2 : (256 : Nat) ^ (l.take 4).length ≤ 256 ^ 4 := Nat.pow_le_pow_right (by omega) (by rw [List.length_take]; omega)
  have h3 : (256 : Nat) ^ 4 = 4294967296 := by decide
  omega
/-- bytes as words, four to a word -/
def packs (l : List Nat) : List Nat := if _h : 0 < l.length then wordOf (l.take 4) :: packs (l.drop 4) else []
termination_by l.length
decreasing_by rw [List.length_drop]; omega
def nameL (rd : S → Nat × S) (n : Nat) (b : List Nat) (s : S) : List Nat × S :=
  if _h : b.length < n ∧ s.2 = false then nameL rd n (b ++ bytesOf (min 4 (n - b.length)) (rd s).1) (rd s).2 else (b, s)
termination_by n - b.length
decreasing_by rw [List.length_append, bytesOf_length]; omega
theorem nameL_packs {rd : Nat → S → Nat × S} (g : Good rd) : ∀ (k : Nat) {c : List Nat}, c.length = k → (∀ x ∈ c, x < 256) → ∀ (b : List Nat) (t : List Nat), nameL (rd 4294967295) (b.length + c.length) b (packs c ++ t, false) = (b ++ c, (t, false)) := by
  intro k
  induction k using Nat.strongRecOn with
  | _ k ih =>
    intro c hc hx b t
    by_cases h0 : 0 < c.length
    · have hp : packs c = wordOf (c.take 4) :: packs (c.drop 4) := by rw [packs, dif_pos h0]
      rw [nameL, dif_pos ⟨by omega, rfl⟩, hp, List.cons_append, g 4294967295 _ _ (by have := wordOf_take hx; omega)]
      have e : bytesOf (min 4 (b.length + c.length - b.length)) (wordOf (c.take 4)) = c.take 4 := by
        have := bytesOf_wordOf (l := c.take 4) fun x hy => hx x (List.mem_of_mem_take hy)
        rw [List.length_take] at this
        rw [Nat.add_sub_cancel_left]
        exact this
      simp only [e]
      have e2 : b.length + c.length = (b ++ c.take 4).length + (c.drop 4).length := by
        rw [List.length_append, List.length_take, List.length_drop]; omega
      rw [e2, ih (c.drop 4).length (by rw [List.length_drop]; omega) rfl (fun x hy => hx x (List.mem_of_mem_drop hy)), List.append_assoc, List.take_append_drop]
    · obtain rfl : c = [] := List.eq_nil_of_length_eq_zero (by omega)
      rw [nameL, dif_neg (by simp), packs, dif_neg (by simp)]
      simp
def nameD (rd : Nat → S → Nat × S) : S → List Nat × S := andThen (rd 16) fun n => nameL (rd 4294967295) n []
def nameE (b : List Nat) : List Nat := b.length :: packs b
def NameFine (b : List Nat) : Prop := b.length ≤ 16 ∧ ∀ x ∈ b, x < 256
theorem nameD_reads {rd : Nat → S → Nat × S} (g : Good rd) {b : List Nat} (h : NameFine b) : Reads (nameD rd) (nameE b) b := by
  refine Reads.andThen (w := [b.length]) (g.reads h.1) fun t => ?_
  have := nameL_packs g b.length rfl h.2 [] t
  simpa using this
/-! ## Lists -/
def manyL {α : Type} (one : S → α × S) : Nat → S → List α × S
  | 0, s => ([], s)
  | n + 1, s => if s.2 = true then ([], s) else ((one s).1 :: (manyL one n (one s).2).1, (manyL one n (one s).2).2)
theorem manyL_reads {α : Type} {one : S → α × S} {enc : α → List Nat} : ∀ {l : List α}, (∀ a ∈ l, Reads one (enc a) a) → Reads (manyL one l.length) (l.flatMap enc) l
  | [], _ => fun _ => rfl
  | a :: l, h => fun t => by
    have h1 := h a (by simp)
    have h2 := manyL_reads (l := l) (fun b hb => h b (by simp [hb])) t
    show manyL one (l.length + 1) (_, false) = _
    rw [manyL, if_neg (by simp), List.flatMap_cons, List.append_assoc, h1, h2]
/-! ## Code -/
def paramD (rd : Nat → S → Nat × S) : S → (List Nat × Bool) × S := andThen (nameD rd) fun n => andThen (rd 1) fun k => give (n, k == 1)
def paramE (p : List Nat × Bool) : List Nat := nameE p.1 ++ [if p.2 then 1 else 0]
def arrayD (rd : Nat → S → Nat × S) : S → (List Nat × Nat) × S := andThen (nameD rd) fun n => andThen (rd 64) fun k => give (n, k)
def arrayE (p : List Nat × Nat) : List Nat := nameE p.1 ++ [p.2]
/-- a word as a number with a sign -/
def signed (n : Nat) : Int := if n < 2147483648 then (n : Int) else (n : Int) - 4294967296
def insnD (rd : Nat → S → Nat × S) (l1 l2 : Nat) : S → InsnD × S :=
  andThen (rd l1) fun k => andThen (rd l2) fun r => andThen (rd 4294967295) fun m => andThen (rd 2000) fun to => andThen (rd 2000) fun j => andThen (rd 0) fun _ =>
    give ⟨(k % 256 : Nat), (k / 256 : Nat), (r % 256 : Nat), (r / 256 % 256 : Nat), (r / 65536 : Nat), signed m, to, j⟩
def insnE (x : InsnD) : List Nat := [(x.kind + 256 * x.op).toNat, (x.d + 256 * x.a + 65536 * x.b).toNat, (x.imm % 4294967296).toNat, x.to.toNat, x.join.toNat, 0]
structure InsnFine (x : InsnD) : Prop where
  kind : 0 ≤ x.kind ∧ x.kind < 256
  op : 0 ≤ x.op ∧ x.op < 256
  d : 0 ≤ x.d ∧ x.d < 256
  a : 0 ≤ x.a ∧ x.a < 256
  b : 0 ≤ x.b ∧ x.b < 256
  imm : -2147483648 ≤ x.imm ∧ x.imm ≤ 2147483647
  to : 0 ≤ x.to ∧ x.to ≤ 2000
  join : 0 ≤ x.join ∧ x.join ≤ 2000
theorem insnD_reads {rd : Nat → S → Nat × S} (g : Good rd) {l1 l2 : Nat} (h1 : 65535 ≤ l1) (h2 : 16777215 ≤ l2) {x : InsnD} (h : InsnFine x) : Reads (insnD rd l1 l2) (insnE x) x := by
  obtain ⟨k, o, d, a, b, m, t, j⟩ := h
  refine Reads.andThen (w := [_]) (g.reads (by omega)) (Reads.andThen (w := [_]) (g.reads (by omega)) (Reads.andThen (w := [_]) (g.reads (by omega)) (Reads.andThen (w := [_]) (g.reads (by omega)) (Reads.andThen (w := [_]) (g.reads (by omega)) (Reads.andThen (w := [_]) (w' := []) (g.reads (Nat.le_refl 0)) fun t => ?_)))))
  have e : (⟨(((x.kind + 256 * x.op).toNat % 256 : Nat) : Int), (((x.kind + 256 * x.op).toNat / 256 : Nat) : Int), (((x.d + 256 * x.a + 65536 * x.b).toNat % 256 : Nat) : Int), (((x.d + 256 * x.a + 65536 * x.b).toNat / 256 % 256 : Nat) : Int), (((x.d + 256 * x.a + 65536 * x.b).toNat / 65536 : Nat) : Int), signed (x.imm % 4294967296).toNat, (x.to.toNat : Int), (x.join.toNat : Int)⟩ : InsnD) = x := by
    cases x
    simp only at *
    unfold signed
    congr <;> first | omega | (split <;> omega)
  show (_, _) = _
  rw [e]
  rfl
def codeD (rd : Nat → S → Nat × S) (l1 l2 : Nat) : S → CodeB × S :=
  andThen (nameD rd) fun n => andThen (rd 6) fun np => andThen (manyL (paramD rd) np) fun ps => andThen (rd 4) fun na => andThen (manyL (arrayD rd) na) fun ars => andThen (rd 64) fun lo => andThen (rd 2000) fun ni => andThen (manyL (insnD rd l1 l2) ni) fun is => give ⟨n, ps, ars, lo, is⟩
def codeE (c : CodeB) : List Nat := nameE c.name ++ ([c.params.length] ++ (c.params.flatMap paramE ++ ([c.shared.length] ++ (c.shared.flatMap arrayE ++ ([c.local] ++ ([c.insns.length] ++ (c.insns.flatMap insnE ++ [])))))))
structure CodeFine (c : CodeB) : Prop where
  name : NameFine c.name
  params : c.params.length ≤ 6
  pname : ∀ p ∈ c.params, NameFine p.1
  shared : c.shared.length ≤ 4
  sname : ∀ p ∈ c.shared, NameFine p.1 ∧ p.2 ≤ 64
  «local» : c.local ≤ 64
  insns : c.insns.length ≤ 2000
  each : ∀ x ∈ c.insns, InsnFine x
theorem paramD_reads {rd : Nat → S → Nat × S} (g : Good rd) {p : List Nat × Bool} (h : NameFine p.1) : Reads (paramD rd) (paramE p) p := by
  refine Reads.andThen (nameD_reads g h) ?_
  have := Reads.andThen (g := fun k => give (p.1, k == 1)) (w := [if p.2 then 1 else 0]) (w' := []) (g.reads (rd := rd) (lim := 1) (w := if p.2 then 1 else 0) (by split <;> omega)) (Reads.give (p.1, (if p.2 then 1 else 0) == 1))
  have e : (p.1, (if p.2 = true then 1 else 0) == 1) = p := by obtain ⟨a, b⟩ := p; cases b <;> rfl
  rw [e] at this
  exact this
theorem arrayD_reads {rd : Nat → S → Nat × S} (g : Good rd) {p : List Nat × Nat} (h : NameFine p.1 ∧ p.2 ≤ 64) : Reads (arrayD rd) (arrayE p) p :=
  Reads.andThen (nameD_reads g h.1) (Reads.andThen (w := [p.2]) (w' := []) (g.reads h.2) (Reads.give (p.1, p.2)))
/-- WHAT WAS WRITTEN IS READ AGAIN. -/
theorem codeD_reads {rd : Nat → S → Nat × S} (g : Good rd) {l1 l2 : Nat} (h1 : 65535 ≤ l1) (h2 : 16777215 ≤ l2) {c : CodeB} (h : CodeFine c) : Reads (codeD rd l1 l2) (codeE c) c :=
  Reads.andThen (nameD_reads g h.name) (Reads.andThen (g.reads h.params) (Reads.andThen (manyL_reads fun p hp => paramD_reads g (h.pname p hp)) (Reads.andThen (g.reads h.shared) (Reads.andThen (manyL_reads fun p hp => arrayD_reads g (h.sname p hp))
    (Reads.andThen (g.reads h.local) (Reads.andThen (g.reads h.insns) (Reads.andThen (manyL_reads fun x hx => insnD_reads g h1 h2 (h.each x hx)) (Reads.give _))))))))
end Go.HL.Em
namespace Go.HL.Em
def sumOf (l : List Nat) : Nat := l.foldl (fun n w => (31 * n + w) % 4294967296) 7
def openE (c : CodeB) : List Nat := 65585 :: (codeE c).length :: codeE c
def wholeE (c : CodeB) : List Nat := openE c ++ [sumOf (openE c)]
def ansP (V : CodeB → Bool) (l : List Nat) : Option CodeB :=
  if l.length < 3 ∨ l[0]? ≠ some 65585 then none
  else if (codeD nextP 4294967295 4294967295 ((l.drop 2).take (l.length - 3), false)).2.2 = true ∨ V (codeD nextP 4294967295 4294967295 ((l.drop 2).take (l.length - 3), false)).1 = false then none
  else if wholeE (codeD nextP 4294967295 4294967295 ((l.drop 2).take (l.length - 3), false)).1 = l then some (codeD nextP 4294967295 4294967295 ((l.drop 2).take (l.length - 3), false)).1 else none
def ansR (V : CodeB → Bool) (l : List Nat) : Option CodeB :=
  if (codeD wordR 65535 16777215 (l.drop 2, false)).2.2 = true then none
  else if V (codeD wordR 65535 16777215 (l.drop 2, false)).1 = true ∧ wholeE (codeD wordR 65535 16777215 (l.drop 2, false)).1 = l then some (codeD wordR 65535 16777215 (l.drop 2, false)).1 else none
variable {V : CodeB → Bool} {l : List Nat} {c : CodeB}
theorem ansP_some (hV : ∀ c, V c = true → CodeFine c) : ansP V l = some c ↔ V c = true ∧ wholeE c = l := by
  constructor
  · intro h
    unfold ansP at h
    split at h
    · cases h
    · split at h
      · cases h
      · rename_i h2
        split at h
        · rename_i h3
          cases h
          refine ⟨?_, h3⟩
          cases hv : V (codeD nextP 4294967295 4294967295 ((l.drop 2).take (l.length - 3), false)).1 with
          | true => rfl
          | false => exact absurd (.inr hv) h2
        · cases h
  · rintro ⟨hv, rfl⟩
    have hl : (wholeE c).length = (codeE c).length + 3 := by simp [wholeE, openE]
    have hr := codeD_reads nextP_good (l1 := 4294967295) (l2 := 4294967295) (by omega) (by omega) (hV c hv) []
    have e : ((wholeE c).drop 2).take ((wholeE c).length - 3) = codeE c := by
      rw [hl, Nat.add_sub_cancel]
      show (codeE c ++ [_]).take _ = _
      rw [List.take_left]
    rw [List.append_nil] at hr
    unfold ansP
    rw [e, hr, if_neg (by simp [hl]; simp [wholeE, openE]), if_neg (by simp [hv]), if_pos rfl]
theorem ansR_some (hV : ∀ c, V c = true → CodeFine c) : ansR V l = some c ↔ V c = true ∧ wholeE c = l := by
  constructor
  · intro h
    unfold ansR at h
    split at h
    · cases h
    · split at h
      · rename_i h3
        cases h
        exact h3
      · cases h
  · rintro ⟨hv, rfl⟩
    have hr := codeD_reads wordR_good (l1 := 65535) (l2 := 16777215) (by omega) (by omega) (hV c hv) [sumOf (openE c)]
    have e : (wholeE c).drop 2 = codeE c ++ [sumOf (openE c)] := rfl
    unfold ansR
    rw [e, hr, if_neg (by simp), if_pos ⟨hv, rfl⟩]
theorem ans_same (hV : ∀ c, V c = true → CodeFine c) (l : List Nat) : ansP V l = ansR V l := by
  cases hp : ansP V l with
  | some c => exact ((ansR_some hV).2 ((ansP_some hV).1 hp)).symm
  | none =>
    cases hr : ansR V l with
    | none => rfl
    | some c => rw [(ansP_some hV).2 ((ansR_some hV).1 hr)] at hp; cases hp
end Go.HL.Em
namespace Go.HL
open Go
noncomputable section
namespace Em
noncomputable abbrev P : Program := Go.Proofs.Tryz.prog
noncomputable def tab : Tab := [(3, .int .i64, 1), (4, .bool, 1), (5, .int .u8, 1), (9, .str, 1), (21, .int .i32, 1), (22, .slice 70, 1), (23, .slice 72, 1), (24, .slice 74, 1), (26, .struct [(0, 9), (1, 22), (2, 23), (3, 3), (4, 24)], 5), (29, .slice 42, 1), (30, .int .i64, 1), (42, .int .u32, 1), (56, .slice 21, 1), (70, .struct [(0, 9), (1, 4)], 2), (72, .struct [(0, 9), (1, 3)], 2), (74, .struct [(0, 3), (1, 3), (2, 3), (3, 3), (4, 3), (5, 21), (6, 3), (7, 3)], 8), (80, .struct [(0, 4), (1, 4), (2, 4), (3, 4), (4, 4), (5, 4), (6, 4), (7, 4), (8, 4), (9, 4), (10, 4), (11, 3)], 12), (81, .array 16 80, 192), (92, .struct [(0, 29), (1, 4)], 2), (95, .struct [(0, 29), (1, 3), (2, 4)], 3), (100, .slice 9, 1), (109, .slice 3, 1), (140, .slice 5, 1), (150, .map 9 4, 1), (196, .int .u64, 1), (225, .int .u64, 1)]
theorem hT : tabOk P tab = true := by kernel_rfl
theorem z3 : zeroCells? P 3 = some [.int .i64 0] := by kernel_rfl
theorem b3 : P.bytesOf 3 = 8 := by kernel_rfl
theorem z4 : zeroCells? P 4 = some [.bool false] := by kernel_rfl
theorem b4 : P.bytesOf 4 = 1 := by kernel_rfl
theorem z5 : zeroCells? P 5 = some [.int .u8 0] := by kernel_rfl
theorem b5 : P.bytesOf 5 = 1 := by kernel_rfl
theorem z9 : zeroCells? P 9 = some [.str 0 0] := by kernel_rfl
theorem b9 : P.bytesOf 9 = 16 := by kernel_rfl
theorem z21 : zeroCells? P 21 = some [.int .i32 0] := by kernel_rfl
theorem b21 : P.bytesOf 21 = 4 := by kernel_rfl
theorem z22 : zeroCells? P 22 = some [.nils] := by kernel_rfl
theorem b22 : P.bytesOf 22 = 24 := by kernel_rfl
theorem z23 : zeroCells? P 23 = some [.nils] := by kernel_rfl
theorem b23 : P.bytesOf 23 = 24 := by kernel_rfl
theorem z24 : zeroCells? P 24 = some [.nils] := by kernel_rfl
theorem b24 : P.bytesOf 24 = 24 := by kernel_rfl
theorem z26 : zeroCells? P 26 = some [.str 0 0, .nils, .nils, .int .i64 0, .nils] := by kernel_rfl
theorem b26 : P.bytesOf 26 = 96 := by kernel_rfl
theorem z29 : zeroCells? P 29 = some [.nils] := by kernel_rfl
theorem b29 : P.bytesOf 29 = 24 := by kernel_rfl
theorem z30 : zeroCells? P 30 = some [.int .i64 0] := by kernel_rfl
theorem b30 : P.bytesOf 30 = 8 := by kernel_rfl
theorem z42 : zeroCells? P 42 = some [.int .u32 0] := by kernel_rfl
theorem b42 : P.bytesOf 42 = 4 := by kernel_rfl
theorem z56 : zeroCells? P 56 = some [.nils] := by kernel_rfl
theorem b56 : P.bytesOf 56 = 24 := by kernel_rfl
theorem z70 : zeroCells? P 70 = some [.str 0 0, .bool false] := by kernel_rfl
theorem b70 : P.bytesOf 70 = 24 := by kernel_rfl
theorem z72 : zeroCells? P 72 = some [.str 0 0, .int .i64 0] := by kernel_rfl
theorem b72 : P.bytesOf 72 = 24 := by kernel_rfl
theorem z74 : zeroCells? P 74 = some [.int .i64 0, .int .i64 0, .int .i64 0, .int .i64 0, .int .i64 0, .int .i32 0, .int .i64 0, .int .i64 0] := by kernel_rfl
theorem b74 : P.bytesOf 74 = 64 := by kernel_rfl
theorem z80 : zeroCells? P 80 = some [.bool false, .bool false, .bool false, .bool false, .bool false, .bool false, .bool false, .bool false, .bool false, .bool false, .bool false, .int .i64 0] := by kernel_rfl
theorem b80 : P.bytesOf 80 = 24 := by kernel_rfl
theorem b81 : P.bytesOf 81 = 384 := by kernel_rfl
theorem z92 : zeroCells? P 92 = some [.nils, .bool false] := by kernel_rfl
theorem b92 : P.bytesOf 92 = 32 := by kernel_rfl
theorem z95 : zeroCells? P 95 = some [.nils, .int .i64 0, .bool false] := by kernel_rfl
theorem b95 : P.bytesOf 95 = 40 := by kernel_rfl
theorem z100 : zeroCells? P 100 = some [.nils] := by kernel_rfl
theorem b100 : P.bytesOf 100 = 24 := by kernel_rfl
theorem z109 : zeroCells? P 109 = some [.nils] := by kernel_rfl
theorem b109 : P.bytesOf 109 = 24 := by kernel_rfl
theorem z140 : zeroCells? P 140 = some [.nils] := by kernel_rfl
theorem b140 : P.bytesOf 140 = 24 := by kernel_rfl
theorem b150 : P.bytesOf 150 = 8 := by kernel_rfl
theorem z196 : zeroCells? P 196 = some [.int .u64 0] := by kernel_rfl
theorem b196 : P.bytesOf 196 = 8 := by kernel_rfl
theorem z225 : zeroCells? P 225 = some [.int .u64 0] := by kernel_rfl
theorem b225 : P.bytesOf 225 = 8 := by kernel_rfl
noncomputable def z81c : List HVal := repl 16 [.bool false, .bool false, .bool false, .bool false, .bool false, .bool false, .bool false, .bool false, .bool false, .bool false, .bool false, .int .i64 0]
theorem z81 : zeroCells? P 81 = some z81c := by kernel_rfl
noncomputable def zl : List (Nat × List HVal) := [(3, [.int .i64 0]), (4, [.bool false]), (5, [.int .u8 0]), (9, [.str 0 0]), (21, [.int .i32 0]), (22, [.nils]), (23, [.nils]), (24, [.nils]), (26, [.str 0 0, .nils, .nils, .int .i64 0, .nils]), (29, [.nils]), (30, [.int .i64 0]), (42, [.int .u32 0]), (56, [.nils]), (70, [.str 0 0, .bool false]), (72, [.str 0 0, .int .i64 0]), (74, [.int .i64 0, .int .i64 0, .int .i64 0, .int .i64 0, .int .i64 0, .int .i32 0, .int .i64 0, .int .i64 0]), (80, [.bool false, .bool false, .bool false, .bool false, .bool false, .bool false, .bool false, .bool false, .bool false, .bool false, .bool false, .int .i64 0]), (92, [.nils, .bool false]), (95, [.nils, .int .i64 0, .bool false]), (100, [.nils]), (109, [.nils]), (140, [.nils]), (196, [.int .u64 0]), (225, [.int .u64 0]), (81, z81c)]
theorem hX : TK P tab zl := ⟨hT, z3, z4, z5, z9, z21, z22, z23, z24, z26, z29, z30, z42, z56, z70, z72, z74, z80, z92, z95, z100, z109, z140, z196, z225, z81, trivial⟩
theorem i4 : ∃ inf, P.info? 4 = some inf := info_of_underlying (tab_bool hT (t := 4) rfl)
theorem i29 : ∃ inf, P.info? 29 = some inf := info_of_underlying (tab_slice hT (t := 29) rfl).1
theorem i3 : ∃ inf, P.info? 3 = some inf := info_of_underlying (tab_int hT (t := 3) rfl)
theorem mask4 : Nat.lor (maskOf Go.Proofs.Tryz.f4) (Nat.sub (Nat.pow 2 1) 1) = 637 := by kernel_rfl
theorem ca4 : Callable P 4 := ⟨_, _, Go.Proofs.Tryz.func4, rfl, by kernel_rfl, rfl⟩
theorem mask13 : Nat.lor (maskOf Go.Proofs.Tryz.f13) (Nat.sub (Nat.pow 2 1) 1) = 142816254623935 := by kernel_rfl
theorem ca13 : Callable P 13 := ⟨_, _, Go.Proofs.Tryz.func13, rfl, by kernel_rfl, rfl⟩
theorem mask14 : Nat.lor (maskOf Go.Proofs.Tryz.f14) (Nat.sub (Nat.pow 2 1) 1) = 1267650600228229402733653787135 := by kernel_rfl
theorem ca14 : Callable P 14 := ⟨_, _, Go.Proofs.Tryz.func14, rfl, by kernel_rfl, rfl⟩
theorem mask15 : Nat.lor (maskOf Go.Proofs.Tryz.f15) (Nat.sub (Nat.pow 2 2) 1) = 33571891 := by kernel_rfl
theorem ca15 : Callable P 15 := ⟨_, _, Go.Proofs.Tryz.func15, rfl, by kernel_rfl, rfl⟩
theorem mask16 : Nat.lor (maskOf Go.Proofs.Tryz.f16) (Nat.sub (Nat.pow 2 1) 1) = 288731787813781757 := by kernel_rfl
theorem ca16 : Callable P 16 := ⟨_, _, Go.Proofs.Tryz.func16, rfl, by kernel_rfl, rfl⟩
theorem mask17 : Nat.lor (maskOf Go.Proofs.Tryz.f17) (Nat.sub (Nat.pow 2 1) 1) = 2787763290999788439294949214951408700293117 := by kernel_rfl
theorem ca17 : Callable P 17 := ⟨_, _, Go.Proofs.Tryz.func17, rfl, by kernel_rfl, rfl⟩
theorem mask18 : Nat.lor (maskOf Go.Proofs.Tryz.f18) (Nat.sub (Nat.pow 2 2) 1) = 1153066640141713471 := by kernel_rfl
theorem ca18 : Callable P 18 := ⟨_, _, Go.Proofs.Tryz.func18, rfl, by kernel_rfl, rfl⟩
theorem mask10 : Nat.lor (maskOf Go.Proofs.Tryz.f10) (Nat.sub (Nat.pow 2 1) 1) = 158456325033140378797835555839 := by kernel_rfl
theorem ca10 : Callable P 10 := ⟨_, _, Go.Proofs.Tryz.func10, rfl, by kernel_rfl, rfl⟩
theorem mask28 : Nat.lor (maskOf Go.Proofs.Tryz.f28) (Nat.sub (Nat.pow 2 1) 1) = 70835501465177981715119 := by kernel_rfl
theorem ca28 : Callable P 28 := ⟨_, _, Go.Proofs.Tryz.func28, rfl, by kernel_rfl, rfl⟩
theorem mask29 : Nat.lor (maskOf Go.Proofs.Tryz.f29) (Nat.sub (Nat.pow 2 1) 1) = 268468477 := by kernel_rfl
theorem ca29 : Callable P 29 := ⟨_, _, Go.Proofs.Tryz.func29, rfl, by kernel_rfl, rfl⟩
theorem mask30 : Nat.lor (maskOf Go.Proofs.Tryz.f30) (Nat.sub (Nat.pow 2 1) 1) = 285 := by kernel_rfl
theorem ca30 : Callable P 30 := ⟨_, _, Go.Proofs.Tryz.func30, rfl, by kernel_rfl, rfl⟩
theorem mask34 : Nat.lor (maskOf Go.Proofs.Tryz.f34) (Nat.sub (Nat.pow 2 1) 1) = 4835705442439177032433839 := by kernel_rfl
theorem ca34 : Callable P 34 := ⟨_, _, Go.Proofs.Tryz.func34, rfl, by kernel_rfl, rfl⟩
theorem mask35 : Nat.lor (maskOf Go.Proofs.Tryz.f35) (Nat.sub (Nat.pow 2 0) 1) = 1 := by kernel_rfl
theorem ca35 : Callable P 35 := ⟨_, _, Go.Proofs.Tryz.func35, rfl, by kernel_rfl, rfl⟩
theorem mask36 : Nat.lor (maskOf Go.Proofs.Tryz.f36) (Nat.sub (Nat.pow 2 3) 1) = 17592186110463 := by kernel_rfl
theorem ca36 : Callable P 36 := ⟨_, _, Go.Proofs.Tryz.func36, rfl, by kernel_rfl, rfl⟩
theorem mask37 : Nat.lor (maskOf Go.Proofs.Tryz.f37) (Nat.sub (Nat.pow 2 3) 1) = 144255934154704839 := by kernel_rfl
theorem ca37 : Callable P 37 := ⟨_, _, Go.Proofs.Tryz.func37, rfl, by kernel_rfl, rfl⟩
theorem mask38 : Nat.lor (maskOf Go.Proofs.Tryz.f38) (Nat.sub (Nat.pow 2 1) 1) = 2427005 := by kernel_rfl
theorem ca38 : Callable P 38 := ⟨_, _, Go.Proofs.Tryz.func38, rfl, by kernel_rfl, rfl⟩
theorem mask39 : Nat.lor (maskOf Go.Proofs.Tryz.f39) (Nat.sub (Nat.pow 2 2) 1) = 19 := by kernel_rfl
theorem ca39 : Callable P 39 := ⟨_, _, Go.Proofs.Tryz.func39, rfl, by kernel_rfl, rfl⟩
theorem mask40 : Nat.lor (maskOf Go.Proofs.Tryz.f40) (Nat.sub (Nat.pow 2 1) 1) = 1082423 := by kernel_rfl
theorem ca40 : Callable P 40 := ⟨_, _, Go.Proofs.Tryz.func40, rfl, by kernel_rfl, rfl⟩
theorem mask41 : Nat.lor (maskOf Go.Proofs.Tryz.f41) (Nat.sub (Nat.pow 2 2) 1) = 550292947679 := by kernel_rfl
theorem ca41 : Callable P 41 := ⟨_, _, Go.Proofs.Tryz.func41, rfl, by kernel_rfl, rfl⟩
theorem mask42 : Nat.lor (maskOf Go.Proofs.Tryz.f42) (Nat.sub (Nat.pow 2 2) 1) = 134220863 := by kernel_rfl
theorem ca42 : Callable P 42 := ⟨_, _, Go.Proofs.Tryz.func42, rfl, by kernel_rfl, rfl⟩
theorem mask43 : Nat.lor (maskOf Go.Proofs.Tryz.f43) (Nat.sub (Nat.pow 2 1) 1) = 1208925824118228869193725 := by kernel_rfl
theorem ca43 : Callable P 43 := ⟨_, _, Go.Proofs.Tryz.func43, rfl, by kernel_rfl, rfl⟩
theorem mask44 : Nat.lor (maskOf Go.Proofs.Tryz.f44) (Nat.sub (Nat.pow 2 1) 1) = 1074266237 := by kernel_rfl
theorem ca44 : Callable P 44 := ⟨_, _, Go.Proofs.Tryz.func44, rfl, by kernel_rfl, rfl⟩
theorem mask45 : Nat.lor (maskOf Go.Proofs.Tryz.f45) (Nat.sub (Nat.pow 2 2) 1) = 17179869203 := by kernel_rfl
theorem ca45 : Callable P 45 := ⟨_, _, Go.Proofs.Tryz.func45, rfl, by kernel_rfl, rfl⟩
theorem mask46 : Nat.lor (maskOf Go.Proofs.Tryz.f46) (Nat.sub (Nat.pow 2 2) 1) = 33571891 := by kernel_rfl
theorem ca46 : Callable P 46 := ⟨_, _, Go.Proofs.Tryz.func46, rfl, by kernel_rfl, rfl⟩
theorem mask47 : Nat.lor (maskOf Go.Proofs.Tryz.f47) (Nat.sub (Nat.pow 2 2) 1) = 33571891 := by kernel_rfl
theorem ca47 : Callable P 47 := ⟨_, _, Go.Proofs.Tryz.func47, rfl, by kernel_rfl, rfl⟩
theorem mask64 : Nat.lor (maskOf Go.Proofs.Tryz.f64) (Nat.sub (Nat.pow 2 2) 1) = 1073873139 := by kernel_rfl
theorem ca64 : Callable P 64 := ⟨_, _, Go.Proofs.Tryz.func64, rfl, by kernel_rfl, rfl⟩
theorem mask65 : Nat.lor (maskOf Go.Proofs.Tryz.f65) (Nat.sub (Nat.pow 2 2) 1) = 2003 := by kernel_rfl
theorem ca65 : Callable P 65 := ⟨_, _, Go.Proofs.Tryz.func65, rfl, by kernel_rfl, rfl⟩
theorem mask66 : Nat.lor (maskOf Go.Proofs.Tryz.f66) (Nat.sub (Nat.pow 2 2) 1) = 2003 := by kernel_rfl
theorem ca66 : Callable P 66 := ⟨_, _, Go.Proofs.Tryz.func66, rfl, by kernel_rfl, rfl⟩
theorem mask67 : Nat.lor (maskOf Go.Proofs.Tryz.f67) (Nat.sub (Nat.pow 2 1) 1) = 1005 := by kernel_rfl
theorem ca67 : Callable P 67 := ⟨_, _, Go.Proofs.Tryz.func67, rfl, by kernel_rfl, rfl⟩
theorem mask78 : Nat.lor (maskOf Go.Proofs.Tryz.f78) (Nat.sub (Nat.pow 2 1) 1) = 2208301069 := by kernel_rfl
theorem ca78 : Callable P 78 := ⟨_, _, Go.Proofs.Tryz.func78, rfl, by kernel_rfl, rfl⟩
theorem mask79 : Nat.lor (maskOf Go.Proofs.Tryz.f79) (Nat.sub (Nat.pow 2 1) 1) = 21 := by kernel_rfl
theorem ca79 : Callable P 79 := ⟨_, _, Go.Proofs.Tryz.func79, rfl, by kernel_rfl, rfl⟩
theorem mask80 : Nat.lor (maskOf Go.Proofs.Tryz.f80) (Nat.sub (Nat.pow 2 3) 1) = 327 := by kernel_rfl
theorem ca80 : Callable P 80 := ⟨_, _, Go.Proofs.Tryz.func80, rfl, by kernel_rfl, rfl⟩
theorem mask81 : Nat.lor (maskOf Go.Proofs.Tryz.f81) (Nat.sub (Nat.pow 2 3) 1) = 141012366329055 := by kernel_rfl
theorem ca81 : Callable P 81 := ⟨_, _, Go.Proofs.Tryz.func81, rfl, by kernel_rfl, rfl⟩
theorem mask82 : Nat.lor (maskOf Go.Proofs.Tryz.f82) (Nat.sub (Nat.pow 2 3) 1) = 9223372328948203975 := by kernel_rfl
theorem ca82 : Callable P 82 := ⟨_, _, Go.Proofs.Tryz.func82, rfl, by kernel_rfl, rfl⟩
theorem mask83 : Nat.lor (maskOf Go.Proofs.Tryz.f83) (Nat.sub (Nat.pow 2 2) 1) = 131635 := by kernel_rfl
theorem ca83 : Callable P 83 := ⟨_, _, Go.Proofs.Tryz.func83, rfl, by kernel_rfl, rfl⟩
theorem mask84 : Nat.lor (maskOf Go.Proofs.Tryz.f84) (Nat.sub (Nat.pow 2 2) 1) = 4211827 := by kernel_rfl
theorem ca84 : Callable P 84 := ⟨_, _, Go.Proofs.Tryz.func84, rfl, by kernel_rfl, rfl⟩
theorem mask85 : Nat.lor (maskOf Go.Proofs.Tryz.f85) (Nat.sub (Nat.pow 2 4) 1) = 148150413342516709135 := by kernel_rfl
theorem ca85 : Callable P 85 := ⟨_, _, Go.Proofs.Tryz.func85, rfl, by kernel_rfl, rfl⟩
theorem mask86 : Nat.lor (maskOf Go.Proofs.Tryz.f86) (Nat.sub (Nat.pow 2 1) 1) = 8590459133 := by kernel_rfl
theorem ca86 : Callable P 86 := ⟨_, _, Go.Proofs.Tryz.func86, rfl, by kernel_rfl, rfl⟩
theorem mask87 : Nat.lor (maskOf Go.Proofs.Tryz.f87) (Nat.sub (Nat.pow 2 2) 1) = 8388659 := by kernel_rfl
theorem ca87 : Callable P 87 := ⟨_, _, Go.Proofs.Tryz.func87, rfl, by kernel_rfl, rfl⟩
theorem mask88 : Nat.lor (maskOf Go.Proofs.Tryz.f88) (Nat.sub (Nat.pow 2 1) 1) = 5 := by kernel_rfl
theorem ca88 : Callable P 88 := ⟨_, _, Go.Proofs.Tryz.func88, rfl, by kernel_rfl, rfl⟩
theorem mask148 : Nat.lor (maskOf Go.Proofs.Tryz.f148) (Nat.sub (Nat.pow 2 1) 1) = 5 := by kernel_rfl
theorem ca148 : Callable P 148 := ⟨_, _, Go.Proofs.Tryz.func148, rfl, by kernel_rfl, rfl⟩
theorem mask149 : Nat.lor (maskOf Go.Proofs.Tryz.f149) (Nat.sub (Nat.pow 2 0) 1) = 491 := by kernel_rfl
theorem ca149 : Callable P 149 := ⟨_, _, Go.Proofs.Tryz.func149, rfl, by kernel_rfl, rfl⟩
theorem mask150 : Nat.lor (maskOf Go.Proofs.Tryz.f150) (Nat.sub (Nat.pow 2 1) 1) = 5 := by kernel_rfl
theorem ca150 : Callable P 150 := ⟨_, _, Go.Proofs.Tryz.func150, rfl, by kernel_rfl, rfl⟩
theorem mask152 : Nat.lor (maskOf Go.Proofs.Tryz.f152) (Nat.sub (Nat.pow 2 2) 1) = 87 := by kernel_rfl
theorem ca152 : Callable P 152 := ⟨_, _, Go.Proofs.Tryz.func152, rfl, by kernel_rfl, rfl⟩
theorem mask153 : Nat.lor (maskOf Go.Proofs.Tryz.f153) (Nat.sub (Nat.pow 2 1) 1) = 5 := by kernel_rfl
theorem ca153 : Callable P 153 := ⟨_, _, Go.Proofs.Tryz.func153, rfl, by kernel_rfl, rfl⟩
theorem mask154 : Nat.lor (maskOf Go.Proofs.Tryz.f154) (Nat.sub (Nat.pow 2 1) 1) = 21 := by kernel_rfl
theorem ca154 : Callable P 154 := ⟨_, _, Go.Proofs.Tryz.func154, rfl, by kernel_rfl, rfl⟩
theorem mask146 : Nat.lor (maskOf Go.Proofs.Tryz.f146) (Nat.sub (Nat.pow 2 1) 1) = 5 := by kernel_rfl
theorem ca146 : Callable P 146 := ⟨_, _, Go.Proofs.Tryz.func146, rfl, by kernel_rfl, rfl⟩
theorem mask147 : Nat.lor (maskOf Go.Proofs.Tryz.f147) (Nat.sub (Nat.pow 2 1) 1) = 5 := by kernel_rfl
theorem ca147 : Callable P 147 := ⟨_, _, Go.Proofs.Tryz.func147, rfl, by kernel_rfl, rfl⟩
theorem mask151 : Nat.lor (maskOf Go.Proofs.Tryz.f151) (Nat.sub (Nat.pow 2 1) 1) = 10813 := by kernel_rfl
theorem ca151 : Callable P 151 := ⟨_, _, Go.Proofs.Tryz.func151, rfl, by kernel_rfl, rfl⟩
theorem mask241 : Nat.lor (maskOf Go.Proofs.Tryz.f241) (Nat.sub (Nat.pow 2 1) 1) = 5 := by kernel_rfl
theorem ca241 : Callable P 241 := ⟨_, _, Go.Proofs.Tryz.func241, rfl, by kernel_rfl, rfl⟩
theorem mask242 : Nat.lor (maskOf Go.Proofs.Tryz.f242) (Nat.sub (Nat.pow 2 1) 1) = 4229133 := by kernel_rfl
theorem ca242 : Callable P 242 := ⟨_, _, Go.Proofs.Tryz.func242, rfl, by kernel_rfl, rfl⟩
theorem mask243 : Nat.lor (maskOf Go.Proofs.Tryz.f243) (Nat.sub (Nat.pow 2 0) 1) = 1 := by kernel_rfl
theorem ca243 : Callable P 243 := ⟨_, _, Go.Proofs.Tryz.func243, rfl, by kernel_rfl, rfl⟩
theorem mask244 : Nat.lor (maskOf Go.Proofs.Tryz.f244) (Nat.sub (Nat.pow 2 1) 1) = 10813 := by kernel_rfl
theorem ca244 : Callable P 244 := ⟨_, _, Go.Proofs.Tryz.func244, rfl, by kernel_rfl, rfl⟩
theorem mask310 : Nat.lor (maskOf Go.Proofs.Tryz.f310) (Nat.sub (Nat.pow 2 1) 1) = 5 := by kernel_rfl
theorem ca310 : Callable P 310 := ⟨_, _, Go.Proofs.Tryz.func310, rfl, by kernel_rfl, rfl⟩
theorem mask312 : Nat.lor (maskOf Go.Proofs.Tryz.f312) (Nat.sub (Nat.pow 2 1) 1) = 5 := by kernel_rfl
theorem ca312 : Callable P 312 := ⟨_, _, Go.Proofs.Tryz.func312, rfl, by kernel_rfl, rfl⟩
theorem mask314 : Nat.lor (maskOf Go.Proofs.Tryz.f314) (Nat.sub (Nat.pow 2 1) 1) = 5 := by kernel_rfl
theorem ca314 : Callable P 314 := ⟨_, _, Go.Proofs.Tryz.func314, rfl, by kernel_rfl, rfl⟩
end Em
end
end Go.HL
namespace Go.HL
open Go
noncomputable section
namespace Em
/-- the words that are no names -/
def wordList : List (Nat × Nat) := [(4, 1718972003), (6, 118083455706476), (6, 108256368682354), (3, 6909556), (6, 126892148680036), (3, 7103860), (2, 26982), (4, 1701606245), (5, 512852847717), (5, 422826041707), (8, 7165066978433856869), (6, 125780071117422), (7, 27691691891320178), (6, 107152713541987), (7, 27988534160089972), (3, 7629156), (3, 6449508), (3, 6580589), (4, 1735551332), (3, 7170414), (3, 7168376), (3, 6382692), (3, 6385252), (2, 28530), (3, 7892850)]
def wordsObj : HObj := .map (wordList.zipIdx.map fun p => ⟨strKey p.1, .bool true, p.2⟩) 25 true
/-- what is known beforehand: 8 and 149 alone; base: what must lie in the memory -/
structure KN (base : List (Nat × HObj)) (K : CallFn) : Prop where
  none : ∀ f, Nat.beq f 8 = false → Nat.beq f 149 = false → ∀ a h, K f a h = none
  words : ∀ h, (lies base).holds h → K 149 [] h = some (.ret (.map h.next), h.new wordsObj)
  awake : ∀ h, (lies base).holds h → K 8 [] h = some (.ret (.bool true), h)
/-- words as cells -/
def wcell (n : Nat) : List HVal := [.int .u32 (n : Int)]
/-- the words that are left -/
def words (v : HVal) (l : List Nat) : Part := frd v 1 (l.map wcell)
end Em
end
end Go.HL
