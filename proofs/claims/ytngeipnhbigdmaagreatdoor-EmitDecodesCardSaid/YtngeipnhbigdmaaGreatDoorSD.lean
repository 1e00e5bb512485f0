/- Runs of HL with an argument that is not closed: more rules. No statement of the seat stands here. -/
import Derived.Test.YtngeipnhbigdmaaGreatDoorSC
set_option linter.unusedVariables false
set_option linter.unusedSimpArgs false
namespace Go.HL
open Go
noncomputable section
theorem wrapF_u32 (n : Int) : wrapF .u32 n = n % 4294967296 := by
  rw [wrapF_eq]
  simp [IntKind.wrap, IntKind.bits, IntKind.signed]
theorem wrapF_u8 (n : Int) : wrapF .u8 n = n % 256 := by
  rw [wrapF_eq]
  simp [IntKind.wrap, IntKind.bits, IntKind.signed]
theorem wrapF_u64 (n : Int) : wrapF .u64 n = n % 18446744073709551616 := by
  rw [wrapF_eq]
  simp [IntKind.wrap, IntKind.bits, IntKind.signed]
section
variable {P : Program} {K : CallFn} {ops : Array Oper} {o : Oper} {L : Sts} {h h' : Heap} {m n : Nat} {R : Sts → Heap → Prop} {tab : Tab} {v : HVal}
/-- two numbers: what the operation gives -/
theorem V.bin {op : BinOp} {t p : Nat} {x y : Operand} {k j : IntKind} {a b : Int} (ho : o.op = .binOp op t x y p) (hx : evL P L x = some (.int k a)) (hy : evL P L y = some (.int j b)) (hr : binH P op t (.int k a) (.int j b) = some v) : OpV P o L h v h := OpV.mk ho fun ev ha d ty ps aft g => by
  simp only [opH, evL_sound ha hx, evL_sound ha hy, binC, hr, HL.val, ob_some]
/-- a number turned into another kind -/
theorem V.convW {s t n m : Nat} {x : Operand} {k j k' : IntKind} {a b : Int} (hT : tabOk P tab = true) (ho : o.op = .convert s t x) (hs : tyL tab s = some (.int k, n)) (ht : tyL tab t = some (.int k', m)) (hx : evL P L x = some (.int j a)) (hr : wrapF k' a = b) : OpV P o L h (.int k' b) h := OpV.mk ho fun ev ha d ty ps aft g => by
  have e1 := tab_int hT hs
  have e2 := tab_int hT ht
  have e3 : toBytes P s t = none := by simp only [toBytes, e1]
  simp only [opH, e3, convH, e1, e2, evL_sound ha hx, HVal.isInt, ob_some, hr]
end
theorem bin_mul {P : Program} {t : Nat} {k : IntKind} {a b : Int} : binH P .mul t (.int k a) (.int k b) = some (.int k (wrapF k (a * b))) := by
  cases k <;> rfl
theorem bin_add {P : Program} {t : Nat} {k : IntKind} {a b : Int} : binH P .add t (.int k a) (.int k b) = some (.int k (wrapF k (a + b))) := by
  cases k <;> rfl
theorem bin_sub {P : Program} {t : Nat} {k : IntKind} {a b : Int} : binH P .sub t (.int k a) (.int k b) = some (.int k (wrapF k (a - b))) := by
  cases k <;> rfl
theorem bin_rem {P : Program} {t : Nat} {k : IntKind} {a b : Nat} (hb : b ≠ 0) : binH P .rem t (.int k (a : Int)) (.int k (b : Int)) = some (.int k ((a % b : Nat) : Int)) := by
  have h : ieq (b : Int) (.ofNat 0) = false := by
    cases b with
    | zero => exact absurd rfl hb
    | succ b => rfl
  have e : binH P .rem t (.int k (a : Int)) (.int k (b : Int)) = bcase (ieq (b : Int) (.ofNat 0)) none (some (.int k (Int.tmod a b))) := by cases k <;> rfl
  rw [e, h, bcase_false]
  rfl
theorem bin_shl {P : Program} {t : Nat} {k j : IntKind} {a : Int} {b : Nat} : binH P .shl t (.int k a) (.int j (b : Int)) = some (.int k (wrapF k (a * ((2 ^ min b k.bits : Nat) : Int)))) := rfl
theorem bin_shr {P : Program} {t : Nat} {k j : IntKind} {a b : Nat} : binH P .shr t (.int k (a : Int)) (.int j (b : Int)) = some (.int k ((a / 2 ^ min b k.bits : Nat) : Int)) := by
  have e : binH P .shr t (.int k (a : Int)) (.int j (b : Int)) = some (.int k (Int.fdiv (a : Int) ((2 ^ min b k.bits : Nat) : Int))) := rfl
  rw [e, Int.fdiv_eq_ediv_of_nonneg _ (Int.natCast_nonneg _), Int.natCast_ediv]
theorem bin_quo {P : Program} {t : Nat} {k : IntKind} {a b : Nat} (hb : b ≠ 0) : binH P .quo t (.int k (a : Int)) (.int k (b : Int)) = some (.int k (wrapF k ((a / b : Nat) : Int))) := by
  have h : ieq (b : Int) (.ofNat 0) = false := by
    cases b with
    | zero => exact absurd rfl hb
    | succ b => rfl
  have e : binH P .quo t (.int k (a : Int)) (.int k (b : Int)) = bcase (ieq (b : Int) (.ofNat 0)) none (some (.int k (wrapF k (Int.tdiv a b)))) := by cases k <;> rfl
  rw [e, h, bcase_false]
  rfl
theorem toU_u32 {a : Nat} (h : a < 4294967296) : toU .u32 (a : Int) = a := by
  show (((a : Int) % ((2 ^ 32 : Int))).toNat) = a
  omega
/-- bits laid above those that are there -/
theorem bin_or32 {P : Program} {t a x i : Nat} (ha : a < 2 ^ i) (hx : 2 ^ i * x < 4294967296) (hs : 2 ^ i * x + a < 4294967296) : binH P .or t (.int .u32 (a : Int)) (.int .u32 ((2 ^ i * x : Nat) : Int)) = some (.int .u32 ((2 ^ i * x + a : Nat) : Int)) := by
  have e : binH P .or t (.int .u32 (a : Int)) (.int .u32 ((2 ^ i * x : Nat) : Int)) = some (.int .u32 (IntKind.wrap .u32 (Int.ofNat (Nat.lor (toU .u32 (a : Int)) (toU .u32 ((2 ^ i * x : Nat) : Int)))))) := rfl
  have e2 : Nat.lor a (2 ^ i * x) = 2 ^ i * x + a := by
    show a ||| 2 ^ i * x = _
    rw [Nat.two_pow_add_eq_or_of_lt ha, Nat.or_comm]
  rw [e, toU_u32 (by omega), toU_u32 hx, e2, ← wrapF_eq, wrapF_u32]
  congr 2
  simp only [Int.ofNat_eq_natCast]
  omega
end
end Go.HL
namespace Go.HL
open Go
noncomputable section
/-- a slice of which the block's element type is not known -/
inductive FreeAt (h : Heap) : HVal → Prop
  | nils : FreeAt h .nils
  | empty : FreeAt h .empty
  | slice (k off c : Nat) (l : List HVal) (s r : Bool) (hg : h.get k = some (.cells l 0 s r)) : FreeAt h (.slice k off c none)
theorem FreeAt.grow {h h' : Heap} {v : HVal} (g : Grow h h') : FreeAt h v → FreeAt h' v
  | .nils => .nils
  | .empty => .empty
  | .slice k off c l s r hg => .slice k off c l s r (g.get hg)
section
variable {P : Program} {K : CallFn} {ops : Array Oper} {o : Oper} {L : Sts} {h h' : Heap} {m n : Nat} {R : Sts → Heap → Prop} {tab : Tab}
theorem Op1.sliceLo {t e w q j : Nat} {i : TI} {x y : Operand} {v : HVal} {rows : List (List HVal)} (hT : tabOk P tab = true) (ho : o.op = .slice t x (some y) none none) (ht : tyL tab t = some (.slice e, q)) (he : tyL tab e = some (i, w)) (hne : Nat.beq 0 e = false)
    (hx : evL P L x = some v) (hy : evL P L y = some (.int .i64 (.ofNat j))) (hl : FreeAt h v) (hs : SliceAt h v w rows) (h0 : 0 < rows.length) (hj : j ≤ rows.length) (hw : wantL ops o L = some true) (hf : fits o.dst n = true) (hr : ∀ v', FreeAt h v' → SliceAt h v' w (rows.drop j) → R (putD? o.dst v' L) h) : Op1 P K ops o L h m n R := by
  have hslice := (tab_slice hT ht).1
  obtain ⟨inf, hinf⟩ := (tab_slice hT ht).2
  have hel : elemOk P t = true := by simp only [elemOk, hslice, hinf]
  have hop : ∀ {v' : HVal}, sliceH P h t v (some (.int .i64 (.ofNat j))) none none = some v' → OpV P o L h v' h := fun {v'} e => OpV.mk ho fun ev ha d ty ps aft g => by
    simp only [opH, hel, bcase_true, evL_sound ha hx, Option.map_some, evL_sound ha hy, Option.map_none, e, HL.val, ob_some]
  have hb1 : ∀ y d, j ≤ y → boundO (some (.int .i64 (.ofNat j))) y d = some j := by
    intro y d hy
    have : Nat.ble j y = true := by rw [nble]; exact decide_eq_true hy
    show bcase (Nat.ble j y) (some j) none = some j
    rw [this]; rfl
  have hlen := hs.1
  cases hl with
  | nils => exact absurd (Option.some.inj hlen) (by omega)
  | empty => exact absurd (Option.some.inj hlen) (by omega)
  | slice k off c l s r hg =>
    have hc : c = rows.length := by simpa [lenV] using hlen
    subst hc
    have hcl := cells_get hg
    have hwid : P.cellsOf e = w := (tab_ok hT he).2
    by_cases hj0 : j = 0
    · subst hj0
      refine Op1.val (hop (v' := .slice k off (Nat.sub rows.length 0) none) ?_) hw hf (hr _ (.slice _ _ _ _ _ _ hg) ?_)
      · simp only [sliceH, hslice, hb1 _ _ (Nat.zero_le _)]; rfl
      · exact hs
    · have hjn : Nat.beq j 0 = false := by rw [nbeq]; exact decide_eq_false hj0
      by_cases hjl : j < rows.length
      · refine Op1.val (hop (v' := .slice k (Nat.add off (Nat.mul j w)) (Nat.sub rows.length j) none) ?_) hw hf (hr _ (.slice _ _ _ _ _ _ hg) ?_)
        · have hlt : Nat.blt j rows.length = true := by rw [nblt]; exact decide_eq_true hjl
          have hb2 : boundO none (topH P h k off rows.length e none) rows.length = some rows.length := rfl
          simp only [sliceH, hslice, hb1 _ _ hj, hb2, ob_some, hjn, bcase_false, hlt, bcase_true, hcl, hne, hwid]
          rfl
        · refine ⟨by simp [lenV], fun i' r' hr' => ?_⟩
          rw [List.getElem?_drop] at hr'
          obtain ⟨k', off', cap', e1, hrow⟩ := hs.2 _ _ hr'
          cases e1
          refine ⟨k, _, none, by rw [List.length_drop]; rfl, ?_⟩
          have : Nat.add (Nat.add off (Nat.mul j w)) (Nat.mul i' w) = Nat.add off (Nat.mul (j + i') w) := by
            simp only [Nat.add_eq, Nat.mul_eq, Nat.add_mul]; omega
          rw [this]; exact hrow
      · have hje : j = rows.length := by omega
        refine Op1.val (hop (v' := .empty) ?_) hw hf (hr _ .empty ?_)
        · have hlt : Nat.blt j rows.length = false := by rw [nblt]; exact decide_eq_false hjl
          have hq : Nat.beq j rows.length = true := by rw [nbeq]; exact decide_eq_true hje
          have hb2 : boundO none (topH P h k off rows.length e none) rows.length = some rows.length := rfl
          simp only [sliceH, hslice, hb1 _ _ hj, hb2, ob_some, hjn, bcase_false, hlt, hq, bcase_true, hcl, hne]
        · refine ⟨by rw [hje, List.drop_length]; rfl, fun i' r' hr' => ?_⟩
          rw [hje, List.drop_length] at hr'
          simp at hr'
end
end
end Go.HL
namespace Go.HL
open Go
noncomputable section
def byteCells (l : List Nat) : List HVal := l.map fun b => .int .u8 (.ofNat b)
def codeN (l : List Nat) (a : Nat) : Nat := l.foldl (fun a b => a * 256 + b) a
theorem bytesCode_cells : ∀ {l : List Nat} (a : Nat), (∀ x ∈ l, x < 256) → bytesCode (byteCells l) a = some (codeN l a)
  | [], a, _ => rfl
  | b :: l, a, h => by
    have hb : Nat.blt b 256 = true := by rw [nblt]; exact decide_eq_true (h b (by simp))
    show bcase (Nat.blt b 256) (bytesCode (byteCells l) (Nat.add (Nat.mul a 256) b)) none = _
    rw [hb, bcase_true, bytesCode_cells _ fun x hx => h x (by simp [hx])]
    rfl
theorem loadN_app {h : Heap} {e w c : Nat} {v : HVal} {l : List HVal} {d : Option Nat} (a : App h e w v c l d) {k off n : Nat} {cap : Option Nat} (hv : v = .slice k off n cap) : loadN h k off (n * w) = some l := by
  cases a with
  | nils => cases hv
  | @full _ _ _ _ L _ _ _ hg hl hd =>
    cases hv
    have h1 := congrArg List.length hd
    rw [List.length_take] at h1
    unfold loadN
    rw [cells_get hg, ob_some]
    show takeK (dropN _ _) _ some = _
    have h2 : c * w ≤ (List.drop off L).length := Nat.le_trans (by omega) (Nat.min_le_right (c * w) _)
    rw [dropN_eq, takeK_eq, if_pos h2, hd]
  | own hg hl hd =>
    cases hv
    have h1 := congrArg List.length hd
    rw [List.length_drop] at h1
    unfold loadN
    rw [cells_get hg, ob_some]
    show takeK (dropN _ _) _ some = _
    rw [dropN_eq, takeK_eq, hd, if_pos (by omega), List.take_of_length_le (by omega)]
  | rest hg => cases hv
variable {P : Program} {o : Oper} {L : Sts} {h : Heap} {tab : Tab}
/-- bytes that were appended, as a string -/
theorem V.strOf {s t e n m q : Nat} {x : Operand} {v : HVal} {bs : List Nat} {c : Nat} {d : Option Nat} {e' : Nat} (hT : tabOk P tab = true) (ho : o.op = .convert s t x) (hs : tyL tab s = some (.slice e, n)) (he : tyL tab e = some (.int .u8, q)) (ht : tyL tab t = some (.str, m)) (hx : evL P L x = some v)
    (hn : ∀ k, v ≠ .rest k) {l : List HVal} (ha : App h e' 1 v c l d) (hl : l = byteCells bs) (hb : ∀ b ∈ bs, b < 256) : OpV P o L h (.str bs.length (codeN bs 0)) h := OpV.mk ho fun ev hag dd ty ps aft g => by
  have e1 := (tab_slice hT hs).1
  have e2 := tab_int hT he
  have e3 := tab_str hT ht
  have e4 : toBytes P s t = none := by simp only [toBytes, e1]
  have hlen : bs.length = c := by have := ha.length; rw [hl] at this; simpa [byteCells] using this
  have hv : v = .nils ∨ ∃ k off cap, v = .slice k off c cap := by
    cases ha with
    | nils => exact .inl rfl
    | full _ _ _ => exact .inr ⟨_, _, _, rfl⟩
    | own _ _ _ => exact .inr ⟨_, _, _, rfl⟩
    | rest _ => exact absurd rfl (hn _)
  rcases hv with rfl | ⟨k, off, cap, rfl⟩
  · have hz : bs = [] := by
      cases ha with
      | nils => simpa [byteCells] using hl.symm
    subst hz
    simp only [opH, e4, convH, e1, e2, e3, evL_sound hag hx]
    rfl
  · have h2 := loadN_app ha rfl
    rw [Nat.mul_one, hl] at h2
    simp only [opH, e4, convH, e1, e2, e3, evL_sound hag hx, h2, ob_some, bytesCode_cells 0 hb, hlen]
end
end Go.HL
namespace Go.HL
open Go
noncomputable section
theorem wrapF_u64_nat {n : Nat} (h : n < 18446744073709551616) : wrapF .u64 (n : Int) = (n : Int) := by rw [wrapF_u64]; omega
theorem wrapF_u32_nat {n : Nat} (h : n < 4294967296) : wrapF .u32 (n : Int) = (n : Int) := by rw [wrapF_u32]; omega
theorem wrapF_u8_nat {n : Nat} : wrapF .u8 (n : Int) = ((n % 256 : Nat) : Int) := by rw [wrapF_u8]; omega
theorem wrapF_i64_nat {n : Nat} (h : n < 9223372036854775808) : wrapF .i64 (n : Int) = (n : Int) := wrapF_i64 (by omega) (by omega)
variable {P : Program} {K : CallFn} {ops : Array Oper} {o : Oper} {L : Sts} {h h' : Heap} {m n : Nat} {R : Sts → Heap → Prop} {tab : Tab}
theorem V.nilCheck {x : Operand} {k off : Nat} (ho : o.op = .nilCheck x) (hx : evL P L x = some (.ptr k off)) : OpV P o L h (.ptr k off) h := OpV.mk ho fun ev ha d ty ps aft g => by
  simp only [opH, evL_sound ha hx]
end
end Go.HL
