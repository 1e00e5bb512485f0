/- Runs of HL, the state known by signs: rules by operation, code, call, region. No statement of the seat stands here. -/
import Derived.Test.YtolkehkjhpnioaaGreatDoorXA
set_option linter.unusedVariables false
set_option linter.unusedSimpArgs false
namespace Go.HL
open Go
noncomputable section
def OutX (E : Env0) (R : SL → List Blk → List Part → Prop) (L1 : Sts) (h1 : Heap) : Prop := ∃ κ L B G, RepL κ L L1 ∧ Mem E κ B G h1 ∧ R L B G
def OutP (E : Env0) (κ0 : PlX) (R : SL → List Blk → List Part → Prop) (L1 : Sts) (h1 : Heap) : Prop := ∃ κ L B G, (∃ t, κ = κ0 ++ t) ∧ RepL κ L L1 ∧ Mem E κ B G h1 ∧ R L B G
theorem pfx_refl (κ : PlX) : ∃ t, κ = κ ++ t := ⟨[], by simp⟩
def Fin (E : Env0) (B : List Blk) (G : List Part) (h : Heap) : Prop := ∃ κ, Mem E κ B G h
structure Op1X (P : Program) (K : CallFn) (E : Env0) (ops : Array Oper) (o : Oper) (L : SL) (B : List Blk) (G : List Part) (m n : Nat) (R : SL → List Blk → List Part → Prop) : Prop where
 run : ∀ κ h L0, RepL κ L L0 → Mem E κ B G h → Op1 P K ops o L0 h m n (OutP E κ R)
structure WOX (P : Program) (K : CallFn) (E : Env0) (ops : Array Oper) (l : List Oper) (L : SL) (B : List Blk) (G : List Part) (m n : Nat) (R : SL → List Blk → List Part → Prop) : Prop where
 run : ∀ κ h L0, RepL κ L L0 → Mem E κ B G h → WO P K ops l L0 h m n (OutX E R)
structure WCX (P : Program) (K : CallFn) (E : Env0) (c : Code) (L : SL) (B : List Blk) (G : List Part) (m n : Nat) (Q : Ex → St → Prop) : Prop where
 run : ∀ κ h L0, RepL κ L L0 → Mem E κ B G h → WC P K c L0 h m n Q
structure ToX (E : Env0) (Q : Ex → St → Prop) (e : Ex) (L : SL) (B : List Blk) (G : List Part) (m n : Nat) : Prop where
 run : ∀ κ h L0, RepL κ L L0 → Mem E κ B G h → To Q e L0 h m n
structure ThenX (E : Env0) (m n : Nat) (Q : Ex → St → Prop) (L : SL) (B : List Blk) (G : List Part) : Prop where
 run : ∃ L', keepX m L some = some L' ∧ ToX E Q .nrm L' B G m n
section
variable {P : Program} {K : CallFn} {E : Env0} {ops : Array Oper} {o : Oper} {l : List Oper} {L L' : SL} {B B' : List Blk} {G : List Part} {m n : Nat} {R : SL → List Blk → List Part → Prop} {Q : Ex → St → Prop} {a b c : Code}
theorem WO.mono {L : Sts} {h : Heap} {R R' : Sts → Heap → Prop} (w : WO P K ops l L h m n R) (hr : ∀ L h, R L h → R' L h) : WO P K ops l L h m n R' := ⟨fun s f => let ⟨s', L', h', a, b, c⟩ := w.run s f; ⟨s', L', h', a, b, hr _ _ c⟩⟩
theorem WOX.nil (hr : R L B G) : WOX P K E ops [] L B G m n R := ⟨fun κ _ _ r M => WO.nil ⟨κ, _, _, _, r, M, hr⟩⟩
theorem WOX.cons (ho : Op1X P K E ops o L B G m n fun L' B' G' => WOX P K E ops l L' B' G' m n R) : WOX P K E ops (o :: l) L B G m n R :=
 ⟨fun κ h L0 r M => WO.cons (Op1.mono (ho.run κ h L0 r M) fun _ _ ⟨κ', _, _, _, _, r', M', w⟩ => w.run κ' _ _ r' M')⟩
theorem ThenX.intro (hk : keepX m L some = some L') (g : ToX E Q .nrm L' B G m n) : ThenX E m n Q L B G := ⟨L', hk, g⟩
theorem WCX.g_ {id : Nat} (hw : WOX P K E ops ops.toList L B G m n (ThenX E m n Q)) : WCX P K E (.region id ops false) L B G m n Q := by
 refine ⟨fun κ h L0 r M => WC.region (WO.mono (hw.run κ h L0 r M) ?_)⟩
 rintro L1 h1 ⟨κ', L2, B2, G2, r2, M2, ⟨L3, hk, g⟩⟩
 obtain ⟨L4, L5, g1, g2, g3⟩ := keepX_eq r2 hk
 cases g1
 exact ⟨_, g2, g.run κ' _ _ g3 M2⟩
theorem WCX.s_ (hw : WCX P K E a L B G m n (afterSeq P K b Q)) : WCX P K E (.seq a b) L B G m n Q := ⟨fun κ h L0 r M => .seq (hw.run κ h L0 r M)⟩
theorem WCX.k_ (hw : ToX E Q .nrm L B G m n) : WCX P K E .skip L B G m n Q := ⟨fun κ h L0 r M => .skip (hw.run κ h L0 r M)⟩
theorem WCX.r_ (hw : ToX E Q .ret L B G m n) : WCX P K E .ret L B G m n Q := ⟨fun κ h L0 r M => .ret (hw.run κ h L0 r M)⟩
theorem WCX.e_ {id : Nat} (hw : ToX E Q (.exit id) L B G m n) : WCX P K E (.exit id) L B G m n Q := ⟨fun κ h L0 r M => .exit (hw.run κ h L0 r M)⟩
theorem WCX.b_ {id : Nat} (hw : WCX P K E a L B G m n (afterBlock id Q)) : WCX P K E (.block id a) L B G m n Q := ⟨fun κ h L0 r M => .block (hw.run κ h L0 r M)⟩
theorem WCX.t_ {x : Operand} (hx : evH P L x = some (.bool true)) (hw : WCX P K E a L B G m n Q) : WCX P K E (.cond x a b) L B G m n Q := ⟨fun κ h L0 r M => .cond_true (evH_eq r hx) (hw.run κ h L0 r M)⟩
theorem WCX.f_ {x : Operand} (hx : evH P L x = some (.bool false)) (hw : WCX P K E b L B G m n Q) : WCX P K E (.cond x a b) L B G m n Q := ⟨fun κ h L0 r M => .cond_false (evH_eq r hx) (hw.run κ h L0 r M)⟩
theorem ToX.a_ (hw : WCX P K E b L B G m n Q) : ToX E (afterSeq P K b Q) .nrm L B G m n := ⟨fun κ h L0 r M => .nrm_seq (hw.run κ h L0 r M)⟩
theorem ToX.e_ {id : Nat} (g : ToX E Q (.exit id) L B G m n) : ToX E (afterSeq P K b Q) (.exit id) L B G m n := ⟨fun κ h L0 r M => .exit_seq (g.run κ h L0 r M)⟩
theorem ToX.d_ (g : ToX E Q .ret L B G m n) : ToX E (afterSeq P K b Q) .ret L B G m n := ⟨fun κ h L0 r M => .ret_seq (g.run κ h L0 r M)⟩
theorem ToX.b_ {id : Nat} (g : ToX E Q .nrm L B G m n) : ToX E (afterBlock id Q) .nrm L B G m n := ⟨fun κ h L0 r M => .nrm_block (g.run κ h L0 r M)⟩
theorem ToX.f_ {id : Nat} (g : ToX E Q .ret L B G m n) : ToX E (afterBlock id Q) .ret L B G m n := ⟨fun κ h L0 r M => .ret_block (g.run κ h L0 r M)⟩
theorem ToX.c_ {id : Nat} (g : ToX E Q .nrm L B G m n) : ToX E (afterBlock id Q) (.exit id) L B G m n := ⟨fun κ h L0 r M => .exit_block (g.run κ h L0 r M)⟩
/-! ## Operations -/
def putX (d : Option Nat) (v : SV) (L : SL) : SL := match d with
 | none => L
 | some d => (d, v) :: L
theorem RepL.put {κ : PlX} {L0 : Sts} (r : RepL κ L L0) {v : SV} {w : HVal} (h : Rep κ v w) (d : Option Nat) : RepL κ (putX d v L) (putD? d w L0) := by
 cases d with
 | none => exact r
 | some d => exact .cons h r
variable {tab : Tab} {zl : List (Nat × List HVal)}
def stepQ (P : Program) (tab : Tab) (zl : List (Nat × List HVal)) (ops : Array Oper) (o : Oper) (L : SL) (B : List Blk) (n : Nat) : Option (SV × List Blk) :=
 bcase (fits o.dst n) (match wantX ops o L with
  | some true => evQ P tab zl L B o.op
  | some false => some (.ext undefH, B)
  | none => none) none
theorem Op1X.comp {sv : SV} (hw : wantX ops o L = some true) (hf : fits o.dst n = true) (hc : ∀ κ h L0, RepL κ L L0 → Mem E κ B G h → Comp P o L0 h E κ G sv B') (hr : R (putX o.dst sv L) B' G) : Op1X P K E ops o L B G m n R := by
 refine ⟨fun κ h L0 r M => ?_⟩
 obtain ⟨κ', v, h', hv, hrep, M', t, rfl⟩ := hc κ h L0 r M
 exact Op1.val hv (wantX_eq r hw) hf ⟨_, _, _, _, ⟨t, rfl⟩, r.more.put hrep o.dst, M', hr⟩
theorem Op1X.skip (hw : wantX ops o L = some false) (hf : fits o.dst n = true) (hr : R (putX o.dst (.ext undefH) L) B G) : Op1X P K E ops o L B G m n R := by
 refine ⟨fun κ h L0 r M => ?_⟩
 have hg : ∃ g, o.guard = some g := by
  unfold wantX at hw
  split at hw
  ·cases hw
  ·rename_i g hg; exact ⟨g, hg⟩
 obtain ⟨g, hg⟩ := hg
 exact Op1.skip hg (wantX_eq r hw) hf ⟨κ, _, _, _, pfx_refl κ, r.put (.ext _) o.dst, M, hr⟩
theorem stepQ_some {sv : SV} (h : stepQ P tab zl ops o L B n = some (sv, B')) : fits o.dst n = true ∧ (wantX ops o L = some true ∧ evQ P tab zl L B o.op = some (sv, B') ∨ wantX ops o L = some false ∧ sv = .ext undefH ∧ B' = B) := by
 unfold stepQ at h
 cases hf : fits o.dst n with
 | false => rw [hf] at h; cases h
 | true =>
  rw [hf, bcT] at h
  cases hw : wantX ops o L with
  | none => rw [hw] at h; cases h
  | some w =>
   rw [hw] at h
   cases w with
   | true => exact ⟨rfl, .inl ⟨rfl, h⟩⟩
   | false => cases h; exact ⟨rfl, .inr ⟨rfl, rfl, rfl⟩⟩
theorem q {sv : SV} (hX : TK P tab zl) (he : stepQ P tab zl ops o L B n = some (sv, B')) (hr : R (putX o.dst sv L) B' G) : Op1X P K E ops o L B G m n R := by
 obtain ⟨hf, ⟨hw, he⟩ | ⟨hw, rfl, rfl⟩⟩ := stepQ_some he
 ·exact .comp hw hf (fun κ h L0 r M => evQ_sound hX r M he) hr
 ·exact .skip hw hf hr
theorem qb {b : Bool} (hX : TK P tab zl) (he : stepQ P tab zl ops o L B n = some (.ext (.bool b), B')) (h1 : b = true → R (putX o.dst (.ext (.bool true)) L) B' G) (h0 : b = false → R (putX o.dst (.ext (.bool false)) L) B' G) : Op1X P K E ops o L B G m n R := by
 cases b with
 | true => exact q hX he (h1 rfl)
 | false => exact q hX he (h0 rfl)
def cmpP : BinOp → Int → Int → Option Prop
 | .eql, a, b => some (a = b)
 | .neq, a, b => some (¬ a = b)
 | .lss, a, b => some (a < b)
 | .leq, a, b => some (a ≤ b)
 | .gtr, a, b => some (b < a)
 | .geq, a, b => some (b ≤ a)
 | _, _, _ => none
def stepP (P : Program) (ops : Array Oper) (o : Oper) (L : SL) (n : Nat) : Option Prop :=
 bcase (fits o.dst n) (match wantX ops o L with
  | some true => match o.op with
   | .binOp bo _ x y _ => ob (evH P L x) fun a => ob (evH P L y) fun b => match a with
    | .int k a => match b with
     | .int j b => bcase (sameKind k j) (cmpP bo a b) none
     | _ => none
    | .str s c => match b with
     | .str s' c' => match bo with
      | .eql => some (s = s' ∧ c = c')
      | .neq => some (¬ (s = s' ∧ c = c'))
      | _ => none
     | _ => none
    | _ => none
   | _ => none
  | _ => none) none
theorem V.neqS {L : Sts} {h : Heap} {t p : Nat} {x y : Operand} {n c m d : Nat} (ho : o.op = .binOp .neq t x y p) (hx : evL P L x = some (.str n c)) (hy : evL P L y = some (.str m d)) : OpV P o L h (.bool (decide (¬ (n = m ∧ c = d)))) h := OpV.mk ho fun ev ha d ty ps aft g => by
 simp only [opH, evS ha hx, evS ha hy, binC, binH, strOp, HL.val, obS, sEq, nbeq, bcE]
 by_cases h1 : n = m <;> by_cases h2 : c = d <;> simp [h1, h2]
theorem qc {p : Prop} (he : stepP P ops o L n = some p) (h1 : p → R (putX o.dst (.ext (.bool true)) L) B G) (h0 : ¬ p → R (putX o.dst (.ext (.bool false)) L) B G) : Op1X P K E ops o L B G m n R := by
 classical
 have main : fits o.dst n = true ∧ wantX ops o L = some true ∧ ∀ κ h L0, RepL κ L L0 → ∃ d : Decidable p, OpV P o L0 h (.bool (@decide p d)) h := by
  unfold stepP at he
  cases hf : fits o.dst n with
  | false => rw [hf] at he; cases he
  | true =>
   rw [hf, bcT] at he
   split at he
   ·rename_i hw
    refine ⟨rfl, hw, fun κ h L0 r => ?_⟩
    split at he
    ·rename_i bo t x y pp ho
     obtain ⟨va, e1, e2⟩ := ob_eq_some.1 he
     obtain ⟨vb, e3, e4⟩ := ob_eq_some.1 e2
     have f1 := evH_eq r e1
     have f2 := evH_eq r e3
     split at e4
     ·split at e4
      ·obtain ⟨hk, e5⟩ := bcase_false_eq' e4
       cases bo <;> simp only [cmpP] at e5 <;> (try (cases e5; done)) <;> cases e5
       all_goals exact ⟨inferInstance, V.cmp ho f1 f2 hk rfl⟩
      ·cases e4
     ·split at e4
      ·cases bo <;> simp only at e4 <;> (try (cases e4; done)) <;> cases e4
       ·exact ⟨inferInstance, V.eqS ho f1 f2⟩
       ·exact ⟨inferInstance, V.neqS ho f1 f2⟩
      ·cases e4
     ·cases e4
    ·cases he
   ·cases he
 obtain ⟨hf, hw, hv⟩ := main
 refine ⟨fun κ h L0 r M => ?_⟩
 obtain ⟨d, hv⟩ := hv κ h L0 r
 by_cases hp : p
 ·have : @decide p d = true := decide_eq_true hp
  rw [this] at hv
  exact Op1.val hv (wantX_eq r hw) hf ⟨κ, _, _, _, pfx_refl κ, r.put (.ext _) o.dst, M, h1 hp⟩
 ·have : @decide p d = false := decide_eq_false hp
  rw [this] at hv
  exact Op1.val hv (wantX_eq r hw) hf ⟨κ, _, _, _, pfx_refl κ, r.put (.ext _) o.dst, M, h0 hp⟩
theorem qv {v : HVal} (hw : wantX ops o L = some true) (hf : fits o.dst n = true) (hv : ∀ κ h L0, RepL κ L L0 → Mem E κ B G h → OpV P o L0 h v h) (hr : R (putX o.dst (.ext v) L) B G) : Op1X P K E ops o L B G m n R :=
 .comp hw hf (fun κ h L0 r M => .same (hv κ h L0 r M) (.ext _) M) hr
def sumI : BinOp → Int → Int → Option Int
 | .add, a, b => some (a + b)
 | .sub, a, b => some (a - b)
 | .mul, a, b => some (a * b)
 | _, _, _ => none
theorem qa {bo : BinOp} {t p : Nat} {x y : Operand} {k j : IntKind} {a b c d : Int} (ho : o.op = .binOp bo t x y p) (hx : evH P L x = some (.int k a)) (hy : evH P L y = some (.int j b)) (hk : sameKind k j = true) (hs : sumI bo a b = some c) (hd : wrapF k c = d) (hw : wantX ops o L = some true) (hf : fits o.dst n = true) (hr : R (putX o.dst (.ext (.int k d)) L) B G) : Op1X P K E ops o L B G m n R := by
 refine qv hw hf (fun κ h L0 r M => ?_) hr
 have hk' := sameKind_eq hk
 subst hk'
 refine V.bin ho (evH_eq r hx) (evH_eq r hy) ?_
 cases bo <;> simp only [sumI] at hs <;> (try (cases hs; done)) <;> cases hs <;> rw [← hd]
 ·exact bin_add
 ·exact bin_sub
 ·exact bin_mul
theorem qn {bo : BinOp} {t p : Nat} {x y : Operand} {k j : IntKind} {a b : Int} {v : HVal} (ho : o.op = .binOp bo t x y p) (hx : evH P L x = some (.int k a)) (hy : evH P L y = some (.int j b)) (hd : binH P bo t (.int k a) (.int j b) = some v) (hw : wantX ops o L = some true) (hf : fits o.dst n = true) (hr : R (putX o.dst (.ext v) L) B G) : Op1X P K E ops o L B G m n R :=
 qv hw hf (fun κ h L0 r M => V.bin ho (evH_eq r hx) (evH_eq r hy) hd) hr
theorem qw {s t u w : Nat} {x : Operand} {k j k' : IntKind} {a b : Int} (hX : TK P tab zl) (ho : o.op = .convert s t x) (hs : tyL tab s = some (.int k, u)) (ht : tyL tab t = some (.int k', w)) (hx : evH P L x = some (.int j a)) (hd : wrapF k' a = b) (hw : wantX ops o L = some true) (hf : fits o.dst n = true) (hr : R (putX o.dst (.ext (.int k' b)) L) B G) : Op1X P K E ops o L B G m n R :=
 qv hw hf (fun κ h L0 r M => V.convW hX.tab ho hs ht (evH_eq r hx) hd) hr
theorem ql {cl : Call} {x : Operand} {t e q c : Nat} {v : HVal} (hX : TK P tab zl) (ho : o.op = .call cl) (hc : cl.callee = .builtin .len) (hx : cl.args = #[x]) (hts : cl.argTypes[0]? = some t) (ht : tyL tab t = some (.slice e, q)) (hs : evH P L x = some v) (hm : lenV v = some c) (hw : wantX ops o L = some true) (hf : fits o.dst n = true) (hr : R (putX o.dst (.ext (.int .i64 (c : Int))) L) B G) : Op1X P K E ops o L B G m n R :=
 qv hw hf (fun κ h L0 r M => V.len hX.tab ho hc hx hts ht (evH_eq r hs) hm) hr
theorem qs {t u s c j : Nat} {x y : Operand} {kd : IntKind} (hX : TK P tab zl) (ho : o.op = .index t x y) (ht : tyL tab t = some (.str, u)) (hx : evH P L x = some (.str s c)) (hy : evH P L y = some (.int kd (.ofNat j))) (hj : j < s) (hw : wantX ops o L = some true) (hf : fits o.dst n = true) (hr : R (putX o.dst (.ext (.int .u8 (Int.ofNat (sIndex s c j)))) L) B G) : Op1X P K E ops o L B G m n R :=
 qv hw hf (fun κ h L0 r M => V.indexS hX.tab ho ht (evH_eq r hx) (evH_eq r hy) hj) hr
end
end
end Go.HL
namespace Go.HL
open Go
noncomputable section
section
variable {P : Program} {K : CallFn} {E : Env0} {ops : Array Oper} {o : Oper} {l : List Oper} {L L' : SL} {B B' : List Blk} {G G' : List Part} {m n : Nat} {R : SL → List Blk → List Part → Prop} {Q : Ex → St → Prop} {a b c : Code} {tab : Tab} {zl : List (Nat × List HVal)} {h h' : Heap}
/-! ## The memory now -/
theorem Fin.wf (f : Fin E B G h) : Wf h := let ⟨_, M⟩ := f; M.wf
theorem Fin.ro (f : Fin E B G h) {a : Part} (r : Ro E.C E.h a) : a.holds h := let ⟨_, M⟩ := f; r.at M.chg
theorem Fin.mem (f : Fin E B G h) {a : Part} (r : a ∈ G) : a.holds h := let ⟨_, M⟩ := f; M.chg.all a (List.mem_append_right _ r)
theorem Fin.pick (f : Fin E B G h) {a : Part} {G2 : List Part} (r : Pick G a G2) : a.holds h := f.mem r.mem
theorem Chg.right {C A B : List Part} {h h' : Heap} (c : Chg C h (A ++ B) h') : Chg C h B h' := (c.perm List.perm_append_comm).drop
theorem Fin.chg {C : List Part} {h0 : Heap} {κ : PlX} (f : Fin ⟨C, h0, κ⟩ B G h) : Chg C h0 G h := let ⟨_, M⟩ := f; M.chg.right
/-! ## Functions -/
def numE : List HVal → Option SL
 | [] => some []
 | [a] => some [(0, .ext a)]
 | [a, b] => some [(0, .ext a), (1, .ext b)]
 | [a, b, c] => some [(0, .ext a), (1, .ext b), (2, .ext c)]
 | [a, b, c, d] => some [(0, .ext a), (1, .ext b), (2, .ext c), (3, .ext d)]
 | [a, b, c, d, e] => some [(0, .ext a), (1, .ext b), (2, .ext c), (3, .ext d), (4, .ext e)]
 | [a, b, c, d, e, f] => some [(0, .ext a), (1, .ext b), (2, .ext c), (3, .ext d), (4, .ext e), (5, .ext f)]
 | [a, b, c, d, e, f, g] => some [(0, .ext a), (1, .ext b), (2, .ext c), (3, .ext d), (4, .ext e), (5, .ext f), (6, .ext g)]
 | _ => none
theorem numE_rep {κ : PlX} {args : List HVal} (hn : numE args = some L) : RepL κ L (numbered args 0) := by
 unfold numE at hn
 split at hn <;> first | (cases hn; repeat' (first | exact .nil | refine .cons (.ext _) ?_)) | cases hn
theorem Sp.all {f : Nat} {fn : Func} {c : Code} {args : List HVal} {R : HVal → Heap → Prop} (hK : K f args h = none) (hf : P.funcs[f]? = some fn) (hb : fn.body = some c) (hlt : Nat.blt f roundNo = true)
  (hm : Nat.lor (maskOf fn) (Nat.sub (Nat.pow 2 args.length) 1) = m) (hl : Nat.add args.length (Nat.sub fn.ntmps args.length) = n)
  (hw : WC P K c (numbered args 0) h m n (FnQ P fn R)) : Sp P K f args h R := by
 obtain ⟨e, s', r, he, hd, v, hv, hr⟩ := hw.run _ (Fr.enter rfl)
 refine ⟨v, s'.heap, ?_, hr⟩
 refine Does.of_wp hK hf hb ?_ hm hl ⟨e, s', r, he, hd, hv, rfl⟩
 rw [nblt] at hlt
 exact of_decide_eq_true hlt
theorem Mem.start (w : Wf h) : Mem ⟨[], h, []⟩ [] [] [] h := ⟨Chg.refl w, ⟨[], rfl⟩, rfl, fun i l e s hb => (by rw [nth_eq] at hb; simp at hb), fun i l hb => (by rw [nth_eq] at hb; simp at hb), fun i l hb => (by rw [nth_eq] at hb; simp at hb)⟩
theorem Sp.start {f : Nat} {fn : Func} {c : Code} {args : List HVal} {R : HVal → Heap → Prop} (w : Wf h) (hK : K f args h = none) (hf : P.funcs[f]? = some fn) (hb : fn.body = some c) (hlt : Nat.blt f roundNo = true)
  (hm : Nat.lor (maskOf fn) (Nat.sub (Nat.pow 2 args.length) 1) = m) (hl : Nat.add args.length (Nat.sub fn.ntmps args.length) = n) (hn : numE args = some L)
  (hw : WCX P K ⟨[], h, []⟩ c L [] [] m n (FnQ P fn R)) : Sp P K f args h R :=
 Sp.all hK hf hb hlt hm hl (hw.run [] h _ (numE_rep hn) (Mem.start w))
def resX (tab : Tab) (L : SL) (B : List Blk) : List ResultVar → Option (List HVal)
 | [] => some []
 | r :: l => match r with
  | .tmp t => ob (lookX L t) fun v => ob (extOf v) fun v => ob (resX tab L B l) fun vs => some (v :: vs)
  | .cell a t => ob (lookX L a) fun v => match v with
   | .ptr i off => ob (nth B i) fun b => ob b.cells fun cs => ob (tyL tab t) fun w => bcase w.1.agg (takeK (dropN cs off) w.2 fun m => ob (resX tab L B l) fun vs => some (.agg m :: vs)) (ob (nth cs off) fun v => ob (resX tab L B l) fun vs => some (v :: vs))
   | _ => none
theorem resX_sound (hX : TK P tab zl) {κ : PlX} {L0 : Sts} {s : St} (r : RepL κ L L0) (M : Mem E κ B G h) (f : Fr m n L0 h s) : ∀ {l : List ResultVar} {vs : List HVal}, resX tab L B l = some vs → resList P s l = some vs
 | [], vs, e => e
 | rv :: l, vs, e => by
  cases rv with
  | tmp t =>
   simp only [resX] at e
   obtain ⟨x, e1, e2⟩ := ob_eq_some.1 e
   obtain ⟨v, e3, e4⟩ := ob_eq_some.1 e2
   obtain ⟨vs', e5, e6⟩ := ob_eq_some.1 e4
   cases e6
   obtain ⟨w, g1, g2⟩ := r.look e1
   cases x <;> simp only [extOf] at e3 <;> (try (cases e3; done))
   cases e3
   cases g2
   simp only [resList, resX_sound hX r M f e5, obS, f.env t v g1]
  | cell a t =>
   simp only [resX] at e
   obtain ⟨x, e1, e2⟩ := ob_eq_some.1 e
   obtain ⟨w, g1, g2⟩ := r.look e1
   cases x <;> simp only at e2 <;> (try (cases e2; done))
   obtain ⟨b, e3, e4⟩ := ob_eq_some.1 e2
   obtain ⟨cs, e5, e6⟩ := ob_eq_some.1 e4
   obtain ⟨⟨ti, q⟩, e7, e8⟩ := ob_eq_some.1 e6
   cases g2 with
   | @ptr _ off k o hk =>
    obtain ⟨k2, o2, g3, g4⟩ := M.row e3 e5
    rw [hk] at g3
    cases g3
    have g5 := f.env _ _ g1
    cases hag : ti.agg with
    | true =>
     simp only [hag, bcT] at e8
     obtain ⟨m2, e9, e10⟩ := takeK_some e8
     obtain ⟨vs', e11, e12⟩ := ob_eq_some.1 e10
     cases e12
     have g6 : m2.length = q := by
      rw [takeK_eq] at e9
      split at e9
      ·rename_i hle
       rw [← Option.some.inj e9, List.length_take, Nat.min_eq_left hle]
      ·cases e9
     have g7 := (g4.sub e9).load
     rw [g6] at g7
     simp only [resList, g5, HVal.isPtr, obS, f.heap, loadT, tab_agg hX.tab e7, hag, bcT, (tab_ok hX.tab e7).2, g7, resX_sound hX r M f e11]
    | false =>
     simp only [hag, bcF] at e8
     obtain ⟨v, e9, e10⟩ := ob_eq_some.1 e8
     obtain ⟨vs', e11, e12⟩ := ob_eq_some.1 e10
     cases e12
     simp only [resList, g5, HVal.isPtr, obS, f.heap, loadT, tab_agg hX.tab e7, hag, bcF, g4.nth e9, resX_sound hX r M f e11]
theorem ToX.fn {fn : Func} {R : HVal → Heap → Prop} {vs : List HVal} {e : Ex} (hX : TK P tab zl) (he : e = .nrm ∨ e = .ret) (hv : resX tab L B fn.results.toList = some vs) (hr : ∀ h, Fin E B G h → R (resV vs) h) : ToX E (FnQ P fn R) e L B G m n := by
 refine ⟨fun κ h L0 r M => ⟨fun s f => ⟨he, f.defers, resV vs, ?_, by rw [f.heap]; exact hr h ⟨κ, M⟩⟩⟩⟩
 unfold resOf
 rw [resX_sound hX r M f hv, obS]
 cases vs with
 | nil => rfl
 | cons v l => cases l <;> rfl
theorem ToX.r_ {fn : Func} {R : HVal → Heap → Prop} {vs : List HVal} (hX : TK P tab zl) (hv : resX tab L B fn.results.toList = some vs) (hr : ∀ h, Fin E B G h → R (resV vs) h) : ToX E (FnQ P fn R) .ret L B G m n := .fn hX (.inr rfl) hv hr
/-! ## Less is known -/
def SubsX : SL → SL → Prop
 | [], _ => True
 | (i, v) :: l, L => lookX L i = some v ∧ SubsX l L
def inside (b : Nat) : SL → Bool
 | [] => true
 | (_, v) :: l => match v with
  | .ext _ => inside b l
  | .ptr i _ => bcase (Nat.blt i b) (inside b l) false
  | .sl i _ => bcase (Nat.blt i b) (inside b l) false
def noTmp : List Blk → Bool
 | [] => true
 | b :: B => match b with
  | .tmp _ => false
  | _ => noTmp B
theorem nth_take {α : Type} {l : List α} {i b : Nat} {a : α} (hi : i < b) (h : nth l i = some a) : nth (l.take b) i = some a := by
 rw [nth_eq] at h ⊢
 rw [List.getElem?_take, if_pos hi]; exact h
theorem subsX_rep {κ : PlX} {L0 : Sts} {b : Nat} (r : RepL κ L L0) : ∀ {S : SL}, SubsX S L → inside b S = true → ∃ S0, RepL (κ.take b) S S0 ∧ Subs S0 L0
 | [], _, _ => ⟨[], .nil, trivial⟩
 | (i, v) :: S, hs, hc => by
  obtain ⟨w, g1, g2⟩ := r.look hs.1
  cases v with
  | ext u =>
   obtain ⟨S0, h1, h2⟩ := subsX_rep r hs.2 (show inside b S = true from hc)
   cases g2
   exact ⟨(i, _) :: S0, .cons (.ext _) h1, g1, h2⟩
  | ptr j off =>
   obtain ⟨h3, h4⟩ := bcFe.1 (show bcase (Nat.blt j b) (inside b S) false = true from hc)
   rw [nblt] at h3
   obtain ⟨S0, h1, h2⟩ := subsX_rep r hs.2 h4
   cases g2 with
   | ptr hk => exact ⟨(i, _) :: S0, .cons (.ptr (nth_take (of_decide_eq_true h3) hk)) h1, g1, h2⟩
  | sl j q =>
   obtain ⟨h3, h4⟩ := bcFe.1 (show bcase (Nat.blt j b) (inside b S) false = true from hc)
   rw [nblt] at h3
   obtain ⟨S0, h1, h2⟩ := subsX_rep r hs.2 h4
   cases g2 with
   | sl hk => exact ⟨(i, _) :: S0, .cons (.sl (nth_take (of_decide_eq_true h3) hk)) h1, g1, h2⟩
theorem noTmp_not : ∀ {B : List Blk}, noTmp B = true → ∀ {i : Nat} {l : List HVal}, nth B i ≠ some (.tmp l)
 | [], _, i, l, h => by rw [nth_eq] at h; simp at h
 | b :: B, hn, 0, l, h => by
  rw [nth_eq] at h
  simp at h
  subst h
  cases hn
 | b :: B, hn, i + 1, l, h => by
  rw [nth_eq] at h
  simp only [List.getElem?_cons_succ] at h
  rw [← nth_eq] at h
  have : noTmp B = true := by cases b <;> first | exact hn | cases hn
  exact noTmp_not this h
theorem partsB_append : ∀ {B B2 : List Blk} {κ κ2 : PlX}, κ.length = B.length → partsB (B ++ B2) (κ ++ κ2) = partsB B κ ++ partsB B2 κ2
 | [], B2, [], κ2, _ => rfl
 | [], _, _ :: _, _, h => by simp at h
 | _ :: _, _, [], _, h => by simp at h
 | b :: B, B2, p :: κ, κ2, h => by
  have ih := partsB_append (B := B) (B2 := B2) (κ := κ) (κ2 := κ2) (by simpa using h)
  cases b <;> simp [partsB, ih]
theorem Mem.less {κ : PlX} {B2 : List Blk} (M : Mem E κ (B ++ B2) G h) (hE : Nat.ble E.κ.length B.length = true) (hn : noTmp B = true) {R : List Part} (hG : Picks G G' R) : Mem E (κ.take B.length) B G' h := by
 have hle : B.length ≤ κ.length := by rw [M.len]; simp
 have hlen : (κ.take B.length).length = B.length := by rw [List.length_take, Nat.min_eq_left hle]
 have hsp : partsB (B ++ B2) κ = partsB B (κ.take B.length) ++ partsB B2 (κ.drop B.length) := by
  rw [← partsB_append hlen, List.take_append_drop]
 have c := M.chg
 rw [hsp] at c
 rw [nble] at hE
 have hE := of_decide_eq_true hE
 refine ⟨?_, ?_, hlen, ?_, ?_, ?_⟩
 ·have p : List.Perm ((partsB B (κ.take B.length) ++ partsB B2 (κ.drop B.length)) ++ G) ((partsB B (κ.take B.length) ++ G') ++ (partsB B2 (κ.drop B.length) ++ R)) := by
   refine (List.Perm.append_left _ hG.perm).trans ?_
   rw [List.append_assoc, List.append_assoc]
   refine List.Perm.append_left _ ?_
   rw [← List.append_assoc, ← List.append_assoc]
   exact List.Perm.append_right _ List.perm_append_comm
  exact (c.perm p).drop
 ·obtain ⟨t, ht⟩ := M.pre
  refine ⟨t.take (B.length - E.κ.length), ?_⟩
  rw [ht, List.take_append, List.take_of_length_le hE]
 ·intro i l e s hb
  obtain ⟨k, hk⟩ := M.own i l e s (nth_append hb)
  refine ⟨k, nth_take ?_ hk⟩
  rw [nth_eq] at hb
  exact (List.getElem?_eq_some_iff.1 hb).1
 ·intro i l hb
  obtain ⟨k, o, hk, hr⟩ := M.ro i l (nth_append hb)
  refine ⟨k, o, nth_take ?_ hk, hr⟩
  rw [nth_eq] at hb
  exact (List.getElem?_eq_some_iff.1 hb).1
 ·intro i l hb
  exact absurd hb (noTmp_not hn)
theorem WCX.sub {B2 : List Blk} {R : List Part} (hs : SubsX L' L) (hc : inside B'.length L' = true) (hE : Nat.ble E.κ.length B'.length = true) (hn : noTmp B' = true) (hB : B = B' ++ B2) (hG : Picks G G' R) (hw : WCX P K E c L' B' G' m n Q) : WCX P K E c L B G m n Q := by
 subst hB
 refine ⟨fun κ h L0 r M => ?_⟩
 obtain ⟨S0, h1, h2⟩ := subsX_rep r hs hc
 exact WC.sub h2 (hw.run _ h _ h1 (M.less hE hn hG))
structure Fit (S : SL) (B : List Blk) (G : List Part) (L' : SL) (B' : List Blk) (G' : List Part) : Prop where
 sub : SubsX S L'
 blk : ∃ B2, B' = B ++ B2
 parts : ∃ R, Picks G' G R
theorem WCX.fit (f : Fit L' B' G' L B G) (hc : inside B'.length L' = true) (hE : Nat.ble E.κ.length B'.length = true) (hn : noTmp B' = true) (hw : WCX P K E c L' B' G' m n Q) : WCX P K E c L B G m n Q :=
 let ⟨_, hB⟩ := f.blk; let ⟨_, hG⟩ := f.parts; WCX.sub f.sub hc hE hn hB hG hw
theorem WCX.loop {ι : Type} (S : ι → SL) (Bs : ι → List Blk) (Gs : ι → List Part) (I : ι → Prop) (μ : ι → Nat) (i0 : ι) (hf : Fit (S i0) (Bs i0) (Gs i0) L B G) (hi : I i0)
  (hc : ∀ i, inside (Bs i).length (S i) = true) (hE : ∀ i, Nat.ble E.κ.length (Bs i).length = true) (hn : ∀ i, noTmp (Bs i) = true)
  (step : ∀ i, I i → (∀ j L' B' G', μ j < μ i → Fit (S j) (Bs j) (Gs j) L' B' G' → I j → WCX P K E (.loop a) L' B' G' m n Q) →
   WCX P K E a (S i) (Bs i) (Gs i) m n (afterSeq P K (.loop a) Q)) : WCX P K E (.loop a) L B G m n Q := by
 have main : ∀ (k : Nat) (i : ι), μ i < k → I i → WCX P K E (.loop a) (S i) (Bs i) (Gs i) m n Q := by
  intro k
  induction k with
  | zero => exact fun i hk => absurd hk (by omega)
  | succ k ih =>
   intro i hk hi
   have := step i hi fun j L' B' G' hlt hf hj => WCX.fit hf (hc j) (hE j) (hn j) (ih j (by omega) hj)
   exact ⟨fun κ h L0 r M => WC.loop (this.run κ h L0 r M)⟩
 exact WCX.fit hf (hc i0) (hE i0) (hn i0) (main (μ i0 + 1) i0 (by omega) hi)
theorem own_nil (e w : Nat) (h : Heap) : (ownS e w .nils []).holds h := ⟨⟨none, .nils⟩, fun r hr => by simp at hr⟩
theorem Mem.addNil {κ : PlX} (M : Mem E κ B G h) (e w : Nat) : Mem E κ B (ownS e w .nils [] :: G) h := by
 have c := M.chg
 refine ⟨?_, M.pre, M.len, M.own, M.ro, fun i l hb => ?_⟩
 ·refine Chg.perm (B := ownS e w .nils [] :: (partsB B κ ++ G)) ?_ ⟨c.wf, c.next, c.keep, ?_, ?_, ?_⟩
  ·exact List.perm_middle.symm
  ·intro r hr
   rcases List.mem_cons.1 hr with rfl | hr
   ·exact own_nil e w h
   ·exact c.all r hr
  ·exact List.pairwise_cons.2 ⟨fun r _ k hk => (by cases hk), c.disj⟩
  ·intro r hr k hk
   rcases List.mem_cons.1 hr with rfl | hr
   ·cases hk
   ·exact c.own r hr k hk
 ·obtain ⟨k, o, g1, g2, g, g3, g4⟩ := M.tmp i l hb
  exact ⟨k, o, g1, g2, g, by simp [g3], g4⟩
theorem WCX.nil (e w : Nat) (hw : WCX P K E c L B (ownS e w .nils [] :: G) m n Q) : WCX P K E c L B G m n Q := ⟨fun κ h L0 r M => hw.run κ h L0 r (M.addNil e w)⟩
/-! ## Calls -/
def Tr (φ : HVal → List Part → Prop) (h : Heap) (v : HVal) (h' : Heap) : Prop := ∃ C', Chg [] h C' h' ∧ φ v C'
def Val (v0 : HVal) (h : Heap) (v : HVal) (h' : Heap) : Prop := v = v0 ∧ Chg [] h [] h'
def argsH (P : Program) (L : SL) : List Operand → Option (List HVal)
 | [] => some []
 | x :: l => ob (evH P L x) fun v => ob (argsH P L l) fun vs => some (v :: vs)
theorem argsH_eq {κ : PlX} {L0 : Sts} (r : RepL κ L L0) : ∀ {l : List Operand} {vs : List HVal}, argsH P L l = some vs → argsV P L0 l = some vs
 | [], vs, e => e
 | x :: l, vs, e => by
  simp only [argsH] at e
  obtain ⟨v, e1, e2⟩ := ob_eq_some.1 e
  obtain ⟨q, e3, e4⟩ := ob_eq_some.1 e2
  simp only [argsV, evH_eq r e1, obS, argsH_eq r e3, e4]
theorem Mem.call {κ : PlX} (M : Mem E κ B G h) {C' : List Part} (d : Chg [] h C' h') : Mem E κ B (C' ++ G) h' := by
 have c := M.chg.trans (D := []) (R := partsB B κ ++ G) (List.Perm.refl _) d
 refine ⟨c.perm ?_, M.pre, M.len, M.own, M.ro, fun i l hb => ?_⟩
 ·rw [← List.append_assoc, ← List.append_assoc]
  exact List.Perm.append_right _ List.perm_append_comm
 ·obtain ⟨k, o, g1, g2, g, g3, g4⟩ := M.tmp i l hb
  exact ⟨k, o, g1, g2.keep (M.stay d k ⟨g, g3, g4⟩), g, by simp [g3], g4⟩
theorem qcall {cl : Call} {x : Operand} {f : Nat} {args : List HVal} {φ : HVal → List Part → Prop} (ho : o.op = .call cl) (hc : cl.callee = .value x) (hx : evH P L x = some (.func f [] [])) (ha : argsH P L cl.args.toList = some args) (hf : Callable P f) (hw : wantX ops o L = some true) (hfit : fits o.dst n = true)
  (hs : ∀ h, Fin E B G h → Sp P K f args h (Tr φ h)) (hr : ∀ v C', φ v C' → R (putX o.dst (.ext v) L) B (C' ++ G)) : Op1X P K E ops o L B G m n R := by
 refine ⟨fun κ h L0 r M => ?_⟩
 refine Op1.sp (C.call ho hc (evH_eq r hx) (argsH_eq r ha) hf) (wantX_eq r hw) hfit (hs h ⟨κ, M⟩) ?_
 rintro v h' ⟨C', d, hφ⟩
 exact ⟨κ, _, _, _, pfx_refl κ, r.put (.ext v) o.dst, M.call d, hr v C' hφ⟩
theorem Sp.tr {f : Nat} {args : List HVal} {v0 : HVal} (s : Sp P K f args h (Val v0 h)) : Sp P K f args h (Tr (fun v C => v = v0 ∧ C = []) h) := by
 obtain ⟨v, h', d, rfl, c⟩ := s
 exact ⟨v, h', d, [], c, rfl, rfl⟩
theorem qcallV {cl : Call} {x : Operand} {f : Nat} {args : List HVal} {v0 : HVal} (ho : o.op = .call cl) (hc : cl.callee = .value x) (hx : evH P L x = some (.func f [] [])) (ha : argsH P L cl.args.toList = some args) (hf : Callable P f) (hw : wantX ops o L = some true) (hfit : fits o.dst n = true)
  (hs : ∀ h, Fin E B G h → Sp P K f args h (Val v0 h)) (hr : R (putX o.dst (.ext v0) L) B G) : Op1X P K E ops o L B G m n R :=
 qcall ho hc hx ha hf hw hfit (fun h f => (hs h f).tr) (by rintro v C' ⟨rfl, rfl⟩; exact hr)
def TrP (k : Nat) (l : List HVal) (e : Nat) (s : Bool) (φ : HVal → List HVal → List Part → Prop) (h : Heap) (v : HVal) (h' : Heap) : Prop := ∃ l' C', Chg [pts k l e s] h (pts k l' e s :: C') h' ∧ φ v l' C'
theorem Ro.narrow {κ : PlX} (M : Mem E κ B G h) {a b : Part} (r : Ro E.C E.h a) (hb : b ∈ partsB B κ ++ G) : Ro [b] h a :=
 ⟨r.at M.chg, fun q hq => by
  have : q = b := by simpa using hq
  subst this
  exact r.sep M.chg hb⟩
end
end
end Go.HL
namespace Go.HL
open Go
noncomputable section
section
variable {P : Program} {K : CallFn} {E : Env0} {ops : Array Oper} {o : Oper} {l : List Oper} {L L' : SL} {B B' : List Blk} {G G' G2 : List Part} {m n : Nat} {R : SL → List Blk → List Part → Prop} {Q : Ex → St → Prop} {a b c : Code} {tab : Tab} {zl : List (Nat × List HVal)} {h h' : Heap}
/-! ## Elements -/
def snocN (B : List Blk) (b : Blk) : Option (Nat × List Blk) := appK B [b] fun B' => lenK B 0 fun n => some (n, B')
theorem snocN_some {B : List Blk} {b : Blk} {nb : Nat} {B' : List Blk} (h : snocN B b = some (nb, B')) : nb = B.length ∧ B' = B ++ [b] := by
 unfold snocN at h
 rw [appK_snoc, lenK_eq, Nat.zero_add] at h
 cases h
 exact ⟨rfl, rfl⟩
theorem Ro.frd {C : List Part} {e : Nat} {v : HVal} {w : Nat} {rows : List (List HVal)} (r : Ro C h (frd e v w rows)) : Ro C h (rd v w rows) := ⟨r.holds.2, r.away⟩
theorem Ro.key {C : List Part} {v : HVal} {w : Nat} {rows : List (List HVal)} (r : Ro C h (rd v w rows)) {k : Nat} (hk : keyV v = some k) : Ro C h (ther k) :=
 ⟨r.holds.live k hk, fun q hq j hj => r.away q hq j (by rw [show j = k from hj]; exact hk)⟩
theorem qidx {t e q w nb j : Nat} {i : TI} {x y : Operand} {v : HVal} {kd : IntKind} {rows : List (List HVal)} {r : List HVal} (hX : TK P tab zl) (ho : o.op = .indexAddr t x y) (ht : tyL tab t = some (.slice e, q)) (he : tyL tab e = some (i, w)) (hx : evH P L x = some v) (hy : evH P L y = some (.int kd (.ofNat j)))
  (hs : Ro E.C E.h (rd v w rows)) (hr : rows[j]? = some r) (hB : snocN B (.ro r) = some (nb, B')) (hw : wantX ops o L = some true) (hf : fits o.dst n = true) (hk : R (putX o.dst (.ptr nb 0) L) B' G) : Op1X P K E ops o L B G m n R := by
 obtain ⟨rfl, rfl⟩ := snocN_some hB
 obtain ⟨k, off, cap, rfl, hrow⟩ := hs.holds.slice.row j r hr
 have hj : j < rows.length := (List.getElem?_eq_some_iff.1 hr).1
 refine .comp hw hf (fun κ h L0 rr M => ⟨_, _, _, V.indexAddr hX.tab ho ht he (evH_eq rr hx) (evH_eq rr hy) hj, ?_, M.addRo hrow (hs.key rfl), _, rfl⟩) hk
 have := Rep.ptr (κ := κ ++ [(k, Nat.add off (Nat.mul j w))]) (off := 0) (i := B.length) (k := k) (o := Nat.add off (Nat.mul j w)) (by rw [← M.len]; exact nth_last _ _)
 exact this
/-! ## Parts that change -/
theorem Mem.callG {κ : PlX} (M : Mem E κ B G h) {g : Part} (hG : Pick G g G2) {C' : List Part} (d : Chg [g] h C' h') (hn : noTmp B = true) : Mem E κ B (C' ++ G2) h' := by
 have p : List.Perm (partsB B κ ++ G) ([g] ++ (partsB B κ ++ G2)) := by
  refine (List.Perm.append_left _ hG.perm).trans ?_
  exact List.perm_middle
 have c := M.chg.trans p d
 refine ⟨c.perm ?_, M.pre, M.len, M.own, M.ro, fun i l hb => absurd hb (noTmp_not hn)⟩
 rw [← List.append_assoc, ← List.append_assoc]
 exact List.Perm.append_right _ List.perm_append_comm
theorem Appended.chg {e w : Nat} {v : HVal} {rows new : List (List HVal)} {d : Option Nat} {k : Nat} (a : App h e w v rows.length rows.flatten d) (hrl : ∀ r ∈ rows, r.length = w) (hnl : ∀ r ∈ new, r.length = w) (p : Appended h e w (rows.length + new.length) (rows.flatten ++ new.flatten) d k h') :
  Chg [ownS e w v rows] h [ownS e w (.slice k 0 (rows.length + new.length) none) (rows ++ new)] h' := by
 refine ⟨p.wf, p.next, fun {j o} hj hn => ?_, ?_, List.pairwise_singleton _ _, ?_⟩
 ·rw [p.old j ?_ ?_]
  ·exact hj
  ·intro e
   exact hn _ (List.mem_singleton.2 rfl) (a.key e.symm)
  ·rintro rfl
   rw [p.fresh] at hj; cases hj
 ·intro r hr
  simp only [List.mem_singleton] at hr
  subst hr
  refine ⟨⟨some k, ?_⟩, fun r hr => ?_⟩
  ·have := p.app
   rw [← List.flatten_append, ← List.length_append] at this
   rw [← List.length_append]
   exact this
  ·rcases List.mem_append.1 hr with hr | hr
   ·exact hrl r hr
   ·exact hnl r hr
 ·intro r hr j hj
  simp only [List.mem_singleton] at hr
  subst hr
  have hj : k = j := by simpa [ownS, keyW] using hj
  subst hj
  exact .inr p.fresh
theorem qapp {t t2 e w q q2 bs j e2 : Nat} {s2 : Bool} {i : TI} {cl : Call} {x y : Operand} {v : HVal} {z new : List HVal} {rows : List (List HVal)} (hX : TK P tab zl)
  (ho : o.op = .call cl) (hc : cl.callee = .builtin .append) (ha : cl.args = #[x, y]) (h0 : cl.argTypes[0]? = some t) (h2 : cl.argTypes[1]? = some t2) (ht : tyL tab t = some (.slice e, q)) (ht2 : tyL tab t2 = some (.slice e, q2))
  (he : tyL tab e = some (i, w)) (hz : zL zl e = some z) (hzl : Nat.beq z.length w = true) (he0 : Nat.beq e 0 = false) (hw0 : Nat.beq w 0 = false) (hb : P.bytesOf e = bs) (hb0 : Nat.beq bs 0 = false)
  (hx : evH P L x = some v) (hy : evX P L y = some (.sl j 1)) (hbk : nth B j = some (.own new e2 s2)) (hnl : Nat.beq new.length w = true) (hG : Pick G (ownS e w v rows) G2) (hn : noTmp B = true) (hroom : (rows.length + 1) * bs ≤ 140737488355328)
  (hw : wantX ops o L = some true) (hf : fits o.dst n = true) (hr : ∀ k, R (putX o.dst (.ext (.slice k 0 (rows.length + 1) none)) L) B (ownS e w (.slice k 0 (rows.length + 1) none) (rows ++ [new]) :: G2)) : Op1X P K E ops o L B G m n R := by
 refine ⟨fun κ h L0 r M => ?_⟩
 obtain ⟨⟨d, hv⟩, hrl⟩ := M.chg.all _ (List.mem_append_right _ hG.mem)
 obtain ⟨k2, hk2⟩ := M.own _ _ _ _ hbk
 obtain ⟨w2, g1, g2⟩ := evX_rep r hy
 have hw2 : w2 = .slice k2 0 1 (some 1) := by
  cases g2 with
  | sl hk => rw [hk2] at hk; cases hk; rfl
 subst hw2
 have hblk := M.chg.all _ (List.mem_append_left _ (partsB_mem hbk hk2))
 have hnl' : new.length = w := Nat.eq_of_beq_eq_true hnl
 refine Op1.append hX.tab ho hc ha h0 h2 ht ht2 he (hX.zero.look hz) hzl he0 hw0 hb hb0 (evH_eq r hx) g1 hv (row_all hblk) (by rw [nbeq]; exact decide_eq_true (by simp [hnl'])) rfl hroom M.wf (wantX_eq r hw) hf ?_
 intro k h' p
 have p' : Appended h e w (rows.length + [new].length) (rows.flatten ++ [new].flatten) d k h' := by simpa using p
 have c := Appended.chg hv hrl (by intro r hr; simp only [List.mem_singleton] at hr; rw [hr]; exact hnl') p'
 exact ⟨κ, _, _, _, pfx_refl κ, r.put (.ext _) o.dst, M.callG hG c hn, hr k⟩
theorem ownS.row {e w : Nat} {v : HVal} {rows : List (List HVal)} (a : (ownS e w v rows).holds h) (h0 : 0 < rows.length) (hn : ∀ k, v ≠ .rest k) : ∃ k off cap, v = .slice k off rows.length cap ∧ Row h k off rows.flatten := by
 obtain ⟨⟨d, ha⟩, hrl⟩ := a
 have hfl := flatten_len hrl
 have hlen := ha.len
 cases v with
 | slice k off c cap =>
  have hc : c = rows.length := by simpa [lenV] using hlen
  subst hc
  refine ⟨k, off, cap, rfl, ⟨?_⟩⟩
  have := loadN_app ha rfl
  rw [hfl]
  exact this
 | rest k => exact absurd rfl (hn k)
 | nils => simp [lenV] at hlen; omega
 | empty => simp [lenV] at hlen; omega
 | _ => simp [lenV] at hlen
/-! ## Parts of slices that came from elsewhere -/
def dropV (v : HVal) (j w : Nat) : HVal := match v with
 | .slice k off len none => if j = 0 then .slice k off len none else if j < len then .slice k (off + j * w) (len - j) none else .empty
 | v => v
theorem dropV_key {v : HVal} {j w k : Nat} (h : keyV (dropV v j w) = some k) : keyV v = some k := by
 unfold dropV at h
 split at h
 ·split at h
  ·exact h
  ·split at h
   ·exact h
   ·cases h
 ·exact h
def Dropped (v : HVal) (j n w : Nat) (v' : HVal) : Prop := v' = dropV v j w ∨ j = n ∧ ∃ k, v' = .rest k
theorem V.dropF {L : Sts} {t e w q j : Nat} {i : TI} {x y : Operand} {v : HVal} {rows : List (List HVal)} (hT : tabOk P tab = true) (ho : o.op = .slice t x (some y) none none) (ht : tyL tab t = some (.slice e, q)) (he : tyL tab e = some (i, w)) (hne : Nat.beq 0 e = false)
  (hx : evL P L x = some v) (hy : evL P L y = some (.int .i64 (.ofNat j))) (hs : (frd e v w rows).holds h) (h0 : 0 < rows.length) (hj : j ≤ rows.length) : ∃ v', Dropped v j rows.length w v' ∧ OpV P o L h v' h := by
 have hslice := (tab_slice hT ht).1
 obtain ⟨inf, hinf⟩ := (tab_slice hT ht).2
 have hel : elemOk P t = true := by simp only [elemOk, hslice, hinf]
 have hop : ∀ {v' : HVal}, sliceH P h t v (some (.int .i64 (.ofNat j))) none none = some v' → OpV P o L h v' h := fun {v'} e => OpV.mk ho fun ev ha d ty ps aft g => by
  simp only [opH, hel, bcT, evS ha hx, Option.map_some, evS ha hy, Option.map_none, e, HL.val, obS]
 have hb1 : ∀ y d, j ≤ y → boundO (some (.int .i64 (.ofNat j))) y d = some j := by
  intro y d hy
  have : Nat.ble j y = true := by rw [nble]; exact decide_eq_true hy
  show bcase (Nat.ble j y) (some j) none = some j
  rw [this]; rfl
 have hlen := hs.2.slice.1
 cases hs.1 with
 | nils => exact absurd (Option.some.inj hlen) (by omega)
 | empty => exact absurd (Option.some.inj hlen) (by omega)
 | rest => exact absurd (Option.some.inj hlen) (by omega)
 | slice k off c l t0 s r hg ht0 =>
  have hc : c = rows.length := by simpa [lenV] using hlen
  subst hc
  have hcl := cells_get hg
  have hwid : P.cellsOf e = w := (tab_ok hT he).2
  have hb2 : boundO none (topH P h k off rows.length e none) rows.length = some rows.length := rfl
  by_cases hj0 : j = 0
  ·subst hj0
   refine ⟨_, .inl rfl, hop ?_⟩
   simp only [sliceH, hslice, hb1 _ _ (Nat.zero_le _)]; rfl
  ·have hjn : Nat.beq j 0 = false := by rw [nbeq]; exact decide_eq_false hj0
   by_cases hjl : j < rows.length
   ·have hlt : Nat.blt j rows.length = true := by rw [nblt]; exact decide_eq_true hjl
    refine ⟨.slice k (off + j * w) (rows.length - j) none, .inl (by show _ = (if j = 0 then _ else if j < rows.length then _ else _); rw [if_neg hj0, if_pos hjl]), hop ?_⟩
    rcases ht0 with rfl | rfl
    ·simp only [sliceH, hslice, hb1 _ _ hj, hb2, obS, hjn, bcF, hlt, bcT, hcl, hne, hwid]
     rfl
    ·have hee : Nat.beq t0 t0 = true := Nat.beq_refl t0
     simp only [sliceH, hslice, hb1 _ _ hj, hb2, obS, hjn, bcF, hlt, bcT, hcl, hee, hwid]
     rfl
   ·have hlt : Nat.blt j rows.length = false := by rw [nblt]; exact decide_eq_false hjl
    have hq : Nat.beq j rows.length = true := by rw [nbeq]; exact decide_eq_true (by omega)
    rcases ht0 with rfl | rfl
    ·refine ⟨.empty, .inl (by show _ = (if j = 0 then _ else if j < rows.length then _ else _); rw [if_neg hj0, if_neg hjl]), hop ?_⟩
     simp only [sliceH, hslice, hb1 _ _ hj, hb2, obS, hjn, bcF, hlt, hq, bcT, hcl, hne]
    ·have hee : Nat.beq t0 t0 = true := Nat.beq_refl t0
     refine ⟨.rest k, .inr ⟨by omega, k, rfl⟩, hop ?_⟩
     simp only [sliceH, hslice, hb1 _ _ hj, hb2, obS, hjn, bcF, hlt, hq, bcT, hcl, hee]
theorem frd.drop {e : Nat} {v v' : HVal} {w j : Nat} {rows : List (List HVal)} (hs : (frd e v w rows).holds h) (hj : j ≤ rows.length) (hd : Dropped v j rows.length w v') : (frd e v' w (rows.drop j)).holds h := by
 have hlen := hs.2.slice.1
 have hlive := hs.2.live
 rcases hd with rfl | ⟨hje, k, rfl⟩
 rotate_left
 ·refine ⟨.rest k, ⟨⟨by rw [hje, List.drop_length]; rfl, fun i' r' hr' => ?_⟩, fun k' hk => by cases hk⟩⟩
  rw [hje, List.drop_length] at hr'
  simp at hr'
 refine ⟨?_, ⟨?_, fun k hk => hlive k (dropV_key hk)⟩⟩
 ·cases hs.1 with
  | nils => exact .nils
  | empty => exact .empty
  | rest k => exact .rest k
  | slice k off c l t s r hg ht =>
   show FreeE e h (if j = 0 then HVal.slice k off c none else if j < c then HVal.slice k (off + j * w) (c - j) none else HVal.empty)
   split
   ·exact .slice _ _ _ _ _ _ _ hg ht
   ·split
    ·exact .slice _ _ _ _ _ _ _ hg ht
    ·exact .empty
 ·cases hs.1 with
  | nils =>
   have : rows.length = 0 := (Option.some.inj hlen).symm
   have hr : rows = [] := List.eq_nil_of_length_eq_zero this
   subst hr
   simpa [dropV] using hs.2.slice
  | empty =>
   have : rows.length = 0 := (Option.some.inj hlen).symm
   have hr : rows = [] := List.eq_nil_of_length_eq_zero this
   subst hr
   simpa [dropV] using hs.2.slice
  | rest k =>
   have : rows.length = 0 := (Option.some.inj hlen).symm
   have hr : rows = [] := List.eq_nil_of_length_eq_zero this
   subst hr
   simpa [dropV] using hs.2.slice
  | slice k off c l t s r hg ht =>
   have hc : c = rows.length := by simpa [lenV] using hlen
   subst hc
   unfold dropV
   simp only
   by_cases hj0 : j = 0
   ·subst hj0
    rw [if_pos rfl]; exact hs.2.slice
   ·rw [if_neg hj0]
    by_cases hjl : j < rows.length
    ·rw [if_pos hjl]
     refine ⟨by simp [lenV], fun i' r' hr' => ?_⟩
     rw [List.getElem?_drop] at hr'
     obtain ⟨k', off', cap', e1, hrow⟩ := hs.2.slice.2 _ _ hr'
     cases e1
     refine ⟨k, _, none, by rw [List.length_drop], ?_⟩
     have : Nat.add (off + j * w) (Nat.mul i' w) = Nat.add off (Nat.mul (j + i') w) := by
      simp only [Nat.add_eq, Nat.mul_eq, Nat.add_mul]; omega
     rw [this]; exact hrow
    ·rw [if_neg hjl]
     have hje : j = rows.length := by omega
     refine ⟨by rw [hje, List.drop_length]; rfl, fun i' r' hr' => ?_⟩
     rw [hje, List.drop_length] at hr'
     simp at hr'
theorem Dropped.key {v v' : HVal} {j n w k : Nat} (hd : Dropped v j n w v') (h : keyV v' = some k) : keyV v = some k := by
 rcases hd with rfl | ⟨_, _, rfl⟩
 ·exact dropV_key h
 ·cases h
theorem Dropped.cells {v v' : HVal} {j n w : Nat} (hd : Dropped v j n w v') (h : v.cells = some [v]) : v'.cells = some [v'] := by
 rcases hd with rfl | ⟨_, k, rfl⟩
 ·unfold dropV
  split
  ·split
   ·rfl
   ·split <;> rfl
  ·exact h
 ·rfl
theorem Ro.drop {C : List Part} {e : Nat} {v v' : HVal} {w j : Nat} {rows : List (List HVal)} (r : Ro C h (HL.frd e v w rows)) (hj : j ≤ rows.length) (hd : Dropped v j rows.length w v') : Ro C h (HL.frd e v' w (rows.drop j)) := ⟨HL.frd.drop r.holds hj hd, fun q hq k hk => r.away q hq k (hd.key hk)⟩
theorem qdrop {t e w q j : Nat} {i : TI} {x y : Operand} {v : HVal} {rows : List (List HVal)} (hX : TK P tab zl) (ho : o.op = .slice t x (some y) none none) (ht : tyL tab t = some (.slice e, q)) (he : tyL tab e = some (i, w)) (hne : Nat.beq 0 e = false)
  (hx : evH P L x = some v) (hy : evH P L y = some (.int .i64 (.ofNat j))) (hs : Ro E.C E.h (HL.frd e v w rows)) (h0 : 0 < rows.length) (hj : j ≤ rows.length) (hw : wantX ops o L = some true) (hf : fits o.dst n = true) (hr : ∀ v', Dropped v j rows.length w v' → R (putX o.dst (.ext v') L) B G) : Op1X P K E ops o L B G m n R := by
 refine ⟨fun κ h L0 r M => ?_⟩
 obtain ⟨v', hd, hop⟩ := V.dropF hX.tab ho ht he hne (evH_eq r hx) (evH_eq r hy) (hs.at M.chg) h0 hj
 exact Op1.val hop (wantX_eq r hw) hf ⟨κ, _, _, _, pfx_refl κ, r.put (.ext v') o.dst, M, hr v' hd⟩
/-! ## Maps with truths -/
theorem chg_new {h h' : Heap} {k : Nat} {ob : HObj} (p : Part) (mk : Made h k ob h') (hp : p.holds h') (hf : ∀ j, p.foot j → j = k) : Chg [] h [p] h' := by
 refine ⟨mk.wf, mk.ext.next, fun e _ => mk.ext.get e, ?_, List.pairwise_singleton _ _, ?_⟩
 ·intro r hr
  simp only [List.mem_singleton] at hr
  subst hr; exact hp
 ·intro r hr j hj
  simp only [List.mem_singleton] at hr
  subst hr
  refine .inr ?_
  rw [hf j hj]; exact mk.fresh
section
variable {α : Type} [DecidableEq α] {key : α → HVal}
end
/-! ## Regions whose order is open -/
inductive AX where
 | read (j : Nat)
 | rdB (j i : Nat) (l : List HVal) (e : Nat) (s : Bool)
 | rdS (j : Nat)
 | rdG (j : Nat) (g : Part)
 | change (e : Nat) (a b : List Blk) (ga gb : List Part)
def AbsL (P : Program) (E : Env0) (κ : PlX) : List AX → List AL → Prop
 | [], [] => True
 | .read j :: l, .read j' _ _ _ :: m => j = j' ∧ AbsL P E κ l m
 | .rdB j i c e s :: l, .read j' o L v :: m => (j = j' ∧ HVal.beq v v = true ∧ ∃ k, nth κ i = some (k, 0) ∧ ∀ h, h.get k = some (.cells c e s true) → OpV P o L h v h) ∧ AbsL P E κ l m
 | .rdS j :: l, .read j' o L v :: m => (j = j' ∧ HVal.beq v v = true ∧ ∀ h C', Chg E.C E.h C' h → OpV P o L h v h) ∧ AbsL P E κ l m
 | .rdG j g :: l, .read j' o L v :: m => (j = j' ∧ HVal.beq v v = true ∧ ∀ h, g.holds h → OpV P o L h v h) ∧ AbsL P E κ l m
 | .change e a b ga gb :: l, .change e' h h' :: m => (e = e' ∧ (∃ κa ta, κ = κa ++ ta ∧ Mem E κa a ga h) ∧ ∃ κb tb, κ = κb ++ tb ∧ Mem E κb b gb h') ∧ AbsL P E κ l m
 | _, _ => False
theorem AbsL.more {κ t : PlX} : ∀ {l : List AX} {m : List AL}, AbsL P E κ l m → AbsL P E (κ ++ t) l m
 | [], [], _ => trivial
 | [], _ :: _, h => by cases h
 | x :: l, [], h => by cases x <;> cases h
 | .read j :: l, .read _ _ _ _ :: m, h => ⟨h.1, AbsL.more (l := l) (m := m) h.2⟩
 | .read _ :: _, .change _ _ _ :: _, h => by cases h
 | .rdB j i c e s :: l, .read _ _ _ _ :: m, h => by
  obtain ⟨⟨h1, h2, k, hk, h3⟩, h4⟩ := h
  exact ⟨⟨h1, h2, k, nth_append hk, h3⟩, AbsL.more (l := l) (m := m) h4⟩
 | .rdB _ _ _ _ _ :: _, .change _ _ _ :: _, h => by cases h
 | .rdS _ :: l, .read _ _ _ _ :: m, h => ⟨h.1, AbsL.more (l := l) (m := m) h.2⟩
 | .rdS _ :: _, .change _ _ _ :: _, h => by cases h
 | .rdG _ _ :: l, .read _ _ _ _ :: m, h => ⟨h.1, AbsL.more (l := l) (m := m) h.2⟩
 | .rdG _ _ :: _, .change _ _ _ :: _, h => by cases h
 | .change e a b ga gb :: l, .change _ _ _ :: m, h => by
  obtain ⟨⟨h1, ⟨κa, ta, e1, m1⟩, κb, tb, e2, m2⟩, h4⟩ := h
  exact ⟨⟨h1, ⟨κa, ta ++ t, by rw [e1, List.append_assoc], m1⟩, κb, tb ++ t, by rw [e2, List.append_assoc], m2⟩, AbsL.more (l := l) (m := m) h4⟩
 | .change _ _ _ _ _ :: _, .read _ _ _ _ :: _, h => by cases h
def updX (P : Program) (ops : Array Oper) (i : Nat) (o : Oper) (L : SL) (B : List Blk) (G : List Part) (L' : SL) (B' : List Blk) (G' : List Part) (al : List AX) : Option (List AX) :=
 bcase (isChange P o) (some (.change i B B' G G' :: al)) (bcase (isRead P o) (match o.dst with
  | some d => match wantX ops o L with
   | some true => match lookX L' d with
    | some _ => some (.read i :: al)
    | none => none
   | some false => some al
   | none => none
  | none => none) (some al))
def sureV : HVal → Bool
 | .int _ _ => true
 | .bool _ => true
 | .str _ _ => true
 | .nils => true
 | .nilp => true
 | .ptr _ _ => true
 | .slice _ _ _ _ => true
 | .map _ => true
 | _ => false
theorem suB {v : HVal} (h : sureV v = true) : HVal.beq v v = true := by
 cases v <;> first | (cases h; done) | simp [HVal.beq]
inductive Upd (P : Program) (tab : Tab) (ops : Array Oper) (i : Nat) (o : Oper) (L : SL) (B : List Blk) (G : List Part) (L' : SL) (B' : List Blk) (G' : List Part) (al : List AX) : List AX → Prop
 | comp {al' : List AX} (h : updX P ops i o L B G L' B' G' al = some al') : Upd P tab ops i o L B G L' B' G' al al'
 | rdB {t b off e d : Nat} {x : Operand} {lc : List HVal} {s : Bool} {w : TI × Nat} {v : HVal} (hT : tabOk P tab = true) (hc : isChange P o = false) (hr : isRead P o = true) (ho : o.op = .load t x) (hx : evX P L x = some (.ptr b off)) (hb : nth B b = some (.own lc e s)) (ht : tyL tab t = some w) (ha : w.1.agg = false) (hv : nth lc off = some v) (hs : HVal.beq v v = true) (hd : o.dst = some d) (hw : wantX ops o L = some true) (hl : lookX L' d = some (.ext v)) : Upd P tab ops i o L B G L' B' G' al (.rdB i b lc e s :: al)
 | rdS {t b off d : Nat} {x : Operand} {lc : List HVal} {w : TI × Nat} {v : HVal} (hT : tabOk P tab = true) (hc : isChange P o = false) (hr : isRead P o = true) (ho : o.op = .load t x) (hx : evX P L x = some (.ptr b off)) (hb : nth B b = some (.ro lc)) (ht : tyL tab t = some w) (ha : w.1.agg = false) (hv : nth lc off = some v) (hs : HVal.beq v v = true) (hd : o.dst = some d) (hw : wantX ops o L = some true) (hl : lookX L' d = some (.ext v)) : Upd P tab ops i o L B G L' B' G' al (.rdS i :: al)
 | rdA {t b d : Nat} {x : Operand} {lc : List HVal} {w : TI × Nat} (hT : tabOk P tab = true) (hc : isChange P o = false) (hr : isRead P o = true) (ho : o.op = .load t x) (hx : evX P L x = some (.ptr b 0)) (hb : nth B b = some (.ro lc)) (ht : tyL tab t = some w) (ha : w.1.agg = true) (hv : Nat.beq lc.length w.2 = true) (hs : HVal.beq (.agg lc) (.agg lc) = true) (hd : o.dst = some d) (hw : wantX ops o L = some true) (hl : lookX L' d = some (.ext (.agg lc))) : Upd P tab ops i o L B G L' B' G' al (.rdS i :: al)
 | rdBA {t b d : Nat} {x : Operand} {lc : List HVal} {e : Nat} {s : Bool} {w : TI × Nat} (hT : tabOk P tab = true) (hc : isChange P o = false) (hr : isRead P o = true) (ho : o.op = .load t x) (hx : evX P L x = some (.ptr b 0)) (hb : nth B b = some (.own lc e s)) (ht : tyL tab t = some w) (ha : w.1.agg = true) (hv : Nat.beq lc.length w.2 = true) (hs : HVal.beq (.agg lc) (.agg lc) = true) (hd : o.dst = some d) (hw : wantX ops o L = some true) (hl : lookX L' d = some (.ext (.agg lc))) : Upd P tab ops i o L B G L' B' G' al (.rdB i b lc e s :: al)
 | rdG {t k off e d : Nat} {x : Operand} {lc : List HVal} {s : Bool} {w : TI × Nat} {v : HVal} {G2 : List Part} (hT : tabOk P tab = true) (hc : isChange P o = false) (hr : isRead P o = true) (ho : o.op = .load t x) (hx : evH P L x = some (.ptr k off)) (hG : Pick G (pts k lc e s) G2) (ht : tyL tab t = some w) (ha : w.1.agg = false) (hv : nth lc off = some v) (hs : HVal.beq v v = true) (hd : o.dst = some d) (hw : wantX ops o L = some true) (hl : lookX L' d = some (.ext v)) : Upd P tab ops i o L B G L' B' G' al (.rdG i (pts k lc e s) :: al)
 | rdV {d t e q n : Nat} {cl : Call} {x : Operand} {v : HVal} (hT : tabOk P tab = true) (hc : isChange P o = false) (hr : isRead P o = true) (ho : o.op = .call cl) (hcl : cl.callee = .builtin .len) (hx : cl.args = #[x]) (hts : cl.argTypes[0]? = some t) (ht : tyL tab t = some (.slice e, q)) (hs : evH P L x = some v) (hm : lenV v = some n) (hd : o.dst = some d) (hw : wantX ops o L = some true) (hl : lookX L' d = some (.ext (.int .i64 (n : Int)))) : Upd P tab ops i o L B G L' B' G' al (.rdS i :: al)
theorem Upd.eq {κ κ' : PlX} {L0 L1 : Sts} {h h1 : Heap} {i : Nat} {al al' : List AX} {al0 : List AL} {G G' : List Part} (r : RepL κ L L0) (M : Mem E κ B G h) (r1 : RepL κ' L' L1) (M1 : Mem E κ' B' G' h1) (hpre : ∃ t, κ' = κ ++ t) (ha : AbsL P E κ al al0) (hu : Upd P tab ops i o L B G L' B' G' al al') : ∃ al1, upd P ops i o L0 h L1 h1 al0 = some al1 ∧ AbsL P E κ' al' al1 := by
 obtain ⟨t, rfl⟩ := hpre
 have ha := ha.more (t := t)
 cases hu with
 | comp hu =>
  unfold updX at hu
  unfold upd
  cases hc : isChange P o with
  | true => rw [hc, bcT] at hu; cases hu; exact ⟨_, rfl, ⟨rfl, ⟨κ, t, rfl, M⟩, κ ++ t, [], by simp, M1⟩, ha⟩
  | false =>
   rw [hc, bcF] at hu
   rw [bcF]
   cases hr : isRead P o with
   | false => rw [hr, bcF] at hu; cases hu; exact ⟨_, rfl, ha⟩
   | true =>
    rw [hr, bcT] at hu
    rw [bcT]
    cases hd : o.dst with
    | none => rw [hd] at hu; cases hu
    | some d =>
     rw [hd] at hu
     simp only at hu ⊢
     cases hw : wantX ops o L with
     | none => rw [hw] at hu; cases hu
     | some b =>
      rw [hw] at hu
      rw [wantX_eq r hw]
      cases b with
      | false => cases hu; exact ⟨_, rfl, ha⟩
      | true =>
       simp only at hu ⊢
       cases hl : lookX L' d with
       | none => rw [hl] at hu; cases hu
       | some v =>
        rw [hl] at hu
        cases hu
        obtain ⟨w, g1, _⟩ := r1.look hl
        rw [g1]
        exact ⟨_, rfl, rfl, ha⟩
 | @rdB tt b off e d x lc s w v hT hc hr ho hx hb ht hag hv hs hd hw hl =>
  obtain ⟨u, g1, g2⟩ := r1.look hl
  cases g2
  obtain ⟨k, hk⟩ := M.own _ _ _ _ hb
  obtain ⟨y, g3, g4⟩ := evX_rep r hx
  have hy : y = .ptr k off := by
   cases g4 with
   | ptr hk2 => rw [hk] at hk2; cases hk2; simp
  subst hy
  refine ⟨.read i o L0 v :: al0, ?_, ⟨rfl, hs, k, nth_append hk, fun h2 hh2 => V.load hT ho ht hag g3 hh2 hv⟩, ha⟩
  unfold upd
  rw [hc, hr, bcF, bcT, hd]
  simp only [wantX_eq r hw, g1]
 | @rdS tt b off d x lc w v hT hc hr ho hx hb ht hag hv hs hd hw hl =>
  obtain ⟨u, g1, g2⟩ := r1.look hl
  cases g2
  obtain ⟨k, o2, hk, hrow, hro⟩ := M.ro _ _ hb
  obtain ⟨y, g3, g4⟩ := evX_rep r hx
  have hy : y = .ptr k (Nat.add o2 off) := by
   cases g4 with
   | ptr hk2 => rw [hk] at hk2; cases hk2; rfl
  subst hy
  refine ⟨.read i o L0 v :: al0, ?_, ⟨rfl, hs, fun h2 C' c2 => V.loadR hT ho ht hag g3 (hro.row c2 hrow) hv⟩, ha⟩
  unfold upd
  rw [hc, hr, bcF, bcT, hd]
  simp only [wantX_eq r hw, g1]
 | @rdA tt b d x lc w hT hc hr ho hx hb ht hag hv hs hd hw hl =>
  obtain ⟨u, g1, g2⟩ := r1.look hl
  cases g2
  obtain ⟨k, o2, hk, hrow, hro⟩ := M.ro _ _ hb
  obtain ⟨y, g3, g4⟩ := evX_rep r hx
  have hy : y = .ptr k o2 := by
   cases g4 with
   | ptr hk2 => rw [hk] at hk2; cases hk2; simp
  subst hy
  refine ⟨.read i o L0 (.agg lc) :: al0, ?_, ⟨rfl, hs, fun h2 C' c2 => V.loadRS hT ho ht hag g3 (hro.row c2 hrow) hv⟩, ha⟩
  unfold upd
  rw [hc, hr, bcF, bcT, hd]
  simp only [wantX_eq r hw, g1]
 | @rdBA tt b d x lc e s w hT hc hr ho hx hb ht hag hv hs hd hw hl =>
  obtain ⟨u, g1, g2⟩ := r1.look hl
  cases g2
  obtain ⟨k, hk⟩ := M.own _ _ _ _ hb
  obtain ⟨y, g3, g4⟩ := evX_rep r hx
  have hy : y = .ptr k 0 := by
   cases g4 with
   | ptr hk2 => rw [hk] at hk2; cases hk2; simp
  subst hy
  refine ⟨.read i o L0 (.agg lc) :: al0, ?_, ⟨rfl, hs, k, nth_append hk, fun h2 hh2 => V.loadRS hT ho ht hag g3 (row_all hh2) hv⟩, ha⟩
  unfold upd
  rw [hc, hr, bcF, bcT, hd]
  simp only [wantX_eq r hw, g1]
 | @rdG tt k off e d x lc s w v G2 hT hc hr ho hx hG ht hag hv hs hd hw hl =>
  obtain ⟨u, g1, g2⟩ := r1.look hl
  cases g2
  refine ⟨.read i o L0 v :: al0, ?_, ⟨rfl, hs, fun h2 hh2 => ?_⟩, ha⟩
  ·unfold upd
   rw [hc, hr, bcF, bcT, hd]
   simp only [wantX_eq r hw, g1]
  ·have hx' : evL P L0 x = some (.ptr k (Nat.add 0 off)) := by rw [Nat.add_eq, Nat.zero_add]; exact evH_eq r hx
   exact V.loadR hT ho ht hag hx' (row_all hh2) hv
 | @rdV d tt e q n cl x v hT hc hr ho hcl hx hts ht hs hm hd hw hl =>
  obtain ⟨u, g1, g2⟩ := r1.look hl
  cases g2
  refine ⟨.read i o L0 (.int .i64 (n : Int)) :: al0, ?_, ⟨rfl, suB rfl, fun h2 C' _ => V.len hT ho hcl hx hts ht (evH_eq r hs) hm⟩, ha⟩
  unfold upd
  rw [hc, hr, bcF, bcT, hd]
  simp only [wantX_eq r hw, g1]
structure WDX (P : Program) (K : CallFn) (E : Env0) (tab : Tab) (ops : Array Oper) (pl : List Nat) (al : List AX) (L : SL) (B : List Blk) (G : List Part) (m n : Nat) (R : List AX → SL → List Blk → List Part → Prop) : Prop where
 run : ∀ κ h L0 al0, RepL κ L L0 → Mem E κ B G h → AbsL P E κ al al0 → WD P K ops pl al0 L0 h m n fun al1 L1 h1 => ∃ al' κ L B G, AbsL P E κ al' al1 ∧ RepL κ L L1 ∧ Mem E κ B G h1 ∧ R al' L B G
variable {pl : List Nat} {al : List AX} {RA : List AX → SL → List Blk → List Part → Prop}
theorem WDX.nil (hr : RA al L B G) : WDX P K E tab ops [] al L B G m n RA := ⟨fun κ _ _ _ r M ha => WD.nil ⟨al, κ, _, _, _, ha, r, M, hr⟩⟩
theorem WD.mono {al0 : List AL} {L0 : Sts} {R0 R1 : List AL → Sts → Heap → Prop} (w : WD P K ops pl al0 L0 h m n R0) (hr : ∀ al L h, R0 al L h → R1 al L h) : WD P K ops pl al0 L0 h m n R1 :=
 ⟨fun s log f hl => let ⟨s', log', al', L', h', a, b, c, d⟩ := w.run s log f hl; ⟨s', log', al', L', h', a, b, c, hr _ _ _ d⟩⟩
theorem WDX.cons {i : Nat} (hi : ops[i]? = some o) (ho : Op1X P K E ops o L B G m n fun L' B' G' => ∃ al', Upd P tab ops i o L B G L' B' G' al al' ∧ WDX P K E tab ops pl al' L' B' G' m n RA) : WDX P K E tab ops (i :: pl) al L B G m n RA := by
 refine ⟨fun κ h L0 al0 r M ha => WD.cons hi (Op1.mono (ho.run κ h L0 r M) ?_)⟩
 rintro L1 h1 ⟨κ', L', B', G', hpre, r', M', al', hu, w⟩
 obtain ⟨al1, g1, g2⟩ := hu.eq r M r' M' hpre ha
 exact ⟨al1, g1, w.run κ' h1 L1 al1 r' M' g2⟩
theorem WDX.cq {i : Nat} {sv : SV} {al' : List AX} (hX : TK P tab zl) (hi : ops[i]? = some o) (he : stepQ P tab zl ops o L B n = some (sv, B')) (hu : updX P ops i o L B G (putX o.dst sv L) B' G al = some al') (hw : WDX P K E tab ops pl al' (putX o.dst sv L) B' G m n RA) : WDX P K E tab ops (i :: pl) al L B G m n RA :=
 WDX.cons hi (q hX he ⟨al', .comp hu, hw⟩)
inductive RKx where
 | none
 | blk (i : Nat) (lc : List HVal) (t : Nat) (s : Bool)
 | part (g : Part)
def OrdR (anc : Array Nat) (j : Nat) (rk : RKx) : List AX → Prop
 | [] => True
 | x :: l => match x with
  | .change e a b ga gb => ((bcase (bit (anc.getD j 0) e) true (bit (anc.getD e 0) j)) = true ∨ (∃ i lc t s, rk = .blk i lc t s ∧ nth a i = some (.own lc t s) ∧ nth b i = some (.own lc t s)) ∨ ∃ g ra rb, rk = .part g ∧ Pick ga g ra ∧ Pick gb g rb) ∧ OrdR anc j rk l
  | _ => OrdR anc j rk l
def OrdL (anc : Array Nat) (al : List AX) : List AX → Prop
 | [] => True
 | x :: l => match x with
  | .read j => OrdR anc j .none al ∧ OrdL anc al l
  | .rdB j i lc t s => OrdR anc j (.blk i lc t s) al ∧ OrdL anc al l
  | .rdS _ => OrdL anc al l
  | .rdG j g => OrdR anc j (.part g) al ∧ OrdL anc al l
  | .change _ _ _ _ _ => OrdL anc al l
def BlkFact (P : Program) (κ : PlX) (o : Oper) (L0 : Sts) (v : HVal) : RKx → Prop
 | .none => True
 | .part g => HVal.beq v v = true ∧ ∀ h, g.holds h → OpV P o L0 h v h
 | .blk i lc t s => HVal.beq v v = true ∧ ∃ k, nth κ i = some (k, 0) ∧ ∀ h, h.get k = some (.cells lc t s true) → OpV P o L0 h v h
theorem pfx_nth {κa ta κ : PlX} {i : Nat} {p q : Nat × Nat} (e : κ = κa ++ ta) (h1 : nth κa i = some p) (h2 : nth κ i = some q) : p = q := by
 subst e
 rw [nth_append h1] at h2
 exact Option.some.inj h2
theorem OrdR.ok {anc : Array Nat} {j : Nat} {κ : PlX} {L0 : Sts} {v : HVal} {blk : RKx} (hb : BlkFact P κ o L0 v blk) : ∀ {al : List AX} {al0 : List AL}, AbsL P E κ al al0 → OrdR anc j blk al → ReadOk P anc j o L0 v al0
 | [], [], _, _ => trivial
 | [], _ :: _, h, _ => by cases h
 | x :: l, [], h, _ => by cases x <;> cases h
 | .read _ :: al, .read _ _ _ _ :: al0, h, r => OrdR.ok hb (al := al) (al0 := al0) h.2 r
 | .read _ :: _, .change _ _ _ :: _, h, _ => by cases h
 | .rdB _ _ _ _ _ :: al, .read _ _ _ _ :: al0, h, r => OrdR.ok hb (al := al) (al0 := al0) h.2 r
 | .rdB _ _ _ _ _ :: _, .change _ _ _ :: _, h, _ => by cases h
 | .rdS _ :: al, .read _ _ _ _ :: al0, h, r => OrdR.ok hb (al := al) (al0 := al0) h.2 r
 | .rdS _ :: _, .change _ _ _ :: _, h, _ => by cases h
 | .rdG _ _ :: al, .read _ _ _ _ :: al0, h, r => OrdR.ok hb (al := al) (al0 := al0) h.2 r
 | .rdG _ _ :: _, .change _ _ _ :: _, h, _ => by cases h
 | .change _ _ _ _ _ :: _, .read _ _ _ _ :: _, h, _ => by cases h
 | .change e a b ga gb :: al, .change e' ha hb' :: al0, h, r => by
  obtain ⟨⟨h1, ⟨κa, ta, e1, m1⟩, κb, tb, e2, m2⟩, h4⟩ := h
  refine ⟨?_, OrdR.ok hb (al := al) (al0 := al0) h4 r.2⟩
  rcases r.1 with g | ⟨i, lc, t, s, g1, g2, g3⟩ | ⟨g, ra, rb, g1, g2, g3⟩
  ·rw [h1] at g; exact .inl g
  ·subst g1
   obtain ⟨hbeq, k, hk, hv⟩ := hb
   obtain ⟨k1, hk1⟩ := m1.own _ _ _ _ g2
   obtain ⟨k2, hk2⟩ := m2.own _ _ _ _ g3
   have q1 := pfx_nth e1 hk1 hk
   have q2 := pfx_nth e2 hk2 hk
   cases q1
   cases q2
   have f1 := m1.chg.all _ (List.mem_append_left _ (partsB_mem g2 hk1))
   have f2 := m2.chg.all _ (List.mem_append_left _ (partsB_mem g3 hk2))
   exact .inr ⟨⟨_, _, hv _ f1, hv _ f2⟩, hbeq⟩
  ·subst g1
   obtain ⟨hbeq, hv⟩ := hb
   exact .inr ⟨⟨_, _, hv _ (m1.chg.all _ (List.mem_append_right _ g2.mem)), hv _ (m2.chg.all _ (List.mem_append_right _ g3.mem))⟩, hbeq⟩
theorem sure_ok {anc : Array Nat} {j : Nat} {κ : PlX} {L0 : Sts} {v : HVal} (hs : HVal.beq v v = true) (hv : ∀ h C', Chg E.C E.h C' h → OpV P o L0 h v h) : ∀ {al : List AX} {al0 : List AL}, AbsL P E κ al al0 → ReadOk P anc j o L0 v al0
 | [], [], _ => trivial
 | [], _ :: _, h => by cases h
 | x :: l, [], h => by cases x <;> cases h
 | .read _ :: al, .read _ _ _ _ :: al0, h => sure_ok hs hv (al := al) (al0 := al0) h.2
 | .read _ :: _, .change _ _ _ :: _, h => by cases h
 | .rdB _ _ _ _ _ :: al, .read _ _ _ _ :: al0, h => sure_ok hs hv (al := al) (al0 := al0) h.2
 | .rdB _ _ _ _ _ :: _, .change _ _ _ :: _, h => by cases h
 | .rdS _ :: al, .read _ _ _ _ :: al0, h => sure_ok hs hv (al := al) (al0 := al0) h.2
 | .rdS _ :: _, .change _ _ _ :: _, h => by cases h
 | .rdG _ _ :: al, .read _ _ _ _ :: al0, h => sure_ok hs hv (al := al) (al0 := al0) h.2
 | .rdG _ _ :: _, .change _ _ _ :: _, h => by cases h
 | .change _ _ _ _ _ :: _, .read _ _ _ _ :: _, h => by cases h
 | .change e a b ga gb :: al, .change e' ha hb' :: al0, h => by
  obtain ⟨⟨h1, ⟨κa, ta, e1, m1⟩, κb, tb, e2, m2⟩, h4⟩ := h
  exact ⟨.inr ⟨⟨_, _, hv _ _ m1.chg, hv _ _ m2.chg⟩, hs⟩, sure_ok hs hv (al := al) (al0 := al0) h4⟩
theorem OrdL.ok {anc : Array Nat} {κ : PlX} {al : List AX} {al0 : List AL} (ha : AbsL P E κ al al0) : ∀ {m : List AX} {m0 : List AL}, AbsL P E κ m m0 → OrdL anc al m → AlOk P anc al0 m0
 | [], [], _, _ => trivial
 | [], _ :: _, h, _ => by cases h
 | x :: l, [], h, _ => by cases x <;> cases h
 | .read j :: m, .read j' o L v :: m0, h, r => by
  have r1 := r.1
  rw [h.1] at r1
  exact ⟨OrdR.ok (blk := .none) trivial ha r1, OrdL.ok ha (m := m) (m0 := m0) h.2 r.2⟩
 | .read _ :: _, .change _ _ _ :: _, h, _ => by cases h
 | .rdB j i lc t s :: m, .read j' o L v :: m0, h, r => by
  obtain ⟨⟨h1, h2⟩, h3⟩ := h
  have r1 := r.1
  rw [h1] at r1
  exact ⟨OrdR.ok (blk := .blk i lc t s) h2 ha r1, OrdL.ok ha (m := m) (m0 := m0) h3 r.2⟩
 | .rdB _ _ _ _ _ :: _, .change _ _ _ :: _, h, _ => by cases h
 | .rdS j :: m, .read j' o L v :: m0, h, r => by
  obtain ⟨⟨h1, h2, h3⟩, h4⟩ := h
  exact ⟨sure_ok h2 h3 ha, OrdL.ok ha (m := m) (m0 := m0) h4 r⟩
 | .rdS _ :: _, .change _ _ _ :: _, h, _ => by cases h
 | .rdG j g :: m, .read j' o L v :: m0, h, r => by
  obtain ⟨⟨h1, h2⟩, h3⟩ := h
  have r1 := r.1
  rw [h1] at r1
  exact ⟨OrdR.ok (blk := .part g) h2 ha r1, OrdL.ok ha (m := m) (m0 := m0) h3 r.2⟩
 | .rdG _ _ :: _, .change _ _ _ :: _, h, _ => by cases h
 | .change _ _ _ _ _ :: _, .read _ _ _ _ :: _, h, _ => by cases h
 | .change e a b ga gb :: m, .change e' ha' hb' :: m0, h, r => OrdL.ok ha (m := m) (m0 := m0) h.2 r
theorem WCX.draw {id : Nat} (tab : Tab) (pl : List Nat) (anc : Array Nat) (hp : planOk P ops = true) (hl : planOf P ops = pl) (han : Region.before ops = anc) (hw : WDX P K E tab ops pl [] L B G m n fun al L' B' G' => OrdL anc al al ∧ ThenX E m n Q L' B' G') : WCX P K E (.region id ops true) L B G m n Q := by
 refine ⟨fun κ h L0 r M => WC.draw pl anc hp hl han (WD.mono (hw.run κ h L0 [] r M trivial) ?_)⟩
 rintro al1 L1 h1 ⟨al', κ', L2, B2, G2, ha, r2, M2, hord, ⟨L3, hk, g⟩⟩
 obtain ⟨L4, L5, g1, g2, g3⟩ := keepX_eq r2 hk
 cases g1
 exact ⟨OrdL.ok ha ha hord, _, g2, g.run κ' _ _ g3 M2⟩
end
end
end Go.HL
