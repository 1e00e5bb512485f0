/- Runs of HL, the state known by signs: rules by operation, code, call, region. No statement of the seat stands here. -/
import Derived.Test.YtngeipnhbigdmaaGreatDoorXA
set_option linter.unusedVariables false
set_option linter.unusedSimpArgs false
namespace Go.HL
open Go
noncomputable section
def O1 (E : eT) (R : SL → List cj → List Part → Prop) (L1 : c6) (h1 : Heap) : Prop := ∃ κ L B G, di κ L L1 ∧ Mem E κ B G h1 ∧ R L B G
def O2 (E : eT) (κ0 : j0) (R : SL → List cj → List Part → Prop) (L1 : c6) (h1 : Heap) : Prop := ∃ κ L B G, (∃ t, κ = κ0 ++ t) ∧ di κ L L1 ∧ Mem E κ B G h1 ∧ R L B G
theorem cW (κ : j0) : ∃ t, κ = κ ++ t := ⟨[], by simp⟩
def Fin (E : eT) (B : List cj) (G : List Part) (h : Heap) : Prop := ∃ κ, Mem E κ B G h
structure ca (P : Program) (K : ai) (E : eT) (ops : Array Oper) (o : Oper) (L : SL) (B : List cj) (G : List Part) (m n : Nat) (R : SL → List cj → List Part → Prop) : Prop where
 run : ∀ κ h L0, di κ L L0 → Mem E κ B G h → gy P K ops o L0 h m n (O2 E κ R)
structure w4 (P : Program) (K : ai) (E : eT) (ops : Array Oper) (l : List Oper) (L : SL) (B : List cj) (G : List Part) (m n : Nat) (R : SL → List cj → List Part → Prop) : Prop where
 run : ∀ κ h L0, di κ L L0 → Mem E κ B G h → WO P K ops l L0 h m n (O1 E R)
structure ag (P : Program) (K : ai) (E : eT) (c : Code) (L : SL) (B : List cj) (G : List Part) (m n : Nat) (Q : Ex → St → Prop) : Prop where
 run : ∀ κ h L0, di κ L L0 → Mem E κ B G h → WC P K c L0 h m n Q
structure aw (E : eT) (Q : Ex → St → Prop) (e : Ex) (L : SL) (B : List cj) (G : List Part) (m n : Nat) : Prop where
 run : ∀ κ h L0, di κ L L0 → Mem E κ B G h → To Q e L0 h m n
structure xR (E : eT) (m n : Nat) (Q : Ex → St → Prop) (L : SL) (B : List cj) (G : List Part) : Prop where
 run : ∃ L', uZ m L some = some L' ∧ aw E Q .dh L' B G m n
section
variable {P : Program} {K : ai} {E : eT} {ops : Array Oper} {o : Oper} {l : List Oper} {L L' : SL} {B B' : List cj} {G : List Part} {m n : Nat} {R : SL → List cj → List Part → Prop} {Q : Ex → St → Prop} {a b c : Code}
theorem WO.mono {L : c6} {h : Heap} {R R' : c6 → Heap → Prop} (w : WO P K ops l L h m n R) (hr : ∀ L h, R L h → R' L h) : WO P K ops l L h m n R' := ⟨fun s f => let ⟨s', L', h', a, b, c⟩ := w.run s f; ⟨s', L', h', a, b, hr _ _ c⟩⟩
theorem w4.nil (hr : R L B G) : w4 P K E ops [] L B G m n R := ⟨fun κ _ _ r M => WO.nil ⟨κ, _, _, _, r, M, hr⟩⟩
theorem w4.cons (ho : ca P K E ops o L B G m n fun L' B' G' => w4 P K E ops l L' B' G' m n R) : w4 P K E ops (o :: l) L B G m n R :=
 ⟨fun κ h L0 r M => WO.cons (gy.mono (ho.run κ h L0 r M) fun _ _ ⟨κ', _, _, _, _, r', M', w⟩ => w.run κ' _ _ r' M')⟩
theorem xR.intro (hk : uZ m L some = some L') (g : aw E Q .dh L' B G m n) : xR E m n Q L B G := ⟨L', hk, g⟩
theorem ag.g_ {id : Nat} (hw : w4 P K E ops ops.toList L B G m n (xR E m n Q)) : ag P K E (.region id ops false) L B G m n Q := by
 refine ⟨fun κ h L0 r M => WC.region (WO.mono (hw.run κ h L0 r M) ?_)⟩
 rintro L1 h1 ⟨κ', L2, B2, G2, r2, M2, ⟨L3, hk, g⟩⟩
 obtain ⟨L4, L5, g1, g2, g3⟩ := qt r2 hk
 cases g1
 exact ⟨_, g2, g.run κ' _ _ g3 M2⟩
theorem ag.s_ (hw : ag P K E a L B G m n (eb P K b Q)) : ag P K E (.seq a b) L B G m n Q := ⟨fun κ h L0 r M => .seq (hw.run κ h L0 r M)⟩
theorem ag.k_ (hw : aw E Q .dh L B G m n) : ag P K E .skip L B G m n Q := ⟨fun κ h L0 r M => .skip (hw.run κ h L0 r M)⟩
theorem ag.r_ (hw : aw E Q .ret L B G m n) : ag P K E .ret L B G m n Q := ⟨fun κ h L0 r M => .ret (hw.run κ h L0 r M)⟩
theorem ag.e_ {id : Nat} (hw : aw E Q (.exit id) L B G m n) : ag P K E (.exit id) L B G m n Q := ⟨fun κ h L0 r M => .exit (hw.run κ h L0 r M)⟩
theorem ag.b_ {id : Nat} (hw : ag P K E a L B G m n (dV id Q)) : ag P K E (.block id a) L B G m n Q := ⟨fun κ h L0 r M => .block (hw.run κ h L0 r M)⟩
theorem ag.t_ {x : Operand} (hx : cM P L x = some (.bool true)) (hw : ag P K E a L B G m n Q) : ag P K E (.cond x a b) L B G m n Q := ⟨fun κ h L0 r M => .cond_true (aF r hx) (hw.run κ h L0 r M)⟩
theorem ag.f_ {x : Operand} (hx : cM P L x = some (.bool false)) (hw : ag P K E b L B G m n Q) : ag P K E (.cond x a b) L B G m n Q := ⟨fun κ h L0 r M => .cond_false (aF r hx) (hw.run κ h L0 r M)⟩
theorem aw.a_ (hw : ag P K E b L B G m n Q) : aw E (eb P K b Q) .dh L B G m n := ⟨fun κ h L0 r M => .ID (hw.run κ h L0 r M)⟩
theorem aw.e_ {id : Nat} (g : aw E Q (.exit id) L B G m n) : aw E (eb P K b Q) (.exit id) L B G m n := ⟨fun κ h L0 r M => .Hu (g.run κ h L0 r M)⟩
theorem aw.d_ (g : aw E Q .ret L B G m n) : aw E (eb P K b Q) .ret L B G m n := ⟨fun κ h L0 r M => .Io (g.run κ h L0 r M)⟩
theorem aw.b_ {id : Nat} (g : aw E Q .dh L B G m n) : aw E (dV id Q) .dh L B G m n := ⟨fun κ h L0 r M => .EJ (g.run κ h L0 r M)⟩
theorem aw.f_ {id : Nat} (g : aw E Q .ret L B G m n) : aw E (dV id Q) .ret L B G m n := ⟨fun κ h L0 r M => .Eg (g.run κ h L0 r M)⟩
theorem aw.c_ {id : Nat} (g : aw E Q .dh L B G m n) : aw E (dV id Q) (.exit id) L B G m n := ⟨fun κ h L0 r M => .CB (g.run κ h L0 r M)⟩
/-! ## Operations -/
def bf (d : Option Nat) (v : SV) (L : SL) : SL := match d with
 | none => L
 | some d => (d, v) :: L
theorem di.put {κ : j0} {L0 : c6} (r : di κ L L0) {v : SV} {w : ad} (h : zc κ v w) (d : Option Nat) : di κ (bf d v L) (jj d w L0) := by
 cases d with
 | none => exact r
 | some d => exact .cons h r
variable {ax : iF} {zl : List (Nat × List ad)}
def u0 (P : Program) (ax : iF) (zl : List (Nat × List ad)) (ops : Array Oper) (o : Oper) (L : SL) (B : List cj) (n : Nat) : Option (SV × List cj) :=
 ae (fits o.dst n) (match aU ops o L with
  | some true => LX P ax zl L B o.op
  | some false => some (.ext bD, B)
  | none => none) none
theorem ca.comp {sv : SV} (hw : aU ops o L = some true) (hf : fits o.dst n = true) (hc : ∀ κ h L0, di κ L L0 → Mem E κ B G h → I9 P o L0 h E κ G sv B') (hr : R (bf o.dst sv L) B' G) : ca P K E ops o L B G m n R := by
 refine ⟨fun κ h L0 r M => ?_⟩
 obtain ⟨κ', v, h', hv, hrep, M', t, rfl⟩ := hc κ h L0 r M
 exact gy.val hv (bc r hw) hf ⟨_, _, _, _, ⟨t, rfl⟩, r.more.put hrep o.dst, M', hr⟩
theorem ca.skip (hw : aU ops o L = some false) (hf : fits o.dst n = true) (hr : R (bf o.dst (.ext bD) L) B G) : ca P K E ops o L B G m n R := by
 refine ⟨fun κ h L0 r M => ?_⟩
 have hg : ∃ g, o.guard = some g := by
  unfold aU at hw
  split at hw
  ·cases hw
  ·rename_i g hg; exact ⟨g, hg⟩
 obtain ⟨g, hg⟩ := hg
 exact gy.skip hg (bc r hw) hf ⟨κ, _, _, _, cW κ, r.put (.ext _) o.dst, M, hr⟩
theorem Bv {sv : SV} (h : u0 P ax zl ops o L B n = some (sv, B')) : fits o.dst n = true ∧ (aU ops o L = some true ∧ LX P ax zl L B o.op = some (sv, B') ∨ aU ops o L = some false ∧ sv = .ext bD ∧ B' = B) := by
 unfold u0 at h
 cases hf : fits o.dst n with
 | false => rw [hf] at h; cases h
 | true =>
  rw [hf, bcT] at h
  cases hw : aU ops o L with
  | none => rw [hw] at h; cases h
  | some w =>
   rw [hw] at h
   cases w with
   | true => exact ⟨rfl, .inl ⟨rfl, h⟩⟩
   | false => cases h; exact ⟨rfl, .inr ⟨rfl, rfl, rfl⟩⟩
theorem q {sv : SV} (hX : TK P ax zl) (he : u0 P ax zl ops o L B n = some (sv, B')) (hr : R (bf o.dst sv L) B' G) : ca P K E ops o L B G m n R := by
 obtain ⟨hf, ⟨hw, he⟩ | ⟨hw, rfl, rfl⟩⟩ := Bv he
 ·exact .comp hw hf (fun κ h L0 r M => xy hX r M he) hr
 ·exact .skip hw hf hr
theorem qb {b : Bool} (hX : TK P ax zl) (he : u0 P ax zl ops o L B n = some (.ext (.bool b), B')) (h1 : b = true → R (bf o.dst (.ext (.bool true)) L) B' G) (h0 : b = false → R (bf o.dst (.ext (.bool false)) L) B' G) : ca P K E ops o L B G m n R := by
 cases b with
 | true => exact q hX he (h1 rfl)
 | false => exact q hX he (h0 rfl)
def M5 : BinOp → Int → Int → Option Prop
 | .eql, a, b => some (a = b)
 | .neq, a, b => some (¬ a = b)
 | .lss, a, b => some (a < b)
 | .leq, a, b => some (a ≤ b)
 | .gtr, a, b => some (b < a)
 | .geq, a, b => some (b ≤ a)
 | _, _, _ => none
def Gc (P : Program) (ops : Array Oper) (o : Oper) (L : SL) (n : Nat) : Option Prop :=
 ae (fits o.dst n) (match aU ops o L with
  | some true => match o.op with
   | .binOp bo _ x y _ => ob (cM P L x) fun a => ob (cM P L y) fun b => match a with
    | .int k a => match b with
     | .int j b => ae (sameKind k j) (M5 bo a b) none
     | _ => none
    | .str s c => match b with
     | .str s' c' => match bo with
      | .eql => some (s = s' ∧ c = c')
      | .neq => some (¬ (s = s' ∧ c = c'))
      | _ => none
     | _ => none
    | _ => none
   | _ => none
  | _ => none) none
theorem V.Kl {L : c6} {h : Heap} {t p : Nat} {x y : Operand} {n c m d : Nat} (ho : o.op = .binOp .neq t x y p) (hx : eI P L x = some (.str n c)) (hy : eI P L y = some (.str m d)) : cD P o L h (.bool (decide (¬ (n = m ∧ c = d)))) h := cD.mk ho fun ev ha d ty ps aft g => by
 simp only [bO, evS ha hx, evS ha hy, jK, eH, tZ, HL.val, obS, zx, bm, bcE]
 by_cases h1 : n = m <;> by_cases h2 : c = d <;> simp [h1, h2]
theorem qc {p : Prop} (he : Gc P ops o L n = some p) (h1 : p → R (bf o.dst (.ext (.bool true)) L) B G) (h0 : ¬ p → R (bf o.dst (.ext (.bool false)) L) B G) : ca P K E ops o L B G m n R := by
 classical
 have main : fits o.dst n = true ∧ aU ops o L = some true ∧ ∀ κ h L0, di κ L L0 → ∃ d : Decidable p, cD P o L0 h (.bool (@decide p d)) h := by
  unfold Gc at he
  cases hf : fits o.dst n with
  | false => rw [hf] at he; cases he
  | true =>
   rw [hf, bcT] at he
   split at he
   ·rename_i hw
    refine ⟨rfl, hw, fun κ h L0 r => ?_⟩
    split at he
    ·rename_i bo t x y pp ho
     obtain ⟨va, e1, e2⟩ := aa.1 he
     obtain ⟨vb, e3, e4⟩ := aa.1 e2
     have f1 := aF r e1
     have f2 := aF r e3
     split at e4
     ·split at e4
      ·obtain ⟨hk, e5⟩ := dr e4
       cases bo <;> simp only [M5] at e5 <;> (try (cases e5; done)) <;> cases e5
       all_goals exact ⟨inferInstance, V.cmp ho f1 f2 hk rfl⟩
      ·cases e4
     ·split at e4
      ·cases bo <;> simp only at e4 <;> (try (cases e4; done)) <;> cases e4
       ·exact ⟨inferInstance, V.Nv ho f1 f2⟩
       ·exact ⟨inferInstance, V.Kl ho f1 f2⟩
      ·cases e4
     ·cases e4
    ·cases he
   ·cases he
 obtain ⟨hf, hw, hv⟩ := main
 refine ⟨fun κ h L0 r M => ?_⟩
 obtain ⟨d, hv⟩ := hv κ h L0 r
 by_cases hp : p
 ·have : @decide p d = true := decide_eq_true hp
  rw [this] at hv
  exact gy.val hv (bc r hw) hf ⟨κ, _, _, _, cW κ, r.put (.ext _) o.dst, M, h1 hp⟩
 ·have : @decide p d = false := decide_eq_false hp
  rw [this] at hv
  exact gy.val hv (bc r hw) hf ⟨κ, _, _, _, cW κ, r.put (.ext _) o.dst, M, h0 hp⟩
theorem qv {v : ad} (hw : aU ops o L = some true) (hf : fits o.dst n = true) (hv : ∀ κ h L0, di κ L L0 → Mem E κ B G h → cD P o L0 h v h) (hr : R (bf o.dst (.ext v) L) B G) : ca P K E ops o L B G m n R :=
 .comp hw hf (fun κ h L0 r M => .same (hv κ h L0 r M) (.ext _) M) hr
def Li : BinOp → Int → Int → Option Int
 | .add, a, b => some (a + b)
 | .sub, a, b => some (a - b)
 | .mul, a, b => some (a * b)
 | _, _, _ => none
theorem qa {bo : BinOp} {t p : Nat} {x y : Operand} {k j : IntKind} {a b c d : Int} (ho : o.op = .binOp bo t x y p) (hx : cM P L x = some (.int k a)) (hy : cM P L y = some (.int j b)) (hk : sameKind k j = true) (hs : Li bo a b = some c) (hd : dj k c = d) (hw : aU ops o L = some true) (hf : fits o.dst n = true) (hr : R (bf o.dst (.ext (.int k d)) L) B G) : ca P K E ops o L B G m n R := by
 refine qv hw hf (fun κ h L0 r M => ?_) hr
 have hk' := eC hk
 subst hk'
 refine V.bin ho (aF r hx) (aF r hy) ?_
 cases bo <;> simp only [Li] at hs <;> (try (cases hs; done)) <;> cases hs <;> rw [← hd]
 ·exact Ji
 ·exact Je
 ·exact Jh
theorem qn {bo : BinOp} {t p : Nat} {x y : Operand} {k j : IntKind} {a b : Int} {v : ad} (ho : o.op = .binOp bo t x y p) (hx : cM P L x = some (.int k a)) (hy : cM P L y = some (.int j b)) (hd : eH P bo t (.int k a) (.int j b) = some v) (hw : aU ops o L = some true) (hf : fits o.dst n = true) (hr : R (bf o.dst (.ext v) L) B G) : ca P K E ops o L B G m n R :=
 qv hw hf (fun κ h L0 r M => V.bin ho (aF r hx) (aF r hy) hd) hr
theorem qw {s t u w : Nat} {x : Operand} {k j k' : IntKind} {a b : Int} (hX : TK P ax zl) (ho : o.op = .convert s t x) (hs : bN ax s = some (.int k, u)) (ht : bN ax t = some (.int k', w)) (hx : cM P L x = some (.int j a)) (hd : dj k' a = b) (hw : aU ops o L = some true) (hf : fits o.dst n = true) (hr : R (bf o.dst (.ext (.int k' b)) L) B G) : ca P K E ops o L B G m n R :=
 qv hw hf (fun κ h L0 r M => V.M3 hX.ax ho hs ht (aF r hx) hd) hr
theorem ql {cl : Call} {x : Operand} {t e q c : Nat} {v : ad} (hX : TK P ax zl) (ho : o.op = .call cl) (hc : cl.callee = .builtin .len) (hx : cl.args = #[x]) (hts : cl.argTypes[0]? = some t) (ht : bN ax t = some (.slice e, q)) (hs : cM P L x = some v) (hm : dA v = some c) (hw : aU ops o L = some true) (hf : fits o.dst n = true) (hr : R (bf o.dst (.ext (.int .i64 (c : Int))) L) B G) : ca P K E ops o L B G m n R :=
 qv hw hf (fun κ h L0 r M => V.len hX.ax ho hc hx hts ht (aF r hs) hm) hr
theorem qs {t u s c j : Nat} {x y : Operand} {kd : IntKind} (hX : TK P ax zl) (ho : o.op = .index t x y) (ht : bN ax t = some (.str, u)) (hx : cM P L x = some (.str s c)) (hy : cM P L y = some (.int kd (.ofNat j))) (hj : j < s) (hw : aU ops o L = some true) (hf : fits o.dst n = true) (hr : R (bf o.dst (.ext (.int .u8 (Int.ofNat (dP s c j)))) L) B G) : ca P K E ops o L B G m n R :=
 qv hw hf (fun κ h L0 r M => V.Kv hX.ax ho ht (aF r hx) (aF r hy) hj) hr
end
end
theorem Y {P : Program} {K : ai} {E : eT} {ops : Array Oper} {L L' : SL} {B : List cj} {G : List Part} {m n : Nat} {Q : Ex → St → Prop} (hk : uZ m L some = some L') (g : aw E Q .dh L' B G m n) : w4 P K E ops [] L B G m n (xR E m n Q) := .nil (.intro hk g)
theorem X {P : Program} {K : ai} {E : eT} {ops : Array Oper} {L : SL} {B : List cj} {G : List Part} {m n : Nat} {Q : Ex → St → Prop} (id : Nat) (hw : w4 P K E ops ops.toList L B G m n (xR E m n Q)) : ag P K E (.region id ops false) L B G m n Q := ag.g_ hw
theorem Z {α : Sort _} {a : α} : a = a := rfl
end Go.HL
namespace Go.HL
open Go
noncomputable section
section
variable {P : Program} {K : ai} {E : eT} {ops : Array Oper} {o : Oper} {l : List Oper} {L L' : SL} {B B' : List cj} {G G' : List Part} {m n : Nat} {R : SL → List cj → List Part → Prop} {Q : Ex → St → Prop} {a b c : Code} {ax : iF} {zl : List (Nat × List ad)} {h h' : Heap}
/-! ## The memory now -/
theorem Fin.wf (f : Fin E B G h) : Wf h := let ⟨_, M⟩ := f; M.wf
theorem Fin.ro (f : Fin E B G h) {a : Part} (r : Ro E.C E.h a) : a.holds h := let ⟨_, M⟩ := f; r.at M.aS
theorem Fin.mem (f : Fin E B G h) {a : Part} (r : a ∈ G) : a.holds h := let ⟨_, M⟩ := f; M.aS.all a (List.mem_append_right _ r)
theorem Fin.pick (f : Fin E B G h) {a : Part} {G2 : List Part} (r : aI G a G2) : a.holds h := f.mem r.mem
theorem fL.right {C A B : List Part} {h h' : Heap} (c : fL C h (A ++ B) h') : fL C h B h' := (c.perm List.perm_append_comm).drop
theorem Fin.aS {C : List Part} {h0 : Heap} {κ : j0} (f : Fin ⟨C, h0, κ⟩ B G h) : fL C h0 G h := let ⟨_, M⟩ := f; M.aS.right
/-! ## Functions -/
def IC : List ad → Option SL
 | [] => some []
 | [a] => some [(0, .ext a)]
 | [a, b] => some [(0, .ext a), (1, .ext b)]
 | [a, b, c] => some [(0, .ext a), (1, .ext b), (2, .ext c)]
 | [a, b, c, d] => some [(0, .ext a), (1, .ext b), (2, .ext c), (3, .ext d)]
 | [a, b, c, d, e] => some [(0, .ext a), (1, .ext b), (2, .ext c), (3, .ext d), (4, .ext e)]
 | [a, b, c, d, e, f] => some [(0, .ext a), (1, .ext b), (2, .ext c), (3, .ext d), (4, .ext e), (5, .ext f)]
 | [a, b, c, d, e, f, g] => some [(0, .ext a), (1, .ext b), (2, .ext c), (3, .ext d), (4, .ext e), (5, .ext f), (6, .ext g)]
 | _ => none
theorem zU {κ : j0} {args : List ad} (hn : IC args = some L) : di κ L (ck args 0) := by
 unfold IC at hn
 split at hn <;> first | (cases hn; repeat' (first | exact .nil | refine .cons (.ext _) ?_)) | cases hn
theorem Sp.all {f : Nat} {fn : Func} {c : Code} {args : List ad} {R : ad → Heap → Prop} (hK : K f args h = none) (hf : P.funcs[f]? = some fn) (hb : fn.body = some c) (hlt : Nat.blt f b7 = true)
  (hm : Nat.lor (jm fn) (Nat.sub (Nat.pow 2 args.length) 1) = m) (hl : Nat.add args.length (Nat.sub fn.ntmps args.length) = n)
  (hw : WC P K c (ck args 0) h m n (JV P fn R)) : Sp P K f args h R := by
 obtain ⟨e, s', r, he, hd, v, hv, hr⟩ := hw.run _ (Fr.enter rfl)
 refine ⟨v, s'.heap, ?_, hr⟩
 refine s7.of_wp hK hf hb ?_ hm hl ⟨e, s', r, he, hd, hv, rfl⟩
 rw [fe] at hlt
 exact of_decide_eq_true hlt
theorem Mem.start (w : Wf h) : Mem ⟨[], h, []⟩ [] [] [] h := ⟨fL.refl w, ⟨[], rfl⟩, rfl, fun i l e s hb => (by rw [cf] at hb; simp at hb), fun i l hb => (by rw [cf] at hb; simp at hb), fun i l hb => (by rw [cf] at hb; simp at hb)⟩
theorem Sp.start {f : Nat} {fn : Func} {c : Code} {args : List ad} {R : ad → Heap → Prop} (w : Wf h) (hK : K f args h = none) (hf : P.funcs[f]? = some fn) (hb : fn.body = some c) (hlt : Nat.blt f b7 = true)
  (hm : Nat.lor (jm fn) (Nat.sub (Nat.pow 2 args.length) 1) = m) (hl : Nat.add args.length (Nat.sub fn.ntmps args.length) = n) (hn : IC args = some L)
  (hw : ag P K ⟨[], h, []⟩ c L [] [] m n (JV P fn R)) : Sp P K f args h R :=
 Sp.all hK hf hb hlt hm hl (hw.run [] h _ (zU hn) (Mem.start w))
def eD : List ad → Option SL
 | [] => some [(0, .ptr 0 0)]
 | [b] => some [(0, .ptr 0 0), (1, .ext b)]
 | [b, c] => some [(0, .ptr 0 0), (1, .ext b), (2, .ext c)]
 | [b, c, d] => some [(0, .ptr 0 0), (1, .ext b), (2, .ext c), (3, .ext d)]
 | [b, c, d, e] => some [(0, .ptr 0 0), (1, .ext b), (2, .ext c), (3, .ext d), (4, .ext e)]
 | _ => none
def yc (ax : iF) (L : SL) (B : List cj) : List ResultVar → Option (List ad)
 | [] => some []
 | r :: l => match r with
  | .tmp t => ob (fY L t) fun v => ob (Ht v) fun v => ob (yc ax L B l) fun vs => some (v :: vs)
  | .cell a t => ob (fY L a) fun v => match v with
   | .ptr i off => ob (nth B i) fun b => ob b.cells fun cs => ob (bN ax t) fun w => ae w.1.agg (eV (jz cs off) w.2 fun m => ob (yc ax L B l) fun vs => some (.agg m :: vs)) (ob (nth cs off) fun v => ob (yc ax L B l) fun vs => some (v :: vs))
   | _ => none
theorem lJ (hX : TK P ax zl) {κ : j0} {L0 : c6} {s : St} (r : di κ L L0) (M : Mem E κ B G h) (f : Fr m n L0 h s) : ∀ {l : List ResultVar} {vs : List ad}, yc ax L B l = some vs → dQ P s l = some vs
 | [], vs, e => e
 | rv :: l, vs, e => by
  cases rv with
  | tmp t =>
   simp only [yc] at e
   obtain ⟨x, e1, e2⟩ := aa.1 e
   obtain ⟨v, e3, e4⟩ := aa.1 e2
   obtain ⟨vs', e5, e6⟩ := aa.1 e4
   cases e6
   obtain ⟨w, g1, g2⟩ := r.look e1
   cases x <;> simp only [Ht] at e3 <;> (try (cases e3; done))
   cases e3
   cases g2
   simp only [dQ, lJ hX r M f e5, obS, f.env t v g1]
  | cell a t =>
   simp only [yc] at e
   obtain ⟨x, e1, e2⟩ := aa.1 e
   obtain ⟨w, g1, g2⟩ := r.look e1
   cases x <;> simp only at e2 <;> (try (cases e2; done))
   obtain ⟨b, e3, e4⟩ := aa.1 e2
   obtain ⟨cs, e5, e6⟩ := aa.1 e4
   obtain ⟨⟨ti, q⟩, e7, e8⟩ := aa.1 e6
   cases g2 with
   | @ptr _ off k o hk =>
    obtain ⟨k2, o2, g3, g4⟩ := M.row e3 e5
    rw [hk] at g3
    cases g3
    have g5 := f.env _ _ g1
    cases hag : ti.agg with
    | true =>
     simp only [hag, bcT] at e8
     obtain ⟨m2, e9, e10⟩ := tW e8
     obtain ⟨vs', e11, e12⟩ := aa.1 e10
     cases e12
     have g6 : m2.length = q := by
      rw [br] at e9
      split at e9
      ·rename_i hle
       rw [← Option.some.inj e9, List.length_take, Nat.min_eq_left hle]
      ·cases e9
     have g7 := (g4.sub e9).load
     rw [g6] at g7
     simp only [dQ, g5, ad.dv, obS, f.heap, loadT, iM hX.ax e7, hag, bcT, (cA hX.ax e7).2, g7, lJ hX r M f e11]
    | false =>
     simp only [hag, bcF] at e8
     obtain ⟨v, e9, e10⟩ := aa.1 e8
     obtain ⟨vs', e11, e12⟩ := aa.1 e10
     cases e12
     simp only [dQ, g5, ad.dv, obS, f.heap, loadT, iM hX.ax e7, hag, bcF, g4.nth e9, lJ hX r M f e11]
theorem aw.fn {fn : Func} {R : ad → Heap → Prop} {vs : List ad} {e : Ex} (hX : TK P ax zl) (he : e = .dh ∨ e = .ret) (hv : yc ax L B fn.results.toList = some vs) (hr : ∀ h, Fin E B G h → R (aP vs) h) : aw E (JV P fn R) e L B G m n := by
 refine ⟨fun κ h L0 r M => ⟨fun s f => ⟨he, f.defers, aP vs, ?_, by rw [f.heap]; exact hr h ⟨κ, M⟩⟩⟩⟩
 unfold jQ
 rw [lJ hX r M f hv, obS]
 cases vs with
 | nil => rfl
 | cons v l => cases l <;> rfl
theorem aw.r_ {fn : Func} {R : ad → Heap → Prop} {vs : List ad} (hX : TK P ax zl) (hv : yc ax L B fn.results.toList = some vs) (hr : ∀ h, Fin E B G h → R (aP vs) h) : aw E (JV P fn R) .ret L B G m n := .fn hX (.inr rfl) hv hr
theorem aw.n_ {fn : Func} {R : ad → Heap → Prop} {vs : List ad} (hX : TK P ax zl) (hv : yc ax L B fn.results.toList = some vs) (hr : ∀ h, Fin E B G h → R (aP vs) h) : aw E (JV P fn R) .dh L B G m n := .fn hX (.inl rfl) hv hr
/-! ## Less is known -/
def DT : SL → SL → Prop
 | [], _ => True
 | (i, v) :: l, L => fY L i = some v ∧ DT l L
def inside (b : Nat) : SL → Bool
 | [] => true
 | (_, v) :: l => match v with
  | .ext _ => inside b l
  | .ptr i _ => ae (Nat.blt i b) (inside b l) false
  | .sl i _ => ae (Nat.blt i b) (inside b l) false
def gv : List cj → Bool
 | [] => true
 | b :: B => match b with
  | .tmp _ => false
  | _ => gv B
theorem qd {α : Type} {l : List α} {i b : Nat} {a : α} (hi : i < b) (h : nth l i = some a) : nth (l.take b) i = some a := by
 rw [cf] at h ⊢
 rw [List.getElem?_take, if_pos hi]; exact h
theorem nO {κ : j0} {L0 : c6} {b : Nat} (r : di κ L L0) : ∀ {S : SL}, DT S L → inside b S = true → ∃ S0, di (κ.take b) S S0 ∧ FX S0 L0
 | [], _, _ => ⟨[], .nil, trivial⟩
 | (i, v) :: S, hs, hc => by
  obtain ⟨w, g1, g2⟩ := r.look hs.1
  cases v with
  | ext u =>
   obtain ⟨S0, h1, h2⟩ := nO r hs.2 (show inside b S = true from hc)
   cases g2
   exact ⟨(i, _) :: S0, .cons (.ext _) h1, g1, h2⟩
  | ptr j off =>
   obtain ⟨h3, h4⟩ := bcFe.1 (show ae (Nat.blt j b) (inside b S) false = true from hc)
   rw [fe] at h3
   obtain ⟨S0, h1, h2⟩ := nO r hs.2 h4
   cases g2 with
   | ptr hk => exact ⟨(i, _) :: S0, .cons (.ptr (qd (of_decide_eq_true h3) hk)) h1, g1, h2⟩
  | sl j q =>
   obtain ⟨h3, h4⟩ := bcFe.1 (show ae (Nat.blt j b) (inside b S) false = true from hc)
   rw [fe] at h3
   obtain ⟨S0, h1, h2⟩ := nO r hs.2 h4
   cases g2 with
   | sl hk => exact ⟨(i, _) :: S0, .cons (.sl (qd (of_decide_eq_true h3) hk)) h1, g1, h2⟩
theorem rB : ∀ {B : List cj}, gv B = true → ∀ {i : Nat} {l : List ad}, nth B i ≠ some (.tmp l)
 | [], _, i, l, h => by rw [cf] at h; simp at h
 | b :: B, hn, 0, l, h => by
  rw [cf] at h
  simp at h
  subst h
  cases hn
 | b :: B, hn, i + 1, l, h => by
  rw [cf] at h
  simp only [List.getElem?_cons_succ] at h
  rw [← cf] at h
  have : gv B = true := by cases b <;> first | exact hn | cases hn
  exact rB this h
theorem oH : ∀ {B B2 : List cj} {κ κ2 : j0}, κ.length = B.length → bj (B ++ B2) (κ ++ κ2) = bj B κ ++ bj B2 κ2
 | [], B2, [], κ2, _ => rfl
 | [], _, _ :: _, _, h => by simp at h
 | _ :: _, _, [], _, h => by simp at h
 | b :: B, B2, p :: κ, κ2, h => by
  have ih := oH (B := B) (B2 := B2) (κ := κ) (κ2 := κ2) (by simpa using h)
  cases b <;> simp [bj, ih]
theorem Mem.less {κ : j0} {B2 : List cj} (M : Mem E κ (B ++ B2) G h) (hE : Nat.ble E.κ.length B.length = true) (hn : gv B = true) {R : List Part} (hG : qU G G' R) : Mem E (κ.take B.length) B G' h := by
 have hle : B.length ≤ κ.length := by rw [M.len]; simp
 have hlen : (κ.take B.length).length = B.length := by rw [List.length_take, Nat.min_eq_left hle]
 have hsp : bj (B ++ B2) κ = bj B (κ.take B.length) ++ bj B2 (κ.drop B.length) := by
  rw [← oH hlen, List.take_append_drop]
 have c := M.aS
 rw [hsp] at c
 rw [eE] at hE
 have hE := of_decide_eq_true hE
 refine ⟨?_, ?_, hlen, ?_, ?_, ?_⟩
 ·have p : List.Perm ((bj B (κ.take B.length) ++ bj B2 (κ.drop B.length)) ++ G) ((bj B (κ.take B.length) ++ G') ++ (bj B2 (κ.drop B.length) ++ R)) := by
   refine (List.Perm.append_left _ hG.perm).trans ?_
   rw [List.append_assoc, List.append_assoc]
   refine List.Perm.append_left _ ?_
   rw [← List.append_assoc, ← List.append_assoc]
   exact List.Perm.append_right _ List.perm_append_comm
  exact (c.perm p).drop
 ·obtain ⟨t, ht⟩ := M.pre
  refine ⟨t.take (B.length - E.κ.length), ?_⟩
  rw [ht, List.take_append, List.take_of_length_le hE]
 ·intro i l e s hb
  obtain ⟨k, hk⟩ := M.own i l e s (cX hb)
  refine ⟨k, qd ?_ hk⟩
  rw [cf] at hb
  exact (List.getElem?_eq_some_iff.1 hb).1
 ·intro i l hb
  obtain ⟨k, o, hk, hr⟩ := M.ro i l (cX hb)
  refine ⟨k, o, qd ?_ hk, hr⟩
  rw [cf] at hb
  exact (List.getElem?_eq_some_iff.1 hb).1
 ·intro i l hb
  exact absurd hb (rB hn)
theorem ag.sub {B2 : List cj} {R : List Part} (hs : DT L' L) (hc : inside B'.length L' = true) (hE : Nat.ble E.κ.length B'.length = true) (hn : gv B' = true) (hB : B = B' ++ B2) (hG : qU G G' R) (hw : ag P K E c L' B' G' m n Q) : ag P K E c L B G m n Q := by
 subst hB
 refine ⟨fun κ h L0 r M => ?_⟩
 obtain ⟨S0, h1, h2⟩ := nO r hs hc
 exact WC.sub h2 (hw.run _ h _ h1 (M.less hE hn hG))
structure Fit (S : SL) (B : List cj) (G : List Part) (L' : SL) (B' : List cj) (G' : List Part) : Prop where
 sub : DT S L'
 bM : ∃ B2, B' = B ++ B2
 parts : ∃ R, qU G' G R
theorem ag.fit (f : Fit L' B' G' L B G) (hc : inside B'.length L' = true) (hE : Nat.ble E.κ.length B'.length = true) (hn : gv B' = true) (hw : ag P K E c L' B' G' m n Q) : ag P K E c L B G m n Q :=
 let ⟨_, hB⟩ := f.bM; let ⟨_, hG⟩ := f.parts; ag.sub f.sub hc hE hn hB hG hw
theorem ag.loop {ι : Type} (S : ι → SL) (Bs : ι → List cj) (Gs : ι → List Part) (I : ι → Prop) (μ : ι → Nat) (i0 : ι) (hf : Fit (S i0) (Bs i0) (Gs i0) L B G) (hi : I i0)
  (hc : ∀ i, inside (Bs i).length (S i) = true) (hE : ∀ i, Nat.ble E.κ.length (Bs i).length = true) (hn : ∀ i, gv (Bs i) = true)
  (step : ∀ i, I i → (∀ j L' B' G', μ j < μ i → Fit (S j) (Bs j) (Gs j) L' B' G' → I j → ag P K E (.loop a) L' B' G' m n Q) →
   ag P K E a (S i) (Bs i) (Gs i) m n (eb P K (.loop a) Q)) : ag P K E (.loop a) L B G m n Q := by
 have main : ∀ (k : Nat) (i : ι), μ i < k → I i → ag P K E (.loop a) (S i) (Bs i) (Gs i) m n Q := by
  intro k
  induction k with
  | zero => exact fun i hk => absurd hk (by omega)
  | succ k ih =>
   intro i hk hi
   have := step i hi fun j L' B' G' hlt hf hj => ag.fit hf (hc j) (hE j) (hn j) (ih j (by omega) hj)
   exact ⟨fun κ h L0 r M => WC.loop (this.run κ h L0 r M)⟩
 exact ag.fit hf (hc i0) (hE i0) (hn i0) (main (μ i0 + 1) i0 (by omega) hi)
theorem pY (e w : Nat) (h : Heap) : (aH e w .aD []).holds h := ⟨⟨none, .aD⟩, fun r hr => by simp at hr⟩
theorem Mem.KX {κ : j0} (M : Mem E κ B G h) (e w : Nat) : Mem E κ B (aH e w .aD [] :: G) h := by
 have c := M.aS
 refine ⟨?_, M.pre, M.len, M.own, M.ro, fun i l hb => ?_⟩
 ·refine fL.perm (B := aH e w .aD [] :: (bj B κ ++ G)) ?_ ⟨c.wf, c.next, c.jJ, ?_, ?_, ?_⟩
  ·exact List.perm_middle.symm
  ·intro r hr
   rcases List.mem_cons.1 hr with rfl | hr
   ·exact pY e w h
   ·exact c.all r hr
  ·exact List.pairwise_cons.2 ⟨fun r _ k hk => (by cases hk), c.vz⟩
  ·intro r hr k hk
   rcases List.mem_cons.1 hr with rfl | hr
   ·cases hk
   ·exact c.own r hr k hk
 ·obtain ⟨k, o, g1, g2, g, g3, g4⟩ := M.tmp i l hb
  exact ⟨k, o, g1, g2, g, by simp [g3], g4⟩
theorem ag.nil (e w : Nat) (hw : ag P K E c L B (aH e w .aD [] :: G) m n Q) : ag P K E c L B G m n Q := ⟨fun κ h L0 r M => hw.run κ h L0 r (M.KX e w)⟩
/-! ## Calls -/
def Tr (φ : ad → List Part → Prop) (h : Heap) (v : ad) (h' : Heap) : Prop := ∃ C', fL [] h C' h' ∧ φ v C'
def dE (v0 : ad) (h : Heap) (v : ad) (h' : Heap) : Prop := v = v0 ∧ fL [] h [] h'
def w0 (P : Program) (L : SL) : List Operand → Option (List ad)
 | [] => some []
 | x :: l => ob (cM P L x) fun v => ob (w0 P L l) fun vs => some (v :: vs)
theorem vZ {κ : j0} {L0 : c6} (r : di κ L L0) : ∀ {l : List Operand} {vs : List ad}, w0 P L l = some vs → vY P L0 l = some vs
 | [], vs, e => e
 | x :: l, vs, e => by
  simp only [w0] at e
  obtain ⟨v, e1, e2⟩ := aa.1 e
  obtain ⟨q, e3, e4⟩ := aa.1 e2
  simp only [vY, aF r e1, obS, vZ r e3, e4]
theorem Mem.call {κ : j0} (M : Mem E κ B G h) {C' : List Part} (d : fL [] h C' h') : Mem E κ B (C' ++ G) h' := by
 have c := M.aS.trans (D := []) (R := bj B κ ++ G) (List.Perm.refl _) d
 refine ⟨c.perm ?_, M.pre, M.len, M.own, M.ro, fun i l hb => ?_⟩
 ·rw [← List.append_assoc, ← List.append_assoc]
  exact List.Perm.append_right _ List.perm_append_comm
 ·obtain ⟨k, o, g1, g2, g, g3, g4⟩ := M.tmp i l hb
  exact ⟨k, o, g1, g2.jJ (M.stay d k ⟨g, g3, g4⟩), g, by simp [g3], g4⟩
theorem gq {cl : Call} {x : Operand} {f : Nat} {args : List ad} {φ : ad → List Part → Prop} (ho : o.op = .call cl) (hc : cl.callee = .value x) (hx : cM P L x = some (.func f [] [])) (ha : w0 P L cl.args.toList = some args) (hf : ar P f) (hw : aU ops o L = some true) (hfit : fits o.dst n = true)
  (hs : ∀ h, Fin E B G h → Sp P K f args h (Tr φ h)) (hr : ∀ v C', φ v C' → R (bf o.dst (.ext v) L) B (C' ++ G)) : ca P K E ops o L B G m n R := by
 refine ⟨fun κ h L0 r M => ?_⟩
 refine gy.sp (C.call ho hc (aF r hx) (vZ r ha) hf) (bc r hw) hfit (hs h ⟨κ, M⟩) ?_
 rintro v h' ⟨C', d, hφ⟩
 exact ⟨κ, _, _, _, cW κ, r.put (.ext v) o.dst, M.call d, hr v C' hφ⟩
theorem Sp.tr {f : Nat} {args : List ad} {v0 : ad} (s : Sp P K f args h (dE v0 h)) : Sp P K f args h (Tr (fun v C => v = v0 ∧ C = []) h) := by
 obtain ⟨v, h', d, rfl, c⟩ := s
 exact ⟨v, h', d, [], c, rfl, rfl⟩
theorem ao {cl : Call} {x : Operand} {f : Nat} {args : List ad} {v0 : ad} (ho : o.op = .call cl) (hc : cl.callee = .value x) (hx : cM P L x = some (.func f [] [])) (ha : w0 P L cl.args.toList = some args) (hf : ar P f) (hw : aU ops o L = some true) (hfit : fits o.dst n = true)
  (hs : ∀ h, Fin E B G h → Sp P K f args h (dE v0 h)) (hr : R (bf o.dst (.ext v0) L) B G) : ca P K E ops o L B G m n R :=
 gq ho hc hx ha hf hw hfit (fun h f => (hs h f).tr) (by rintro v C' ⟨rfl, rfl⟩; exact hr)
theorem aV {cl : Call} {x : Operand} {f : Nat} {args : List ad} {b : Bool} (ho : o.op = .call cl) (hc : cl.callee = .value x) (hx : cM P L x = some (.func f [] [])) (ha : w0 P L cl.args.toList = some args) (hf : ar P f) (hw : aU ops o L = some true) (hfit : fits o.dst n = true)
  (hs : ∀ h, Fin E B G h → Sp P K f args h (dE (.bool b) h)) (h1 : b = true → R (bf o.dst (.ext (.bool true)) L) B G) (h0 : b = false → R (bf o.dst (.ext (.bool false)) L) B G) : ca P K E ops o L B G m n R := by
 cases b with
 | true => exact ao ho hc hx ha hf hw hfit hs (h1 rfl)
 | false => exact ao ho hc hx ha hf hw hfit hs (h0 rfl)
theorem Ro.narrow {κ : j0} (M : Mem E κ B G h) {a b : Part} (r : Ro E.C E.h a) (hb : b ∈ bj B κ ++ G) : Ro [b] h a :=
 ⟨r.at M.aS, fun q hq => by
  have : q = b := by simpa using hq
  subst this
  exact r.sep M.aS hb⟩
end
end
end Go.HL
namespace Go.HL
open Go
noncomputable section
section
variable {P : Program} {K : ai} {E : eT} {ops : Array Oper} {o : Oper} {l : List Oper} {L L' : SL} {B B' : List cj} {G G' G2 : List Part} {m n : Nat} {R : SL → List cj → List Part → Prop} {Q : Ex → St → Prop} {a b c : Code} {ax : iF} {zl : List (Nat × List ad)} {h h' : Heap}
/-! ## Elements -/
def wW (B : List cj) (b : cj) : Option (Nat × List cj) := yY B [b] fun B' => H2 B 0 fun n => some (n, B')
theorem ub {B : List cj} {b : cj} {nb : Nat} {B' : List cj} (h : wW B b = some (nb, B')) : nb = B.length ∧ B' = B ++ [b] := by
 unfold wW at h
 rw [xO, yE, Nat.zero_add] at h
 cases h
 exact ⟨rfl, rfl⟩
theorem Ro.IV {C : List Part} {v : ad} {w : Nat} {rows : List (List ad)} (r : Ro C h (IV v w rows)) : Ro C h (rd v w rows) := ⟨r.holds.2, r.CT⟩
theorem Ro.key {C : List Part} {v : ad} {w : Nat} {rows : List (List ad)} (r : Ro C h (rd v w rows)) {k : Nat} (hk : Ac v = some k) : Ro C h (G5 k) :=
 ⟨r.holds.live k hk, fun q hq j hj => r.CT q hq j (by rw [show j = k from hj]; exact hk)⟩
theorem bh {t e q w nb j : Nat} {i : TI} {x y : Operand} {v : ad} {kd : IntKind} {rows : List (List ad)} {r : List ad} (hX : TK P ax zl) (ho : o.op = .indexAddr t x y) (ht : bN ax t = some (.slice e, q)) (he : bN ax e = some (i, w)) (hx : cM P L x = some v) (hy : cM P L y = some (.int kd (.ofNat j)))
  (hs : Ro E.C E.h (rd v w rows)) (hr : rows[j]? = some r) (hB : wW B (.ro r) = some (nb, B')) (hw : aU ops o L = some true) (hf : fits o.dst n = true) (hk : R (bf o.dst (.ptr nb 0) L) B' G) : ca P K E ops o L B G m n R := by
 obtain ⟨rfl, rfl⟩ := ub hB
 obtain ⟨k, off, cap, rfl, hrow⟩ := hs.holds.slice.row j r hr
 have hj : j < rows.length := (List.getElem?_eq_some_iff.1 hr).1
 refine .comp hw hf (fun κ h L0 rr M => ⟨_, _, _, V.indexAddr hX.ax ho ht he (aF rr hx) (aF rr hy) hj, ?_, M.MD hrow (hs.key rfl), _, rfl⟩) hk
 have := zc.ptr (κ := κ ++ [(k, Nat.add off (Nat.mul j w))]) (off := 0) (i := B.length) (k := k) (o := Nat.add off (Nat.mul j w)) (by rw [← M.len]; exact qe _ _)
 exact this
theorem D9 {t e q w nb : Nat} {z : Int} {i : TI} {x y : Operand} {v : ad} {kd : IntKind} {rows : List (List ad)} {r : List ad} (hX : TK P ax zl) (ho : o.op = .indexAddr t x y) (ht : bN ax t = some (.slice e, q)) (he : bN ax e = some (i, w)) (hx : cM P L x = some v) (hy : cM P L y = some (.int kd z)) (h0 : 0 ≤ z)
  (hs : Ro E.C E.h (rd v w rows)) (hr : rows[z.toNat]? = some r) (hB : wW B (.ro r) = some (nb, B')) (hw : aU ops o L = some true) (hf : fits o.dst n = true) (hk : R (bf o.dst (.ptr nb 0) L) B' G) : ca P K E ops o L B G m n R := by
 obtain ⟨j, rfl⟩ := Int.eq_ofNat_of_zero_le h0
 exact bh hX ho ht he hx hy hs hr hB hw hf hk
theorem fQ {t e e' q w nb j : Nat} {i : TI} {x y : Operand} {v : ad} {kd : IntKind} {rows : List (List ad)} {r : List ad} (hX : TK P ax zl) (ho : o.op = .indexAddr t x y) (ht : bN ax t = some (.slice e, q)) (he : bN ax e = some (i, w)) (hx : cM P L x = some v) (hy : cM P L y = some (.int kd (.ofNat j)))
  (hG : aI G (aH e' w v rows) G2) (hr : rows[j]? = some r) (hB : wW B (.tmp r) = some (nb, B')) (hw : aU ops o L = some true) (hf : fits o.dst n = true) (hk : R (bf o.dst (.ptr nb 0) L) B' G) : ca P K E ops o L B G m n R := by
 obtain ⟨rfl, rfl⟩ := ub hB
 have hj : j < rows.length := (List.getElem?_eq_some_iff.1 hr).1
 refine .comp hw hf (fun κ h L0 rr M => ?_) hk
 have ho' := M.aS.all _ (List.mem_append_right _ hG.mem)
 obtain ⟨k, off, cap, rfl, hrow⟩ := (aH.rd ho').slice.row j r hr
 refine ⟨_, _, _, V.indexAddr hX.ax ho ht he (aF rr hx) (aF rr hy) hj, ?_, M.KW hrow ⟨_, hG.mem, rfl⟩, _, rfl⟩
 exact zc.ptr (κ := κ ++ [(k, Nat.add off (Nat.mul j w))]) (off := 0) (i := B.length) (k := k) (o := Nat.add off (Nat.mul j w)) (by rw [← M.len]; exact qe _ _)
/-! ## Parts that change -/
theorem Mem.mB {κ : j0} (M : Mem E κ B G h) {g : Part} (hG : aI G g G2) {C' : List Part} (d : fL [g] h C' h') (hn : gv B = true) : Mem E κ B (C' ++ G2) h' := by
 have p : List.Perm (bj B κ ++ G) ([g] ++ (bj B κ ++ G2)) := by
  refine (List.Perm.append_left _ hG.perm).trans ?_
  exact List.perm_middle
 have c := M.aS.trans p d
 refine ⟨c.perm ?_, M.pre, M.len, M.own, M.ro, fun i l hb => absurd hb (rB hn)⟩
 rw [← List.append_assoc, ← List.append_assoc]
 exact List.Perm.append_right _ List.perm_append_comm
theorem ft.aS {e w : Nat} {v : ad} {rows new : List (List ad)} {d : Option Nat} {k : Nat} (a : App h e w v rows.length rows.flatten d) (hrl : ∀ r ∈ rows, r.length = w) (hnl : ∀ r ∈ new, r.length = w) (p : ft h e w (rows.length + new.length) (rows.flatten ++ new.flatten) d k h') :
  fL [aH e w v rows] h [aH e w (.slice k 0 (rows.length + new.length) none) (rows ++ new)] h' := by
 refine ⟨p.wf, p.next, fun {j o} hj hn => ?_, ?_, List.pairwise_singleton _ _, ?_⟩
 ·rw [p.td j ?_ ?_]
  ·exact hj
  ·intro e
   exact hn _ (List.mem_singleton.2 rfl) (a.key e.symm)
  ·rintro rfl
   rw [p.fresh] at hj; cases hj
 ·intro r hr
  simp only [List.mem_singleton] at hr
  subst hr
  refine ⟨⟨some k, ?_⟩, fun r hr => ?_⟩
  ·have := p.app
   rw [← List.flatten_append, ← List.length_append] at this
   rw [← List.length_append]
   exact this
  ·rcases List.mem_append.1 hr with hr | hr
   ·exact hrl r hr
   ·exact hnl r hr
 ·intro r hr j hj
  simp only [List.mem_singleton] at hr
  subst hr
  have hj : k = j := by simpa [aH, th] using hj
  subst hj
  exact .inr p.fresh
theorem sZ {t t2 e w q q2 bs j e2 : Nat} {s2 : Bool} {i : TI} {cl : Call} {x y : Operand} {v : ad} {z new : List ad} {rows : List (List ad)} (hX : TK P ax zl)
  (ho : o.op = .call cl) (hc : cl.callee = .builtin .append) (ha : cl.args = #[x, y]) (h0 : cl.argTypes[0]? = some t) (h2 : cl.argTypes[1]? = some t2) (ht : bN ax t = some (.slice e, q)) (ht2 : bN ax t2 = some (.slice e, q2))
  (he : bN ax e = some (i, w)) (hz : zL zl e = some z) (hzl : Nat.beq z.length w = true) (he0 : Nat.beq e 0 = false) (hw0 : Nat.beq w 0 = false) (hb : P.bytesOf e = bs) (hb0 : Nat.beq bs 0 = false)
  (hx : cM P L x = some v) (hy : sO P L y = some (.sl j 1)) (hbk : nth B j = some (.own new e2 s2)) (hnl : Nat.beq new.length w = true) (hG : aI G (aH e w v rows) G2) (hn : gv B = true) (hroom : (rows.length + 1) * bs ≤ 140737488355328)
  (hw : aU ops o L = some true) (hf : fits o.dst n = true) (hr : ∀ k, R (bf o.dst (.ext (.slice k 0 (rows.length + 1) none)) L) B (aH e w (.slice k 0 (rows.length + 1) none) (rows ++ [new]) :: G2)) : ca P K E ops o L B G m n R := by
 refine ⟨fun κ h L0 r M => ?_⟩
 obtain ⟨⟨d, hv⟩, hrl⟩ := M.aS.all _ (List.mem_append_right _ hG.mem)
 obtain ⟨k2, hk2⟩ := M.own _ _ _ _ hbk
 obtain ⟨w2, g1, g2⟩ := ch r hy
 have hw2 : w2 = .slice k2 0 1 (some 1) := by
  cases g2 with
  | sl hk => rw [hk2] at hk; cases hk; rfl
 subst hw2
 have hblk := M.aS.all _ (List.mem_append_left _ (dz hbk hk2))
 have hnl' : new.length = w := Nat.eq_of_beq_eq_true hnl
 refine gy.append hX.ax ho hc ha h0 h2 ht ht2 he (hX.zero.look hz) hzl he0 hw0 hb hb0 (aF r hx) g1 hv (nQ hblk) (by rw [bm]; exact decide_eq_true (by simp [hnl'])) rfl hroom M.wf (bc r hw) hf ?_
 intro k h' p
 have p' : ft h e w (rows.length + [new].length) (rows.flatten ++ [new].flatten) d k h' := by simpa using p
 have c := ft.aS hv hrl (by intro r hr; simp only [List.mem_singleton] at hr; rw [hr]; exact hnl') p'
 exact ⟨κ, _, _, _, cW κ, r.put (.ext _) o.dst, M.mB hG c hn, hr k⟩
theorem aH.row {e w : Nat} {v : ad} {rows : List (List ad)} (a : (aH e w v rows).holds h) (h0 : 0 < rows.length) (hn : ∀ k, v ≠ .rest k) : ∃ k off cap, v = .slice k off rows.length cap ∧ Row h k off rows.flatten := by
 obtain ⟨⟨d, ha⟩, hrl⟩ := a
 have hfl := bQ hrl
 have hlen := ha.len
 cases v with
 | slice k off c cap =>
  have hc : c = rows.length := by simpa [dA] using hlen
  subst hc
  refine ⟨k, off, cap, rfl, ⟨?_⟩⟩
  have := xk ha rfl
  rw [hfl]
  exact this
 | rest k => exact absurd rfl (hn k)
 | aD => simp [dA] at hlen; omega
 | empty => simp [dA] at hlen; omega
 | _ => simp [dA] at hlen
/-! ## Parts of slices that came from elsewhere -/
def vx (v : ad) (j w : Nat) : ad := match v with
 | .slice k off len none => if j = 0 then .slice k off len none else if j < len then .slice k (off + j * w) (len - j) none else .empty
 | v => v
theorem xA {v : ad} {j w k : Nat} (h : Ac (vx v j w) = some k) : Ac v = some k := by
 unfold vx at h
 split at h
 ·split at h
  ·exact h
  ·split at h
   ·exact h
   ·cases h
 ·exact h
theorem IV.drop {v : ad} {w j : Nat} {rows : List (List ad)} (hs : (IV v w rows).holds h) (hj : j ≤ rows.length) : (IV (vx v j w) w (rows.drop j)).holds h := by
 have hlen := hs.2.slice.1
 have hlive := hs.2.live
 refine ⟨?_, ⟨?_, fun k hk => hlive k (xA hk)⟩⟩
 ·cases hs.1 with
  | aD => exact .aD
  | empty => exact .empty
  | slice k off c l s r hg =>
   show w7 h (if j = 0 then ad.slice k off c none else if j < c then ad.slice k (off + j * w) (c - j) none else ad.empty)
   split
   ·exact .slice _ _ _ _ _ _ hg
   ·split
    ·exact .slice _ _ _ _ _ _ hg
    ·exact .empty
 ·cases hs.1 with
  | aD =>
   have : rows.length = 0 := (Option.some.inj hlen).symm
   have hr : rows = [] := List.eq_nil_of_length_eq_zero this
   subst hr
   simpa [vx] using hs.2.slice
  | empty =>
   have : rows.length = 0 := (Option.some.inj hlen).symm
   have hr : rows = [] := List.eq_nil_of_length_eq_zero this
   subst hr
   simpa [vx] using hs.2.slice
  | slice k off c l s r hg =>
   have hc : c = rows.length := by simpa [dA] using hlen
   subst hc
   unfold vx
   simp only
   by_cases hj0 : j = 0
   ·subst hj0
    rw [if_pos rfl]; exact hs.2.slice
   ·rw [if_neg hj0]
    by_cases hjl : j < rows.length
    ·rw [if_pos hjl]
     refine ⟨by simp [dA], fun i' r' hr' => ?_⟩
     rw [List.getElem?_drop] at hr'
     obtain ⟨k', off', cap', e1, hrow⟩ := hs.2.slice.2 _ _ hr'
     cases e1
     refine ⟨k, _, none, by rw [List.length_drop], ?_⟩
     have : Nat.add (off + j * w) (Nat.mul i' w) = Nat.add off (Nat.mul (j + i') w) := by
      simp only [Nat.add_eq, Nat.mul_eq, Nat.add_mul]; omega
     rw [this]; exact hrow
    ·rw [if_neg hjl]
     have hje : j = rows.length := by omega
     refine ⟨by rw [hje, List.drop_length]; rfl, fun i' r' hr' => ?_⟩
     rw [hje, List.drop_length] at hr'
     simp at hr'
theorem Ro.drop {C : List Part} {v : ad} {w j : Nat} {rows : List (List ad)} (r : Ro C h (HL.IV v w rows)) (hj : j ≤ rows.length) : Ro C h (HL.IV (vx v j w) w (rows.drop j)) := ⟨HL.IV.drop r.holds hj, fun q hq k hk => r.CT q hq k (xA hk)⟩
/-! ## Maps with truths -/
theorem yR {h h' : Heap} {k : Nat} {ob : aE} (p : Part) (mk : Made h k ob h') (hp : p.holds h') (hf : ∀ j, p.dG j → j = k) : fL [] h [p] h' := by
 refine ⟨mk.wf, mk.ext.next, fun e _ => mk.ext.get e, ?_, List.pairwise_singleton _ _, ?_⟩
 ·intro r hr
  simp only [List.mem_singleton] at hr
  subst hr; exact hp
 ·intro r hr j hj
  simp only [List.mem_singleton] at hr
  subst hr
  refine .inr ?_
  rw [hf j hj]; exact mk.fresh
theorem Ng {α : Type} {t kt e q : Nat} (key : α → ad) (hX : TK P ax zl) (ho : o.op = .makeMap t none) (ht : bN ax t = some (.map kt e, q)) (hw : aU ops o L = some true) (hf : fits o.dst n = true) (hr : ∀ k, R (bf o.dst (.ext (.map k)) L) B (uR key k [] :: G)) : ca P K E ops o L B G m n R := by
 refine ⟨fun κ h L0 r M => gy.made (Go.HL.M.map hX.ax ho ht) (bc r hw) hf M.wf fun k h' mk => ?_⟩
 exact ⟨κ, _, _, _, cW κ, r.put (.ext _) o.dst, M.call (C' := [uR key k []]) (yR _ mk ⟨[], 0, mk.get, trivial⟩ fun j hj => hj), hr k⟩
section
variable {α : Type} [DecidableEq α] {key : α → ad}
theorem BO {t kt et q k : Nat} {x y : Operand} {a : α} {l : List (α × Bool)} (hX : TK P ax zl) (ho : o.op = .lookup t x y false) (ht : bN ax t = some (.map kt et, q)) (hk : mq P kt key) (hz : hJ P et = some (.bool false))
  (hx : cM P L x = some (.map k)) (hy : cM P L y = some (key a)) (hG : aI G (uR key k (l.map kh)) G2) (hw : aU ops o L = some true) (hf : fits o.dst n = true) (h1 : mw l a = true → R (bf o.dst (.ext (.bool true)) L) B G) (h0 : mw l a = false → R (bf o.dst (.ext (.bool false)) L) B G) : ca P K E ops o L B G m n R := by
 have hv : ∀ κ h L0, di κ L L0 → Mem E κ B G h → cD P o L0 h (.bool (mw l a)) h := fun κ h L0 r M => by
  have hm : oP key h k (l.map kh) := M.aS.all _ (List.mem_append_right _ hG.mem)
  rw [← yC]; exact V.lookup hX.ax ho ht hk hz (aF r hx) (aF r hy) hm.at
 cases hb : mw l a with
 | true => rw [hb] at hv; exact qv hw hf hv (h1 hb)
 | false => rw [hb] at hv; exact qv hw hf hv (h0 hb)
theorem Lr {t kt et q k : Nat} {x y u : Operand} {a : α} {v : ad} {l : List (α × ad)} (hX : TK P ax zl) (ho : o.op = .mapUpdate t x y u) (ht : bN ax t = some (.map kt et, q)) (hk : mq P kt key)
  (hx : cM P L x = some (.map k)) (hy : cM P L y = some (key a)) (hu : cM P L u = some v) (hG : aI G (uR key k l) G2) (hn : gv B = true) (hw : aU ops o L = some true) (hf : fits o.dst n = true) (hr : R (bf o.dst (.ext bD) L) B (uR key k (mM l a v) :: G2)) : ca P K E ops o L B G m n R := by
 refine ⟨fun κ h L0 r M => ?_⟩
 have hm : oP key h k l := M.aS.all _ (List.mem_append_right _ hG.mem)
 refine gy.mapUpdate hX.ax ho ht hk (aF r hx) (aF r hy) (aF r hu) hm M.wf (bc r hw) hf fun h' g1 g2 g3 g4 => ?_
 have c : fL [uR key k l] h [uR key k (mM l a v)] h' := by
  refine ⟨g3, Nat.le_of_eq g4.symm, fun {j o} hj hn => ?_, ?_, List.pairwise_singleton _ _, ?_⟩
  ·rw [g2 j (fun e => hn _ (List.mem_singleton.2 rfl) e)]; exact hj
  ·intro r hr
   simp only [List.mem_singleton] at hr
   subst hr; exact g1
  ·intro r hr j hj
   simp only [List.mem_singleton] at hr
   subst hr
   exact .inl ⟨_, List.mem_singleton.2 rfl, hj⟩
 exact ⟨κ, _, _, _, cW κ, r.put (.ext _) o.dst, M.mB hG c hn, hr⟩
end
/-! ## Regions whose order is open -/
inductive AX where
 | read (j : Nat)
 | fw (j i : Nat) (l : List ad) (e : Nat) (s : Bool)
 | iI (j : Nat)
 | zI (j : Nat) (g : Part)
 | change (e : Nat) (a b : List cj) (ga gb : List Part)
def kK (P : Program) (E : eT) (κ : j0) : List AX → List AL → Prop
 | [], [] => True
 | .read j :: l, .read j' _ _ _ :: m => j = j' ∧ kK P E κ l m
 | .fw j i c e s :: l, .read j' o L v :: m => (j = j' ∧ ad.beq v v = true ∧ ∃ k, nth κ i = some (k, 0) ∧ ∀ h, h.get k = some (.cells c e s true) → cD P o L h v h) ∧ kK P E κ l m
 | .iI j :: l, .read j' o L v :: m => (j = j' ∧ ad.beq v v = true ∧ ∀ h C', fL E.C E.h C' h → cD P o L h v h) ∧ kK P E κ l m
 | .zI j g :: l, .read j' o L v :: m => (j = j' ∧ ad.beq v v = true ∧ ∀ h, g.holds h → cD P o L h v h) ∧ kK P E κ l m
 | .change e a b ga gb :: l, .change e' h h' :: m => (e = e' ∧ (∃ κa ta, κ = κa ++ ta ∧ Mem E κa a ga h) ∧ ∃ κb tb, κ = κb ++ tb ∧ Mem E κb b gb h') ∧ kK P E κ l m
 | _, _ => False
theorem kK.more {κ t : j0} : ∀ {l : List AX} {m : List AL}, kK P E κ l m → kK P E (κ ++ t) l m
 | [], [], _ => trivial
 | [], _ :: _, h => by cases h
 | x :: l, [], h => by cases x <;> cases h
 | .read j :: l, .read _ _ _ _ :: m, h => ⟨h.1, kK.more (l := l) (m := m) h.2⟩
 | .read _ :: _, .change _ _ _ :: _, h => by cases h
 | .fw j i c e s :: l, .read _ _ _ _ :: m, h => by
  obtain ⟨⟨h1, h2, k, hk, h3⟩, h4⟩ := h
  exact ⟨⟨h1, h2, k, cX hk, h3⟩, kK.more (l := l) (m := m) h4⟩
 | .fw _ _ _ _ _ :: _, .change _ _ _ :: _, h => by cases h
 | .iI _ :: l, .read _ _ _ _ :: m, h => ⟨h.1, kK.more (l := l) (m := m) h.2⟩
 | .iI _ :: _, .change _ _ _ :: _, h => by cases h
 | .zI _ _ :: l, .read _ _ _ _ :: m, h => ⟨h.1, kK.more (l := l) (m := m) h.2⟩
 | .zI _ _ :: _, .change _ _ _ :: _, h => by cases h
 | .change e a b ga gb :: l, .change _ _ _ :: m, h => by
  obtain ⟨⟨h1, ⟨κa, ta, e1, m1⟩, κb, tb, e2, m2⟩, h4⟩ := h
  exact ⟨⟨h1, ⟨κa, ta ++ t, by rw [e1, List.append_assoc], m1⟩, κb, tb ++ t, by rw [e2, List.append_assoc], m2⟩, kK.more (l := l) (m := m) h4⟩
 | .change _ _ _ _ _ :: _, .read _ _ _ _ :: _, h => by cases h
def JZ (P : Program) (ops : Array Oper) (i : Nat) (o : Oper) (L : SL) (B : List cj) (G : List Part) (L' : SL) (B' : List cj) (G' : List Part) (al : List AX) : Option (List AX) :=
 ae (aB P o) (some (.change i B B' G G' :: al)) (ae (bY P o) (match o.dst with
  | some d => match aU ops o L with
   | some true => match fY L' d with
    | some _ => some (.read i :: al)
    | none => none
   | some false => some al
   | none => none
  | none => none) (some al))
def Jv : ad → Bool
 | .int _ _ => true
 | .bool _ => true
 | .str _ _ => true
 | .aD => true
 | .fK => true
 | .ptr _ _ => true
 | .slice _ _ _ _ => true
 | .map _ => true
 | _ => false
theorem suB {v : ad} (h : Jv v = true) : ad.beq v v = true := by
 cases v <;> first | (cases h; done) | simp [ad.beq]
inductive Ie (P : Program) (ax : iF) (ops : Array Oper) (i : Nat) (o : Oper) (L : SL) (B : List cj) (G : List Part) (L' : SL) (B' : List cj) (G' : List Part) (al : List AX) : List AX → Prop
 | comp {al' : List AX} (h : JZ P ops i o L B G L' B' G' al = some al') : Ie P ax ops i o L B G L' B' G' al al'
 | fw {t b off e d : Nat} {x : Operand} {lc : List ad} {s : Bool} {w : TI × Nat} {v : ad} (hT : bH P ax = true) (hc : aB P o = false) (hr : bY P o = true) (ho : o.op = .load t x) (hx : sO P L x = some (.ptr b off)) (hb : nth B b = some (.own lc e s)) (ht : bN ax t = some w) (ha : w.1.agg = false) (hv : nth lc off = some v) (hs : ad.beq v v = true) (hd : o.dst = some d) (hw : aU ops o L = some true) (hl : fY L' d = some (.ext v)) : Ie P ax ops i o L B G L' B' G' al (.fw i b lc e s :: al)
 | iI {t b off d : Nat} {x : Operand} {lc : List ad} {w : TI × Nat} {v : ad} (hT : bH P ax = true) (hc : aB P o = false) (hr : bY P o = true) (ho : o.op = .load t x) (hx : sO P L x = some (.ptr b off)) (hb : nth B b = some (.ro lc)) (ht : bN ax t = some w) (ha : w.1.agg = false) (hv : nth lc off = some v) (hs : ad.beq v v = true) (hd : o.dst = some d) (hw : aU ops o L = some true) (hl : fY L' d = some (.ext v)) : Ie P ax ops i o L B G L' B' G' al (.iI i :: al)
 | Jy {t b d : Nat} {x : Operand} {lc : List ad} {w : TI × Nat} (hT : bH P ax = true) (hc : aB P o = false) (hr : bY P o = true) (ho : o.op = .load t x) (hx : sO P L x = some (.ptr b 0)) (hb : nth B b = some (.ro lc)) (ht : bN ax t = some w) (ha : w.1.agg = true) (hv : Nat.beq lc.length w.2 = true) (hs : ad.beq (.agg lc) (.agg lc) = true) (hd : o.dst = some d) (hw : aU ops o L = some true) (hl : fY L' d = some (.ext (.agg lc))) : Ie P ax ops i o L B G L' B' G' al (.iI i :: al)
 | Lo {t b d : Nat} {x : Operand} {lc : List ad} {e : Nat} {s : Bool} {w : TI × Nat} (hT : bH P ax = true) (hc : aB P o = false) (hr : bY P o = true) (ho : o.op = .load t x) (hx : sO P L x = some (.ptr b 0)) (hb : nth B b = some (.own lc e s)) (ht : bN ax t = some w) (ha : w.1.agg = true) (hv : Nat.beq lc.length w.2 = true) (hs : ad.beq (.agg lc) (.agg lc) = true) (hd : o.dst = some d) (hw : aU ops o L = some true) (hl : fY L' d = some (.ext (.agg lc))) : Ie P ax ops i o L B G L' B' G' al (.fw i b lc e s :: al)
 | zI {t k off e d : Nat} {x : Operand} {lc : List ad} {s : Bool} {w : TI × Nat} {v : ad} {G2 : List Part} (hT : bH P ax = true) (hc : aB P o = false) (hr : bY P o = true) (ho : o.op = .load t x) (hx : cM P L x = some (.ptr k off)) (hG : aI G (kB k lc e s) G2) (ht : bN ax t = some w) (ha : w.1.agg = false) (hv : nth lc off = some v) (hs : ad.beq v v = true) (hd : o.dst = some d) (hw : aU ops o L = some true) (hl : fY L' d = some (.ext v)) : Ie P ax ops i o L B G L' B' G' al (.zI i (kB k lc e s) :: al)
 | O4 {d t e q n : Nat} {cl : Call} {x : Operand} {v : ad} (hT : bH P ax = true) (hc : aB P o = false) (hr : bY P o = true) (ho : o.op = .call cl) (hcl : cl.callee = .builtin .len) (hx : cl.args = #[x]) (hts : cl.argTypes[0]? = some t) (ht : bN ax t = some (.slice e, q)) (hs : cM P L x = some v) (hm : dA v = some n) (hd : o.dst = some d) (hw : aU ops o L = some true) (hl : fY L' d = some (.ext (.int .i64 (n : Int)))) : Ie P ax ops i o L B G L' B' G' al (.iI i :: al)
theorem beA {l : List ad} (h : l.all Jv = true) : ad.beq (.agg l) (.agg l) = true := by
 show qN l l = true
 induction l with
 | nil => rfl
 | cons v l ih =>
  rw [List.all_cons, Bool.and_eq_true] at h
  show (ad.beq v v && qN l l) = true
  rw [suB h.1, ih h.2]; rfl
theorem Ie.eq {κ κ' : j0} {L0 L1 : c6} {h h1 : Heap} {i : Nat} {al al' : List AX} {al0 : List AL} {G G' : List Part} (r : di κ L L0) (M : Mem E κ B G h) (r1 : di κ' L' L1) (M1 : Mem E κ' B' G' h1) (hpre : ∃ t, κ' = κ ++ t) (ha : kK P E κ al al0) (hu : Ie P ax ops i o L B G L' B' G' al al') : ∃ al1, mK P ops i o L0 h L1 h1 al0 = some al1 ∧ kK P E κ' al' al1 := by
 obtain ⟨t, rfl⟩ := hpre
 have ha := ha.more (t := t)
 cases hu with
 | comp hu =>
  unfold JZ at hu
  unfold mK
  cases hc : aB P o with
  | true => rw [hc, bcT] at hu; cases hu; exact ⟨_, rfl, ⟨rfl, ⟨κ, t, rfl, M⟩, κ ++ t, [], by simp, M1⟩, ha⟩
  | false =>
   rw [hc, bcF] at hu
   rw [bcF]
   cases hr : bY P o with
   | false => rw [hr, bcF] at hu; cases hu; exact ⟨_, rfl, ha⟩
   | true =>
    rw [hr, bcT] at hu
    rw [bcT]
    cases hd : o.dst with
    | none => rw [hd] at hu; cases hu
    | some d =>
     rw [hd] at hu
     simp only at hu ⊢
     cases hw : aU ops o L with
     | none => rw [hw] at hu; cases hu
     | some b =>
      rw [hw] at hu
      rw [bc r hw]
      cases b with
      | false => cases hu; exact ⟨_, rfl, ha⟩
      | true =>
       simp only at hu ⊢
       cases hl : fY L' d with
       | none => rw [hl] at hu; cases hu
       | some v =>
        rw [hl] at hu
        cases hu
        obtain ⟨w, g1, _⟩ := r1.look hl
        rw [g1]
        exact ⟨_, rfl, rfl, ha⟩
 | @fw tt b off e d x lc s w v hT hc hr ho hx hb ht hag hv hs hd hw hl =>
  obtain ⟨u, g1, g2⟩ := r1.look hl
  cases g2
  obtain ⟨k, hk⟩ := M.own _ _ _ _ hb
  obtain ⟨y, g3, g4⟩ := ch r hx
  have hy : y = .ptr k off := by
   cases g4 with
   | ptr hk2 => rw [hk] at hk2; cases hk2; simp
  subst hy
  refine ⟨.read i o L0 v :: al0, ?_, ⟨rfl, hs, k, cX hk, fun h2 hh2 => V.load hT ho ht hag g3 hh2 hv⟩, ha⟩
  unfold mK
  rw [hc, hr, bcF, bcT, hd]
  simp only [bc r hw, g1]
 | @iI tt b off d x lc w v hT hc hr ho hx hb ht hag hv hs hd hw hl =>
  obtain ⟨u, g1, g2⟩ := r1.look hl
  cases g2
  obtain ⟨k, o2, hk, hrow, hro⟩ := M.ro _ _ hb
  obtain ⟨y, g3, g4⟩ := ch r hx
  have hy : y = .ptr k (Nat.add o2 off) := by
   cases g4 with
   | ptr hk2 => rw [hk] at hk2; cases hk2; rfl
  subst hy
  refine ⟨.read i o L0 v :: al0, ?_, ⟨rfl, hs, fun h2 C' c2 => V.Dn hT ho ht hag g3 (hro.row c2 hrow) hv⟩, ha⟩
  unfold mK
  rw [hc, hr, bcF, bcT, hd]
  simp only [bc r hw, g1]
 | @Jy tt b d x lc w hT hc hr ho hx hb ht hag hv hs hd hw hl =>
  obtain ⟨u, g1, g2⟩ := r1.look hl
  cases g2
  obtain ⟨k, o2, hk, hrow, hro⟩ := M.ro _ _ hb
  obtain ⟨y, g3, g4⟩ := ch r hx
  have hy : y = .ptr k o2 := by
   cases g4 with
   | ptr hk2 => rw [hk] at hk2; cases hk2; simp
  subst hy
  refine ⟨.read i o L0 (.agg lc) :: al0, ?_, ⟨rfl, hs, fun h2 C' c2 => V.Ce hT ho ht hag g3 (hro.row c2 hrow) hv⟩, ha⟩
  unfold mK
  rw [hc, hr, bcF, bcT, hd]
  simp only [bc r hw, g1]
 | @Lo tt b d x lc e s w hT hc hr ho hx hb ht hag hv hs hd hw hl =>
  obtain ⟨u, g1, g2⟩ := r1.look hl
  cases g2
  obtain ⟨k, hk⟩ := M.own _ _ _ _ hb
  obtain ⟨y, g3, g4⟩ := ch r hx
  have hy : y = .ptr k 0 := by
   cases g4 with
   | ptr hk2 => rw [hk] at hk2; cases hk2; simp
  subst hy
  refine ⟨.read i o L0 (.agg lc) :: al0, ?_, ⟨rfl, hs, k, cX hk, fun h2 hh2 => V.Ce hT ho ht hag g3 (nQ hh2) hv⟩, ha⟩
  unfold mK
  rw [hc, hr, bcF, bcT, hd]
  simp only [bc r hw, g1]
 | @zI tt k off e d x lc s w v G2 hT hc hr ho hx hG ht hag hv hs hd hw hl =>
  obtain ⟨u, g1, g2⟩ := r1.look hl
  cases g2
  refine ⟨.read i o L0 v :: al0, ?_, ⟨rfl, hs, fun h2 hh2 => ?_⟩, ha⟩
  ·unfold mK
   rw [hc, hr, bcF, bcT, hd]
   simp only [bc r hw, g1]
  ·have hx' : eI P L0 x = some (.ptr k (Nat.add 0 off)) := by rw [Nat.add_eq, Nat.zero_add]; exact aF r hx
   exact V.Dn hT ho ht hag hx' (nQ hh2) hv
 | @O4 d tt e q n cl x v hT hc hr ho hcl hx hts ht hs hm hd hw hl =>
  obtain ⟨u, g1, g2⟩ := r1.look hl
  cases g2
  refine ⟨.read i o L0 (.int .i64 (n : Int)) :: al0, ?_, ⟨rfl, suB rfl, fun h2 C' _ => V.len hT ho hcl hx hts ht (aF r hs) hm⟩, ha⟩
  unfold mK
  rw [hc, hr, bcF, bcT, hd]
  simp only [bc r hw, g1]
structure gp (P : Program) (K : ai) (E : eT) (ax : iF) (ops : Array Oper) (pl : List Nat) (al : List AX) (L : SL) (B : List cj) (G : List Part) (m n : Nat) (R : List AX → SL → List cj → List Part → Prop) : Prop where
 run : ∀ κ h L0 al0, di κ L L0 → Mem E κ B G h → kK P E κ al al0 → WD P K ops pl al0 L0 h m n fun al1 L1 h1 => ∃ al' κ L B G, kK P E κ al' al1 ∧ di κ L L1 ∧ Mem E κ B G h1 ∧ R al' L B G
variable {pl : List Nat} {al : List AX} {RA : List AX → SL → List cj → List Part → Prop}
theorem gp.nil (hr : RA al L B G) : gp P K E ax ops [] al L B G m n RA := ⟨fun κ _ _ _ r M ha => WD.nil ⟨al, κ, _, _, _, ha, r, M, hr⟩⟩
theorem WD.mono {al0 : List AL} {L0 : c6} {R0 R1 : List AL → c6 → Heap → Prop} (w : WD P K ops pl al0 L0 h m n R0) (hr : ∀ al L h, R0 al L h → R1 al L h) : WD P K ops pl al0 L0 h m n R1 :=
 ⟨fun s log f hl => let ⟨s', log', al', L', h', a, b, c, d⟩ := w.run s log f hl; ⟨s', log', al', L', h', a, b, c, hr _ _ _ d⟩⟩
theorem gp.cons {i : Nat} (hi : ops[i]? = some o) (ho : ca P K E ops o L B G m n fun L' B' G' => ∃ al', Ie P ax ops i o L B G L' B' G' al al' ∧ gp P K E ax ops pl al' L' B' G' m n RA) : gp P K E ax ops (i :: pl) al L B G m n RA := by
 refine ⟨fun κ h L0 al0 r M ha => WD.cons hi (gy.mono (ho.run κ h L0 r M) ?_)⟩
 rintro L1 h1 ⟨κ', L', B', G', hpre, r', M', al', hu, w⟩
 obtain ⟨al1, g1, g2⟩ := hu.eq r M r' M' hpre ha
 exact ⟨al1, g1, w.run κ' h1 L1 al1 r' M' g2⟩
theorem gp.cq {i : Nat} {sv : SV} {al' : List AX} (hX : TK P ax zl) (hi : ops[i]? = some o) (he : u0 P ax zl ops o L B n = some (sv, B')) (hu : JZ P ops i o L B G (bf o.dst sv L) B' G al = some al') (hw : gp P K E ax ops pl al' (bf o.dst sv L) B' G m n RA) : gp P K E ax ops (i :: pl) al L B G m n RA :=
 gp.cons hi (q hX he ⟨al', .comp hu, hw⟩)
inductive O0 where
 | none
 | bM (i : Nat) (lc : List ad) (t : Nat) (s : Bool)
 | part (g : Part)
def pA (bU : Array Nat) (j : Nat) (rk : O0) : List AX → Prop
 | [] => True
 | x :: l => match x with
  | .change e a b ga gb => ((ae (bit (bU.getD j 0) e) true (bit (bU.getD e 0) j)) = true ∨ (∃ i lc t s, rk = .bM i lc t s ∧ nth a i = some (.own lc t s) ∧ nth b i = some (.own lc t s)) ∨ ∃ g ra rb, rk = .part g ∧ aI ga g ra ∧ aI gb g rb) ∧ pA bU j rk l
  | _ => pA bU j rk l
def qW (bU : Array Nat) (al : List AX) : List AX → Prop
 | [] => True
 | x :: l => match x with
  | .read j => pA bU j .none al ∧ qW bU al l
  | .fw j i lc t s => pA bU j (.bM i lc t s) al ∧ qW bU al l
  | .iI _ => qW bU al l
  | .zI j g => pA bU j (.part g) al ∧ qW bU al l
  | .change _ _ _ _ _ => qW bU al l
def Jo (P : Program) (κ : j0) (o : Oper) (L0 : c6) (v : ad) : O0 → Prop
 | .none => True
 | .part g => ad.beq v v = true ∧ ∀ h, g.holds h → cD P o L0 h v h
 | .bM i lc t s => ad.beq v v = true ∧ ∃ k, nth κ i = some (k, 0) ∧ ∀ h, h.get k = some (.cells lc t s true) → cD P o L0 h v h
theorem Db {κa ta κ : j0} {i : Nat} {p q : Nat × Nat} (e : κ = κa ++ ta) (h1 : nth κa i = some p) (h2 : nth κ i = some q) : p = q := by
 subst e
 rw [cX h1] at h2
 exact Option.some.inj h2
theorem pA.ok {bU : Array Nat} {j : Nat} {κ : j0} {L0 : c6} {v : ad} {bM : O0} (hb : Jo P κ o L0 v bM) : ∀ {al : List AX} {al0 : List AL}, kK P E κ al al0 → pA bU j bM al → s5 P bU j o L0 v al0
 | [], [], _, _ => trivial
 | [], _ :: _, h, _ => by cases h
 | x :: l, [], h, _ => by cases x <;> cases h
 | .read _ :: al, .read _ _ _ _ :: al0, h, r => pA.ok hb (al := al) (al0 := al0) h.2 r
 | .read _ :: _, .change _ _ _ :: _, h, _ => by cases h
 | .fw _ _ _ _ _ :: al, .read _ _ _ _ :: al0, h, r => pA.ok hb (al := al) (al0 := al0) h.2 r
 | .fw _ _ _ _ _ :: _, .change _ _ _ :: _, h, _ => by cases h
 | .iI _ :: al, .read _ _ _ _ :: al0, h, r => pA.ok hb (al := al) (al0 := al0) h.2 r
 | .iI _ :: _, .change _ _ _ :: _, h, _ => by cases h
 | .zI _ _ :: al, .read _ _ _ _ :: al0, h, r => pA.ok hb (al := al) (al0 := al0) h.2 r
 | .zI _ _ :: _, .change _ _ _ :: _, h, _ => by cases h
 | .change _ _ _ _ _ :: _, .read _ _ _ _ :: _, h, _ => by cases h
 | .change e a b ga gb :: al, .change e' ha hb' :: al0, h, r => by
  obtain ⟨⟨h1, ⟨κa, ta, e1, m1⟩, κb, tb, e2, m2⟩, h4⟩ := h
  refine ⟨?_, pA.ok hb (al := al) (al0 := al0) h4 r.2⟩
  rcases r.1 with g | ⟨i, lc, t, s, g1, g2, g3⟩ | ⟨g, ra, rb, g1, g2, g3⟩
  ·rw [h1] at g; exact .inl g
  ·subst g1
   obtain ⟨hbeq, k, hk, hv⟩ := hb
   obtain ⟨k1, hk1⟩ := m1.own _ _ _ _ g2
   obtain ⟨k2, hk2⟩ := m2.own _ _ _ _ g3
   have q1 := Db e1 hk1 hk
   have q2 := Db e2 hk2 hk
   cases q1
   cases q2
   have f1 := m1.aS.all _ (List.mem_append_left _ (dz g2 hk1))
   have f2 := m2.aS.all _ (List.mem_append_left _ (dz g3 hk2))
   exact .inr ⟨⟨_, _, hv _ f1, hv _ f2⟩, hbeq⟩
  ·subst g1
   obtain ⟨hbeq, hv⟩ := hb
   exact .inr ⟨⟨_, _, hv _ (m1.aS.all _ (List.mem_append_right _ g2.mem)), hv _ (m2.aS.all _ (List.mem_append_right _ g3.mem))⟩, hbeq⟩
theorem nN {bU : Array Nat} {j : Nat} {κ : j0} {L0 : c6} {v : ad} (hs : ad.beq v v = true) (hv : ∀ h C', fL E.C E.h C' h → cD P o L0 h v h) : ∀ {al : List AX} {al0 : List AL}, kK P E κ al al0 → s5 P bU j o L0 v al0
 | [], [], _ => trivial
 | [], _ :: _, h => by cases h
 | x :: l, [], h => by cases x <;> cases h
 | .read _ :: al, .read _ _ _ _ :: al0, h => nN hs hv (al := al) (al0 := al0) h.2
 | .read _ :: _, .change _ _ _ :: _, h => by cases h
 | .fw _ _ _ _ _ :: al, .read _ _ _ _ :: al0, h => nN hs hv (al := al) (al0 := al0) h.2
 | .fw _ _ _ _ _ :: _, .change _ _ _ :: _, h => by cases h
 | .iI _ :: al, .read _ _ _ _ :: al0, h => nN hs hv (al := al) (al0 := al0) h.2
 | .iI _ :: _, .change _ _ _ :: _, h => by cases h
 | .zI _ _ :: al, .read _ _ _ _ :: al0, h => nN hs hv (al := al) (al0 := al0) h.2
 | .zI _ _ :: _, .change _ _ _ :: _, h => by cases h
 | .change _ _ _ _ _ :: _, .read _ _ _ _ :: _, h => by cases h
 | .change e a b ga gb :: al, .change e' ha hb' :: al0, h => by
  obtain ⟨⟨h1, ⟨κa, ta, e1, m1⟩, κb, tb, e2, m2⟩, h4⟩ := h
  exact ⟨.inr ⟨⟨_, _, hv _ _ m1.aS, hv _ _ m2.aS⟩, hs⟩, nN hs hv (al := al) (al0 := al0) h4⟩
theorem qW.ok {bU : Array Nat} {κ : j0} {al : List AX} {al0 : List AL} (ha : kK P E κ al al0) : ∀ {m : List AX} {m0 : List AL}, kK P E κ m m0 → qW bU al m → Ib P bU al0 m0
 | [], [], _, _ => trivial
 | [], _ :: _, h, _ => by cases h
 | x :: l, [], h, _ => by cases x <;> cases h
 | .read j :: m, .read j' o L v :: m0, h, r => by
  have r1 := r.1
  rw [h.1] at r1
  exact ⟨pA.ok (bM := .none) trivial ha r1, qW.ok ha (m := m) (m0 := m0) h.2 r.2⟩
 | .read _ :: _, .change _ _ _ :: _, h, _ => by cases h
 | .fw j i lc t s :: m, .read j' o L v :: m0, h, r => by
  obtain ⟨⟨h1, h2⟩, h3⟩ := h
  have r1 := r.1
  rw [h1] at r1
  exact ⟨pA.ok (bM := .bM i lc t s) h2 ha r1, qW.ok ha (m := m) (m0 := m0) h3 r.2⟩
 | .fw _ _ _ _ _ :: _, .change _ _ _ :: _, h, _ => by cases h
 | .iI j :: m, .read j' o L v :: m0, h, r => by
  obtain ⟨⟨h1, h2, h3⟩, h4⟩ := h
  exact ⟨nN h2 h3 ha, qW.ok ha (m := m) (m0 := m0) h4 r⟩
 | .iI _ :: _, .change _ _ _ :: _, h, _ => by cases h
 | .zI j g :: m, .read j' o L v :: m0, h, r => by
  obtain ⟨⟨h1, h2⟩, h3⟩ := h
  have r1 := r.1
  rw [h1] at r1
  exact ⟨pA.ok (bM := .part g) h2 ha r1, qW.ok ha (m := m) (m0 := m0) h3 r.2⟩
 | .zI _ _ :: _, .change _ _ _ :: _, h, _ => by cases h
 | .change _ _ _ _ _ :: _, .read _ _ _ _ :: _, h, _ => by cases h
 | .change e a b ga gb :: m, .change e' ha' hb' :: m0, h, r => qW.ok ha (m := m) (m0 := m0) h.2 r
theorem ag.draw {id : Nat} (ax : iF) (pl : List Nat) (bU : Array Nat) (hp : gD P ops = true) (hl : cP P ops = pl) (han : Region.before ops = bU) (hw : gp P K E ax ops pl [] L B G m n fun al L' B' G' => qW bU al al ∧ xR E m n Q L' B' G') : ag P K E (.region id ops true) L B G m n Q := by
 refine ⟨fun κ h L0 r M => WC.draw pl bU hp hl han (WD.mono (hw.run κ h L0 [] r M trivial) ?_)⟩
 rintro al1 L1 h1 ⟨al', κ', L2, B2, G2, ha, r2, M2, hord, ⟨L3, hk, g⟩⟩
 obtain ⟨L4, L5, g1, g2, g3⟩ := qt r2 hk
 cases g1
 exact ⟨qW.ok ha ha hord, _, g2, g.run κ' _ _ g3 M2⟩
end
end
end Go.HL
