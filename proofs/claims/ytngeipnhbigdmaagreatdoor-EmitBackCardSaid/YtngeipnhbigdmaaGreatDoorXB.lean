/- Runs of HL, the state known by signs: rules by operation, code, call, region. No statement of the seat stands here. -/
import Derived.Test.YtngeipnhbigdmaaGreatDoorXA
set_option linter.unusedVariables false
set_option linter.unusedSimpArgs false
namespace Go.HL
open Go
noncomputable section
def QU (E : eK) (R : SL → List bX → List Part → Prop) (L1 : cj) (h1 : Heap) : Prop := ∃ κ L B G, dx κ L L1 ∧ Mem E κ B G h1 ∧ R L B G
def QV (E : eK) (κ0 : jq) (R : SL → List bX → List Part → Prop) (L1 : cj) (h1 : Heap) : Prop := ∃ κ L B G, (∃ t, κ = κ0 ++ t) ∧ dx κ L L1 ∧ Mem E κ B G h1 ∧ R L B G
theorem cI (κ : jq) : ∃ t, κ = κ ++ t := ⟨[], by simp⟩
def Fin (E : eK) (B : List bX) (G : List Part) (h : Heap) : Prop := ∃ κ, Mem E κ B G h
structure bW (P : Program) (K : ah) (E : eK) (ops : Array Oper) (o : Oper) (L : SL) (B : List bX) (G : List Part) (m n : Nat) (R : SL → List bX → List Part → Prop) : Prop where
 run : ∀ κ h L0, dx κ L L0 → Mem E κ B G h → gK P K ops o L0 h m n (QV E κ R)
structure HZ (P : Program) (K : ah) (E : eK) (ops : Array Oper) (l : List Oper) (L : SL) (B : List bX) (G : List Part) (m n : Nat) (R : SL → List bX → List Part → Prop) : Prop where
 run : ∀ κ h L0, dx κ L L0 → Mem E κ B G h → WO P K ops l L0 h m n (QU E R)
structure ai (P : Program) (K : ah) (E : eK) (c : Code) (L : SL) (B : List bX) (G : List Part) (m n : Nat) (Q : Ex → St → Prop) : Prop where
 run : ∀ κ h L0, dx κ L L0 → Mem E κ B G h → WC P K c L0 h m n Q
structure ax (E : eK) (Q : Ex → St → Prop) (e : Ex) (L : SL) (B : List bX) (G : List Part) (m n : Nat) : Prop where
 run : ∀ κ h L0, dx κ L L0 → Mem E κ B G h → To Q e L0 h m n
structure zo (E : eK) (m n : Nat) (Q : Ex → St → Prop) (L : SL) (B : List bX) (G : List Part) : Prop where
 run : ∃ L', wB m L some = some L' ∧ ax E Q .dw L' B G m n
section
variable {P : Program} {K : ah} {E : eK} {ops : Array Oper} {o : Oper} {l : List Oper} {L L' : SL} {B B' : List bX} {G : List Part} {m n : Nat} {R : SL → List bX → List Part → Prop} {Q : Ex → St → Prop} {a b c : Code}
theorem WO.mono {L : cj} {h : Heap} {R R' : cj → Heap → Prop} (w : WO P K ops l L h m n R) (hr : ∀ L h, R L h → R' L h) : WO P K ops l L h m n R' := ⟨fun s f => let ⟨s', L', h', a, b, c⟩ := w.run s f; ⟨s', L', h', a, b, hr _ _ c⟩⟩
theorem HZ.nil (hr : R L B G) : HZ P K E ops [] L B G m n R := ⟨fun κ _ _ r M => WO.nil ⟨κ, _, _, _, r, M, hr⟩⟩
theorem HZ.cons (ho : bW P K E ops o L B G m n fun L' B' G' => HZ P K E ops l L' B' G' m n R) : HZ P K E ops (o :: l) L B G m n R :=
 ⟨fun κ h L0 r M => WO.cons (gK.mono (ho.run κ h L0 r M) fun _ _ ⟨κ', _, _, _, _, r', M', w⟩ => w.run κ' _ _ r' M')⟩
theorem zo.intro (hk : wB m L some = some L') (g : ax E Q .dw L' B G m n) : zo E m n Q L B G := ⟨L', hk, g⟩
theorem ai.g_ {id : Nat} (hw : HZ P K E ops ops.toList L B G m n (zo E m n Q)) : ai P K E (.region id ops false) L B G m n Q := by
 refine ⟨fun κ h L0 r M => WC.region (WO.mono (hw.run κ h L0 r M) ?_)⟩
 rintro L1 h1 ⟨κ', L2, B2, G2, r2, M2, ⟨L3, hk, g⟩⟩
 obtain ⟨L4, L5, g1, g2, g3⟩ := rq r2 hk
 cases g1
 exact ⟨_, g2, g.run κ' _ _ g3 M2⟩
theorem ai.s_ (hw : ai P K E a L B G m n (dY P K b Q)) : ai P K E (.seq a b) L B G m n Q := ⟨fun κ h L0 r M => .seq (hw.run κ h L0 r M)⟩
theorem ai.k_ (hw : ax E Q .dw L B G m n) : ai P K E .skip L B G m n Q := ⟨fun κ h L0 r M => .skip (hw.run κ h L0 r M)⟩
theorem ai.r_ (hw : ax E Q .ret L B G m n) : ai P K E .ret L B G m n Q := ⟨fun κ h L0 r M => .ret (hw.run κ h L0 r M)⟩
theorem ai.e_ {id : Nat} (hw : ax E Q (.exit id) L B G m n) : ai P K E (.exit id) L B G m n Q := ⟨fun κ h L0 r M => .exit (hw.run κ h L0 r M)⟩
theorem ai.b_ {id : Nat} (hw : ai P K E a L B G m n (eF id Q)) : ai P K E (.block id a) L B G m n Q := ⟨fun κ h L0 r M => .block (hw.run κ h L0 r M)⟩
theorem ai.t_ {x : Operand} (hx : cU P L x = some (.bool true)) (hw : ai P K E a L B G m n Q) : ai P K E (.cond x a b) L B G m n Q := ⟨fun κ h L0 r M => .cond_true (aF r hx) (hw.run κ h L0 r M)⟩
theorem ai.f_ {x : Operand} (hx : cU P L x = some (.bool false)) (hw : ai P K E b L B G m n Q) : ai P K E (.cond x a b) L B G m n Q := ⟨fun κ h L0 r M => .cond_false (aF r hx) (hw.run κ h L0 r M)⟩
theorem ax.a_ (hw : ai P K E b L B G m n Q) : ax E (dY P K b Q) .dw L B G m n := ⟨fun κ h L0 r M => .KY (hw.run κ h L0 r M)⟩
theorem ax.e_ {id : Nat} (g : ax E Q (.exit id) L B G m n) : ax E (dY P K b Q) (.exit id) L B G m n := ⟨fun κ h L0 r M => .JH (g.run κ h L0 r M)⟩
theorem ax.d_ (g : ax E Q .ret L B G m n) : ax E (dY P K b Q) .ret L B G m n := ⟨fun κ h L0 r M => .KE (g.run κ h L0 r M)⟩
theorem ax.b_ {id : Nat} (g : ax E Q .dw L B G m n) : ax E (eF id Q) .dw L B G m n := ⟨fun κ h L0 r M => .GM (g.run κ h L0 r M)⟩
theorem ax.f_ {id : Nat} (g : ax E Q .ret L B G m n) : ax E (eF id Q) .ret L B G m n := ⟨fun κ h L0 r M => .Gi (g.run κ h L0 r M)⟩
theorem ax.c_ {id : Nat} (g : ax E Q .dw L B G m n) : ax E (eF id Q) (.exit id) L B G m n := ⟨fun κ h L0 r M => .E8 (g.run κ h L0 r M)⟩
/-! ## Operations -/
def bm (d : Option Nat) (v : SV) (L : SL) : SL := match d with
 | none => L
 | some d => (d, v) :: L
theorem dx.put {κ : jq} {L0 : cj} (r : dx κ L L0) {v : SV} {w : aa} (h : Az κ v w) (d : Option Nat) : dx κ (bm d v L) (jI d w L0) := by
 cases d with
 | none => exact r
 | some d => exact .cons h r
variable {aw : iO} {zl : List (Nat × List aa)}
def qN (P : Program) (aw : iO) (zl : List (Nat × List aa)) (ops : Array Oper) (o : Oper) (L : SL) (B : List bX) (n : Nat) : Option (SV × List bX) :=
 ae (fits o.dst n) (match aT ops o L with
  | some true => O8 P aw zl L B o.op
  | some false => some (.ext bw, B)
  | none => none) none
theorem bW.comp {sv : SV} (hw : aT ops o L = some true) (hf : fits o.dst n = true) (hc : ∀ κ h L0, dx κ L L0 → Mem E κ B G h → Ks P o L0 h E κ G sv B') (hr : R (bm o.dst sv L) B' G) : bW P K E ops o L B G m n R := by
 refine ⟨fun κ h L0 r M => ?_⟩
 obtain ⟨κ', v, h', hv, hrep, M', t, rfl⟩ := hc κ h L0 r M
 exact gK.val hv (bj r hw) hf ⟨_, _, _, _, ⟨t, rfl⟩, r.more.put hrep o.dst, M', hr⟩
theorem bW.skip (hw : aT ops o L = some false) (hf : fits o.dst n = true) (hr : R (bm o.dst (.ext bw) L) B G) : bW P K E ops o L B G m n R := by
 refine ⟨fun κ h L0 r M => ?_⟩
 have hg : ∃ g, o.guard = some g := by
  unfold aT at hw
  split at hw
  ·cases hw
  ·rename_i g hg; exact ⟨g, hg⟩
 obtain ⟨g, hg⟩ := hg
 exact gK.skip hg (bj r hw) hf ⟨κ, _, _, _, cI κ, r.put (.ext _) o.dst, M, hr⟩
theorem D4 {sv : SV} (h : qN P aw zl ops o L B n = some (sv, B')) : fits o.dst n = true ∧ (aT ops o L = some true ∧ O8 P aw zl L B o.op = some (sv, B') ∨ aT ops o L = some false ∧ sv = .ext bw ∧ B' = B) := by
 unfold qN at h
 cases hf : fits o.dst n with
 | false => rw [hf] at h; cases h
 | true =>
  rw [hf, bcT] at h
  cases hw : aT ops o L with
  | none => rw [hw] at h; cases h
  | some w =>
   rw [hw] at h
   cases w with
   | true => exact ⟨rfl, .inl ⟨rfl, h⟩⟩
   | false => cases h; exact ⟨rfl, .inr ⟨rfl, rfl, rfl⟩⟩
theorem q {sv : SV} (hX : TK P aw zl) (he : qN P aw zl ops o L B n = some (sv, B')) (hr : R (bm o.dst sv L) B' G) : bW P K E ops o L B G m n R := by
 obtain ⟨hf, ⟨hw, he⟩ | ⟨hw, rfl, rfl⟩⟩ := D4 he
 ·exact .comp hw hf (fun κ h L0 r M => tj hX r M he) hr
 ·exact .skip hw hf hr
theorem qb {b : Bool} (hX : TK P aw zl) (he : qN P aw zl ops o L B n = some (.ext (.bool b), B')) (h1 : b = true → R (bm o.dst (.ext (.bool true)) L) B' G) (h0 : b = false → R (bm o.dst (.ext (.bool false)) L) B' G) : bW P K E ops o L B G m n R := by
 cases b with
 | true => exact q hX he (h1 rfl)
 | false => exact q hX he (h0 rfl)
def P8 : BinOp → Int → Int → Option Prop
 | .eql, a, b => some (a = b)
 | .neq, a, b => some (¬ a = b)
 | .lss, a, b => some (a < b)
 | .leq, a, b => some (a ≤ b)
 | .gtr, a, b => some (b < a)
 | .geq, a, b => some (b ≤ a)
 | _, _, _ => none
def Ij (P : Program) (ops : Array Oper) (o : Oper) (L : SL) (n : Nat) : Option Prop :=
 ae (fits o.dst n) (match aT ops o L with
  | some true => match o.op with
   | .binOp bo _ x y _ => ob (cU P L x) fun a => ob (cU P L y) fun b => match a with
    | .int k a => match b with
     | .int j b => ae (sameKind k j) (P8 bo a b) none
     | _ => none
    | .str s c => match b with
     | .str s' c' => match bo with
      | .eql => some (s = s' ∧ c = c')
      | .neq => some (¬ (s = s' ∧ c = c'))
      | _ => none
     | _ => none
    | _ => none
   | _ => none
  | _ => none) none
theorem V.MX {L : cj} {h : Heap} {t p : Nat} {x y : Operand} {n c m d : Nat} (ho : o.op = .binOp .neq t x y p) (hx : eS P L x = some (.str n c)) (hy : eS P L y = some (.str m d)) : cK P o L h (.bool (decide (¬ (n = m ∧ c = d)))) h := cK.mk ho fun ev ha d ty ps aft g => by
 simp only [bS, evS ha hx, evS ha hy, kc, df, vz, HL.val, obS, vM, bD, bcE]
 by_cases h1 : n = m <;> by_cases h2 : c = d <;> simp [h1, h2]
theorem qc {p : Prop} (he : Ij P ops o L n = some p) (h1 : p → R (bm o.dst (.ext (.bool true)) L) B G) (h0 : ¬ p → R (bm o.dst (.ext (.bool false)) L) B G) : bW P K E ops o L B G m n R := by
 classical
 have main : fits o.dst n = true ∧ aT ops o L = some true ∧ ∀ κ h L0, dx κ L L0 → ∃ d : Decidable p, cK P o L0 h (.bool (@decide p d)) h := by
  unfold Ij at he
  cases hf : fits o.dst n with
  | false => rw [hf] at he; cases he
  | true =>
   rw [hf, bcT] at he
   split at he
   ·rename_i hw
    refine ⟨rfl, hw, fun κ h L0 r => ?_⟩
    split at he
    ·rename_i bo t x y pp ho
     obtain ⟨va, e1, e2⟩ := ad.1 he
     obtain ⟨vb, e3, e4⟩ := ad.1 e2
     have f1 := aF r e1
     have f2 := aF r e3
     split at e4
     ·split at e4
      ·obtain ⟨hk, e5⟩ := dD e4
       cases bo <;> simp only [P8] at e5 <;> (try (cases e5; done)) <;> cases e5
       all_goals exact ⟨inferInstance, V.cmp ho f1 f2 hk rfl⟩
      ·cases e4
     ·split at e4
      ·cases bo <;> simp only at e4 <;> (try (cases e4; done)) <;> cases e4
       ·exact ⟨inferInstance, V.Qt ho f1 f2⟩
       ·exact ⟨inferInstance, V.MX ho f1 f2⟩
      ·cases e4
     ·cases e4
    ·cases he
   ·cases he
 obtain ⟨hf, hw, hv⟩ := main
 refine ⟨fun κ h L0 r M => ?_⟩
 obtain ⟨d, hv⟩ := hv κ h L0 r
 by_cases hp : p
 ·have : @decide p d = true := decide_eq_true hp
  rw [this] at hv
  exact gK.val hv (bj r hw) hf ⟨κ, _, _, _, cI κ, r.put (.ext _) o.dst, M, h1 hp⟩
 ·have : @decide p d = false := decide_eq_false hp
  rw [this] at hv
  exact gK.val hv (bj r hw) hf ⟨κ, _, _, _, cI κ, r.put (.ext _) o.dst, M, h0 hp⟩
theorem qv {v : aa} (hw : aT ops o L = some true) (hf : fits o.dst n = true) (hv : ∀ κ h L0, dx κ L L0 → Mem E κ B G h → cK P o L0 h v h) (hr : R (bm o.dst (.ext v) L) B G) : bW P K E ops o L B G m n R :=
 .comp hw hf (fun κ h L0 r M => .same (hv κ h L0 r M) (.ext _) M) hr
def Ol : BinOp → Int → Int → Option Int
 | .add, a, b => some (a + b)
 | .sub, a, b => some (a - b)
 | .mul, a, b => some (a * b)
 | _, _, _ => none
theorem qa {bo : BinOp} {t p : Nat} {x y : Operand} {k j : IntKind} {a b c d : Int} (ho : o.op = .binOp bo t x y p) (hx : cU P L x = some (.int k a)) (hy : cU P L y = some (.int j b)) (hk : sameKind k j = true) (hs : Ol bo a b = some c) (hd : cx k c = d) (hw : aT ops o L = some true) (hf : fits o.dst n = true) (hr : R (bm o.dst (.ext (.int k d)) L) B G) : bW P K E ops o L B G m n R := by
 refine qv hw hf (fun κ h L0 r M => ?_) hr
 have hk' := eV hk
 subst hk'
 refine V.bin ho (aF r hx) (aF r hy) ?_
 cases bo <;> simp only [Ol] at hs <;> (try (cases hs; done)) <;> cases hs <;> rw [← hd]
 ·exact LZ
 ·exact LU
 ·exact LY
theorem qn {bo : BinOp} {t p : Nat} {x y : Operand} {k j : IntKind} {a b : Int} {v : aa} (ho : o.op = .binOp bo t x y p) (hx : cU P L x = some (.int k a)) (hy : cU P L y = some (.int j b)) (hd : df P bo t (.int k a) (.int j b) = some v) (hw : aT ops o L = some true) (hf : fits o.dst n = true) (hr : R (bm o.dst (.ext v) L) B G) : bW P K E ops o L B G m n R :=
 qv hw hf (fun κ h L0 r M => V.bin ho (aF r hx) (aF r hy) hd) hr
theorem qw {s t u w : Nat} {x : Operand} {k j k' : IntKind} {a b : Int} (hX : TK P aw zl) (ho : o.op = .convert s t x) (hs : bY aw s = some (.int k, u)) (ht : bY aw t = some (.int k', w)) (hx : cU P L x = some (.int j a)) (hd : cx k' a = b) (hw : aT ops o L = some true) (hf : fits o.dst n = true) (hr : R (bm o.dst (.ext (.int k' b)) L) B G) : bW P K E ops o L B G m n R :=
 qv hw hf (fun κ h L0 r M => V.P6 hX.aw ho hs ht (aF r hx) hd) hr
theorem ql {cl : Call} {x : Operand} {t e q c : Nat} {v : aa} (hX : TK P aw zl) (ho : o.op = .call cl) (hc : cl.callee = .builtin .len) (hx : cl.args = #[x]) (hts : cl.argTypes[0]? = some t) (ht : bY aw t = some (.slice e, q)) (hs : cU P L x = some v) (hm : dO v = some c) (hw : aT ops o L = some true) (hf : fits o.dst n = true) (hr : R (bm o.dst (.ext (.int .i64 (c : Int))) L) B G) : bW P K E ops o L B G m n R :=
 qv hw hf (fun κ h L0 r M => V.len hX.aw ho hc hx hts ht (aF r hs) hm) hr
theorem qs {t u s c j : Nat} {x y : Operand} {kd : IntKind} (hX : TK P aw zl) (ho : o.op = .index t x y) (ht : bY aw t = some (.str, u)) (hx : cU P L x = some (.str s c)) (hy : cU P L y = some (.int kd (.ofNat j))) (hj : j < s) (hw : aT ops o L = some true) (hf : fits o.dst n = true) (hr : R (bm o.dst (.ext (.int .u8 (Int.ofNat (gm s c j)))) L) B G) : bW P K E ops o L B G m n R :=
 qv hw hf (fun κ h L0 r M => V.Ns hX.aw ho ht (aF r hx) (aF r hy) hj) hr
end
end
theorem Y {P : Program} {K : ah} {E : eK} {ops : Array Oper} {L L' : SL} {B : List bX} {G : List Part} {m n : Nat} {Q : Ex → St → Prop} (hk : wB m L some = some L') (g : ax E Q .dw L' B G m n) : HZ P K E ops [] L B G m n (zo E m n Q) := .nil (.intro hk g)
theorem X {P : Program} {K : ah} {E : eK} {ops : Array Oper} {L : SL} {B : List bX} {G : List Part} {m n : Nat} {Q : Ex → St → Prop} (id : Nat) (hw : HZ P K E ops ops.toList L B G m n (zo E m n Q)) : ai P K E (.region id ops false) L B G m n Q := ai.g_ hw
theorem Z {α : Sort _} {a : α} : a = a := rfl
end Go.HL
namespace Go.HL
open Go
noncomputable section
section
variable {P : Program} {K : ah} {E : eK} {ops : Array Oper} {o : Oper} {l : List Oper} {L L' : SL} {B B' : List bX} {G G' : List Part} {m n : Nat} {R : SL → List bX → List Part → Prop} {Q : Ex → St → Prop} {a b c : Code} {aw : iO} {zl : List (Nat × List aa)} {h h' : Heap}
/-! ## The memory now -/
theorem Fin.wf (f : Fin E B G h) : Wf h := let ⟨_, M⟩ := f; M.wf
theorem Fin.ro (f : Fin E B G h) {a : Part} (r : Ro E.C E.h a) : a.holds h := let ⟨_, M⟩ := f; r.at M.aZ
theorem Fin.mem (f : Fin E B G h) {a : Part} (r : a ∈ G) : a.holds h := let ⟨_, M⟩ := f; M.aZ.all a (List.mem_append_right _ r)
theorem Fin.pick (f : Fin E B G h) {a : Part} {G2 : List Part} (r : aS G a G2) : a.holds h := f.mem r.mem
theorem fU.right {C A B : List Part} {h h' : Heap} (c : fU C h (A ++ B) h') : fU C h B h' := (c.perm List.perm_append_comm).drop
theorem Fin.aZ {C : List Part} {h0 : Heap} {κ : jq} (f : Fin ⟨C, h0, κ⟩ B G h) : fU C h0 G h := let ⟨_, M⟩ := f; M.aZ.right
theorem Fin.Cn {h0 : Heap} {k e' : Nat} {l' : List aa} {s' : Bool} {C : List Part} (f : Fin ⟨C, h0, [(k, 0)]⟩ (.own l' e' s' :: B) G h) : fU C h0 (eR k l' e' s' :: G) h := by
 obtain ⟨κ, M⟩ := f
 obtain ⟨t, rfl⟩ := M.pre
 have c : fU C h0 ((eR k l' e' s' :: bg B t) ++ G) h := M.aZ
 refine (c.perm (B' := (eR k l' e' s' :: G) ++ bg B t) ?_).drop
 exact List.Perm.cons _ List.perm_append_comm
/-! ## Functions -/
def KX : List aa → Option SL
 | [] => some []
 | [a] => some [(0, .ext a)]
 | [a, b] => some [(0, .ext a), (1, .ext b)]
 | [a, b, c] => some [(0, .ext a), (1, .ext b), (2, .ext c)]
 | [a, b, c, d] => some [(0, .ext a), (1, .ext b), (2, .ext c), (3, .ext d)]
 | [a, b, c, d, e] => some [(0, .ext a), (1, .ext b), (2, .ext c), (3, .ext d), (4, .ext e)]
 | [a, b, c, d, e, f] => some [(0, .ext a), (1, .ext b), (2, .ext c), (3, .ext d), (4, .ext e), (5, .ext f)]
 | [a, b, c, d, e, f, g] => some [(0, .ext a), (1, .ext b), (2, .ext c), (3, .ext d), (4, .ext e), (5, .ext f), (6, .ext g)]
 | _ => none
theorem Bj {κ : jq} {args : List aa} (hn : KX args = some L) : dx κ L (cg args 0) := by
 unfold KX at hn
 split at hn <;> first | (cases hn; repeat' (first | exact .nil | refine .cons (.ext _) ?_)) | cases hn
theorem Sp.all {f : Nat} {fn : Func} {c : Code} {args : List aa} {R : aa → Heap → Prop} (hK : K f args h = none) (hf : P.funcs[f]? = some fn) (hb : fn.body = some c) (hlt : Nat.blt f bd = true)
  (hm : Nat.lor (bB fn) (Nat.sub (Nat.pow 2 args.length) 1) = m) (hl : Nat.add args.length (Nat.sub fn.ntmps args.length) = n)
  (hw : WC P K c (cg args 0) h m n (M7 P fn R)) : Sp P K f args h R := by
 obtain ⟨e, s', r, he, hd, v, hv, hr⟩ := hw.run _ (Fr.enter rfl)
 refine ⟨v, s'.heap, ?_, hr⟩
 refine tF.of_wp hK hf hb ?_ hm hl ⟨e, s', r, he, hd, hv, rfl⟩
 rw [eW] at hlt
 exact of_decide_eq_true hlt
theorem Mem.start (w : Wf h) : Mem ⟨[], h, []⟩ [] [] [] h := ⟨fU.refl w, ⟨[], rfl⟩, rfl, fun i l e s hb => (by rw [bU] at hb; simp at hb), fun i l hb => (by rw [bU] at hb; simp at hb), fun i l hb => (by rw [bU] at hb; simp at hb)⟩
theorem Sp.start {f : Nat} {fn : Func} {c : Code} {args : List aa} {R : aa → Heap → Prop} (w : Wf h) (hK : K f args h = none) (hf : P.funcs[f]? = some fn) (hb : fn.body = some c) (hlt : Nat.blt f bd = true)
  (hm : Nat.lor (bB fn) (Nat.sub (Nat.pow 2 args.length) 1) = m) (hl : Nat.add args.length (Nat.sub fn.ntmps args.length) = n) (hn : KX args = some L)
  (hw : ai P K ⟨[], h, []⟩ c L [] [] m n (M7 P fn R)) : Sp P K f args h R :=
 Sp.all hK hf hb hlt hm hl (hw.run [] h _ (Bj hn) (Mem.start w))
def eH : List aa → Option SL
 | [] => some [(0, .ptr 0 0)]
 | [b] => some [(0, .ptr 0 0), (1, .ext b)]
 | [b, c] => some [(0, .ptr 0 0), (1, .ext b), (2, .ext c)]
 | [b, c, d] => some [(0, .ptr 0 0), (1, .ext b), (2, .ext c), (3, .ext d)]
 | [b, c, d, e] => some [(0, .ptr 0 0), (1, .ext b), (2, .ext c), (3, .ext d), (4, .ext e)]
 | _ => none
theorem J0 {k : Nat} {args : List aa} (hn : eH args = some L) : dx [(k, 0)] L (cg (.ptr k 0 :: args) 0) := by
 have h0 : Az [(k, 0)] (.ptr 0 0) (.ptr k 0) := .ptr (i := 0) (off := 0) (k := k) (o := 0) rfl
 unfold eH at hn
 split at hn <;> first | (cases hn; refine .cons h0 ?_; repeat' (first | exact .nil | refine .cons (.ext _) ?_)) | cases hn
theorem Mem.pT {k e : Nat} {l : List aa} {s : Bool} (w : Wf h) (hp : (eR k l e s).holds h) : Mem ⟨[eR k l e s], h, [(k, 0)]⟩ [(k, 0)] [.own l e s] [] h := by
 refine ⟨⟨w, Nat.le_refl _, fun e _ => e, ?_, List.pairwise_singleton _ _, ?_⟩, ⟨[], rfl⟩, rfl, ?_, ?_, ?_⟩
 ·intro r hr
  have : r = eR k l e s := by simpa [bg] using hr
  subst this; exact hp
 ·intro r hr j hj
  exact .inl ⟨r, by simpa [bg] using hr, hj⟩
 ·intro i l' e' s' hb
  rw [bU] at hb
  cases i with
  | zero => exact ⟨k, rfl⟩
  | succ i => simp at hb
 all_goals
  intro i l' hb
  rw [bU] at hb
  cases i <;> simp at hb
theorem Sp.pT {f k e : Nat} {s : Bool} {lc : List aa} {fn : Func} {c : Code} {args : List aa} {R : aa → Heap → Prop} (w : Wf h) (hp : (eR k lc e s).holds h) (hK : K f (.ptr k 0 :: args) h = none) (hf : P.funcs[f]? = some fn) (hb : fn.body = some c) (hlt : Nat.blt f bd = true)
  (hm : Nat.lor (bB fn) (Nat.sub (Nat.pow 2 (args.length + 1)) 1) = m) (hl : Nat.add (args.length + 1) (Nat.sub fn.ntmps (args.length + 1)) = n) (hn : eH args = some L)
  (hw : ai P K ⟨[eR k lc e s], h, [(k, 0)]⟩ c L [.own lc e s] [] m n (M7 P fn R)) : Sp P K f (.ptr k 0 :: args) h R :=
 Sp.all hK hf hb hlt hm hl (hw.run [(k, 0)] h _ (J0 hn) (Mem.pT w hp))
def zJ (aw : iO) (L : SL) (B : List bX) : List ResultVar → Option (List aa)
 | [] => some []
 | r :: l => match r with
  | .tmp t => ob (gO L t) fun v => ob (JG v) fun v => ob (zJ aw L B l) fun vs => some (v :: vs)
  | .cell a t => ob (gO L a) fun v => match v with
   | .ptr i off => ob (nth B i) fun b => ob b.cells fun cs => ob (bY aw t) fun w => ae w.1.agg (fp (jS cs off) w.2 fun m => ob (zJ aw L B l) fun vs => some (.agg m :: vs)) (ob (nth cs off) fun v => ob (zJ aw L B l) fun vs => some (v :: vs))
   | _ => none
theorem mw (hX : TK P aw zl) {κ : jq} {L0 : cj} {s : St} (r : dx κ L L0) (M : Mem E κ B G h) (f : Fr m n L0 h s) : ∀ {l : List ResultVar} {vs : List aa}, zJ aw L B l = some vs → ew P s l = some vs
 | [], vs, e => e
 | rv :: l, vs, e => by
  cases rv with
  | tmp t =>
   simp only [zJ] at e
   obtain ⟨x, e1, e2⟩ := ad.1 e
   obtain ⟨v, e3, e4⟩ := ad.1 e2
   obtain ⟨vs', e5, e6⟩ := ad.1 e4
   cases e6
   obtain ⟨w, g1, g2⟩ := r.look e1
   cases x <;> simp only [JG] at e3 <;> (try (cases e3; done))
   cases e3
   cases g2
   simp only [ew, mw hX r M f e5, obS, f.env t v g1]
  | cell a t =>
   simp only [zJ] at e
   obtain ⟨x, e1, e2⟩ := ad.1 e
   obtain ⟨w, g1, g2⟩ := r.look e1
   cases x <;> simp only at e2 <;> (try (cases e2; done))
   obtain ⟨b, e3, e4⟩ := ad.1 e2
   obtain ⟨cs, e5, e6⟩ := ad.1 e4
   obtain ⟨⟨ti, q⟩, e7, e8⟩ := ad.1 e6
   cases g2 with
   | @ptr _ off k o hk =>
    obtain ⟨k2, o2, g3, g4⟩ := M.row e3 e5
    rw [hk] at g3
    cases g3
    have g5 := f.env _ _ g1
    cases hag : ti.agg with
    | true =>
     simp only [hag, bcT] at e8
     obtain ⟨m2, e9, e10⟩ := vw e8
     obtain ⟨vs', e11, e12⟩ := ad.1 e10
     cases e12
     have g6 : m2.length = q := by
      rw [bz] at e9
      split at e9
      ·rename_i hle
       rw [← Option.some.inj e9, List.length_take, Nat.min_eq_left hle]
      ·cases e9
     have g7 := (g4.sub e9).load
     rw [g6] at g7
     simp only [ew, g5, aa.dI, obS, f.heap, loadT, jd hX.aw e7, hag, bcT, (cP hX.aw e7).2, g7, mw hX r M f e11]
    | false =>
     simp only [hag, bcF] at e8
     obtain ⟨v, e9, e10⟩ := ad.1 e8
     obtain ⟨vs', e11, e12⟩ := ad.1 e10
     cases e12
     simp only [ew, g5, aa.dI, obS, f.heap, loadT, jd hX.aw e7, hag, bcF, g4.nth e9, mw hX r M f e11]
theorem ax.fn {fn : Func} {R : aa → Heap → Prop} {vs : List aa} {e : Ex} (hX : TK P aw zl) (he : e = .dw ∨ e = .ret) (hv : zJ aw L B fn.results.toList = some vs) (hr : ∀ h, Fin E B G h → R (cD vs) h) : ax E (M7 P fn R) e L B G m n := by
 refine ⟨fun κ h L0 r M => ⟨fun s f => ⟨he, f.defers, cD vs, ?_, by rw [f.heap]; exact hr h ⟨κ, M⟩⟩⟩⟩
 unfold kn
 rw [mw hX r M f hv, obS]
 cases vs with
 | nil => rfl
 | cons v l => cases l <;> rfl
theorem ax.r_ {fn : Func} {R : aa → Heap → Prop} {vs : List aa} (hX : TK P aw zl) (hv : zJ aw L B fn.results.toList = some vs) (hr : ∀ h, Fin E B G h → R (cD vs) h) : ax E (M7 P fn R) .ret L B G m n := .fn hX (.inr rfl) hv hr
theorem ax.n_ {fn : Func} {R : aa → Heap → Prop} {vs : List aa} (hX : TK P aw zl) (hv : zJ aw L B fn.results.toList = some vs) (hr : ∀ h, Fin E B G h → R (cD vs) h) : ax E (M7 P fn R) .dw L B G m n := .fn hX (.inl rfl) hv hr
/-! ## Less is known -/
def FO : SL → SL → Prop
 | [], _ => True
 | (i, v) :: l, L => gO L i = some v ∧ FO l L
def inside (b : Nat) : SL → Bool
 | [] => true
 | (_, v) :: l => match v with
  | .ext _ => inside b l
  | .ptr i _ => ae (Nat.blt i b) (inside b l) false
  | .sl i _ => ae (Nat.blt i b) (inside b l) false
def gy : List bX → Bool
 | [] => true
 | b :: B => match b with
  | .tmp _ => false
  | _ => gy B
theorem r8 {α : Type} {l : List α} {i b : Nat} {a : α} (hi : i < b) (h : nth l i = some a) : nth (l.take b) i = some a := by
 rw [bU] at h ⊢
 rw [List.getElem?_take, if_pos hi]; exact h
theorem oN {κ : jq} {L0 : cj} {b : Nat} (r : dx κ L L0) : ∀ {S : SL}, FO S L → inside b S = true → ∃ S0, dx (κ.take b) S S0 ∧ HV S0 L0
 | [], _, _ => ⟨[], .nil, trivial⟩
 | (i, v) :: S, hs, hc => by
  obtain ⟨w, g1, g2⟩ := r.look hs.1
  cases v with
  | ext u =>
   obtain ⟨S0, h1, h2⟩ := oN r hs.2 (show inside b S = true from hc)
   cases g2
   exact ⟨(i, _) :: S0, .cons (.ext _) h1, g1, h2⟩
  | ptr j off =>
   obtain ⟨h3, h4⟩ := bcFe.1 (show ae (Nat.blt j b) (inside b S) false = true from hc)
   rw [eW] at h3
   obtain ⟨S0, h1, h2⟩ := oN r hs.2 h4
   cases g2 with
   | ptr hk => exact ⟨(i, _) :: S0, .cons (.ptr (r8 (of_decide_eq_true h3) hk)) h1, g1, h2⟩
  | sl j q =>
   obtain ⟨h3, h4⟩ := bcFe.1 (show ae (Nat.blt j b) (inside b S) false = true from hc)
   rw [eW] at h3
   obtain ⟨S0, h1, h2⟩ := oN r hs.2 h4
   cases g2 with
   | sl hk => exact ⟨(i, _) :: S0, .cons (.sl (r8 (of_decide_eq_true h3) hk)) h1, g1, h2⟩
theorem sR : ∀ {B : List bX}, gy B = true → ∀ {i : Nat} {l : List aa}, nth B i ≠ some (.tmp l)
 | [], _, i, l, h => by rw [bU] at h; simp at h
 | b :: B, hn, 0, l, h => by
  rw [bU] at h
  simp at h
  subst h
  cases hn
 | b :: B, hn, i + 1, l, h => by
  rw [bU] at h
  simp only [List.getElem?_cons_succ] at h
  rw [← bU] at h
  have : gy B = true := by cases b <;> first | exact hn | cases hn
  exact sR this h
theorem pF : ∀ {B B2 : List bX} {κ κ2 : jq}, κ.length = B.length → bg (B ++ B2) (κ ++ κ2) = bg B κ ++ bg B2 κ2
 | [], B2, [], κ2, _ => rfl
 | [], _, _ :: _, _, h => by simp at h
 | _ :: _, _, [], _, h => by simp at h
 | b :: B, B2, p :: κ, κ2, h => by
  have ih := pF (B := B) (B2 := B2) (κ := κ) (κ2 := κ2) (by simpa using h)
  cases b <;> simp [bg, ih]
theorem Mem.less {κ : jq} {B2 : List bX} (M : Mem E κ (B ++ B2) G h) (hE : Nat.ble E.κ.length B.length = true) (hn : gy B = true) {R : List Part} (hG : s7 G G' R) : Mem E (κ.take B.length) B G' h := by
 have hle : B.length ≤ κ.length := by rw [M.len]; simp
 have hlen : (κ.take B.length).length = B.length := by rw [List.length_take, Nat.min_eq_left hle]
 have hsp : bg (B ++ B2) κ = bg B (κ.take B.length) ++ bg B2 (κ.drop B.length) := by
  rw [← pF hlen, List.take_append_drop]
 have c := M.aZ
 rw [hsp] at c
 rw [eX] at hE
 have hE := of_decide_eq_true hE
 refine ⟨?_, ?_, hlen, ?_, ?_, ?_⟩
 ·have p : List.Perm ((bg B (κ.take B.length) ++ bg B2 (κ.drop B.length)) ++ G) ((bg B (κ.take B.length) ++ G') ++ (bg B2 (κ.drop B.length) ++ R)) := by
   refine (List.Perm.append_left _ hG.perm).trans ?_
   rw [List.append_assoc, List.append_assoc]
   refine List.Perm.append_left _ ?_
   rw [← List.append_assoc, ← List.append_assoc]
   exact List.Perm.append_right _ List.perm_append_comm
  exact (c.perm p).drop
 ·obtain ⟨t, ht⟩ := M.pre
  refine ⟨t.take (B.length - E.κ.length), ?_⟩
  rw [ht, List.take_append, List.take_of_length_le hE]
 ·intro i l e s hb
  obtain ⟨k, hk⟩ := M.own i l e s (dp hb)
  refine ⟨k, r8 ?_ hk⟩
  rw [bU] at hb
  exact (List.getElem?_eq_some_iff.1 hb).1
 ·intro i l hb
  obtain ⟨k, o, hk, hr⟩ := M.ro i l (dp hb)
  refine ⟨k, o, r8 ?_ hk, hr⟩
  rw [bU] at hb
  exact (List.getElem?_eq_some_iff.1 hb).1
 ·intro i l hb
  exact absurd hb (sR hn)
theorem ai.sub {B2 : List bX} {R : List Part} (hs : FO L' L) (hc : inside B'.length L' = true) (hE : Nat.ble E.κ.length B'.length = true) (hn : gy B' = true) (hB : B = B' ++ B2) (hG : s7 G G' R) (hw : ai P K E c L' B' G' m n Q) : ai P K E c L B G m n Q := by
 subst hB
 refine ⟨fun κ h L0 r M => ?_⟩
 obtain ⟨S0, h1, h2⟩ := oN r hs hc
 exact WC.sub h2 (hw.run _ h _ h1 (M.less hE hn hG))
structure Fit (S : SL) (B : List bX) (G : List Part) (L' : SL) (B' : List bX) (G' : List Part) : Prop where
 sub : FO S L'
 bN : ∃ B2, B' = B ++ B2
 parts : ∃ R, s7 G' G R
theorem ai.fit (f : Fit L' B' G' L B G) (hc : inside B'.length L' = true) (hE : Nat.ble E.κ.length B'.length = true) (hn : gy B' = true) (hw : ai P K E c L' B' G' m n Q) : ai P K E c L B G m n Q :=
 let ⟨_, hB⟩ := f.bN; let ⟨_, hG⟩ := f.parts; ai.sub f.sub hc hE hn hB hG hw
theorem ai.loop {ι : Type} (S : ι → SL) (Bs : ι → List bX) (Gs : ι → List Part) (I : ι → Prop) (μ : ι → Nat) (i0 : ι) (hf : Fit (S i0) (Bs i0) (Gs i0) L B G) (hi : I i0)
  (hc : ∀ i, inside (Bs i).length (S i) = true) (hE : ∀ i, Nat.ble E.κ.length (Bs i).length = true) (hn : ∀ i, gy (Bs i) = true)
  (step : ∀ i, I i → (∀ j L' B' G', μ j < μ i → Fit (S j) (Bs j) (Gs j) L' B' G' → I j → ai P K E (.loop a) L' B' G' m n Q) →
   ai P K E a (S i) (Bs i) (Gs i) m n (dY P K (.loop a) Q)) : ai P K E (.loop a) L B G m n Q := by
 have main : ∀ (k : Nat) (i : ι), μ i < k → I i → ai P K E (.loop a) (S i) (Bs i) (Gs i) m n Q := by
  intro k
  induction k with
  | zero => exact fun i hk => absurd hk (by omega)
  | succ k ih =>
   intro i hk hi
   have := step i hi fun j L' B' G' hlt hf hj => ai.fit hf (hc j) (hE j) (hn j) (ih j (by omega) hj)
   exact ⟨fun κ h L0 r M => WC.loop (this.run κ h L0 r M)⟩
 exact ai.fit hf (hc i0) (hE i0) (hn i0) (main (μ i0 + 1) i0 (by omega) hi)
theorem ai.M9 {ι : Type} {c2 : Code} {Q2 : Ex → St → Prop} (S : ι → SL) (Bs : ι → List bX) (Gs : ι → List Part) (I J : ι → Prop) (μ : ι → Nat) (i0 : ι) (hf : Fit (S i0) (Bs i0) (Gs i0) L B G) (hi : I i0)
  (hc : ∀ i, inside (Bs i).length (S i) = true) (hE : ∀ i, Nat.ble E.κ.length (Bs i).length = true) (hn : ∀ i, gy (Bs i) = true)
  (step : ∀ i, I i → (∀ j L' B' G', μ j < μ i → Fit (S j) (Bs j) (Gs j) L' B' G' → I j → ai P K E (.loop a) L' B' G' m n Q) →
   (∀ L' B' G', Fit (S i) (Bs i) (Gs i) L' B' G' → J i → ai P K E c2 L' B' G' m n Q2) → ai P K E a (S i) (Bs i) (Gs i) m n (dY P K (.loop a) Q))
  (done : ∀ i, I i → J i → ai P K E c2 (S i) (Bs i) (Gs i) m n Q2) : ai P K E (.loop a) L B G m n Q :=
 ai.loop S Bs Gs I μ i0 hf hi hc hE hn fun i hi next => step i hi next fun L' B' G' hf hj => ai.fit hf (hc i) (hE i) (hn i) (done i hi hj)
theorem EZ (e w : Nat) (h : Heap) : (aL e w .aC []).holds h := ⟨⟨none, .aC⟩, fun r hr => by simp at hr⟩
theorem Mem.NX {κ : jq} (M : Mem E κ B G h) (e w : Nat) : Mem E κ B (aL e w .aC [] :: G) h := by
 have c := M.aZ
 refine ⟨?_, M.pre, M.len, M.own, M.ro, fun i l hb => ?_⟩
 ·refine fU.perm (B := aL e w .aC [] :: (bg B κ ++ G)) ?_ ⟨c.wf, c.next, c.ji, ?_, ?_, ?_⟩
  ·exact List.perm_middle.symm
  ·intro r hr
   rcases List.mem_cons.1 hr with rfl | hr
   ·exact EZ e w h
   ·exact c.all r hr
  ·exact List.pairwise_cons.2 ⟨fun r _ k hk => (by cases hk), c.tk⟩
  ·intro r hr k hk
   rcases List.mem_cons.1 hr with rfl | hr
   ·cases hk
   ·exact c.own r hr k hk
 ·obtain ⟨k, o, g1, g2, g, g3, g4⟩ := M.tmp i l hb
  exact ⟨k, o, g1, g2, g, by simp [g3], g4⟩
theorem ai.nil (e w : Nat) (hw : ai P K E c L B (aL e w .aC [] :: G) m n Q) : ai P K E c L B G m n Q := ⟨fun κ h L0 r M => hw.run κ h L0 r (M.NX e w)⟩
/-! ## Calls -/
def Tr (φ : aa → List Part → Prop) (h : Heap) (v : aa) (h' : Heap) : Prop := ∃ C', fU [] h C' h' ∧ φ v C'
def iw (v0 : aa) (h : Heap) (v : aa) (h' : Heap) : Prop := v = v0 ∧ fU [] h [] h'
def ux (P : Program) (L : SL) : List Operand → Option (List aa)
 | [] => some []
 | x :: l => ob (cU P L x) fun v => ob (ux P L l) fun vs => some (v :: vs)
theorem rX {κ : jq} {L0 : cj} (r : dx κ L L0) : ∀ {l : List Operand} {vs : List aa}, ux P L l = some vs → oA P L0 l = some vs
 | [], vs, e => e
 | x :: l, vs, e => by
  simp only [ux] at e
  obtain ⟨v, e1, e2⟩ := ad.1 e
  obtain ⟨q, e3, e4⟩ := ad.1 e2
  simp only [oA, aF r e1, obS, rX r e3, e4]
theorem Mem.call {κ : jq} (M : Mem E κ B G h) {C' : List Part} (d : fU [] h C' h') : Mem E κ B (C' ++ G) h' := by
 have c := M.aZ.trans (D := []) (R := bg B κ ++ G) (List.Perm.refl _) d
 refine ⟨c.perm ?_, M.pre, M.len, M.own, M.ro, fun i l hb => ?_⟩
 ·rw [← List.append_assoc, ← List.append_assoc]
  exact List.Perm.append_right _ List.perm_append_comm
 ·obtain ⟨k, o, g1, g2, g, g3, g4⟩ := M.tmp i l hb
  exact ⟨k, o, g1, g2.ji (M.stay d k ⟨g, g3, g4⟩), g, by simp [g3], g4⟩
theorem fD {cl : Call} {x : Operand} {f : Nat} {args : List aa} {φ : aa → List Part → Prop} (ho : o.op = .call cl) (hc : cl.callee = .value x) (hx : cU P L x = some (.func f [] [])) (ha : ux P L cl.args.toList = some args) (hf : az P f) (hw : aT ops o L = some true) (hfit : fits o.dst n = true)
  (hs : ∀ h, Fin E B G h → Sp P K f args h (Tr φ h)) (hr : ∀ v C', φ v C' → R (bm o.dst (.ext v) L) B (C' ++ G)) : bW P K E ops o L B G m n R := by
 refine ⟨fun κ h L0 r M => ?_⟩
 refine gK.sp (C.call ho hc (aF r hx) (rX r ha) hf) (bj r hw) hfit (hs h ⟨κ, M⟩) ?_
 rintro v h' ⟨C', d, hφ⟩
 exact ⟨κ, _, _, _, cI κ, r.put (.ext v) o.dst, M.call d, hr v C' hφ⟩
theorem Sp.tr {f : Nat} {args : List aa} {v0 : aa} (s : Sp P K f args h (iw v0 h)) : Sp P K f args h (Tr (fun v C => v = v0 ∧ C = []) h) := by
 obtain ⟨v, h', d, rfl, c⟩ := s
 exact ⟨v, h', d, [], c, rfl, rfl⟩
theorem aE {cl : Call} {x : Operand} {f : Nat} {args : List aa} {v0 : aa} (ho : o.op = .call cl) (hc : cl.callee = .value x) (hx : cU P L x = some (.func f [] [])) (ha : ux P L cl.args.toList = some args) (hf : az P f) (hw : aT ops o L = some true) (hfit : fits o.dst n = true)
  (hs : ∀ h, Fin E B G h → Sp P K f args h (iw v0 h)) (hr : R (bm o.dst (.ext v0) L) B G) : bW P K E ops o L B G m n R :=
 fD ho hc hx ha hf hw hfit (fun h f => (hs h f).tr) (by rintro v C' ⟨rfl, rfl⟩; exact hr)
theorem dN {cl : Call} {x : Operand} {f : Nat} {args : List aa} {b : Bool} (ho : o.op = .call cl) (hc : cl.callee = .value x) (hx : cU P L x = some (.func f [] [])) (ha : ux P L cl.args.toList = some args) (hf : az P f) (hw : aT ops o L = some true) (hfit : fits o.dst n = true)
  (hs : ∀ h, Fin E B G h → Sp P K f args h (iw (.bool b) h)) (h1 : b = true → R (bm o.dst (.ext (.bool true)) L) B G) (h0 : b = false → R (bm o.dst (.ext (.bool false)) L) B G) : bW P K E ops o L B G m n R := by
 cases b with
 | true => exact aE ho hc hx ha hf hw hfit hs (h1 rfl)
 | false => exact aE ho hc hx ha hf hw hfit hs (h0 rfl)
def NY (k : Nat) (l : List aa) (e : Nat) (s : Bool) (φ : aa → List aa → List Part → Prop) (h : Heap) (v : aa) (h' : Heap) : Prop := ∃ l' C', fU [eR k l e s] h (eR k l' e s :: C') h' ∧ φ v l' C'
theorem Ro.narrow {κ : jq} (M : Mem E κ B G h) {a b : Part} (r : Ro E.C E.h a) (hb : b ∈ bg B κ ++ G) : Ro [b] h a :=
 ⟨r.at M.aZ, fun q hq => by
  have : q = b := by simpa using hq
  subst this
  exact r.sep M.aZ hb⟩
theorem Mem.Pa {κ : jq} (M : Mem E κ B G h) {i k e : Nat} {l l' : List aa} {s : Bool} (hb : nth B i = some (.own l e s)) (hk : nth κ i = some (k, 0)) {C' : List Part} (d : fU [eR k l e s] h (eR k l' e s :: C') h') : Mem E κ (B.set i (.own l' e s)) (C' ++ G) h' := by
 obtain ⟨R, h3, h4, _⟩ := gv hb hk
 have c := M.aZ.trans (D := [eR k l e s]) (R := R ++ G) (D' := eR k l' e s :: C') (by simpa using List.Perm.append_right G h3) d
 have stay : ∀ j, (∃ g ∈ G, g.dR j) → h'.get j = h.get j := by
  rintro j ⟨g, hg, hj⟩
  obtain ⟨o, ho⟩ := g.live (M.aZ.all g (List.mem_append_right _ hg)) hj
  rw [ho]
  refine d.ji ho fun r hr hrj => ?_
  simp only [List.mem_singleton] at hr
  subst hr
  exact (List.pairwise_append.1 M.aZ.tk).2.2 _ (cQ hb hk) g hg j hrj hj
 have p : List.Perm ((eR k l' e s :: C') ++ (R ++ G)) (bg (B.set i (.own l' e s)) κ ++ (C' ++ G)) := by
  refine List.Perm.trans ?_ (List.Perm.append_right (C' ++ G) (h4 l' e s)).symm
  refine List.Perm.cons _ ?_
  show List.Perm (C' ++ (R ++ G)) (R ++ (C' ++ G))
  rw [← List.append_assoc, ← List.append_assoc]
  exact List.Perm.append_right _ List.perm_append_comm
 refine ⟨c.perm p, M.pre, by rw [List.length_set]; exact M.len, ?_, ?_, ?_⟩
 ·intro j m a b hj
  rcases jg hj with ⟨rfl, _⟩ | ⟨_, hj⟩
  ·exact ⟨k, hk⟩
  ·exact M.own j m a b hj
 ·intro j m hj
  rcases jg hj with ⟨rfl, e⟩ | ⟨_, hj⟩
  ·cases e
  ·exact M.ro j m hj
 ·intro j m hj
  rcases jg hj with ⟨rfl, e⟩ | ⟨_, hj⟩
  ·cases e
  ·obtain ⟨k2, o, g1, g2, g, g3, g4⟩ := M.tmp j m hj
   exact ⟨k2, o, g1, g2.ji (stay k2 ⟨g, g3, g4⟩), g, by simp [g3], g4⟩
theorem ez {cl : Call} {x y : Operand} {ys : List Operand} {f i e : Nat} {lc : List aa} {s : Bool} {args : List aa} {φ : aa → List aa → List Part → Prop} {BB : List aa → Option (List bX)} (ho : o.op = .call cl) (hc : cl.callee = .value x) (hx : cU P L x = some (.func f [] [])) (hy : cl.args.toList = y :: ys) (hyi : uE P L y = some (.ptr i 0)) (hb : nth B i = some (.own lc e s)) (ha : ux P L ys = some args) (hf : az P f) (hw : aT ops o L = some true) (hfit : fits o.dst n = true)
  (hs : ∀ k h, Fin E B G h → (eR k lc e s).holds h → (∀ a, Ro E.C E.h a → Ro [eR k lc e s] h a) → Sp P K f (.ptr k 0 :: args) h (NY k lc e s φ h)) (hB : ∀ l', qP B i (.own l' e s) some = BB l') (hr : ∀ v l' C' B', φ v l' C' → BB l' = some B' → R (bm o.dst (.ext v) L) B' (C' ++ G)) : bW P K E ops o L B G m n R := by
 refine ⟨fun κ h L0 r M => ?_⟩
 obtain ⟨k, hk⟩ := M.own i lc e s hb
 obtain ⟨w, g1, g2⟩ := cN r hyi
 have hw0 : w = .ptr k 0 := by
  cases g2 with
  | ptr hk2 => rw [hk] at hk2; cases hk2; rfl
 subst hw0
 have hmem : eR k lc e s ∈ bg B κ ++ G := List.mem_append_left _ (cQ hb hk)
 have hargs : oA P L0 cl.args.toList = some (.ptr k 0 :: args) := by rw [hy]; simp only [oA, g1, obS, rX r ha]
 refine gK.sp (C.call ho hc (aF r hx) hargs hf) (bj r hw) hfit (hs k h ⟨κ, M⟩ (M.aZ.all _ hmem) fun a ra => ra.narrow M hmem) ?_
 rintro v h' ⟨l', C', d, hφ⟩
 refine ⟨κ, _, _, _, cI κ, r.put (.ext v) o.dst, M.Pa hb hk d, hr v l' C' _ hφ ?_⟩
 rw [← hB, iz]
end
end
end Go.HL
namespace Go.HL
open Go
noncomputable section
section
variable {P : Program} {K : ah} {E : eK} {ops : Array Oper} {o : Oper} {l : List Oper} {L L' : SL} {B B' : List bX} {G G' G2 : List Part} {m n : Nat} {R : SL → List bX → List Part → Prop} {Q : Ex → St → Prop} {a b c : Code} {aw : iO} {zl : List (Nat × List aa)} {h h' : Heap}
/-! ## Elements -/
def ym (B : List bX) (b : bX) : Option (Nat × List bX) := Aq B [b] fun B' => Jh B 0 fun n => some (n, B')
theorem vD {B : List bX} {b : bX} {nb : Nat} {B' : List bX} (h : ym B b = some (nb, B')) : nb = B.length ∧ B' = B ++ [b] := by
 unfold ym at h
 rw [zi, A5, Nat.zero_add] at h
 cases h
 exact ⟨rfl, rfl⟩
theorem Ro.xX {C : List Part} {e : Nat} {v : aa} {w : Nat} {rows : List (List aa)} (r : Ro C h (xX e v w rows)) : Ro C h (rd v w rows) := ⟨r.holds.2, r.Ez⟩
theorem Ro.key {C : List Part} {v : aa} {w : Nat} {rows : List (List aa)} (r : Ro C h (rd v w rows)) {k : Nat} (hk : sW v = some k) : Ro C h (I6 k) :=
 ⟨r.holds.live k hk, fun q hq j hj => r.Ez q hq j (by rw [show j = k from hj]; exact hk)⟩
theorem bq {t e q w nb j : Nat} {i : TI} {x y : Operand} {v : aa} {kd : IntKind} {rows : List (List aa)} {r : List aa} (hX : TK P aw zl) (ho : o.op = .indexAddr t x y) (ht : bY aw t = some (.slice e, q)) (he : bY aw e = some (i, w)) (hx : cU P L x = some v) (hy : cU P L y = some (.int kd (.ofNat j)))
  (hs : Ro E.C E.h (rd v w rows)) (hr : rows[j]? = some r) (hB : ym B (.ro r) = some (nb, B')) (hw : aT ops o L = some true) (hf : fits o.dst n = true) (hk : R (bm o.dst (.ptr nb 0) L) B' G) : bW P K E ops o L B G m n R := by
 obtain ⟨rfl, rfl⟩ := vD hB
 obtain ⟨k, off, cap, rfl, hrow⟩ := hs.holds.slice.row j r hr
 have hj : j < rows.length := (List.getElem?_eq_some_iff.1 hr).1
 refine .comp hw hf (fun κ h L0 rr M => ⟨_, _, _, V.indexAddr hX.aw ho ht he (aF rr hx) (aF rr hy) hj, ?_, M.Px hrow (hs.key rfl), _, rfl⟩) hk
 have := Az.ptr (κ := κ ++ [(k, Nat.add off (Nat.mul j w))]) (off := 0) (i := B.length) (k := k) (o := Nat.add off (Nat.mul j w)) (by rw [← M.len]; exact r9 _ _)
 exact this
theorem Mi {t e q w nb : Nat} {z : Int} {i : TI} {x y : Operand} {v : aa} {kd : IntKind} {rows : List (List aa)} {r : List aa} (hX : TK P aw zl) (ho : o.op = .indexAddr t x y) (ht : bY aw t = some (.slice e, q)) (he : bY aw e = some (i, w)) (hx : cU P L x = some v) (hy : cU P L y = some (.int kd z)) (h0 : 0 ≤ z)
  (hs : Ro E.C E.h (rd v w rows)) (hr : rows[z.toNat]? = some r) (hB : ym B (.ro r) = some (nb, B')) (hw : aT ops o L = some true) (hf : fits o.dst n = true) (hk : R (bm o.dst (.ptr nb 0) L) B' G) : bW P K E ops o L B G m n R := by
 obtain ⟨j, rfl⟩ := Int.eq_ofNat_of_zero_le h0
 exact bq hX ho ht he hx hy hs hr hB hw hf hk
theorem qW {t e e' q w nb j : Nat} {i : TI} {x y : Operand} {v : aa} {kd : IntKind} {rows : List (List aa)} {r : List aa} (hX : TK P aw zl) (ho : o.op = .indexAddr t x y) (ht : bY aw t = some (.slice e, q)) (he : bY aw e = some (i, w)) (hx : cU P L x = some v) (hy : cU P L y = some (.int kd (.ofNat j)))
  (hG : aS G (aL e' w v rows) G2) (hr : rows[j]? = some r) (hB : ym B (.tmp r) = some (nb, B')) (hw : aT ops o L = some true) (hf : fits o.dst n = true) (hk : R (bm o.dst (.ptr nb 0) L) B' G) : bW P K E ops o L B G m n R := by
 obtain ⟨rfl, rfl⟩ := vD hB
 have hj : j < rows.length := (List.getElem?_eq_some_iff.1 hr).1
 refine .comp hw hf (fun κ h L0 rr M => ?_) hk
 have ho' := M.aZ.all _ (List.mem_append_right _ hG.mem)
 obtain ⟨k, off, cap, rfl, hrow⟩ := (aL.rd ho').slice.row j r hr
 refine ⟨_, _, _, V.indexAddr hX.aw ho ht he (aF rr hx) (aF rr hy) hj, ?_, M.NW hrow ⟨_, hG.mem, rfl⟩, _, rfl⟩
 exact Az.ptr (κ := κ ++ [(k, Nat.add off (Nat.mul j w))]) (off := 0) (i := B.length) (k := k) (o := Nat.add off (Nat.mul j w)) (by rw [← M.len]; exact r9 _ _)
/-! ## Parts that change -/
theorem Mem.ma {κ : jq} (M : Mem E κ B G h) {g : Part} (hG : aS G g G2) {C' : List Part} (d : fU [g] h C' h') (hn : gy B = true) : Mem E κ B (C' ++ G2) h' := by
 have p : List.Perm (bg B κ ++ G) ([g] ++ (bg B κ ++ G2)) := by
  refine (List.Perm.append_left _ hG.perm).trans ?_
  exact List.perm_middle
 have c := M.aZ.trans p d
 refine ⟨c.perm ?_, M.pre, M.len, M.own, M.ro, fun i l hb => absurd hb (sR hn)⟩
 rw [← List.append_assoc, ← List.append_assoc]
 exact List.Perm.append_right _ List.perm_append_comm
theorem gI.aZ {e w : Nat} {v : aa} {rows new : List (List aa)} {d : Option Nat} {k : Nat} (a : App h e w v rows.length rows.flatten d) (hrl : ∀ r ∈ rows, r.length = w) (hnl : ∀ r ∈ new, r.length = w) (p : gI h e w (rows.length + new.length) (rows.flatten ++ new.flatten) d k h') :
  fU [aL e w v rows] h [aL e w (.slice k 0 (rows.length + new.length) none) (rows ++ new)] h' := by
 refine ⟨p.wf, p.next, fun {j o} hj hn => ?_, ?_, List.pairwise_singleton _ _, ?_⟩
 ·rw [p.uR j ?_ ?_]
  ·exact hj
  ·intro e
   exact hn _ (List.mem_singleton.2 rfl) (a.key e.symm)
  ·rintro rfl
   rw [p.fresh] at hj; cases hj
 ·intro r hr
  simp only [List.mem_singleton] at hr
  subst hr
  refine ⟨⟨some k, ?_⟩, fun r hr => ?_⟩
  ·have := p.app
   rw [← List.flatten_append, ← List.length_append] at this
   rw [← List.length_append]
   exact this
  ·rcases List.mem_append.1 hr with hr | hr
   ·exact hrl r hr
   ·exact hnl r hr
 ·intro r hr j hj
  simp only [List.mem_singleton] at hr
  subst hr
  have hj : k = j := by simpa [aL, wA] using hj
  subst hj
  exact .inr p.fresh
theorem sM {t t2 e w q q2 bs j e2 : Nat} {s2 : Bool} {i : TI} {cl : Call} {x y : Operand} {v : aa} {z new : List aa} {rows : List (List aa)} (hX : TK P aw zl)
  (ho : o.op = .call cl) (hc : cl.callee = .builtin .append) (ha : cl.args = #[x, y]) (h0 : cl.argTypes[0]? = some t) (h2 : cl.argTypes[1]? = some t2) (ht : bY aw t = some (.slice e, q)) (ht2 : bY aw t2 = some (.slice e, q2))
  (he : bY aw e = some (i, w)) (hz : zL zl e = some z) (hzl : Nat.beq z.length w = true) (he0 : Nat.beq e 0 = false) (hw0 : Nat.beq w 0 = false) (hb : P.bytesOf e = bs) (hb0 : Nat.beq bs 0 = false)
  (hx : cU P L x = some v) (hy : uE P L y = some (.sl j 1)) (hbk : nth B j = some (.own new e2 s2)) (hnl : Nat.beq new.length w = true) (hG : aS G (aL e w v rows) G2) (hn : gy B = true) (hroom : (rows.length + 1) * bs ≤ 140737488355328)
  (hw : aT ops o L = some true) (hf : fits o.dst n = true) (hr : ∀ k, R (bm o.dst (.ext (.slice k 0 (rows.length + 1) none)) L) B (aL e w (.slice k 0 (rows.length + 1) none) (rows ++ [new]) :: G2)) : bW P K E ops o L B G m n R := by
 refine ⟨fun κ h L0 r M => ?_⟩
 obtain ⟨⟨d, hv⟩, hrl⟩ := M.aZ.all _ (List.mem_append_right _ hG.mem)
 obtain ⟨k2, hk2⟩ := M.own _ _ _ _ hbk
 obtain ⟨w2, g1, g2⟩ := cN r hy
 have hw2 : w2 = .slice k2 0 1 (some 1) := by
  cases g2 with
  | sl hk => rw [hk2] at hk; cases hk; rfl
 subst hw2
 have hblk := M.aZ.all _ (List.mem_append_left _ (cQ hbk hk2))
 have hnl' : new.length = w := Nat.eq_of_beq_eq_true hnl
 refine gK.append hX.aw ho hc ha h0 h2 ht ht2 he (hX.zero.look hz) hzl he0 hw0 hb hb0 (aF r hx) g1 hv (qT hblk) (by rw [bD]; exact decide_eq_true (by simp [hnl'])) rfl hroom M.wf (bj r hw) hf ?_
 intro k h' p
 have p' : gI h e w (rows.length + [new].length) (rows.flatten ++ [new].flatten) d k h' := by simpa using p
 have c := gI.aZ hv hrl (by intro r hr; simp only [List.mem_singleton] at hr; rw [hr]; exact hnl') p'
 exact ⟨κ, _, _, _, cI κ, r.put (.ext _) o.dst, M.ma hG c hn, hr k⟩
theorem aL.row {e w : Nat} {v : aa} {rows : List (List aa)} (a : (aL e w v rows).holds h) (h0 : 0 < rows.length) (hn : ∀ k, v ≠ .rest k) : ∃ k off cap, v = .slice k off rows.length cap ∧ Row h k off rows.flatten := by
 obtain ⟨⟨d, ha⟩, hrl⟩ := a
 have hfl := dJ hrl
 have hlen := ha.len
 cases v with
 | slice k off c cap =>
  have hc : c = rows.length := by simpa [dO] using hlen
  subst hc
  refine ⟨k, off, cap, rfl, ⟨?_⟩⟩
  have := yN ha rfl
  rw [hfl]
  exact this
 | rest k => exact absurd rfl (hn k)
 | aC => simp [dO] at hlen; omega
 | empty => simp [dO] at hlen; omega
 | _ => simp [dO] at hlen
/-! ## Parts of slices that came from elsewhere -/
def uk (v : aa) (j w : Nat) : aa := match v with
 | .slice k off len none => if j = 0 then .slice k off len none else if j < len then .slice k (off + j * w) (len - j) none else .empty
 | v => v
theorem z6 {v : aa} {j w k : Nat} (h : sW (uk v j w) = some k) : sW v = some k := by
 unfold uk at h
 split at h
 ·split at h
  ·exact h
  ·split at h
   ·exact h
   ·cases h
 ·exact h
def jt (v : aa) (j n w : Nat) (v' : aa) : Prop := v' = uk v j w ∨ j = n ∧ ∃ k, v' = .rest k
theorem V.P4 {L : cj} {t e w q j : Nat} {i : TI} {x y : Operand} {v : aa} {rows : List (List aa)} (hT : bH P aw = true) (ho : o.op = .slice t x (some y) none none) (ht : bY aw t = some (.slice e, q)) (he : bY aw e = some (i, w)) (hne : Nat.beq 0 e = false)
  (hx : eS P L x = some v) (hy : eS P L y = some (.int .i64 (.ofNat j))) (hs : (xX e v w rows).holds h) (h0 : 0 < rows.length) (hj : j ≤ rows.length) : ∃ v', jt v j rows.length w v' ∧ cK P o L h v' h := by
 have hslice := (cM hT ht).1
 obtain ⟨inf, hinf⟩ := (cM hT ht).2
 have hel : cw P t = true := by simp only [cw, hslice, hinf]
 have hop : ∀ {v' : aa}, fw P h t v (some (.int .i64 (.ofNat j))) none none = some v' → cK P o L h v' h := fun {v'} e => cK.mk ho fun ev ha d ty ps aft g => by
  simp only [bS, hel, bcT, evS ha hx, Option.map_some, evS ha hy, Option.map_none, e, HL.val, obS]
 have hb1 : ∀ y d, j ≤ y → ch (some (.int .i64 (.ofNat j))) y d = some j := by
  intro y d hy
  have : Nat.ble j y = true := by rw [eX]; exact decide_eq_true hy
  show ae (Nat.ble j y) (some j) none = some j
  rw [this]; rfl
 have hlen := hs.2.slice.1
 cases hs.1 with
 | aC => exact absurd (Option.some.inj hlen) (by omega)
 | empty => exact absurd (Option.some.inj hlen) (by omega)
 | rest => exact absurd (Option.some.inj hlen) (by omega)
 | slice k off c l t0 s r hg ht0 =>
  have hc : c = rows.length := by simpa [dO] using hlen
  subst hc
  have hcl := bQ hg
  have hwid : P.cellsOf e = w := (cP hT he).2
  have hb2 : ch none (AP P h k off rows.length e none) rows.length = some rows.length := rfl
  by_cases hj0 : j = 0
  ·subst hj0
   refine ⟨_, .inl rfl, hop ?_⟩
   simp only [fw, hslice, hb1 _ _ (Nat.zero_le _)]; rfl
  ·have hjn : Nat.beq j 0 = false := by rw [bD]; exact decide_eq_false hj0
   by_cases hjl : j < rows.length
   ·have hlt : Nat.blt j rows.length = true := by rw [eW]; exact decide_eq_true hjl
    refine ⟨.slice k (off + j * w) (rows.length - j) none, .inl (by show _ = (if j = 0 then _ else if j < rows.length then _ else _); rw [if_neg hj0, if_pos hjl]), hop ?_⟩
    rcases ht0 with rfl | rfl
    ·simp only [fw, hslice, hb1 _ _ hj, hb2, obS, hjn, bcF, hlt, bcT, hcl, hne, hwid]
     rfl
    ·have hee : Nat.beq t0 t0 = true := Nat.beq_refl t0
     simp only [fw, hslice, hb1 _ _ hj, hb2, obS, hjn, bcF, hlt, bcT, hcl, hee, hwid]
     rfl
   ·have hlt : Nat.blt j rows.length = false := by rw [eW]; exact decide_eq_false hjl
    have hq : Nat.beq j rows.length = true := by rw [bD]; exact decide_eq_true (by omega)
    rcases ht0 with rfl | rfl
    ·refine ⟨.empty, .inl (by show _ = (if j = 0 then _ else if j < rows.length then _ else _); rw [if_neg hj0, if_neg hjl]), hop ?_⟩
     simp only [fw, hslice, hb1 _ _ hj, hb2, obS, hjn, bcF, hlt, hq, bcT, hcl, hne]
    ·have hee : Nat.beq t0 t0 = true := Nat.beq_refl t0
     refine ⟨.rest k, .inr ⟨by omega, k, rfl⟩, hop ?_⟩
     simp only [fw, hslice, hb1 _ _ hj, hb2, obS, hjn, bcF, hlt, hq, bcT, hcl, hee]
theorem xX.drop {e : Nat} {v v' : aa} {w j : Nat} {rows : List (List aa)} (hs : (xX e v w rows).holds h) (hj : j ≤ rows.length) (hd : jt v j rows.length w v') : (xX e v' w (rows.drop j)).holds h := by
 have hlen := hs.2.slice.1
 have hlive := hs.2.live
 rcases hd with rfl | ⟨hje, k, rfl⟩
 rotate_left
 ·refine ⟨.rest k, ⟨⟨by rw [hje, List.drop_length]; rfl, fun i' r' hr' => ?_⟩, fun k' hk => by cases hk⟩⟩
  rw [hje, List.drop_length] at hr'
  simp at hr'
 refine ⟨?_, ⟨?_, fun k hk => hlive k (z6 hk)⟩⟩
 ·cases hs.1 with
  | aC => exact .aC
  | empty => exact .empty
  | rest k => exact .rest k
  | slice k off c l t s r hg ht =>
   show zq e h (if j = 0 then aa.slice k off c none else if j < c then aa.slice k (off + j * w) (c - j) none else aa.empty)
   split
   ·exact .slice _ _ _ _ _ _ _ hg ht
   ·split
    ·exact .slice _ _ _ _ _ _ _ hg ht
    ·exact .empty
 ·cases hs.1 with
  | aC =>
   have : rows.length = 0 := (Option.some.inj hlen).symm
   have hr : rows = [] := List.eq_nil_of_length_eq_zero this
   subst hr
   simpa [uk] using hs.2.slice
  | empty =>
   have : rows.length = 0 := (Option.some.inj hlen).symm
   have hr : rows = [] := List.eq_nil_of_length_eq_zero this
   subst hr
   simpa [uk] using hs.2.slice
  | rest k =>
   have : rows.length = 0 := (Option.some.inj hlen).symm
   have hr : rows = [] := List.eq_nil_of_length_eq_zero this
   subst hr
   simpa [uk] using hs.2.slice
  | slice k off c l t s r hg ht =>
   have hc : c = rows.length := by simpa [dO] using hlen
   subst hc
   unfold uk
   simp only
   by_cases hj0 : j = 0
   ·subst hj0
    rw [if_pos rfl]; exact hs.2.slice
   ·rw [if_neg hj0]
    by_cases hjl : j < rows.length
    ·rw [if_pos hjl]
     refine ⟨by simp [dO], fun i' r' hr' => ?_⟩
     rw [List.getElem?_drop] at hr'
     obtain ⟨k', off', cap', e1, hrow⟩ := hs.2.slice.2 _ _ hr'
     cases e1
     refine ⟨k, _, none, by rw [List.length_drop], ?_⟩
     have : Nat.add (off + j * w) (Nat.mul i' w) = Nat.add off (Nat.mul (j + i') w) := by
      simp only [Nat.add_eq, Nat.mul_eq, Nat.add_mul]; omega
     rw [this]; exact hrow
    ·rw [if_neg hjl]
     have hje : j = rows.length := by omega
     refine ⟨by rw [hje, List.drop_length]; rfl, fun i' r' hr' => ?_⟩
     rw [hje, List.drop_length] at hr'
     simp at hr'
theorem jt.key {v v' : aa} {j n w k : Nat} (hd : jt v j n w v') (h : sW v' = some k) : sW v = some k := by
 rcases hd with rfl | ⟨_, _, rfl⟩
 ·exact z6 h
 ·cases h
theorem jt.cells {v v' : aa} {j n w : Nat} (hd : jt v j n w v') (h : v.cells = some [v]) : v'.cells = some [v'] := by
 rcases hd with rfl | ⟨_, k, rfl⟩
 ·unfold uk
  split
  ·split
   ·rfl
   ·split <;> rfl
  ·exact h
 ·rfl
theorem Ro.drop {C : List Part} {e : Nat} {v v' : aa} {w j : Nat} {rows : List (List aa)} (r : Ro C h (HL.xX e v w rows)) (hj : j ≤ rows.length) (hd : jt v j rows.length w v') : Ro C h (HL.xX e v' w (rows.drop j)) := ⟨HL.xX.drop r.holds hj hd, fun q hq k hk => r.Ez q hq k (hd.key hk)⟩
theorem OA {t e w q j : Nat} {i : TI} {x y : Operand} {v : aa} {rows : List (List aa)} (hX : TK P aw zl) (ho : o.op = .slice t x (some y) none none) (ht : bY aw t = some (.slice e, q)) (he : bY aw e = some (i, w)) (hne : Nat.beq 0 e = false)
  (hx : cU P L x = some v) (hy : cU P L y = some (.int .i64 (.ofNat j))) (hs : Ro E.C E.h (HL.xX e v w rows)) (h0 : 0 < rows.length) (hj : j ≤ rows.length) (hw : aT ops o L = some true) (hf : fits o.dst n = true) (hr : ∀ v', jt v j rows.length w v' → R (bm o.dst (.ext v') L) B G) : bW P K E ops o L B G m n R := by
 refine ⟨fun κ h L0 r M => ?_⟩
 obtain ⟨v', hd, hop⟩ := V.P4 hX.aw ho ht he hne (aF r hx) (aF r hy) (hs.at M.aZ) h0 hj
 exact gK.val hop (bj r hw) hf ⟨κ, _, _, _, cI κ, r.put (.ext v') o.dst, M, hr v' hd⟩
/-! ## Maps with truths -/
theorem Ai {h h' : Heap} {k : Nat} {ob : aG} (p : Part) (mk : Made h k ob h') (hp : p.holds h') (hf : ∀ j, p.dR j → j = k) : fU [] h [p] h' := by
 refine ⟨mk.wf, mk.ext.next, fun e _ => mk.ext.get e, ?_, List.pairwise_singleton _ _, ?_⟩
 ·intro r hr
  simp only [List.mem_singleton] at hr
  subst hr; exact hp
 ·intro r hr j hj
  simp only [List.mem_singleton] at hr
  subst hr
  refine .inr ?_
  rw [hf j hj]; exact mk.fresh
theorem Qc {α : Type} {t kt e q : Nat} (key : α → aa) (hX : TK P aw zl) (ho : o.op = .makeMap t none) (ht : bY aw t = some (.map kt e, q)) (hw : aT ops o L = some true) (hf : fits o.dst n = true) (hr : ∀ k, R (bm o.dst (.ext (.map k)) L) B (wo key k [] :: G)) : bW P K E ops o L B G m n R := by
 refine ⟨fun κ h L0 r M => gK.made (Go.HL.M.map hX.aw ho ht) (bj r hw) hf M.wf fun k h' mk => ?_⟩
 exact ⟨κ, _, _, _, cI κ, r.put (.ext _) o.dst, M.call (C' := [wo key k []]) (Ai _ mk ⟨[], 0, mk.get, trivial⟩ fun j hj => hj), hr k⟩
section
variable {α : Type} [DecidableEq α] {key : α → aa}
theorem Dk {t kt et q k : Nat} {x y : Operand} {a : α} {l : List (α × Bool)} (hX : TK P aw zl) (ho : o.op = .lookup t x y false) (ht : bY aw t = some (.map kt et, q)) (hk : mT P kt key) (hz : ix P et = some (.bool false))
  (hx : cU P L x = some (.map k)) (hy : cU P L y = some (key a)) (hG : aS G (wo key k (l.map kO)) G2) (hw : aT ops o L = some true) (hf : fits o.dst n = true) (h1 : mY l a = true → R (bm o.dst (.ext (.bool true)) L) B G) (h0 : mY l a = false → R (bm o.dst (.ext (.bool false)) L) B G) : bW P K E ops o L B G m n R := by
 have hv : ∀ κ h L0, dx κ L L0 → Mem E κ B G h → cK P o L0 h (.bool (mY l a)) h := fun κ h L0 r M => by
  have hm : pN key h k (l.map kO) := M.aZ.all _ (List.mem_append_right _ hG.mem)
  rw [← A3]; exact V.lookup hX.aw ho ht hk hz (aF r hx) (aF r hy) hm.at
 cases hb : mY l a with
 | true => rw [hb] at hv; exact qv hw hf hv (h1 hb)
 | false => rw [hb] at hv; exact qv hw hf hv (h0 hb)
theorem Oy {t kt et q k : Nat} {x y u : Operand} {a : α} {v : aa} {l : List (α × aa)} (hX : TK P aw zl) (ho : o.op = .mapUpdate t x y u) (ht : bY aw t = some (.map kt et, q)) (hk : mT P kt key)
  (hx : cU P L x = some (.map k)) (hy : cU P L y = some (key a)) (hu : cU P L u = some v) (hG : aS G (wo key k l) G2) (hn : gy B = true) (hw : aT ops o L = some true) (hf : fits o.dst n = true) (hr : R (bm o.dst (.ext bw) L) B (wo key k (nC l a v) :: G2)) : bW P K E ops o L B G m n R := by
 refine ⟨fun κ h L0 r M => ?_⟩
 have hm : pN key h k l := M.aZ.all _ (List.mem_append_right _ hG.mem)
 refine gK.mapUpdate hX.aw ho ht hk (aF r hx) (aF r hy) (aF r hu) hm M.wf (bj r hw) hf fun h' g1 g2 g3 g4 => ?_
 have c : fU [wo key k l] h [wo key k (nC l a v)] h' := by
  refine ⟨g3, Nat.le_of_eq g4.symm, fun {j o} hj hn => ?_, ?_, List.pairwise_singleton _ _, ?_⟩
  ·rw [g2 j (fun e => hn _ (List.mem_singleton.2 rfl) e)]; exact hj
  ·intro r hr
   simp only [List.mem_singleton] at hr
   subst hr; exact g1
  ·intro r hr j hj
   simp only [List.mem_singleton] at hr
   subst hr
   exact .inl ⟨_, List.mem_singleton.2 rfl, hj⟩
 exact ⟨κ, _, _, _, cI κ, r.put (.ext _) o.dst, M.ma hG c hn, hr⟩
end
/-! ## Regions whose order is open -/
inductive AX where
 | read (j : Nat)
 | ng (j i : Nat) (l : List aa) (e : Nat) (s : Bool)
 | je (j : Nat)
 | CL (j : Nat) (g : Part)
 | change (e : Nat) (a b : List bX) (ga gb : List Part)
def lv (P : Program) (E : eK) (κ : jq) : List AX → List AL → Prop
 | [], [] => True
 | .read j :: l, .read j' _ _ _ :: m => j = j' ∧ lv P E κ l m
 | .ng j i c e s :: l, .read j' o L v :: m => (j = j' ∧ aa.beq v v = true ∧ ∃ k, nth κ i = some (k, 0) ∧ ∀ h, h.get k = some (.cells c e s true) → cK P o L h v h) ∧ lv P E κ l m
 | .je j :: l, .read j' o L v :: m => (j = j' ∧ aa.beq v v = true ∧ ∀ h C', fU E.C E.h C' h → cK P o L h v h) ∧ lv P E κ l m
 | .CL j g :: l, .read j' o L v :: m => (j = j' ∧ aa.beq v v = true ∧ ∀ h, g.holds h → cK P o L h v h) ∧ lv P E κ l m
 | .change e a b ga gb :: l, .change e' h h' :: m => (e = e' ∧ (∃ κa ta, κ = κa ++ ta ∧ Mem E κa a ga h) ∧ ∃ κb tb, κ = κb ++ tb ∧ Mem E κb b gb h') ∧ lv P E κ l m
 | _, _ => False
theorem lv.more {κ t : jq} : ∀ {l : List AX} {m : List AL}, lv P E κ l m → lv P E (κ ++ t) l m
 | [], [], _ => trivial
 | [], _ :: _, h => by cases h
 | x :: l, [], h => by cases x <;> cases h
 | .read j :: l, .read _ _ _ _ :: m, h => ⟨h.1, lv.more (l := l) (m := m) h.2⟩
 | .read _ :: _, .change _ _ _ :: _, h => by cases h
 | .ng j i c e s :: l, .read _ _ _ _ :: m, h => by
  obtain ⟨⟨h1, h2, k, hk, h3⟩, h4⟩ := h
  exact ⟨⟨h1, h2, k, dp hk, h3⟩, lv.more (l := l) (m := m) h4⟩
 | .ng _ _ _ _ _ :: _, .change _ _ _ :: _, h => by cases h
 | .je _ :: l, .read _ _ _ _ :: m, h => ⟨h.1, lv.more (l := l) (m := m) h.2⟩
 | .je _ :: _, .change _ _ _ :: _, h => by cases h
 | .CL _ _ :: l, .read _ _ _ _ :: m, h => ⟨h.1, lv.more (l := l) (m := m) h.2⟩
 | .CL _ _ :: _, .change _ _ _ :: _, h => by cases h
 | .change e a b ga gb :: l, .change _ _ _ :: m, h => by
  obtain ⟨⟨h1, ⟨κa, ta, e1, m1⟩, κb, tb, e2, m2⟩, h4⟩ := h
  exact ⟨⟨h1, ⟨κa, ta ++ t, by rw [e1, List.append_assoc], m1⟩, κb, tb ++ t, by rw [e2, List.append_assoc], m2⟩, lv.more (l := l) (m := m) h4⟩
 | .change _ _ _ _ _ :: _, .read _ _ _ _ :: _, h => by cases h
def G3 (P : Program) (ops : Array Oper) (i : Nat) (o : Oper) (L : SL) (B : List bX) (G : List Part) (L' : SL) (B' : List bX) (G' : List Part) (al : List AX) : Option (List AX) :=
 ae (aB P o) (some (.change i B B' G G' :: al)) (ae (cu P o) (match o.dst with
  | some d => match aT ops o L with
   | some true => match gO L' d with
    | some _ => some (.read i :: al)
    | none => none
   | some false => some al
   | none => none
  | none => none) (some al))
def Mf : aa → Bool
 | .int _ _ => true
 | .bool _ => true
 | .str _ _ => true
 | .aC => true
 | .gi => true
 | .ptr _ _ => true
 | .slice _ _ _ _ => true
 | .map _ => true
 | _ => false
theorem suB {v : aa} (h : Mf v = true) : aa.beq v v = true := by
 cases v <;> first | (cases h; done) | simp [aa.beq]
inductive Km (P : Program) (aw : iO) (ops : Array Oper) (i : Nat) (o : Oper) (L : SL) (B : List bX) (G : List Part) (L' : SL) (B' : List bX) (G' : List Part) (al : List AX) : List AX → Prop
 | comp {al' : List AX} (h : G3 P ops i o L B G L' B' G' al = some al') : Km P aw ops i o L B G L' B' G' al al'
 | ng {t b off e d : Nat} {x : Operand} {lc : List aa} {s : Bool} {w : TI × Nat} {v : aa} (hT : bH P aw = true) (hc : aB P o = false) (hr : cu P o = true) (ho : o.op = .load t x) (hx : uE P L x = some (.ptr b off)) (hb : nth B b = some (.own lc e s)) (ht : bY aw t = some w) (ha : w.1.agg = false) (hv : nth lc off = some v) (hs : aa.beq v v = true) (hd : o.dst = some d) (hw : aT ops o L = some true) (hl : gO L' d = some (.ext v)) : Km P aw ops i o L B G L' B' G' al (.ng i b lc e s :: al)
 | je {t b off d : Nat} {x : Operand} {lc : List aa} {w : TI × Nat} {v : aa} (hT : bH P aw = true) (hc : aB P o = false) (hr : cu P o = true) (ho : o.op = .load t x) (hx : uE P L x = some (.ptr b off)) (hb : nth B b = some (.ro lc)) (ht : bY aw t = some w) (ha : w.1.agg = false) (hv : nth lc off = some v) (hs : aa.beq v v = true) (hd : o.dst = some d) (hw : aT ops o L = some true) (hl : gO L' d = some (.ext v)) : Km P aw ops i o L B G L' B' G' al (.je i :: al)
 | zM {t b d : Nat} {x : Operand} {lc : List aa} {w : TI × Nat} (hT : bH P aw = true) (hc : aB P o = false) (hr : cu P o = true) (ho : o.op = .load t x) (hx : uE P L x = some (.ptr b 0)) (hb : nth B b = some (.ro lc)) (ht : bY aw t = some w) (ha : w.1.agg = true) (hv : Nat.beq lc.length w.2 = true) (hs : aa.beq (.agg lc) (.agg lc) = true) (hd : o.dst = some d) (hw : aT ops o L = some true) (hl : gO L' d = some (.ext (.agg lc))) : Km P aw ops i o L B G L' B' G' al (.je i :: al)
 | Ou {t b d : Nat} {x : Operand} {lc : List aa} {e : Nat} {s : Bool} {w : TI × Nat} (hT : bH P aw = true) (hc : aB P o = false) (hr : cu P o = true) (ho : o.op = .load t x) (hx : uE P L x = some (.ptr b 0)) (hb : nth B b = some (.own lc e s)) (ht : bY aw t = some w) (ha : w.1.agg = true) (hv : Nat.beq lc.length w.2 = true) (hs : aa.beq (.agg lc) (.agg lc) = true) (hd : o.dst = some d) (hw : aT ops o L = some true) (hl : gO L' d = some (.ext (.agg lc))) : Km P aw ops i o L B G L' B' G' al (.ng i b lc e s :: al)
 | CL {t k off e d : Nat} {x : Operand} {lc : List aa} {s : Bool} {w : TI × Nat} {v : aa} {G2 : List Part} (hT : bH P aw = true) (hc : aB P o = false) (hr : cu P o = true) (ho : o.op = .load t x) (hx : cU P L x = some (.ptr k off)) (hG : aS G (eR k lc e s) G2) (ht : bY aw t = some w) (ha : w.1.agg = false) (hv : nth lc off = some v) (hs : aa.beq v v = true) (hd : o.dst = some d) (hw : aT ops o L = some true) (hl : gO L' d = some (.ext v)) : Km P aw ops i o L B G L' B' G' al (.CL i (eR k lc e s) :: al)
 | QX {d t e q n : Nat} {cl : Call} {x : Operand} {v : aa} (hT : bH P aw = true) (hc : aB P o = false) (hr : cu P o = true) (ho : o.op = .call cl) (hcl : cl.callee = .builtin .len) (hx : cl.args = #[x]) (hts : cl.argTypes[0]? = some t) (ht : bY aw t = some (.slice e, q)) (hs : cU P L x = some v) (hm : dO v = some n) (hd : o.dst = some d) (hw : aT ops o L = some true) (hl : gO L' d = some (.ext (.int .i64 (n : Int)))) : Km P aw ops i o L B G L' B' G' al (.je i :: al)
theorem beA {l : List aa} (h : l.all Mf = true) : aa.beq (.agg l) (.agg l) = true := by
 show rV l l = true
 induction l with
 | nil => rfl
 | cons v l ih =>
  rw [List.all_cons, Bool.and_eq_true] at h
  show (aa.beq v v && rV l l) = true
  rw [suB h.1, ih h.2]; rfl
theorem Km.eq {κ κ' : jq} {L0 L1 : cj} {h h1 : Heap} {i : Nat} {al al' : List AX} {al0 : List AL} {G G' : List Part} (r : dx κ L L0) (M : Mem E κ B G h) (r1 : dx κ' L' L1) (M1 : Mem E κ' B' G' h1) (hpre : ∃ t, κ' = κ ++ t) (ha : lv P E κ al al0) (hu : Km P aw ops i o L B G L' B' G' al al') : ∃ al1, oJ P ops i o L0 h L1 h1 al0 = some al1 ∧ lv P E κ' al' al1 := by
 obtain ⟨t, rfl⟩ := hpre
 have ha := ha.more (t := t)
 cases hu with
 | comp hu =>
  unfold G3 at hu
  unfold oJ
  cases hc : aB P o with
  | true => rw [hc, bcT] at hu; cases hu; exact ⟨_, rfl, ⟨rfl, ⟨κ, t, rfl, M⟩, κ ++ t, [], by simp, M1⟩, ha⟩
  | false =>
   rw [hc, bcF] at hu
   rw [bcF]
   cases hr : cu P o with
   | false => rw [hr, bcF] at hu; cases hu; exact ⟨_, rfl, ha⟩
   | true =>
    rw [hr, bcT] at hu
    rw [bcT]
    cases hd : o.dst with
    | none => rw [hd] at hu; cases hu
    | some d =>
     rw [hd] at hu
     simp only at hu ⊢
     cases hw : aT ops o L with
     | none => rw [hw] at hu; cases hu
     | some b =>
      rw [hw] at hu
      rw [bj r hw]
      cases b with
      | false => cases hu; exact ⟨_, rfl, ha⟩
      | true =>
       simp only at hu ⊢
       cases hl : gO L' d with
       | none => rw [hl] at hu; cases hu
       | some v =>
        rw [hl] at hu
        cases hu
        obtain ⟨w, g1, _⟩ := r1.look hl
        rw [g1]
        exact ⟨_, rfl, rfl, ha⟩
 | @ng tt b off e d x lc s w v hT hc hr ho hx hb ht hag hv hs hd hw hl =>
  obtain ⟨u, g1, g2⟩ := r1.look hl
  cases g2
  obtain ⟨k, hk⟩ := M.own _ _ _ _ hb
  obtain ⟨y, g3, g4⟩ := cN r hx
  have hy : y = .ptr k off := by
   cases g4 with
   | ptr hk2 => rw [hk] at hk2; cases hk2; simp
  subst hy
  refine ⟨.read i o L0 v :: al0, ?_, ⟨rfl, hs, k, dp hk, fun h2 hh2 => V.load hT ho ht hag g3 hh2 hv⟩, ha⟩
  unfold oJ
  rw [hc, hr, bcF, bcT, hd]
  simp only [bj r hw, g1]
 | @je tt b off d x lc w v hT hc hr ho hx hb ht hag hv hs hd hw hl =>
  obtain ⟨u, g1, g2⟩ := r1.look hl
  cases g2
  obtain ⟨k, o2, hk, hrow, hro⟩ := M.ro _ _ hb
  obtain ⟨y, g3, g4⟩ := cN r hx
  have hy : y = .ptr k (Nat.add o2 off) := by
   cases g4 with
   | ptr hk2 => rw [hk] at hk2; cases hk2; rfl
  subst hy
  refine ⟨.read i o L0 v :: al0, ?_, ⟨rfl, hs, fun h2 C' c2 => V.Fe hT ho ht hag g3 (hro.row c2 hrow) hv⟩, ha⟩
  unfold oJ
  rw [hc, hr, bcF, bcT, hd]
  simp only [bj r hw, g1]
 | @zM tt b d x lc w hT hc hr ho hx hb ht hag hv hs hd hw hl =>
  obtain ⟨u, g1, g2⟩ := r1.look hl
  cases g2
  obtain ⟨k, o2, hk, hrow, hro⟩ := M.ro _ _ hb
  obtain ⟨y, g3, g4⟩ := cN r hx
  have hy : y = .ptr k o2 := by
   cases g4 with
   | ptr hk2 => rw [hk] at hk2; cases hk2; simp
  subst hy
  refine ⟨.read i o L0 (.agg lc) :: al0, ?_, ⟨rfl, hs, fun h2 C' c2 => V.DO hT ho ht hag g3 (hro.row c2 hrow) hv⟩, ha⟩
  unfold oJ
  rw [hc, hr, bcF, bcT, hd]
  simp only [bj r hw, g1]
 | @Ou tt b d x lc e s w hT hc hr ho hx hb ht hag hv hs hd hw hl =>
  obtain ⟨u, g1, g2⟩ := r1.look hl
  cases g2
  obtain ⟨k, hk⟩ := M.own _ _ _ _ hb
  obtain ⟨y, g3, g4⟩ := cN r hx
  have hy : y = .ptr k 0 := by
   cases g4 with
   | ptr hk2 => rw [hk] at hk2; cases hk2; simp
  subst hy
  refine ⟨.read i o L0 (.agg lc) :: al0, ?_, ⟨rfl, hs, k, dp hk, fun h2 hh2 => V.DO hT ho ht hag g3 (qT hh2) hv⟩, ha⟩
  unfold oJ
  rw [hc, hr, bcF, bcT, hd]
  simp only [bj r hw, g1]
 | @CL tt k off e d x lc s w v G2 hT hc hr ho hx hG ht hag hv hs hd hw hl =>
  obtain ⟨u, g1, g2⟩ := r1.look hl
  cases g2
  refine ⟨.read i o L0 v :: al0, ?_, ⟨rfl, hs, fun h2 hh2 => ?_⟩, ha⟩
  ·unfold oJ
   rw [hc, hr, bcF, bcT, hd]
   simp only [bj r hw, g1]
  ·have hx' : eS P L0 x = some (.ptr k (Nat.add 0 off)) := by rw [Nat.add_eq, Nat.zero_add]; exact aF r hx
   exact V.Fe hT ho ht hag hx' (qT hh2) hv
 | @QX d tt e q n cl x v hT hc hr ho hcl hx hts ht hs hm hd hw hl =>
  obtain ⟨u, g1, g2⟩ := r1.look hl
  cases g2
  refine ⟨.read i o L0 (.int .i64 (n : Int)) :: al0, ?_, ⟨rfl, suB rfl, fun h2 C' _ => V.len hT ho hcl hx hts ht (aF r hs) hm⟩, ha⟩
  unfold oJ
  rw [hc, hr, bcF, bcT, hd]
  simp only [bj r hw, g1]
structure iZ (P : Program) (K : ah) (E : eK) (aw : iO) (ops : Array Oper) (pl : List Nat) (al : List AX) (L : SL) (B : List bX) (G : List Part) (m n : Nat) (R : List AX → SL → List bX → List Part → Prop) : Prop where
 run : ∀ κ h L0 al0, dx κ L L0 → Mem E κ B G h → lv P E κ al al0 → WD P K ops pl al0 L0 h m n fun al1 L1 h1 => ∃ al' κ L B G, lv P E κ al' al1 ∧ dx κ L L1 ∧ Mem E κ B G h1 ∧ R al' L B G
variable {pl : List Nat} {al : List AX} {RA : List AX → SL → List bX → List Part → Prop}
theorem iZ.nil (hr : RA al L B G) : iZ P K E aw ops [] al L B G m n RA := ⟨fun κ _ _ _ r M ha => WD.nil ⟨al, κ, _, _, _, ha, r, M, hr⟩⟩
theorem WD.mono {al0 : List AL} {L0 : cj} {R0 R1 : List AL → cj → Heap → Prop} (w : WD P K ops pl al0 L0 h m n R0) (hr : ∀ al L h, R0 al L h → R1 al L h) : WD P K ops pl al0 L0 h m n R1 :=
 ⟨fun s log f hl => let ⟨s', log', al', L', h', a, b, c, d⟩ := w.run s log f hl; ⟨s', log', al', L', h', a, b, c, hr _ _ _ d⟩⟩
theorem iZ.cons {i : Nat} (hi : ops[i]? = some o) (ho : bW P K E ops o L B G m n fun L' B' G' => ∃ al', Km P aw ops i o L B G L' B' G' al al' ∧ iZ P K E aw ops pl al' L' B' G' m n RA) : iZ P K E aw ops (i :: pl) al L B G m n RA := by
 refine ⟨fun κ h L0 al0 r M ha => WD.cons hi (gK.mono (ho.run κ h L0 r M) ?_)⟩
 rintro L1 h1 ⟨κ', L', B', G', hpre, r', M', al', hu, w⟩
 obtain ⟨al1, g1, g2⟩ := hu.eq r M r' M' hpre ha
 exact ⟨al1, g1, w.run κ' h1 L1 al1 r' M' g2⟩
theorem iZ.cq {i : Nat} {sv : SV} {al' : List AX} (hX : TK P aw zl) (hi : ops[i]? = some o) (he : qN P aw zl ops o L B n = some (sv, B')) (hu : G3 P ops i o L B G (bm o.dst sv L) B' G al = some al') (hw : iZ P K E aw ops pl al' (bm o.dst sv L) B' G m n RA) : iZ P K E aw ops (i :: pl) al L B G m n RA :=
 iZ.cons hi (q hX he ⟨al', .comp hu, hw⟩)
inductive QS where
 | none
 | bN (i : Nat) (lc : List aa) (t : Nat) (s : Bool)
 | part (g : Part)
def qC (bV : Array Nat) (j : Nat) (rk : QS) : List AX → Prop
 | [] => True
 | x :: l => match x with
  | .change e a b ga gb => ((ae (bit (bV.getD j 0) e) true (bit (bV.getD e 0) j)) = true ∨ (∃ i lc t s, rk = .bN i lc t s ∧ nth a i = some (.own lc t s) ∧ nth b i = some (.own lc t s)) ∨ ∃ g ra rb, rk = .part g ∧ aS ga g ra ∧ aS gb g rb) ∧ qC bV j rk l
  | _ => qC bV j rk l
def s9 (bV : Array Nat) (al : List AX) : List AX → Prop
 | [] => True
 | x :: l => match x with
  | .read j => qC bV j .none al ∧ s9 bV al l
  | .ng j i lc t s => qC bV j (.bN i lc t s) al ∧ s9 bV al l
  | .je _ => s9 bV al l
  | .CL j g => qC bV j (.part g) al ∧ s9 bV al l
  | .change _ _ _ _ _ => s9 bV al l
def M8 (P : Program) (κ : jq) (o : Oper) (L0 : cj) (v : aa) : QS → Prop
 | .none => True
 | .part g => aa.beq v v = true ∧ ∀ h, g.holds h → cK P o L0 h v h
 | .bN i lc t s => aa.beq v v = true ∧ ∃ k, nth κ i = some (k, 0) ∧ ∀ h, h.get k = some (.cells lc t s true) → cK P o L0 h v h
theorem EY {κa ta κ : jq} {i : Nat} {p q : Nat × Nat} (e : κ = κa ++ ta) (h1 : nth κa i = some p) (h2 : nth κ i = some q) : p = q := by
 subst e
 rw [dp h1] at h2
 exact Option.some.inj h2
theorem qC.ok {bV : Array Nat} {j : Nat} {κ : jq} {L0 : cj} {v : aa} {bN : QS} (hb : M8 P κ o L0 v bN) : ∀ {al : List AX} {al0 : List AL}, lv P E κ al al0 → qC bV j bN al → tD P bV j o L0 v al0
 | [], [], _, _ => trivial
 | [], _ :: _, h, _ => by cases h
 | x :: l, [], h, _ => by cases x <;> cases h
 | .read _ :: al, .read _ _ _ _ :: al0, h, r => qC.ok hb (al := al) (al0 := al0) h.2 r
 | .read _ :: _, .change _ _ _ :: _, h, _ => by cases h
 | .ng _ _ _ _ _ :: al, .read _ _ _ _ :: al0, h, r => qC.ok hb (al := al) (al0 := al0) h.2 r
 | .ng _ _ _ _ _ :: _, .change _ _ _ :: _, h, _ => by cases h
 | .je _ :: al, .read _ _ _ _ :: al0, h, r => qC.ok hb (al := al) (al0 := al0) h.2 r
 | .je _ :: _, .change _ _ _ :: _, h, _ => by cases h
 | .CL _ _ :: al, .read _ _ _ _ :: al0, h, r => qC.ok hb (al := al) (al0 := al0) h.2 r
 | .CL _ _ :: _, .change _ _ _ :: _, h, _ => by cases h
 | .change _ _ _ _ _ :: _, .read _ _ _ _ :: _, h, _ => by cases h
 | .change e a b ga gb :: al, .change e' ha hb' :: al0, h, r => by
  obtain ⟨⟨h1, ⟨κa, ta, e1, m1⟩, κb, tb, e2, m2⟩, h4⟩ := h
  refine ⟨?_, qC.ok hb (al := al) (al0 := al0) h4 r.2⟩
  rcases r.1 with g | ⟨i, lc, t, s, g1, g2, g3⟩ | ⟨g, ra, rb, g1, g2, g3⟩
  ·rw [h1] at g; exact .inl g
  ·subst g1
   obtain ⟨hbeq, k, hk, hv⟩ := hb
   obtain ⟨k1, hk1⟩ := m1.own _ _ _ _ g2
   obtain ⟨k2, hk2⟩ := m2.own _ _ _ _ g3
   have q1 := EY e1 hk1 hk
   have q2 := EY e2 hk2 hk
   cases q1
   cases q2
   have f1 := m1.aZ.all _ (List.mem_append_left _ (cQ g2 hk1))
   have f2 := m2.aZ.all _ (List.mem_append_left _ (cQ g3 hk2))
   exact .inr ⟨⟨_, _, hv _ f1, hv _ f2⟩, hbeq⟩
  ·subst g1
   obtain ⟨hbeq, hv⟩ := hb
   exact .inr ⟨⟨_, _, hv _ (m1.aZ.all _ (List.mem_append_right _ g2.mem)), hv _ (m2.aZ.all _ (List.mem_append_right _ g3.mem))⟩, hbeq⟩
theorem oM {bV : Array Nat} {j : Nat} {κ : jq} {L0 : cj} {v : aa} (hs : aa.beq v v = true) (hv : ∀ h C', fU E.C E.h C' h → cK P o L0 h v h) : ∀ {al : List AX} {al0 : List AL}, lv P E κ al al0 → tD P bV j o L0 v al0
 | [], [], _ => trivial
 | [], _ :: _, h => by cases h
 | x :: l, [], h => by cases x <;> cases h
 | .read _ :: al, .read _ _ _ _ :: al0, h => oM hs hv (al := al) (al0 := al0) h.2
 | .read _ :: _, .change _ _ _ :: _, h => by cases h
 | .ng _ _ _ _ _ :: al, .read _ _ _ _ :: al0, h => oM hs hv (al := al) (al0 := al0) h.2
 | .ng _ _ _ _ _ :: _, .change _ _ _ :: _, h => by cases h
 | .je _ :: al, .read _ _ _ _ :: al0, h => oM hs hv (al := al) (al0 := al0) h.2
 | .je _ :: _, .change _ _ _ :: _, h => by cases h
 | .CL _ _ :: al, .read _ _ _ _ :: al0, h => oM hs hv (al := al) (al0 := al0) h.2
 | .CL _ _ :: _, .change _ _ _ :: _, h => by cases h
 | .change _ _ _ _ _ :: _, .read _ _ _ _ :: _, h => by cases h
 | .change e a b ga gb :: al, .change e' ha hb' :: al0, h => by
  obtain ⟨⟨h1, ⟨κa, ta, e1, m1⟩, κb, tb, e2, m2⟩, h4⟩ := h
  exact ⟨.inr ⟨⟨_, _, hv _ _ m1.aZ, hv _ _ m2.aZ⟩, hs⟩, oM hs hv (al := al) (al0 := al0) h4⟩
theorem s9.ok {bV : Array Nat} {κ : jq} {al : List AX} {al0 : List AL} (ha : lv P E κ al al0) : ∀ {m : List AX} {m0 : List AL}, lv P E κ m m0 → s9 bV al m → Kv P bV al0 m0
 | [], [], _, _ => trivial
 | [], _ :: _, h, _ => by cases h
 | x :: l, [], h, _ => by cases x <;> cases h
 | .read j :: m, .read j' o L v :: m0, h, r => by
  have r1 := r.1
  rw [h.1] at r1
  exact ⟨qC.ok (bN := .none) trivial ha r1, s9.ok ha (m := m) (m0 := m0) h.2 r.2⟩
 | .read _ :: _, .change _ _ _ :: _, h, _ => by cases h
 | .ng j i lc t s :: m, .read j' o L v :: m0, h, r => by
  obtain ⟨⟨h1, h2⟩, h3⟩ := h
  have r1 := r.1
  rw [h1] at r1
  exact ⟨qC.ok (bN := .bN i lc t s) h2 ha r1, s9.ok ha (m := m) (m0 := m0) h3 r.2⟩
 | .ng _ _ _ _ _ :: _, .change _ _ _ :: _, h, _ => by cases h
 | .je j :: m, .read j' o L v :: m0, h, r => by
  obtain ⟨⟨h1, h2, h3⟩, h4⟩ := h
  exact ⟨oM h2 h3 ha, s9.ok ha (m := m) (m0 := m0) h4 r⟩
 | .je _ :: _, .change _ _ _ :: _, h, _ => by cases h
 | .CL j g :: m, .read j' o L v :: m0, h, r => by
  obtain ⟨⟨h1, h2⟩, h3⟩ := h
  have r1 := r.1
  rw [h1] at r1
  exact ⟨qC.ok (bN := .part g) h2 ha r1, s9.ok ha (m := m) (m0 := m0) h3 r.2⟩
 | .CL _ _ :: _, .change _ _ _ :: _, h, _ => by cases h
 | .change _ _ _ _ _ :: _, .read _ _ _ _ :: _, h, _ => by cases h
 | .change e a b ga gb :: m, .change e' ha' hb' :: m0, h, r => s9.ok ha (m := m) (m0 := m0) h.2 r
theorem ai.draw {id : Nat} (aw : iO) (pl : List Nat) (bV : Array Nat) (hp : gV P ops = true) (hl : da P ops = pl) (han : Region.before ops = bV) (hw : iZ P K E aw ops pl [] L B G m n fun al L' B' G' => s9 bV al al ∧ zo E m n Q L' B' G') : ai P K E (.region id ops true) L B G m n Q := by
 refine ⟨fun κ h L0 r M => WC.draw pl bV hp hl han (WD.mono (hw.run κ h L0 [] r M trivial) ?_)⟩
 rintro al1 L1 h1 ⟨al', κ', L2, B2, G2, ha, r2, M2, hord, ⟨L3, hk, g⟩⟩
 obtain ⟨L4, L5, g1, g2, g3⟩ := rq r2 hk
 cases g1
 exact ⟨s9.ok ha ha hord, _, g2, g.run κ' _ _ g3 M2⟩
theorem W_ {P : Program} {K : ah} {E : eK} {aw : iO} {ops : Array Oper} {o : Oper} {pl : List Nat} {al al' : List AX} {L L' : SL} {B B' : List bX} {G G' : List Part} {m n i : Nat} {RA : List AX → SL → List bX → List Part → Prop} (hu : G3 P ops i o L B G L' B' G' al = some al') (hw : iZ P K E aw ops pl al' L' B' G' m n RA) : ∃ al', Km P aw ops i o L B G L' B' G' al al' ∧ iZ P K E aw ops pl al' L' B' G' m n RA := ⟨_, .comp hu, hw⟩
end
end
end Go.HL
