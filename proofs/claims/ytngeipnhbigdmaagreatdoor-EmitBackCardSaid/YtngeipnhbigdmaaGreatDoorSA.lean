/- Runs of HL with an argument that is not closed: rules by code, region, operation. No statement of the seat stands here. -/
import Derived.Test.YtngeipnhbigdmaaGreatDoorHlG
set_option linter.unusedVariables false
set_option linter.unusedSimpArgs false
namespace Go.HL
open Go
section
variable (P : Program) (K : ah)
def Runs (c : Code) (s : St) (e : Ex) (s' : St) : Prop := ∃ n, ∀ m, n ≤ m → jQ P K m c s = some (e, s')
def tF (f : Nat) (args : List aa) (h : Heap) (v : aa) (h' : Heap) : Prop := ∃ n, ∀ m, n ≤ m → eZ K (cJ P (jQ P K m)) f args h = some (.ret v, h')
def Kx (ops : Array Oper) (l : List Oper) (s : St) (s' : St) : Prop := ∃ n, ∀ m, n ≤ m → ey P (eZ K (cJ P (jQ P K m))) ops l s = some (.dw, s')
end
section
variable {P : Program} {K : ah} {s s1 s2 s' : St} {e : Ex} {a b c : Code}
theorem Runs.skip : Runs P K .skip s .dw s := ⟨1, fun m hm => by obtain ⟨k, rfl⟩ : ∃ k, m = k + 1 := ⟨m - 1, by omega⟩; rfl⟩
theorem Runs.ret : Runs P K .ret s .ret s := ⟨1, fun m hm => by obtain ⟨k, rfl⟩ : ∃ k, m = k + 1 := ⟨m - 1, by omega⟩; rfl⟩
theorem Runs.exit {id : Nat} : Runs P K (.exit id) s (.exit id) s := ⟨1, fun m hm => by obtain ⟨k, rfl⟩ : ∃ k, m = k + 1 := ⟨m - 1, by omega⟩; rfl⟩
theorem cn (m : Nat) (c : Code) (s : St) : jQ P K (m + 1) c s = ct P K (jQ P K m) c s := rfl
theorem Runs.seq (h1 : Runs P K a s .dw s1) (h2 : Runs P K b s1 e s2) : Runs P K (.seq a b) s e s2 := by
 obtain ⟨n1, g1⟩ := h1
 obtain ⟨n2, g2⟩ := h2
 refine ⟨max n1 n2 + 1, fun m hm => ?_⟩
 obtain ⟨k, rfl⟩ : ∃ k, m = k + 1 := ⟨m - 1, by omega⟩
 rw [cn, ct, g1 k (by omega), obS]
 exact g2 k (by omega)
theorem Runs.KC (h1 : Runs P K a s .ret s1) : Runs P K (.seq a b) s .ret s1 := by
 obtain ⟨n1, g1⟩ := h1
 refine ⟨n1 + 1, fun m hm => ?_⟩
 obtain ⟨k, rfl⟩ : ∃ k, m = k + 1 := ⟨m - 1, by omega⟩
 rw [cn, ct, g1 k (by omega), obS]
theorem Runs.Iq {id : Nat} (h1 : Runs P K a s (.exit id) s1) : Runs P K (.seq a b) s (.exit id) s1 := by
 obtain ⟨n1, g1⟩ := h1
 refine ⟨n1 + 1, fun m hm => ?_⟩
 obtain ⟨k, rfl⟩ : ∃ k, m = k + 1 := ⟨m - 1, by omega⟩
 rw [cn, ct, g1 k (by omega), obS]
theorem Runs.cond {x : Operand} {t : Bool} (hx : s.env.eval P x = .bool t) (h : Runs P K (bif t then a else b) s e s') : Runs P K (.cond x a b) s e s' := by
 obtain ⟨n1, g1⟩ := h
 refine ⟨n1 + 1, fun m hm => ?_⟩
 obtain ⟨k, rfl⟩ : ∃ k, m = k + 1 := ⟨m - 1, by omega⟩
 rw [cn, ct, hx]
 have := g1 k (by omega)
 cases t <;> exact this
theorem Runs.block {id : Nat} (h : Runs P K a s .dw s') : Runs P K (.block id a) s .dw s' := by
 obtain ⟨n1, g1⟩ := h
 refine ⟨n1 + 1, fun m hm => ?_⟩
 obtain ⟨k, rfl⟩ : ∃ k, m = k + 1 := ⟨m - 1, by omega⟩
 rw [cn, ct, g1 k (by omega), obS]
theorem Runs.HK {id : Nat} (h : Runs P K a s .ret s') : Runs P K (.block id a) s .ret s' := by
 obtain ⟨n1, g1⟩ := h
 refine ⟨n1 + 1, fun m hm => ?_⟩
 obtain ⟨k, rfl⟩ : ∃ k, m = k + 1 := ⟨m - 1, by omega⟩
 rw [cn, ct, g1 k (by omega), obS]
theorem Runs.Eu {id : Nat} (h : Runs P K a s (.exit id) s') : Runs P K (.block id a) s .dw s' := by
 obtain ⟨n1, g1⟩ := h
 refine ⟨n1 + 1, fun m hm => ?_⟩
 obtain ⟨k, rfl⟩ : ∃ k, m = k + 1 := ⟨m - 1, by omega⟩
 rw [cn, ct, g1 k (by omega), obS]
 simp
theorem Runs.Et {id j : Nat} (hj : j ≠ id) (h : Runs P K a s (.exit j) s') : Runs P K (.block id a) s (.exit j) s' := by
 obtain ⟨n1, g1⟩ := h
 refine ⟨n1 + 1, fun m hm => ?_⟩
 obtain ⟨k, rfl⟩ : ∃ k, m = k + 1 := ⟨m - 1, by omega⟩
 rw [cn, ct, g1 k (by omega), obS]
 simp [bD, hj]
theorem Runs.loop (h1 : Runs P K a s .dw s1) (h2 : Runs P K (.loop a) s1 e s2) : Runs P K (.loop a) s e s2 := by
 obtain ⟨n1, g1⟩ := h1
 obtain ⟨n2, g2⟩ := h2
 refine ⟨max n1 n2 + 1, fun m hm => ?_⟩
 obtain ⟨k, rfl⟩ : ∃ k, m = k + 1 := ⟨m - 1, by omega⟩
 rw [cn, ct, g1 k (by omega), obS]
 exact g2 k (by omega)
theorem Runs.GU {id : Nat} (h1 : Runs P K a s (.exit id) s1) : Runs P K (.loop a) s (.exit id) s1 := by
 obtain ⟨n1, g1⟩ := h1
 refine ⟨n1 + 1, fun m hm => ?_⟩
 obtain ⟨k, rfl⟩ : ∃ k, m = k + 1 := ⟨m - 1, by omega⟩
 rw [cn, ct, g1 k (by omega), obS]
theorem Runs.Jd (h1 : Runs P K a s .ret s1) : Runs P K (.loop a) s .ret s1 := by
 obtain ⟨n1, g1⟩ := h1
 refine ⟨n1 + 1, fun m hm => ?_⟩
 obtain ⟨k, rfl⟩ : ∃ k, m = k + 1 := ⟨m - 1, by omega⟩
 rw [cn, ct, g1 k (by omega), obS]
theorem Runs.region {id : Nat} {ops : Array Oper} (hp : s.c8 = .none) (h : Kx P K ops ops.toList s s1) (hf : fk (.dw, s1) = some (.dw, s2)) : Runs P K (.region id ops false) s .dw s2 := by
 obtain ⟨n1, g1⟩ := h
 refine ⟨n1 + 1, fun m hm => ?_⟩
 obtain ⟨k, rfl⟩ : ∃ k, m = k + 1 := ⟨m - 1, by omega⟩
 have hcf : jm s.c8 (eZ K (cJ P (jQ P K k))) = eZ K (cJ P (jQ P K k)) := by rw [hp]; rfl
 rw [cn, ct, bcF, hcf, g1 k (by omega), obS]
 exact hf
variable {ops : Array Oper} {o : Oper} {l : List Oper}
theorem Kx.nil : Kx P K ops [] s s := ⟨0, fun m _ => rfl⟩
theorem Kx.val {v : aa} {h' : Heap} (hg : bJ ops o s.env = some true) (hf : fits o.dst s.bt = true) (ho : bS P (s.env.eval P) s.heap o = some (.val v h')) (hr : Kx P K ops l (s.with o.dst v h') s') : Kx P K ops (o :: l) s s' := by
 obtain ⟨n, g⟩ := hr
 refine ⟨n, fun m hm => ?_⟩
 simp only [ey, fE, hg, obS, hf, bcT, ho, bC, force_eq]
 exact g m hm
end
end Go.HL
namespace Go.HL
open Go
section
variable {P : Program} {K : ah}
theorem tF.intro {f : Nat} {fn : Func} {c : Code} {args : List aa} {h : Heap} {v : aa} {s' : St} {e : Ex} (hK : K f args h = none) (hf : P.funcs[f]? = some fn) (hb : fn.body = some c) (hlt : f < bd)
  (hr : Runs P K c (gF fn args h .none) e s') (he : e = .dw ∨ e = .ret) (hd : s'.defers = []) (hv : kn P fn s' = some v) : tF P K f args h v s'.heap := by
 obtain ⟨n, g⟩ := hr
 refine ⟨n, fun m hm => ?_⟩
 have h1 : Nat.blt f bd = true := by rw [eW]; exact decide_eq_true hlt
 have h2 : mN P (jQ P K m) f args h = some (.ret v, s'.heap) := by
  simp only [mN, hf, obS, hb, g m hm]
  rcases he with rfl | rfl <;> simp only [hd, gC, hv, obS]
 simp only [eZ, hK, cJ, h1, bcT, h2]
end
end Go.HL
namespace Go.HL
open Go
noncomputable section
abbrev cj := List (Nat × aa)
abbrev F (loc vars : cj) (h : Heap) (m n : Nat) : St := ⟨⟨loc, vars⟩, h, [], .none, m, n⟩
def og (mask : Nat) : cj → cj → cj
 | [], vars => vars
 | p :: l, vars => ae (bit mask p.1) (eP (og mask l vars) p.1 p.2 id) (og mask l vars)
theorem vJ {β : Type} (d : Nat) (v : aa) : ∀ (l : cj) (k : cj → β), eP l d v k = k (eP l d v id)
 | [], k => rfl
 | p :: l, k => by
  have h1 : ∀ {γ : Type} (k : cj → γ), eP (p :: l) d v k = @Bool.rec (fun _ => γ) (eP l d v fun r => k (p :: r)) (k ((d, v) :: l)) (Nat.beq p.1 d) := fun _ => rfl
  rw [h1, h1, vJ d v l (fun r => k (p :: r)), vJ d v l (fun r => id (p :: r))]
  cases Nat.beq p.1 d <;> rfl
theorem BX {β : Type} (mask : Nat) : ∀ (l vars : cj) (k : cj → β), fR mask l vars k = k (og mask l vars)
 | [], _, _ => rfl
 | p :: l, vars, k => by
  simp only [fR, og]
  rw [BX mask l vars]
  cases bit mask p.1 with
  | true => simp only [bcT]; exact vJ _ _ _ _
  | false => rfl
section
variable (P : Program) (K : ah)
def Wp (c : Code) (s : St) (Q : Ex → St → Prop) : Prop := ∃ e s', Runs P K c s e s' ∧ Q e s'
def Kk (ops : Array Oper) (l : List Oper) (s : St) (Q : St → Prop) : Prop := ∃ s', Kx P K ops l s s' ∧ Q s'
end
section
variable {P : Program} {K : ah} {Q : Ex → St → Prop} {s : St} {a b c : Code} {loc vars : cj} {h : Heap} {m n : Nat}
def dY (P : Program) (K : ah) (b : Code) (Q : Ex → St → Prop) : Ex → St → Prop
 | .dw, s => Wp P K b s Q
 | e, s => Q e s
theorem Wp.seq (h : Wp P K a s (dY P K b Q)) : Wp P K (.seq a b) s Q := by
 obtain ⟨e, s1, h1, h2⟩ := h
 cases e with
 | dw => obtain ⟨e2, s2, g1, g2⟩ := h2; exact ⟨e2, s2, h1.seq g1, g2⟩
 | exit id => exact ⟨_, s1, h1.Iq, h2⟩
 | ret => exact ⟨_, s1, h1.KC, h2⟩
 | c8 v =>
  refine ⟨_, s1, ?_, h2⟩
  obtain ⟨n1, g1⟩ := h1
  refine ⟨n1 + 1, fun m hm => ?_⟩
  obtain ⟨k, rfl⟩ : ∃ k, m = k + 1 := ⟨m - 1, by omega⟩
  rw [cn, ct, g1 k (by omega), obS]
theorem Wp.skip (h : Q .dw s) : Wp P K .skip s Q := ⟨_, _, .skip, h⟩
theorem Wp.ret (h : Q .ret s) : Wp P K .ret s Q := ⟨_, _, .ret, h⟩
theorem Wp.exit {id : Nat} (h : Q (.exit id) s) : Wp P K (.exit id) s Q := ⟨_, _, .exit, h⟩
theorem Wp.cond {x : Operand} {t : Bool} (hx : s.env.eval P x = .bool t) (h1 : t = true → Wp P K a s Q) (h2 : t = false → Wp P K b s Q) : Wp P K (.cond x a b) s Q := by
 cases t with
 | true => obtain ⟨e, s', r, q⟩ := h1 rfl; exact ⟨e, s', .cond hx r, q⟩
 | false => obtain ⟨e, s', r, q⟩ := h2 rfl; exact ⟨e, s', .cond hx r, q⟩
def eF (id : Nat) (Q : Ex → St → Prop) : Ex → St → Prop
 | .exit j, s => if j = id then Q .dw s else Q (.exit j) s
 | e, s => Q e s
theorem Wp.block {id : Nat} (h : Wp P K a s (eF id Q)) : Wp P K (.block id a) s Q := by
 obtain ⟨e, s1, h1, h2⟩ := h
 cases e with
 | dw => exact ⟨_, _, h1.block, h2⟩
 | ret => exact ⟨_, _, h1.HK, h2⟩
 | exit j =>
  have h3 : if j = id then Q .dw s1 else Q (.exit j) s1 := h2
  by_cases hj : j = id
  ·rw [if_pos hj] at h3; subst hj; exact ⟨_, _, h1.Eu, h3⟩
  ·rw [if_neg hj] at h3; exact ⟨_, _, h1.Et hj, h3⟩
 | c8 v =>
  refine ⟨_, s1, ?_, h2⟩
  obtain ⟨n1, g1⟩ := h1
  refine ⟨n1 + 1, fun m hm => ?_⟩
  obtain ⟨k, rfl⟩ : ∃ k, m = k + 1 := ⟨m - 1, by omega⟩
  rw [cn, ct, g1 k (by omega), obS]
theorem Wp.loop (h : Wp P K a s (dY P K (.loop a) Q)) : Wp P K (.loop a) s Q := by
 obtain ⟨e, s1, h1, h2⟩ := h
 cases e with
 | dw => obtain ⟨e2, s2, g1, g2⟩ := h2; exact ⟨e2, s2, h1.loop g1, g2⟩
 | exit id => exact ⟨_, s1, h1.GU, h2⟩
 | ret => exact ⟨_, s1, h1.Jd, h2⟩
 | c8 v =>
  refine ⟨_, s1, ?_, h2⟩
  obtain ⟨n1, g1⟩ := h1
  refine ⟨n1 + 1, fun m hm => ?_⟩
  obtain ⟨k, rfl⟩ : ∃ k, m = k + 1 := ⟨m - 1, by omega⟩
  rw [cn, ct, g1 k (by omega), obS]
/-! ## Operations -/
variable {ops : Array Oper} {o : Oper} {l : List Oper} {W : St → Prop}
theorem Kk.nil (h : W s) : Kk P K ops [] s W := ⟨s, .nil, h⟩
def jI (d : Option Nat) (v : aa) (loc : cj) : cj := match d with
 | none => loc
 | some d => (d, v) :: loc
theorem JJ (d : Option Nat) (v : aa) : (⟨loc, vars⟩ : Env).put d v = ⟨jI d v loc, vars⟩ := by cases d <;> rfl
theorem Kk.val {v : aa} {h' : Heap} (hg : bJ ops o ⟨loc, vars⟩ = some true) (hf : fits o.dst n = true) (ho : bS P (Env.eval P ⟨loc, vars⟩) h o = some (.val v h')) (hr : Kk P K ops l (F (jI o.dst v loc) vars h' m n) W) :
  Kk P K ops (o :: l) (F loc vars h m n) W := by
 obtain ⟨s', r, q⟩ := hr
 refine ⟨s', Kx.val hg hf ho ?_, q⟩
 show Kx P K ops l ⟨(⟨loc, vars⟩ : Env).put o.dst v, h', [], .none, m, n⟩ s'
 rw [JJ]; exact r
theorem tF.of_wp {f : Nat} {fn : Func} {c : Code} {args : List aa} {v : aa} {h' : Heap} {mk bt : Nat} (hK : K f args h = none) (hf : P.funcs[f]? = some fn) (hb : fn.body = some c) (hlt : f < bd)
  (hm : Nat.lor (bB fn) (Nat.sub (Nat.pow 2 args.length) 1) = mk) (hl : Nat.add args.length (Nat.sub fn.ntmps args.length) = bt)
  (hw : Wp P K c (F [] (cg args 0) h mk bt) fun e s' => (e = .dw ∨ e = .ret) ∧ s'.defers = [] ∧ kn P fn s' = some v ∧ s'.heap = h') : tF P K f args h v h' := by
 obtain ⟨e, s', r, he, hd, hv, rfl⟩ := hw
 refine tF.intro hK hf hb hlt (e := e) (s' := s') ?_ he hd hv
 have : gF fn args h .none = F [] (cg args 0) h mk bt := by
  unfold gF; rw [hm, hl]
 rw [this]; exact r
end
end
end Go.HL
namespace Go.HL
open Go
noncomputable section
def look : cj → Nat → Option aa
 | [], _ => none
 | (j, v) :: l, i => ae (Nat.beq j i) (some v) (look l i)
def fL (L : cj) (e : Env) : Prop := ∀ i v, look L i = some v → e.get i = v
structure Fr (m n : Nat) (L : cj) (h : Heap) (s : St) : Prop where
 env : fL L s.env
 heap : s.heap = h
 defers : s.defers = []
 c8 : s.c8 = .none
 mask : s.mask = m
 bt : s.bt = n
def eS (P : Program) (L : cj) : Operand → Option aa
 | .tmp t => look L t
 | .const v => ofValue v
 | .global g => ae (Nat.blt g P.globals.size) (some (.ptr g 0)) none
 | .func f => some (.func f [] [])
theorem evS {P : Program} {L : cj} {e : Env} (ha : fL L e) {x : Operand} {v : aa} (h : eS P L x = some v) : e.eval P x = v := by
 cases x with
 | tmp t => exact ha t v h
 | const c => show xe c = v; unfold xe; rw [show ofValue c = some v from h]
 | global g =>
  have h' : ae (Nat.blt g P.globals.size) (some (aa.ptr g 0)) none = some v := h
  show ae (Nat.blt g P.globals.size) (aa.ptr g 0) .bad = v
  cases hb : Nat.blt g P.globals.size <;> rw [hb] at h'
  ·cases h'
  ·exact Option.some.inj h'
 | func f => exact Option.some.inj h
theorem fL.cons {L : cj} {e : Env} (ha : fL L e) (d : Nat) (v : aa) : fL ((d, v) :: L) (e.put (some d) v) := by
 intro i w hw
 show xB ((d, v) :: e.loc) (assoc e.vars .bad i) i = w
 have h' : ae (Nat.beq d i) (some v) (look L i) = some w := hw
 show @Bool.rec (fun _ => aa) _ v (Nat.beq d i) = w
 cases hb : Nat.beq d i <;> rw [hb] at h'
 ·exact ha i w h'
 ·exact Option.some.inj h'
theorem fL.Dl {L : cj} {e : Env} (ha : fL L e) (d : Option Nat) (v : aa) : fL (jI d v L) (e.put d v) := by
 cases d with
 | none => exact ha
 | some d => exact ha.cons d v
def jA (ops : Array Oper) (o : Oper) (L : cj) : Option Bool :=
 match o.guard with
 | none => some true
 | some g => match (ops[g.1]?).bind (·.dst) with
  | some d => match look L d with
   | some (.bool b) => some (ae g.2 b (ae b false true))
   | some (.tuple _) => some false
   | _ => none
  | none => none
theorem kg {ops : Array Oper} {o : Oper} {L : cj} {e : Env} (ha : fL L e) {b : Bool} (h : jA ops o L = some b) : bJ ops o e = some b := by
 unfold jA at h
 unfold bJ
 split at h
 ·rename_i hg; simp only [hg]; exact h
 ·rename_i g hg
  simp only [hg]
  split at h
  ·rename_i d hd
   simp only [hd]
   split at h
   ·rename_i b' hb; rw [ha _ _ hb]; exact h
   ·rename_i l hb; rw [ha _ _ hb]; exact h
   ·cases h
  ·cases h
/-! ## What an operation gives -/
def cK (P : Program) (o : Oper) (L : cj) (h : Heap) (v : aa) (h' : Heap) : Prop := ∀ e : Env, fL L e → bS P (e.eval P) h o = some (.val v h')
structure QW (P : Program) (o : Oper) (L : cj) (h : Heap) (f : Nat) (args : List aa) : Prop where
 enter : ∀ e : Env, fL L e → bS P (e.eval P) h o = some (.enter f args h)
 fn : Nat.blt f bd = true
def PA (P : Program) (K : ah) (ops : Array Oper) (o : Oper) (s s' : St) : Prop := ∃ n, ∀ m, n ≤ m → fE P (eZ K (cJ P (jQ P K m))) ops o s = some (.dw, s') ∧ fE P (gate (eZ K (cJ P (jQ P K m)))) ops o s = some (.dw, s')
structure gK (P : Program) (K : ah) (ops : Array Oper) (o : Oper) (L : cj) (h : Heap) (m n : Nat) (R : cj → Heap → Prop) : Prop where
 run : ∀ s, Fr m n L h s → ∃ s' L' h', PA P K ops o s s' ∧ Fr m n L' h' s' ∧ R L' h'
section
variable {P : Program} {K : ah} {ops : Array Oper} {o : Oper} {l : List Oper} {L : cj} {h h' : Heap} {m n : Nat} {R : cj → Heap → Prop} {v : aa}
theorem Fr.with {s : St} (f : Fr m n L h s) (d : Option Nat) (v : aa) (h' : Heap) : Fr m n (jI d v L) h' (s.with d v h') :=
 ⟨f.env.Dl d v, rfl, f.defers, f.c8, f.mask, f.bt⟩
theorem gK.val (hv : cK P o L h v h') (hw : jA ops o L = some true) (hf : fits o.dst n = true) (hr : R (jI o.dst v L) h') : gK P K ops o L h m n R := by
 constructor
 intro s f
 refine ⟨s.with o.dst v h', _, _, ⟨0, fun m _ => ?_⟩, f.with _ _ _, hr⟩
 have h1 := kg f.env hw
 have h2 : fits o.dst s.bt = true := by rw [f.bt]; exact hf
 have h3 : bS P (s.env.eval P) s.heap o = some (.val v h') := by rw [f.heap]; exact hv _ f.env
 constructor <;> simp only [fE, h1, obS, h2, bcT, h3, bC, force_eq]
theorem gK.skip {g : Nat × Bool} (hg : o.guard = some g) (hw : jA ops o L = some false) (hf : fits o.dst n = true) (hr : R (jI o.dst bw L) h) : gK P K ops o L h m n R := by
 constructor
 intro s f
 refine ⟨s.with o.dst bw s.heap, _, _, ⟨0, fun m _ => ?_⟩, ?_, hr⟩
 ·have h1 := kg f.env hw
  have h2 : fits o.dst s.bt = true := by rw [f.bt]; exact hf
  constructor <;> simp only [fE, h1, obS, h2, bcT, bcF]
 ·rw [f.heap]; exact f.with _ _ _
theorem gK.call {f : Nat} {args : List aa} (ho : QW P o L h f args) (hw : jA ops o L = some true) (hf : fits o.dst n = true) (hd : tF P K f args h v h') (hr : R (jI o.dst v L) h') : gK P K ops o L h m n R := by
 constructor
 intro s fr
 obtain ⟨N, g⟩ := hd
 refine ⟨s.with o.dst v h', _, _, ⟨N, fun m hm => ?_⟩, fr.with _ _ _, hr⟩
 have h1 := kg fr.env hw
 have h2 : fits o.dst s.bt = true := by rw [fr.bt]; exact hf
 have h3 : bS P (s.env.eval P) s.heap o = some (.enter f args h) := by rw [fr.heap]; exact ho.enter _ fr.env
 constructor <;> simp only [fE, h1, obS, h2, bcT, h3, bC, gate, ho.fn, g m hm, force_eq]
theorem gK.mono {R' : cj → Heap → Prop} (ho : gK P K ops o L h m n R) (hr : ∀ L h, R L h → R' L h) : gK P K ops o L h m n R' := ⟨fun s f => let ⟨s', L', h', a, b, c⟩ := ho.run s f; ⟨s', L', h', a, b, hr _ _ c⟩⟩
end
/-! ## Regions and code -/
structure WO (P : Program) (K : ah) (ops : Array Oper) (l : List Oper) (L : cj) (h : Heap) (m n : Nat) (R : cj → Heap → Prop) : Prop where
 run : ∀ s, Fr m n L h s → ∃ s' L' h', Kx P K ops l s s' ∧ Fr m n L' h' s' ∧ R L' h'
structure WC (P : Program) (K : ah) (c : Code) (L : cj) (h : Heap) (m n : Nat) (Q : Ex → St → Prop) : Prop where
 run : ∀ s, Fr m n L h s → Wp P K c s Q
structure To (Q : Ex → St → Prop) (e : Ex) (L : cj) (h : Heap) (m n : Nat) : Prop where
 run : ∀ s, Fr m n L h s → Q e s
def ru (m : Nat) : cj → (cj → Option cj) → Option cj
 | [], k => k []
 | (i, v) :: l, k => ae (bit m i) (ru m l fun r => k ((i, v) :: r)) (ru m l k)
def kG (m : Nat) (L : cj) : cj := L.filter fun p => bit m p.1
theorem lR (m : Nat) : ∀ (L : cj) (k : cj → Option cj), ru m L k = k (kG m L)
 | [], k => by simp [ru, kG]
 | (i, v) :: l, k => by
  unfold ru
  cases hb : bit m i with
  | true => rw [bcT, lR m l]; simp [kG, hb]
  | false => rw [bcF, lR m l]; simp [kG, hb]
theorem qg {m : Nat} : ∀ {L : cj} {i : Nat} {v : aa}, look (kG m L) i = some v → bit m i = true ∧ look L i = some v
 | [], i, v, h => by cases h
 | p :: l, i, v, h => by
  cases hb : bit m p.1 with
  | true =>
   have e : kG m (p :: l) = p :: kG m l := by simp [kG, hb]
   rw [e] at h
   simp only [look] at h ⊢
   cases hp : Nat.beq p.1 i with
   | true =>
    rw [hp] at h
    have : p.1 = i := Nat.eq_of_beq_eq_true hp
    exact ⟨this ▸ hb, h⟩
   | false => rw [hp] at h; exact qg h
  | false =>
   have e : kG m (p :: l) = kG m l := by simp [kG, hb]
   rw [e] at h
   obtain ⟨h1, h2⟩ := qg h
   refine ⟨h1, ?_⟩
   simp only [look]
   cases hp : Nat.beq p.1 i with
   | true =>
    have : p.1 = i := Nat.eq_of_beq_eq_true hp
    rw [this, h1] at hb; cases hb
   | false => exact h2
theorem uv (key : Nat) (v : aa) (l : cj) (d : aa) (j : Nat) : assoc (eP l key v id) d j = if key = j then v else assoc l d j := by
 obtain ⟨mm, h1, h2⟩ := qQ (β := cj) key v l id
 rw [h1]; exact h2 d j
theorem wM {m : Nat} : ∀ (loc vars : cj) (i : Nat), bit m i = true → assoc (og m loc vars) .bad i = xB loc (assoc vars .bad i) i
 | [], vars, i, hi => rfl
 | p :: l, vars, i, hi => by
  show assoc (ae (bit m p.1) (eP (og m l vars) p.1 p.2 id) (og m l vars)) .bad i = @Bool.rec (fun _ => aa) (xB l (assoc vars .bad i) i) p.2 (Nat.beq p.1 i)
  have ih := wM l vars i hi
  cases hp : Nat.beq p.1 i with
  | true =>
   have e : p.1 = i := Nat.eq_of_beq_eq_true hp
   rw [e, hi, bcT, uv, if_pos rfl]
  | false =>
   have e : p.1 ≠ i := fun e => by rw [e, bD, decide_eq_true rfl] at hp; cases hp
   cases hb : bit m p.1 with
   | true => rw [bcT, uv, if_neg e]; exact ih
   | false => rw [bcF]; exact ih
section
variable {P : Program} {K : ah} {ops : Array Oper} {o : Oper} {l : List Oper} {L L' : cj} {h h' : Heap} {m n : Nat} {R : cj → Heap → Prop} {Q : Ex → St → Prop} {a b c : Code}
theorem WO.nil (hr : R L h) : WO P K ops [] L h m n R := ⟨fun s f => ⟨s, L, h, .nil, f, hr⟩⟩
theorem WO.cons (ho : gK P K ops o L h m n fun L' h' => WO P K ops l L' h' m n R) : WO P K ops (o :: l) L h m n R := by
 constructor
 intro s f
 obtain ⟨s1, L1, h1, g1, f1, w⟩ := ho.run s f
 obtain ⟨s2, L2, h2, g2, f2, r⟩ := w.run s1 f1
 refine ⟨s2, L2, h2, ?_, f2, r⟩
 obtain ⟨n1, k1⟩ := g1
 obtain ⟨n2, k2⟩ := g2
 refine ⟨max n1 n2, fun m hm => ?_⟩
 simp only [ey, (k1 m (by omega)).1, obS]
 exact k2 m (by omega)
theorem E3 (s : St) : ∃ s', fk (.dw, s) = some (.dw, s') ∧ (∀ i, bit s.mask i = true → s'.env.get i = s.env.get i) ∧ s'.heap = s.heap ∧ s'.defers = s.defers ∧ s'.c8 = s.c8 ∧ s'.mask = s.mask ∧ s'.bt = s.bt := by
 refine ⟨⟨⟨[], og s.mask s.env.loc s.env.vars⟩, s.heap, s.defers, s.c8, s.mask, s.bt⟩, ?_, fun i hi => wM _ _ _ hi, rfl, rfl, rfl, rfl, rfl⟩
 show fR s.mask s.env.loc s.env.vars (fun vars => some (Ex.dw, (⟨⟨[], vars⟩, s.heap, s.defers, s.c8, s.mask, s.bt⟩ : St))) = _
 rw [BX]
theorem Fr.flush {s : St} (f : Fr m n L h s) (hk : ru m L some = some L') : ∃ s', fk (.dw, s) = some (.dw, s') ∧ Fr m n L' h s' := by
 obtain ⟨s', e, g1, g2, g3, g4, g5, g6⟩ := E3 s
 refine ⟨s', e, ⟨fun i v hv => ?_, g2.trans f.heap, g3.trans f.defers, g4.trans f.c8, g5.trans f.mask, g6.trans f.bt⟩⟩
 rw [lR] at hk
 have e : kG m L = L' := Option.some.inj hk
 rw [← e] at hv
 obtain ⟨h1, h2⟩ := qg hv
 rw [g1 i (by rw [f.mask]; exact h1)]
 exact f.env i v h2
structure M4 (m n : Nat) (Q : Ex → St → Prop) (L : cj) (h : Heap) : Prop where
 run : ∃ L', ru m L some = some L' ∧ To Q .dw L' h m n
theorem M4.intro (hk : ru m L some = some L') (g : To Q .dw L' h m n) : M4 m n Q L h := ⟨L', hk, g⟩
theorem WC.region {id : Nat} (hw : WO P K ops ops.toList L h m n (M4 m n Q)) : WC P K (.region id ops false) L h m n Q := by
 constructor
 intro s f
 obtain ⟨s1, L1, h1, g1, f1, ⟨L2, hk, q⟩⟩ := hw.run s f
 obtain ⟨s2, e, f2⟩ := f1.flush hk
 exact ⟨_, _, Runs.region f.c8 g1 e, q.run s2 f2⟩
theorem WC.seq (hw : WC P K a L h m n (dY P K b Q)) : WC P K (.seq a b) L h m n Q := ⟨fun s f => Wp.seq (hw.run s f)⟩
theorem WC.skip (hw : To Q .dw L h m n) : WC P K .skip L h m n Q := ⟨fun s f => Wp.skip (hw.run s f)⟩
theorem WC.ret (hw : To Q .ret L h m n) : WC P K .ret L h m n Q := ⟨fun s f => Wp.ret (hw.run s f)⟩
theorem WC.exit {id : Nat} (hw : To Q (.exit id) L h m n) : WC P K (.exit id) L h m n Q := ⟨fun s f => Wp.exit (hw.run s f)⟩
theorem WC.block {id : Nat} (hw : WC P K a L h m n (eF id Q)) : WC P K (.block id a) L h m n Q := ⟨fun s f => Wp.block (hw.run s f)⟩
theorem WC.loop (hw : WC P K a L h m n (dY P K (.loop a) Q)) : WC P K (.loop a) L h m n Q := ⟨fun s f => Wp.loop (hw.run s f)⟩
theorem WC.cond_true {x : Operand} (hx : eS P L x = some (.bool true)) (hw : WC P K a L h m n Q) : WC P K (.cond x a b) L h m n Q := ⟨fun s f =>
 Wp.cond (t := true) (evS f.env hx) (fun _ => hw.run s f) (fun e => by cases e)⟩
theorem WC.cond_false {x : Operand} (hx : eS P L x = some (.bool false)) (hw : WC P K b L h m n Q) : WC P K (.cond x a b) L h m n Q := ⟨fun s f =>
 Wp.cond (t := false) (evS f.env hx) (fun e => by cases e) (fun _ => hw.run s f)⟩
def HV : cj → cj → Prop
 | [], _ => True
 | (i, v) :: l, L => look L i = some v ∧ HV l L
theorem HV.look : ∀ {l L : cj}, HV l L → ∀ {i : Nat} {v : aa}, look l i = some v → look L i = some v
 | p :: l, L, hs, i, v, hl => by
  simp only [HL.look] at hl
  cases hp : Nat.beq p.1 i with
  | true => rw [hp] at hl; have e : p.1 = i := Nat.eq_of_beq_eq_true hp; cases hl; rw [← e]; exact hs.1
  | false => rw [hp] at hl; exact hs.2.look hl
theorem Fr.sub {s : St} (f : Fr m n L h s) (hs : HV L' L) : Fr m n L' h s := ⟨fun i v hv => f.env i v (hs.look hv), f.heap, f.defers, f.c8, f.mask, f.bt⟩
theorem WC.sub (hs : HV L' L) (hw : WC P K c L' h m n Q) : WC P K c L h m n Q := ⟨fun s f => hw.run s (f.sub hs)⟩
theorem To.KY (hw : WC P K b L h m n Q) : To (dY P K b Q) .dw L h m n := ⟨hw.run⟩
theorem To.JH {id : Nat} (g : To Q (.exit id) L h m n) : To (dY P K b Q) (.exit id) L h m n := ⟨g.run⟩
theorem To.KE (g : To Q .ret L h m n) : To (dY P K b Q) .ret L h m n := ⟨g.run⟩
theorem To.GM {id : Nat} (g : To Q .dw L h m n) : To (eF id Q) .dw L h m n := ⟨g.run⟩
theorem To.Gi {id : Nat} (g : To Q .ret L h m n) : To (eF id Q) .ret L h m n := ⟨g.run⟩
theorem To.E8 {id : Nat} (g : To Q .dw L h m n) : To (eF id Q) (.exit id) L h m n := ⟨fun s f => by
 show if id = id then Q .dw s else Q (.exit id) s
 rw [if_pos rfl]; exact g.run s f⟩
/-! ## Functions -/
def Sp (P : Program) (K : ah) (f : Nat) (args : List aa) (h : Heap) (R : aa → Heap → Prop) : Prop := ∃ v h', tF P K f args h v h' ∧ R v h'
def M7 (P : Program) (fn : Func) (R : aa → Heap → Prop) (e : Ex) (s : St) : Prop := (e = .dw ∨ e = .ret) ∧ s.defers = [] ∧ ∃ v, kn P fn s = some v ∧ R v s.heap
def KI (L : cj) : List ResultVar → Option (List aa)
 | [] => some []
 | r :: l => match r with
  | .tmp t => ob (look L t) fun v => ob (KI L l) fun vs => some (v :: vs)
  | .cell _ _ => none
def cD : List aa → aa
 | [v] => v
 | l => .tuple l
theorem vT {s : St} (f : Fr m n L h s) : ∀ {l : List ResultVar} {vs : List aa}, KI L l = some vs → ew P s l = some vs
 | [], vs, e => e
 | r :: l, vs, e => by
  cases r with
  | cell a t => cases e
  | tmp t =>
   simp only [KI] at e
   obtain ⟨v, e1, e2⟩ := ad.1 e
   obtain ⟨vs', e3, e4⟩ := ad.1 e2
   cases e4
   simp only [ew, vT f e3, obS, f.env t v e1]
theorem To.fn {fn : Func} {R : aa → Heap → Prop} {vs : List aa} {e : Ex} (he : e = .dw ∨ e = .ret) (hv : KI L fn.results.toList = some vs) (hr : R (cD vs) h) : To (M7 P fn R) e L h m n := by
 constructor
 intro s f
 refine ⟨he, f.defers, cD vs, ?_, by rw [f.heap]; exact hr⟩
 unfold kn
 rw [vT f hv, obS]
 cases vs with
 | nil => rfl
 | cons v l => cases l <;> rfl
theorem Fr.enter {args : List aa} {s : St} (hs : s = F [] (cg args 0) h m n) : Fr m n (cg args 0) h s := by
 subst hs
 refine ⟨fun i v hv => ?_, rfl, rfl, rfl, rfl, rfl⟩
 show assoc (cg args 0) .bad i = v
 generalize cg args 0 = l at hv
 induction l with
 | nil => cases hv
 | cons p l ih =>
  simp only [look] at hv
  show @Bool.rec (fun _ => aa) (assoc l .bad i) p.2 (Nat.beq p.1 i) = v
  cases hp : Nat.beq p.1 i with
  | true => rw [hp] at hv; exact Option.some.inj hv
  | false => rw [hp] at hv; exact ih hv
def MV : List aa → Option cj
 | [] => some []
 | [a] => some [(0, a)]
 | [a, b] => some [(0, a), (1, b)]
 | [a, b, c] => some [(0, a), (1, b), (2, c)]
 | [a, b, c, d] => some [(0, a), (1, b), (2, c), (3, d)]
 | [a, b, c, d, e] => some [(0, a), (1, b), (2, c), (3, d), (4, e)]
 | _ => none
theorem KW {args : List aa} {L : cj} (hn : MV args = some L) : cg args 0 = L := by
 unfold MV at hn
 split at hn <;> first | (cases hn; rfl) | cases hn
theorem Sp.of {f : Nat} {fn : Func} {c : Code} {args : List aa} {R : aa → Heap → Prop} (hK : K f args h = none) (hf : P.funcs[f]? = some fn) (hb : fn.body = some c) (hlt : Nat.blt f bd = true)
  (hm : Nat.lor (bB fn) (Nat.sub (Nat.pow 2 args.length) 1) = m) (hl : Nat.add args.length (Nat.sub fn.ntmps args.length) = n)
  (hn : MV args = some L) (hw : WC P K c L h m n (M7 P fn R)) : Sp P K f args h R := by
 rw [← KW hn] at hw
 obtain ⟨e, s', r, he, hd, v, hv, hr⟩ := hw.run _ (Fr.enter rfl)
 refine ⟨v, s'.heap, ?_, hr⟩
 refine tF.of_wp hK hf hb ?_ hm hl ⟨e, s', r, he, hd, hv, rfl⟩
 rw [eW] at hlt
 exact of_decide_eq_true hlt
theorem gK.sp {f : Nat} {args : List aa} {S : aa → Heap → Prop} {R : cj → Heap → Prop} (ho : QW P o L h f args) (hw : jA ops o L = some true) (hf : fits o.dst n = true) (hd : Sp P K f args h S) (hr : ∀ v h', S v h' → R (jI o.dst v L) h') : gK P K ops o L h m n R := by
 obtain ⟨v, h', d, sv⟩ := hd
 exact gK.call ho hw hf d (hr v h' sv)
end
end
end Go.HL
namespace Go.HL
open Go
noncomputable section
/-! ## Memories -/
def Wf (h : Heap) : Prop := ∀ k, h.next ≤ k → h.get k = none
structure Grow (h h' : Heap) : Prop where
 get : ∀ {k o}, h.get k = some o → h'.get k = some o
 next : h.next ≤ h'.next
theorem Grow.refl (h : Heap) : Grow h h := ⟨fun e => e, Nat.le_refl _⟩
theorem Grow.trans {a b c : Heap} (h : Grow a b) (g : Grow b c) : Grow a c := ⟨fun e => g.get (h.get e), Nat.le_trans h.next g.next⟩
structure Made (h : Heap) (k : Nat) (o : aG) (h' : Heap) : Prop where
 get : h'.get k = some o
 ext : Grow h h'
 fresh : h.get k = none
 wf : Wf h'
 le : h.next ≤ k
 lt : k < h'.next
 uR : ∀ j, j ≠ k → h'.get j = h.get j
theorem jL {h : Heap} (w : Wf h) (o : aG) : Made h h.next o (h.new o) := by
 have hf := w _ (Nat.le_refl _)
 refine ⟨by simp, ⟨fun {k o'} e => ?_, Nat.le_succ _⟩, hf, fun k hk => ?_, Nat.le_refl _, Nat.lt_succ_self _, fun j hj => by simp [hj]⟩
 ·rw [Heap.cF, if_neg]; exact e
  rintro rfl; rw [hf] at e; cases e
 ·rw [Heap.cF, if_neg (by rintro rfl; exact absurd hk (Nat.not_le.2 (Nat.lt_succ_self _)))]
  exact w k (Nat.le_trans (Nat.le_succ _) hk)
structure QT (h : Heap) (k : Nat) (o : aG) (h' : Heap) : Prop where
 get : h'.get k = some o
 uR : ∀ j, j ≠ k → h'.get j = h.get j
 next : h'.next = h.next
 wf : Wf h'
theorem oP {h : Heap} (w : Wf h) {k : Nat} (o : aG) (hk : k < h.next) : QT h k o (h.put k o) := by
 refine ⟨by simp, fun j hj => by simp [hj], rfl, fun j hj => ?_⟩
 have : h.next ≤ j := hj
 rw [Heap.bP, if_neg (by omega)]
 exact w j this
theorem Wf.lt {h : Heap} (w : Wf h) {k : Nat} {o : aG} (e : h.get k = some o) : k < h.next := Nat.lt_of_not_le fun hle => by rw [w k hle] at e; cases e
/-! ## Types -/
inductive TI where
 | bool
 | int (k : IntKind)
 | str
 | slice (e : Nat)
 | map (k e : Nat)
 | struct (fs : List (Nat × Nat))
 | array (n e : Nat)
 | ref
def kI : List Field → List (Nat × Nat) → Bool
 | [], [] => true
 | f :: l, p :: m => ae (Nat.beq f.offset p.1) (ae (Nat.beq f.type p.2) (kI l m) false) false
 | _, _ => false
def xF (P : Program) (t : Nat) : TI → Bool
 | .bool => match P.underlying t with | some .bool => true | _ => false
 | .int k => match P.underlying t with | some (.int j) => sameKind j k | _ => false
 | .str => match P.underlying t with | some .string => true | _ => false
 | .slice e => match P.underlying t with | some (.slice e') => ae (Nat.beq e' e) (match P.info? e with | some _ => true | none => false) false | _ => false
 | .map k e => match P.underlying t with | some (.map k' e') => ae (Nat.beq k' k) (Nat.beq e' e) false | _ => false
 | .struct l => match P.underlying t with | some (.struct fs) => kI fs.toList l | _ => false
 | .array n e => match P.underlying t with | some (.array n' e') => ae (Nat.beq n' n) (ae (Nat.beq e' e) (match P.info? e with | some _ => true | none => false) false) false | _ => false
 | .ref => match P.underlying t with | some d => ae (s6 d) false true | none => false
abbrev iO := List (Nat × TI × Nat)
def bH (P : Program) : iO → Bool
 | [] => true
 | p :: l => ae (xF P p.1 p.2.1) (ae (Nat.beq (P.cellsOf p.1) p.2.2) (bH P l) false) false
def bY : iO → Nat → Option (TI × Nat)
 | [], _ => none
 | p :: l, t => ae (Nat.beq p.1 t) (some p.2) (bY l t)
section
variable {P : Program} {aw : iO}
theorem cP (hT : bH P aw = true) {t : Nat} {i : TI} {n : Nat} (h : bY aw t = some (i, n)) : xF P t i = true ∧ P.cellsOf t = n := by
 induction aw with
 | nil => cases h
 | cons p l ih =>
  simp only [bH, bcFe] at hT
  obtain ⟨h1, h2, h3⟩ := hT
  simp only [bY] at h
  cases hb : Nat.beq p.1 t with
  | true =>
   rw [hb] at h
   have e := Nat.eq_of_beq_eq_true hb
   have e2 := Option.some.inj h
   rw [← e]
   rw [e2] at h1 h2
   exact ⟨h1, Nat.eq_of_beq_eq_true h2⟩
  | false => rw [hb] at h; exact ih h3 h
theorem cM (hT : bH P aw = true) {t e n : Nat} (h : bY aw t = some (.slice e, n)) : P.underlying t = some (.slice e) ∧ (∃ i, P.info? e = some i) := by
 have h1 := (cP hT h).1
 simp only [xF] at h1
 cases hu : P.underlying t with
 | none => rw [hu] at h1; cases h1
 | some d =>
  rw [hu] at h1
  cases d <;> simp only at h1 <;> try (cases h1; done)
  obtain ⟨a, b⟩ := bcFe.1 h1
  have a' := Nat.eq_of_beq_eq_true a
  subst a'
  cases hi : P.info? _ with
  | none => rw [hi] at b; cases b
  | some i => exact ⟨rfl, i, rfl⟩
theorem ml (hT : bH P aw = true) {t n : Nat} (h : bY aw t = some (.str, n)) : P.underlying t = some .string := by
 have h1 := (cP hT h).1
 simp only [xF] at h1
 cases hu : P.underlying t with
 | none => rw [hu] at h1; cases h1
 | some d => rw [hu] at h1; cases d <;> simp only at h1 <;> first | (cases h1; done) | rfl
theorem Ic (hT : bH P aw = true) {t n : Nat} (h : bY aw t = some (.bool, n)) : P.underlying t = some .bool := by
 have h1 := (cP hT h).1
 simp only [xF] at h1
 cases hu : P.underlying t with
 | none => rw [hu] at h1; cases h1
 | some d => rw [hu] at h1; cases d <;> simp only at h1 <;> first | (cases h1; done) | rfl
theorem uK (hT : bH P aw = true) {t n : Nat} {k : IntKind} (h : bY aw t = some (.int k, n)) : P.underlying t = some (.int k) := by
 have h1 := (cP hT h).1
 simp only [xF] at h1
 cases hu : P.underlying t with
 | none => rw [hu] at h1; cases h1
 | some d => rw [hu] at h1; cases d <;> simp only at h1 <;> first | (cases h1; done) | (rw [eV h1])
theorem qL (hT : bH P aw = true) {t k e n : Nat} (h : bY aw t = some (.map k e, n)) : P.underlying t = some (.map k e) := by
 have h1 := (cP hT h).1
 simp only [xF] at h1
 cases hu : P.underlying t with
 | none => rw [hu] at h1; cases h1
 | some d =>
  rw [hu] at h1
  cases d <;> simp only at h1 <;> try (cases h1; done)
  obtain ⟨a, b⟩ := bcFe.1 h1
  rw [Nat.eq_of_beq_eq_true a, Nat.eq_of_beq_eq_true b]
theorem ug {fs : List Field} : ∀ {l : List (Nat × Nat)}, kI fs l = true → ∀ {i : Nat} {p : Nat × Nat}, nth l i = some p → ∃ f, fs[i]? = some f ∧ f.offset = p.1 ∧ f.type = p.2 := by
 induction fs with
 | nil => intro l h i p hp; cases l with | nil => simp at hp | cons => cases h
 | cons f fs ih =>
  intro l h i p hp
  cases l with
  | nil => cases h
  | cons q l =>
   simp only [kI, bcFe] at h
   obtain ⟨h1, h2, h3⟩ := h
   cases i with
   | zero => simp at hp; subst hp; exact ⟨f, rfl, Nat.eq_of_beq_eq_true h1, Nat.eq_of_beq_eq_true h2⟩
   | succ i => simp at hp; simpa using ih h3 hp
theorem pS (hT : bH P aw = true) {t n : Nat} {l : List (Nat × Nat)} (h : bY aw t = some (.struct l, n)) : ∃ fs : Array Field, P.underlying t = some (.struct fs) ∧ kI fs.toList l = true := by
 have h1 := (cP hT h).1
 simp only [xF] at h1
 cases hu : P.underlying t with
 | none => rw [hu] at h1; cases h1
 | some d =>
  rw [hu] at h1
  cases d <;> simp only at h1 <;> try (cases h1; done)
  exact ⟨_, rfl, h1⟩
theorem oL (hT : bH P aw = true) {t n e q : Nat} (h : bY aw t = some (.array n e, q)) : P.underlying t = some (.array n e) ∧ ∃ i, P.info? e = some i := by
 have h1 := (cP hT h).1
 simp only [xF] at h1
 cases hu : P.underlying t with
 | none => rw [hu] at h1; cases h1
 | some d =>
  rw [hu] at h1
  cases d <;> simp only at h1 <;> try (cases h1; done)
  obtain ⟨a, b⟩ := bcFe.1 h1
  obtain ⟨b, c⟩ := bcFe.1 b
  refine ⟨by rw [Nat.eq_of_beq_eq_true a, Nat.eq_of_beq_eq_true b], ?_⟩
  cases hi : P.info? e with
  | none => rw [hi] at c; cases c
  | some i => exact ⟨i, rfl⟩
theorem KB (hT : bH P aw = true) {t q : Nat} (h : bY aw t = some (.ref, q)) : ∃ d, P.underlying t = some d ∧ s6 d = false := by
 have h1 := (cP hT h).1
 simp only [xF] at h1
 cases hu : P.underlying t with
 | none => rw [hu] at h1; cases h1
 | some d =>
  rw [hu] at h1
  simp only at h1
  refine ⟨d, rfl, ?_⟩
  cases hd : s6 d with
  | true => rw [hd] at h1; cases h1
  | false => rfl
def TI.agg : TI → Bool
 | .struct _ => true
 | .array _ _ => true
 | _ => false
theorem jd (hT : bH P aw = true) {t n : Nat} {i : TI} (h : bY aw t = some (i, n)) : gH P t = some i.agg := by
 cases i with
 | bool => simp only [gH, Ic hT h, obS]; rfl
 | int k => simp only [gH, uK hT h, obS]; rfl
 | str => simp only [gH, ml hT h, obS]; rfl
 | slice e => simp only [gH, (cM hT h).1, obS]; rfl
 | map k e => simp only [gH, qL hT h, obS]; rfl
 | struct l => obtain ⟨fs, hu, _⟩ := pS hT h; simp only [gH, hu, obS]; rfl
 | array n e => simp only [gH, (oL hT h).1, obS]; rfl
 | ref => obtain ⟨d, hu, hd⟩ := KB hT h; simp only [gH, hu, obS, hd]; rfl
end
/-! ## Values -/
section
variable {P : Program} {o : Oper} {L : cj} {h h' : Heap} {v : aa}
theorem cK.mk {op : Op} (ho : o.op = op) (hx : ∀ e : Env, fL L e → ∀ d t p a g, bS P (e.eval P) h ⟨d, op, t, p, a, g⟩ = some (.val v h')) : cK P o L h v h' := by
 intro e ha
 obtain ⟨d, op', t, p, a, g⟩ := o
 simp only at ho
 subst ho
 exact hx e ha d t p a g
theorem V.move {x : Operand} (ho : o.op = .move x) (hx : eS P L x = some v) : cK P o L h v h := cK.mk ho fun ev ha d ty ps aft g => by
 simp only [bS, evS ha hx]
theorem V.assign {x : Operand} (ho : o.op = .assign x) (hx : eS P L x = some v) : cK P o L h v h := cK.mk ho fun ev ha d ty ps aft g => by
 simp only [bS, evS ha hx]
theorem V.Gu {c x y : Operand} (ho : o.op = .pick c x y) (hc : eS P L c = some (.bool true)) (hx : eS P L x = some v) : cK P o L h v h := cK.mk ho fun ev ha d ty ps aft g => by
 simp only [bS, evS ha hc, evS ha hx, aa.isBool, obS, bcT]
theorem V.Dn {c x y : Operand} (ho : o.op = .pick c x y) (hc : eS P L c = some (.bool false)) (hy : eS P L y = some v) : cK P o L h v h := cK.mk ho fun ev ha d ty ps aft g => by
 simp only [bS, evS ha hc, evS ha hy, aa.isBool, obS, bcF]
theorem V.not_true {t : Nat} {x : Operand} (ho : o.op = .unOp .not t x) (hx : eS P L x = some (.bool true)) : cK P o L h (.bool false) h := cK.mk ho fun ev ha d ty ps aft g => by
 simp only [bS, evS ha hx, Ma, bcT]; rfl
theorem V.not_false {t : Nat} {x : Operand} (ho : o.op = .unOp .not t x) (hx : eS P L x = some (.bool false)) : cK P o L h (.bool true) h := cK.mk ho fun ev ha d ty ps aft g => by
 simp only [bS, evS ha hx, Ma, bcF]; rfl
theorem V.not {t : Nat} {x : Operand} {b : Bool} (ho : o.op = .unOp .not t x) (hx : eS P L x = some (.bool b)) : cK P o L h (.bool (!b)) h := cK.mk ho fun ev ha d ty ps aft g => by
 simp only [bS, evS ha hx, Ma]; cases b <;> rfl
theorem V.extract {x : Operand} {i : Nat} {l : List aa} (ho : o.op = .extract x i) (hx : eS P L x = some (.tuple l)) (hv : nth l i = some v) : cK P o L h v h := cK.mk ho fun ev ha d ty ps aft g => by
 simp only [bS, evS ha hx, aa.isTuple, obS, hv, HL.val]
/-! numbers -/
def P9 : BinOp → Int → Int → Option Bool
 | .eql, a, b => some (decide (a = b))
 | .neq, a, b => some (decide (a ≠ b))
 | .lss, a, b => some (decide (a < b))
 | .leq, a, b => some (decide (a ≤ b))
 | .gtr, a, b => some (decide (b < a))
 | .geq, a, b => some (decide (b ≤ a))
 | _, _, _ => none
theorem V.cmp {bo : BinOp} {t p : Nat} {x y : Operand} {k j : IntKind} {a b : Int} {r : Bool} (ho : o.op = .binOp bo t x y p) (hx : eS P L x = some (.int k a)) (hy : eS P L y = some (.int j b)) (hk : sameKind k j = true) (hr : P9 bo a b = some r) : cK P o L h (.bool r) h := cK.mk ho fun ev ha d ty ps aft g => by
 cases bo <;> simp only [P9] at hr <;> try (cases hr; done)
 all_goals cases hr; simp only [bS, evS ha hx, evS ha hy, kc, df, hk, bcT, jb, o8, qm, mI, HL.val, obS]
 by_cases hab : a = b <;> simp [hab]
theorem V.add {t p : Nat} {x y : Operand} {k j : IntKind} {a b c : Int} (ho : o.op = .binOp .add t x y p) (hx : eS P L x = some (.int k a)) (hy : eS P L y = some (.int j b)) (hk : sameKind k j = true) (hr : cx k (a + b) = c) : cK P o L h (.int k c) h := cK.mk ho fun ev ha d ty ps aft g => by
 simp only [bS, evS ha hx, evS ha hy, kc, df, hk, bcT, jb, HL.val, obS]
 rw [← hr]; rfl
theorem V.sub {t p : Nat} {x y : Operand} {k j : IntKind} {a b c : Int} (ho : o.op = .binOp .sub t x y p) (hx : eS P L x = some (.int k a)) (hy : eS P L y = some (.int j b)) (hk : sameKind k j = true) (hr : cx k (a - b) = c) : cK P o L h (.int k c) h := cK.mk ho fun ev ha d ty ps aft g => by
 simp only [bS, evS ha hx, evS ha hy, kc, df, hk, bcT, jb, HL.val, obS]
 rw [← hr]; rfl
theorem wI {n : Int} (h1 : -9223372036854775808 ≤ n) (h2 : n ≤ 9223372036854775807) : cx .i64 n = n := by
 unfold cx
 cases n with
 | ofNat n =>
  have : sY .i64 (.ofNat n) = true := by
   show Nat.ble n 9223372036854775807 = true
   rw [eX]; simp only [Int.ofNat_eq_natCast] at h2; exact decide_eq_true (by omega)
  rw [this]; rfl
 | negSucc n =>
  have : sY .i64 (.negSucc n) = true := by
   show ae (Nat.blt 3 (gZ .i64)) false (Nat.ble n 9223372036854775807) = true
   have : Nat.ble n 9223372036854775807 = true := by rw [eX]; exact decide_eq_true (by omega)
   rw [this]; rfl
  rw [this]; rfl
/-! strings -/
theorem V.Qt {t p : Nat} {x y : Operand} {n c m d : Nat} (ho : o.op = .binOp .eql t x y p) (hx : eS P L x = some (.str n c)) (hy : eS P L y = some (.str m d)) : cK P o L h (.bool (decide (n = m ∧ c = d))) h := cK.mk ho fun ev ha d ty ps aft g => by
 simp only [bS, evS ha hx, evS ha hy, kc, df, vz, HL.val, obS, vM, bD, bcE]
 by_cases h1 : n = m <;> simp [h1]
/-! memory -/
theorem bQ {k : Nat} {l : List aa} {e : Nat} {s r : Bool} (hg : h.get k = some (.cells l e s r)) : h.cells k = some (l, e, s, r) := by
 unfold Heap.cells; rw [hg]; rfl
theorem V.load {aw : iO} (hT : bH P aw = true) {t k off n : Nat} {x : Operand} {i : TI} {l : List aa} {e : Nat} {s r : Bool} (ho : o.op = .load t x) (ht : bY aw t = some (i, n)) (hi : i.agg = false) (hx : eS P L x = some (.ptr k off)) (hg : h.get k = some (.cells l e s r)) (hv : nth l off = some v) : cK P o L h v h := cK.mk ho fun ev ha d ty ps aft g => by
 simp only [bS, evS ha hx, aa.dI, obS, loadT, jd hT ht, hi, bcF, mZ, bQ hg, hv, HL.val]
structure Row (h : Heap) (k off : Nat) (l : List aa) : Prop where
 load : eh h k off l.length = some l
theorem Row.nth {k off : Nat} {l : List aa} (hr : Row h k off l) {j : Nat} (hv : nth l j = some v) : mZ h k (Nat.add off j) = some v := by
 have hr := hr.load
 unfold eh at hr
 obtain ⟨o, ho, e⟩ := ad.1 hr
 rw [bz, dr] at e
 split at e
 ·rename_i hle
  have e' := Option.some.inj e
  unfold mZ
  rw [ho, obS, bU]
  rw [bU] at hv
  have hj : j < l.length := (List.getElem?_eq_some_iff.1 hv).1
  rw [← e', List.getElem?_take, if_pos hj, List.getElem?_drop] at hv
  exact hv
 ·cases e
theorem V.Fe {aw : iO} (hT : bH P aw = true) {t k off j n : Nat} {x : Operand} {i : TI} {l : List aa} (ho : o.op = .load t x) (ht : bY aw t = some (i, n)) (hi : i.agg = false) (hx : eS P L x = some (.ptr k (Nat.add off j))) (hr : Row h k off l) (hv : nth l j = some v) : cK P o L h v h := cK.mk ho fun ev ha d ty ps aft g => by
 simp only [bS, evS ha hx, aa.dI, obS, loadT, jd hT ht, hi, bcF, hr.nth hv, HL.val]
theorem V.Ni {aw : iO} (hT : bH P aw = true) {t k off n : Nat} {x : Operand} {i : TI} {l : List aa} (ho : o.op = .load t x) (ht : bY aw t = some (i, n)) (hi : i.agg = false) (hx : eS P L x = some (.ptr k off)) (hr : Row h k off l) (hv : nth l 0 = some v) : cK P o L h v h := cK.mk ho fun ev ha d ty ps aft g => by
 have := hr.nth hv
 simp only [Nat.add_eq, Nat.add_zero] at this
 simp only [bS, evS ha hx, aa.dI, obS, loadT, jd hT ht, hi, bcF, this, HL.val]
theorem V.DO {aw : iO} (hT : bH P aw = true) {t k off n : Nat} {x : Operand} {i : TI} {l : List aa} (ho : o.op = .load t x) (ht : bY aw t = some (i, n)) (hi : i.agg = true) (hx : eS P L x = some (.ptr k off)) (hr : Row h k off l) (hl : Nat.beq l.length n = true) : cK P o L h (.agg l) h := cK.mk ho fun ev ha d ty ps aft g => by
 have hl' := Nat.eq_of_beq_eq_true hl
 have hr := hr.load
 rw [hl'] at hr
 simp only [bS, evS ha hx, aa.dI, obS, loadT, jd hT ht, hi, bcT, (cP hT ht).2, hr, HL.val]
theorem V.fieldAddr {aw : iO} (hT : bH P aw = true) {t k off f n m : Nat} {x : Operand} {fs : List (Nat × Nat)} {q : Nat × Nat} {i : TI} (ho : o.op = .fieldAddr t x f) (ht : bY aw t = some (.struct fs, n)) (hf : nth fs f = some q) (hq : bY aw q.2 = some (i, m)) (hm : Nat.beq m 0 = false) (hx : eS P L x = some (.ptr k off)) : cK P o L h (.ptr k (Nat.add off q.1)) h := cK.mk ho fun ev ha d ty ps aft g => by
 obtain ⟨fl, hu, hb⟩ := pS hT ht
 obtain ⟨fd, h1, h2, h3⟩ := ug hb hf
 have h1' : fl[f]? = some fd := by simpa using h1
 simp only [bS, hu, evS ha hx, aa.dI, obS, h1', h3, (cP hT hq).2, hm, bcF, h2]
theorem V.indexAddr {aw : iO} (hT : bH P aw = true) {t e n k off len w : Nat} {cap : Option Nat} {x y : Operand} {kd : IntKind} {j : Nat} {i : TI} (ho : o.op = .indexAddr t x y) (ht : bY aw t = some (.slice e, n)) (he : bY aw e = some (i, w)) (hx : eS P L x = some (.slice k off len cap)) (hy : eS P L y = some (.int kd (.ofNat j))) (hj : j < len) : cK P o L h (.ptr k (Nat.add off (Nat.mul j w))) h := cK.mk ho fun ev ha d ty ps aft g => by
 obtain ⟨hu, inf, hi⟩ := cM hT ht
 have h1 : cw P t = true := by simp only [cw, hu, hi]
 have h2 : Nat.blt j len = true := by rw [eW]; exact decide_eq_true hj
 simp only [bS, h1, bcT, evS ha hy, aa.isNat, tY, obS, hu, evS ha hx, h2, (cP hT he).2]
theorem V.Ns {aw : iO} (hT : bH P aw = true) {t n m c : Nat} {x y : Operand} {kd : IntKind} {j : Nat} (ho : o.op = .index t x y) (ht : bY aw t = some (.str, n)) (hx : eS P L x = some (.str m c)) (hy : eS P L y = some (.int kd (.ofNat j))) (hj : j < m) : cK P o L h (.int .u8 (Int.ofNat (gm m c j))) h := cK.mk ho fun ev ha d ty ps aft g => by
 have hu := ml hT ht
 have h1 : cw P t = true := by simp only [cw, hu]
 have h2 : Nat.blt j m = true := by rw [eW]; exact decide_eq_true hj
 simp only [bS, h1, bcT, evS ha hy, aa.isNat, tY, obS, hu, evS ha hx, h2]
/-! lengths -/
def dO : aa → Option Nat
 | .aC => some 0
 | .slice _ _ n _ => some n
 | .rest _ => some 0
 | .empty => some 0
 | _ => none
theorem V.len {aw : iO} (hT : bH P aw = true) {c : Call} {x : Operand} {t e n m : Nat} {s : aa} (ho : o.op = .call c) (hc : c.callee = .builtin .len) (hx : c.args = #[x]) (hts : c.argTypes[0]? = some t) (ht : bY aw t = some (.slice e, n)) (hs : eS P L x = some s) (hm : dO s = some m) : cK P o L h (.int .i64 (m : Int)) h := cK.mk ho fun ev ha d ty ps aft g => by
 have hu := (cM hT ht).1
 simp only [bS, hc, hx, List.map_cons, List.map_nil, dL, hts, BD, hu, evS ha hs]
 cases s <;> simp only [dO] at hm <;> try (cases hm; done)
 all_goals cases hm; rfl
theorem V.Qq {aw : iO} (hT : bH P aw = true) {c : Call} {x : Operand} {t n m cc : Nat} (ho : o.op = .call c) (hc : c.callee = .builtin .len) (hx : c.args = #[x]) (hts : c.argTypes[0]? = some t) (ht : bY aw t = some (.str, n)) (hs : eS P L x = some (.str m cc)) : cK P o L h (.int .i64 (m : Int)) h := cK.mk ho fun ev ha d ty ps aft g => by
 have hu := ml hT ht
 simp only [bS, hc, hx, List.map_cons, List.map_nil, dL, hts, BD, hu, evS ha hs]
 rfl
/-! i32 to i64 -/
end
end
end Go.HL
namespace Go.HL
open Go
noncomputable section
section
variable {P : Program} {K : ah} {ops : Array Oper} {o : Oper} {L : cj} {h : Heap} {m n : Nat} {R : cj → Heap → Prop} {aw : iO}
theorem gK.bool {b : Bool} (hv : cK P o L h (.bool b) h) (hw : jA ops o L = some true) (hf : fits o.dst n = true) (h1 : b = true → R (jI o.dst (.bool true) L) h) (h0 : b = false → R (jI o.dst (.bool false) L) h) : gK P K ops o L h m n R := by
 cases b with
 | true => exact gK.val hv hw hf (h1 rfl)
 | false => exact gK.val hv hw hf (h0 rfl)
/-! ## New objects -/
def FR (P : Program) (o : Oper) (L : cj) (h : Heap) (f : Nat → aa) (ob : aG) : Prop := ∀ e : Env, fL L e → bS P (e.eval P) h o = some (.val (f h.next) (h.new ob))
theorem FR.mk {f : Nat → aa} {obj : aG} {op : Op} (ho : o.op = op) (hx : ∀ e : Env, fL L e → ∀ d t p a g, bS P (e.eval P) h ⟨d, op, t, p, a, g⟩ = some (.val (f h.next) (h.new obj))) : FR P o L h f obj := by
 intro e ha
 obtain ⟨d, op', t, p, a, g⟩ := o
 simp only at ho
 subst ho
 exact hx e ha d t p a g
theorem gK.made {f : Nat → aa} {obj : aG} (hm : FR P o L h f obj) (hw : jA ops o L = some true) (hf : fits o.dst n = true) (w : Wf h) (hr : ∀ k h', Made h k obj h' → R (jI o.dst (f k) L) h') : gK P K ops o L h m n R :=
 gK.val (fun e ha => hm e ha) hw hf (hr _ _ (jL w obj))
theorem M.box {e : Nat} {x : Operand} {v : aa} {l : List aa} (ho : o.op = .box e x) (hx : eS P L x = some v) (hl : v.cells = some l) : FR P o L h (fun k => .ptr k 0) (.cells l e false true) := FR.mk ho fun ev ha d ty ps aft g => by
 simp only [bS, evS ha hx, hl, obS]
theorem M.alloc {e : Nat} {z : List aa} (ho : o.op = .alloc e) (hz : ag P e = some z) : FR P o L h (fun k => .ptr k 0) (.cells z e false true) := FR.mk ho fun ev ha d ty ps aft g => by
 simp only [bS, hz, obS]
theorem M.map {t kt e q : Nat} (hT : bH P aw = true) (ho : o.op = .makeMap t none) (ht : bY aw t = some (.map kt e, q)) : FR P o L h (fun k => .map k) (.map [] 0 true) := FR.mk ho fun ev ha d ty ps aft g => by
 simp only [bS, qL hT ht]
theorem M.slice {t e q w len cap bs : Nat} {i : TI} {kd kd' : IntKind} {x y : Operand} {z : List aa} (hT : bH P aw = true) (ho : o.op = .makeSlice t x y) (ht : bY aw t = some (.slice e, q)) (he : bY aw e = some (i, w)) (hx : eS P L x = some (.int kd (.ofNat len))) (hy : eS P L y = some (.int kd' (.ofNat cap))) (hle : len ≤ cap)
  (hb : P.bytesOf e = bs) (h1 : bs * cap ≤ fC) (h2 : cap ≤ fC) (hz : ag P e = some z) (hzl : Nat.beq z.length w = true) : FR P o L h (fun k => .slice k 0 len (some cap)) (.cells (gp cap z) e false true) := FR.mk ho fun ev ha d ty ps aft g => by
 have a1 : Nat.ble len cap = true := by rw [eX]; exact decide_eq_true hle
 have a2 : Nat.ble (Nat.mul bs cap) fC = true := by rw [eX]; exact decide_eq_true h1
 have a3 : Nat.ble cap fC = true := by rw [eX]; exact decide_eq_true h2
 simp only [bS, (cM hT ht).1, evS ha hx, evS ha hy, aa.isNat, tY, obS, a1, bcT, hb, a2, a3, hz, (cP hT he).2, hzl]
def wT (P : Program) (L : cj) (w : Nat) : List (Nat × Operand) → Option (List (Nat × Nat × aa))
 | [] => some []
 | p :: l => ob (eS P L p.2) fun v => ob (wT P L w l) fun r => some ((Nat.mul p.1 w, w, v) :: r)
theorem oj {w : Nat} {ev : Env} (ha : fL L ev) : ∀ {l : List (Nat × Operand)} {r : List (Nat × Nat × aa)}, wT P L w l = some r → l.map (fun p => (Nat.mul p.1 w, w, ev.eval P p.2)) = r
 | [], r, e => by cases e; rfl
 | p :: l, r, e => by
  simp only [wT] at e
  obtain ⟨v, e1, e2⟩ := ad.1 e
  obtain ⟨r', e3, e4⟩ := ad.1 e2
  cases e4
  simp only [List.map_cons, evS ha e1, oj ha e3]
theorem M.buildSlice {t e q w len : Nat} {i : TI} {parts : Array (Nat × Operand)} {ps : List (Nat × Nat × aa)} {z cs : List aa} (hT : bH P aw = true) (ho : o.op = .buildSlice t len parts) (ht : bY aw t = some (.slice e, q)) (he : bY aw e = some (i, w))
  (hle : Nat.ble (Nat.mul len w) 16777216 = true) (hz : ag P e = some z) (hzl : Nat.beq z.length w = true) (hp : wT P L w parts.toList = some ps) (hc : eI ps (gp len z) = some cs) : FR P o L h (fun k => .slice k 0 len (some len)) (.cells cs e false true) := FR.mk ho fun ev ha d ty ps' aft g => by
 simp only [bS, (cM hT ht).1, (cP hT he).2, hle, bcT, hz, obS, hzl, oj ha hp, hc]
/-! ## Changes -/
end
end
end Go.HL
namespace Go.HL
open Go
noncomputable section
section
variable {P : Program} {K : ah} {ops : Array Oper} {o : Oper} {L : cj} {h h' : Heap} {m n : Nat} {R : cj → Heap → Prop} {aw : iO}
def az (P : Program) (f : Nat) : Prop := ∃ fn c, P.funcs[f]? = some fn ∧ fn.body = some c ∧ (fn.name == "runtime.NumGoroutine") = false ∧ Nat.blt f bd = true
def oA (P : Program) (L : cj) : List Operand → Option (List aa)
 | [] => some []
 | x :: l => ob (eS P L x) fun v => ob (oA P L l) fun vs => some (v :: vs)
theorem uw {ev : Env} (ha : fL L ev) : ∀ {l : List Operand} {vs : List aa}, oA P L l = some vs → l.map (ev.eval P) = vs
 | [], vs, e => by cases e; rfl
 | x :: l, vs, e => by
  simp only [oA] at e
  obtain ⟨v, e1, e2⟩ := ad.1 e
  obtain ⟨r, e3, e4⟩ := ad.1 e2
  cases e4
  simp only [List.map_cons, evS ha e1, uw ha e3]
theorem C.call {c : Call} {x : Operand} {f : Nat} {args : List aa} (ho : o.op = .call c) (hc : c.callee = .value x) (hx : eS P L x = some (.func f [] [])) (ha : oA P L c.args.toList = some args) (hf : az P f) : QW P o L h f args := by
 refine ⟨fun ev hag => ?_, hf.elim fun _ ⟨_, _, _, _, h4⟩ => h4⟩
 obtain ⟨d, op, ty, ps, aft, g⟩ := o
 simp only at ho
 subst ho
 obtain ⟨fn, cd, h1, h2, h3, h4⟩ := hf
 simp only [bS, hc, evS hag hx, uw hag ha, pM, h1, h2, obS, h3, bcF, h4, bcT, List.nil_append, List.append_nil]
theorem Row.grow {k off : Nat} {l : List aa} (g : Grow h h') (hr : Row h k off l) : Row h' k off l := by
 have hr := hr.load
 refine ⟨?_⟩
 unfold eh at hr ⊢
 obtain ⟨o, ho, e⟩ := ad.1 hr
 have := bQ (g.get (lZ ho))
 rw [this, obS]
 exact e
def sW : aa → Option Nat
 | .slice k _ _ _ => some k
 | _ => none
theorem Row.ji {k off : Nat} {l : List aa} (e : h'.get k = h.get k) (hr : Row h k off l) : Row h' k off l := by
 have hr := hr.load
 refine ⟨?_⟩
 unfold eh Heap.cells at hr ⊢
 rw [e]; exact hr
structure mS (h : Heap) (v : aa) (w : Nat) (rows : List (List aa)) : Prop where
 len : dO v = some rows.length
 row : ∀ i r, rows[i]? = some r → ∃ k off cap, v = .slice k off rows.length cap ∧ Row h k (Nat.add off (Nat.mul i w)) r
theorem mS.grow {v : aa} {w : Nat} {rows : List (List aa)} (g : Grow h h') (s : mS h v w rows) : mS h' v w rows :=
 ⟨s.1, fun i r hr => let ⟨k, off, cap, e, hrow⟩ := s.2 i r hr; ⟨k, off, cap, e, hrow.grow g⟩⟩
end
end
end Go.HL
