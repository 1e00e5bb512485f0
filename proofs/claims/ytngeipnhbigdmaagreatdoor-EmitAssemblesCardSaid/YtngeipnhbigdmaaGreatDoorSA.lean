/- Runs of HL with an argument that is not closed: rules by code, region, operation. No statement of the seat stands here. -/
import Derived.Test.YtngeipnhbigdmaaGreatDoorHlG
set_option linter.unusedVariables false
set_option linter.unusedSimpArgs false
namespace Go.HL
open Go
section
variable (P : Program) (K : ai)
def Runs (c : Code) (s : St) (e : Ex) (s' : St) : Prop := ∃ n, ∀ m, n ≤ m → jx P K m c s = some (e, s')
def s7 (f : Nat) (args : List ad) (h : Heap) (v : ad) (h' : Heap) : Prop := ∃ n, ∀ m, n ≤ m → eG K (cC P (jx P K m)) f args h = some (.ret v, h')
def Ig (ops : Array Oper) (l : List Oper) (s : St) (s' : St) : Prop := ∃ n, ∀ m, n ≤ m → dR P (eG K (cC P (jx P K m))) ops l s = some (.dh, s')
end
section
variable {P : Program} {K : ai} {s s1 s2 s' : St} {e : Ex} {a b c : Code}
theorem Runs.skip : Runs P K .skip s .dh s := ⟨1, fun m hm => by obtain ⟨k, rfl⟩ : ∃ k, m = k + 1 := ⟨m - 1, by omega⟩; rfl⟩
theorem Runs.ret : Runs P K .ret s .ret s := ⟨1, fun m hm => by obtain ⟨k, rfl⟩ : ∃ k, m = k + 1 := ⟨m - 1, by omega⟩; rfl⟩
theorem Runs.exit {id : Nat} : Runs P K (.exit id) s (.exit id) s := ⟨1, fun m hm => by obtain ⟨k, rfl⟩ : ∃ k, m = k + 1 := ⟨m - 1, by omega⟩; rfl⟩
theorem c8 (m : Nat) (c : Code) (s : St) : jx P K (m + 1) c s = cb P K (jx P K m) c s := rfl
theorem Runs.seq (h1 : Runs P K a s .dh s1) (h2 : Runs P K b s1 e s2) : Runs P K (.seq a b) s e s2 := by
 obtain ⟨n1, g1⟩ := h1
 obtain ⟨n2, g2⟩ := h2
 refine ⟨max n1 n2 + 1, fun m hm => ?_⟩
 obtain ⟨k, rfl⟩ : ∃ k, m = k + 1 := ⟨m - 1, by omega⟩
 rw [c8, cb, g1 k (by omega), obS]
 exact g2 k (by omega)
theorem Runs.Il (h1 : Runs P K a s .ret s1) : Runs P K (.seq a b) s .ret s1 := by
 obtain ⟨n1, g1⟩ := h1
 refine ⟨n1 + 1, fun m hm => ?_⟩
 obtain ⟨k, rfl⟩ : ∃ k, m = k + 1 := ⟨m - 1, by omega⟩
 rw [c8, cb, g1 k (by omega), obS]
theorem Runs.Gg {id : Nat} (h1 : Runs P K a s (.exit id) s1) : Runs P K (.seq a b) s (.exit id) s1 := by
 obtain ⟨n1, g1⟩ := h1
 refine ⟨n1 + 1, fun m hm => ?_⟩
 obtain ⟨k, rfl⟩ : ∃ k, m = k + 1 := ⟨m - 1, by omega⟩
 rw [c8, cb, g1 k (by omega), obS]
theorem Runs.cond {x : Operand} {t : Bool} (hx : s.env.eval P x = .bool t) (h : Runs P K (bif t then a else b) s e s') : Runs P K (.cond x a b) s e s' := by
 obtain ⟨n1, g1⟩ := h
 refine ⟨n1 + 1, fun m hm => ?_⟩
 obtain ⟨k, rfl⟩ : ∃ k, m = k + 1 := ⟨m - 1, by omega⟩
 rw [c8, cb, hx]
 have := g1 k (by omega)
 cases t <;> exact this
theorem Runs.block {id : Nat} (h : Runs P K a s .dh s') : Runs P K (.block id a) s .dh s' := by
 obtain ⟨n1, g1⟩ := h
 refine ⟨n1 + 1, fun m hm => ?_⟩
 obtain ⟨k, rfl⟩ : ∃ k, m = k + 1 := ⟨m - 1, by omega⟩
 rw [c8, cb, g1 k (by omega), obS]
theorem Runs.FN {id : Nat} (h : Runs P K a s .ret s') : Runs P K (.block id a) s .ret s' := by
 obtain ⟨n1, g1⟩ := h
 refine ⟨n1 + 1, fun m hm => ?_⟩
 obtain ⟨k, rfl⟩ : ∃ k, m = k + 1 := ⟨m - 1, by omega⟩
 rw [c8, cb, g1 k (by omega), obS]
theorem Runs.CR {id : Nat} (h : Runs P K a s (.exit id) s') : Runs P K (.block id a) s .dh s' := by
 obtain ⟨n1, g1⟩ := h
 refine ⟨n1 + 1, fun m hm => ?_⟩
 obtain ⟨k, rfl⟩ : ∃ k, m = k + 1 := ⟨m - 1, by omega⟩
 rw [c8, cb, g1 k (by omega), obS]
 simp
theorem Runs.CQ {id j : Nat} (hj : j ≠ id) (h : Runs P K a s (.exit j) s') : Runs P K (.block id a) s (.exit j) s' := by
 obtain ⟨n1, g1⟩ := h
 refine ⟨n1 + 1, fun m hm => ?_⟩
 obtain ⟨k, rfl⟩ : ∃ k, m = k + 1 := ⟨m - 1, by omega⟩
 rw [c8, cb, g1 k (by omega), obS]
 simp [bm, hj]
theorem Runs.loop (h1 : Runs P K a s .dh s1) (h2 : Runs P K (.loop a) s1 e s2) : Runs P K (.loop a) s e s2 := by
 obtain ⟨n1, g1⟩ := h1
 obtain ⟨n2, g2⟩ := h2
 refine ⟨max n1 n2 + 1, fun m hm => ?_⟩
 obtain ⟨k, rfl⟩ : ∃ k, m = k + 1 := ⟨m - 1, by omega⟩
 rw [c8, cb, g1 k (by omega), obS]
 exact g2 k (by omega)
theorem Runs.EP {id : Nat} (h1 : Runs P K a s (.exit id) s1) : Runs P K (.loop a) s (.exit id) s1 := by
 obtain ⟨n1, g1⟩ := h1
 refine ⟨n1 + 1, fun m hm => ?_⟩
 obtain ⟨k, rfl⟩ : ∃ k, m = k + 1 := ⟨m - 1, by omega⟩
 rw [c8, cb, g1 k (by omega), obS]
theorem Runs.GW (h1 : Runs P K a s .ret s1) : Runs P K (.loop a) s .ret s1 := by
 obtain ⟨n1, g1⟩ := h1
 refine ⟨n1 + 1, fun m hm => ?_⟩
 obtain ⟨k, rfl⟩ : ∃ k, m = k + 1 := ⟨m - 1, by omega⟩
 rw [c8, cb, g1 k (by omega), obS]
theorem Runs.region {id : Nat} {ops : Array Oper} (hp : s.bV = .none) (h : Ig P K ops ops.toList s s1) (hf : eP (.dh, s1) = some (.dh, s2)) : Runs P K (.region id ops false) s .dh s2 := by
 obtain ⟨n1, g1⟩ := h
 refine ⟨n1 + 1, fun m hm => ?_⟩
 obtain ⟨k, rfl⟩ : ∃ k, m = k + 1 := ⟨m - 1, by omega⟩
 have hcf : iS s.bV (eG K (cC P (jx P K k))) = eG K (cC P (jx P K k)) := by rw [hp]; rfl
 rw [c8, cb, bcF, hcf, g1 k (by omega), obS]
 exact hf
variable {ops : Array Oper} {o : Oper} {l : List Oper}
theorem Ig.nil : Ig P K ops [] s s := ⟨0, fun m _ => rfl⟩
theorem Ig.val {v : ad} {h' : Heap} (hg : bC ops o s.env = some true) (hf : fits o.dst s.bX = true) (ho : bO P (s.env.eval P) s.heap o = some (.val v h')) (hr : Ig P K ops l (s.with o.dst v h') s') : Ig P K ops (o :: l) s s' := by
 obtain ⟨n, g⟩ := hr
 refine ⟨n, fun m hm => ?_⟩
 simp only [dR, fm, hg, obS, hf, bcT, ho, bu, force_eq]
 exact g m hm
end
end Go.HL
namespace Go.HL
open Go
section
variable {P : Program} {K : ai}
theorem s7.intro {f : Nat} {fn : Func} {c : Code} {args : List ad} {h : Heap} {v : ad} {s' : St} {e : Ex} (hK : K f args h = none) (hf : P.funcs[f]? = some fn) (hb : fn.body = some c) (hlt : f < b7)
  (hr : Runs P K c (gh fn args h .none) e s') (he : e = .dh ∨ e = .ret) (hd : s'.defers = []) (hv : jQ P fn s' = some v) : s7 P K f args h v s'.heap := by
 obtain ⟨n, g⟩ := hr
 refine ⟨n, fun m hm => ?_⟩
 have h1 : Nat.blt f b7 = true := by rw [fe]; exact decide_eq_true hlt
 have h2 : me P (jx P K m) f args h = some (.ret v, s'.heap) := by
  simp only [me, hf, obS, hb, g m hm]
  rcases he with rfl | rfl <;> simp only [hd, fZ, hv, obS]
 simp only [eG, hK, cC, h1, bcT, h2]
end
end Go.HL
namespace Go.HL
open Go
noncomputable section
abbrev c6 := List (Nat × ad)
abbrev F (loc vars : c6) (h : Heap) (m n : Nat) : St := ⟨⟨loc, vars⟩, h, [], .none, m, n⟩
def nr (mask : Nat) : c6 → c6 → c6
 | [], vars => vars
 | p :: l, vars => ae (bit mask p.1) (er (nr mask l vars) p.1 p.2 id) (nr mask l vars)
theorem ui {β : Type} (d : Nat) (v : ad) : ∀ (l : c6) (k : c6 → β), er l d v k = k (er l d v id)
 | [], k => rfl
 | p :: l, k => by
  have h1 : ∀ {γ : Type} (k : c6 → γ), er (p :: l) d v k = @Bool.rec (fun _ => γ) (er l d v fun r => k (p :: r)) (k ((d, v) :: l)) (Nat.beq p.1 d) := fun _ => rfl
  rw [h1, h1, ui d v l (fun r => k (p :: r)), ui d v l (fun r => id (p :: r))]
  cases Nat.beq p.1 d <;> rfl
theorem At {β : Type} (mask : Nat) : ∀ (l vars : c6) (k : c6 → β), fB mask l vars k = k (nr mask l vars)
 | [], _, _ => rfl
 | p :: l, vars, k => by
  simp only [fB, nr]
  rw [At mask l vars]
  cases bit mask p.1 with
  | true => simp only [bcT]; exact ui _ _ _ _
  | false => rfl
section
variable (P : Program) (K : ai)
def Wp (c : Code) (s : St) (Q : Ex → St → Prop) : Prop := ∃ e s', Runs P K c s e s' ∧ Q e s'
def I5 (ops : Array Oper) (l : List Oper) (s : St) (Q : St → Prop) : Prop := ∃ s', Ig P K ops l s s' ∧ Q s'
end
section
variable {P : Program} {K : ai} {Q : Ex → St → Prop} {s : St} {a b c : Code} {loc vars : c6} {h : Heap} {m n : Nat}
def eb (P : Program) (K : ai) (b : Code) (Q : Ex → St → Prop) : Ex → St → Prop
 | .dh, s => Wp P K b s Q
 | e, s => Q e s
theorem Wp.seq (h : Wp P K a s (eb P K b Q)) : Wp P K (.seq a b) s Q := by
 obtain ⟨e, s1, h1, h2⟩ := h
 cases e with
 | dh => obtain ⟨e2, s2, g1, g2⟩ := h2; exact ⟨e2, s2, h1.seq g1, g2⟩
 | exit id => exact ⟨_, s1, h1.Gg, h2⟩
 | ret => exact ⟨_, s1, h1.Il, h2⟩
 | bV v =>
  refine ⟨_, s1, ?_, h2⟩
  obtain ⟨n1, g1⟩ := h1
  refine ⟨n1 + 1, fun m hm => ?_⟩
  obtain ⟨k, rfl⟩ : ∃ k, m = k + 1 := ⟨m - 1, by omega⟩
  rw [c8, cb, g1 k (by omega), obS]
theorem Wp.skip (h : Q .dh s) : Wp P K .skip s Q := ⟨_, _, .skip, h⟩
theorem Wp.ret (h : Q .ret s) : Wp P K .ret s Q := ⟨_, _, .ret, h⟩
theorem Wp.exit {id : Nat} (h : Q (.exit id) s) : Wp P K (.exit id) s Q := ⟨_, _, .exit, h⟩
theorem Wp.cond {x : Operand} {t : Bool} (hx : s.env.eval P x = .bool t) (h1 : t = true → Wp P K a s Q) (h2 : t = false → Wp P K b s Q) : Wp P K (.cond x a b) s Q := by
 cases t with
 | true => obtain ⟨e, s', r, q⟩ := h1 rfl; exact ⟨e, s', .cond hx r, q⟩
 | false => obtain ⟨e, s', r, q⟩ := h2 rfl; exact ⟨e, s', .cond hx r, q⟩
def dV (id : Nat) (Q : Ex → St → Prop) : Ex → St → Prop
 | .exit j, s => if j = id then Q .dh s else Q (.exit j) s
 | e, s => Q e s
theorem Wp.block {id : Nat} (h : Wp P K a s (dV id Q)) : Wp P K (.block id a) s Q := by
 obtain ⟨e, s1, h1, h2⟩ := h
 cases e with
 | dh => exact ⟨_, _, h1.block, h2⟩
 | ret => exact ⟨_, _, h1.FN, h2⟩
 | exit j =>
  have h3 : if j = id then Q .dh s1 else Q (.exit j) s1 := h2
  by_cases hj : j = id
  ·rw [if_pos hj] at h3; subst hj; exact ⟨_, _, h1.CR, h3⟩
  ·rw [if_neg hj] at h3; exact ⟨_, _, h1.CQ hj, h3⟩
 | bV v =>
  refine ⟨_, s1, ?_, h2⟩
  obtain ⟨n1, g1⟩ := h1
  refine ⟨n1 + 1, fun m hm => ?_⟩
  obtain ⟨k, rfl⟩ : ∃ k, m = k + 1 := ⟨m - 1, by omega⟩
  rw [c8, cb, g1 k (by omega), obS]
theorem Wp.loop (h : Wp P K a s (eb P K (.loop a) Q)) : Wp P K (.loop a) s Q := by
 obtain ⟨e, s1, h1, h2⟩ := h
 cases e with
 | dh => obtain ⟨e2, s2, g1, g2⟩ := h2; exact ⟨e2, s2, h1.loop g1, g2⟩
 | exit id => exact ⟨_, s1, h1.EP, h2⟩
 | ret => exact ⟨_, s1, h1.GW, h2⟩
 | bV v =>
  refine ⟨_, s1, ?_, h2⟩
  obtain ⟨n1, g1⟩ := h1
  refine ⟨n1 + 1, fun m hm => ?_⟩
  obtain ⟨k, rfl⟩ : ∃ k, m = k + 1 := ⟨m - 1, by omega⟩
  rw [c8, cb, g1 k (by omega), obS]
/-! ## Operations -/
variable {ops : Array Oper} {o : Oper} {l : List Oper} {W : St → Prop}
theorem I5.nil (h : W s) : I5 P K ops [] s W := ⟨s, .nil, h⟩
def jj (d : Option Nat) (v : ad) (loc : c6) : c6 := match d with
 | none => loc
 | some d => (d, v) :: loc
theorem Hw (d : Option Nat) (v : ad) : (⟨loc, vars⟩ : Env).put d v = ⟨jj d v loc, vars⟩ := by cases d <;> rfl
theorem I5.val {v : ad} {h' : Heap} (hg : bC ops o ⟨loc, vars⟩ = some true) (hf : fits o.dst n = true) (ho : bO P (Env.eval P ⟨loc, vars⟩) h o = some (.val v h')) (hr : I5 P K ops l (F (jj o.dst v loc) vars h' m n) W) :
  I5 P K ops (o :: l) (F loc vars h m n) W := by
 obtain ⟨s', r, q⟩ := hr
 refine ⟨s', Ig.val hg hf ho ?_, q⟩
 show Ig P K ops l ⟨(⟨loc, vars⟩ : Env).put o.dst v, h', [], .none, m, n⟩ s'
 rw [Hw]; exact r
theorem s7.of_wp {f : Nat} {fn : Func} {c : Code} {args : List ad} {v : ad} {h' : Heap} {mk bX : Nat} (hK : K f args h = none) (hf : P.funcs[f]? = some fn) (hb : fn.body = some c) (hlt : f < b7)
  (hm : Nat.lor (jm fn) (Nat.sub (Nat.pow 2 args.length) 1) = mk) (hl : Nat.add args.length (Nat.sub fn.ntmps args.length) = bX)
  (hw : Wp P K c (F [] (ck args 0) h mk bX) fun e s' => (e = .dh ∨ e = .ret) ∧ s'.defers = [] ∧ jQ P fn s' = some v ∧ s'.heap = h') : s7 P K f args h v h' := by
 obtain ⟨e, s', r, he, hd, hv, rfl⟩ := hw
 refine s7.intro hK hf hb hlt (e := e) (s' := s') ?_ he hd hv
 have : gh fn args h .none = F [] (ck args 0) h mk bX := by
  unfold gh; rw [hm, hl]
 rw [this]; exact r
end
end
end Go.HL
namespace Go.HL
open Go
noncomputable section
def look : c6 → Nat → Option ad
 | [], _ => none
 | (j, v) :: l, i => ae (Nat.beq j i) (some v) (look l i)
def fu (L : c6) (e : Env) : Prop := ∀ i v, look L i = some v → e.get i = v
structure Fr (m n : Nat) (L : c6) (h : Heap) (s : St) : Prop where
 env : fu L s.env
 heap : s.heap = h
 defers : s.defers = []
 bV : s.bV = .none
 mask : s.mask = m
 bX : s.bX = n
def eI (P : Program) (L : c6) : Operand → Option ad
 | .tmp t => look L t
 | .const v => ofValue v
 | .global g => ae (Nat.blt g P.globals.size) (some (.ptr g 0)) none
 | .func f => some (.func f [] [])
theorem evS {P : Program} {L : c6} {e : Env} (ha : fu L e) {x : Operand} {v : ad} (h : eI P L x = some v) : e.eval P x = v := by
 cases x with
 | tmp t => exact ha t v h
 | const c => show vF c = v; unfold vF; rw [show ofValue c = some v from h]
 | global g =>
  have h' : ae (Nat.blt g P.globals.size) (some (ad.ptr g 0)) none = some v := h
  show ae (Nat.blt g P.globals.size) (ad.ptr g 0) .bad = v
  cases hb : Nat.blt g P.globals.size <;> rw [hb] at h'
  ·cases h'
  ·exact Option.some.inj h'
 | func f => exact Option.some.inj h
theorem fu.cons {L : c6} {e : Env} (ha : fu L e) (d : Nat) (v : ad) : fu ((d, v) :: L) (e.put (some d) v) := by
 intro i w hw
 show vX ((d, v) :: e.loc) (assoc e.vars .bad i) i = w
 have h' : ae (Nat.beq d i) (some v) (look L i) = some w := hw
 show @Bool.rec (fun _ => ad) _ v (Nat.beq d i) = w
 cases hb : Nat.beq d i <;> rw [hb] at h'
 ·exact ha i w h'
 ·exact Option.some.inj h'
theorem fu.BP {L : c6} {e : Env} (ha : fu L e) (d : Option Nat) (v : ad) : fu (jj d v L) (e.put d v) := by
 cases d with
 | none => exact ha
 | some d => exact ha.cons d v
def j9 (ops : Array Oper) (o : Oper) (L : c6) : Option Bool :=
 match o.guard with
 | none => some true
 | some g => match (ops[g.1]?).bind (·.dst) with
  | some d => match look L d with
   | some (.bool b) => some (ae g.2 b (ae b false true))
   | some (.tuple _) => some false
   | _ => none
  | none => none
theorem jN {ops : Array Oper} {o : Oper} {L : c6} {e : Env} (ha : fu L e) {b : Bool} (h : j9 ops o L = some b) : bC ops o e = some b := by
 unfold j9 at h
 unfold bC
 split at h
 ·rename_i hg; simp only [hg]; exact h
 ·rename_i g hg
  simp only [hg]
  split at h
  ·rename_i d hd
   simp only [hd]
   split at h
   ·rename_i b' hb; rw [ha _ _ hb]; exact h
   ·rename_i l hb; rw [ha _ _ hb]; exact h
   ·cases h
  ·cases h
/-! ## What an operation gives -/
def cD (P : Program) (o : Oper) (L : c6) (h : Heap) (v : ad) (h' : Heap) : Prop := ∀ e : Env, fu L e → bO P (e.eval P) h o = some (.val v h')
structure O3 (P : Program) (o : Oper) (L : c6) (h : Heap) (f : Nat) (args : List ad) : Prop where
 enter : ∀ e : Env, fu L e → bO P (e.eval P) h o = some (.enter f args h)
 fn : Nat.blt f b7 = true
def MG (P : Program) (K : ai) (ops : Array Oper) (o : Oper) (s s' : St) : Prop := ∃ n, ∀ m, n ≤ m → fm P (eG K (cC P (jx P K m))) ops o s = some (.dh, s') ∧ fm P (gate (eG K (cC P (jx P K m)))) ops o s = some (.dh, s')
structure gy (P : Program) (K : ai) (ops : Array Oper) (o : Oper) (L : c6) (h : Heap) (m n : Nat) (R : c6 → Heap → Prop) : Prop where
 run : ∀ s, Fr m n L h s → ∃ s' L' h', MG P K ops o s s' ∧ Fr m n L' h' s' ∧ R L' h'
section
variable {P : Program} {K : ai} {ops : Array Oper} {o : Oper} {l : List Oper} {L : c6} {h h' : Heap} {m n : Nat} {R : c6 → Heap → Prop} {v : ad}
theorem Fr.with {s : St} (f : Fr m n L h s) (d : Option Nat) (v : ad) (h' : Heap) : Fr m n (jj d v L) h' (s.with d v h') :=
 ⟨f.env.BP d v, rfl, f.defers, f.bV, f.mask, f.bX⟩
theorem gy.val (hv : cD P o L h v h') (hw : j9 ops o L = some true) (hf : fits o.dst n = true) (hr : R (jj o.dst v L) h') : gy P K ops o L h m n R := by
 constructor
 intro s f
 refine ⟨s.with o.dst v h', _, _, ⟨0, fun m _ => ?_⟩, f.with _ _ _, hr⟩
 have h1 := jN f.env hw
 have h2 : fits o.dst s.bX = true := by rw [f.bX]; exact hf
 have h3 : bO P (s.env.eval P) s.heap o = some (.val v h') := by rw [f.heap]; exact hv _ f.env
 constructor <;> simp only [fm, h1, obS, h2, bcT, h3, bu, force_eq]
theorem gy.skip {g : Nat × Bool} (hg : o.guard = some g) (hw : j9 ops o L = some false) (hf : fits o.dst n = true) (hr : R (jj o.dst bD L) h) : gy P K ops o L h m n R := by
 constructor
 intro s f
 refine ⟨s.with o.dst bD s.heap, _, _, ⟨0, fun m _ => ?_⟩, ?_, hr⟩
 ·have h1 := jN f.env hw
  have h2 : fits o.dst s.bX = true := by rw [f.bX]; exact hf
  constructor <;> simp only [fm, h1, obS, h2, bcT, bcF]
 ·rw [f.heap]; exact f.with _ _ _
theorem gy.call {f : Nat} {args : List ad} (ho : O3 P o L h f args) (hw : j9 ops o L = some true) (hf : fits o.dst n = true) (hd : s7 P K f args h v h') (hr : R (jj o.dst v L) h') : gy P K ops o L h m n R := by
 constructor
 intro s fr
 obtain ⟨N, g⟩ := hd
 refine ⟨s.with o.dst v h', _, _, ⟨N, fun m hm => ?_⟩, fr.with _ _ _, hr⟩
 have h1 := jN fr.env hw
 have h2 : fits o.dst s.bX = true := by rw [fr.bX]; exact hf
 have h3 : bO P (s.env.eval P) s.heap o = some (.enter f args h) := by rw [fr.heap]; exact ho.enter _ fr.env
 constructor <;> simp only [fm, h1, obS, h2, bcT, h3, bu, gate, ho.fn, g m hm, force_eq]
theorem gy.mono {R' : c6 → Heap → Prop} (ho : gy P K ops o L h m n R) (hr : ∀ L h, R L h → R' L h) : gy P K ops o L h m n R' := ⟨fun s f => let ⟨s', L', h', a, b, c⟩ := ho.run s f; ⟨s', L', h', a, b, hr _ _ c⟩⟩
end
/-! ## Regions and code -/
structure WO (P : Program) (K : ai) (ops : Array Oper) (l : List Oper) (L : c6) (h : Heap) (m n : Nat) (R : c6 → Heap → Prop) : Prop where
 run : ∀ s, Fr m n L h s → ∃ s' L' h', Ig P K ops l s s' ∧ Fr m n L' h' s' ∧ R L' h'
structure WC (P : Program) (K : ai) (c : Code) (L : c6) (h : Heap) (m n : Nat) (Q : Ex → St → Prop) : Prop where
 run : ∀ s, Fr m n L h s → Wp P K c s Q
structure To (Q : Ex → St → Prop) (e : Ex) (L : c6) (h : Heap) (m n : Nat) : Prop where
 run : ∀ s, Fr m n L h s → Q e s
def qu (m : Nat) : c6 → (c6 → Option c6) → Option c6
 | [], k => k []
 | (i, v) :: l, k => ae (bit m i) (qu m l fun r => k ((i, v) :: r)) (qu m l k)
def jX (m : Nat) (L : c6) : c6 := L.filter fun p => bit m p.1
theorem lg (m : Nat) : ∀ (L : c6) (k : c6 → Option c6), qu m L k = k (jX m L)
 | [], k => by simp [qu, jX]
 | (i, v) :: l, k => by
  unfold qu
  cases hb : bit m i with
  | true => rw [bcT, lg m l]; simp [jX, hb]
  | false => rw [bcF, lg m l]; simp [jX, hb]
theorem p4 {m : Nat} : ∀ {L : c6} {i : Nat} {v : ad}, look (jX m L) i = some v → bit m i = true ∧ look L i = some v
 | [], i, v, h => by cases h
 | p :: l, i, v, h => by
  cases hb : bit m p.1 with
  | true =>
   have e : jX m (p :: l) = p :: jX m l := by simp [jX, hb]
   rw [e] at h
   simp only [look] at h ⊢
   cases hp : Nat.beq p.1 i with
   | true =>
    rw [hp] at h
    have : p.1 = i := Nat.eq_of_beq_eq_true hp
    exact ⟨this ▸ hb, h⟩
   | false => rw [hp] at h; exact p4 h
  | false =>
   have e : jX m (p :: l) = jX m l := by simp [jX, hb]
   rw [e] at h
   obtain ⟨h1, h2⟩ := p4 h
   refine ⟨h1, ?_⟩
   simp only [look]
   cases hp : Nat.beq p.1 i with
   | true =>
    have : p.1 = i := Nat.eq_of_beq_eq_true hp
    rw [this, h1] at hb; cases hb
   | false => exact h2
theorem sV (key : Nat) (v : ad) (l : c6) (d : ad) (j : Nat) : assoc (er l key v id) d j = if key = j then v else assoc l d j := by
 obtain ⟨mm, h1, h2⟩ := pO (β := c6) key v l id
 rw [h1]; exact h2 d j
theorem vi {m : Nat} : ∀ (loc vars : c6) (i : Nat), bit m i = true → assoc (nr m loc vars) .bad i = vX loc (assoc vars .bad i) i
 | [], vars, i, hi => rfl
 | p :: l, vars, i, hi => by
  show assoc (ae (bit m p.1) (er (nr m l vars) p.1 p.2 id) (nr m l vars)) .bad i = @Bool.rec (fun _ => ad) (vX l (assoc vars .bad i) i) p.2 (Nat.beq p.1 i)
  have ih := vi l vars i hi
  cases hp : Nat.beq p.1 i with
  | true =>
   have e : p.1 = i := Nat.eq_of_beq_eq_true hp
   rw [e, hi, bcT, sV, if_pos rfl]
  | false =>
   have e : p.1 ≠ i := fun e => by rw [e, bm, decide_eq_true rfl] at hp; cases hp
   cases hb : bit m p.1 with
   | true => rw [bcT, sV, if_neg e]; exact ih
   | false => rw [bcF]; exact ih
section
variable {P : Program} {K : ai} {ops : Array Oper} {o : Oper} {l : List Oper} {L L' : c6} {h h' : Heap} {m n : Nat} {R : c6 → Heap → Prop} {Q : Ex → St → Prop} {a b c : Code}
theorem WO.nil (hr : R L h) : WO P K ops [] L h m n R := ⟨fun s f => ⟨s, L, h, .nil, f, hr⟩⟩
theorem WO.cons (ho : gy P K ops o L h m n fun L' h' => WO P K ops l L' h' m n R) : WO P K ops (o :: l) L h m n R := by
 constructor
 intro s f
 obtain ⟨s1, L1, h1, g1, f1, w⟩ := ho.run s f
 obtain ⟨s2, L2, h2, g2, f2, r⟩ := w.run s1 f1
 refine ⟨s2, L2, h2, ?_, f2, r⟩
 obtain ⟨n1, k1⟩ := g1
 obtain ⟨n2, k2⟩ := g2
 refine ⟨max n1 n2, fun m hm => ?_⟩
 simp only [dR, (k1 m (by omega)).1, obS]
 exact k2 m (by omega)
theorem Cw (s : St) : ∃ s', eP (.dh, s) = some (.dh, s') ∧ (∀ i, bit s.mask i = true → s'.env.get i = s.env.get i) ∧ s'.heap = s.heap ∧ s'.defers = s.defers ∧ s'.bV = s.bV ∧ s'.mask = s.mask ∧ s'.bX = s.bX := by
 refine ⟨⟨⟨[], nr s.mask s.env.loc s.env.vars⟩, s.heap, s.defers, s.bV, s.mask, s.bX⟩, ?_, fun i hi => vi _ _ _ hi, rfl, rfl, rfl, rfl, rfl⟩
 show fB s.mask s.env.loc s.env.vars (fun vars => some (Ex.dh, (⟨⟨[], vars⟩, s.heap, s.defers, s.bV, s.mask, s.bX⟩ : St))) = _
 rw [At]
theorem Fr.flush {s : St} (f : Fr m n L h s) (hk : qu m L some = some L') : ∃ s', eP (.dh, s) = some (.dh, s') ∧ Fr m n L' h s' := by
 obtain ⟨s', e, g1, g2, g3, g4, g5, g6⟩ := Cw s
 refine ⟨s', e, ⟨fun i v hv => ?_, g2.trans f.heap, g3.trans f.defers, g4.trans f.bV, g5.trans f.mask, g6.trans f.bX⟩⟩
 rw [lg] at hk
 have e : jX m L = L' := Option.some.inj hk
 rw [← e] at hv
 obtain ⟨h1, h2⟩ := p4 hv
 rw [g1 i (by rw [f.mask]; exact h1)]
 exact f.env i v h2
structure Jl (m n : Nat) (Q : Ex → St → Prop) (L : c6) (h : Heap) : Prop where
 run : ∃ L', qu m L some = some L' ∧ To Q .dh L' h m n
theorem Jl.intro (hk : qu m L some = some L') (g : To Q .dh L' h m n) : Jl m n Q L h := ⟨L', hk, g⟩
theorem WC.region {id : Nat} (hw : WO P K ops ops.toList L h m n (Jl m n Q)) : WC P K (.region id ops false) L h m n Q := by
 constructor
 intro s f
 obtain ⟨s1, L1, h1, g1, f1, ⟨L2, hk, q⟩⟩ := hw.run s f
 obtain ⟨s2, e, f2⟩ := f1.flush hk
 exact ⟨_, _, Runs.region f.bV g1 e, q.run s2 f2⟩
theorem WC.seq (hw : WC P K a L h m n (eb P K b Q)) : WC P K (.seq a b) L h m n Q := ⟨fun s f => Wp.seq (hw.run s f)⟩
theorem WC.skip (hw : To Q .dh L h m n) : WC P K .skip L h m n Q := ⟨fun s f => Wp.skip (hw.run s f)⟩
theorem WC.ret (hw : To Q .ret L h m n) : WC P K .ret L h m n Q := ⟨fun s f => Wp.ret (hw.run s f)⟩
theorem WC.exit {id : Nat} (hw : To Q (.exit id) L h m n) : WC P K (.exit id) L h m n Q := ⟨fun s f => Wp.exit (hw.run s f)⟩
theorem WC.block {id : Nat} (hw : WC P K a L h m n (dV id Q)) : WC P K (.block id a) L h m n Q := ⟨fun s f => Wp.block (hw.run s f)⟩
theorem WC.loop (hw : WC P K a L h m n (eb P K (.loop a) Q)) : WC P K (.loop a) L h m n Q := ⟨fun s f => Wp.loop (hw.run s f)⟩
theorem WC.cond_true {x : Operand} (hx : eI P L x = some (.bool true)) (hw : WC P K a L h m n Q) : WC P K (.cond x a b) L h m n Q := ⟨fun s f =>
 Wp.cond (t := true) (evS f.env hx) (fun _ => hw.run s f) (fun e => by cases e)⟩
theorem WC.cond_false {x : Operand} (hx : eI P L x = some (.bool false)) (hw : WC P K b L h m n Q) : WC P K (.cond x a b) L h m n Q := ⟨fun s f =>
 Wp.cond (t := false) (evS f.env hx) (fun e => by cases e) (fun _ => hw.run s f)⟩
def FX : c6 → c6 → Prop
 | [], _ => True
 | (i, v) :: l, L => look L i = some v ∧ FX l L
theorem FX.look : ∀ {l L : c6}, FX l L → ∀ {i : Nat} {v : ad}, look l i = some v → look L i = some v
 | p :: l, L, hs, i, v, hl => by
  simp only [HL.look] at hl
  cases hp : Nat.beq p.1 i with
  | true => rw [hp] at hl; have e : p.1 = i := Nat.eq_of_beq_eq_true hp; cases hl; rw [← e]; exact hs.1
  | false => rw [hp] at hl; exact hs.2.look hl
theorem Fr.sub {s : St} (f : Fr m n L h s) (hs : FX L' L) : Fr m n L' h s := ⟨fun i v hv => f.env i v (hs.look hv), f.heap, f.defers, f.bV, f.mask, f.bX⟩
theorem WC.sub (hs : FX L' L) (hw : WC P K c L' h m n Q) : WC P K c L h m n Q := ⟨fun s f => hw.run s (f.sub hs)⟩
theorem To.ID (hw : WC P K b L h m n Q) : To (eb P K b Q) .dh L h m n := ⟨hw.run⟩
theorem To.Hu {id : Nat} (g : To Q (.exit id) L h m n) : To (eb P K b Q) (.exit id) L h m n := ⟨g.run⟩
theorem To.Io (g : To Q .ret L h m n) : To (eb P K b Q) .ret L h m n := ⟨g.run⟩
theorem To.EJ {id : Nat} (g : To Q .dh L h m n) : To (dV id Q) .dh L h m n := ⟨g.run⟩
theorem To.Eg {id : Nat} (g : To Q .ret L h m n) : To (dV id Q) .ret L h m n := ⟨g.run⟩
theorem To.CB {id : Nat} (g : To Q .dh L h m n) : To (dV id Q) (.exit id) L h m n := ⟨fun s f => by
 show if id = id then Q .dh s else Q (.exit id) s
 rw [if_pos rfl]; exact g.run s f⟩
/-! ## Functions -/
def Sp (P : Program) (K : ai) (f : Nat) (args : List ad) (h : Heap) (R : ad → Heap → Prop) : Prop := ∃ v h', s7 P K f args h v h' ∧ R v h'
def JV (P : Program) (fn : Func) (R : ad → Heap → Prop) (e : Ex) (s : St) : Prop := (e = .dh ∨ e = .ret) ∧ s.defers = [] ∧ ∃ v, jQ P fn s = some v ∧ R v s.heap
def Is (L : c6) : List ResultVar → Option (List ad)
 | [] => some []
 | r :: l => match r with
  | .tmp t => ob (look L t) fun v => ob (Is L l) fun vs => some (v :: vs)
  | .cell _ _ => none
def aP : List ad → ad
 | [v] => v
 | l => .tuple l
theorem ux {s : St} (f : Fr m n L h s) : ∀ {l : List ResultVar} {vs : List ad}, Is L l = some vs → dQ P s l = some vs
 | [], vs, e => e
 | r :: l, vs, e => by
  cases r with
  | cell a t => cases e
  | tmp t =>
   simp only [Is] at e
   obtain ⟨v, e1, e2⟩ := aa.1 e
   obtain ⟨vs', e3, e4⟩ := aa.1 e2
   cases e4
   simp only [dQ, ux f e3, obS, f.env t v e1]
theorem To.fn {fn : Func} {R : ad → Heap → Prop} {vs : List ad} {e : Ex} (he : e = .dh ∨ e = .ret) (hv : Is L fn.results.toList = some vs) (hr : R (aP vs) h) : To (JV P fn R) e L h m n := by
 constructor
 intro s f
 refine ⟨he, f.defers, aP vs, ?_, by rw [f.heap]; exact hr⟩
 unfold jQ
 rw [ux f hv, obS]
 cases vs with
 | nil => rfl
 | cons v l => cases l <;> rfl
theorem Fr.enter {args : List ad} {s : St} (hs : s = F [] (ck args 0) h m n) : Fr m n (ck args 0) h s := by
 subst hs
 refine ⟨fun i v hv => ?_, rfl, rfl, rfl, rfl, rfl⟩
 show assoc (ck args 0) .bad i = v
 generalize ck args 0 = l at hv
 induction l with
 | nil => cases hv
 | cons p l ih =>
  simp only [look] at hv
  show @Bool.rec (fun _ => ad) (assoc l .bad i) p.2 (Nat.beq p.1 i) = v
  cases hp : Nat.beq p.1 i with
  | true => rw [hp] at hv; exact Option.some.inj hv
  | false => rw [hp] at hv; exact ih hv
def Kh : List ad → Option c6
 | [] => some []
 | [a] => some [(0, a)]
 | [a, b] => some [(0, a), (1, b)]
 | [a, b, c] => some [(0, a), (1, b), (2, c)]
 | [a, b, c, d] => some [(0, a), (1, b), (2, c), (3, d)]
 | [a, b, c, d, e] => some [(0, a), (1, b), (2, c), (3, d), (4, e)]
 | _ => none
theorem IB {args : List ad} {L : c6} (hn : Kh args = some L) : ck args 0 = L := by
 unfold Kh at hn
 split at hn <;> first | (cases hn; rfl) | cases hn
theorem Sp.of {f : Nat} {fn : Func} {c : Code} {args : List ad} {R : ad → Heap → Prop} (hK : K f args h = none) (hf : P.funcs[f]? = some fn) (hb : fn.body = some c) (hlt : Nat.blt f b7 = true)
  (hm : Nat.lor (jm fn) (Nat.sub (Nat.pow 2 args.length) 1) = m) (hl : Nat.add args.length (Nat.sub fn.ntmps args.length) = n)
  (hn : Kh args = some L) (hw : WC P K c L h m n (JV P fn R)) : Sp P K f args h R := by
 rw [← IB hn] at hw
 obtain ⟨e, s', r, he, hd, v, hv, hr⟩ := hw.run _ (Fr.enter rfl)
 refine ⟨v, s'.heap, ?_, hr⟩
 refine s7.of_wp hK hf hb ?_ hm hl ⟨e, s', r, he, hd, hv, rfl⟩
 rw [fe] at hlt
 exact of_decide_eq_true hlt
theorem gy.sp {f : Nat} {args : List ad} {S : ad → Heap → Prop} {R : c6 → Heap → Prop} (ho : O3 P o L h f args) (hw : j9 ops o L = some true) (hf : fits o.dst n = true) (hd : Sp P K f args h S) (hr : ∀ v h', S v h' → R (jj o.dst v L) h') : gy P K ops o L h m n R := by
 obtain ⟨v, h', d, sv⟩ := hd
 exact gy.call ho hw hf d (hr v h' sv)
end
end
end Go.HL
namespace Go.HL
open Go
noncomputable section
/-! ## Memories -/
def Wf (h : Heap) : Prop := ∀ k, h.next ≤ k → h.get k = none
structure Grow (h h' : Heap) : Prop where
 get : ∀ {k o}, h.get k = some o → h'.get k = some o
 next : h.next ≤ h'.next
theorem Grow.refl (h : Heap) : Grow h h := ⟨fun e => e, Nat.le_refl _⟩
structure Made (h : Heap) (k : Nat) (o : aE) (h' : Heap) : Prop where
 get : h'.get k = some o
 ext : Grow h h'
 fresh : h.get k = none
 wf : Wf h'
 le : h.next ≤ k
 lt : k < h'.next
 td : ∀ j, j ≠ k → h'.get j = h.get j
theorem kZ {h : Heap} (w : Wf h) (o : aE) : Made h h.next o (h.new o) := by
 have hf := w _ (Nat.le_refl _)
 refine ⟨by simp, ⟨fun {k o'} e => ?_, Nat.le_succ _⟩, hf, fun k hk => ?_, Nat.le_refl _, Nat.lt_succ_self _, fun j hj => by simp [hj]⟩
 ·rw [Heap.cx, if_neg]; exact e
  rintro rfl; rw [hf] at e; cases e
 ·rw [Heap.cx, if_neg (by rintro rfl; exact absurd hk (Nat.not_le.2 (Nat.lt_succ_self _)))]
  exact w k (Nat.le_trans (Nat.le_succ _) hk)
structure MH (h : Heap) (k : Nat) (o : aE) (h' : Heap) : Prop where
 get : h'.get k = some o
 td : ∀ j, j ≠ k → h'.get j = h.get j
 next : h'.next = h.next
 wf : Wf h'
theorem pT {h : Heap} (w : Wf h) {k : Nat} (o : aE) (hk : k < h.next) : MH h k o (h.put k o) := by
 refine ⟨by simp, fun j hj => by simp [hj], rfl, fun j hj => ?_⟩
 have : h.next ≤ j := hj
 rw [Heap.bL, if_neg (by omega)]
 exact w j this
theorem Wf.lt {h : Heap} (w : Wf h) {k : Nat} {o : aE} (e : h.get k = some o) : k < h.next := Nat.lt_of_not_le fun hle => by rw [w k hle] at e; cases e
theorem MH.ext {h0 h h' : Heap} {k : Nat} {o : aE} (p : MH h k o h') (e : Grow h0 h) (hk : h0.get k = none) : Grow h0 h' :=
 ⟨fun {j o'} g => by rw [p.td j (by rintro rfl; rw [hk] at g; cases g)]; exact e.get g, by rw [p.next]; exact e.next⟩
/-! ## Types -/
inductive TI where
 | bool
 | int (k : IntKind)
 | str
 | slice (e : Nat)
 | map (k e : Nat)
 | struct (fs : List (Nat × Nat))
 | array (n e : Nat)
 | ref
def jZ : List Field → List (Nat × Nat) → Bool
 | [], [] => true
 | f :: l, p :: m => ae (Nat.beq f.offset p.1) (ae (Nat.beq f.type p.2) (jZ l m) false) false
 | _, _ => false
def wc (P : Program) (t : Nat) : TI → Bool
 | .bool => match P.underlying t with | some .bool => true | _ => false
 | .int k => match P.underlying t with | some (.int j) => sameKind j k | _ => false
 | .str => match P.underlying t with | some .string => true | _ => false
 | .slice e => match P.underlying t with | some (.slice e') => ae (Nat.beq e' e) (match P.info? e with | some _ => true | none => false) false | _ => false
 | .map k e => match P.underlying t with | some (.map k' e') => ae (Nat.beq k' k) (Nat.beq e' e) false | _ => false
 | .struct l => match P.underlying t with | some (.struct fs) => jZ fs.toList l | _ => false
 | .array n e => match P.underlying t with | some (.array n' e') => ae (Nat.beq n' n) (ae (Nat.beq e' e) (match P.info? e with | some _ => true | none => false) false) false | _ => false
 | .ref => match P.underlying t with | some d => ae (qT d) false true | none => false
abbrev iF := List (Nat × TI × Nat)
def bH (P : Program) : iF → Bool
 | [] => true
 | p :: l => ae (wc P p.1 p.2.1) (ae (Nat.beq (P.cellsOf p.1) p.2.2) (bH P l) false) false
def bN : iF → Nat → Option (TI × Nat)
 | [], _ => none
 | p :: l, t => ae (Nat.beq p.1 t) (some p.2) (bN l t)
section
variable {P : Program} {ax : iF}
theorem cA (hT : bH P ax = true) {t : Nat} {i : TI} {n : Nat} (h : bN ax t = some (i, n)) : wc P t i = true ∧ P.cellsOf t = n := by
 induction ax with
 | nil => cases h
 | cons p l ih =>
  simp only [bH, bcFe] at hT
  obtain ⟨h1, h2, h3⟩ := hT
  simp only [bN] at h
  cases hb : Nat.beq p.1 t with
  | true =>
   rw [hb] at h
   have e := Nat.eq_of_beq_eq_true hb
   have e2 := Option.some.inj h
   rw [← e]
   rw [e2] at h1 h2
   exact ⟨h1, Nat.eq_of_beq_eq_true h2⟩
  | false => rw [hb] at h; exact ih h3 h
theorem c7 (hT : bH P ax = true) {t e n : Nat} (h : bN ax t = some (.slice e, n)) : P.underlying t = some (.slice e) ∧ (∃ i, P.info? e = some i) := by
 have h1 := (cA hT h).1
 simp only [wc] at h1
 cases hu : P.underlying t with
 | none => rw [hu] at h1; cases h1
 | some d =>
  rw [hu] at h1
  cases d <;> simp only at h1 <;> try (cases h1; done)
  obtain ⟨a, b⟩ := bcFe.1 h1
  have a' := Nat.eq_of_beq_eq_true a
  subst a'
  cases hi : P.info? _ with
  | none => rw [hi] at b; cases b
  | some i => exact ⟨rfl, i, rfl⟩
theorem lD (hT : bH P ax = true) {t n : Nat} (h : bN ax t = some (.str, n)) : P.underlying t = some .string := by
 have h1 := (cA hT h).1
 simp only [wc] at h1
 cases hu : P.underlying t with
 | none => rw [hu] at h1; cases h1
 | some d => rw [hu] at h1; cases d <;> simp only at h1 <;> first | (cases h1; done) | rfl
theorem G9 (hT : bH P ax = true) {t n : Nat} (h : bN ax t = some (.bool, n)) : P.underlying t = some .bool := by
 have h1 := (cA hT h).1
 simp only [wc] at h1
 cases hu : P.underlying t with
 | none => rw [hu] at h1; cases h1
 | some d => rw [hu] at h1; cases d <;> simp only at h1 <;> first | (cases h1; done) | rfl
theorem tv (hT : bH P ax = true) {t n : Nat} {k : IntKind} (h : bN ax t = some (.int k, n)) : P.underlying t = some (.int k) := by
 have h1 := (cA hT h).1
 simp only [wc] at h1
 cases hu : P.underlying t with
 | none => rw [hu] at h1; cases h1
 | some d => rw [hu] at h1; cases d <;> simp only at h1 <;> first | (cases h1; done) | (rw [eC h1])
theorem pK (hT : bH P ax = true) {t k e n : Nat} (h : bN ax t = some (.map k e, n)) : P.underlying t = some (.map k e) := by
 have h1 := (cA hT h).1
 simp only [wc] at h1
 cases hu : P.underlying t with
 | none => rw [hu] at h1; cases h1
 | some d =>
  rw [hu] at h1
  cases d <;> simp only at h1 <;> try (cases h1; done)
  obtain ⟨a, b⟩ := bcFe.1 h1
  rw [Nat.eq_of_beq_eq_true a, Nat.eq_of_beq_eq_true b]
theorem sN {fs : List Field} : ∀ {l : List (Nat × Nat)}, jZ fs l = true → ∀ {i : Nat} {p : Nat × Nat}, nth l i = some p → ∃ f, fs[i]? = some f ∧ f.offset = p.1 ∧ f.type = p.2 := by
 induction fs with
 | nil => intro l h i p hp; cases l with | nil => simp at hp | cons => cases h
 | cons f fs ih =>
  intro l h i p hp
  cases l with
  | nil => cases h
  | cons q l =>
   simp only [jZ, bcFe] at h
   obtain ⟨h1, h2, h3⟩ := h
   cases i with
   | zero => simp at hp; subst hp; exact ⟨f, rfl, Nat.eq_of_beq_eq_true h1, Nat.eq_of_beq_eq_true h2⟩
   | succ i => simp at hp; simpa using ih h3 hp
theorem oV (hT : bH P ax = true) {t n : Nat} {l : List (Nat × Nat)} (h : bN ax t = some (.struct l, n)) : ∃ fs : Array Field, P.underlying t = some (.struct fs) ∧ jZ fs.toList l = true := by
 have h1 := (cA hT h).1
 simp only [wc] at h1
 cases hu : P.underlying t with
 | none => rw [hu] at h1; cases h1
 | some d =>
  rw [hu] at h1
  cases d <;> simp only at h1 <;> try (cases h1; done)
  exact ⟨_, rfl, h1⟩
theorem nM (hT : bH P ax = true) {t n e q : Nat} (h : bN ax t = some (.array n e, q)) : P.underlying t = some (.array n e) ∧ ∃ i, P.info? e = some i := by
 have h1 := (cA hT h).1
 simp only [wc] at h1
 cases hu : P.underlying t with
 | none => rw [hu] at h1; cases h1
 | some d =>
  rw [hu] at h1
  cases d <;> simp only at h1 <;> try (cases h1; done)
  obtain ⟨a, b⟩ := bcFe.1 h1
  obtain ⟨b, c⟩ := bcFe.1 b
  refine ⟨by rw [Nat.eq_of_beq_eq_true a, Nat.eq_of_beq_eq_true b], ?_⟩
  cases hi : P.info? e with
  | none => rw [hi] at c; cases c
  | some i => exact ⟨i, rfl⟩
theorem Ik (hT : bH P ax = true) {t q : Nat} (h : bN ax t = some (.ref, q)) : ∃ d, P.underlying t = some d ∧ qT d = false := by
 have h1 := (cA hT h).1
 simp only [wc] at h1
 cases hu : P.underlying t with
 | none => rw [hu] at h1; cases h1
 | some d =>
  rw [hu] at h1
  simp only at h1
  refine ⟨d, rfl, ?_⟩
  cases hd : qT d with
  | true => rw [hd] at h1; cases h1
  | false => rfl
def TI.agg : TI → Bool
 | .struct _ => true
 | .array _ _ => true
 | _ => false
theorem iM (hT : bH P ax = true) {t n : Nat} {i : TI} (h : bN ax t = some (i, n)) : gj P t = some i.agg := by
 cases i with
 | bool => simp only [gj, G9 hT h, obS]; rfl
 | int k => simp only [gj, tv hT h, obS]; rfl
 | str => simp only [gj, lD hT h, obS]; rfl
 | slice e => simp only [gj, (c7 hT h).1, obS]; rfl
 | map k e => simp only [gj, pK hT h, obS]; rfl
 | struct l => obtain ⟨fs, hu, _⟩ := oV hT h; simp only [gj, hu, obS]; rfl
 | array n e => simp only [gj, (nM hT h).1, obS]; rfl
 | ref => obtain ⟨d, hu, hd⟩ := Ik hT h; simp only [gj, hu, obS, hd]; rfl
end
/-! ## Values -/
section
variable {P : Program} {o : Oper} {L : c6} {h h' : Heap} {v : ad}
theorem cD.mk {op : Op} (ho : o.op = op) (hx : ∀ e : Env, fu L e → ∀ d t p a g, bO P (e.eval P) h ⟨d, op, t, p, a, g⟩ = some (.val v h')) : cD P o L h v h' := by
 intro e ha
 obtain ⟨d, op', t, p, a, g⟩ := o
 simp only at ho
 subst ho
 exact hx e ha d t p a g
theorem V.move {x : Operand} (ho : o.op = .move x) (hx : eI P L x = some v) : cD P o L h v h := cD.mk ho fun ev ha d ty ps aft g => by
 simp only [bO, evS ha hx]
theorem V.assign {x : Operand} (ho : o.op = .assign x) (hx : eI P L x = some v) : cD P o L h v h := cD.mk ho fun ev ha d ty ps aft g => by
 simp only [bO, evS ha hx]
theorem V.Er {c x y : Operand} (ho : o.op = .pick c x y) (hc : eI P L c = some (.bool true)) (hx : eI P L x = some v) : cD P o L h v h := cD.mk ho fun ev ha d ty ps aft g => by
 simp only [bO, evS ha hc, evS ha hx, ad.isBool, obS, bcT]
theorem V.BR {c x y : Operand} (ho : o.op = .pick c x y) (hc : eI P L c = some (.bool false)) (hy : eI P L y = some v) : cD P o L h v h := cD.mk ho fun ev ha d ty ps aft g => by
 simp only [bO, evS ha hc, evS ha hy, ad.isBool, obS, bcF]
theorem V.not_true {t : Nat} {x : Operand} (ho : o.op = .unOp .not t x) (hx : eI P L x = some (.bool true)) : cD P o L h (.bool false) h := cD.mk ho fun ev ha d ty ps aft g => by
 simp only [bO, evS ha hx, Jq, bcT]; rfl
theorem V.not_false {t : Nat} {x : Operand} (ho : o.op = .unOp .not t x) (hx : eI P L x = some (.bool false)) : cD P o L h (.bool true) h := cD.mk ho fun ev ha d ty ps aft g => by
 simp only [bO, evS ha hx, Jq, bcF]; rfl
theorem V.not {t : Nat} {x : Operand} {b : Bool} (ho : o.op = .unOp .not t x) (hx : eI P L x = some (.bool b)) : cD P o L h (.bool (!b)) h := cD.mk ho fun ev ha d ty ps aft g => by
 simp only [bO, evS ha hx, Jq]; cases b <;> rfl
theorem V.extract {x : Operand} {i : Nat} {l : List ad} (ho : o.op = .extract x i) (hx : eI P L x = some (.tuple l)) (hv : nth l i = some v) : cD P o L h v h := cD.mk ho fun ev ha d ty ps aft g => by
 simp only [bO, evS ha hx, ad.isTuple, obS, hv, HL.val]
/-! numbers -/
def M6 : BinOp → Int → Int → Option Bool
 | .eql, a, b => some (decide (a = b))
 | .neq, a, b => some (decide (a ≠ b))
 | .lss, a, b => some (decide (a < b))
 | .leq, a, b => some (decide (a ≤ b))
 | .gtr, a, b => some (decide (b < a))
 | .geq, a, b => some (decide (b ≤ a))
 | _, _, _ => none
theorem V.cmp {bo : BinOp} {t p : Nat} {x y : Operand} {k j : IntKind} {a b : Int} {r : Bool} (ho : o.op = .binOp bo t x y p) (hx : eI P L x = some (.int k a)) (hy : eI P L y = some (.int j b)) (hk : sameKind k j = true) (hr : M6 bo a b = some r) : cD P o L h (.bool r) h := cD.mk ho fun ev ha d ty ps aft g => by
 cases bo <;> simp only [M6] at hr <;> try (cases hr; done)
 all_goals cases hr; simp only [bO, evS ha hx, evS ha hy, jK, eH, hk, bcT, iL, ni, p7, lY, HL.val, obS]
 by_cases hab : a = b <;> simp [hab]
theorem V.add {t p : Nat} {x y : Operand} {k j : IntKind} {a b c : Int} (ho : o.op = .binOp .add t x y p) (hx : eI P L x = some (.int k a)) (hy : eI P L y = some (.int j b)) (hk : sameKind k j = true) (hr : dj k (a + b) = c) : cD P o L h (.int k c) h := cD.mk ho fun ev ha d ty ps aft g => by
 simp only [bO, evS ha hx, evS ha hy, jK, eH, hk, bcT, iL, HL.val, obS]
 rw [← hr]; rfl
theorem V.sub {t p : Nat} {x y : Operand} {k j : IntKind} {a b c : Int} (ho : o.op = .binOp .sub t x y p) (hx : eI P L x = some (.int k a)) (hy : eI P L y = some (.int j b)) (hk : sameKind k j = true) (hr : dj k (a - b) = c) : cD P o L h (.int k c) h := cD.mk ho fun ev ha d ty ps aft g => by
 simp only [bO, evS ha hx, evS ha hy, jK, eH, hk, bcT, iL, HL.val, obS]
 rw [← hr]; rfl
theorem wI {n : Int} (h1 : -9223372036854775808 ≤ n) (h2 : n ≤ 9223372036854775807) : dj .i64 n = n := by
 unfold dj
 cases n with
 | ofNat n =>
  have : rH .i64 (.ofNat n) = true := by
   show Nat.ble n 9223372036854775807 = true
   rw [eE]; simp only [Int.ofNat_eq_natCast] at h2; exact decide_eq_true (by omega)
  rw [this]; rfl
 | negSucc n =>
  have : rH .i64 (.negSucc n) = true := by
   show ae (Nat.blt 3 (gG .i64)) false (Nat.ble n 9223372036854775807) = true
   have : Nat.ble n 9223372036854775807 = true := by rw [eE]; exact decide_eq_true (by omega)
   rw [this]; rfl
  rw [this]; rfl
/-! strings -/
theorem V.Nv {t p : Nat} {x y : Operand} {n c m d : Nat} (ho : o.op = .binOp .eql t x y p) (hx : eI P L x = some (.str n c)) (hy : eI P L y = some (.str m d)) : cD P o L h (.bool (decide (n = m ∧ c = d))) h := cD.mk ho fun ev ha d ty ps aft g => by
 simp only [bO, evS ha hx, evS ha hy, jK, eH, tZ, HL.val, obS, zx, bm, bcE]
 by_cases h1 : n = m <;> simp [h1]
/-! memory -/
theorem bR {k : Nat} {l : List ad} {e : Nat} {s r : Bool} (hg : h.get k = some (.cells l e s r)) : h.cells k = some (l, e, s, r) := by
 unfold Heap.cells; rw [hg]; rfl
theorem V.load {ax : iF} (hT : bH P ax = true) {t k off n : Nat} {x : Operand} {i : TI} {l : List ad} {e : Nat} {s r : Bool} (ho : o.op = .load t x) (ht : bN ax t = some (i, n)) (hi : i.agg = false) (hx : eI P L x = some (.ptr k off)) (hg : h.get k = some (.cells l e s r)) (hv : nth l off = some v) : cD P o L h v h := cD.mk ho fun ev ha d ty ps aft g => by
 simp only [bO, evS ha hx, ad.dv, obS, loadT, iM hT ht, hi, bcF, my, bR hg, hv, HL.val]
structure Row (h : Heap) (k off : Nat) (l : List ad) : Prop where
 load : dZ h k off l.length = some l
theorem Row.nth {k off : Nat} {l : List ad} (hr : Row h k off l) {j : Nat} (hv : nth l j = some v) : my h k (Nat.add off j) = some v := by
 have hr := hr.load
 unfold dZ at hr
 obtain ⟨o, ho, e⟩ := aa.1 hr
 rw [br, cZ] at e
 split at e
 ·rename_i hle
  have e' := Option.some.inj e
  unfold my
  rw [ho, obS, cf]
  rw [cf] at hv
  have hj : j < l.length := (List.getElem?_eq_some_iff.1 hv).1
  rw [← e', List.getElem?_take, if_pos hj, List.getElem?_drop] at hv
  exact hv
 ·cases e
theorem V.Dn {ax : iF} (hT : bH P ax = true) {t k off j n : Nat} {x : Operand} {i : TI} {l : List ad} (ho : o.op = .load t x) (ht : bN ax t = some (i, n)) (hi : i.agg = false) (hx : eI P L x = some (.ptr k (Nat.add off j))) (hr : Row h k off l) (hv : nth l j = some v) : cD P o L h v h := cD.mk ho fun ev ha d ty ps aft g => by
 simp only [bO, evS ha hx, ad.dv, obS, loadT, iM hT ht, hi, bcF, hr.nth hv, HL.val]
theorem V.Kn {ax : iF} (hT : bH P ax = true) {t k off n : Nat} {x : Operand} {i : TI} {l : List ad} (ho : o.op = .load t x) (ht : bN ax t = some (i, n)) (hi : i.agg = false) (hx : eI P L x = some (.ptr k off)) (hr : Row h k off l) (hv : nth l 0 = some v) : cD P o L h v h := cD.mk ho fun ev ha d ty ps aft g => by
 have := hr.nth hv
 simp only [Nat.add_eq, Nat.add_zero] at this
 simp only [bO, evS ha hx, ad.dv, obS, loadT, iM hT ht, hi, bcF, this, HL.val]
theorem V.Ce {ax : iF} (hT : bH P ax = true) {t k off n : Nat} {x : Operand} {i : TI} {l : List ad} (ho : o.op = .load t x) (ht : bN ax t = some (i, n)) (hi : i.agg = true) (hx : eI P L x = some (.ptr k off)) (hr : Row h k off l) (hl : Nat.beq l.length n = true) : cD P o L h (.agg l) h := cD.mk ho fun ev ha d ty ps aft g => by
 have hl' := Nat.eq_of_beq_eq_true hl
 have hr := hr.load
 rw [hl'] at hr
 simp only [bO, evS ha hx, ad.dv, obS, loadT, iM hT ht, hi, bcT, (cA hT ht).2, hr, HL.val]
theorem V.fieldAddr {ax : iF} (hT : bH P ax = true) {t k off f n m : Nat} {x : Operand} {fs : List (Nat × Nat)} {q : Nat × Nat} {i : TI} (ho : o.op = .fieldAddr t x f) (ht : bN ax t = some (.struct fs, n)) (hf : nth fs f = some q) (hq : bN ax q.2 = some (i, m)) (hm : Nat.beq m 0 = false) (hx : eI P L x = some (.ptr k off)) : cD P o L h (.ptr k (Nat.add off q.1)) h := cD.mk ho fun ev ha d ty ps aft g => by
 obtain ⟨fl, hu, hb⟩ := oV hT ht
 obtain ⟨fd, h1, h2, h3⟩ := sN hb hf
 have h1' : fl[f]? = some fd := by simpa using h1
 simp only [bO, hu, evS ha hx, ad.dv, obS, h1', h3, (cA hT hq).2, hm, bcF, h2]
theorem V.indexAddr {ax : iF} (hT : bH P ax = true) {t e n k off len w : Nat} {cap : Option Nat} {x y : Operand} {kd : IntKind} {j : Nat} {i : TI} (ho : o.op = .indexAddr t x y) (ht : bN ax t = some (.slice e, n)) (he : bN ax e = some (i, w)) (hx : eI P L x = some (.slice k off len cap)) (hy : eI P L y = some (.int kd (.ofNat j))) (hj : j < len) : cD P o L h (.ptr k (Nat.add off (Nat.mul j w))) h := cD.mk ho fun ev ha d ty ps aft g => by
 obtain ⟨hu, inf, hi⟩ := c7 hT ht
 have h1 : cg P t = true := by simp only [cg, hu, hi]
 have h2 : Nat.blt j len = true := by rw [fe]; exact decide_eq_true hj
 simp only [bO, h1, bcT, evS ha hy, ad.isNat, qh, obS, hu, evS ha hx, h2, (cA hT he).2]
theorem V.Kv {ax : iF} (hT : bH P ax = true) {t n m c : Nat} {x y : Operand} {kd : IntKind} {j : Nat} (ho : o.op = .index t x y) (ht : bN ax t = some (.str, n)) (hx : eI P L x = some (.str m c)) (hy : eI P L y = some (.int kd (.ofNat j))) (hj : j < m) : cD P o L h (.int .u8 (Int.ofNat (dP m c j))) h := cD.mk ho fun ev ha d ty ps aft g => by
 have hu := lD hT ht
 have h1 : cg P t = true := by simp only [cg, hu]
 have h2 : Nat.blt j m = true := by rw [fe]; exact decide_eq_true hj
 simp only [bO, h1, bcT, evS ha hy, ad.isNat, qh, obS, hu, evS ha hx, h2]
/-! lengths -/
def dA : ad → Option Nat
 | .aD => some 0
 | .slice _ _ n _ => some n
 | .rest _ => some 0
 | .empty => some 0
 | _ => none
theorem V.len {ax : iF} (hT : bH P ax = true) {c : Call} {x : Operand} {t e n m : Nat} {s : ad} (ho : o.op = .call c) (hc : c.callee = .builtin .len) (hx : c.args = #[x]) (hts : c.argTypes[0]? = some t) (ht : bN ax t = some (.slice e, n)) (hs : eI P L x = some s) (hm : dA s = some m) : cD P o L h (.int .i64 (m : Int)) h := cD.mk ho fun ev ha d ty ps aft g => by
 have hu := (c7 hT ht).1
 simp only [bO, hc, hx, List.map_cons, List.map_nil, dc, hts, A9, hu, evS ha hs]
 cases s <;> simp only [dA] at hm <;> try (cases hm; done)
 all_goals cases hm; rfl
theorem V.Ns {ax : iF} (hT : bH P ax = true) {c : Call} {x : Operand} {t n m cc : Nat} (ho : o.op = .call c) (hc : c.callee = .builtin .len) (hx : c.args = #[x]) (hts : c.argTypes[0]? = some t) (ht : bN ax t = some (.str, n)) (hs : eI P L x = some (.str m cc)) : cD P o L h (.int .i64 (m : Int)) h := cD.mk ho fun ev ha d ty ps aft g => by
 have hu := lD hT ht
 simp only [bO, hc, hx, List.map_cons, List.map_nil, dc, hts, A9, hu, evS ha hs]
 rfl
/-! i32 to i64 -/
end
end
end Go.HL
namespace Go.HL
open Go
noncomputable section
section
variable {P : Program} {K : ai} {ops : Array Oper} {o : Oper} {L : c6} {h : Heap} {m n : Nat} {R : c6 → Heap → Prop} {ax : iF}
theorem gy.bool {b : Bool} (hv : cD P o L h (.bool b) h) (hw : j9 ops o L = some true) (hf : fits o.dst n = true) (h1 : b = true → R (jj o.dst (.bool true) L) h) (h0 : b = false → R (jj o.dst (.bool false) L) h) : gy P K ops o L h m n R := by
 cases b with
 | true => exact gy.val hv hw hf (h1 rfl)
 | false => exact gy.val hv hw hf (h0 rfl)
/-! ## New objects -/
def DW (P : Program) (o : Oper) (L : c6) (h : Heap) (f : Nat → ad) (ob : aE) : Prop := ∀ e : Env, fu L e → bO P (e.eval P) h o = some (.val (f h.next) (h.new ob))
theorem DW.mk {f : Nat → ad} {obj : aE} {op : Op} (ho : o.op = op) (hx : ∀ e : Env, fu L e → ∀ d t p a g, bO P (e.eval P) h ⟨d, op, t, p, a, g⟩ = some (.val (f h.next) (h.new obj))) : DW P o L h f obj := by
 intro e ha
 obtain ⟨d, op', t, p, a, g⟩ := o
 simp only at ho
 subst ho
 exact hx e ha d t p a g
theorem gy.made {f : Nat → ad} {obj : aE} (hm : DW P o L h f obj) (hw : j9 ops o L = some true) (hf : fits o.dst n = true) (w : Wf h) (hr : ∀ k h', Made h k obj h' → R (jj o.dst (f k) L) h') : gy P K ops o L h m n R :=
 gy.val (fun e ha => hm e ha) hw hf (hr _ _ (kZ w obj))
theorem M.box {e : Nat} {x : Operand} {v : ad} {l : List ad} (ho : o.op = .box e x) (hx : eI P L x = some v) (hl : v.cells = some l) : DW P o L h (fun k => .ptr k 0) (.cells l e false true) := DW.mk ho fun ev ha d ty ps aft g => by
 simp only [bO, evS ha hx, hl, obS]
theorem M.alloc {e : Nat} {z : List ad} (ho : o.op = .alloc e) (hz : ah P e = some z) : DW P o L h (fun k => .ptr k 0) (.cells z e false true) := DW.mk ho fun ev ha d ty ps aft g => by
 simp only [bO, hz, obS]
theorem M.map {t kt e q : Nat} (hT : bH P ax = true) (ho : o.op = .makeMap t none) (ht : bN ax t = some (.map kt e, q)) : DW P o L h (fun k => .map k) (.map [] 0 true) := DW.mk ho fun ev ha d ty ps aft g => by
 simp only [bO, pK hT ht]
theorem M.slice {t e q w len cap bs : Nat} {i : TI} {kd kd' : IntKind} {x y : Operand} {z : List ad} (hT : bH P ax = true) (ho : o.op = .makeSlice t x y) (ht : bN ax t = some (.slice e, q)) (he : bN ax e = some (i, w)) (hx : eI P L x = some (.int kd (.ofNat len))) (hy : eI P L y = some (.int kd' (.ofNat cap))) (hle : len ≤ cap)
  (hb : P.bytesOf e = bs) (h1 : bs * cap ≤ fj) (h2 : cap ≤ fj) (hz : ah P e = some z) (hzl : Nat.beq z.length w = true) : DW P o L h (fun k => .slice k 0 len (some cap)) (.cells (fO cap z) e false true) := DW.mk ho fun ev ha d ty ps aft g => by
 have a1 : Nat.ble len cap = true := by rw [eE]; exact decide_eq_true hle
 have a2 : Nat.ble (Nat.mul bs cap) fj = true := by rw [eE]; exact decide_eq_true h1
 have a3 : Nat.ble cap fj = true := by rw [eE]; exact decide_eq_true h2
 simp only [bO, (c7 hT ht).1, evS ha hx, evS ha hy, ad.isNat, qh, obS, a1, bcT, hb, a2, a3, hz, (cA hT he).2, hzl]
def vr (P : Program) (L : c6) (w : Nat) : List (Nat × Operand) → Option (List (Nat × Nat × ad))
 | [] => some []
 | p :: l => ob (eI P L p.2) fun v => ob (vr P L w l) fun r => some ((Nat.mul p.1 w, w, v) :: r)
theorem nt {w : Nat} {ev : Env} (ha : fu L ev) : ∀ {l : List (Nat × Operand)} {r : List (Nat × Nat × ad)}, vr P L w l = some r → l.map (fun p => (Nat.mul p.1 w, w, ev.eval P p.2)) = r
 | [], r, e => by cases e; rfl
 | p :: l, r, e => by
  simp only [vr] at e
  obtain ⟨v, e1, e2⟩ := aa.1 e
  obtain ⟨r', e3, e4⟩ := aa.1 e2
  cases e4
  simp only [List.map_cons, evS ha e1, nt ha e3]
theorem M.buildSlice {t e q w len : Nat} {i : TI} {parts : Array (Nat × Operand)} {ps : List (Nat × Nat × ad)} {z cs : List ad} (hT : bH P ax = true) (ho : o.op = .buildSlice t len parts) (ht : bN ax t = some (.slice e, q)) (he : bN ax e = some (i, w))
  (hle : Nat.ble (Nat.mul len w) 16777216 = true) (hz : ah P e = some z) (hzl : Nat.beq z.length w = true) (hp : vr P L w parts.toList = some ps) (hc : eY ps (fO len z) = some cs) : DW P o L h (fun k => .slice k 0 len (some len)) (.cells cs e false true) := DW.mk ho fun ev ha d ty ps' aft g => by
 simp only [bO, (c7 hT ht).1, (cA hT he).2, hle, bcT, hz, obS, hzl, nt ha hp, hc]
/-! ## Changes -/
end
end
end Go.HL
namespace Go.HL
open Go
noncomputable section
section
variable {P : Program} {K : ai} {ops : Array Oper} {o : Oper} {L : c6} {h h' : Heap} {m n : Nat} {R : c6 → Heap → Prop} {ax : iF}
def ar (P : Program) (f : Nat) : Prop := ∃ fn c, P.funcs[f]? = some fn ∧ fn.body = some c ∧ (fn.name == "runtime.NumGoroutine") = false ∧ Nat.blt f b7 = true
def vY (P : Program) (L : c6) : List Operand → Option (List ad)
 | [] => some []
 | x :: l => ob (eI P L x) fun v => ob (vY P L l) fun vs => some (v :: vs)
theorem sW {ev : Env} (ha : fu L ev) : ∀ {l : List Operand} {vs : List ad}, vY P L l = some vs → l.map (ev.eval P) = vs
 | [], vs, e => by cases e; rfl
 | x :: l, vs, e => by
  simp only [vY] at e
  obtain ⟨v, e1, e2⟩ := aa.1 e
  obtain ⟨r, e3, e4⟩ := aa.1 e2
  cases e4
  simp only [List.map_cons, evS ha e1, sW ha e3]
theorem C.call {c : Call} {x : Operand} {f : Nat} {args : List ad} (ho : o.op = .call c) (hc : c.callee = .value x) (hx : eI P L x = some (.func f [] [])) (ha : vY P L c.args.toList = some args) (hf : ar P f) : O3 P o L h f args := by
 refine ⟨fun ev hag => ?_, hf.elim fun _ ⟨_, _, _, _, h4⟩ => h4⟩
 obtain ⟨d, op, ty, ps, aft, g⟩ := o
 simp only at ho
 subst ho
 obtain ⟨fn, cd, h1, h2, h3, h4⟩ := hf
 simp only [bO, hc, evS hag hx, sW hag ha, oO, h1, h2, obS, h3, bcF, h4, bcT, List.nil_append, List.append_nil]
def Ac : ad → Option Nat
 | .slice k _ _ _ => some k
 | _ => none
theorem Row.jJ {k off : Nat} {l : List ad} (e : h'.get k = h.get k) (hr : Row h k off l) : Row h' k off l := by
 have hr := hr.load
 refine ⟨?_⟩
 unfold dZ Heap.cells at hr ⊢
 rw [e]; exact hr
structure Jm (h : Heap) (v : ad) (w : Nat) (rows : List (List ad)) : Prop where
 len : dA v = some rows.length
 row : ∀ i r, rows[i]? = some r → ∃ k off cap, v = .slice k off rows.length cap ∧ Row h k (Nat.add off (Nat.mul i w)) r
end
end
end Go.HL
