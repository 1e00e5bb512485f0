/- Runs of HL with an argument that is not closed: rules by code, region, operation. No statement of the seat stands here. -/
import Derived.Test.YtolkehkjhpnioaaGreatDoorHlG
set_option linter.unusedVariables false
set_option linter.unusedSimpArgs false
namespace Go.HL
open Go
section
variable (P : Program) (K : CallFn)
def Runs (c : Code) (s : St) (e : Ex) (s' : St) : Prop := ∃ n, ∀ m, n ≤ m → execH P K m c s = some (e, s')
def Does (f : Nat) (args : List HVal) (h : Heap) (v : HVal) (h' : Heap) : Prop := ∃ n, ∀ m, n ≤ m → callOr K (callWith P (execH P K m)) f args h = some (.ret v, h')
def Ops (ops : Array Oper) (l : List Oper) (s : St) (s' : St) : Prop := ∃ n, ∀ m, n ≤ m → regionH P (callOr K (callWith P (execH P K m))) ops l s = some (.nrm, s')
end
section
variable {P : Program} {K : CallFn} {s s1 s2 s' : St} {e : Ex} {a b c : Code}
theorem Runs.skip : Runs P K .skip s .nrm s := ⟨1, fun m hm => by obtain ⟨k, rfl⟩ : ∃ k, m = k + 1 := ⟨m - 1, by omega⟩; rfl⟩
theorem Runs.ret : Runs P K .ret s .ret s := ⟨1, fun m hm => by obtain ⟨k, rfl⟩ : ∃ k, m = k + 1 := ⟨m - 1, by omega⟩; rfl⟩
theorem Runs.exit {id : Nat} : Runs P K (.exit id) s (.exit id) s := ⟨1, fun m hm => by obtain ⟨k, rfl⟩ : ∃ k, m = k + 1 := ⟨m - 1, by omega⟩; rfl⟩
theorem exec_succ (m : Nat) (c : Code) (s : St) : execH P K (m + 1) c s = stepC P K (execH P K m) c s := rfl
theorem Runs.seq (h1 : Runs P K a s .nrm s1) (h2 : Runs P K b s1 e s2) : Runs P K (.seq a b) s e s2 := by
 obtain ⟨n1, g1⟩ := h1
 obtain ⟨n2, g2⟩ := h2
 refine ⟨max n1 n2 + 1, fun m hm => ?_⟩
 obtain ⟨k, rfl⟩ : ∃ k, m = k + 1 := ⟨m - 1, by omega⟩
 rw [exec_succ, stepC, g1 k (by omega), obS]
 exact g2 k (by omega)
theorem Runs.seq_ret (h1 : Runs P K a s .ret s1) : Runs P K (.seq a b) s .ret s1 := by
 obtain ⟨n1, g1⟩ := h1
 refine ⟨n1 + 1, fun m hm => ?_⟩
 obtain ⟨k, rfl⟩ : ∃ k, m = k + 1 := ⟨m - 1, by omega⟩
 rw [exec_succ, stepC, g1 k (by omega), obS]
theorem Runs.seq_exit {id : Nat} (h1 : Runs P K a s (.exit id) s1) : Runs P K (.seq a b) s (.exit id) s1 := by
 obtain ⟨n1, g1⟩ := h1
 refine ⟨n1 + 1, fun m hm => ?_⟩
 obtain ⟨k, rfl⟩ : ∃ k, m = k + 1 := ⟨m - 1, by omega⟩
 rw [exec_succ, stepC, g1 k (by omega), obS]
theorem Runs.cond {x : Operand} {t : Bool} (hx : s.env.eval P x = .bool t) (h : Runs P K (bif t then a else b) s e s') : Runs P K (.cond x a b) s e s' := by
 obtain ⟨n1, g1⟩ := h
 refine ⟨n1 + 1, fun m hm => ?_⟩
 obtain ⟨k, rfl⟩ : ∃ k, m = k + 1 := ⟨m - 1, by omega⟩
 rw [exec_succ, stepC, hx]
 have := g1 k (by omega)
 cases t <;> exact this
theorem Runs.block {id : Nat} (h : Runs P K a s .nrm s') : Runs P K (.block id a) s .nrm s' := by
 obtain ⟨n1, g1⟩ := h
 refine ⟨n1 + 1, fun m hm => ?_⟩
 obtain ⟨k, rfl⟩ : ∃ k, m = k + 1 := ⟨m - 1, by omega⟩
 rw [exec_succ, stepC, g1 k (by omega), obS]
theorem Runs.block_ret {id : Nat} (h : Runs P K a s .ret s') : Runs P K (.block id a) s .ret s' := by
 obtain ⟨n1, g1⟩ := h
 refine ⟨n1 + 1, fun m hm => ?_⟩
 obtain ⟨k, rfl⟩ : ∃ k, m = k + 1 := ⟨m - 1, by omega⟩
 rw [exec_succ, stepC, g1 k (by omega), obS]
theorem Runs.block_exit {id : Nat} (h : Runs P K a s (.exit id) s') : Runs P K (.block id a) s .nrm s' := by
 obtain ⟨n1, g1⟩ := h
 refine ⟨n1 + 1, fun m hm => ?_⟩
 obtain ⟨k, rfl⟩ : ∃ k, m = k + 1 := ⟨m - 1, by omega⟩
 rw [exec_succ, stepC, g1 k (by omega), obS]
 simp
theorem Runs.block_pass {id j : Nat} (hj : j ≠ id) (h : Runs P K a s (.exit j) s') : Runs P K (.block id a) s (.exit j) s' := by
 obtain ⟨n1, g1⟩ := h
 refine ⟨n1 + 1, fun m hm => ?_⟩
 obtain ⟨k, rfl⟩ : ∃ k, m = k + 1 := ⟨m - 1, by omega⟩
 rw [exec_succ, stepC, g1 k (by omega), obS]
 simp [nbeq, hj]
theorem Runs.loop (h1 : Runs P K a s .nrm s1) (h2 : Runs P K (.loop a) s1 e s2) : Runs P K (.loop a) s e s2 := by
 obtain ⟨n1, g1⟩ := h1
 obtain ⟨n2, g2⟩ := h2
 refine ⟨max n1 n2 + 1, fun m hm => ?_⟩
 obtain ⟨k, rfl⟩ : ∃ k, m = k + 1 := ⟨m - 1, by omega⟩
 rw [exec_succ, stepC, g1 k (by omega), obS]
 exact g2 k (by omega)
theorem Runs.loop_exit {id : Nat} (h1 : Runs P K a s (.exit id) s1) : Runs P K (.loop a) s (.exit id) s1 := by
 obtain ⟨n1, g1⟩ := h1
 refine ⟨n1 + 1, fun m hm => ?_⟩
 obtain ⟨k, rfl⟩ : ∃ k, m = k + 1 := ⟨m - 1, by omega⟩
 rw [exec_succ, stepC, g1 k (by omega), obS]
theorem Runs.loop_ret (h1 : Runs P K a s .ret s1) : Runs P K (.loop a) s .ret s1 := by
 obtain ⟨n1, g1⟩ := h1
 refine ⟨n1 + 1, fun m hm => ?_⟩
 obtain ⟨k, rfl⟩ : ∃ k, m = k + 1 := ⟨m - 1, by omega⟩
 rw [exec_succ, stepC, g1 k (by omega), obS]
theorem Runs.region {id : Nat} {ops : Array Oper} (hp : s.pan = .none) (h : Ops P K ops ops.toList s s1) (hf : flushed (.nrm, s1) = some (.nrm, s2)) : Runs P K (.region id ops false) s .nrm s2 := by
 obtain ⟨n1, g1⟩ := h
 refine ⟨n1 + 1, fun m hm => ?_⟩
 obtain ⟨k, rfl⟩ : ∃ k, m = k + 1 := ⟨m - 1, by omega⟩
 have hcf : callFor s.pan (callOr K (callWith P (execH P K k))) = callOr K (callWith P (execH P K k)) := by rw [hp]; rfl
 rw [exec_succ, stepC, bcF, hcf, g1 k (by omega), obS]
 exact hf
variable {ops : Array Oper} {o : Oper} {l : List Oper}
theorem Ops.nil : Ops P K ops [] s s := ⟨0, fun m _ => rfl⟩
theorem Ops.val {v : HVal} {h' : Heap} (hg : wantedH ops o s.env = some true) (hf : fits o.dst s.lim = true) (ho : opH P (s.env.eval P) s.heap o = some (.val v h')) (hr : Ops P K ops l (s.with o.dst v h') s') : Ops P K ops (o :: l) s s' := by
 obtain ⟨n, g⟩ := hr
 refine ⟨n, fun m hm => ?_⟩
 simp only [regionH, operH, hg, obS, hf, bcT, ho, afterH, force_eq]
 exact g m hm
end
end Go.HL
namespace Go.HL
open Go
section
variable {P : Program} {K : CallFn}
theorem Does.intro {f : Nat} {fn : Func} {c : Code} {args : List HVal} {h : Heap} {v : HVal} {s' : St} {e : Ex} (hK : K f args h = none) (hf : P.funcs[f]? = some fn) (hb : fn.body = some c) (hlt : f < roundNo)
  (hr : Runs P K c (enterSt fn args h .none) e s') (he : e = .nrm ∨ e = .ret) (hd : s'.defers = []) (hv : resOf P fn s' = some v) : Does P K f args h v s'.heap := by
 obtain ⟨n, g⟩ := hr
 refine ⟨n, fun m hm => ?_⟩
 have h1 : Nat.blt f roundNo = true := by rw [nblt]; exact decide_eq_true hlt
 have h2 : callFun P (execH P K m) f args h = some (.ret v, s'.heap) := by
  simp only [callFun, hf, obS, hb, g m hm]
  rcases he with rfl | rfl <;> simp only [hd, leaveH, hv, obS]
 simp only [callOr, hK, callWith, h1, bcT, h2]
end
end Go.HL
namespace Go.HL
open Go
noncomputable section
abbrev Sts := List (Nat × HVal)
abbrev F (loc vars : Sts) (h : Heap) (m n : Nat) : St := ⟨⟨loc, vars⟩, h, [], .none, m, n⟩
def flushV (mask : Nat) : Sts → Sts → Sts
 | [], vars => vars
 | p :: l, vars => bcase (bit mask p.1) (setAK (flushV mask l vars) p.1 p.2 id) (flushV mask l vars)
theorem setAK_id {β : Type} (d : Nat) (v : HVal) : ∀ (l : Sts) (k : Sts → β), setAK l d v k = k (setAK l d v id)
 | [], k => rfl
 | p :: l, k => by
  have h1 : ∀ {γ : Type} (k : Sts → γ), setAK (p :: l) d v k = @Bool.rec (fun _ => γ) (setAK l d v fun r => k (p :: r)) (k ((d, v) :: l)) (Nat.beq p.1 d) := fun _ => rfl
  rw [h1, h1, setAK_id d v l (fun r => k (p :: r)), setAK_id d v l (fun r => id (p :: r))]
  cases Nat.beq p.1 d <;> rfl
theorem flushK_V {β : Type} (mask : Nat) : ∀ (l vars : Sts) (k : Sts → β), flushK mask l vars k = k (flushV mask l vars)
 | [], _, _ => rfl
 | p :: l, vars, k => by
  simp only [flushK, flushV]
  rw [flushK_V mask l vars]
  cases bit mask p.1 with
  | true => simp only [bcT]; exact setAK_id _ _ _ _
  | false => rfl
section
variable (P : Program) (K : CallFn)
def Wp (c : Code) (s : St) (Q : Ex → St → Prop) : Prop := ∃ e s', Runs P K c s e s' ∧ Q e s'
def WOps (ops : Array Oper) (l : List Oper) (s : St) (Q : St → Prop) : Prop := ∃ s', Ops P K ops l s s' ∧ Q s'
end
section
variable {P : Program} {K : CallFn} {Q : Ex → St → Prop} {s : St} {a b c : Code} {loc vars : Sts} {h : Heap} {m n : Nat}
def afterSeq (P : Program) (K : CallFn) (b : Code) (Q : Ex → St → Prop) : Ex → St → Prop
 | .nrm, s => Wp P K b s Q
 | e, s => Q e s
theorem Wp.seq (h : Wp P K a s (afterSeq P K b Q)) : Wp P K (.seq a b) s Q := by
 obtain ⟨e, s1, h1, h2⟩ := h
 cases e with
 | nrm => obtain ⟨e2, s2, g1, g2⟩ := h2; exact ⟨e2, s2, h1.seq g1, g2⟩
 | exit id => exact ⟨_, s1, h1.seq_exit, h2⟩
 | ret => exact ⟨_, s1, h1.seq_ret, h2⟩
 | pan v =>
  refine ⟨_, s1, ?_, h2⟩
  obtain ⟨n1, g1⟩ := h1
  refine ⟨n1 + 1, fun m hm => ?_⟩
  obtain ⟨k, rfl⟩ : ∃ k, m = k + 1 := ⟨m - 1, by omega⟩
  rw [exec_succ, stepC, g1 k (by omega), obS]
theorem Wp.skip (h : Q .nrm s) : Wp P K .skip s Q := ⟨_, _, .skip, h⟩
theorem Wp.ret (h : Q .ret s) : Wp P K .ret s Q := ⟨_, _, .ret, h⟩
theorem Wp.exit {id : Nat} (h : Q (.exit id) s) : Wp P K (.exit id) s Q := ⟨_, _, .exit, h⟩
theorem Wp.cond {x : Operand} {t : Bool} (hx : s.env.eval P x = .bool t) (h1 : t = true → Wp P K a s Q) (h2 : t = false → Wp P K b s Q) : Wp P K (.cond x a b) s Q := by
 cases t with
 | true => obtain ⟨e, s', r, q⟩ := h1 rfl; exact ⟨e, s', .cond hx r, q⟩
 | false => obtain ⟨e, s', r, q⟩ := h2 rfl; exact ⟨e, s', .cond hx r, q⟩
def afterBlock (id : Nat) (Q : Ex → St → Prop) : Ex → St → Prop
 | .exit j, s => if j = id then Q .nrm s else Q (.exit j) s
 | e, s => Q e s
theorem Wp.block {id : Nat} (h : Wp P K a s (afterBlock id Q)) : Wp P K (.block id a) s Q := by
 obtain ⟨e, s1, h1, h2⟩ := h
 cases e with
 | nrm => exact ⟨_, _, h1.block, h2⟩
 | ret => exact ⟨_, _, h1.block_ret, h2⟩
 | exit j =>
  have h3 : if j = id then Q .nrm s1 else Q (.exit j) s1 := h2
  by_cases hj : j = id
  ·rw [if_pos hj] at h3; subst hj; exact ⟨_, _, h1.block_exit, h3⟩
  ·rw [if_neg hj] at h3; exact ⟨_, _, h1.block_pass hj, h3⟩
 | pan v =>
  refine ⟨_, s1, ?_, h2⟩
  obtain ⟨n1, g1⟩ := h1
  refine ⟨n1 + 1, fun m hm => ?_⟩
  obtain ⟨k, rfl⟩ : ∃ k, m = k + 1 := ⟨m - 1, by omega⟩
  rw [exec_succ, stepC, g1 k (by omega), obS]
theorem Wp.loop (h : Wp P K a s (afterSeq P K (.loop a) Q)) : Wp P K (.loop a) s Q := by
 obtain ⟨e, s1, h1, h2⟩ := h
 cases e with
 | nrm => obtain ⟨e2, s2, g1, g2⟩ := h2; exact ⟨e2, s2, h1.loop g1, g2⟩
 | exit id => exact ⟨_, s1, h1.loop_exit, h2⟩
 | ret => exact ⟨_, s1, h1.loop_ret, h2⟩
 | pan v =>
  refine ⟨_, s1, ?_, h2⟩
  obtain ⟨n1, g1⟩ := h1
  refine ⟨n1 + 1, fun m hm => ?_⟩
  obtain ⟨k, rfl⟩ : ∃ k, m = k + 1 := ⟨m - 1, by omega⟩
  rw [exec_succ, stepC, g1 k (by omega), obS]
theorem Wp.mono {Q' : Ex → St → Prop} (h : Wp P K a s Q) (hq : ∀ e s, Q e s → Q' e s) : Wp P K a s Q' := let ⟨e, s', r, q⟩ := h; ⟨e, s', r, hq e s' q⟩
/-! ## Operations -/
variable {ops : Array Oper} {o : Oper} {l : List Oper} {W : St → Prop}
theorem WOps.nil (h : W s) : WOps P K ops [] s W := ⟨s, .nil, h⟩
def putD? (d : Option Nat) (v : HVal) (loc : Sts) : Sts := match d with
 | none => loc
 | some d => (d, v) :: loc
theorem env_putD (d : Option Nat) (v : HVal) : (⟨loc, vars⟩ : Env).put d v = ⟨putD? d v loc, vars⟩ := by cases d <;> rfl
theorem WOps.val {v : HVal} {h' : Heap} (hg : wantedH ops o ⟨loc, vars⟩ = some true) (hf : fits o.dst n = true) (ho : opH P (Env.eval P ⟨loc, vars⟩) h o = some (.val v h')) (hr : WOps P K ops l (F (putD? o.dst v loc) vars h' m n) W) :
  WOps P K ops (o :: l) (F loc vars h m n) W := by
 obtain ⟨s', r, q⟩ := hr
 refine ⟨s', Ops.val hg hf ho ?_, q⟩
 show Ops P K ops l ⟨(⟨loc, vars⟩ : Env).put o.dst v, h', [], .none, m, n⟩ s'
 rw [env_putD]; exact r
theorem Does.of_wp {f : Nat} {fn : Func} {c : Code} {args : List HVal} {v : HVal} {h' : Heap} {mk lim : Nat} (hK : K f args h = none) (hf : P.funcs[f]? = some fn) (hb : fn.body = some c) (hlt : f < roundNo)
  (hm : Nat.lor (maskOf fn) (Nat.sub (Nat.pow 2 args.length) 1) = mk) (hl : Nat.add args.length (Nat.sub fn.ntmps args.length) = lim)
  (hw : Wp P K c (F [] (numbered args 0) h mk lim) fun e s' => (e = .nrm ∨ e = .ret) ∧ s'.defers = [] ∧ resOf P fn s' = some v ∧ s'.heap = h') : Does P K f args h v h' := by
 obtain ⟨e, s', r, he, hd, hv, rfl⟩ := hw
 refine Does.intro hK hf hb hlt (e := e) (s' := s') ?_ he hd hv
 have : enterSt fn args h .none = F [] (numbered args 0) h mk lim := by
  unfold enterSt; rw [hm, hl]
 rw [this]; exact r
end
end
end Go.HL
namespace Go.HL
open Go
noncomputable section
def look : Sts → Nat → Option HVal
 | [], _ => none
 | (j, v) :: l, i => bcase (Nat.beq j i) (some v) (look l i)
def Agree (L : Sts) (e : Env) : Prop := ∀ i v, look L i = some v → e.get i = v
structure Fr (m n : Nat) (L : Sts) (h : Heap) (s : St) : Prop where
 env : Agree L s.env
 heap : s.heap = h
 defers : s.defers = []
 pan : s.pan = .none
 mask : s.mask = m
 lim : s.lim = n
def evL (P : Program) (L : Sts) : Operand → Option HVal
 | .tmp t => look L t
 | .const v => ofValue v
 | .global g => bcase (Nat.blt g P.globals.size) (some (.ptr g 0)) none
 | .func f => some (.func f [] [])
theorem evS {P : Program} {L : Sts} {e : Env} (ha : Agree L e) {x : Operand} {v : HVal} (h : evL P L x = some v) : e.eval P x = v := by
 cases x with
 | tmp t => exact ha t v h
 | const c => show constH c = v; unfold constH; rw [show ofValue c = some v from h]
 | global g =>
  have h' : bcase (Nat.blt g P.globals.size) (some (HVal.ptr g 0)) none = some v := h
  show bcase (Nat.blt g P.globals.size) (HVal.ptr g 0) .bad = v
  cases hb : Nat.blt g P.globals.size <;> rw [hb] at h'
  ·cases h'
  ·exact Option.some.inj h'
 | func f => exact Option.some.inj h
theorem Agree.cons {L : Sts} {e : Env} (ha : Agree L e) (d : Nat) (v : HVal) : Agree ((d, v) :: L) (e.put (some d) v) := by
 intro i w hw
 show assoc2 ((d, v) :: e.loc) (assoc e.vars .bad i) i = w
 have h' : bcase (Nat.beq d i) (some v) (look L i) = some w := hw
 show @Bool.rec (fun _ => HVal) _ v (Nat.beq d i) = w
 cases hb : Nat.beq d i <;> rw [hb] at h'
 ·exact ha i w h'
 ·exact Option.some.inj h'
theorem Agree.putD {L : Sts} {e : Env} (ha : Agree L e) (d : Option Nat) (v : HVal) : Agree (putD? d v L) (e.put d v) := by
 cases d with
 | none => exact ha
 | some d => exact ha.cons d v
def wantL (ops : Array Oper) (o : Oper) (L : Sts) : Option Bool :=
 match o.guard with
 | none => some true
 | some g => match (ops[g.1]?).bind (·.dst) with
  | some d => match look L d with
   | some (.bool b) => some (bcase g.2 b (bcase b false true))
   | some (.tuple _) => some false
   | _ => none
  | none => none
theorem wantL_sound {ops : Array Oper} {o : Oper} {L : Sts} {e : Env} (ha : Agree L e) {b : Bool} (h : wantL ops o L = some b) : wantedH ops o e = some b := by
 unfold wantL at h
 unfold wantedH
 split at h
 ·rename_i hg; simp only [hg]; exact h
 ·rename_i g hg
  simp only [hg]
  split at h
  ·rename_i d hd
   simp only [hd]
   split at h
   ·rename_i b' hb; rw [ha _ _ hb]; exact h
   ·rename_i l hb; rw [ha _ _ hb]; exact h
   ·cases h
  ·cases h
/-! ## What an operation gives -/
def OpV (P : Program) (o : Oper) (L : Sts) (h : Heap) (v : HVal) (h' : Heap) : Prop := ∀ e : Env, Agree L e → opH P (e.eval P) h o = some (.val v h')
structure OpC (P : Program) (o : Oper) (L : Sts) (h : Heap) (f : Nat) (args : List HVal) : Prop where
 enter : ∀ e : Env, Agree L e → opH P (e.eval P) h o = some (.enter f args h)
 fn : Nat.blt f roundNo = true
def Step1 (P : Program) (K : CallFn) (ops : Array Oper) (o : Oper) (s s' : St) : Prop := ∃ n, ∀ m, n ≤ m → operH P (callOr K (callWith P (execH P K m))) ops o s = some (.nrm, s') ∧ operH P (gate (callOr K (callWith P (execH P K m)))) ops o s = some (.nrm, s')
structure Op1 (P : Program) (K : CallFn) (ops : Array Oper) (o : Oper) (L : Sts) (h : Heap) (m n : Nat) (R : Sts → Heap → Prop) : Prop where
 run : ∀ s, Fr m n L h s → ∃ s' L' h', Step1 P K ops o s s' ∧ Fr m n L' h' s' ∧ R L' h'
section
variable {P : Program} {K : CallFn} {ops : Array Oper} {o : Oper} {l : List Oper} {L : Sts} {h h' : Heap} {m n : Nat} {R : Sts → Heap → Prop} {v : HVal}
theorem Fr.with {s : St} (f : Fr m n L h s) (d : Option Nat) (v : HVal) (h' : Heap) : Fr m n (putD? d v L) h' (s.with d v h') :=
 ⟨f.env.putD d v, rfl, f.defers, f.pan, f.mask, f.lim⟩
theorem Op1.val (hv : OpV P o L h v h') (hw : wantL ops o L = some true) (hf : fits o.dst n = true) (hr : R (putD? o.dst v L) h') : Op1 P K ops o L h m n R := by
 constructor
 intro s f
 refine ⟨s.with o.dst v h', _, _, ⟨0, fun m _ => ?_⟩, f.with _ _ _, hr⟩
 have h1 := wantL_sound f.env hw
 have h2 : fits o.dst s.lim = true := by rw [f.lim]; exact hf
 have h3 : opH P (s.env.eval P) s.heap o = some (.val v h') := by rw [f.heap]; exact hv _ f.env
 constructor <;> simp only [operH, h1, obS, h2, bcT, h3, afterH, force_eq]
theorem Op1.skip {g : Nat × Bool} (hg : o.guard = some g) (hw : wantL ops o L = some false) (hf : fits o.dst n = true) (hr : R (putD? o.dst undefH L) h) : Op1 P K ops o L h m n R := by
 constructor
 intro s f
 refine ⟨s.with o.dst undefH s.heap, _, _, ⟨0, fun m _ => ?_⟩, ?_, hr⟩
 ·have h1 := wantL_sound f.env hw
  have h2 : fits o.dst s.lim = true := by rw [f.lim]; exact hf
  constructor <;> simp only [operH, h1, obS, h2, bcT, bcF]
 ·rw [f.heap]; exact f.with _ _ _
theorem Op1.call {f : Nat} {args : List HVal} (ho : OpC P o L h f args) (hw : wantL ops o L = some true) (hf : fits o.dst n = true) (hd : Does P K f args h v h') (hr : R (putD? o.dst v L) h') : Op1 P K ops o L h m n R := by
 constructor
 intro s fr
 obtain ⟨N, g⟩ := hd
 refine ⟨s.with o.dst v h', _, _, ⟨N, fun m hm => ?_⟩, fr.with _ _ _, hr⟩
 have h1 := wantL_sound fr.env hw
 have h2 : fits o.dst s.lim = true := by rw [fr.lim]; exact hf
 have h3 : opH P (s.env.eval P) s.heap o = some (.enter f args h) := by rw [fr.heap]; exact ho.enter _ fr.env
 constructor <;> simp only [operH, h1, obS, h2, bcT, h3, afterH, gate, ho.fn, g m hm, force_eq]
theorem Op1.mono {R' : Sts → Heap → Prop} (ho : Op1 P K ops o L h m n R) (hr : ∀ L h, R L h → R' L h) : Op1 P K ops o L h m n R' := ⟨fun s f => let ⟨s', L', h', a, b, c⟩ := ho.run s f; ⟨s', L', h', a, b, hr _ _ c⟩⟩
end
/-! ## Regions and code -/
structure WO (P : Program) (K : CallFn) (ops : Array Oper) (l : List Oper) (L : Sts) (h : Heap) (m n : Nat) (R : Sts → Heap → Prop) : Prop where
 run : ∀ s, Fr m n L h s → ∃ s' L' h', Ops P K ops l s s' ∧ Fr m n L' h' s' ∧ R L' h'
structure WC (P : Program) (K : CallFn) (c : Code) (L : Sts) (h : Heap) (m n : Nat) (Q : Ex → St → Prop) : Prop where
 run : ∀ s, Fr m n L h s → Wp P K c s Q
structure To (Q : Ex → St → Prop) (e : Ex) (L : Sts) (h : Heap) (m n : Nat) : Prop where
 run : ∀ s, Fr m n L h s → Q e s
def keepL (m : Nat) : Sts → (Sts → Option Sts) → Option Sts
 | [], k => k []
 | (i, v) :: l, k => bcase (bit m i) (keepL m l fun r => k ((i, v) :: r)) (keepL m l k)
def keepF (m : Nat) (L : Sts) : Sts := L.filter fun p => bit m p.1
theorem keepL_eq (m : Nat) : ∀ (L : Sts) (k : Sts → Option Sts), keepL m L k = k (keepF m L)
 | [], k => by simp [keepL, keepF]
 | (i, v) :: l, k => by
  unfold keepL
  cases hb : bit m i with
  | true => rw [bcT, keepL_eq m l]; simp [keepF, hb]
  | false => rw [bcF, keepL_eq m l]; simp [keepF, hb]
theorem look_keepF {m : Nat} : ∀ {L : Sts} {i : Nat} {v : HVal}, look (keepF m L) i = some v → bit m i = true ∧ look L i = some v
 | [], i, v, h => by cases h
 | p :: l, i, v, h => by
  cases hb : bit m p.1 with
  | true =>
   have e : keepF m (p :: l) = p :: keepF m l := by simp [keepF, hb]
   rw [e] at h
   simp only [look] at h ⊢
   cases hp : Nat.beq p.1 i with
   | true =>
    rw [hp] at h
    have : p.1 = i := Nat.eq_of_beq_eq_true hp
    exact ⟨this ▸ hb, h⟩
   | false => rw [hp] at h; exact look_keepF h
  | false =>
   have e : keepF m (p :: l) = keepF m l := by simp [keepF, hb]
   rw [e] at h
   obtain ⟨h1, h2⟩ := look_keepF h
   refine ⟨h1, ?_⟩
   simp only [look]
   cases hp : Nat.beq p.1 i with
   | true =>
    have : p.1 = i := Nat.eq_of_beq_eq_true hp
    rw [this, h1] at hb; cases hb
   | false => exact h2
theorem assoc_setAK (key : Nat) (v : HVal) (l : Sts) (d : HVal) (j : Nat) : assoc (setAK l key v id) d j = if key = j then v else assoc l d j := by
 obtain ⟨mm, h1, h2⟩ := setAK_eq (β := Sts) key v l id
 rw [h1]; exact h2 d j
theorem get_flushV {m : Nat} : ∀ (loc vars : Sts) (i : Nat), bit m i = true → assoc (flushV m loc vars) .bad i = assoc2 loc (assoc vars .bad i) i
 | [], vars, i, hi => rfl
 | p :: l, vars, i, hi => by
  show assoc (bcase (bit m p.1) (setAK (flushV m l vars) p.1 p.2 id) (flushV m l vars)) .bad i = @Bool.rec (fun _ => HVal) (assoc2 l (assoc vars .bad i) i) p.2 (Nat.beq p.1 i)
  have ih := get_flushV l vars i hi
  cases hp : Nat.beq p.1 i with
  | true =>
   have e : p.1 = i := Nat.eq_of_beq_eq_true hp
   rw [e, hi, bcT, assoc_setAK, if_pos rfl]
  | false =>
   have e : p.1 ≠ i := fun e => by rw [e, nbeq, decide_eq_true rfl] at hp; cases hp
   cases hb : bit m p.1 with
   | true => rw [bcT, assoc_setAK, if_neg e]; exact ih
   | false => rw [bcF]; exact ih
section
variable {P : Program} {K : CallFn} {ops : Array Oper} {o : Oper} {l : List Oper} {L L' : Sts} {h h' : Heap} {m n : Nat} {R : Sts → Heap → Prop} {Q : Ex → St → Prop} {a b c : Code}
theorem WO.nil (hr : R L h) : WO P K ops [] L h m n R := ⟨fun s f => ⟨s, L, h, .nil, f, hr⟩⟩
theorem WO.cons (ho : Op1 P K ops o L h m n fun L' h' => WO P K ops l L' h' m n R) : WO P K ops (o :: l) L h m n R := by
 constructor
 intro s f
 obtain ⟨s1, L1, h1, g1, f1, w⟩ := ho.run s f
 obtain ⟨s2, L2, h2, g2, f2, r⟩ := w.run s1 f1
 refine ⟨s2, L2, h2, ?_, f2, r⟩
 obtain ⟨n1, k1⟩ := g1
 obtain ⟨n2, k2⟩ := g2
 refine ⟨max n1 n2, fun m hm => ?_⟩
 simp only [regionH, (k1 m (by omega)).1, obS]
 exact k2 m (by omega)
theorem flushed_of (s : St) : ∃ s', flushed (.nrm, s) = some (.nrm, s') ∧ (∀ i, bit s.mask i = true → s'.env.get i = s.env.get i) ∧ s'.heap = s.heap ∧ s'.defers = s.defers ∧ s'.pan = s.pan ∧ s'.mask = s.mask ∧ s'.lim = s.lim := by
 refine ⟨⟨⟨[], flushV s.mask s.env.loc s.env.vars⟩, s.heap, s.defers, s.pan, s.mask, s.lim⟩, ?_, fun i hi => get_flushV _ _ _ hi, rfl, rfl, rfl, rfl, rfl⟩
 show flushK s.mask s.env.loc s.env.vars (fun vars => some (Ex.nrm, (⟨⟨[], vars⟩, s.heap, s.defers, s.pan, s.mask, s.lim⟩ : St))) = _
 rw [flushK_V]
theorem Fr.flush {s : St} (f : Fr m n L h s) (hk : keepL m L some = some L') : ∃ s', flushed (.nrm, s) = some (.nrm, s') ∧ Fr m n L' h s' := by
 obtain ⟨s', e, g1, g2, g3, g4, g5, g6⟩ := flushed_of s
 refine ⟨s', e, ⟨fun i v hv => ?_, g2.trans f.heap, g3.trans f.defers, g4.trans f.pan, g5.trans f.mask, g6.trans f.lim⟩⟩
 rw [keepL_eq] at hk
 have e : keepF m L = L' := Option.some.inj hk
 rw [← e] at hv
 obtain ⟨h1, h2⟩ := look_keepF hv
 rw [g1 i (by rw [f.mask]; exact h1)]
 exact f.env i v h2
structure Then (m n : Nat) (Q : Ex → St → Prop) (L : Sts) (h : Heap) : Prop where
 run : ∃ L', keepL m L some = some L' ∧ To Q .nrm L' h m n
theorem Then.intro (hk : keepL m L some = some L') (g : To Q .nrm L' h m n) : Then m n Q L h := ⟨L', hk, g⟩
theorem WC.region {id : Nat} (hw : WO P K ops ops.toList L h m n (Then m n Q)) : WC P K (.region id ops false) L h m n Q := by
 constructor
 intro s f
 obtain ⟨s1, L1, h1, g1, f1, ⟨L2, hk, q⟩⟩ := hw.run s f
 obtain ⟨s2, e, f2⟩ := f1.flush hk
 exact ⟨_, _, Runs.region f.pan g1 e, q.run s2 f2⟩
theorem WC.seq (hw : WC P K a L h m n (afterSeq P K b Q)) : WC P K (.seq a b) L h m n Q := ⟨fun s f => Wp.seq (hw.run s f)⟩
theorem WC.skip (hw : To Q .nrm L h m n) : WC P K .skip L h m n Q := ⟨fun s f => Wp.skip (hw.run s f)⟩
theorem WC.ret (hw : To Q .ret L h m n) : WC P K .ret L h m n Q := ⟨fun s f => Wp.ret (hw.run s f)⟩
theorem WC.exit {id : Nat} (hw : To Q (.exit id) L h m n) : WC P K (.exit id) L h m n Q := ⟨fun s f => Wp.exit (hw.run s f)⟩
theorem WC.block {id : Nat} (hw : WC P K a L h m n (afterBlock id Q)) : WC P K (.block id a) L h m n Q := ⟨fun s f => Wp.block (hw.run s f)⟩
theorem WC.loop (hw : WC P K a L h m n (afterSeq P K (.loop a) Q)) : WC P K (.loop a) L h m n Q := ⟨fun s f => Wp.loop (hw.run s f)⟩
theorem WC.cond_true {x : Operand} (hx : evL P L x = some (.bool true)) (hw : WC P K a L h m n Q) : WC P K (.cond x a b) L h m n Q := ⟨fun s f =>
 Wp.cond (t := true) (evS f.env hx) (fun _ => hw.run s f) (fun e => by cases e)⟩
theorem WC.cond_false {x : Operand} (hx : evL P L x = some (.bool false)) (hw : WC P K b L h m n Q) : WC P K (.cond x a b) L h m n Q := ⟨fun s f =>
 Wp.cond (t := false) (evS f.env hx) (fun e => by cases e) (fun _ => hw.run s f)⟩
def Subs : Sts → Sts → Prop
 | [], _ => True
 | (i, v) :: l, L => look L i = some v ∧ Subs l L
theorem Subs.look : ∀ {l L : Sts}, Subs l L → ∀ {i : Nat} {v : HVal}, look l i = some v → look L i = some v
 | p :: l, L, hs, i, v, hl => by
  simp only [HL.look] at hl
  cases hp : Nat.beq p.1 i with
  | true => rw [hp] at hl; have e : p.1 = i := Nat.eq_of_beq_eq_true hp; cases hl; rw [← e]; exact hs.1
  | false => rw [hp] at hl; exact hs.2.look hl
theorem Fr.sub {s : St} (f : Fr m n L h s) (hs : Subs L' L) : Fr m n L' h s := ⟨fun i v hv => f.env i v (hs.look hv), f.heap, f.defers, f.pan, f.mask, f.lim⟩
theorem WC.sub (hs : Subs L' L) (hw : WC P K c L' h m n Q) : WC P K c L h m n Q := ⟨fun s f => hw.run s (f.sub hs)⟩
theorem To.nrm_seq (hw : WC P K b L h m n Q) : To (afterSeq P K b Q) .nrm L h m n := ⟨hw.run⟩
theorem To.exit_seq {id : Nat} (g : To Q (.exit id) L h m n) : To (afterSeq P K b Q) (.exit id) L h m n := ⟨g.run⟩
theorem To.ret_seq (g : To Q .ret L h m n) : To (afterSeq P K b Q) .ret L h m n := ⟨g.run⟩
theorem To.nrm_block {id : Nat} (g : To Q .nrm L h m n) : To (afterBlock id Q) .nrm L h m n := ⟨g.run⟩
theorem To.ret_block {id : Nat} (g : To Q .ret L h m n) : To (afterBlock id Q) .ret L h m n := ⟨g.run⟩
theorem To.exit_block {id : Nat} (g : To Q .nrm L h m n) : To (afterBlock id Q) (.exit id) L h m n := ⟨fun s f => by
 show if id = id then Q .nrm s else Q (.exit id) s
 rw [if_pos rfl]; exact g.run s f⟩
/-! ## Functions -/
def Sp (P : Program) (K : CallFn) (f : Nat) (args : List HVal) (h : Heap) (R : HVal → Heap → Prop) : Prop := ∃ v h', Does P K f args h v h' ∧ R v h'
def FnQ (P : Program) (fn : Func) (R : HVal → Heap → Prop) (e : Ex) (s : St) : Prop := (e = .nrm ∨ e = .ret) ∧ s.defers = [] ∧ ∃ v, resOf P fn s = some v ∧ R v s.heap
def resL (L : Sts) : List ResultVar → Option (List HVal)
 | [] => some []
 | r :: l => match r with
  | .tmp t => ob (look L t) fun v => ob (resL L l) fun vs => some (v :: vs)
  | .cell _ _ => none
def resV : List HVal → HVal
 | [v] => v
 | l => .tuple l
theorem resL_sound {s : St} (f : Fr m n L h s) : ∀ {l : List ResultVar} {vs : List HVal}, resL L l = some vs → resList P s l = some vs
 | [], vs, e => e
 | r :: l, vs, e => by
  cases r with
  | cell a t => cases e
  | tmp t =>
   simp only [resL] at e
   obtain ⟨v, e1, e2⟩ := ob_eq_some.1 e
   obtain ⟨vs', e3, e4⟩ := ob_eq_some.1 e2
   cases e4
   simp only [resList, resL_sound f e3, obS, f.env t v e1]
theorem To.fn {fn : Func} {R : HVal → Heap → Prop} {vs : List HVal} {e : Ex} (he : e = .nrm ∨ e = .ret) (hv : resL L fn.results.toList = some vs) (hr : R (resV vs) h) : To (FnQ P fn R) e L h m n := by
 constructor
 intro s f
 refine ⟨he, f.defers, resV vs, ?_, by rw [f.heap]; exact hr⟩
 unfold resOf
 rw [resL_sound f hv, obS]
 cases vs with
 | nil => rfl
 | cons v l => cases l <;> rfl
theorem Fr.enter {args : List HVal} {s : St} (hs : s = F [] (numbered args 0) h m n) : Fr m n (numbered args 0) h s := by
 subst hs
 refine ⟨fun i v hv => ?_, rfl, rfl, rfl, rfl, rfl⟩
 show assoc (numbered args 0) .bad i = v
 generalize numbered args 0 = l at hv
 induction l with
 | nil => cases hv
 | cons p l ih =>
  simp only [look] at hv
  show @Bool.rec (fun _ => HVal) (assoc l .bad i) p.2 (Nat.beq p.1 i) = v
  cases hp : Nat.beq p.1 i with
  | true => rw [hp] at hv; exact Option.some.inj hv
  | false => rw [hp] at hv; exact ih hv
def numL : List HVal → Option Sts
 | [] => some []
 | [a] => some [(0, a)]
 | [a, b] => some [(0, a), (1, b)]
 | [a, b, c] => some [(0, a), (1, b), (2, c)]
 | [a, b, c, d] => some [(0, a), (1, b), (2, c), (3, d)]
 | [a, b, c, d, e] => some [(0, a), (1, b), (2, c), (3, d), (4, e)]
 | _ => none
theorem numL_eq {args : List HVal} {L : Sts} (hn : numL args = some L) : numbered args 0 = L := by
 unfold numL at hn
 split at hn <;> first | (cases hn; rfl) | cases hn
theorem Sp.of {f : Nat} {fn : Func} {c : Code} {args : List HVal} {R : HVal → Heap → Prop} (hK : K f args h = none) (hf : P.funcs[f]? = some fn) (hb : fn.body = some c) (hlt : Nat.blt f roundNo = true)
  (hm : Nat.lor (maskOf fn) (Nat.sub (Nat.pow 2 args.length) 1) = m) (hl : Nat.add args.length (Nat.sub fn.ntmps args.length) = n)
  (hn : numL args = some L) (hw : WC P K c L h m n (FnQ P fn R)) : Sp P K f args h R := by
 rw [← numL_eq hn] at hw
 obtain ⟨e, s', r, he, hd, v, hv, hr⟩ := hw.run _ (Fr.enter rfl)
 refine ⟨v, s'.heap, ?_, hr⟩
 refine Does.of_wp hK hf hb ?_ hm hl ⟨e, s', r, he, hd, hv, rfl⟩
 rw [nblt] at hlt
 exact of_decide_eq_true hlt
theorem Op1.sp {f : Nat} {args : List HVal} {S : HVal → Heap → Prop} {R : Sts → Heap → Prop} (ho : OpC P o L h f args) (hw : wantL ops o L = some true) (hf : fits o.dst n = true) (hd : Sp P K f args h S) (hr : ∀ v h', S v h' → R (putD? o.dst v L) h') : Op1 P K ops o L h m n R := by
 obtain ⟨v, h', d, sv⟩ := hd
 exact Op1.call ho hw hf d (hr v h' sv)
end
end
end Go.HL
namespace Go.HL
open Go
noncomputable section
/-! ## Memories -/
def Wf (h : Heap) : Prop := ∀ k, h.next ≤ k → h.get k = none
structure Grow (h h' : Heap) : Prop where
 get : ∀ {k o}, h.get k = some o → h'.get k = some o
 next : h.next ≤ h'.next
theorem Grow.refl (h : Heap) : Grow h h := ⟨fun e => e, Nat.le_refl _⟩
theorem Grow.trans {a b c : Heap} (h : Grow a b) (g : Grow b c) : Grow a c := ⟨fun e => g.get (h.get e), Nat.le_trans h.next g.next⟩
structure Made (h : Heap) (k : Nat) (o : HObj) (h' : Heap) : Prop where
 get : h'.get k = some o
 ext : Grow h h'
 fresh : h.get k = none
 wf : Wf h'
 le : h.next ≤ k
 lt : k < h'.next
 old : ∀ j, j ≠ k → h'.get j = h.get j
theorem made_new {h : Heap} (w : Wf h) (o : HObj) : Made h h.next o (h.new o) := by
 have hf := w _ (Nat.le_refl _)
 refine ⟨by simp, ⟨fun {k o'} e => ?_, Nat.le_succ _⟩, hf, fun k hk => ?_, Nat.le_refl _, Nat.lt_succ_self _, fun j hj => by simp [hj]⟩
 ·rw [Heap.get_new, if_neg]; exact e
  rintro rfl; rw [hf] at e; cases e
 ·rw [Heap.get_new, if_neg (by rintro rfl; exact absurd hk (Nat.not_le.2 (Nat.lt_succ_self _)))]
  exact w k (Nat.le_trans (Nat.le_succ _) hk)
structure Put (h : Heap) (k : Nat) (o : HObj) (h' : Heap) : Prop where
 get : h'.get k = some o
 old : ∀ j, j ≠ k → h'.get j = h.get j
 next : h'.next = h.next
 wf : Wf h'
theorem put_put {h : Heap} (w : Wf h) {k : Nat} (o : HObj) (hk : k < h.next) : Put h k o (h.put k o) := by
 refine ⟨by simp, fun j hj => by simp [hj], rfl, fun j hj => ?_⟩
 have : h.next ≤ j := hj
 rw [Heap.get_put, if_neg (by omega)]
 exact w j this
theorem Wf.lt {h : Heap} (w : Wf h) {k : Nat} {o : HObj} (e : h.get k = some o) : k < h.next := Nat.lt_of_not_le fun hle => by rw [w k hle] at e; cases e
theorem Put.ext {h0 h h' : Heap} {k : Nat} {o : HObj} (p : Put h k o h') (e : Grow h0 h) (hk : h0.get k = none) : Grow h0 h' :=
 ⟨fun {j o'} g => by rw [p.old j (by rintro rfl; rw [hk] at g; cases g)]; exact e.get g, by rw [p.next]; exact e.next⟩
/-! ## Types -/
inductive TI where
 | bool
 | int (k : IntKind)
 | str
 | slice (e : Nat)
 | map (k e : Nat)
 | struct (fs : List (Nat × Nat))
 | array (n e : Nat)
 | ref
def fieldsB : List Field → List (Nat × Nat) → Bool
 | [], [] => true
 | f :: l, p :: m => bcase (Nat.beq f.offset p.1) (bcase (Nat.beq f.type p.2) (fieldsB l m) false) false
 | _, _ => false
def tiOk (P : Program) (t : Nat) : TI → Bool
 | .bool => match P.underlying t with | some .bool => true | _ => false
 | .int k => match P.underlying t with | some (.int j) => sameKind j k | _ => false
 | .str => match P.underlying t with | some .string => true | _ => false
 | .slice e => match P.underlying t with | some (.slice e') => bcase (Nat.beq e' e) (match P.info? e with | some _ => true | none => false) false | _ => false
 | .map k e => match P.underlying t with | some (.map k' e') => bcase (Nat.beq k' k) (Nat.beq e' e) false | _ => false
 | .struct l => match P.underlying t with | some (.struct fs) => fieldsB fs.toList l | _ => false
 | .array n e => match P.underlying t with | some (.array n' e') => bcase (Nat.beq n' n) (bcase (Nat.beq e' e) (match P.info? e with | some _ => true | none => false) false) false | _ => false
 | .ref => match P.underlying t with | some d => bcase (aggDesc d) false true | none => false
abbrev Tab := List (Nat × TI × Nat)
def tabOk (P : Program) : Tab → Bool
 | [] => true
 | p :: l => bcase (tiOk P p.1 p.2.1) (bcase (Nat.beq (P.cellsOf p.1) p.2.2) (tabOk P l) false) false
def tyL : Tab → Nat → Option (TI × Nat)
 | [], _ => none
 | p :: l, t => bcase (Nat.beq p.1 t) (some p.2) (tyL l t)
section
variable {P : Program} {tab : Tab}
theorem tab_ok (hT : tabOk P tab = true) {t : Nat} {i : TI} {n : Nat} (h : tyL tab t = some (i, n)) : tiOk P t i = true ∧ P.cellsOf t = n := by
 induction tab with
 | nil => cases h
 | cons p l ih =>
  simp only [tabOk, bcFe] at hT
  obtain ⟨h1, h2, h3⟩ := hT
  simp only [tyL] at h
  cases hb : Nat.beq p.1 t with
  | true =>
   rw [hb] at h
   have e := Nat.eq_of_beq_eq_true hb
   have e2 := Option.some.inj h
   rw [← e]
   rw [e2] at h1 h2
   exact ⟨h1, Nat.eq_of_beq_eq_true h2⟩
  | false => rw [hb] at h; exact ih h3 h
theorem tab_slice (hT : tabOk P tab = true) {t e n : Nat} (h : tyL tab t = some (.slice e, n)) : P.underlying t = some (.slice e) ∧ (∃ i, P.info? e = some i) := by
 have h1 := (tab_ok hT h).1
 simp only [tiOk] at h1
 cases hu : P.underlying t with
 | none => rw [hu] at h1; cases h1
 | some d =>
  rw [hu] at h1
  cases d <;> simp only at h1 <;> try (cases h1; done)
  obtain ⟨a, b⟩ := bcFe.1 h1
  have a' := Nat.eq_of_beq_eq_true a
  subst a'
  cases hi : P.info? _ with
  | none => rw [hi] at b; cases b
  | some i => exact ⟨rfl, i, rfl⟩
theorem tab_str (hT : tabOk P tab = true) {t n : Nat} (h : tyL tab t = some (.str, n)) : P.underlying t = some .string := by
 have h1 := (tab_ok hT h).1
 simp only [tiOk] at h1
 cases hu : P.underlying t with
 | none => rw [hu] at h1; cases h1
 | some d => rw [hu] at h1; cases d <;> simp only at h1 <;> first | (cases h1; done) | rfl
theorem tab_bool (hT : tabOk P tab = true) {t n : Nat} (h : tyL tab t = some (.bool, n)) : P.underlying t = some .bool := by
 have h1 := (tab_ok hT h).1
 simp only [tiOk] at h1
 cases hu : P.underlying t with
 | none => rw [hu] at h1; cases h1
 | some d => rw [hu] at h1; cases d <;> simp only at h1 <;> first | (cases h1; done) | rfl
theorem tab_int (hT : tabOk P tab = true) {t n : Nat} {k : IntKind} (h : tyL tab t = some (.int k, n)) : P.underlying t = some (.int k) := by
 have h1 := (tab_ok hT h).1
 simp only [tiOk] at h1
 cases hu : P.underlying t with
 | none => rw [hu] at h1; cases h1
 | some d => rw [hu] at h1; cases d <;> simp only at h1 <;> first | (cases h1; done) | (rw [sameKind_eq h1])
theorem tab_map (hT : tabOk P tab = true) {t k e n : Nat} (h : tyL tab t = some (.map k e, n)) : P.underlying t = some (.map k e) := by
 have h1 := (tab_ok hT h).1
 simp only [tiOk] at h1
 cases hu : P.underlying t with
 | none => rw [hu] at h1; cases h1
 | some d =>
  rw [hu] at h1
  cases d <;> simp only at h1 <;> try (cases h1; done)
  obtain ⟨a, b⟩ := bcFe.1 h1
  rw [Nat.eq_of_beq_eq_true a, Nat.eq_of_beq_eq_true b]
theorem fieldsB_get {fs : List Field} : ∀ {l : List (Nat × Nat)}, fieldsB fs l = true → ∀ {i : Nat} {p : Nat × Nat}, nth l i = some p → ∃ f, fs[i]? = some f ∧ f.offset = p.1 ∧ f.type = p.2 := by
 induction fs with
 | nil => intro l h i p hp; cases l with | nil => simp at hp | cons => cases h
 | cons f fs ih =>
  intro l h i p hp
  cases l with
  | nil => cases h
  | cons q l =>
   simp only [fieldsB, bcFe] at h
   obtain ⟨h1, h2, h3⟩ := h
   cases i with
   | zero => simp at hp; subst hp; exact ⟨f, rfl, Nat.eq_of_beq_eq_true h1, Nat.eq_of_beq_eq_true h2⟩
   | succ i => simp at hp; simpa using ih h3 hp
theorem tab_struct (hT : tabOk P tab = true) {t n : Nat} {l : List (Nat × Nat)} (h : tyL tab t = some (.struct l, n)) : ∃ fs : Array Field, P.underlying t = some (.struct fs) ∧ fieldsB fs.toList l = true := by
 have h1 := (tab_ok hT h).1
 simp only [tiOk] at h1
 cases hu : P.underlying t with
 | none => rw [hu] at h1; cases h1
 | some d =>
  rw [hu] at h1
  cases d <;> simp only at h1 <;> try (cases h1; done)
  exact ⟨_, rfl, h1⟩
theorem tab_array (hT : tabOk P tab = true) {t n e q : Nat} (h : tyL tab t = some (.array n e, q)) : P.underlying t = some (.array n e) ∧ ∃ i, P.info? e = some i := by
 have h1 := (tab_ok hT h).1
 simp only [tiOk] at h1
 cases hu : P.underlying t with
 | none => rw [hu] at h1; cases h1
 | some d =>
  rw [hu] at h1
  cases d <;> simp only at h1 <;> try (cases h1; done)
  obtain ⟨a, b⟩ := bcFe.1 h1
  obtain ⟨b, c⟩ := bcFe.1 b
  refine ⟨by rw [Nat.eq_of_beq_eq_true a, Nat.eq_of_beq_eq_true b], ?_⟩
  cases hi : P.info? e with
  | none => rw [hi] at c; cases c
  | some i => exact ⟨i, rfl⟩
theorem tab_ref (hT : tabOk P tab = true) {t q : Nat} (h : tyL tab t = some (.ref, q)) : ∃ d, P.underlying t = some d ∧ aggDesc d = false := by
 have h1 := (tab_ok hT h).1
 simp only [tiOk] at h1
 cases hu : P.underlying t with
 | none => rw [hu] at h1; cases h1
 | some d =>
  rw [hu] at h1
  simp only at h1
  refine ⟨d, rfl, ?_⟩
  cases hd : aggDesc d with
  | true => rw [hd] at h1; cases h1
  | false => rfl
def TI.agg : TI → Bool
 | .struct _ => true
 | .array _ _ => true
 | _ => false
theorem tab_agg (hT : tabOk P tab = true) {t n : Nat} {i : TI} (h : tyL tab t = some (i, n)) : aggOf P t = some i.agg := by
 cases i with
 | bool => simp only [aggOf, tab_bool hT h, obS]; rfl
 | int k => simp only [aggOf, tab_int hT h, obS]; rfl
 | str => simp only [aggOf, tab_str hT h, obS]; rfl
 | slice e => simp only [aggOf, (tab_slice hT h).1, obS]; rfl
 | map k e => simp only [aggOf, tab_map hT h, obS]; rfl
 | struct l => obtain ⟨fs, hu, _⟩ := tab_struct hT h; simp only [aggOf, hu, obS]; rfl
 | array n e => simp only [aggOf, (tab_array hT h).1, obS]; rfl
 | ref => obtain ⟨d, hu, hd⟩ := tab_ref hT h; simp only [aggOf, hu, obS, hd]; rfl
end
/-! ## Values -/
section
variable {P : Program} {o : Oper} {L : Sts} {h h' : Heap} {v : HVal}
theorem OpV.mk {op : Op} (ho : o.op = op) (hx : ∀ e : Env, Agree L e → ∀ d t p a g, opH P (e.eval P) h ⟨d, op, t, p, a, g⟩ = some (.val v h')) : OpV P o L h v h' := by
 intro e ha
 obtain ⟨d, op', t, p, a, g⟩ := o
 simp only at ho
 subst ho
 exact hx e ha d t p a g
theorem V.move {x : Operand} (ho : o.op = .move x) (hx : evL P L x = some v) : OpV P o L h v h := OpV.mk ho fun ev ha d ty ps aft g => by
 simp only [opH, evS ha hx]
theorem V.assign {x : Operand} (ho : o.op = .assign x) (hx : evL P L x = some v) : OpV P o L h v h := OpV.mk ho fun ev ha d ty ps aft g => by
 simp only [opH, evS ha hx]
theorem V.pick_true {c x y : Operand} (ho : o.op = .pick c x y) (hc : evL P L c = some (.bool true)) (hx : evL P L x = some v) : OpV P o L h v h := OpV.mk ho fun ev ha d ty ps aft g => by
 simp only [opH, evS ha hc, evS ha hx, HVal.isBool, obS, bcT]
theorem V.pick_false {c x y : Operand} (ho : o.op = .pick c x y) (hc : evL P L c = some (.bool false)) (hy : evL P L y = some v) : OpV P o L h v h := OpV.mk ho fun ev ha d ty ps aft g => by
 simp only [opH, evS ha hc, evS ha hy, HVal.isBool, obS, bcF]
theorem V.not_true {t : Nat} {x : Operand} (ho : o.op = .unOp .not t x) (hx : evL P L x = some (.bool true)) : OpV P o L h (.bool false) h := OpV.mk ho fun ev ha d ty ps aft g => by
 simp only [opH, evS ha hx, unH, bcT]; rfl
theorem V.not_false {t : Nat} {x : Operand} (ho : o.op = .unOp .not t x) (hx : evL P L x = some (.bool false)) : OpV P o L h (.bool true) h := OpV.mk ho fun ev ha d ty ps aft g => by
 simp only [opH, evS ha hx, unH, bcF]; rfl
theorem V.not {t : Nat} {x : Operand} {b : Bool} (ho : o.op = .unOp .not t x) (hx : evL P L x = some (.bool b)) : OpV P o L h (.bool (!b)) h := OpV.mk ho fun ev ha d ty ps aft g => by
 simp only [opH, evS ha hx, unH]; cases b <;> rfl
theorem V.extract {x : Operand} {i : Nat} {l : List HVal} (ho : o.op = .extract x i) (hx : evL P L x = some (.tuple l)) (hv : nth l i = some v) : OpV P o L h v h := OpV.mk ho fun ev ha d ty ps aft g => by
 simp only [opH, evS ha hx, HVal.isTuple, obS, hv, HL.val]
/-! numbers -/
def cmpI : BinOp → Int → Int → Option Bool
 | .eql, a, b => some (decide (a = b))
 | .neq, a, b => some (decide (a ≠ b))
 | .lss, a, b => some (decide (a < b))
 | .leq, a, b => some (decide (a ≤ b))
 | .gtr, a, b => some (decide (b < a))
 | .geq, a, b => some (decide (b ≤ a))
 | _, _, _ => none
theorem V.cmp {bo : BinOp} {t p : Nat} {x y : Operand} {k j : IntKind} {a b : Int} {r : Bool} (ho : o.op = .binOp bo t x y p) (hx : evL P L x = some (.int k a)) (hy : evL P L y = some (.int j b)) (hk : sameKind k j = true) (hr : cmpI bo a b = some r) : OpV P o L h (.bool r) h := OpV.mk ho fun ev ha d ty ps aft g => by
 cases bo <;> simp only [cmpI] at hr <;> try (cases hr; done)
 all_goals cases hr; simp only [opH, evS ha hx, evS ha hy, binC, binH, hk, bcT, intOp, ieq_eq, ile_eq, ilt_eq, HL.val, obS]
 by_cases hab : a = b <;> simp [hab]
theorem V.add {t p : Nat} {x y : Operand} {k j : IntKind} {a b c : Int} (ho : o.op = .binOp .add t x y p) (hx : evL P L x = some (.int k a)) (hy : evL P L y = some (.int j b)) (hk : sameKind k j = true) (hr : wrapF k (a + b) = c) : OpV P o L h (.int k c) h := OpV.mk ho fun ev ha d ty ps aft g => by
 simp only [opH, evS ha hx, evS ha hy, binC, binH, hk, bcT, intOp, HL.val, obS]
 rw [← hr]; rfl
theorem V.sub {t p : Nat} {x y : Operand} {k j : IntKind} {a b c : Int} (ho : o.op = .binOp .sub t x y p) (hx : evL P L x = some (.int k a)) (hy : evL P L y = some (.int j b)) (hk : sameKind k j = true) (hr : wrapF k (a - b) = c) : OpV P o L h (.int k c) h := OpV.mk ho fun ev ha d ty ps aft g => by
 simp only [opH, evS ha hx, evS ha hy, binC, binH, hk, bcT, intOp, HL.val, obS]
 rw [← hr]; rfl
theorem wI {n : Int} (h1 : -9223372036854775808 ≤ n) (h2 : n ≤ 9223372036854775807) : wrapF .i64 n = n := by
 unfold wrapF
 cases n with
 | ofNat n =>
  have : inKind .i64 (.ofNat n) = true := by
   show Nat.ble n 9223372036854775807 = true
   rw [nble]; simp only [Int.ofNat_eq_natCast] at h2; exact decide_eq_true (by omega)
  rw [this]; rfl
 | negSucc n =>
  have : inKind .i64 (.negSucc n) = true := by
   show bcase (Nat.blt 3 (kindNo .i64)) false (Nat.ble n 9223372036854775807) = true
   have : Nat.ble n 9223372036854775807 = true := by rw [nble]; exact decide_eq_true (by omega)
   rw [this]; rfl
  rw [this]; rfl
/-! strings -/
theorem V.eqS {t p : Nat} {x y : Operand} {n c m d : Nat} (ho : o.op = .binOp .eql t x y p) (hx : evL P L x = some (.str n c)) (hy : evL P L y = some (.str m d)) : OpV P o L h (.bool (decide (n = m ∧ c = d))) h := OpV.mk ho fun ev ha d ty ps aft g => by
 simp only [opH, evS ha hx, evS ha hy, binC, binH, strOp, HL.val, obS, sEq, nbeq, bcE]
 by_cases h1 : n = m <;> simp [h1]
/-! memory -/
theorem cells_get {k : Nat} {l : List HVal} {e : Nat} {s r : Bool} (hg : h.get k = some (.cells l e s r)) : h.cells k = some (l, e, s, r) := by
 unfold Heap.cells; rw [hg]; rfl
theorem V.load {tab : Tab} (hT : tabOk P tab = true) {t k off n : Nat} {x : Operand} {i : TI} {l : List HVal} {e : Nat} {s r : Bool} (ho : o.op = .load t x) (ht : tyL tab t = some (i, n)) (hi : i.agg = false) (hx : evL P L x = some (.ptr k off)) (hg : h.get k = some (.cells l e s r)) (hv : nth l off = some v) : OpV P o L h v h := OpV.mk ho fun ev ha d ty ps aft g => by
 simp only [opH, evS ha hx, HVal.isPtr, obS, loadT, tab_agg hT ht, hi, bcF, load1, cells_get hg, hv, HL.val]
structure Row (h : Heap) (k off : Nat) (l : List HVal) : Prop where
 load : loadN h k off l.length = some l
theorem Row.nth {k off : Nat} {l : List HVal} (hr : Row h k off l) {j : Nat} (hv : nth l j = some v) : load1 h k (Nat.add off j) = some v := by
 have hr := hr.load
 unfold loadN at hr
 obtain ⟨o, ho, e⟩ := ob_eq_some.1 hr
 rw [takeK_eq, dropN_eq] at e
 split at e
 ·rename_i hle
  have e' := Option.some.inj e
  unfold load1
  rw [ho, obS, nth_eq]
  rw [nth_eq] at hv
  have hj : j < l.length := (List.getElem?_eq_some_iff.1 hv).1
  rw [← e', List.getElem?_take, if_pos hj, List.getElem?_drop] at hv
  exact hv
 ·cases e
theorem V.loadR {tab : Tab} (hT : tabOk P tab = true) {t k off j n : Nat} {x : Operand} {i : TI} {l : List HVal} (ho : o.op = .load t x) (ht : tyL tab t = some (i, n)) (hi : i.agg = false) (hx : evL P L x = some (.ptr k (Nat.add off j))) (hr : Row h k off l) (hv : nth l j = some v) : OpV P o L h v h := OpV.mk ho fun ev ha d ty ps aft g => by
 simp only [opH, evS ha hx, HVal.isPtr, obS, loadT, tab_agg hT ht, hi, bcF, hr.nth hv, HL.val]
theorem V.loadR0 {tab : Tab} (hT : tabOk P tab = true) {t k off n : Nat} {x : Operand} {i : TI} {l : List HVal} (ho : o.op = .load t x) (ht : tyL tab t = some (i, n)) (hi : i.agg = false) (hx : evL P L x = some (.ptr k off)) (hr : Row h k off l) (hv : nth l 0 = some v) : OpV P o L h v h := OpV.mk ho fun ev ha d ty ps aft g => by
 have := hr.nth hv
 simp only [Nat.add_eq, Nat.add_zero] at this
 simp only [opH, evS ha hx, HVal.isPtr, obS, loadT, tab_agg hT ht, hi, bcF, this, HL.val]
theorem V.loadRS {tab : Tab} (hT : tabOk P tab = true) {t k off n : Nat} {x : Operand} {i : TI} {l : List HVal} (ho : o.op = .load t x) (ht : tyL tab t = some (i, n)) (hi : i.agg = true) (hx : evL P L x = some (.ptr k off)) (hr : Row h k off l) (hl : Nat.beq l.length n = true) : OpV P o L h (.agg l) h := OpV.mk ho fun ev ha d ty ps aft g => by
 have hl' := Nat.eq_of_beq_eq_true hl
 have hr := hr.load
 rw [hl'] at hr
 simp only [opH, evS ha hx, HVal.isPtr, obS, loadT, tab_agg hT ht, hi, bcT, (tab_ok hT ht).2, hr, HL.val]
theorem V.fieldAddr {tab : Tab} (hT : tabOk P tab = true) {t k off f n m : Nat} {x : Operand} {fs : List (Nat × Nat)} {q : Nat × Nat} {i : TI} (ho : o.op = .fieldAddr t x f) (ht : tyL tab t = some (.struct fs, n)) (hf : nth fs f = some q) (hq : tyL tab q.2 = some (i, m)) (hm : Nat.beq m 0 = false) (hx : evL P L x = some (.ptr k off)) : OpV P o L h (.ptr k (Nat.add off q.1)) h := OpV.mk ho fun ev ha d ty ps aft g => by
 obtain ⟨fl, hu, hb⟩ := tab_struct hT ht
 obtain ⟨fd, h1, h2, h3⟩ := fieldsB_get hb hf
 have h1' : fl[f]? = some fd := by simpa using h1
 simp only [opH, hu, evS ha hx, HVal.isPtr, obS, h1', h3, (tab_ok hT hq).2, hm, bcF, h2]
theorem V.indexAddr {tab : Tab} (hT : tabOk P tab = true) {t e n k off len w : Nat} {cap : Option Nat} {x y : Operand} {kd : IntKind} {j : Nat} {i : TI} (ho : o.op = .indexAddr t x y) (ht : tyL tab t = some (.slice e, n)) (he : tyL tab e = some (i, w)) (hx : evL P L x = some (.slice k off len cap)) (hy : evL P L y = some (.int kd (.ofNat j))) (hj : j < len) : OpV P o L h (.ptr k (Nat.add off (Nat.mul j w))) h := OpV.mk ho fun ev ha d ty ps aft g => by
 obtain ⟨hu, inf, hi⟩ := tab_slice hT ht
 have h1 : elemOk P t = true := by simp only [elemOk, hu, hi]
 have h2 : Nat.blt j len = true := by rw [nblt]; exact decide_eq_true hj
 simp only [opH, h1, bcT, evS ha hy, HVal.isNat, natOf, obS, hu, evS ha hx, h2, (tab_ok hT he).2]
theorem V.indexS {tab : Tab} (hT : tabOk P tab = true) {t n m c : Nat} {x y : Operand} {kd : IntKind} {j : Nat} (ho : o.op = .index t x y) (ht : tyL tab t = some (.str, n)) (hx : evL P L x = some (.str m c)) (hy : evL P L y = some (.int kd (.ofNat j))) (hj : j < m) : OpV P o L h (.int .u8 (Int.ofNat (sIndex m c j))) h := OpV.mk ho fun ev ha d ty ps aft g => by
 have hu := tab_str hT ht
 have h1 : elemOk P t = true := by simp only [elemOk, hu]
 have h2 : Nat.blt j m = true := by rw [nblt]; exact decide_eq_true hj
 simp only [opH, h1, bcT, evS ha hy, HVal.isNat, natOf, obS, hu, evS ha hx, h2]
/-! lengths -/
def lenV : HVal → Option Nat
 | .nils => some 0
 | .slice _ _ n _ => some n
 | .rest _ => some 0
 | .empty => some 0
 | _ => none
theorem V.len {tab : Tab} (hT : tabOk P tab = true) {c : Call} {x : Operand} {t e n m : Nat} {s : HVal} (ho : o.op = .call c) (hc : c.callee = .builtin .len) (hx : c.args = #[x]) (hts : c.argTypes[0]? = some t) (ht : tyL tab t = some (.slice e, n)) (hs : evL P L x = some s) (hm : lenV s = some m) : OpV P o L h (.int .i64 (m : Int)) h := OpV.mk ho fun ev ha d ty ps aft g => by
 have hu := (tab_slice hT ht).1
 simp only [opH, hc, hx, List.map_cons, List.map_nil, builtinH, hts, lenH, hu, evS ha hs]
 cases s <;> simp only [lenV] at hm <;> try (cases hm; done)
 all_goals cases hm; rfl
theorem V.lenS {tab : Tab} (hT : tabOk P tab = true) {c : Call} {x : Operand} {t n m cc : Nat} (ho : o.op = .call c) (hc : c.callee = .builtin .len) (hx : c.args = #[x]) (hts : c.argTypes[0]? = some t) (ht : tyL tab t = some (.str, n)) (hs : evL P L x = some (.str m cc)) : OpV P o L h (.int .i64 (m : Int)) h := OpV.mk ho fun ev ha d ty ps aft g => by
 have hu := tab_str hT ht
 simp only [opH, hc, hx, List.map_cons, List.map_nil, builtinH, hts, lenH, hu, evS ha hs]
 rfl
/-! i32 to i64 -/
end
end
end Go.HL
namespace Go.HL
open Go
noncomputable section
section
variable {P : Program} {K : CallFn} {ops : Array Oper} {o : Oper} {L : Sts} {h : Heap} {m n : Nat} {R : Sts → Heap → Prop} {tab : Tab}
theorem Op1.bool {b : Bool} (hv : OpV P o L h (.bool b) h) (hw : wantL ops o L = some true) (hf : fits o.dst n = true) (h1 : b = true → R (putD? o.dst (.bool true) L) h) (h0 : b = false → R (putD? o.dst (.bool false) L) h) : Op1 P K ops o L h m n R := by
 cases b with
 | true => exact Op1.val hv hw hf (h1 rfl)
 | false => exact Op1.val hv hw hf (h0 rfl)
/-! ## New objects -/
def OpM (P : Program) (o : Oper) (L : Sts) (h : Heap) (f : Nat → HVal) (ob : HObj) : Prop := ∀ e : Env, Agree L e → opH P (e.eval P) h o = some (.val (f h.next) (h.new ob))
theorem OpM.mk {f : Nat → HVal} {obj : HObj} {op : Op} (ho : o.op = op) (hx : ∀ e : Env, Agree L e → ∀ d t p a g, opH P (e.eval P) h ⟨d, op, t, p, a, g⟩ = some (.val (f h.next) (h.new obj))) : OpM P o L h f obj := by
 intro e ha
 obtain ⟨d, op', t, p, a, g⟩ := o
 simp only at ho
 subst ho
 exact hx e ha d t p a g
theorem Op1.made {f : Nat → HVal} {obj : HObj} (hm : OpM P o L h f obj) (hw : wantL ops o L = some true) (hf : fits o.dst n = true) (w : Wf h) (hr : ∀ k h', Made h k obj h' → R (putD? o.dst (f k) L) h') : Op1 P K ops o L h m n R :=
 Op1.val (fun e ha => hm e ha) hw hf (hr _ _ (made_new w obj))
theorem M.box {e : Nat} {x : Operand} {v : HVal} {l : List HVal} (ho : o.op = .box e x) (hx : evL P L x = some v) (hl : v.cells = some l) : OpM P o L h (fun k => .ptr k 0) (.cells l e false true) := OpM.mk ho fun ev ha d ty ps aft g => by
 simp only [opH, evS ha hx, hl, obS]
theorem M.alloc {e : Nat} {z : List HVal} (ho : o.op = .alloc e) (hz : zeroCells? P e = some z) : OpM P o L h (fun k => .ptr k 0) (.cells z e false true) := OpM.mk ho fun ev ha d ty ps aft g => by
 simp only [opH, hz, obS]
theorem M.map {t kt e q : Nat} (hT : tabOk P tab = true) (ho : o.op = .makeMap t none) (ht : tyL tab t = some (.map kt e, q)) : OpM P o L h (fun k => .map k) (.map [] 0 true) := OpM.mk ho fun ev ha d ty ps aft g => by
 simp only [opH, tab_map hT ht]
theorem M.slice {t e q w len cap bs : Nat} {i : TI} {kd kd' : IntKind} {x y : Operand} {z : List HVal} (hT : tabOk P tab = true) (ho : o.op = .makeSlice t x y) (ht : tyL tab t = some (.slice e, q)) (he : tyL tab e = some (i, w)) (hx : evL P L x = some (.int kd (.ofNat len))) (hy : evL P L y = some (.int kd' (.ofNat cap))) (hle : len ≤ cap)
  (hb : P.bytesOf e = bs) (h1 : bs * cap ≤ roomH) (h2 : cap ≤ roomH) (hz : zeroCells? P e = some z) (hzl : Nat.beq z.length w = true) : OpM P o L h (fun k => .slice k 0 len (some cap)) (.cells (repl cap z) e false true) := OpM.mk ho fun ev ha d ty ps aft g => by
 have a1 : Nat.ble len cap = true := by rw [nble]; exact decide_eq_true hle
 have a2 : Nat.ble (Nat.mul bs cap) roomH = true := by rw [nble]; exact decide_eq_true h1
 have a3 : Nat.ble cap roomH = true := by rw [nble]; exact decide_eq_true h2
 simp only [opH, (tab_slice hT ht).1, evS ha hx, evS ha hy, HVal.isNat, natOf, obS, a1, bcT, hb, a2, a3, hz, (tab_ok hT he).2, hzl]
def fillV (P : Program) (L : Sts) (w : Nat) : List (Nat × Operand) → Option (List (Nat × Nat × HVal))
 | [] => some []
 | p :: l => ob (evL P L p.2) fun v => ob (fillV P L w l) fun r => some ((Nat.mul p.1 w, w, v) :: r)
theorem fillV_sound {w : Nat} {ev : Env} (ha : Agree L ev) : ∀ {l : List (Nat × Operand)} {r : List (Nat × Nat × HVal)}, fillV P L w l = some r → l.map (fun p => (Nat.mul p.1 w, w, ev.eval P p.2)) = r
 | [], r, e => by cases e; rfl
 | p :: l, r, e => by
  simp only [fillV] at e
  obtain ⟨v, e1, e2⟩ := ob_eq_some.1 e
  obtain ⟨r', e3, e4⟩ := ob_eq_some.1 e2
  cases e4
  simp only [List.map_cons, evS ha e1, fillV_sound ha e3]
theorem M.buildSlice {t e q w len : Nat} {i : TI} {parts : Array (Nat × Operand)} {ps : List (Nat × Nat × HVal)} {z cs : List HVal} (hT : tabOk P tab = true) (ho : o.op = .buildSlice t len parts) (ht : tyL tab t = some (.slice e, q)) (he : tyL tab e = some (i, w))
  (hle : Nat.ble (Nat.mul len w) 16777216 = true) (hz : zeroCells? P e = some z) (hzl : Nat.beq z.length w = true) (hp : fillV P L w parts.toList = some ps) (hc : fillH ps (repl len z) = some cs) : OpM P o L h (fun k => .slice k 0 len (some len)) (.cells cs e false true) := OpM.mk ho fun ev ha d ty ps' aft g => by
 simp only [opH, (tab_slice hT ht).1, (tab_ok hT he).2, hle, bcT, hz, obS, hzl, fillV_sound ha hp, hc]
/-! ## Changes -/
end
end
end Go.HL
namespace Go.HL
open Go
noncomputable section
section
variable {P : Program} {K : CallFn} {ops : Array Oper} {o : Oper} {L : Sts} {h h' : Heap} {m n : Nat} {R : Sts → Heap → Prop} {tab : Tab}
def Callable (P : Program) (f : Nat) : Prop := ∃ fn c, P.funcs[f]? = some fn ∧ fn.body = some c ∧ (fn.name == "runtime.NumGoroutine") = false ∧ Nat.blt f roundNo = true
def argsV (P : Program) (L : Sts) : List Operand → Option (List HVal)
 | [] => some []
 | x :: l => ob (evL P L x) fun v => ob (argsV P L l) fun vs => some (v :: vs)
theorem argsV_sound {ev : Env} (ha : Agree L ev) : ∀ {l : List Operand} {vs : List HVal}, argsV P L l = some vs → l.map (ev.eval P) = vs
 | [], vs, e => by cases e; rfl
 | x :: l, vs, e => by
  simp only [argsV] at e
  obtain ⟨v, e1, e2⟩ := ob_eq_some.1 e
  obtain ⟨r, e3, e4⟩ := ob_eq_some.1 e2
  cases e4
  simp only [List.map_cons, evS ha e1, argsV_sound ha e3]
theorem C.call {c : Call} {x : Operand} {f : Nat} {args : List HVal} (ho : o.op = .call c) (hc : c.callee = .value x) (hx : evL P L x = some (.func f [] [])) (ha : argsV P L c.args.toList = some args) (hf : Callable P f) : OpC P o L h f args := by
 refine ⟨fun ev hag => ?_, hf.elim fun _ ⟨_, _, _, _, h4⟩ => h4⟩
 obtain ⟨d, op, ty, ps, aft, g⟩ := o
 simp only at ho
 subst ho
 obtain ⟨fn, cd, h1, h2, h3, h4⟩ := hf
 simp only [opH, hc, evS hag hx, argsV_sound hag ha, callH, h1, h2, obS, h3, bcF, h4, bcT, List.nil_append, List.append_nil]
def keyV : HVal → Option Nat
 | .slice k _ _ _ => some k
 | _ => none
theorem Row.keep {k off : Nat} {l : List HVal} (e : h'.get k = h.get k) (hr : Row h k off l) : Row h' k off l := by
 have hr := hr.load
 refine ⟨?_⟩
 unfold loadN Heap.cells at hr ⊢
 rw [e]; exact hr
structure SliceAt (h : Heap) (v : HVal) (w : Nat) (rows : List (List HVal)) : Prop where
 len : lenV v = some rows.length
 row : ∀ i r, rows[i]? = some r → ∃ k off cap, v = .slice k off rows.length cap ∧ Row h k (Nat.add off (Nat.mul i w)) r
end
end
end Go.HL
