/- Runs of HL with an argument that is not closed: rules for operations, slices, structs. No statement of the seat stands here. -/
import Derived.Test.YtngeipnhbigdmaaGreatDoorSA
set_option linter.unusedVariables false
set_option linter.unusedSimpArgs false
namespace Go.HL
open Go
noncomputable section
section
variable {P : Program} {K : ai} {ops : Array Oper} {o : Oper} {L : c6} {h h' : Heap} {m n : Nat} {R : c6 → Heap → Prop} {ax : iF}
def nR (P : Program) (ax : iF) (L : c6) (fs : List (Nat × Nat)) : List (Nat × Operand) → Option (List (Nat × Nat × ad))
 | [] => some []
 | p :: l => ob (nth fs p.1) fun f => ob (bN ax f.2) fun w => ob (eI P L p.2) fun v => ob (nR P ax L fs l) fun r => some ((f.1, w.2, v) :: r)
theorem oG (hT : bH P ax = true) {ev : Env} (ha : fu L ev) {fl : List Field} {fs : List (Nat × Nat)} (hb : jZ fl fs = true) : ∀ {l : List (Nat × Operand)} {r : List (Nat × Nat × ad)}, nR P ax L fs l = some r → placesOf P fl (ev.eval P) l = some r
 | [], r, e => by cases e; rfl
 | p :: l, r, e => by
  simp only [nR] at e
  obtain ⟨f, e1, e2⟩ := aa.1 e
  obtain ⟨w, e3, e4⟩ := aa.1 e2
  obtain ⟨v, e5, e6⟩ := aa.1 e4
  obtain ⟨r', e7, e8⟩ := aa.1 e6
  cases e8
  obtain ⟨fd, g1, g2, g3⟩ := sN hb e1
  have g1' : nth fl p.1 = some fd := by rw [cf]; exact g1
  simp only [placesOf, g1', obS, oG hT ha hb e7, g2, g3, (cA hT (i := w.1) (n := w.2) e3).2, evS ha e5]
def nD (ax : iF) : List (Nat × Nat) → Bool
 | [] => true
 | p :: l => match bN ax p.2 with | some _ => nD ax l | none => false
theorem Af (hT : bH P ax = true) : ∀ {fl : List Field} {fs : List (Nat × Nat)}, jZ fl fs = true → nD ax fs = true → iP P fl = true
 | [], _, _, _ => rfl
 | f :: fl, [], h, _ => by cases h
 | f :: fl, q :: fs, h, h2 => by
  simp only [jZ, bcFe] at h
  obtain ⟨_, g2, g3⟩ := h
  simp only [nD] at h2
  cases ht : bN ax q.2 with
  | none => rw [ht] at h2; cases h2
  | some w =>
   rw [ht] at h2
   have hag := iM hT (i := w.1) (n := w.2) ht
   unfold gj at hag
   obtain ⟨d, hd, _⟩ := aa.1 hag
   rw [← Nat.eq_of_beq_eq_true g2] at hd
   obtain ⟨inf, hi⟩ := info_of_underlying hd
   simp only [iP, hi]
   exact Af hT g3 h2
theorem V.build {t q : Nat} {parts : Array (Nat × Operand)} {fs : List (Nat × Nat)} {ps : List (Nat × Nat × ad)} {z cs : List ad} (hT : bH P ax = true) (ho : o.op = .build t parts) (ht : bN ax t = some (.struct fs, q)) (hz : ah P t = some z) (hp : nR P ax L fs parts.toList = some ps) (ha : nD ax fs = true)
  (hc : eY ps z = some cs) : cD P o L h (.agg cs) h := cD.mk ho fun ev hag d ty pp aft g => by
 obtain ⟨fl, hu, hb⟩ := oV hT ht
 simp only [bO, hz, obS, hu, Af hT hb ha, bcT, oG hT hag hb hp, hc]
end
end
end Go.HL
namespace Go.HL
open Go
noncomputable section
section
variable {P : Program} {K : ai} {ops : Array Oper} {o : Oper} {L L' : c6} {h h' : Heap} {m n : Nat} {Q : Ex → St → Prop} {a : Code}
/-! ## Regions whose order is open -/
inductive AL where
 | read (j : Nat) (o : Oper) (L : c6) (v : ad)
 | change (e : Nat) (a b : Heap)
def I6 : AL → cE → Prop
 | .read j o L v, .read j' o' env v' => j = j' ∧ o = o' ∧ v = v' ∧ fu L env
 | .change e a b, .change e' a' b' => e = e' ∧ a = a' ∧ b = b'
 | _, _ => False
def w6 : List AL → List cE → Prop
 | [], [] => True
 | x :: l, y :: m => I6 x y ∧ w6 l m
 | _, _ => False
def mK (P : Program) (ops : Array Oper) (i : Nat) (o : Oper) (L : c6) (h : Heap) (L' : c6) (h' : Heap) (al : List AL) : Option (List AL) :=
 ae (aB P o) (some (.change i h h' :: al)) (ae (bY P o) (match o.dst with
  | some d => match j9 ops o L with
   | some true => match look L' d with
    | some v => some (.read i o L v :: al)
    | none => none
   | some false => some al
   | none => none
  | none => none) (some al))
structure WD (P : Program) (K : ai) (ops : Array Oper) (pl : List Nat) (al : List AL) (L : c6) (h : Heap) (m n : Nat) (R : List AL → c6 → Heap → Prop) : Prop where
 run : ∀ s log, Fr m n L h s → w6 al log → ∃ s' log' al' L' h', (∃ N, ∀ k, N ≤ k → dO P (gate (eG K (cC P (jx P K k)))) ops (Region.before ops) pl log none s = some (log', none, s')) ∧ w6 al' log' ∧ Fr m n L' h' s' ∧ R al' L' h'
variable {pl : List Nat} {al : List AL} {R : List AL → c6 → Heap → Prop}
theorem WD.nil (hr : R al L h) : WD P K ops [] al L h m n R := ⟨fun s log f hl => ⟨s, log, al, L, h, ⟨0, fun _ _ => rfl⟩, hl, f, hr⟩⟩
theorem WD.cons {i : Nat} (hi : ops[i]? = some o) (ho : gy P K ops o L h m n fun L' h' => ∃ al', mK P ops i o L h L' h' al = some al' ∧ WD P K ops pl al' L' h' m n R) : WD P K ops (i :: pl) al L h m n R := by
 constructor
 intro s log f hl
 obtain ⟨s1, L1, h1, ⟨N1, g1⟩, f1, al1, hu, w⟩ := ho.run s f
 have main : ∃ log1, w6 al1 log1 ∧ ∀ call : ai, fm P call ops o s = some (.dh, s1) → ∀ rest, dO P call ops (Region.before ops) (i :: rest) log none s = dO P call ops (Region.before ops) rest log1 none s1 := by
  unfold mK at hu
  cases hc : aB P o with
  | true =>
   rw [hc, bcT] at hu
   cases hu
   refine ⟨.change i s.heap s1.heap :: log, ⟨⟨rfl, f.heap.symm, f1.heap.symm⟩, hl⟩, fun call hcall rest => ?_⟩
   simp only [dO, nh, bcF, hi, obS, hcall, hc, bcT]
  | false =>
   rw [hc, bcF] at hu
   cases hr : bY P o with
   | false =>
    rw [hr, bcF] at hu
    cases hu
    refine ⟨log, hl, fun call hcall rest => ?_⟩
    simp only [dO, nh, bcF, hi, obS, hcall, hc, hr]
   | true =>
    rw [hr, bcT] at hu
    cases hd : o.dst with
    | none => rw [hd] at hu; cases hu
    | some d =>
     rw [hd] at hu
     simp only at hu
     cases hw : j9 ops o L with
     | none => rw [hw] at hu; cases hu
     | some b =>
      rw [hw] at hu
      have hw' := jN f.env hw
      cases b with
      | false =>
       cases hu
       refine ⟨log, hl, fun call hcall rest => ?_⟩
       simp only [dO, nh, bcF, hi, obS, hcall, hc, hr, bcT, hd, hw']
      | true =>
       simp only at hu
       cases hv : look L1 d with
       | none => rw [hv] at hu; cases hu
       | some v =>
        rw [hv] at hu
        cases hu
        refine ⟨.read i o s.env (s1.env.get d) :: log, ⟨⟨rfl, rfl, (f1.env _ _ hv).symm, f.env⟩, hl⟩, fun call hcall rest => ?_⟩
        simp only [dO, nh, bcF, hi, obS, hcall, hc, hr, bcT, hd, hw']
 obtain ⟨log1, hl1, hstep⟩ := main
 obtain ⟨s2, log2, al2, L2, h2, ⟨N2, g2⟩, hl2, f2, r⟩ := w.run s1 log1 f1 hl1
 refine ⟨s2, log2, al2, L2, h2, ⟨max N1 N2, fun k hk => ?_⟩, hl2, f2, r⟩
 rw [hstep _ (g1 k (by omega)).2]
 exact g2 k (by omega)
def s5 (P : Program) (bU : Array Nat) (j : Nat) (o : Oper) (L : c6) (v : ad) : List AL → Prop
 | [] => True
 | .change e a b :: l => ((ae (bit (bU.getD j 0) e) true (bit (bU.getD e 0) j)) = true ∨ (∃ x y, cD P o L a v x ∧ cD P o L b v y) ∧ ad.beq v v = true) ∧ s5 P bU j o L v l
 | .read _ _ _ _ :: l => s5 P bU j o L v l
def Ib (P : Program) (bU : Array Nat) (al : List AL) : List AL → Prop
 | [] => True
 | .read j o L v :: l => s5 P bU j o L v al ∧ Ib P bU al l
 | .change _ _ _ :: l => Ib P bU al l
theorem ru {bU : Array Nat} {j : Nat} {o : Oper} {L : c6} {v : ad} {env : Env} (ha : fu L env) : ∀ {al : List AL} {log : List cE}, w6 al log → s5 P bU j o L v al → iB P bU j o env v log = true
 | [], [], _, _ => rfl
 | [], _ :: _, h, _ => by cases h
 | _ :: _, [], h, _ => by cases h
 | .read _ _ _ _ :: al, y :: log, h, r => by
  cases y with
  | read j' o' env' v' =>
   show iB P bU j o env v log = true
   exact ru ha h.2 r
  | change e a b => exact absurd h.1 (by simp [I6])
 | .change e a b :: al, y :: log, h, r => by
  cases y with
  | read j' o' env' v' => exact absurd h.1 (by simp [I6])
  | change e' a' b' =>
   obtain ⟨⟨rfl, rfl, rfl⟩, h2⟩ := h
   have ih := ru ha h2 r.2
   simp only [iB, ih]
   rcases r.1 with g | ⟨⟨x, y, g1, g2⟩, g3⟩
   ·rw [g]; rfl
   ·have e1 : dt P o env v a = true := by simp only [dt, g1 env ha]; exact g3
    have e2 : dt P o env v b = true := by simp only [dt, g2 env ha]; exact g3
    rw [e1, e2]
    generalize (ae (bit (bU.getD j 0) e) true (bit (bU.getD e 0) j)) = q
    cases q <;> rfl
theorem uV {bU : Array Nat} {al0 : List AL} {log0 : List cE} (h0 : w6 al0 log0) : ∀ {al : List AL} {log : List cE}, w6 al log → Ib P bU al0 al → jW P bU log0 log = true
 | [], [], _, _ => rfl
 | [], _ :: _, h, _ => by cases h
 | _ :: _, [], h, _ => by cases h
 | .read j o L v :: al, y :: log, h, r => by
  cases y with
  | read j' o' env' v' =>
   obtain ⟨⟨rfl, rfl, rfl, ha⟩, h2⟩ := h
   simp only [jW, ru ha h0 r.1, bcT]
   exact uV h0 h2 r.2
  | change e a b => exact absurd h.1 (by simp [I6])
 | .change e a b :: al, y :: log, h, r => by
  cases y with
  | read j' o' env' v' => exact absurd h.1 (by simp [I6])
  | change e' a' b' =>
   show jW P bU log0 log = true
   exact uV h0 h.2 r
theorem WC.draw {id : Nat} (pl : List Nat) (bU : Array Nat) (hp : gD P ops = true) (hl : cP P ops = pl) (han : Region.before ops = bU) (hw : WD P K ops pl [] L h m n fun al L' h' => Ib P bU al al ∧ Jl m n Q L' h') : WC P K (.region id ops true) L h m n Q := by
 subst han
 constructor
 intro s f
 have fa : Fr m n L h s.alone := ⟨f.env, f.heap, f.defers, rfl, f.mask, f.bX⟩
 obtain ⟨s1, log1, al1, L1, h1, ⟨N, g⟩, hl1, f1, hok, ⟨L2, hk, q⟩⟩ := hw.run s.alone [] fa trivial
 have hlog := uV hl1 hl1 hok
 let s2 : St := ⟨s1.env, s1.heap, s1.defers, s.bV, s.mask, s.bX⟩
 have f2 : Fr m n L1 h1 s2 := ⟨f1.env, f1.heap, f1.defers, f.bV, f.mask, f.bX⟩
 obtain ⟨s3, e3, f3⟩ := f2.flush hk
 refine ⟨_, s3, ⟨N + 1, fun k hk' => ?_⟩, q.run s3 f3⟩
 obtain ⟨k, rfl⟩ : ∃ j, k = j + 1 := ⟨k - 1, by omega⟩
 rw [c8, cb, bcT, hp, bcT, hl, g k (by omega), obS]
 simp only [pf, hlog, bcT, obS]
 exact e3
end
end
end Go.HL
namespace Go.HL
open Go
noncomputable section
section
variable {h h' : Heap}
theorem BF {k off : Nat} {l r : List ad} {e : Nat} {s w : Bool} (hg : h.get k = some (.cells l e s w)) (hr : (l.drop off).take r.length = r) : Row h k off r := by
 refine ⟨?_⟩
 unfold dZ
 rw [bR hg, obS, br, cZ]
 have hle : r.length ≤ (l.drop off).length := by
  have := congrArg List.length hr
  rw [List.length_take] at this
  omega
 rw [if_pos hle, hr]
theorem Be {α : Type} (p : α → Bool) {l : List α} {i : Nat} (hi : i < l.length) (d : α) : (l.drop i).any p = (p (l.getD i d) || (l.drop (i + 1)).any p) := by
 rw [List.drop_eq_getElem_cons hi, List.any_cons]
 simp [List.getD, List.getElem?_eq_getElem hi]
theorem cJ {α : Type} (p : α → Bool) {l : List α} {i : Nat} (hi : i < l.length) (d : α) : (l.drop i).all p = (p (l.getD i d) && (l.drop (i + 1)).all p) := by
 rw [List.drop_eq_getElem_cons hi, List.all_cons]
 simp [List.getD, List.getElem?_eq_getElem hi]
theorem aN {α : Type} {l : List α} {g : α → List ad} {i : Nat} (d : α) (hi : i < l.length) : (l.map g)[i]? = some (g (l.getD i d)) := by
 simp [List.getD, List.getElem?_eq_getElem hi]
theorem aY {α : Type} {l : List α} {i : Nat} (d : α) (hi : i < l.length) : l.getD i d ∈ l := by
 simp [List.getD, List.getElem?_eq_getElem hi]
end
end
end Go.HL
namespace Go.HL
open Go
noncomputable section
section
variable {P : Program} {K : ai} {ops : Array Oper} {o : Oper} {L : c6} {h h' : Heap} {m n : Nat} {R : c6 → Heap → Prop} {ax : iF}
theorem beL {v : ad} {c : Nat} (hl : dA v = some c) : ad.beq v v = true := by
 unfold dA at hl
 split at hl <;> first | (cases hl; done) | simp [ad.beq]
/-! ## Maps -/
section
variable {α : Type} [DecidableEq α] {key : α → ad}
def Bh (key : α → ad) : List cH → List (α × ad) → Prop
 | [], [] => True
 | e :: es, p :: l => e.key = key p.1 ∧ e.val = p.2 ∧ Bh key es l
 | _, _ => False
def iK : List (α × ad) → α → ad → ad
 | [], _, z => z
 | p :: l, a, z => if p.1 = a then p.2 else iK l a z
def mM : List (α × ad) → α → ad → List (α × ad)
 | [], a, v => [(a, v)]
 | p :: l, a, v => if p.1 = a then (a, v) :: l else p :: mM l a v
theorem Cb (l : List (α × ad)) (a b : α) (v z : ad) : iK (mM l a v) b z = if a = b then v else iK l b z := by
 induction l with
 | nil => simp [mM, iK]
 | cons p l ih =>
  by_cases h1 : p.1 = a
  ·by_cases h2 : a = b
   ·simp [mM, iK, h1, h2]
   ·simp [mM, iK, h1, h2]
  ·by_cases h2 : p.1 = b
   ·have h3 : ¬ a = b := fun e => h1 (h2.trans e.symm)
    have h4 : ¬ b = a := fun e => h3 e.symm
    simp [mM, iK, h2, h3, h4]
   ·simp [mM, iK, h1, h2, ih]
structure mq (P : Program) (kt : Nat) (key : α → ad) : Prop where
 simple : dn P kt = true
 ok : ∀ a, qq P kt (key a) = true
 eq : ∀ a b, ey P kt (key a) (key b) = some (decide (a = b))
 same : ∀ a, sameKey (key a) (key a) = true
theorem rK {kt : Nat} (hk : mq P kt key) (a : α) (v z : ad) : ∀ {es : List cH} {l : List (α × ad)}, Bh key es l →
  (ik (key a) (ey P kt) es = some none ∧ iK l a z = z ∧ mM l a v = l ++ [(a, v)]) ∨
  ∃ i e, ik (key a) (ey P kt) es = some (some (i, e)) ∧ e.key = key a ∧ iK l a z = e.val ∧ ∀ b, Bh key (es.set i ⟨key a, v, b⟩) (mM l a v)
 | [], [], _ => .inl ⟨rfl, rfl, rfl⟩
 | e :: es, p :: l, h => by
  obtain ⟨h1, h2, h3⟩ := h
  by_cases hp : a = p.1
  ·refine .inr ⟨0, e, ?_, ?_, ?_, fun b => ?_⟩
   ·simp only [ik, h1, hk.eq, obS, hp, decide_true, bcT]
   ·rw [h1, hp]
   ·simp only [iK, hp, if_true, h2]
   ·simp only [mM, hp, if_true, List.set_cons_zero]
    exact ⟨rfl, rfl, h3⟩
  ·have hp' : ¬ p.1 = a := fun e => hp e.symm
   have hf : ik (key a) (ey P kt) (e :: es) = ob (ik (key a) (ey P kt) es) fun r => match r with
    | some p => some (some (Nat.succ p.1, p.2))
    | none => some none := by
    simp only [ik, h1, hk.eq, obS, hp, decide_false, bcF]
    rfl
   rcases rK hk a v z h3 with ⟨g1, g2, g3⟩ | ⟨i, e', g1, g2, g3, g4⟩
   ·refine .inl ⟨?_, ?_, ?_⟩
    ·rw [hf, g1]; rfl
    ·simp only [iK, hp', if_false, g2]
    ·simp only [mM, hp', if_false, g3, List.cons_append]
   ·refine .inr ⟨i + 1, e', ?_, g2, ?_, fun b => ?_⟩
    ·rw [hf, g1]; rfl
    ·simp only [iK, hp', if_false, g3]
    ·simp only [mM, hp', if_false, List.set_cons_succ]
     exact ⟨h1, h2, g4 b⟩
end
section
variable {α : Type} {key : α → ad}
theorem sP : ∀ {es : List cH} {l : List (α × ad)}, Bh key es l → ∀ (a : α) (v : ad) (b : Nat), Bh key (es ++ [⟨key a, v, b⟩]) (l ++ [(a, v)])
 | [], [], _, a, v, b => ⟨rfl, rfl, trivial⟩
 | e :: es, p :: l, h, a, v, b => ⟨h.1, h.2.1, sP h.2.2 a v b⟩
inductive JT (key : α → ad) (h : Heap) (k : Nat) (l : List (α × ad)) : Prop where
 | mk (es : List cH) (c : Nat) (rw : Bool) (hg : h.get k = some (.map es c rw)) (he : Bh key es l)
inductive oP (key : α → ad) (h : Heap) (k : Nat) (l : List (α × ad)) : Prop where
 | mk (es : List cH) (c : Nat) (hg : h.get k = some (.map es c true)) (he : Bh key es l)
theorem oP.at {k : Nat} {l : List (α × ad)} (g : oP key h k l) : JT key h k l := let ⟨es, c, a, b⟩ := g; ⟨es, c, true, a, b⟩
theorem oP.yw {k : Nat} {l : List (α × ad)} (g : h'.get k = h.get k) (w : oP key h k l) : oP key h' k l := let ⟨es, c, a, b⟩ := w; ⟨es, c, g.trans a, b⟩
end
section
variable {α : Type} [DecidableEq α] {key : α → ad}
theorem nu {k : Nat} {es : List cH} {c : Nat} {r : Bool} (hg : h.get k = some (.map es c r)) : h.entries k = some (es, c, r) := by
 unfold Heap.entries; rw [hg]; rfl
theorem V.lookup {t kt et q k : Nat} {x y : Operand} {a : α} {z : ad} {l : List (α × ad)} (hT : bH P ax = true) (ho : o.op = .lookup t x y false) (ht : bN ax t = some (.map kt et, q)) (hk : mq P kt key) (hz : hJ P et = some z)
  (hx : eI P L x = some (.map k)) (hy : eI P L y = some (key a)) (hm : JT key h k l) : cD P o L h (iK l a z) h := cD.mk ho fun ev ha d ty ps aft g => by
 obtain ⟨es, c, rw', hg, he⟩ := hm
 simp only [bO, evS ha hx, evS ha hy, nY, pK hT ht, hk.simple, hk.ok, bcT, hz, obS, nu hg, bcF]
 rcases rK hk a z z he with ⟨g1, g2, g3⟩ | ⟨i, e', g1, g2, g3, g4⟩
 ·simp only [g1, obS, g2]
 ·simp only [g1, obS, g3]
theorem gy.mapUpdate {t kt et q k : Nat} {x y u : Operand} {a : α} {v : ad} {l : List (α × ad)} (hT : bH P ax = true) (ho : o.op = .mapUpdate t x y u) (ht : bN ax t = some (.map kt et, q)) (hk : mq P kt key)
  (hx : eI P L x = some (.map k)) (hy : eI P L y = some (key a)) (hu : eI P L u = some v) (hm : oP key h k l) (wf : Wf h) (hw : j9 ops o L = some true) (hf : fits o.dst n = true)
  (hr : ∀ h', oP key h' k (mM l a v) → (∀ j, j ≠ k → h'.get j = h.get j) → Wf h' → h'.next = h.next → R (jj o.dst bD L) h') : gy P K ops o L h m n R := by
 obtain ⟨es, c, hg, he⟩ := hm
 rcases rK hk a v v he with ⟨g1, g2, g3⟩ | ⟨i, e', g1, g2, g3, g4⟩
 ·have p := pT wf (.map (es ++ [⟨key a, v, c⟩]) (Nat.succ c) true) (wf.lt hg)
  refine gy.val (v := bD) (h' := h.put k (.map (es ++ [⟨key a, v, c⟩]) (Nat.succ c) true)) (cD.mk ho fun ev ha d ty ps aft g => ?_) hw hf (hr _ ⟨_, _, p.get, ?_⟩ p.td p.wf p.next)
  ·simp only [bO, evS ha hx, evS ha hy, evS ha hu, jO, pK hT ht, ad.lh, obS, r6, hk.simple, hk.ok, bcT, nu hg, g1]
  ·rw [g3]; exact sP he a v c
 ·have p := pT wf (.map (es.set i ⟨key a, v, e'.born⟩) c true) (wf.lt hg)
  refine gy.val (v := bD) (h' := h.put k (.map (es.set i ⟨key a, v, e'.born⟩) c true)) (cD.mk ho fun ev ha d ty ps aft g => ?_) hw hf (hr _ ⟨_, _, p.get, g4 _⟩ p.td p.wf p.next)
  simp only [bO, evS ha hx, evS ha hy, evS ha hu, jO, pK hT ht, ad.lh, obS, r6, hk.simple, hk.ok, bcT, nu hg, g1, g2, hk.same]
end
/-! truths at keys -/
section
variable {α : Type} [DecidableEq α] {key : α → ad}
def mw : List (α × Bool) → α → Bool
 | [], _ => false
 | p :: l, a => if p.1 = a then p.2 else mw l a
def BC : List (α × Bool) → α → Bool → List (α × Bool)
 | [], a, v => [(a, v)]
 | p :: l, a, v => if p.1 = a then (a, v) :: l else p :: BC l a v
def kh (p : α × Bool) : α × ad := (p.1, .bool p.2)
theorem yC (l : List (α × Bool)) (a : α) : iK (l.map kh) a (.bool false) = .bool (mw l a) := by
 induction l with
 | nil => rfl
 | cons p l ih => simp only [List.map_cons, iK, mw, kh]; split <;> first | rfl | exact ih
theorem Bz (l : List (α × Bool)) (a : α) (b : Bool) : mM (l.map kh) a (.bool b) = (BC l a b).map kh := by
 induction l with
 | nil => rfl
 | cons p l ih =>
  simp only [List.map_cons, mM, BC]
  by_cases h : p.1 = a
  ·simp [h, kh]
  ·have h' : ¬ (kh p).1 = a := h
   simp only [h, h', if_false, List.map_cons, ih]
theorem Cd (l : List (α × Bool)) (a b : α) (v : Bool) : mw (BC l a v) b = if a = b then v else mw l b := by
 have := Cb (l.map kh) a b (.bool v) (.bool false)
 rw [Bz, yC, yC] at this
 split at this <;> rename_i h
 ·rw [if_pos h]; exact ad.bool.inj this
 ·rw [if_neg h]; exact ad.bool.inj this
end
theorem nQ {k e : Nat} {l : List ad} {s w : Bool} (hg : h.get k = some (.cells l e s w)) : Row h k 0 l := BF hg (by rw [List.drop_zero, List.take_length])
theorem s7.known {f : Nat} {args : List ad} {v : ad} (hk : K f args h = some (.ret v, h')) : s7 P K f args h v h' := ⟨0, fun m _ => by simp only [eG, hk]⟩
theorem AE {α : Type} {key : α → ad} : ∀ (l : List α) (n : Nat), Bh key (l.zipIdx n |>.map fun p => ⟨key p.1, .bool true, p.2⟩) ((l.map fun q => (q, true)).map kh)
 | [], _ => trivial
 | _ :: l, n => ⟨rfl, rfl, AE l (n + 1)⟩
theorem Cc {α : Type} [DecidableEq α] (l : List α) (a : α) : mw (l.map fun q => (q, true)) a = l.any fun q => decide (q = a) := by
 induction l with
 | nil => rfl
 | cons p l ih => simp only [List.map_cons, mw, List.any_cons, ih]; by_cases h : p = a <;> simp [h]
def kn (p : Nat × Nat) : ad := .str p.1 p.2
theorem Hp {t : Nat} (hu : P.underlying t = some .string) : mq P t kn := by
 refine ⟨by simp only [dn, hu], fun a => by simp only [qq, hu], fun a b => ?_, fun a => ?_⟩
 ·simp only [ey, heq, hu, kn, zx, bm, bcE]
  obtain ⟨a1, a2⟩ := a
  obtain ⟨b1, b2⟩ := b
  by_cases h1 : a1 = b1 <;> by_cases h2 : a2 = b2 <;> simp [h1, h2]
 ·simp [sameKey, mQ, kn, zx, bm]
structure I8 (h : Heap) (v : ad) (w : Nat) (rows : List (List ad)) : Prop where
 slice : Jm h v w rows
 live : ∀ k, Ac v = some k → ∃ o, h.get k = some o
theorem I8.jJ {v : ad} {w : Nat} {rows : List (List ad)} (a : I8 h v w rows) (e : ∀ k, Ac v = some k → h'.get k = h.get k) : I8 h' v w rows := by
 refine ⟨⟨a.slice.len, fun i r hr => ?_⟩, fun k hk => by rw [e k hk]; exact a.live k hk⟩
 obtain ⟨k, off, cap, rfl, hrow⟩ := a.slice.row i r hr
 refine ⟨k, off, cap, rfl, ⟨?_⟩⟩
 have := hrow.load
 unfold dZ Heap.cells at this ⊢
 rw [e k rfl]; exact this
theorem y9 {α : Type} {l : List α} {g : α → List ad} {i : Nat} {a : α} (d : α) (hi : i < l.length) (e : l.getD i d = a) : (l.map g)[i]? = some (g a) := by rw [aN d hi, e]
/-! ## Slices that are one's own -/
inductive App (h : Heap) (e w : Nat) : ad → Nat → List ad → Option Nat → Prop
 | aD : App h e w .aD 0 [] none
 | full {k off n e' : Nat} {L l : List ad} {s r : Bool} (hg : h.get k = some (.cells L e' s r)) (hl : l.length = n * w) (hd : (L.drop off).take (n * w) = l) : App h e w (.slice k off n (some n)) n l none
 | own {k off n : Nat} {L l : List ad} (hg : h.get k = some (.cells L e true true)) (hl : L.length = off + n * w) (hd : L.drop off = l) : App h e w (.slice k off n none) n l (some k)
 | rest {k : Nat} {L : List ad} (hg : h.get k = some (.cells L e true true)) : App h e w (.rest k) 0 [] (some k)
theorem App.len {e w c : Nat} {v : ad} {l : List ad} {d : Option Nat} (a : App h e w v c l d) : dA v = some c := by cases a <;> rfl
theorem App.length {e w c : Nat} {v : ad} {l : List ad} {d : Option Nat} (a : App h e w v c l d) : l.length = c * w := by
 cases a with
 | aD => simp
 | full hg hl hd => exact hl
 | own hg hl hd => rw [← hd, List.length_drop]; omega
 | rest hg => simp
def th : ad → Option Nat
 | .slice k _ _ _ => some k
 | .rest k => some k
 | _ => none
theorem App.jJ {e w c : Nat} {v : ad} {l : List ad} {d : Option Nat} (a : App h e w v c l d) (g : ∀ k, th v = some k → h'.get k = h.get k) : App h' e w v c l d := by
 cases a with
 | aD => exact .aD
 | full hg hl hd => exact .full ((g _ rfl).trans hg) hl hd
 | own hg hl hd => exact .own ((g _ rfl).trans hg) hl hd
 | rest hg => exact .rest ((g _ rfl).trans hg)
theorem App.key {e w c : Nat} {v : ad} {l : List ad} {d : Option Nat} (a : App h e w v c l d) {j : Nat} (hj : d = some j) : th v = some j := by
 cases a <;> first | (cases hj; done) | exact hj
theorem App.live {e w c : Nat} {v : ad} {l : List ad} {d : Option Nat} (a : App h e w v c l d) {k : Nat} (hk : th v = some k) : ∃ o, h.get k = some o := by
 cases a with
 | aD => cases hk
 | full hg hl hd => cases hk; exact ⟨_, hg⟩
 | own hg hl hd => cases hk; exact ⟨_, hg⟩
 | rest hg => cases hk; exact ⟨_, hg⟩
structure ft (h : Heap) (e w : Nat) (c : Nat) (l : List ad) (d : Option Nat) (k : Nat) (h' : Heap) : Prop where
 app : App h' e w (.slice k 0 c none) c l (some k)
 get : h'.get k = some (.cells l e true true)
 fresh : h.get k = none
 le : h.next ≤ k
 td : ∀ j, some j ≠ d → j ≠ k → h'.get j = h.get j
 wf : Wf h'
 next : h.next ≤ h'.next
theorem gy.Bd {t e w q c cm bs : Nat} {i : TI} {cl : Call} {x y : Operand} {v v2 : ad} {l new z : List ad} {d : Option Nat} (hT : bH P ax = true)
  (ho : o.op = .call cl) (hc : cl.callee = .builtin .append) (ha : cl.args = #[x, y]) (h0 : cl.argTypes[0]? = some t) (hnum : dY P cl.argTypes = true) (ht : bN ax t = some (.slice e, q))
  (he : bN ax e = some (i, w)) (hz : ah P e = some z) (hzl : Nat.beq z.length w = true) (he0 : Nat.beq e 0 = false) (hw0 : Nat.beq w 0 = false) (hb : P.bytesOf e = bs) (hb0 : Nat.beq bs 0 = false)
  (hx : eI P L x = some v) (hy : eI P L y = some v2) (hv : App h e w v c l d) (happ : dM P e v2 h = some (cm, new)) (hnl' : new.length = cm * w) (hm0 : Nat.beq cm 0 = false) (hroom : (c + cm) * bs ≤ 140737488355328)
  (wf : Wf h) (hw : j9 ops o L = some true) (hf : fits o.dst n = true) (hr : ∀ k h', ft h e w (c + cm) (l ++ new) d k h' → R (jj o.dst (.slice k 0 (c + cm) none) L) h') : gy P K ops o L h m n R := by
 have hwid := (cA hT he).2
 have wpos : 0 < w := Nat.pos_of_ne_zero fun e => by rw [e] at hw0; cases hw0
 have mpos : 0 < cm := Nat.pos_of_ne_zero fun e => by rw [e] at hm0; cases hm0
 have hslice := (c7 hT ht).1
 have hroom' : Nat.ble (Nat.mul (Nat.add c cm) bs) fj = true := by rw [eE]; exact decide_eq_true hroom
 have hop : ∀ ev : Env, fu L ev → bO P (ev.eval P) h o = iU P e v cm new h := by
  intro ev hag
  obtain ⟨d', op, ty, ps, aft, g⟩ := o
  simp only at ho
  subst ho
  simp only [bO, hc, ha, List.map_cons, List.map_nil, evS hag hx, evS hag hy, dc, fD, h0, hslice, obS, he0, bcF, hwid, hw0, hb, hb0, hnum, bcT, hz, hzl, happ]
 have hlen := hv.length
 have hmul : Nat.mul c w = l.length := hlen.symm
 -- a new block in some memory
 have fresh : ∀ (g : Heap), g.next = h.next → (∀ j, some j ≠ d → g.get j = h.get j) → (∀ j, h.next ≤ j → g.get j = none) → ft h e w (c + cm) (l ++ new) d g.next (g.new (.cells (l ++ new) e true true)) := by
  intro g hn ho2 hfr
  have hlen2 : (l ++ new).length = 0 + (c + cm) * w := by rw [List.length_append, hlen, hnl', Nat.zero_add, Nat.add_mul]
  have mk := kZ (h := g) (fun k hk => hfr k (by rw [← hn]; exact hk)) (.cells (l ++ new) e true true)
  refine ⟨.own mk.get hlen2 rfl, mk.get, ?_, by rw [hn]; exact Nat.le_refl _, fun j hj hne => ?_, mk.wf, ?_⟩
  ·rw [hn]; exact wf _ (Nat.le_refl _)
  ·rw [mk.td j hne]; exact ho2 j hj
  ·rw [← hn]; exact Nat.le_succ _
 cases hv with
 | aD =>
  refine gy.val (v := .slice h.next 0 cm none) (h' := h.new (.cells new e true true)) (fun ev hag => ?_) hw hf ?_
  ·rw [hop ev hag]
   rw [Nat.zero_add] at hroom
   have h3 : Nat.ble (Nat.mul cm bs) fj = true := by rw [eE]; exact decide_eq_true hroom
   simp only [iU, hm0, bcF, hb, h3, bcT, fW]
  ·have := hr h.next _ (fresh h rfl (fun _ _ => rfl) wf)
   rw [List.nil_append, Nat.zero_add] at this
   exact this
 | @full k off _ e' LL _ s r hg hl hd =>
  refine gy.val (v := .slice h.next 0 (c + cm) none) (h' := h.new (.cells (l ++ new) e true true)) (fun ev hag => ?_) hw hf (hr h.next _ (fresh h rfl (fun _ _ => rfl) wf))
  rw [hop ev hag]
  have h4 : Nat.ble (Nat.add c cm) c = false := by rw [eE]; exact decide_eq_false (by simp only [Nat.add_eq]; omega)
  have h5 : dZ h k off (Nat.mul c (P.cellsOf e)) = some l := by
   unfold dZ
   rw [bR hg, obS, br, cZ, hwid]
   have : c * w ≤ (LL.drop off).length := by
    have := congrArg List.length hd
    rw [List.length_take, hl] at this
    omega
   rw [if_pos (show Nat.mul c w ≤ (LL.drop off).length from this)]
   exact congrArg some hd
  simp only [iU, hm0, bcF, hb, hroom', bcT, h4, h5, obS, qR, fW]
  rfl
 | @own k off _ LL _ hg hl hd =>
  have hk := wf.lt hg
  refine gy.val (v := .slice h.next 0 (c + cm) none) (h' := (h.put k .dead).new (.cells (l ++ new) e true true)) (fun ev hag => ?_) hw hf (hr h.next _ (fresh (h.put k .dead) rfl (fun j hj => ?_) fun j hj => ?_))
  ·rw [hop ev hag]
   have h4 : roomFor P h k off (Nat.add c cm) e = false := by
    unfold roomFor
    rw [bR hg]
    simp only [bcT, Nat.beq_refl, he0, bcF, hwid, hw0]
    rw [eE]
    refine decide_eq_false ?_
    simp only [Nat.add_eq, Nat.mul_eq, hl, Nat.add_mul]
    have : 0 < cm * w := Nat.mul_pos mpos wpos
    omega
   have h5 : eV (jz LL off) (Nat.mul c (P.cellsOf e)) (fun td => yY td new fun l => fW (h.put k .dead) l (Nat.add c cm) e) = fW (h.put k .dead) (l ++ new) (c + cm) e := by
    rw [br, cZ, hwid, hmul, if_pos (by rw [hd]; exact Nat.le_refl _), hd, List.take_length, qR]
    rfl
   simp only [iU, hm0, bcF, hb, hroom', bcT, h4, bR hg, obS, Nat.beq_refl, h5]
   rfl
  ·rw [Heap.bL, if_neg (fun e => hj (by rw [e]))]
  ·rw [Heap.bL, if_neg (by omega)]
   exact wf j hj
 | @rest k LL hg =>
  have hk := wf.lt hg
  refine gy.val (v := .slice h.next 0 cm none) (h' := (h.put k .dead).new (.cells new e true true)) (fun ev hag => ?_) hw hf ?_
  ·rw [hop ev hag]
   rw [Nat.zero_add] at hroom
   have h3 : Nat.ble (Nat.mul cm bs) fj = true := by rw [eE]; exact decide_eq_true hroom
   simp only [iU, hm0, bcF, hb, h3, bcT, bR hg, obS, Nat.beq_refl, fW]
   rfl
  ·have := hr h.next _ (fresh (h.put k .dead) rfl (fun j hj => by rw [Heap.bL, if_neg (fun e => hj (by rw [e]))]) fun j hj => by rw [Heap.bL, if_neg (by omega)]; exact wf j hj)
   rw [List.nil_append, Nat.zero_add] at this
   exact this
theorem gy.append {t t2 e w q q2 c cm bs k2 off2 : Nat} {i : TI} {cl : Call} {x y : Operand} {v : ad} {l new z : List ad} {d cap2 : Option Nat} (hT : bH P ax = true)
  (ho : o.op = .call cl) (hc : cl.callee = .builtin .append) (ha : cl.args = #[x, y]) (h0 : cl.argTypes[0]? = some t) (h2 : cl.argTypes[1]? = some t2) (ht : bN ax t = some (.slice e, q)) (ht2 : bN ax t2 = some (.slice e, q2))
  (he : bN ax e = some (i, w)) (hz : ah P e = some z) (hzl : Nat.beq z.length w = true) (he0 : Nat.beq e 0 = false) (hw0 : Nat.beq w 0 = false) (hb : P.bytesOf e = bs) (hb0 : Nat.beq bs 0 = false)
  (hx : eI P L x = some v) (hy : eI P L y = some (.slice k2 off2 cm cap2)) (hv : App h e w v c l d) (hnew : Row h k2 off2 new) (hnl : Nat.beq new.length (Nat.mul cm w) = true) (hm0 : Nat.beq cm 0 = false) (hroom : (c + cm) * bs ≤ 140737488355328)
  (wf : Wf h) (hw : j9 ops o L = some true) (hf : fits o.dst n = true) (hr : ∀ k h', ft h e w (c + cm) (l ++ new) d k h' → R (jj o.dst (.slice k 0 (c + cm) none) L) h') : gy P K ops o L h m n R := by
 have hnl' : new.length = cm * w := Nat.eq_of_beq_eq_true hnl
 have happ : dM P e (.slice k2 off2 cm cap2) h = some (cm, new) := by
  have hnew := hnew.load
  rw [hnl'] at hnew
  simp only [dM, (cA hT he).2, Nat.mul_eq, hnew, obS]
 exact gy.Bd hT ho hc ha h0 (by simp only [dY, h2, (c7 hT ht2).1]) ht he hz hzl he0 hw0 hb hb0 hx hy hv happ hnl' hm0 hroom wf hw hf hr
inductive sY : ad → Prop
 | aD : sY .aD
 | empty : sY .empty
 | slice (k off c : Nat) : sY (.slice k off c none)
end
end
end Go.HL
