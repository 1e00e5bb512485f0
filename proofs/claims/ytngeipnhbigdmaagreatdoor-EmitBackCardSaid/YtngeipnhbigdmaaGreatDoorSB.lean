/- Runs of HL with an argument that is not closed: rules for operations, slices, structs. No statement of the seat stands here. -/
import Derived.Test.YtngeipnhbigdmaaGreatDoorSA
set_option linter.unusedVariables false
set_option linter.unusedSimpArgs false
namespace Go.HL
open Go
noncomputable section
section
variable {P : Program} {K : ah} {ops : Array Oper} {o : Oper} {L : cj} {h h' : Heap} {m n : Nat} {R : cj → Heap → Prop} {aw : iO}
def oQ (P : Program) (aw : iO) (L : cj) (fs : List (Nat × Nat)) : List (Nat × Operand) → Option (List (Nat × Nat × aa))
 | [] => some []
 | p :: l => ob (nth fs p.1) fun f => ob (bY aw f.2) fun w => ob (eS P L p.2) fun v => ob (oQ P aw L fs l) fun r => some ((f.1, w.2, v) :: r)
theorem pE (hT : bH P aw = true) {ev : Env} (ha : fL L ev) {fl : List Field} {fs : List (Nat × Nat)} (hb : kI fl fs = true) : ∀ {l : List (Nat × Operand)} {r : List (Nat × Nat × aa)}, oQ P aw L fs l = some r → placesOf P fl (ev.eval P) l = some r
 | [], r, e => by cases e; rfl
 | p :: l, r, e => by
  simp only [oQ] at e
  obtain ⟨f, e1, e2⟩ := ad.1 e
  obtain ⟨w, e3, e4⟩ := ad.1 e2
  obtain ⟨v, e5, e6⟩ := ad.1 e4
  obtain ⟨r', e7, e8⟩ := ad.1 e6
  cases e8
  obtain ⟨fd, g1, g2, g3⟩ := ug hb e1
  have g1' : nth fl p.1 = some fd := by rw [bU]; exact g1
  simp only [placesOf, g1', obS, pE hT ha hb e7, g2, g3, (cP hT (i := w.1) (n := w.2) e3).2, evS ha e5]
def mc (aw : iO) : List (Nat × Nat) → Bool
 | [] => true
 | p :: l => match bY aw p.2 with | some _ => mc aw l | none => false
theorem BK (hT : bH P aw = true) : ∀ {fl : List Field} {fs : List (Nat × Nat)}, kI fl fs = true → mc aw fs = true → jj P fl = true
 | [], _, _, _ => rfl
 | f :: fl, [], h, _ => by cases h
 | f :: fl, q :: fs, h, h2 => by
  simp only [kI, bcFe] at h
  obtain ⟨_, g2, g3⟩ := h
  simp only [mc] at h2
  cases ht : bY aw q.2 with
  | none => rw [ht] at h2; cases h2
  | some w =>
   rw [ht] at h2
   have hag := jd hT (i := w.1) (n := w.2) ht
   unfold gH at hag
   obtain ⟨d, hd, _⟩ := ad.1 hag
   rw [← Nat.eq_of_beq_eq_true g2] at hd
   obtain ⟨inf, hi⟩ := info_of_underlying hd
   simp only [jj, hi]
   exact BK hT g3 h2
theorem V.build {t q : Nat} {parts : Array (Nat × Operand)} {fs : List (Nat × Nat)} {ps : List (Nat × Nat × aa)} {z cs : List aa} (hT : bH P aw = true) (ho : o.op = .build t parts) (ht : bY aw t = some (.struct fs, q)) (hz : ag P t = some z) (hp : oQ P aw L fs parts.toList = some ps) (ha : mc aw fs = true)
  (hc : eI ps z = some cs) : cK P o L h (.agg cs) h := cK.mk ho fun ev hag d ty pp aft g => by
 obtain ⟨fl, hu, hb⟩ := pS hT ht
 simp only [bS, hz, obS, hu, BK hT hb ha, bcT, pE hT hag hb hp, hc]
end
end
end Go.HL
namespace Go.HL
open Go
noncomputable section
section
variable {P : Program} {K : ah} {ops : Array Oper} {o : Oper} {L L' : cj} {h h' : Heap} {m n : Nat} {Q : Ex → St → Prop} {a : Code}
/-! ## Regions whose order is open -/
inductive AL where
 | read (j : Nat) (o : Oper) (L : cj) (v : aa)
 | change (e : Nat) (a b : Heap)
def Kp : AL → cL → Prop
 | .read j o L v, .read j' o' env v' => j = j' ∧ o = o' ∧ v = v' ∧ fL L env
 | .change e a b, .change e' a' b' => e = e' ∧ a = a' ∧ b = b'
 | _, _ => False
def xD : List AL → List cL → Prop
 | [], [] => True
 | x :: l, y :: m => Kp x y ∧ xD l m
 | _, _ => False
def oJ (P : Program) (ops : Array Oper) (i : Nat) (o : Oper) (L : cj) (h : Heap) (L' : cj) (h' : Heap) (al : List AL) : Option (List AL) :=
 ae (aB P o) (some (.change i h h' :: al)) (ae (cu P o) (match o.dst with
  | some d => match jA ops o L with
   | some true => match look L' d with
    | some v => some (.read i o L v :: al)
    | none => none
   | some false => some al
   | none => none
  | none => none) (some al))
structure WD (P : Program) (K : ah) (ops : Array Oper) (pl : List Nat) (al : List AL) (L : cj) (h : Heap) (m n : Nat) (R : List AL → cj → Heap → Prop) : Prop where
 run : ∀ s log, Fr m n L h s → xD al log → ∃ s' log' al' L' h', (∃ N, ∀ k, N ≤ k → eu P (gate (eZ K (cJ P (jQ P K k)))) ops (Region.before ops) pl log none s = some (log', none, s')) ∧ xD al' log' ∧ Fr m n L' h' s' ∧ R al' L' h'
variable {pl : List Nat} {al : List AL} {R : List AL → cj → Heap → Prop}
theorem WD.nil (hr : R al L h) : WD P K ops [] al L h m n R := ⟨fun s log f hl => ⟨s, log, al, L, h, ⟨0, fun _ _ => rfl⟩, hl, f, hr⟩⟩
theorem WD.cons {i : Nat} (hi : ops[i]? = some o) (ho : gK P K ops o L h m n fun L' h' => ∃ al', oJ P ops i o L h L' h' al = some al' ∧ WD P K ops pl al' L' h' m n R) : WD P K ops (i :: pl) al L h m n R := by
 constructor
 intro s log f hl
 obtain ⟨s1, L1, h1, ⟨N1, g1⟩, f1, al1, hu, w⟩ := ho.run s f
 have main : ∃ log1, xD al1 log1 ∧ ∀ call : ah, fE P call ops o s = some (.dw, s1) → ∀ rest, eu P call ops (Region.before ops) (i :: rest) log none s = eu P call ops (Region.before ops) rest log1 none s1 := by
  unfold oJ at hu
  cases hc : aB P o with
  | true =>
   rw [hc, bcT] at hu
   cases hu
   refine ⟨.change i s.heap s1.heap :: log, ⟨⟨rfl, f.heap.symm, f1.heap.symm⟩, hl⟩, fun call hcall rest => ?_⟩
   simp only [eu, o5, bcF, hi, obS, hcall, hc, bcT]
  | false =>
   rw [hc, bcF] at hu
   cases hr : cu P o with
   | false =>
    rw [hr, bcF] at hu
    cases hu
    refine ⟨log, hl, fun call hcall rest => ?_⟩
    simp only [eu, o5, bcF, hi, obS, hcall, hc, hr]
   | true =>
    rw [hr, bcT] at hu
    cases hd : o.dst with
    | none => rw [hd] at hu; cases hu
    | some d =>
     rw [hd] at hu
     simp only at hu
     cases hw : jA ops o L with
     | none => rw [hw] at hu; cases hu
     | some b =>
      rw [hw] at hu
      have hw' := kg f.env hw
      cases b with
      | false =>
       cases hu
       refine ⟨log, hl, fun call hcall rest => ?_⟩
       simp only [eu, o5, bcF, hi, obS, hcall, hc, hr, bcT, hd, hw']
      | true =>
       simp only at hu
       cases hv : look L1 d with
       | none => rw [hv] at hu; cases hu
       | some v =>
        rw [hv] at hu
        cases hu
        refine ⟨.read i o s.env (s1.env.get d) :: log, ⟨⟨rfl, rfl, (f1.env _ _ hv).symm, f.env⟩, hl⟩, fun call hcall rest => ?_⟩
        simp only [eu, o5, bcF, hi, obS, hcall, hc, hr, bcT, hd, hw']
 obtain ⟨log1, hl1, hstep⟩ := main
 obtain ⟨s2, log2, al2, L2, h2, ⟨N2, g2⟩, hl2, f2, r⟩ := w.run s1 log1 f1 hl1
 refine ⟨s2, log2, al2, L2, h2, ⟨max N1 N2, fun k hk => ?_⟩, hl2, f2, r⟩
 rw [hstep _ (g1 k (by omega)).2]
 exact g2 k (by omega)
def tD (P : Program) (bV : Array Nat) (j : Nat) (o : Oper) (L : cj) (v : aa) : List AL → Prop
 | [] => True
 | .change e a b :: l => ((ae (bit (bV.getD j 0) e) true (bit (bV.getD e 0) j)) = true ∨ (∃ x y, cK P o L a v x ∧ cK P o L b v y) ∧ aa.beq v v = true) ∧ tD P bV j o L v l
 | .read _ _ _ _ :: l => tD P bV j o L v l
def Kv (P : Program) (bV : Array Nat) (al : List AL) : List AL → Prop
 | [] => True
 | .read j o L v :: l => tD P bV j o L v al ∧ Kv P bV al l
 | .change _ _ _ :: l => Kv P bV al l
theorem sL {bV : Array Nat} {j : Nat} {o : Oper} {L : cj} {v : aa} {env : Env} (ha : fL L env) : ∀ {al : List AL} {log : List cL}, xD al log → tD P bV j o L v al → iV P bV j o env v log = true
 | [], [], _, _ => rfl
 | [], _ :: _, h, _ => by cases h
 | _ :: _, [], h, _ => by cases h
 | .read _ _ _ _ :: al, y :: log, h, r => by
  cases y with
  | read j' o' env' v' =>
   show iV P bV j o env v log = true
   exact sL ha h.2 r
  | change e a b => exact absurd h.1 (by simp [Kp])
 | .change e a b :: al, y :: log, h, r => by
  cases y with
  | read j' o' env' v' => exact absurd h.1 (by simp [Kp])
  | change e' a' b' =>
   obtain ⟨⟨rfl, rfl, rfl⟩, h2⟩ := h
   have ih := sL ha h2 r.2
   simp only [iV, ih]
   rcases r.1 with g | ⟨⟨x, y, g1, g2⟩, g3⟩
   ·rw [g]; rfl
   ·have e1 : dG P o env v a = true := by simp only [dG, g1 env ha]; exact g3
    have e2 : dG P o env v b = true := by simp only [dG, g2 env ha]; exact g3
    rw [e1, e2]
    generalize (ae (bit (bV.getD j 0) e) true (bit (bV.getD e 0) j)) = q
    cases q <;> rfl
theorem wx {bV : Array Nat} {al0 : List AL} {log0 : List cL} (h0 : xD al0 log0) : ∀ {al : List AL} {log : List cL}, xD al log → Kv P bV al0 al → kC P bV log0 log = true
 | [], [], _, _ => rfl
 | [], _ :: _, h, _ => by cases h
 | _ :: _, [], h, _ => by cases h
 | .read j o L v :: al, y :: log, h, r => by
  cases y with
  | read j' o' env' v' =>
   obtain ⟨⟨rfl, rfl, rfl, ha⟩, h2⟩ := h
   simp only [kC, sL ha h0 r.1, bcT]
   exact wx h0 h2 r.2
  | change e a b => exact absurd h.1 (by simp [Kp])
 | .change e a b :: al, y :: log, h, r => by
  cases y with
  | read j' o' env' v' => exact absurd h.1 (by simp [Kp])
  | change e' a' b' =>
   show kC P bV log0 log = true
   exact wx h0 h.2 r
theorem WC.draw {id : Nat} (pl : List Nat) (bV : Array Nat) (hp : gV P ops = true) (hl : da P ops = pl) (han : Region.before ops = bV) (hw : WD P K ops pl [] L h m n fun al L' h' => Kv P bV al al ∧ M4 m n Q L' h') : WC P K (.region id ops true) L h m n Q := by
 subst han
 constructor
 intro s f
 have fa : Fr m n L h s.alone := ⟨f.env, f.heap, f.defers, rfl, f.mask, f.bt⟩
 obtain ⟨s1, log1, al1, L1, h1, ⟨N, g⟩, hl1, f1, hok, ⟨L2, hk, q⟩⟩ := hw.run s.alone [] fa trivial
 have hlog := wx hl1 hl1 hok
 let s2 : St := ⟨s1.env, s1.heap, s1.defers, s.c8, s.mask, s.bt⟩
 have f2 : Fr m n L1 h1 s2 := ⟨f1.env, f1.heap, f1.defers, f.c8, f.mask, f.bt⟩
 obtain ⟨s3, e3, f3⟩ := f2.flush hk
 refine ⟨_, s3, ⟨N + 1, fun k hk' => ?_⟩, q.run s3 f3⟩
 obtain ⟨k, rfl⟩ : ∃ j, k = j + 1 := ⟨k - 1, by omega⟩
 rw [cn, ct, bcT, hp, bcT, hl, g k (by omega), obS]
 simp only [qq, hlog, bcT, obS]
 exact e3
end
end
end Go.HL
namespace Go.HL
open Go
noncomputable section
section
variable {h h' : Heap}
theorem zH {k off : Nat} {l r : List aa} {e : Nat} {s w : Bool} (hg : h.get k = some (.cells l e s w)) (hr : (l.drop off).take r.length = r) : Row h k off r := by
 refine ⟨?_⟩
 unfold eh
 rw [bQ hg, obS, bz, dr]
 have hle : r.length ≤ (l.drop off).length := by
  have := congrArg List.length hr
  rw [List.length_take] at this
  omega
 rw [if_pos hle, hr]
theorem zD {w : Nat} : mS h .aC w [] := ⟨rfl, fun i r hr => by simp at hr⟩
theorem eJ {α : Type} (p : α → Bool) {l : List α} {i : Nat} (hi : i < l.length) (d : α) : (l.drop i).all p = (p (l.getD i d) && (l.drop (i + 1)).all p) := by
 rw [List.drop_eq_getElem_cons hi, List.all_cons]
 simp [List.getD, List.getElem?_eq_getElem hi]
theorem aM {α : Type} {l : List α} {g : α → List aa} {i : Nat} (d : α) (hi : i < l.length) : (l.map g)[i]? = some (g (l.getD i d)) := by
 simp [List.getD, List.getElem?_eq_getElem hi]
theorem bh {α : Type} {l : List α} {i : Nat} (d : α) (hi : i < l.length) : l.getD i d ∈ l := by
 simp [List.getD, List.getElem?_eq_getElem hi]
theorem drop_cons {α : Type} {l : List α} {i : Nat} (hi : i < l.length) (d : α) : l.drop i = l.getD i d :: l.drop (i + 1) := by
 rw [List.drop_eq_getElem_cons hi]
 simp [List.getD, List.getElem?_eq_getElem hi]
end
end
end Go.HL
namespace Go.HL
open Go
noncomputable section
section
variable {P : Program} {K : ah} {ops : Array Oper} {o : Oper} {L : cj} {h h' : Heap} {m n : Nat} {R : cj → Heap → Prop} {aw : iO}
theorem beL {v : aa} {c : Nat} (hl : dO v = some c) : aa.beq v v = true := by
 unfold dO at hl
 split at hl <;> first | (cases hl; done) | simp [aa.beq]
/-! ## Maps -/
section
variable {α : Type} [DecidableEq α] {key : α → aa}
def CK (key : α → aa) : List cS → List (α × aa) → Prop
 | [], [] => True
 | e :: es, p :: l => e.key = key p.1 ∧ e.val = p.2 ∧ CK key es l
 | _, _ => False
def ja : List (α × aa) → α → aa → aa
 | [], _, z => z
 | p :: l, a, z => if p.1 = a then p.2 else ja l a z
def nC : List (α × aa) → α → aa → List (α × aa)
 | [], a, v => [(a, v)]
 | p :: l, a, v => if p.1 = a then (a, v) :: l else p :: nC l a v
theorem DL (l : List (α × aa)) (a b : α) (v z : aa) : ja (nC l a v) b z = if a = b then v else ja l b z := by
 induction l with
 | nil => simp [nC, ja]
 | cons p l ih =>
  by_cases h1 : p.1 = a
  ·by_cases h2 : a = b
   ·simp [nC, ja, h1, h2]
   ·simp [nC, ja, h1, h2]
  ·by_cases h2 : p.1 = b
   ·have h3 : ¬ a = b := fun e => h1 (h2.trans e.symm)
    have h4 : ¬ b = a := fun e => h3 e.symm
    simp [nC, ja, h2, h3, h4]
   ·simp [nC, ja, h1, h2, ih]
structure mT (P : Program) (kt : Nat) (key : α → aa) : Prop where
 simple : dA P kt = true
 ok : ∀ a, rp P kt (key a) = true
 eq : ∀ a b, eQ P kt (key a) (key b) = some (decide (a = b))
 same : ∀ a, sameKey (key a) (key a) = true
theorem tg {kt : Nat} (hk : mT P kt key) (a : α) (v z : aa) : ∀ {es : List cS} {l : List (α × aa)}, CK key es l →
  (iJ (key a) (eQ P kt) es = some none ∧ ja l a z = z ∧ nC l a v = l ++ [(a, v)]) ∨
  ∃ i e, iJ (key a) (eQ P kt) es = some (some (i, e)) ∧ e.key = key a ∧ ja l a z = e.val ∧ ∀ b, CK key (es.set i ⟨key a, v, b⟩) (nC l a v)
 | [], [], _ => .inl ⟨rfl, rfl, rfl⟩
 | e :: es, p :: l, h => by
  obtain ⟨h1, h2, h3⟩ := h
  by_cases hp : a = p.1
  ·refine .inr ⟨0, e, ?_, ?_, ?_, fun b => ?_⟩
   ·simp only [iJ, h1, hk.eq, obS, hp, decide_true, bcT]
   ·rw [h1, hp]
   ·simp only [ja, hp, if_true, h2]
   ·simp only [nC, hp, if_true, List.set_cons_zero]
    exact ⟨rfl, rfl, h3⟩
  ·have hp' : ¬ p.1 = a := fun e => hp e.symm
   have hf : iJ (key a) (eQ P kt) (e :: es) = ob (iJ (key a) (eQ P kt) es) fun r => match r with
    | some p => some (some (Nat.succ p.1, p.2))
    | none => some none := by
    simp only [iJ, h1, hk.eq, obS, hp, decide_false, bcF]
    rfl
   rcases tg hk a v z h3 with ⟨g1, g2, g3⟩ | ⟨i, e', g1, g2, g3, g4⟩
   ·refine .inl ⟨?_, ?_, ?_⟩
    ·rw [hf, g1]; rfl
    ·simp only [ja, hp', if_false, g2]
    ·simp only [nC, hp', if_false, g3, List.cons_append]
   ·refine .inr ⟨i + 1, e', ?_, g2, ?_, fun b => ?_⟩
    ·rw [hf, g1]; rfl
    ·simp only [ja, hp', if_false, g3]
    ·simp only [nC, hp', if_false, List.set_cons_succ]
     exact ⟨h1, h2, g4 b⟩
end
section
variable {α : Type} {key : α → aa}
theorem uh : ∀ {es : List cS} {l : List (α × aa)}, CK key es l → ∀ (a : α) (v : aa) (b : Nat), CK key (es ++ [⟨key a, v, b⟩]) (l ++ [(a, v)])
 | [], [], _, a, v, b => ⟨rfl, rfl, trivial⟩
 | e :: es, p :: l, h, a, v, b => ⟨h.1, h.2.1, uh h.2.2 a v b⟩
inductive Mz (key : α → aa) (h : Heap) (k : Nat) (l : List (α × aa)) : Prop where
 | mk (es : List cS) (c : Nat) (rw : Bool) (hg : h.get k = some (.map es c rw)) (he : CK key es l)
inductive pN (key : α → aa) (h : Heap) (k : Nat) (l : List (α × aa)) : Prop where
 | mk (es : List cS) (c : Nat) (hg : h.get k = some (.map es c true)) (he : CK key es l)
theorem pN.at {k : Nat} {l : List (α × aa)} (g : pN key h k l) : Mz key h k l := let ⟨es, c, a, b⟩ := g; ⟨es, c, true, a, b⟩
theorem pN.zW {k : Nat} {l : List (α × aa)} (g : h'.get k = h.get k) (w : pN key h k l) : pN key h' k l := let ⟨es, c, a, b⟩ := w; ⟨es, c, g.trans a, b⟩
end
section
variable {α : Type} [DecidableEq α] {key : α → aa}
theorem om {k : Nat} {es : List cS} {c : Nat} {r : Bool} (hg : h.get k = some (.map es c r)) : h.entries k = some (es, c, r) := by
 unfold Heap.entries; rw [hg]; rfl
theorem V.lookup {t kt et q k : Nat} {x y : Operand} {a : α} {z : aa} {l : List (α × aa)} (hT : bH P aw = true) (ho : o.op = .lookup t x y false) (ht : bY aw t = some (.map kt et, q)) (hk : mT P kt key) (hz : ix P et = some z)
  (hx : eS P L x = some (.map k)) (hy : eS P L y = some (key a)) (hm : Mz key h k l) : cK P o L h (ja l a z) h := cK.mk ho fun ev ha d ty ps aft g => by
 obtain ⟨es, c, rw', hg, he⟩ := hm
 simp only [bS, evS ha hx, evS ha hy, oY, qL hT ht, hk.simple, hk.ok, bcT, hz, obS, om hg, bcF]
 rcases tg hk a z z he with ⟨g1, g2, g3⟩ | ⟨i, e', g1, g2, g3, g4⟩
 ·simp only [g1, obS, g2]
 ·simp only [g1, obS, g3]
theorem gK.mapUpdate {t kt et q k : Nat} {x y u : Operand} {a : α} {v : aa} {l : List (α × aa)} (hT : bH P aw = true) (ho : o.op = .mapUpdate t x y u) (ht : bY aw t = some (.map kt et, q)) (hk : mT P kt key)
  (hx : eS P L x = some (.map k)) (hy : eS P L y = some (key a)) (hu : eS P L u = some v) (hm : pN key h k l) (wf : Wf h) (hw : jA ops o L = some true) (hf : fits o.dst n = true)
  (hr : ∀ h', pN key h' k (nC l a v) → (∀ j, j ≠ k → h'.get j = h.get j) → Wf h' → h'.next = h.next → R (jI o.dst bw L) h') : gK P K ops o L h m n R := by
 obtain ⟨es, c, hg, he⟩ := hm
 rcases tg hk a v v he with ⟨g1, g2, g3⟩ | ⟨i, e', g1, g2, g3, g4⟩
 ·have p := oP wf (.map (es ++ [⟨key a, v, c⟩]) (Nat.succ c) true) (wf.lt hg)
  refine gK.val (v := bw) (h' := h.put k (.map (es ++ [⟨key a, v, c⟩]) (Nat.succ c) true)) (cK.mk ho fun ev ha d ty ps aft g => ?_) hw hf (hr _ ⟨_, _, p.get, ?_⟩ p.uR p.wf p.next)
  ·simp only [bS, evS ha hx, evS ha hy, evS ha hu, kh, qL hT ht, aa.lS, obS, sj, hk.simple, hk.ok, bcT, om hg, g1]
  ·rw [g3]; exact uh he a v c
 ·have p := oP wf (.map (es.set i ⟨key a, v, e'.born⟩) c true) (wf.lt hg)
  refine gK.val (v := bw) (h' := h.put k (.map (es.set i ⟨key a, v, e'.born⟩) c true)) (cK.mk ho fun ev ha d ty ps aft g => ?_) hw hf (hr _ ⟨_, _, p.get, g4 _⟩ p.uR p.wf p.next)
  simp only [bS, evS ha hx, evS ha hy, evS ha hu, kh, qL hT ht, aa.lS, obS, sj, hk.simple, hk.ok, bcT, om hg, g1, g2, hk.same]
end
/-! truths at keys -/
section
variable {α : Type} [DecidableEq α] {key : α → aa}
def mY : List (α × Bool) → α → Bool
 | [], _ => false
 | p :: l, a => if p.1 = a then p.2 else mY l a
def Da : List (α × Bool) → α → Bool → List (α × Bool)
 | [], a, v => [(a, v)]
 | p :: l, a, v => if p.1 = a then (a, v) :: l else p :: Da l a v
def kO (p : α × Bool) : α × aa := (p.1, .bool p.2)
theorem A3 (l : List (α × Bool)) (a : α) : ja (l.map kO) a (.bool false) = .bool (mY l a) := by
 induction l with
 | nil => rfl
 | cons p l ih => simp only [List.map_cons, ja, mY, kO]; split <;> first | rfl | exact ih
theorem D7 (l : List (α × Bool)) (a : α) (b : Bool) : nC (l.map kO) a (.bool b) = (Da l a b).map kO := by
 induction l with
 | nil => rfl
 | cons p l ih =>
  simp only [List.map_cons, nC, Da]
  by_cases h : p.1 = a
  ·simp [h, kO]
  ·have h' : ¬ (kO p).1 = a := h
   simp only [h, h', if_false, List.map_cons, ih]
theorem DN (l : List (α × Bool)) (a b : α) (v : Bool) : mY (Da l a v) b = if a = b then v else mY l b := by
 have := DL (l.map kO) a b (.bool v) (.bool false)
 rw [D7, A3, A3] at this
 split at this <;> rename_i h
 ·rw [if_pos h]; exact aa.bool.inj this
 ·rw [if_neg h]; exact aa.bool.inj this
end
theorem qT {k e : Nat} {l : List aa} {s w : Bool} (hg : h.get k = some (.cells l e s w)) : Row h k 0 l := zH hg (by rw [List.drop_zero, List.take_length])
theorem tF.known {f : Nat} {args : List aa} {v : aa} (hk : K f args h = some (.ret v, h')) : tF P K f args h v h' := ⟨0, fun m _ => by simp only [eZ, hk]⟩
theorem C5 {α : Type} {key : α → aa} : ∀ (l : List α) (n : Nat), CK key (l.zipIdx n |>.map fun p => ⟨key p.1, .bool true, p.2⟩) ((l.map fun q => (q, true)).map kO)
 | [], _ => trivial
 | _ :: l, n => ⟨rfl, rfl, C5 l (n + 1)⟩
theorem DM {α : Type} [DecidableEq α] (l : List α) (a : α) : mY (l.map fun q => (q, true)) a = l.any fun q => decide (q = a) := by
 induction l with
 | nil => rfl
 | cons p l ih => simp only [List.map_cons, mY, List.any_cons, ih]; by_cases h : p = a <;> simp [h]
def kV (p : Nat × Nat) : aa := .str p.1 p.2
theorem JB {t : Nat} (hu : P.underlying t = some .string) : mT P t kV := by
 refine ⟨by simp only [dA, hu], fun a => by simp only [rp, hu], fun a b => ?_, fun a => ?_⟩
 ·simp only [eQ, heq, hu, kV, vM, bD, bcE]
  obtain ⟨a1, a2⟩ := a
  obtain ⟨b1, b2⟩ := b
  by_cases h1 : a1 = b1 <;> by_cases h2 : a2 = b2 <;> simp [h1, h2]
 ·simp [sameKey, nG, kV, vM, bD]
structure Kr (h : Heap) (v : aa) (w : Nat) (rows : List (List aa)) : Prop where
 slice : mS h v w rows
 live : ∀ k, sW v = some k → ∃ o, h.get k = some o
theorem Kr.ji {v : aa} {w : Nat} {rows : List (List aa)} (a : Kr h v w rows) (e : ∀ k, sW v = some k → h'.get k = h.get k) : Kr h' v w rows := by
 refine ⟨⟨a.slice.len, fun i r hr => ?_⟩, fun k hk => by rw [e k hk]; exact a.live k hk⟩
 obtain ⟨k, off, cap, rfl, hrow⟩ := a.slice.row i r hr
 refine ⟨k, off, cap, rfl, ⟨?_⟩⟩
 have := hrow.load
 unfold eh Heap.cells at this ⊢
 rw [e k rfl]; exact this
theorem Is {α : Type} {l : List α} {g : α → List aa} {i : Nat} {a : α} (d : α) (hi : i < l.length) (e : l.getD i d = a) : (l.map g)[i]? = some (g a) := by rw [aM d hi, e]
/-! ## Slices that are one's own -/
inductive App (h : Heap) (e w : Nat) : aa → Nat → List aa → Option Nat → Prop
 | aC : App h e w .aC 0 [] none
 | full {k off n e' : Nat} {L l : List aa} {s r : Bool} (hg : h.get k = some (.cells L e' s r)) (hl : l.length = n * w) (hd : (L.drop off).take (n * w) = l) : App h e w (.slice k off n (some n)) n l none
 | own {k off n : Nat} {L l : List aa} (hg : h.get k = some (.cells L e true true)) (hl : L.length = off + n * w) (hd : L.drop off = l) : App h e w (.slice k off n none) n l (some k)
 | rest {k : Nat} {L : List aa} (hg : h.get k = some (.cells L e true true)) : App h e w (.rest k) 0 [] (some k)
theorem App.len {e w c : Nat} {v : aa} {l : List aa} {d : Option Nat} (a : App h e w v c l d) : dO v = some c := by cases a <;> rfl
theorem App.length {e w c : Nat} {v : aa} {l : List aa} {d : Option Nat} (a : App h e w v c l d) : l.length = c * w := by
 cases a with
 | aC => simp
 | full hg hl hd => exact hl
 | own hg hl hd => rw [← hd, List.length_drop]; omega
 | rest hg => simp
def wA : aa → Option Nat
 | .slice k _ _ _ => some k
 | .rest k => some k
 | _ => none
theorem App.ji {e w c : Nat} {v : aa} {l : List aa} {d : Option Nat} (a : App h e w v c l d) (g : ∀ k, wA v = some k → h'.get k = h.get k) : App h' e w v c l d := by
 cases a with
 | aC => exact .aC
 | full hg hl hd => exact .full ((g _ rfl).trans hg) hl hd
 | own hg hl hd => exact .own ((g _ rfl).trans hg) hl hd
 | rest hg => exact .rest ((g _ rfl).trans hg)
theorem App.key {e w c : Nat} {v : aa} {l : List aa} {d : Option Nat} (a : App h e w v c l d) {j : Nat} (hj : d = some j) : wA v = some j := by
 cases a <;> first | (cases hj; done) | exact hj
theorem App.live {e w c : Nat} {v : aa} {l : List aa} {d : Option Nat} (a : App h e w v c l d) {k : Nat} (hk : wA v = some k) : ∃ o, h.get k = some o := by
 cases a with
 | aC => cases hk
 | full hg hl hd => cases hk; exact ⟨_, hg⟩
 | own hg hl hd => cases hk; exact ⟨_, hg⟩
 | rest hg => cases hk; exact ⟨_, hg⟩
structure gI (h : Heap) (e w : Nat) (c : Nat) (l : List aa) (d : Option Nat) (k : Nat) (h' : Heap) : Prop where
 app : App h' e w (.slice k 0 c none) c l (some k)
 get : h'.get k = some (.cells l e true true)
 fresh : h.get k = none
 le : h.next ≤ k
 uR : ∀ j, some j ≠ d → j ≠ k → h'.get j = h.get j
 wf : Wf h'
 next : h.next ≤ h'.next
theorem gK.CG {t e w q c cm bs : Nat} {i : TI} {cl : Call} {x y : Operand} {v v2 : aa} {l new z : List aa} {d : Option Nat} (hT : bH P aw = true)
  (ho : o.op = .call cl) (hc : cl.callee = .builtin .append) (ha : cl.args = #[x, y]) (h0 : cl.argTypes[0]? = some t) (hnum : fG P cl.argTypes = true) (ht : bY aw t = some (.slice e, q))
  (he : bY aw e = some (i, w)) (hz : ag P e = some z) (hzl : Nat.beq z.length w = true) (he0 : Nat.beq e 0 = false) (hw0 : Nat.beq w 0 = false) (hb : P.bytesOf e = bs) (hb0 : Nat.beq bs 0 = false)
  (hx : eS P L x = some v) (hy : eS P L y = some v2) (hv : App h e w v c l d) (happ : dX P e v2 h = some (cm, new)) (hnl' : new.length = cm * w) (hm0 : Nat.beq cm 0 = false) (hroom : (c + cm) * bs ≤ 140737488355328)
  (wf : Wf h) (hw : jA ops o L = some true) (hf : fits o.dst n = true) (hr : ∀ k h', gI h e w (c + cm) (l ++ new) d k h' → R (jI o.dst (.slice k 0 (c + cm) none) L) h') : gK P K ops o L h m n R := by
 have hwid := (cP hT he).2
 have wpos : 0 < w := Nat.pos_of_ne_zero fun e => by rw [e] at hw0; cases hw0
 have mpos : 0 < cm := Nat.pos_of_ne_zero fun e => by rw [e] at hm0; cases hm0
 have hslice := (cM hT ht).1
 have hroom' : Nat.ble (Nat.mul (Nat.add c cm) bs) fC = true := by rw [eX]; exact decide_eq_true hroom
 have hop : ∀ ev : Env, fL L ev → bS P (ev.eval P) h o = kR P e v cm new h := by
  intro ev hag
  obtain ⟨d', op, ty, ps, aft, g⟩ := o
  simp only at ho
  subst ho
  simp only [bS, hc, ha, List.map_cons, List.map_nil, evS hag hx, evS hag hy, dL, jw, h0, hslice, obS, he0, bcF, hwid, hw0, hb, hb0, hnum, bcT, hz, hzl, happ]
 have hlen := hv.length
 have hmul : Nat.mul c w = l.length := hlen.symm
 -- a new block in some memory
 have fresh : ∀ (g : Heap), g.next = h.next → (∀ j, some j ≠ d → g.get j = h.get j) → (∀ j, h.next ≤ j → g.get j = none) → gI h e w (c + cm) (l ++ new) d g.next (g.new (.cells (l ++ new) e true true)) := by
  intro g hn ho2 hfr
  have hlen2 : (l ++ new).length = 0 + (c + cm) * w := by rw [List.length_append, hlen, hnl', Nat.zero_add, Nat.add_mul]
  have mk := jL (h := g) (fun k hk => hfr k (by rw [← hn]; exact hk)) (.cells (l ++ new) e true true)
  refine ⟨.own mk.get hlen2 rfl, mk.get, ?_, by rw [hn]; exact Nat.le_refl _, fun j hj hne => ?_, mk.wf, ?_⟩
  ·rw [hn]; exact wf _ (Nat.le_refl _)
  ·rw [mk.uR j hne]; exact ho2 j hj
  ·rw [← hn]; exact Nat.le_succ _
 cases hv with
 | aC =>
  refine gK.val (v := .slice h.next 0 cm none) (h' := h.new (.cells new e true true)) (fun ev hag => ?_) hw hf ?_
  ·rw [hop ev hag]
   rw [Nat.zero_add] at hroom
   have h3 : Nat.ble (Nat.mul cm bs) fC = true := by rw [eX]; exact decide_eq_true hroom
   simp only [kR, hm0, bcF, hb, h3, bcT, gB]
  ·have := hr h.next _ (fresh h rfl (fun _ _ => rfl) wf)
   rw [List.nil_append, Nat.zero_add] at this
   exact this
 | @full k off _ e' LL _ s r hg hl hd =>
  refine gK.val (v := .slice h.next 0 (c + cm) none) (h' := h.new (.cells (l ++ new) e true true)) (fun ev hag => ?_) hw hf (hr h.next _ (fresh h rfl (fun _ _ => rfl) wf))
  rw [hop ev hag]
  have h4 : Nat.ble (Nat.add c cm) c = false := by rw [eX]; exact decide_eq_false (by simp only [Nat.add_eq]; omega)
  have h5 : eh h k off (Nat.mul c (P.cellsOf e)) = some l := by
   unfold eh
   rw [bQ hg, obS, bz, dr, hwid]
   have : c * w ≤ (LL.drop off).length := by
    have := congrArg List.length hd
    rw [List.length_take, hl] at this
    omega
   rw [if_pos (show Nat.mul c w ≤ (LL.drop off).length from this)]
   exact congrArg some hd
  simp only [kR, hm0, bcF, hb, hroom', bcT, h4, h5, obS, rZ, gB]
  rfl
 | @own k off _ LL _ hg hl hd =>
  have hk := wf.lt hg
  refine gK.val (v := .slice h.next 0 (c + cm) none) (h' := (h.put k .dead).new (.cells (l ++ new) e true true)) (fun ev hag => ?_) hw hf (hr h.next _ (fresh (h.put k .dead) rfl (fun j hj => ?_) fun j hj => ?_))
  ·rw [hop ev hag]
   have h4 : roomFor P h k off (Nat.add c cm) e = false := by
    unfold roomFor
    rw [bQ hg]
    simp only [bcT, Nat.beq_refl, he0, bcF, hwid, hw0]
    rw [eX]
    refine decide_eq_false ?_
    simp only [Nat.add_eq, Nat.mul_eq, hl, Nat.add_mul]
    have : 0 < cm * w := Nat.mul_pos mpos wpos
    omega
   have h5 : fp (jS LL off) (Nat.mul c (P.cellsOf e)) (fun uR => Aq uR new fun l => gB (h.put k .dead) l (Nat.add c cm) e) = gB (h.put k .dead) (l ++ new) (c + cm) e := by
    rw [bz, dr, hwid, hmul, if_pos (by rw [hd]; exact Nat.le_refl _), hd, List.take_length, rZ]
    rfl
   simp only [kR, hm0, bcF, hb, hroom', bcT, h4, bQ hg, obS, Nat.beq_refl, h5]
   rfl
  ·rw [Heap.bP, if_neg (fun e => hj (by rw [e]))]
  ·rw [Heap.bP, if_neg (by omega)]
   exact wf j hj
 | @rest k LL hg =>
  have hk := wf.lt hg
  refine gK.val (v := .slice h.next 0 cm none) (h' := (h.put k .dead).new (.cells new e true true)) (fun ev hag => ?_) hw hf ?_
  ·rw [hop ev hag]
   rw [Nat.zero_add] at hroom
   have h3 : Nat.ble (Nat.mul cm bs) fC = true := by rw [eX]; exact decide_eq_true hroom
   simp only [kR, hm0, bcF, hb, h3, bcT, bQ hg, obS, Nat.beq_refl, gB]
   rfl
  ·have := hr h.next _ (fresh (h.put k .dead) rfl (fun j hj => by rw [Heap.bP, if_neg (fun e => hj (by rw [e]))]) fun j hj => by rw [Heap.bP, if_neg (by omega)]; exact wf j hj)
   rw [List.nil_append, Nat.zero_add] at this
   exact this
theorem gK.append {t t2 e w q q2 c cm bs k2 off2 : Nat} {i : TI} {cl : Call} {x y : Operand} {v : aa} {l new z : List aa} {d cap2 : Option Nat} (hT : bH P aw = true)
  (ho : o.op = .call cl) (hc : cl.callee = .builtin .append) (ha : cl.args = #[x, y]) (h0 : cl.argTypes[0]? = some t) (h2 : cl.argTypes[1]? = some t2) (ht : bY aw t = some (.slice e, q)) (ht2 : bY aw t2 = some (.slice e, q2))
  (he : bY aw e = some (i, w)) (hz : ag P e = some z) (hzl : Nat.beq z.length w = true) (he0 : Nat.beq e 0 = false) (hw0 : Nat.beq w 0 = false) (hb : P.bytesOf e = bs) (hb0 : Nat.beq bs 0 = false)
  (hx : eS P L x = some v) (hy : eS P L y = some (.slice k2 off2 cm cap2)) (hv : App h e w v c l d) (hnew : Row h k2 off2 new) (hnl : Nat.beq new.length (Nat.mul cm w) = true) (hm0 : Nat.beq cm 0 = false) (hroom : (c + cm) * bs ≤ 140737488355328)
  (wf : Wf h) (hw : jA ops o L = some true) (hf : fits o.dst n = true) (hr : ∀ k h', gI h e w (c + cm) (l ++ new) d k h' → R (jI o.dst (.slice k 0 (c + cm) none) L) h') : gK P K ops o L h m n R := by
 have hnl' : new.length = cm * w := Nat.eq_of_beq_eq_true hnl
 have happ : dX P e (.slice k2 off2 cm cap2) h = some (cm, new) := by
  have hnew := hnew.load
  rw [hnl'] at hnew
  simp only [dX, (cP hT he).2, Nat.mul_eq, hnew, obS]
 exact gK.CG hT ho hc ha h0 (by simp only [fG, h2, (cM hT ht2).1]) ht he hz hzl he0 hw0 hb hb0 hx hy hv happ hnl' hm0 hroom wf hw hf hr
inductive FT : aa → Prop
 | aC : FT .aC
 | empty : FT .empty
 | slice (k off c : Nat) : FT (.slice k off c none)
end
end
end Go.HL
