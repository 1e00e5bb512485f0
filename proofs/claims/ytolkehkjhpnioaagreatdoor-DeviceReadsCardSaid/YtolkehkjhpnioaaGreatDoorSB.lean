/- Runs of HL with an argument that is not closed: rules for operations, slices, structs. No statement of the seat stands here. -/
import Derived.Test.YtolkehkjhpnioaaGreatDoorSA
set_option linter.unusedVariables false
set_option linter.unusedSimpArgs false
namespace Go.HL
open Go
noncomputable section
section
variable {P : Program} {K : CallFn} {ops : Array Oper} {o : Oper} {L : Sts} {h h' : Heap} {m n : Nat} {R : Sts → Heap → Prop} {tab : Tab}
def placesV (P : Program) (tab : Tab) (L : Sts) (fs : List (Nat × Nat)) : List (Nat × Operand) → Option (List (Nat × Nat × HVal))
 | [] => some []
 | p :: l => ob (nth fs p.1) fun f => ob (tyL tab f.2) fun w => ob (evL P L p.2) fun v => ob (placesV P tab L fs l) fun r => some ((f.1, w.2, v) :: r)
theorem placesV_sound (hT : tabOk P tab = true) {ev : Env} (ha : Agree L ev) {fl : List Field} {fs : List (Nat × Nat)} (hb : fieldsB fl fs = true) : ∀ {l : List (Nat × Operand)} {r : List (Nat × Nat × HVal)}, placesV P tab L fs l = some r → placesOf P fl (ev.eval P) l = some r
 | [], r, e => by cases e; rfl
 | p :: l, r, e => by
  simp only [placesV] at e
  obtain ⟨f, e1, e2⟩ := ob_eq_some.1 e
  obtain ⟨w, e3, e4⟩ := ob_eq_some.1 e2
  obtain ⟨v, e5, e6⟩ := ob_eq_some.1 e4
  obtain ⟨r', e7, e8⟩ := ob_eq_some.1 e6
  cases e8
  obtain ⟨fd, g1, g2, g3⟩ := fieldsB_get hb e1
  have g1' : nth fl p.1 = some fd := by rw [nth_eq]; exact g1
  simp only [placesOf, g1', obS, placesV_sound hT ha hb e7, g2, g3, (tab_ok hT (i := w.1) (n := w.2) e3).2, evS ha e5]
def allTyped (tab : Tab) : List (Nat × Nat) → Bool
 | [] => true
 | p :: l => match tyL tab p.2 with | some _ => allTyped tab l | none => false
theorem infos_of (hT : tabOk P tab = true) : ∀ {fl : List Field} {fs : List (Nat × Nat)}, fieldsB fl fs = true → allTyped tab fs = true → infosOk P fl = true
 | [], _, _, _ => rfl
 | f :: fl, [], h, _ => by cases h
 | f :: fl, q :: fs, h, h2 => by
  simp only [fieldsB, bcFe] at h
  obtain ⟨_, g2, g3⟩ := h
  simp only [allTyped] at h2
  cases ht : tyL tab q.2 with
  | none => rw [ht] at h2; cases h2
  | some w =>
   rw [ht] at h2
   have hag := tab_agg hT (i := w.1) (n := w.2) ht
   unfold aggOf at hag
   obtain ⟨d, hd, _⟩ := ob_eq_some.1 hag
   rw [← Nat.eq_of_beq_eq_true g2] at hd
   obtain ⟨inf, hi⟩ := info_of_underlying hd
   simp only [infosOk, hi]
   exact infos_of hT g3 h2
theorem V.build {t q : Nat} {parts : Array (Nat × Operand)} {fs : List (Nat × Nat)} {ps : List (Nat × Nat × HVal)} {z cs : List HVal} (hT : tabOk P tab = true) (ho : o.op = .build t parts) (ht : tyL tab t = some (.struct fs, q)) (hz : zeroCells? P t = some z) (hp : placesV P tab L fs parts.toList = some ps) (ha : allTyped tab fs = true)
  (hc : fillH ps z = some cs) : OpV P o L h (.agg cs) h := OpV.mk ho fun ev hag d ty pp aft g => by
 obtain ⟨fl, hu, hb⟩ := tab_struct hT ht
 simp only [opH, hz, obS, hu, infos_of hT hb ha, bcT, placesV_sound hT hag hb hp, hc]
end
end
end Go.HL
namespace Go.HL
open Go
noncomputable section
section
variable {P : Program} {K : CallFn} {ops : Array Oper} {o : Oper} {L L' : Sts} {h h' : Heap} {m n : Nat} {Q : Ex → St → Prop} {a : Code}
/-! ## Regions whose order is open -/
inductive AL where
 | read (j : Nat) (o : Oper) (L : Sts) (v : HVal)
 | change (e : Nat) (a b : Heap)
def LogC : AL → LogE → Prop
 | .read j o L v, .read j' o' env v' => j = j' ∧ o = o' ∧ v = v' ∧ Agree L env
 | .change e a b, .change e' a' b' => e = e' ∧ a = a' ∧ b = b'
 | _, _ => False
def LogsC : List AL → List LogE → Prop
 | [], [] => True
 | x :: l, y :: m => LogC x y ∧ LogsC l m
 | _, _ => False
def upd (P : Program) (ops : Array Oper) (i : Nat) (o : Oper) (L : Sts) (h : Heap) (L' : Sts) (h' : Heap) (al : List AL) : Option (List AL) :=
 bcase (isChange P o) (some (.change i h h' :: al)) (bcase (isRead P o) (match o.dst with
  | some d => match wantL ops o L with
   | some true => match look L' d with
    | some v => some (.read i o L v :: al)
    | none => none
   | some false => some al
   | none => none
  | none => none) (some al))
structure WD (P : Program) (K : CallFn) (ops : Array Oper) (pl : List Nat) (al : List AL) (L : Sts) (h : Heap) (m n : Nat) (R : List AL → Sts → Heap → Prop) : Prop where
 run : ∀ s log, Fr m n L h s → LogsC al log → ∃ s' log' al' L' h', (∃ N, ∀ k, N ≤ k → drawH P (gate (callOr K (callWith P (execH P K k)))) ops (Region.before ops) pl log none s = some (log', none, s')) ∧ LogsC al' log' ∧ Fr m n L' h' s' ∧ R al' L' h'
variable {pl : List Nat} {al : List AL} {R : List AL → Sts → Heap → Prop}
theorem WD.nil (hr : R al L h) : WD P K ops [] al L h m n R := ⟨fun s log f hl => ⟨s, log, al, L, h, ⟨0, fun _ _ => rfl⟩, hl, f, hr⟩⟩
theorem WD.cons {i : Nat} (hi : ops[i]? = some o) (ho : Op1 P K ops o L h m n fun L' h' => ∃ al', upd P ops i o L h L' h' al = some al' ∧ WD P K ops pl al' L' h' m n R) : WD P K ops (i :: pl) al L h m n R := by
 constructor
 intro s log f hl
 obtain ⟨s1, L1, h1, ⟨N1, g1⟩, f1, al1, hu, w⟩ := ho.run s f
 have main : ∃ log1, LogsC al1 log1 ∧ ∀ call : CallFn, operH P call ops o s = some (.nrm, s1) → ∀ rest, drawH P call ops (Region.before ops) (i :: rest) log none s = drawH P call ops (Region.before ops) rest log1 none s1 := by
  unfold upd at hu
  cases hc : isChange P o with
  | true =>
   rw [hc, bcT] at hu
   cases hu
   refine ⟨.change i s.heap s1.heap :: log, ⟨⟨rfl, f.heap.symm, f1.heap.symm⟩, hl⟩, fun call hcall rest => ?_⟩
   simp only [drawH, isDead, bcF, hi, obS, hcall, hc, bcT]
  | false =>
   rw [hc, bcF] at hu
   cases hr : isRead P o with
   | false =>
    rw [hr, bcF] at hu
    cases hu
    refine ⟨log, hl, fun call hcall rest => ?_⟩
    simp only [drawH, isDead, bcF, hi, obS, hcall, hc, hr]
   | true =>
    rw [hr, bcT] at hu
    cases hd : o.dst with
    | none => rw [hd] at hu; cases hu
    | some d =>
     rw [hd] at hu
     simp only at hu
     cases hw : wantL ops o L with
     | none => rw [hw] at hu; cases hu
     | some b =>
      rw [hw] at hu
      have hw' := wantL_sound f.env hw
      cases b with
      | false =>
       cases hu
       refine ⟨log, hl, fun call hcall rest => ?_⟩
       simp only [drawH, isDead, bcF, hi, obS, hcall, hc, hr, bcT, hd, hw']
      | true =>
       simp only at hu
       cases hv : look L1 d with
       | none => rw [hv] at hu; cases hu
       | some v =>
        rw [hv] at hu
        cases hu
        refine ⟨.read i o s.env (s1.env.get d) :: log, ⟨⟨rfl, rfl, (f1.env _ _ hv).symm, f.env⟩, hl⟩, fun call hcall rest => ?_⟩
        simp only [drawH, isDead, bcF, hi, obS, hcall, hc, hr, bcT, hd, hw']
 obtain ⟨log1, hl1, hstep⟩ := main
 obtain ⟨s2, log2, al2, L2, h2, ⟨N2, g2⟩, hl2, f2, r⟩ := w.run s1 log1 f1 hl1
 refine ⟨s2, log2, al2, L2, h2, ⟨max N1 N2, fun k hk => ?_⟩, hl2, f2, r⟩
 rw [hstep _ (g1 k (by omega)).2]
 exact g2 k (by omega)
def ReadOk (P : Program) (anc : Array Nat) (j : Nat) (o : Oper) (L : Sts) (v : HVal) : List AL → Prop
 | [] => True
 | .change e a b :: l => ((bcase (bit (anc.getD j 0) e) true (bit (anc.getD e 0) j)) = true ∨ (∃ x y, OpV P o L a v x ∧ OpV P o L b v y) ∧ HVal.beq v v = true) ∧ ReadOk P anc j o L v l
 | .read _ _ _ _ :: l => ReadOk P anc j o L v l
def AlOk (P : Program) (anc : Array Nat) (al : List AL) : List AL → Prop
 | [] => True
 | .read j o L v :: l => ReadOk P anc j o L v al ∧ AlOk P anc al l
 | .change _ _ _ :: l => AlOk P anc al l
theorem readOk_of {anc : Array Nat} {j : Nat} {o : Oper} {L : Sts} {v : HVal} {env : Env} (ha : Agree L env) : ∀ {al : List AL} {log : List LogE}, LogsC al log → ReadOk P anc j o L v al → readOk P anc j o env v log = true
 | [], [], _, _ => rfl
 | [], _ :: _, h, _ => by cases h
 | _ :: _, [], h, _ => by cases h
 | .read _ _ _ _ :: al, y :: log, h, r => by
  cases y with
  | read j' o' env' v' =>
   show readOk P anc j o env v log = true
   exact readOk_of ha h.2 r
  | change e a b => exact absurd h.1 (by simp [LogC])
 | .change e a b :: al, y :: log, h, r => by
  cases y with
  | read j' o' env' v' => exact absurd h.1 (by simp [LogC])
  | change e' a' b' =>
   obtain ⟨⟨rfl, rfl, rfl⟩, h2⟩ := h
   have ih := readOk_of ha h2 r.2
   simp only [readOk, ih]
   rcases r.1 with g | ⟨⟨x, y, g1, g2⟩, g3⟩
   ·rw [g]; rfl
   ·have e1 : sameRead P o env v a = true := by simp only [sameRead, g1 env ha]; exact g3
    have e2 : sameRead P o env v b = true := by simp only [sameRead, g2 env ha]; exact g3
    rw [e1, e2]
    generalize (bcase (bit (anc.getD j 0) e) true (bit (anc.getD e 0) j)) = q
    cases q <;> rfl
theorem logOk_of {anc : Array Nat} {al0 : List AL} {log0 : List LogE} (h0 : LogsC al0 log0) : ∀ {al : List AL} {log : List LogE}, LogsC al log → AlOk P anc al0 al → logOk P anc log0 log = true
 | [], [], _, _ => rfl
 | [], _ :: _, h, _ => by cases h
 | _ :: _, [], h, _ => by cases h
 | .read j o L v :: al, y :: log, h, r => by
  cases y with
  | read j' o' env' v' =>
   obtain ⟨⟨rfl, rfl, rfl, ha⟩, h2⟩ := h
   simp only [logOk, readOk_of ha h0 r.1, bcT]
   exact logOk_of h0 h2 r.2
  | change e a b => exact absurd h.1 (by simp [LogC])
 | .change e a b :: al, y :: log, h, r => by
  cases y with
  | read j' o' env' v' => exact absurd h.1 (by simp [LogC])
  | change e' a' b' =>
   show logOk P anc log0 log = true
   exact logOk_of h0 h.2 r
theorem WC.draw {id : Nat} (pl : List Nat) (anc : Array Nat) (hp : planOk P ops = true) (hl : planOf P ops = pl) (han : Region.before ops = anc) (hw : WD P K ops pl [] L h m n fun al L' h' => AlOk P anc al al ∧ Then m n Q L' h') : WC P K (.region id ops true) L h m n Q := by
 subst han
 constructor
 intro s f
 have fa : Fr m n L h s.alone := ⟨f.env, f.heap, f.defers, rfl, f.mask, f.lim⟩
 obtain ⟨s1, log1, al1, L1, h1, ⟨N, g⟩, hl1, f1, hok, ⟨L2, hk, q⟩⟩ := hw.run s.alone [] fa trivial
 have hlog := logOk_of hl1 hl1 hok
 let s2 : St := ⟨s1.env, s1.heap, s1.defers, s.pan, s.mask, s.lim⟩
 have f2 : Fr m n L1 h1 s2 := ⟨f1.env, f1.heap, f1.defers, f.pan, f.mask, f.lim⟩
 obtain ⟨s3, e3, f3⟩ := f2.flush hk
 refine ⟨_, s3, ⟨N + 1, fun k hk' => ?_⟩, q.run s3 f3⟩
 obtain ⟨k, rfl⟩ : ∃ j, k = j + 1 := ⟨k - 1, by omega⟩
 rw [exec_succ, stepC, bcT, hp, bcT, hl, g k (by omega), obS]
 simp only [drawnH, hlog, bcT, obS]
 exact e3
end
end
end Go.HL
namespace Go.HL
open Go
noncomputable section
section
variable {h h' : Heap}
theorem row_of {k off : Nat} {l r : List HVal} {e : Nat} {s w : Bool} (hg : h.get k = some (.cells l e s w)) (hr : (l.drop off).take r.length = r) : Row h k off r := by
 refine ⟨?_⟩
 unfold loadN
 rw [cells_get hg, obS, takeK_eq, dropN_eq]
 have hle : r.length ≤ (l.drop off).length := by
  have := congrArg List.length hr
  rw [List.length_take] at this
  omega
 rw [if_pos hle, hr]
theorem sliceAt_nils {w : Nat} : SliceAt h .nils w [] := ⟨rfl, fun i r hr => by simp at hr⟩
theorem row_i {α : Type} {l : List α} {g : α → List HVal} {i : Nat} (d : α) (hi : i < l.length) : (l.map g)[i]? = some (g (l.getD i d)) := by
 simp [List.getD, List.getElem?_eq_getElem hi]
theorem getD_mem {α : Type} {l : List α} {i : Nat} (d : α) (hi : i < l.length) : l.getD i d ∈ l := by
 simp [List.getD, List.getElem?_eq_getElem hi]
end
end
end Go.HL
namespace Go.HL
open Go
noncomputable section
section
variable {P : Program} {K : CallFn} {ops : Array Oper} {o : Oper} {L : Sts} {h h' : Heap} {m n : Nat} {R : Sts → Heap → Prop} {tab : Tab}
/-! ## Maps -/
section
variable {α : Type} [DecidableEq α] {key : α → HVal}
def Ents (key : α → HVal) : List HEnt → List (α × HVal) → Prop
 | [], [] => True
 | e :: es, p :: l => e.key = key p.1 ∧ e.val = p.2 ∧ Ents key es l
 | _, _ => False
end
section
variable {α : Type} {key : α → HVal}
inductive MapAt (key : α → HVal) (h : Heap) (k : Nat) (l : List (α × HVal)) : Prop where
 | mk (es : List HEnt) (c : Nat) (rw : Bool) (hg : h.get k = some (.map es c rw)) (he : Ents key es l)
inductive MapRw (key : α → HVal) (h : Heap) (k : Nat) (l : List (α × HVal)) : Prop where
 | mk (es : List HEnt) (c : Nat) (hg : h.get k = some (.map es c true)) (he : Ents key es l)
theorem MapRw.at {k : Nat} {l : List (α × HVal)} (g : MapRw key h k l) : MapAt key h k l := let ⟨es, c, a, b⟩ := g; ⟨es, c, true, a, b⟩
theorem MapRw.of_get {k : Nat} {l : List (α × HVal)} (g : h'.get k = h.get k) (w : MapRw key h k l) : MapRw key h' k l := let ⟨es, c, a, b⟩ := w; ⟨es, c, g.trans a, b⟩
end
section
variable {α : Type} [DecidableEq α] {key : α → HVal}
end
/-! truths at keys -/
section
variable {α : Type} [DecidableEq α] {key : α → HVal}
end
theorem row_all {k e : Nat} {l : List HVal} {s w : Bool} (hg : h.get k = some (.cells l e s w)) : Row h k 0 l := row_of hg (by rw [List.drop_zero, List.take_length])
theorem Does.known {f : Nat} {args : List HVal} {v : HVal} (hk : K f args h = some (.ret v, h')) : Does P K f args h v h' := ⟨0, fun m _ => by simp only [callOr, hk]⟩
structure Held (h : Heap) (v : HVal) (w : Nat) (rows : List (List HVal)) : Prop where
 slice : SliceAt h v w rows
 live : ∀ k, keyV v = some k → ∃ o, h.get k = some o
theorem Held.keep {v : HVal} {w : Nat} {rows : List (List HVal)} (a : Held h v w rows) (e : ∀ k, keyV v = some k → h'.get k = h.get k) : Held h' v w rows := by
 refine ⟨⟨a.slice.len, fun i r hr => ?_⟩, fun k hk => by rw [e k hk]; exact a.live k hk⟩
 obtain ⟨k, off, cap, rfl, hrow⟩ := a.slice.row i r hr
 refine ⟨k, off, cap, rfl, ⟨?_⟩⟩
 have := hrow.load
 unfold loadN Heap.cells at this ⊢
 rw [e k rfl]; exact this
theorem row_is {α : Type} {l : List α} {g : α → List HVal} {i : Nat} {a : α} (d : α) (hi : i < l.length) (e : l.getD i d = a) : (l.map g)[i]? = some (g a) := by rw [row_i d hi, e]
/-! ## Slices that are one's own -/
inductive App (h : Heap) (e w : Nat) : HVal → Nat → List HVal → Option Nat → Prop
 | nils : App h e w .nils 0 [] none
 | full {k off n e' : Nat} {L l : List HVal} {s r : Bool} (hg : h.get k = some (.cells L e' s r)) (hl : l.length = n * w) (hd : (L.drop off).take (n * w) = l) : App h e w (.slice k off n (some n)) n l none
 | own {k off n : Nat} {L l : List HVal} (hg : h.get k = some (.cells L e true true)) (hl : L.length = off + n * w) (hd : L.drop off = l) : App h e w (.slice k off n none) n l (some k)
 | rest {k : Nat} {L : List HVal} (hg : h.get k = some (.cells L e true true)) : App h e w (.rest k) 0 [] (some k)
theorem App.len {e w c : Nat} {v : HVal} {l : List HVal} {d : Option Nat} (a : App h e w v c l d) : lenV v = some c := by cases a <;> rfl
theorem App.length {e w c : Nat} {v : HVal} {l : List HVal} {d : Option Nat} (a : App h e w v c l d) : l.length = c * w := by
 cases a with
 | nils => simp
 | full hg hl hd => exact hl
 | own hg hl hd => rw [← hd, List.length_drop]; omega
 | rest hg => simp
theorem App.of_get {e w c : Nat} {v : HVal} {l : List HVal} {d : Option Nat} (a : App h e w v c l d) (hg : ∀ {k o}, h.get k = some o → h'.get k = some o) : App h' e w v c l d := by
 cases a with
 | nils => exact .nils
 | full g hl hd => exact .full (hg g) hl hd
 | own g hl hd => exact .own (hg g) hl hd
 | rest g => exact .rest (hg g)
theorem App.mono {e w c : Nat} {v : HVal} {l : List HVal} {d : Option Nat} (a : App h e w v c l d) (g : Grow h h') : App h' e w v c l d := a.of_get g.get
def keyW : HVal → Option Nat
 | .slice k _ _ _ => some k
 | .rest k => some k
 | _ => none
theorem App.keep {e w c : Nat} {v : HVal} {l : List HVal} {d : Option Nat} (a : App h e w v c l d) (g : ∀ k, keyW v = some k → h'.get k = h.get k) : App h' e w v c l d := by
 cases a with
 | nils => exact .nils
 | full hg hl hd => exact .full ((g _ rfl).trans hg) hl hd
 | own hg hl hd => exact .own ((g _ rfl).trans hg) hl hd
 | rest hg => exact .rest ((g _ rfl).trans hg)
theorem App.key {e w c : Nat} {v : HVal} {l : List HVal} {d : Option Nat} (a : App h e w v c l d) {j : Nat} (hj : d = some j) : keyW v = some j := by
 cases a <;> first | (cases hj; done) | exact hj
theorem App.live {e w c : Nat} {v : HVal} {l : List HVal} {d : Option Nat} (a : App h e w v c l d) {k : Nat} (hk : keyW v = some k) : ∃ o, h.get k = some o := by
 cases a with
 | nils => cases hk
 | full hg hl hd => cases hk; exact ⟨_, hg⟩
 | own hg hl hd => cases hk; exact ⟨_, hg⟩
 | rest hg => cases hk; exact ⟨_, hg⟩
structure Appended (h : Heap) (e w : Nat) (c : Nat) (l : List HVal) (d : Option Nat) (k : Nat) (h' : Heap) : Prop where
 app : App h' e w (.slice k 0 c none) c l (some k)
 get : h'.get k = some (.cells l e true true)
 fresh : h.get k = none
 le : h.next ≤ k
 old : ∀ j, some j ≠ d → j ≠ k → h'.get j = h.get j
 wf : Wf h'
 next : h.next ≤ h'.next
theorem Op1.appendOf {t e w q c cm bs : Nat} {i : TI} {cl : Call} {x y : Operand} {v v2 : HVal} {l new z : List HVal} {d : Option Nat} (hT : tabOk P tab = true)
  (ho : o.op = .call cl) (hc : cl.callee = .builtin .append) (ha : cl.args = #[x, y]) (h0 : cl.argTypes[0]? = some t) (hnum : noNumber P cl.argTypes = true) (ht : tyL tab t = some (.slice e, q))
  (he : tyL tab e = some (i, w)) (hz : zeroCells? P e = some z) (hzl : Nat.beq z.length w = true) (he0 : Nat.beq e 0 = false) (hw0 : Nat.beq w 0 = false) (hb : P.bytesOf e = bs) (hb0 : Nat.beq bs 0 = false)
  (hx : evL P L x = some v) (hy : evL P L y = some v2) (hv : App h e w v c l d) (happ : appended P e v2 h = some (cm, new)) (hnl' : new.length = cm * w) (hm0 : Nat.beq cm 0 = false) (hroom : (c + cm) * bs ≤ 140737488355328)
  (wf : Wf h) (hw : wantL ops o L = some true) (hf : fits o.dst n = true) (hr : ∀ k h', Appended h e w (c + cm) (l ++ new) d k h' → R (putD? o.dst (.slice k 0 (c + cm) none) L) h') : Op1 P K ops o L h m n R := by
 have hwid := (tab_ok hT he).2
 have wpos : 0 < w := Nat.pos_of_ne_zero fun e => by rw [e] at hw0; cases hw0
 have mpos : 0 < cm := Nat.pos_of_ne_zero fun e => by rw [e] at hm0; cases hm0
 have hslice := (tab_slice hT ht).1
 have hroom' : Nat.ble (Nat.mul (Nat.add c cm) bs) roomH = true := by rw [nble]; exact decide_eq_true hroom
 have hop : ∀ ev : Env, Agree L ev → opH P (ev.eval P) h o = appendH P e v cm new h := by
  intro ev hag
  obtain ⟨d', op, ty, ps, aft, g⟩ := o
  simp only at ho
  subst ho
  simp only [opH, hc, ha, List.map_cons, List.map_nil, evS hag hx, evS hag hy, builtinH, sliceElem, h0, hslice, obS, he0, bcF, hwid, hw0, hb, hb0, hnum, bcT, hz, hzl, happ]
 have hlen := hv.length
 have hmul : Nat.mul c w = l.length := hlen.symm
 -- a new block in some memory
 have fresh : ∀ (g : Heap), g.next = h.next → (∀ j, some j ≠ d → g.get j = h.get j) → (∀ j, h.next ≤ j → g.get j = none) → Appended h e w (c + cm) (l ++ new) d g.next (g.new (.cells (l ++ new) e true true)) := by
  intro g hn ho2 hfr
  have hlen2 : (l ++ new).length = 0 + (c + cm) * w := by rw [List.length_append, hlen, hnl', Nat.zero_add, Nat.add_mul]
  have mk := made_new (h := g) (fun k hk => hfr k (by rw [← hn]; exact hk)) (.cells (l ++ new) e true true)
  refine ⟨.own mk.get hlen2 rfl, mk.get, ?_, by rw [hn]; exact Nat.le_refl _, fun j hj hne => ?_, mk.wf, ?_⟩
  ·rw [hn]; exact wf _ (Nat.le_refl _)
  ·rw [mk.old j hne]; exact ho2 j hj
  ·rw [← hn]; exact Nat.le_succ _
 cases hv with
 | nils =>
  refine Op1.val (v := .slice h.next 0 cm none) (h' := h.new (.cells new e true true)) (fun ev hag => ?_) hw hf ?_
  ·rw [hop ev hag]
   rw [Nat.zero_add] at hroom
   have h3 : Nat.ble (Nat.mul cm bs) roomH = true := by rw [nble]; exact decide_eq_true hroom
   simp only [appendH, hm0, bcF, hb, h3, bcT, newSlice]
  ·have := hr h.next _ (fresh h rfl (fun _ _ => rfl) wf)
   rw [List.nil_append, Nat.zero_add] at this
   exact this
 | @full k off _ e' LL _ s r hg hl hd =>
  refine Op1.val (v := .slice h.next 0 (c + cm) none) (h' := h.new (.cells (l ++ new) e true true)) (fun ev hag => ?_) hw hf (hr h.next _ (fresh h rfl (fun _ _ => rfl) wf))
  rw [hop ev hag]
  have h4 : Nat.ble (Nat.add c cm) c = false := by rw [nble]; exact decide_eq_false (by simp only [Nat.add_eq]; omega)
  have h5 : loadN h k off (Nat.mul c (P.cellsOf e)) = some l := by
   unfold loadN
   rw [cells_get hg, obS, takeK_eq, dropN_eq, hwid]
   have : c * w ≤ (LL.drop off).length := by
    have := congrArg List.length hd
    rw [List.length_take, hl] at this
    omega
   rw [if_pos (show Nat.mul c w ≤ (LL.drop off).length from this)]
   exact congrArg some hd
  simp only [appendH, hm0, bcF, hb, hroom', bcT, h4, h5, obS, appK_eq, newSlice]
  rfl
 | @own k off _ LL _ hg hl hd =>
  have hk := wf.lt hg
  refine Op1.val (v := .slice h.next 0 (c + cm) none) (h' := (h.put k .dead).new (.cells (l ++ new) e true true)) (fun ev hag => ?_) hw hf (hr h.next _ (fresh (h.put k .dead) rfl (fun j hj => ?_) fun j hj => ?_))
  ·rw [hop ev hag]
   have h4 : roomFor P h k off (Nat.add c cm) e = false := by
    unfold roomFor
    rw [cells_get hg]
    simp only [bcT, Nat.beq_refl, he0, bcF, hwid, hw0]
    rw [nble]
    refine decide_eq_false ?_
    simp only [Nat.add_eq, Nat.mul_eq, hl, Nat.add_mul]
    have : 0 < cm * w := Nat.mul_pos mpos wpos
    omega
   have h5 : takeK (dropN LL off) (Nat.mul c (P.cellsOf e)) (fun old => appK old new fun l => newSlice (h.put k .dead) l (Nat.add c cm) e) = newSlice (h.put k .dead) (l ++ new) (c + cm) e := by
    rw [takeK_eq, dropN_eq, hwid, hmul, if_pos (by rw [hd]; exact Nat.le_refl _), hd, List.take_length, appK_eq]
    rfl
   simp only [appendH, hm0, bcF, hb, hroom', bcT, h4, cells_get hg, obS, Nat.beq_refl, h5]
   rfl
  ·rw [Heap.get_put, if_neg (fun e => hj (by rw [e]))]
  ·rw [Heap.get_put, if_neg (by omega)]
   exact wf j hj
 | @rest k LL hg =>
  have hk := wf.lt hg
  refine Op1.val (v := .slice h.next 0 cm none) (h' := (h.put k .dead).new (.cells new e true true)) (fun ev hag => ?_) hw hf ?_
  ·rw [hop ev hag]
   rw [Nat.zero_add] at hroom
   have h3 : Nat.ble (Nat.mul cm bs) roomH = true := by rw [nble]; exact decide_eq_true hroom
   simp only [appendH, hm0, bcF, hb, h3, bcT, cells_get hg, obS, Nat.beq_refl, newSlice]
   rfl
  ·have := hr h.next _ (fresh (h.put k .dead) rfl (fun j hj => by rw [Heap.get_put, if_neg (fun e => hj (by rw [e]))]) fun j hj => by rw [Heap.get_put, if_neg (by omega)]; exact wf j hj)
   rw [List.nil_append, Nat.zero_add] at this
   exact this
theorem Op1.append {t t2 e w q q2 c cm bs k2 off2 : Nat} {i : TI} {cl : Call} {x y : Operand} {v : HVal} {l new z : List HVal} {d cap2 : Option Nat} (hT : tabOk P tab = true)
  (ho : o.op = .call cl) (hc : cl.callee = .builtin .append) (ha : cl.args = #[x, y]) (h0 : cl.argTypes[0]? = some t) (h2 : cl.argTypes[1]? = some t2) (ht : tyL tab t = some (.slice e, q)) (ht2 : tyL tab t2 = some (.slice e, q2))
  (he : tyL tab e = some (i, w)) (hz : zeroCells? P e = some z) (hzl : Nat.beq z.length w = true) (he0 : Nat.beq e 0 = false) (hw0 : Nat.beq w 0 = false) (hb : P.bytesOf e = bs) (hb0 : Nat.beq bs 0 = false)
  (hx : evL P L x = some v) (hy : evL P L y = some (.slice k2 off2 cm cap2)) (hv : App h e w v c l d) (hnew : Row h k2 off2 new) (hnl : Nat.beq new.length (Nat.mul cm w) = true) (hm0 : Nat.beq cm 0 = false) (hroom : (c + cm) * bs ≤ 140737488355328)
  (wf : Wf h) (hw : wantL ops o L = some true) (hf : fits o.dst n = true) (hr : ∀ k h', Appended h e w (c + cm) (l ++ new) d k h' → R (putD? o.dst (.slice k 0 (c + cm) none) L) h') : Op1 P K ops o L h m n R := by
 have hnl' : new.length = cm * w := Nat.eq_of_beq_eq_true hnl
 have happ : appended P e (.slice k2 off2 cm cap2) h = some (cm, new) := by
  have hnew := hnew.load
  rw [hnl'] at hnew
  simp only [appended, (tab_ok hT he).2, Nat.mul_eq, hnew, obS]
 exact Op1.appendOf hT ho hc ha h0 (by simp only [noNumber, h2, (tab_slice hT ht2).1]) ht he hz hzl he0 hw0 hb hb0 hx hy hv happ hnl' hm0 hroom wf hw hf hr
inductive Loose : HVal → Prop
 | nils : Loose .nils
 | empty : Loose .empty
 | slice (k off c : Nat) : Loose (.slice k off c none)
end
end
end Go.HL
