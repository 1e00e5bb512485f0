/- Predecessors, in plain lists; the memory of a table of lists. No statement of the seat stands here. -/
import Derived.Test.YtfmflhdogffjoaaGreatDoorFvN
namespace Go.HL
open Go
namespace Fv
def runM {α : Type} (step : Nat → α → α) : Nat → Nat → α → α
  | _, 0, T => T
  | k, d + 1, T => runM step (k + 1) d (step k T)
theorem runM_step {α : Type} {step : Nat → α → α} {i N : Nat} (hi : i < N) (T : α) : runM step i (N - i) T = runM step (i + 1) (N - (i + 1)) (step i T) := by
  obtain ⟨d, hd⟩ : ∃ d, N - i = d + 1 := ⟨N - i - 1, by omega⟩
  rw [hd, show N - (i + 1) = d by omega]; rfl
theorem runM_end {α : Type} {step : Nat → α → α} {i N : Nat} (hi : N ≤ i) (T : α) : runM step i (N - i) T = T := by rw [show N - i = 0 by omega]; rfl
def addM (i : Nat) (T : List (List Int)) (m : Nat) : List (List Int) := T.set m (T.getD m [] ++ [(i : Int)])
def stepR (i : Nat) (l : List Int) (k : Nat) (T : List (List Int)) : List (List Int) := if k = 0 ∨ l.getD k 0 ≠ l.getD 0 0 then addM i T (l.getD k 0).toNat else T
def stepG (i : Nat) (l : List Int) (k : Nat) (T : List (List Int)) : List (List Int) :=
  if (T.getD (l.getD k 0).toNat []).length = 0 ∨ (T.getD (l.getD k 0).toNat []).getD ((T.getD (l.getD k 0).toNat []).length - 1) 0 ≠ (i : Int) then addM i T (l.getD k 0).toNat else T
def nodeR (f : FlowD) (i : Nat) (T : List (List Int)) : List (List Int) := runM (stepR i (f.nodes.getD i noNode).next) 0 (f.nodes.getD i noNode).next.length T
def nodeG (f : FlowD) (i : Nat) (T : List (List Int)) : List (List Int) := runM (stepG i (f.nodes.getD i noNode).next) 0 (f.nodes.getD i noNode).next.length T
def FlowD.predsR (f : FlowD) : List (List Int) := runM (nodeR f) 0 f.nodes.length (List.replicate f.nodes.length [])
def FlowD.predsG (f : FlowD) : List (List Int) := runM (nodeG f) 0 f.nodes.length (List.replicate f.nodes.length [])
def Below (i : Nat) (T : List (List Int)) : Prop := ∀ m, ∀ x ∈ T.getD m [], x < (i : Int)
theorem getD_set {α : Type} {l : List α} {i j : Nat} {a d : α} (hi : i < l.length) : (l.set i a).getD j d = if j = i then a else l.getD j d := by
  simp only [List.getD, List.getElem?_set]
  by_cases h : i = j
  · subst h; simp [hi]
  · have h' : ¬ j = i := fun e => h e.symm
    simp [h, h']
theorem addM_length {i : Nat} {T : List (List Int)} {m : Nat} : (addM i T m).length = T.length := by simp [addM]
theorem stepR_length {i : Nat} {l : List Int} {k : Nat} {T : List (List Int)} : (stepR i l k T).length = T.length := by unfold stepR; split <;> simp [addM]
theorem stepG_length {i : Nat} {l : List Int} {k : Nat} {T : List (List Int)} : (stepG i l k T).length = T.length := by unfold stepG; split <;> simp [addM]
theorem runM_length {step : Nat → List (List Int) → List (List Int)} (h : ∀ k T, (step k T).length = T.length) : ∀ (d k : Nat) (T : List (List Int)), (runM step k d T).length = T.length
  | 0, _, _ => rfl
  | d + 1, k, T => by rw [runM, runM_length h d]; exact h k T
theorem predsR_length (f : FlowD) : f.predsR.length = f.nodes.length := by
  unfold FlowD.predsR
  rw [runM_length (step := nodeR f) (fun k T => runM_length (fun _ _ => stepR_length) _ _ _)]; simp
theorem Below.add {i m : Nat} {T : List (List Int)} (hb : Below i T) : Below (i + 1) (addM i T m) := by
  intro j x hx
  by_cases hm : m < T.length
  · unfold addM at hx
    rw [getD_set hm] at hx
    split at hx
    · rcases List.mem_append.1 hx with hx | hx
      · have := hb m x hx; omega
      · rw [List.mem_singleton.1 hx]; omega
    · have := hb j x hx; omega
  · unfold addM at hx
    rw [List.set_eq_of_length_le (by omega)] at hx
    have := hb j x hx; omega
theorem Below.up {i : Nat} {T : List (List Int)} (hb : Below i T) : Below (i + 1) T := fun m x hx => by have := hb m x hx; omega
theorem Below.last {i m : Nat} {T : List (List Int)} (hb : Below i T) : (T.getD m []).length = 0 ∨ (T.getD m []).getD ((T.getD m []).length - 1) 0 ≠ (i : Int) := by
  by_cases h : (T.getD m []).length = 0
  · exact .inl h
  · have := hb m _ (getD_mem (0 : Int) (show (T.getD m []).length - 1 < (T.getD m []).length by omega))
    exact .inr (by omega)
theorem node_same (f : FlowD) (hlk : f.linked) {i : Nat} (hi : i < f.nodes.length) {T : List (List Int)} (hT : T.length = f.nodes.length) (hb : Below i T) : nodeG f i T = nodeR f i T ∧ Below (i + 1) (nodeR f i T) := by
  have hl := hlk _ (getD_mem noNode hi)
  have h2 := (f.nodes.getD i noNode).next_len
  unfold nodeG nodeR
  generalize (f.nodes.getD i noNode).next = l at hl h2
  match l, hl, h2 with
  | [], _, _ => exact ⟨rfl, hb.up⟩
  | [a], hl, _ =>
    have e : stepG i [a] 0 T = stepR i [a] 0 T := by unfold stepG stepR; rw [if_pos hb.last, if_pos (.inl rfl)]
    refine ⟨e, ?_⟩
    show Below (i + 1) (stepR i [a] 0 T)
    unfold stepR; rw [if_pos (.inl rfl)]; exact hb.add
  | [a, b], hl, _ =>
    have ha := hl a (by simp)
    have hb2 := hl b (by simp)
    have e : stepG i [a, b] 0 T = addM i T a.toNat := by unfold stepG; rw [if_pos hb.last]; rfl
    have e' : stepR i [a, b] 0 T = addM i T a.toNat := by unfold stepR; rw [if_pos (.inl rfl)]; rfl
    show stepG i [a, b] 1 (stepG i [a, b] 0 T) = stepR i [a, b] 1 (stepR i [a, b] 0 T) ∧ Below (i + 1) (stepR i [a, b] 1 (stepR i [a, b] 0 T))
    rw [e, e']
    by_cases hab : b = a
    · subst hab
      have e1 : stepR i [b, b] 1 (addM i T b.toNat) = addM i T b.toNat := by unfold stepR; rw [if_neg (by simp)]
      have e2 : stepG i [b, b] 1 (addM i T b.toNat) = addM i T b.toNat := by
        unfold stepG
        have : (addM i T b.toNat).getD b.toNat [] = T.getD b.toNat [] ++ [(i : Int)] := by unfold addM; rw [getD_set (by omega), if_pos rfl]
        rw [if_neg]
        show ¬ (((addM i T b.toNat).getD b.toNat []).length = 0 ∨ ((addM i T b.toNat).getD b.toNat []).getD (((addM i T b.toNat).getD b.toNat []).length - 1) 0 ≠ (i : Int))
        rw [this]
        simp [List.getD]
      exact ⟨by rw [e1, e2], by rw [e1]; exact hb.add⟩
    · have e1 : stepR i [a, b] 1 (addM i T a.toNat) = addM i (addM i T a.toNat) b.toNat := by unfold stepR; rw [if_pos (.inr (by simpa using hab))]; rfl
      have hget : (addM i T a.toNat).getD b.toNat [] = T.getD b.toNat [] := by unfold addM; rw [getD_set (by omega), if_neg (by omega)]
      have e2 : stepG i [a, b] 1 (addM i T a.toNat) = addM i (addM i T a.toNat) b.toNat := by
        unfold stepG
        rw [if_pos]
        · rfl
        · show ((addM i T a.toNat).getD b.toNat []).length = 0 ∨ ((addM i T a.toNat).getD b.toNat []).getD (((addM i T a.toNat).getD b.toNat []).length - 1) 0 ≠ (i : Int)
          rw [hget]; exact hb.last
      refine ⟨by rw [e1, e2], ?_⟩
      rw [e1]
      intro m x hx
      have hbl : Below (i + 1) (addM i T a.toNat) := hb.add
      unfold addM at hx
      rw [getD_set (by simp; omega)] at hx
      split at hx
      · rcases List.mem_append.1 hx with hx | hx
        · exact hbl _ x hx
        · rw [List.mem_singleton.1 hx]; omega
      · exact hbl m x hx
theorem preds_same (f : FlowD) (hlk : f.linked) : f.predsG = f.predsR := by
  have main : ∀ (d i : Nat) (T : List (List Int)), i + d ≤ f.nodes.length → T.length = f.nodes.length → Below i T → runM (nodeG f) i d T = runM (nodeR f) i d T := by
    intro d
    induction d with
    | zero => intro i T _ _ _; rfl
    | succ d ih =>
      intro i T hi hT hb
      obtain ⟨e1, e2⟩ := node_same f hlk (show i < f.nodes.length by omega) hT hb
      rw [runM, runM, e1]
      exact ih (i + 1) _ (by omega) (by unfold nodeR; rw [runM_length (fun _ _ => stepR_length)]; exact hT) e2
  refine main _ 0 _ (by omega) (by simp) fun m x hx => ?_
  exfalso
  rw [List.getD, List.getElem?_replicate] at hx
  split at hx <;> simp at hx
/-! ## The memory of a table -/
section
variable {hb h h' h2 : Heap} {kt kp : Nat} {T : List (List Int)} {vs : List HVal}
theorem App.ints {h : Heap} {v : HVal} {c : Nat} {l : List Int} {d : Option Nat} (a : App h 3 1 v c (l.map intKey) d) : SliceAt h v 1 (l.map intCells) := by
  have := a.at1
  rw [List.map_map] at this
  exact this
structure Tbl (hb : Heap) (kt : Nat) (T : List (List Int)) (vs : List HVal) (h : Heap) : Prop where
  len : vs.length = T.length
  obj : h.get kt = some (.cells vs 41 false true)
  each : ∀ m, m < T.length → ∃ d, App h 3 1 (vs.getD m .nils) (T.getD m []).length ((T.getD m []).map intKey) d
  apart : ∀ m, m < T.length → keyW (vs.getD m .nils) ≠ some kt
  inj : ∀ m m', m < T.length → m' < T.length → m ≠ m' → ∀ k, keyW (vs.getD m .nils) = some k → keyW (vs.getD m' .nils) ≠ some k
  dead : ∀ m k, m < T.length → keyW (vs.getD m .nils) = some k → hb.get k = none
  new : hb.get kt = none
  grow : Grow hb h
  wf : Wf h
theorem Tbl.more (t : Tbl hb kt T vs h) (g : Grow h h') (w : Wf h') : Tbl hb kt T vs h' :=
  ⟨t.len, g.get t.obj, fun m hm => let ⟨d, a⟩ := t.each m hm; ⟨d, a.mono g⟩, t.apart, t.inj, t.dead, t.new, t.grow.trans g, w⟩
theorem getD_repl {α : Type} {n m : Nat} {a : α} : (List.replicate n a).getD m a = a := by
  simp only [List.getD, List.getElem?_replicate]; split <;> rfl
theorem Tbl.start {n : Nat} (g : h.get kt = some (.cells (List.replicate n .nils) 41 false true)) (new : hb.get kt = none) (gr : Grow hb h) (w : Wf h) : Tbl hb kt (List.replicate n []) (List.replicate n .nils) h := by
  refine ⟨by simp, g, fun m hm => ⟨none, ?_⟩, fun m hm => ?_, fun m m' _ _ _ k hk => ?_, fun m k _ hk => ?_, new, gr, w⟩
  · rw [getD_repl, getD_repl]; exact .nils
  · rw [getD_repl]; intro e; cases e
  · rw [getD_repl] at hk; cases hk
  · rw [getD_repl] at hk; cases hk
theorem nth_one {m : Nat} (hm : m < vs.length) : nth vs (Nat.add 0 (Nat.mul m 1)) = some (vs.getD m .nils) := by
  rw [nth_eq]
  simp [List.getD, List.getElem?_eq_getElem hm]
/-- an append to one of the lists, which is put back -/
theorem Tbl.push {m i c : Nat} {d : Option Nat} {l : List HVal} (t : Tbl hb kt T vs h) (hm : m < T.length) (am : App h 3 1 (vs.getD m .nils) (T.getD m []).length ((T.getD m []).map intKey) d)
    (hl : l = (T.getD m []).map intKey ++ [intKey (i : Int)]) (hc : c = (T.getD m []).length + 1) (p : Appended h 3 1 c l d kp h')
    (g2 : h2.get kt = some (.cells (vs.set m (.slice kp 0 c none)) 41 false true)) (o2 : ∀ j, j ≠ kt → h2.get j = h'.get j) (e2 : Grow hb h2) (w2 : Wf h2) : Tbl hb kt (addM i T m) (vs.set m (.slice kp 0 c none)) h2 := by
  have hv : m < vs.length := by rw [t.len]; exact hm
  have hpt : kp ≠ kt := by rintro rfl; have := t.obj; rw [p.fresh] at this; cases this
  have hne : ∀ j, j < T.length → j ≠ m → ∀ k, keyW (vs.getD j .nils) = some k → h2.get k = h.get k := by
    intro j hj hjm k hk
    have hkt : k ≠ kt := fun e => t.apart j hj (by rw [hk, e])
    rw [o2 k hkt]
    refine p.old k (fun e => ?_) fun e => ?_
    · exact t.inj j m hj hm hjm k hk (am.key e.symm)
    · obtain ⟨dj, aj⟩ := t.each j hj
      obtain ⟨o, ho⟩ := aj.live hk
      rw [e, p.fresh] at ho; cases ho
  have hkp : ∀ j, j < T.length → keyW (vs.getD j .nils) ≠ some kp := by
    intro j hj e
    obtain ⟨dj, aj⟩ := t.each j hj
    obtain ⟨o, ho⟩ := aj.live e
    rw [p.fresh] at ho; cases ho
  refine ⟨by simp [addM, t.len], g2, fun j hj => ?_, fun j hj => ?_, fun j j' hj hj' hjj k hk => ?_, fun j k hj hk => ?_, t.new, e2, w2⟩
  all_goals simp only [addM_length] at *
  · rw [getD_set hv]
    unfold addM
    rw [getD_set hm]
    by_cases hjm : j = m
    · rw [if_pos hjm, if_pos hjm]
      refine ⟨some kp, ?_⟩
      have := p.app
      subst hl hc
      have a2 : App h' 3 1 (.slice kp 0 ((T.getD m []).length + 1) none) (T.getD m [] ++ [(i : Int)]).length ((T.getD m [] ++ [(i : Int)]).map intKey) (some kp) := by simpa using this
      exact a2.keep fun k hk => by cases hk; exact o2 kp hpt
    · rw [if_neg hjm, if_neg hjm]
      obtain ⟨dj, aj⟩ := t.each j hj
      exact ⟨dj, aj.keep (hne j hj hjm)⟩
  · rw [getD_set hv]
    split
    · intro e; cases e; exact hpt rfl
    · exact t.apart j hj
  · rw [getD_set hv] at hk ⊢
    split at hk
    · cases hk
      rw [if_neg (by omega)]
      exact hkp j' hj'
    · split
      · intro e; cases e; exact hkp j hj hk
      · exact t.inj j j' hj hj' hjj k hk
  · rw [getD_set hv] at hk
    split at hk
    · cases hk; exact t.grow.fresh p.fresh
    · exact t.dead j k hj hk
/-- a slice that is read beside a table -/
structure BesideT (kt : Nat) (vs : List HVal) (vk : HVal) (rows : List (List HVal)) (h : Heap) : Prop where
  held : Held h vk 1 rows
  tab : keyV vk ≠ some kt
  others : ∀ m k, keyW (vs.getD m .nils) = some k → keyV vk ≠ some k
theorem getD_out {m : Nat} (hm : vs.length ≤ m) : vs.getD m .nils = .nils := by simp [List.getD, List.getElem?_eq_none hm]
theorem BesideT.new {vk : HVal} {rows : List (List HVal)} (t : Tbl hb kt T vs h) (hv : Held h2 vk 1 rows) (nv : ∀ k, keyV vk = some k → h.get k = none) : BesideT kt vs vk rows h2 := by
  refine ⟨hv, fun e => ?_, fun m k hk e => ?_⟩
  · have := t.obj; rw [nv kt e] at this; cases this
  · by_cases hm : m < T.length
    · obtain ⟨d, a⟩ := t.each m hm
      obtain ⟨o, ho⟩ := a.live hk
      rw [nv k e] at ho; cases ho
    · rw [getD_out (by rw [t.len]; omega)] at hk; cases hk
theorem BesideT.more {vk : HVal} {rows : List (List HVal)} (b : BesideT kt vs vk rows h) (g : Grow h h') : BesideT kt vs vk rows h' := ⟨b.held.grow g, b.tab, b.others⟩
theorem BesideT.old {vk : HVal} {rows : List (List HVal)} {m c n : Nat} {d : Option Nat} {l l' : List HVal} (b : BesideT kt vs vk rows h) (am : App h 3 1 (vs.getD m .nils) n l d) (p : Appended h 3 1 c l' d kp h') {k : Nat} (hk : keyV vk = some k) : h'.get k = h.get k := by
  refine p.old k (fun e => b.others m k (am.key e.symm) hk) fun e => ?_
  obtain ⟨o, ho⟩ := b.held.live k hk
  rw [e, p.fresh] at ho; cases ho
theorem BesideT.push {vk : HVal} {rows : List (List HVal)} {m c n : Nat} {d : Option Nat} {l l' : List HVal} (b : BesideT kt vs vk rows h) (hm : m < vs.length) (am : App h 3 1 (vs.getD m .nils) n l d) (p : Appended h 3 1 c l' d kp h') (o2 : ∀ j, j ≠ kt → h2.get j = h'.get j) : BesideT kt (vs.set m (.slice kp 0 c none)) vk rows h2 := by
  have hkp : keyV vk ≠ some kp := fun e => by obtain ⟨o, ho⟩ := b.held.live kp e; rw [p.fresh] at ho; cases ho
  refine ⟨b.held.keep fun k hk => ?_, b.tab, fun j k hk => ?_⟩
  · rw [o2 k (fun e => b.tab (by rw [hk, e]))]; exact b.old am p hk
  · rw [getD_set hm] at hk
    split at hk
    · cases hk; exact hkp
    · exact b.others j k hk
/-- lists of numbers that are read -/
structure ListsAt (h : Heap) (v : HVal) (T : List (List Int)) : Prop where
  ex : ∃ vs : List HVal, vs.length = T.length ∧ SliceAt h v 1 (vs.map fun v => [v]) ∧ ∀ m, m < T.length → SliceAt h (vs.getD m .nils) 1 ((T.getD m []).map intCells)
theorem ListsAt.grow {v : HVal} (g : Grow h h') (a : ListsAt h v T) : ListsAt h' v T := let ⟨vs, a1, a2, a3⟩ := a.ex; ⟨vs, a1, a2.grow g, fun m hm => (a3 m hm).grow g⟩
theorem Tbl.lists (t : Tbl hb kt T vs h) {n : Nat} {cap : Option Nat} (hn : n = T.length) : ListsAt h (.slice kt 0 n cap) T := by
  have := sliceAt_one (cap := cap) t.obj
  rw [t.len, ← hn] at this
  exact ⟨vs, t.len, this, fun m hm => let ⟨d, a⟩ := t.each m hm; App.ints a⟩
structure GivesLists (h : Heap) (T : List (List Int)) (v : HVal) (h' : Heap) : Prop where
  lists : ListsAt h' v T
  grow : Grow h h'
  wf : Wf h'
theorem Op1.makeN {P : Program} {K : CallFn} {ops : Array Oper} {o : Oper} {L : Sts} {m n : Nat} {R : Sts → Heap → Prop} {tab : Tab} {t e q len bs : Nat} {kd : IntKind} {x : Operand} {i : TI} (hT : tabOk P tab = true) (ho : o.op = .makeSlice t x x) (ht : tyL tab t = some (.slice e, q)) (he : tyL tab e = some (i, 1)) (hx : evL P L x = some (.int kd (.ofNat len))) (hb : P.bytesOf e = bs) (h1 : bs * len ≤ 140737488355328) (h2 : len ≤ 140737488355328)
    (hz : zeroCells? P e = some [.nils]) (hw : wantL ops o L = some true) (hf : fits o.dst n = true) (w : Wf h) (hr : ∀ k h', Made h k (.cells (List.replicate len .nils) e false true) h' → R (putD? o.dst (.slice k 0 len (some len)) L) h') : Op1 P K ops o L h m n R :=
  Op1.made (M.slice hT ho ht he hx hx (Nat.le_refl _) hb h1 h2 hz rfl) hw hf w (by rw [repl_one]; exact hr)
end
end Fv
end Go.HL
