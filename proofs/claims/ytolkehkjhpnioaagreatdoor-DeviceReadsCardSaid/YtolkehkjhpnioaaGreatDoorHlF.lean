/- HL: regions whose order is open; code, calls: HL is sound. No statement of the seat stands here. -/
import Derived.Test.YtolkehkjhpnioaaGreatDoorHlE
import Derived.RangeFuncRecord
namespace Go.HL
open Go
section
variable {P : Program} {call : CallFn} {ops : Array Oper} {pl : List Nat} {S : Nat → St} {log : List LogE}
variable {σ₀ : Places} {h₀ : Heap} {w₀ : World} {D : Nat → Prop} {a : Act} {w : World} {n : Nat} {σ : Places}
theorem Inv.ext (W : Way P call ops pl S log) (I : Inv P ops pl S σ₀ h₀ w₀ D a w n σ) {q : Nat} : ∀ q', q ≤ q' → q' ≤ n → (∀ (p i : Nat) o, q ≤ p → p < q' → pl[p]? = some i → ops[i]? = some o → isChange P o = false) → Ext (S q).heap (S q').heap := by
 intro q'
 induction q' with
 | zero => intro h _ _; rw [Nat.le_zero.1 h]; exact Ext.refl _
 | succ q' ih =>
  intro h hn hc
  by_cases e : q = q' + 1
  ·rw [e]; exact Ext.refl _
  ·have hle := I.le
   obtain ⟨i, hi⟩ : ∃ i, pl[q']? = some i := ⟨_, List.getElem?_eq_getElem (by omega)⟩
   obtain ⟨o, ho, _⟩ := W.run q' i hi
   exact (ih (by omega) (by omega) fun p i o h1 h2 => hc p i o h1 (by omega)).trans (did_ext (W.did hi ho).1 (hc q' i o (by omega) (by omega) hi ho) (I.doms q' (by omega)))
theorem last_change (W : Way P call ops pl S log) {q : Nat} : ∀ q', q ≤ q' → q' ≤ pl.length → (∀ (p i : Nat) o, q ≤ p → p < q' → pl[p]? = some i → ops[i]? = some o → isChange P o = false) ∨
  ∃ p i o, q ≤ p ∧ p < q' ∧ pl[p]? = some i ∧ ops[i]? = some o ∧ isChange P o = true ∧ ∀ (p' i : Nat) o, p + 1 ≤ p' → p' < q' → pl[p']? = some i → ops[i]? = some o → isChange P o = false := by
 intro q'
 induction q' with
 | zero => intro h _; exact .inl fun p i o h1 h2 => by omega
 | succ q' ih =>
  intro h hl
  by_cases e : q = q' + 1
  ·exact .inl fun p i o h1 h2 => by omega
  ·obtain ⟨i, hi⟩ : ∃ i, pl[q']? = some i := ⟨_, List.getElem?_eq_getElem (by omega)⟩
   obtain ⟨o, ho, _⟩ := W.run q' i hi
   cases hc : isChange P o with
   | true => exact .inr ⟨q', i, o, by omega, by omega, hi, ho, hc, fun p' i o h1 h2 => by omega⟩
   | false =>
    rcases ih (by omega) (by omega) with h1 | ⟨p, j, o', g1, g2, g3, g4, g5, g6⟩
    ·refine .inl fun p j o' hp1 hp2 hj ho' => ?_
     by_cases ep : p = q'
     ·subst ep
      rw [hi] at hj; cases hj
      rw [ho] at ho'; cases ho'
      exact hc
     ·exact h1 p j o' hp1 (by omega) hj ho'
    ·refine .inr ⟨p, j, o', g1, by omega, g3, g4, g5, fun p' j' o'' hp1 hp2 hj ho' => ?_⟩
     by_cases ep : p' = q'
     ·subst ep
      rw [hi] at hj; cases hj
      rw [ho] at ho'; cases ho'
      exact hc
     ·exact g6 p' j' o'' hp1 (by omega) hj ho'
theorem same_inv {o : Oper} {env : Env} {v : HVal} {h : Heap} (hc : (classOf P o).no = 1) (e : sameRead P o env v h = true) : opH P (env.eval P) h o = some (.val v h) := by
 unfold sameRead at e
 cases ho : opH P (env.eval P) h o with
 | none => rw [ho] at e; cases e
 | some out =>
  obtain ⟨x, rfl, _⟩ := class_read (ρ := env.eval P) hc _ _ ho
  rw [ho] at e
  simp only at e
  rw [beq_sound v x e]
theorem look_same (W : Way P call ops pl S log) (I : Inv P ops pl S σ₀ h₀ w₀ D a w n σ) (hn : n = pl.length ∨ ∃ i o, pl[n]? = some i ∧ ops[i]? = some o ∧ isChange P o = true)
  (hclosed : ∀ i j, D i → bit ((Region.before ops).getD i 0) j = true → D j) {p i : Nat} {o : Oper} (hi : pl[p]? = some i) (ho : ops[i]? = some o) (hD : ¬ D i)
  (hready : ∀ j, bit ((Region.before ops).getD i 0) j = true → D j) {x : HVal} (hw : wantedH ops o (S p).env = some true) (hc : isChange P o = false) (hm : isMake P o = false)
  (e : S (p + 1) = (S p).with o.dst x (S p).heap) (hop : opH P ((S p).env.eval P) (S p).heap o = some (.val x (S p).heap)) :
  opH P ((S p).env.eval P) (S n).heap o = some (.val x (S n).heap) := by
 have hplt : p < pl.length := (List.getElem?_eq_some_iff.1 hi).1
 rcases class_cases (P := P) o with h0 | h0 | h0 | h0
 ·obtain ⟨y, hy, h⟩ := class_pure (ρ := (S p).env.eval P) h0 _ _ hop
  cases hy
  exact h _ trivial
 ·obtain ⟨g1, g2, g3⟩ := is_class h0
  -- the note of it
  obtain ⟨o', ho', _, _, hrd⟩ := W.run p i hi
  rw [ho] at ho'; cases ho'
  obtain ⟨d, b, hd, hb, hlog⟩ := hrd hc (by rw [g3]; rfl)
  rw [hw] at hb; cases hb
  have hv : (S (p + 1)).env.get d = x := by
   rw [e]
   show ((S p).env.put o.dst x).get d = x
   rw [Env.get_put, if_pos hd]
  rw [hv] at hlog
  have hnote := logOk_inv W.log (hlog rfl)
  have chg : ∀ (q k : Nat) o', pl[q]? = some k → ops[k]? = some o' → isChange P o' = true → bit ((Region.before ops).getD i 0) k = false → bit ((Region.before ops).getD k 0) i = false →
    opH P ((S p).env.eval P) (S q).heap o = some (.val x (S q).heap) ∧ opH P ((S p).env.eval P) (S (q + 1)).heap o = some (.val x (S (q + 1)).heap) := by
   intro q k o' hk hok hck h1 h2
   obtain ⟨o'', ho'', _, hch, _⟩ := W.run q k hk
   rw [hok] at ho''; cases ho''
   obtain ⟨k1, k2⟩ := readOk_inv hnote (hch hck) h1 h2
   exact ⟨same_inv h0 k1, same_inv h0 k2⟩
  have grow : ∀ h h', Ext h h' → opH P ((S p).env.eval P) h o = some (.val x h) → opH P ((S p).env.eval P) h' o = some (.val x h') := by
   intro h h' hx hh
   obtain ⟨y, hy, g⟩ := class_read (ρ := (S p).env.eval P) h0 _ _ hh
   cases hy
   exact g h' hx
  rcases Nat.lt_or_ge p n with hpn | hpn
  ·rcases last_change W (q := p) n (by omega) I.le with hno | ⟨q, k, o', q1, q2, hk, hok, hck, hafter⟩
   ·exact grow _ _ (I.ext W n (by omega) (Nat.le_refl _) hno) hop
   ·have hqp : q ≠ p := by
     rintro rfl
     rw [hi] at hk; cases hk
     rw [ho] at hok; cases hok
     rw [hc] at hck; cases hck
    have pr := W.pw p q i k (by omega) hi hk
    have hDk := I.done q k o' q2 hk hok hck
    have h2 : bit ((Region.before ops).getD k 0) i = false := by
     cases hb : bit ((Region.before ops).getD k 0) i with
     | false => rfl
     | true => exact absurd (hclosed k i hDk hb) hD
    exact grow _ _ (I.ext W n (by omega) (Nat.le_refl _) hafter) (chg q k o' hk hok hck pr.lin h2).2
  ·rcases hn with hn | ⟨k, o', hk, hok, hck⟩
   ·omega
   ·have hnp : n ≠ p := by
     rintro rfl
     rw [hi] at hk; cases hk
     rw [ho] at hok; cases hok
     rw [hc] at hck; cases hck
    have pr := W.pw n p k i (by omega) hk hi
    have hDk := I.open_ n k o' (Nat.le_refl _) hk hok (.inl hck)
    have h1 : bit ((Region.before ops).getD i 0) k = false := by
     cases hb : bit ((Region.before ops).getD i 0) k with
     | false => rfl
     | true => exact absurd (hready k hb) hDk
    exact (chg n k o' hk hok hck h1 pr.lin).1
 ·obtain ⟨g1, g2, g3⟩ := is_class h0
  rw [g2] at hm; cases hm
 ·obtain ⟨g1, g2, g3⟩ := is_class h0
  rw [g1] at hc; cases hc
theorem Inv.more (W : Way P call ops pl S log) (I : Inv P ops pl S σ₀ h₀ w₀ D a w n σ) (hclosed : ∀ i j, D i → bit ((Region.before ops).getD i 0) j = true → D j) {p i : Nat} {o : Oper} (hi : pl[p]? = some i) (ho : ops[i]? = some o)
  (hD : ¬ D i) (hc : isChange P o = false) (hm : isMake P o = true → p < n) {τ : Places} {w' : World} (hle : σ.le τ) (hst : Step P σ₀ h₀ w₀ τ (S n).heap w')
  (hlate : ∀ (q j : Nat) o', q < n → pl[q]? = some j → ops[j]? = some o' → isMake P o' = true → wantedH ops o' (S q).env = some true → q ≠ p → σ (S q).heap.next = none → τ (S q).heap.next = none)
  {x : HVal} {v : Value} (hx : ∀ t, o.dst = some t → (S (p + 1)).env.get t = x) (hv : VRel τ x v) : Inv P ops pl S σ₀ h₀ w₀ (fun j => D j ∨ j = i) (a.put o.dst v) w' n τ := by
 refine ⟨I.le, hst, fun q j o' h1 h2 h3 h4 => .inl (I.done q j o' h1 h2 h3 h4), ?_, I.mono, I.doms, ?_, ?_, by rw [Act.defers_put]; exact I.defs.mono hle, by rw [Act.size_put]; exact I.size⟩
 ·intro q j o' hq hj ho' hcm hDj
  rcases hDj with h | rfl
  ·exact I.open_ q j o' hq hj ho' hcm h
  ·have := W.uniq hi hj
   subst this
   rw [ho] at ho'; cases ho'
   rcases hcm with h | h
   ·rw [hc] at h; cases h
   ·have := hm h; omega
 ·intro q j o' hq hj ho' hmk hDj hw
  obtain ⟨g1, g2⟩ := I.late q j o' hq hj ho' hmk (fun h => hDj (.inl h)) hw
  refine ⟨hlate q j o' hq hj ho' hmk hw ?_ g1, g2⟩
  rintro rfl
  rw [hi] at hj; cases hj
  exact hDj (.inr rfl)
 ·exact slots_put W I hclosed hle hi ho hD hx hv (ds := a.defers)
theorem Inv.moreChange (W : Way P call ops pl S log) (I : Inv P ops pl S σ₀ h₀ w₀ D a w n σ) (hclosed : ∀ i j, D i → bit ((Region.before ops).getD i 0) j = true → D j) {i : Nat} {o : Oper} (hi : pl[n]? = some i) (ho : ops[i]? = some o)
  (hD : ¬ D i) (_hc : isChange P o = true) {τ : Places} {w' : World} (hst : Step P σ (S n).heap w τ (S (n + 1)).heap w')
  {x : HVal} {v : Value} (hx : ∀ t, o.dst = some t → (S (n + 1)).env.get t = x) (hv : VRel τ x v) {ds : List Deferred} (hd : DefRel τ (S (n + 1)).defers ds) :
  Inv P ops pl S σ₀ h₀ w₀ (fun j => D j ∨ j = i) ({ a with defers := ds }.put o.dst v) w' (n + 1) τ := by
 have hlt : n < pl.length := (List.getElem?_eq_some_iff.1 hi).1
 refine ⟨hlt, I.step.trans hst, ?_, ?_, ?_, ?_, ?_, ?_, by rw [Act.defers_put]; exact hd, by rw [Act.size_put]; exact I.size⟩
 ·intro q j o' hq hj ho' hcj
  by_cases e : q = n
  ·subst e
   rw [hi] at hj; cases hj
   exact .inr rfl
  ·exact .inl (I.done q j o' (by omega) hj ho' hcj)
 ·intro q j o' hq hj ho' hcm hDj
  rcases hDj with h | rfl
  ·exact I.open_ q j o' (by omega) hj ho' hcm h
  ·have := W.uniq hi hj; omega
 ·intro q q' h1 h2
  by_cases e : q' = n + 1
  ·subst e
   by_cases e2 : q = n + 1
   ·subst e2; exact Nat.le_refl _
   ·exact Nat.le_trans (I.mono q n (by omega) (Nat.le_refl _)) hst.next
  ·exact I.mono q q' h1 (by omega)
 ·intro q hq
  by_cases e : q = n + 1
  ·subst e; exact hst.rel.dom
  ·exact I.doms q (by omega)
 ·intro q j o' hq hj ho' hmk hDj hw
  by_cases e : q = n
  ·subst e
   rw [hi] at hj; cases hj
   exact absurd (.inr rfl) hDj
  ·obtain ⟨g1, g2⟩ := I.late q j o' (by omega) hj ho' hmk (fun h => hDj (.inl h)) hw
   have h1 := make_next (W.did hj ho').1 hw hmk
   have h2 := I.mono (q + 1) n (by omega) (Nat.le_refl _)
   exact ⟨(hst.low _ (by omega)).trans g1, (hst.idle _ (by omega) g1).trans g2⟩
 ·exact slots_put W I hclosed hst.le hi ho hD hx hv
end
end Go.HL
namespace Go.HL
open Go
section
variable {P : Program} {call : CallFn} {ops : Array Oper} {pl : List Nat} {S : Nat → St} {log : List LogE}
variable {σ₀ : Places} {h₀ : Heap} {w₀ : World} {D : Nat → Prop} {a : Act} {w : World} {n : Nat} {σ : Places}
theorem opLooks_looks {o : Oper} : ∀ t ∈ opLooks o.op.operands.toList, t ∈ looks ops o := fun _t h => List.mem_append_right _ h
theorem exec_one (hc : CallSound P call) (hg : NoRounds call) (hS : (S 0).heap = h₀) (W : Way P call ops pl S log) (I : Inv P ops pl S σ₀ h₀ w₀ D a w n σ) (hn : n = pl.length ∨ ∃ i o, pl[n]? = some i ∧ ops[i]? = some o ∧ isChange P o = true)
  (hclosed : ∀ i j, D i → bit ((Region.before ops).getD i 0) j = true → D j) {p i : Nat} (hi : pl[p]? = some i) (hD : ¬ D i)
  (hready : ∀ j, bit ((Region.before ops).getD i 0) j = true → D j) {K : Act → World → Prop} {Q : Exit → Act → World → Prop}
  (hK : ∀ a' w' n' σ', Inv P ops pl S σ₀ h₀ w₀ (fun j => D j ∨ j = i) a' w' n' σ' → K a' w') : wpOp P ops Q i K a w := by
 obtain ⟨o, ho, hop, _⟩ := W.run p i hi
 obtain ⟨hdid, hfit⟩ := W.did hi ho
 have hplt : p < pl.length := (List.getElem?_eq_some_iff.1 hi).1
 have hlook := slots_looks W I hclosed (Nat.le_of_lt hplt) ho hD hready (fun q j hq hj => W.pw q p j i hq hj hi) (fun q j hq hj => by
  by_cases e : q = p
  ·subst e; rw [hi] at hj; cases hj; exact .inl rfl
  ·exact .inr (W.pw p q i j (by omega) hi hj))
 -- where changes and what makes stand
 have hF1 : isChange P o = true → p = n := by
  intro hch
  rcases Nat.lt_trichotomy p n with h | h | h
  ·exact absurd (I.done p i o h hi ho hch) hD
  ·exact h
  ·rcases hn with hn | ⟨k, o', hk, hok, hck⟩
   ·omega
   ·have pr := W.pw n p k i h hk hi
    cases hb : bit ((Region.before ops).getD i 0) k with
    | true => exact absurd (hready k hb) (I.open_ n k o' (Nat.le_refl _) hk hok (.inl hck))
    | false => have := ((pr.fit hb o' o hok ho).1 hck).1; rw [hch] at this; cases this
 have hF2 : isMake P o = true → p < n := by
  intro hmk
  rcases Nat.lt_or_ge p n with h | h
  ·exact h
  ·rcases hn with hn | ⟨k, o', hk, hok, hck⟩
   ·omega
   ·have hne : n ≠ p := by
     rintro rfl
     rw [hi] at hk; cases hk
     rw [ho] at hok; cases hok
     unfold isMake at hmk
     unfold isChange at hck
     rw [nbeq] at hmk hck
     simp at hmk hck
     omega
    have pr := W.pw n p k i (by omega) hk hi
    cases hb : bit ((Region.before ops).getD i 0) k with
    | true => exact absurd (hready k hb) (I.open_ n k o' (Nat.le_refl _) hk hok (.inl hck))
    | false => have := ((pr.fit hb o' o hok ho).1 hck).2; rw [hmk] at this; cases this
 have hpan := (W.same p (by omega)).1
 have hρ : ∀ x, VRel σ (only (looks ops o) ((S p).env.eval P) x) (a.eval x) := eval_rel (P := P) I.step.rel hlook
 have hput : ∀ x s', S (p + 1) = s' → s'.env = (S p).env.put o.dst x → ∀ t, o.dst = some t → (S (p + 1)).env.get t = x := by
  rintro x s' rfl he t ht
  rw [he, Env.get_put, if_pos ht]
 have hund : VRel σ undefH undef := ⟨[], rfl, VRels.nil⟩
 unfold wpOp
 rw [ho]
 simp only
 cases hdid with
 | idle hw e =>
  rw [wanted_rel hlook hw]
  simp only [Bool.false_eq_true, if_false]
  cases hch : isChange P o with
  | true =>
   have := hF1 hch
   subst this
   have hh : (S (p + 1)).heap = (S p).heap := by rw [e]; rfl
   have hd : (S (p + 1)).defers = (S p).defers := by rw [e]; rfl
   have := I.moreChange W hclosed hi ho hD hch (w' := w) (τ := σ) (by rw [hh]; exact Step.refl I.step.rel) (hput undefH _ e rfl) hund (ds := a.defers) (by rw [hd]; exact I.defs)
   exact hK _ _ _ _ this
  | false =>
   exact hK _ _ _ _ (I.more W hclosed hi ho hD hch hF2 σ.le_refl I.step (fun _ _ _ _ _ _ _ _ _ h => h) (hput undefH _ e rfl) hund)
 | look x hw hch hm e hopx =>
  rw [wanted_rel hlook hw]
  simp only [if_true]
  have hsame := look_same W I hn hclosed hi ho hD hready hw hch hm e hopx
  have hout := opH_rel I.step.rel (ρ := only (looks ops o) ((S p).env.eval P)) (ev := a.eval) hρ (o := o) (out := .val x (S n).heap) (by rw [only_congr opLooks_looks]; exact hsame)
  obtain ⟨nx, v, τ, w', hrun, hnx, hv, hst⟩ := hout
  refine .inl ?_
  have hk := hK _ _ _ _ (I.more W hclosed hi ho hD hch hF2 hst.le (I.step.trans hst) (fun q j o' hq hj ho' hmk hwq _ h => by
   have h1 := make_next (W.did hj ho').1 hwq hmk
   have h2 := I.mono (q + 1) n (by omega) (Nat.le_refl _)
   exact (hst.low _ (by omega)).trans h) (hput x _ e rfl) hv)
  unfold Oper.wp
  rw [hrun]
  rcases hnx with rfl | ⟨rfl, rfl⟩ <;> exact hk
 | make mk obj hw hm e hopx =>
  rw [wanted_rel hlook hw]
  simp only [if_true]
  have hpn := hF2 hm
  have hch : isChange P o = false := by
   cases hcc : isChange P o with
   | false => rfl
   | true => have := hF1 hcc; omega
  have hcls : (classOf P o).no = 2 := by
   unfold isMake at hm; rw [nbeq] at hm; simpa using hm
  obtain ⟨mk', obj', hout, hmake⟩ := class_make (ρ := only (looks ops o) ((S p).env.eval P)) hcls (h := (S p).heap) (by rw [only_congr opLooks_looks]; exact hopx)
  simp only [Out.val.injEq] at hout
  obtain ⟨hmk, hobj⟩ := hout
  have hobj' : obj = obj' := by
   have := congrArg (fun h => h.get (S p).heap.next) hobj
   simpa using this
  subst hobj'
  obtain ⟨b, v, pl', hrun, hblk, hor, hv⟩ := hmake σ w a.eval hρ
  obtain ⟨g1, g2⟩ := I.late p i o hpn hi ho hm hD hw
  have hobjn : (S n).heap.get (S p).heap.next = some obj := by
   rw [g2, e]
   show ((S p).heap.new obj).get _ = _
   rw [Heap.get_new, if_pos rfl]
  have hk0 : h₀.next ≤ (S p).heap.next := by rw [← hS]; exact I.mono 0 p (by omega) (by omega)
  have hpl := Step.place I.step hobjn g1 hk0 hblk hor
  refine .inl ?_
  have hk := hK _ _ _ _ (I.more W hclosed hi ho hD hch hF2 (Places.le_upd pl' g1) hpl (fun q j o' hq hj ho' hmkq hwq hqp h => by
   have hkq : (S q).heap.next ≠ (S p).heap.next := by
    have e1 := make_next (W.did hj ho').1 hwq hmkq
    have e2 := make_next (W.did hi ho).1 hw hm
    rcases Nat.lt_or_ge q p with hlt | hge
    ·have := I.mono (q + 1) p (by omega) (by omega); omega
    ·have := I.mono (p + 1) q (by omega) (by omega); omega
   rw [σ.upd_other pl' hkq]; exact h) (hput (mk (S p).heap.next) _ e rfl) (by rw [hmk]; exact hv _ _ (σ.upd_same _ _)))
  unfold Oper.wp
  rw [hrun]
  exact hk
 | change out hw hch hopx ha =>
  rw [wanted_rel hlook hw]
  simp only [if_true]
  have := hF1 hch
  subst this
  have hout := opH_rel I.step.rel (ρ := only (looks ops o) ((S p).env.eval P)) (ev := a.eval) hρ (o := o) (out := out) (by rw [only_congr opLooks_looks]; exact hopx)
  refine .inl ?_
  obtain ⟨_, _, _, _, hnr⟩ := after_nrm hpan ha
  refine (upon_of hc hg I.step.rel I.defs hout hnr ha ?_ ?_).1
  ·intro x h' ds he τ v w' ds' hst hv hds
   have he' : S (p + 1) = ⟨(S p).env.put o.dst x, h', ds, (S p).pan, (S p).mask, (S p).lim⟩ := by
    simp only [Prod.mk.injEq, true_and] at he
    exact he
   exact hK _ _ _ _ (I.moreChange W hclosed hi ho hD hch (by rw [he']; exact hst) (hput x _ he' rfl) hv (by rw [he']; exact hds))
  ·intro x h' he
   simp only [Prod.mk.injEq] at he
   exact absurd he.1 (by simp)
end
end Go.HL
namespace Go.HL
open Go
section
variable {P : Program} {call : CallFn} {ops : Array Oper} {pl : List Nat} {S : Nat → St} {log : List LogE}
variable {σ₀ : Places} {h₀ : Heap} {w₀ : World}
theorem Way.vars (W : Way P call ops pl S log) : ∀ p, p ≤ pl.length → (S p).env.vars = (S 0).env.vars := by
 intro p
 induction p with
 | zero => exact fun _ => rfl
 | succ p ih =>
  intro hp
  obtain ⟨i, hi⟩ : ∃ i, pl[p]? = some i := ⟨_, List.getElem?_eq_getElem (by omega)⟩
  obtain ⟨o, ho, _⟩ := W.run p i hi
  obtain ⟨x, ds, e⟩ := (W.did hi ho).1.put (W.same p (by omega)).1
  rw [e]
  show ((S p).env.put o.dst x).vars = _
  rw [← ih (by omega)]
  cases o.dst <;> rfl
def Listed (l : Array Bool) : Nat → Prop := fun j => l.getD j false = true
theorem listed_set {l : Array Bool} {i : Nat} (h : i < l.size) : Listed (l.setIfInBounds i true) = fun j => Listed l j ∨ j = i := by
 funext j
 apply propext
 unfold Listed
 rw [Array.getD_eq_getD_getElem?, Array.getD_eq_getD_getElem?, Array.getElem?_setIfInBounds]
 by_cases e : i = j
 ·subst e; simp [h]
 ·have : ¬ j = i := fun h => e h.symm
  simp [e, this]
def unlisted (n : Nat) (l : Array Bool) : Nat := ((List.range n).filter fun i => !l.getD i false).length
theorem unlisted_set {n i : Nat} {l : Array Bool} (hl : l.size = n) (hi : i < n) (h : l.getD i false = false) : unlisted n (l.setIfInBounds i true) < unlisted n l := by
 unfold unlisted
 have e : ((List.range n).filter fun j => !(l.setIfInBounds i true).getD j false) = ((List.range n).filter fun j => !l.getD j false).filter fun j => !(j == i) := by
  rw [List.filter_filter]
  apply List.filter_congr
  intro j _
  rw [Array.getD_eq_getD_getElem?, Array.getD_eq_getD_getElem?, Array.getElem?_setIfInBounds]
  by_cases e : i = j
  ·subst e; simp [hl, hi]
  ·have : (j == i) = false := by simp; exact fun h => e h.symm
   simp [e, this]
 rw [e]
 refine List.length_filter_lt_length_iff_exists.2 ⟨i, ?_, by simp⟩
 rw [List.mem_filter]
 exact ⟨List.mem_range.2 hi, by rw [h]; rfl⟩
theorem ready_inv {md : Region.Mode} {l : Array Bool} {i : Nat} (hl : l.size = ops.size) (h : i ∈ Region.ready md ops l) : i < ops.size ∧ l.getD i false = false ∧
  ∀ o, ops[i]? = some o → ∀ e ∈ o.after.toList, Region.binds .any e = true → Listed l e.on := by
 unfold Region.ready at h
 rw [List.mem_filter] at h
 obtain ⟨h1, h2⟩ := h
 have hi := List.mem_range.1 h1
 simp only [Bool.and_eq_true, Bool.not_eq_true'] at h2
 refine ⟨hi, ?_, ?_⟩
 ·have := h2.1
  rw [Array.getD_eq_getD_getElem?] at this ⊢
  rw [Array.getElem?_eq_getElem (by omega)] at this ⊢
  simpa using this
 ·intro o ho e he hb
  have h3 := h2.2
  rw [ho] at h3
  simp only [Option.map_some, Option.getD_some, Array.all_eq_true] at h3
  obtain ⟨k, hk, rfl⟩ := List.getElem_of_mem he
  have := h3 k (by simpa using hk)
  have hb' := binds_any (m := md) hb
  simp only [Array.getElem_toList] at hb'
  simp only [hb', Bool.not_true, Bool.false_or] at this
  exact this
theorem any_wp (hc : CallSound P call) (hg : NoRounds call) (hS : (S 0).heap = h₀) (W : Way P call ops pl S log) {md : Region.Mode} (hch : ∃ L, chainOk md ops L [] = true) {Q : Exit → Act → World → Prop}
  (hfin : ∀ D a w n σ, Inv P ops pl S σ₀ h₀ w₀ D a w n σ → (∀ i, i < ops.size → D i) → (∀ i, i < ops.size → D i → i ∈ pl) → Q .normal a w)
  (hout : ∀ D a w n σ i K, Inv P ops pl S σ₀ h₀ w₀ D a w n σ → (∀ i, i < ops.size → D i → i ∈ pl) → (∀ i j, D i → bit ((Region.before ops).getD i 0) j = true → D j) → i < ops.size → i ∉ pl → ¬ D i →
   (∀ j, bit ((Region.before ops).getD i 0) j = true → D j) → wpOp P ops Q i K a w) :
  ∀ (fuel : Nat) (l : Array Bool) (a : Act) (w : World) (n : Nat) (σ : Places), l.size = ops.size → unlisted ops.size l ≤ fuel → (∀ i o, ops[i]? = some o → Listed l i → ∀ e ∈ o.after.toList, Region.binds .any e = true → Listed l e.on) →
   (∀ i, i < ops.size → Listed l i → i ∈ pl) → Inv P ops pl S σ₀ h₀ w₀ (Listed l) a w n σ → wpAny P md ops Q fuel l a w := by
 intro fuel
 induction fuel with
 | zero =>
  intro l a w n σ hl hu hcl hsub I
  have hall : ∀ i, i < ops.size → Listed l i := by
   intro i hi
   have h0 : ((List.range ops.size).filter fun i => !l.getD i false) = [] := List.length_eq_zero_iff.1 (Nat.le_zero.1 hu)
   rw [List.filter_eq_nil_iff] at h0
   have := h0 i (List.mem_range.2 hi)
   unfold Listed
   cases hx : l.getD i false with
   | true => rfl
   | false => rw [hx] at this; simp at this
  refine ⟨?_, hfin _ a w n σ I hall hsub⟩
  cases hr : Region.ready md ops l with
  | nil => rfl
  | cons i t =>
   obtain ⟨h1, h2, _⟩ := ready_inv (md := md) (i := i) hl (by rw [hr]; exact List.mem_cons_self ..)
   have := hall i h1
   unfold Listed at this
   rw [h2] at this; cases this
 | succ fuel ih =>
  intro l a w n σ hl hu hcl hsub I
  refine ⟨fun hr => ?_, fun i hi => ?_⟩
  ·obtain ⟨L, hL⟩ := hch
   exact hfin _ a w n σ I (chain_done hl hr L [] hL (by simp)) hsub
  ·obtain ⟨h1, h2, h3⟩ := ready_inv hl hi
   have hD : ¬ Listed l i := by unfold Listed; rw [h2]; simp
   have hclosed : ∀ i j, Listed l i → bit ((Region.before ops).getD i 0) j = true → Listed l j := fun i j => hang_closed hcl _ i (Nat.lt_succ_self _) j
   have hready : ∀ j, bit ((Region.before ops).getD i 0) j = true → Listed l j := fun j => ready_hangs hcl h3
   by_cases hp : i ∈ pl
   ·obtain ⟨p, hp⟩ := List.getElem?_of_mem hp
    obtain ⟨n', _, I', hn'⟩ := I.norm W _ n rfl
    refine exec_one hc hg hS W I' hn' hclosed hp hD hready ?_
    intro a' w' n'' σ' I''
    rw [← listed_set (by omega)] at I''
    refine ih _ a' w' n'' σ' (by simpa using hl) ?_ ?_ ?_ I''
    ·have := unlisted_set hl h1 h2; omega
    ·rw [listed_set (by omega)]
     intro j o ho hj e he hb
     rcases hj with hj | rfl
     ·exact .inl (hcl j o ho hj e he hb)
     ·exact .inl (h3 o ho e he hb)
    ·rw [listed_set (by omega)]
     intro j hj hl'
     rcases hl' with hl' | rfl
     ·exact hsub j hj hl'
     ·exact List.mem_of_getElem? hp
   ·exact hout _ a w n σ i _ I hsub hclosed h1 hp hD hready
theorem forget_get {l : List Oper} {m : List (Nat × HVal)} {d : HVal} {t : Nat} : assoc (forget l ++ m) d t = .bad ∧ (∃ o ∈ l, o.dst = some t) ∨ assoc (forget l ++ m) d t = assoc m d t ∧ ∀ o ∈ l, o.dst ≠ some t := by
 induction l with
 | nil => exact .inr ⟨rfl, by simp⟩
 | cons o l ih =>
  cases hd : o.dst with
  | none =>
   have e : forget (o :: l) = forget l := by simp only [forget, hd]
   rw [e]
   rcases ih with ⟨h1, o', h2, h3⟩ | ⟨h1, h2⟩
   ·exact .inl ⟨h1, o', List.mem_cons_of_mem _ h2, h3⟩
   ·refine .inr ⟨h1, fun o' ho' => ?_⟩
    rcases List.mem_cons.1 ho' with rfl | ho'
    ·rw [hd]; simp
    ·exact h2 o' ho'
  | some u =>
   have e : forget (o :: l) = (u, .bad) :: forget l := by simp only [forget, hd]
   rw [e, List.cons_append, assoc_cons]
   by_cases hu : u = t
   ·subst hu
    exact .inl ⟨by rw [if_pos rfl], o, List.mem_cons_self .., hd⟩
   ·rw [if_neg hu]
    rcases ih with ⟨h1, o', h2, h3⟩ | ⟨h1, h2⟩
    ·exact .inl ⟨h1, o', List.mem_cons_of_mem _ h2, h3⟩
    ·refine .inr ⟨h1, fun o' ho' => ?_⟩
     rcases List.mem_cons.1 ho' with rfl | ho'
     ·rw [hd]; simp; exact hu
     ·exact h2 o' ho'
end
section
variable {P : Program} {dfr : Bool} {a : Act} {u : FrameMode} {w : World}
theorem pairwise_get {α : Type} {R : α → α → Prop} {l : List α} (h : l.Pairwise R) : ∀ (p q : Nat) (i j : α), p < q → l[p]? = some i → l[q]? = some j → R i j := by
 intro p q i j hpq hp hq
 obtain ⟨h1, rfl⟩ := List.getElem?_eq_some_iff.1 hp
 obtain ⟨h2, rfl⟩ := List.getElem?_eq_some_iff.1 hq
 exact List.pairwise_iff_getElem.1 h p q h1 h2 hpq
theorem draw_wp {call : CallFn} (hc : CallSound P call) (hg : NoRounds call) {id : Nat} {ops : Array Oper} {s : St} {q : List LogE × Dead × St} {e : Ex × St} {σ : Places} (hp : planOk P ops = true)
  (h1 : drawH P call ops (Region.before ops) (planOf P ops) [] none s.alone = some q) (h2 : drawnH P ops (Region.before ops) s q = some e)
  (r : Rel P σ s.heap w) (f : FRel σ dfr s a u) : (Code.region id ops true).wp P (fun x a' w' => Ends P σ dfr s.heap w e x a' u w') a w := by
 obtain ⟨hch, hmem, hpw, _⟩ := planOk_inv hp
 obtain ⟨_, hwhole⟩ := course_whole _ _ _ _ h1
 unfold drawnH at h2
 obtain ⟨hlog, h3⟩ := bcase_eq_some.1 h2
 -- it is enough that every way through goes
 suffices key : ∀ md, wpAny P md ops (fun x a' w' => Ends P σ dfr s.heap w e x a' u w') ops.size (Array.replicate ops.size false) a w.drew by
  refine wp_region_draw fun t => ?_
  show wpOps P ops _ (Region.schedule _ ops t) a w.drew
  unfold Region.schedule
  split
  ·exact wpAny_sound ops.size t _ a _ (key _)
  ·exact wpAny_sound ops.size _ _ a _ (key _)
 have hrep : ∀ j, ¬ Listed (Array.replicate ops.size false) j := by
  intro j h
  unfold Listed at h
  rw [Array.getD_eq_getD_getElem?, Array.getElem?_replicate] at h
  split at h <;> simp at h
 have start : ∀ {pl : List Nat} {S : Nat → St}, Way P call ops pl S q.1 → S 0 = s.alone → Inv P ops pl S σ s.heap w (Listed (Array.replicate ops.size false)) a w.drew 0 σ := by
  intro pl S W h0
  have hst : Step P σ s.heap w σ (S 0).heap w.drew := by rw [h0]; exact Step.drew r
  refine ⟨Nat.zero_le _, hst, fun q i o hq => by omega, fun q i o _ _ _ _ => hrep i, fun q q' h1 h2 => by
   have e1 : q' = 0 := by omega
   have e2 : q = 0 := by omega
   rw [e1, e2]; exact Nat.le_refl _, fun q hq => by
   have e1 : q = 0 := by omega
   rw [e1]; exact hst.rel.dom, fun q i o hq => by omega, fun t q hq h1 _ => ?_, by rw [h0]; exact f.defs, by rw [h0]; exact f.lim⟩
  rw [W.keeps q (Nat.zero_le _) hq (fun p i o _ hp hi ho hd => hrep i (h1 p i o hp hi ho hd)), h0]
  exact f.env t
 have hu0 : unlisted ops.size (Array.replicate ops.size false) ≤ ops.size := by
  unfold unlisted
  exact Nat.le_trans (List.length_filter_le ..) (by simp)
 intro md
 rcases hwhole with ⟨g0, S, g1, g2, g3⟩ | ⟨pre, i0, post, v, h', o0, s', hl, g0, ho0, hc0, S, g1, g2, g3, g4, g5⟩
 ·have W : Way P call ops (planOf P ops) S q.1 := ⟨g3, pairwise_get hpw, hlog, by rw [g1]; rfl⟩
  rw [g0] at h3
  simp only [Option.some.injEq] at h3
  subst h3
  refine any_wp (σ₀ := σ) (h₀ := s.heap) (w₀ := w) hc hg (by rw [g1]; rfl) W (hch md) ?_ ?_ ops.size _ a w.drew 0 σ (by simp) hu0 (fun i o _ h => absurd h (hrep i)) (fun i _ h => absurd h (hrep i)) (start W g1)
  ·intro D a' w' n τ I hall _
   obtain ⟨n', _, I', hn'⟩ := I.norm W _ n rfl
   have hn'' : n' = (planOf P ops).length := by
    rcases hn' with h | ⟨i, o, hi, ho, hch⟩
    ·exact h
    ·exact absurd (hall i (Array.getElem?_eq_some_iff.1 ho).1) (I'.open_ n' i o (Nat.le_refl _) hi ho (.inl hch))
   subst hn''
   refine ⟨τ, by rw [← g2]; exact I'.step, rfl, ?_, ?_, ?_, by rw [← g2]; exact I'.defs, f.pan.mono I'.step.le⟩
   ·intro t
    rw [← g2]
    refine I'.slots t _ (Nat.le_refl _) (fun p i o _ _ ho _ => hall i (Array.getElem?_eq_some_iff.1 ho).1) fun p i o hp hi => ?_
    rw [List.getElem?_eq_none hp] at hi; cases hi
   ·rw [← I'.size, g1]; rfl
   ·intro i hi d
    have := W.vars _ (Nat.le_refl _)
    rw [← g2]
    show assoc (S (planOf P ops).length).env.vars d i = d
    rw [this, g1]
    exact f.mask i hi d
  ·intro D a' w' n τ i K _ _ _ hi hni
   exact absurd (hmem i hi) hni
 ·have hpw' : (pre ++ i0 :: post).Pairwise (PairOk P ops) := hl ▸ hpw
  have hsub : (pre ++ post.filter fun j => !bit ((Region.before ops).getD j 0) i0).Sublist (pre ++ i0 :: post) := List.Sublist.append_left ((List.filter_sublist ..).trans (List.sublist_cons_self ..)) pre
  have W : Way P call ops (pre ++ post.filter fun j => !bit ((Region.before ops).getD j 0) i0) S q.1 := ⟨g5, pairwise_get (hpw'.sublist hsub), hlog, by rw [g1]; rfl⟩
  have hpre : ∀ i ∈ pre, PairOk P ops i i0 := fun i hi => (List.pairwise_append.1 hpw').2.2 i hi i0 (List.mem_cons_self ..)
  have hpost : ∀ i ∈ post, PairOk P ops i0 i := fun i hi => List.rel_of_pairwise_cons (List.pairwise_append.1 hpw').2.1 hi
  have hbef : ∀ (p i : Nat), p < pre.length → (pre ++ post.filter fun j => !bit ((Region.before ops).getD j 0) i0)[p]? = some i → PairOk P ops i i0 := by
   intro p i hp hi
   rw [List.getElem?_append_left hp] at hi
   exact hpre i (List.mem_of_getElem? hi)
  have haft : ∀ (p i : Nat), pre.length ≤ p → (pre ++ post.filter fun j => !bit ((Region.before ops).getD j 0) i0)[p]? = some i → PairOk P ops i0 i ∧ bit ((Region.before ops).getD i 0) i0 = false := by
   intro p i hp hi
   rw [List.getElem?_append_right hp] at hi
   have hm := List.mem_of_getElem? hi
   rw [List.mem_filter] at hm
   exact ⟨hpost i hm.1, by simpa using hm.2⟩
  have hi0 : i0 ∉ (pre ++ post.filter fun j => !bit ((Region.before ops).getD j 0) i0) := by
   intro hm
   rcases List.mem_append.1 hm with hm | hm
   ·exact (hpre i0 hm).ne rfl
   ·exact (hpost i0 (List.mem_filter.1 hm).1).ne rfl
  rw [g0] at h3
  simp only [Option.some.injEq] at h3
  subst h3
  -- behind the panic memory rests
  have hrest : ∀ p, pre.length ≤ p → p ≤ (pre ++ post.filter fun j => !bit ((Region.before ops).getD j 0) i0).length → (S p).heap = (S pre.length).heap ∧ (S p).defers = (S pre.length).defers := by
   intro p
   induction p with
   | zero => intro h _; rw [Nat.le_zero.1 h]; exact ⟨rfl, rfl⟩
   | succ p ih =>
    intro h hle
    by_cases ep : pre.length = p + 1
    ·rw [ep]; exact ⟨rfl, rfl⟩
    ·obtain ⟨k1, k2⟩ := ih (by omega) (by omega)
     obtain ⟨i, hi⟩ : ∃ i, (pre ++ post.filter fun j => !bit ((Region.before ops).getD j 0) i0)[p]? = some i := ⟨_, List.getElem?_eq_getElem (by omega)⟩
     obtain ⟨o, ho, _⟩ := W.run p i hi
     obtain ⟨pr, hb⟩ := haft p i (by omega) hi
     obtain ⟨n1, n2⟩ := (pr.fit hb o0 o ho0 ho).1 hc0
     cases (W.did hi ho).1 with
     | idle hw e' => rw [e']; exact ⟨k1, k2⟩
     | look x hw hc' hm e' ho' => rw [e']; exact ⟨k1, k2⟩
     | make mk obj hw hm e' ho' => rw [n2] at hm; cases hm
     | change out hw hc' ho' ha => rw [n1] at hc'; cases hc'
  refine any_wp (σ₀ := σ) (h₀ := s.heap) (w₀ := w) hc hg (by rw [g1]; rfl) W (hch md) ?_ ?_ ops.size _ a w.drew 0 σ (by simp) hu0 (fun i o _ h => absurd h (hrep i)) (fun i _ h => absurd h (hrep i)) (start W g1)
  ·intro D a' w' n τ I hall hsubD
   have hlt := (Array.getElem?_eq_some_iff.1 ho0).1
   exact absurd (hsubD i0 hlt (hall i0 hlt)) hi0
  ·intro D a' w' n τ i K I hsubD hclosed hi hni hD hready
   have hlt := (Array.getElem?_eq_some_iff.1 ho0).1
   have hii : i = i0 := by
    have hm := hmem i hi
    rw [hl] at hm
    rcases List.mem_append.1 hm with hm | hm
    ·exact absurd (List.mem_append_left _ hm) hni
    ·rcases List.mem_cons.1 hm with hm | hm
     ·exact hm
     ·cases hb : bit ((Region.before ops).getD i 0) i0 with
      | true => exact absurd (hsubD i0 hlt (hready i0 hb)) hi0
      | false => exact absurd (List.mem_append_right _ (List.mem_filter.2 ⟨hm, by rw [hb]; rfl⟩)) hni
   subst hii
   obtain ⟨n', _, I', hn'⟩ := I.norm W _ n rfl
   have hn'' : n' = (pre ++ post.filter fun j => !bit ((Region.before ops).getD j 0) i).length := by
    rcases hn' with h | ⟨k, o, hk, ho, hck⟩
    ·exact h
    ·exfalso
     have hDk := I'.open_ n' k o (Nat.le_refl _) hk ho (.inl hck)
     rcases Nat.lt_or_ge n' pre.length with hlt' | hge
     ·have pr := hbef n' k hlt' hk
      cases hb : bit ((Region.before ops).getD i 0) k with
      | true => exact hDk (hready k hb)
      | false => have := ((pr.fit hb o o0 ho ho0).1 hck).1; rw [hc0] at this; cases this
     ·obtain ⟨pr, hb⟩ := haft n' k hge hk
      have := ((pr.fit hb o0 o ho0 ho).1 hc0).1; rw [hck] at this; cases this
   subst hn''
   have hlen : pre.length ≤ (pre ++ post.filter fun j => !bit ((Region.before ops).getD j 0) i).length := by simp
   obtain ⟨k1, k2⟩ := hrest _ hlen (Nat.le_refl _)
   have hlook := slots_looks W I' hclosed hlen ho0 hD hready hbef (fun p j hp hj => .inr (haft p j hp hj).1)
   obtain ⟨b, hb, hfit, hcase⟩ := operH_inv g3
   unfold wpOp
   rw [ho0]
   simp only
   rw [wanted_rel hlook hb]
   rcases hcase with ⟨rfl, out, hopx, ha⟩ | ⟨_, he⟩
   ·simp only [if_true]
    have hpan := (W.same pre.length hlen).1
    have hrel : Rel P τ (S pre.length).heap w' := by rw [← k1]; exact I'.step.rel
    have hout := opH_rel hrel (ρ := only (looks ops o0) ((S pre.length).env.eval P)) (ev := a'.eval) (eval_rel (P := P) hrel hlook) (o := o0) (out := out) (by rw [only_congr opLooks_looks]; exact hopx)
    refine .inl (upon_of hc hg hrel (by rw [← k2]; exact I'.defs) hout ?_ ha ?_ ?_).1
    ·rintro h'' rfl
     simp only [afterH, hpan] at ha
     cases ha
    ·intro x h'' ds he
     simp only [Prod.mk.injEq] at he
     exact absurd he.1 (by simp)
    ·intro x h'' he τ' v' w'' hst hv
     simp only [Prod.mk.injEq, Ex.pan.injEq] at he
     obtain ⟨rfl, rfl⟩ := he
     have hst' : Step P τ (S (pre ++ post.filter fun j => !bit ((Region.before ops).getD j 0) i).length).heap w' τ' h'' w'' := by rw [k1]; exact hst
     have hh : h' = h'' := by rw [← g4]; rfl
     subst hh
     refine ⟨τ', I'.step.trans hst', ⟨v', rfl, hv⟩, ?_, ?_, ?_, by rw [← g2]; exact I'.defs.mono hst.le, f.pan.mono (Places.le_trans I'.step.le hst.le)⟩
     ·intro t
      have hget : (⟨forget ops.toList ++ s.env.loc, s.env.vars⟩ : Env).get t = assoc (forget ops.toList ++ s.env.loc) (assoc s.env.vars .bad t) t := rfl
      rw [hget]
      rcases forget_get (l := ops.toList) (m := s.env.loc) (d := assoc s.env.vars .bad t) (t := t) with ⟨h4, _⟩ | ⟨h4, h5⟩
      ·rw [h4]; trivial
      ·rw [h4]
       have no : ∀ (j : Nat) o, ops[j]? = some o → o.dst ≠ some t := fun j o ho => h5 o (by
        have := Array.mem_of_getElem? ho
        simpa using this)
       have := I'.slots t 0 (Nat.zero_le _) (fun p j o hp => by omega) (fun p j o _ _ ho hd => absurd hd (no j o ho))
       rw [g1] at this
       exact this.mono hst.le
     ·rw [← I'.size, g1]; rfl
     ·intro j hj d
      exact f.mask j hj d
   ·simp only [Prod.mk.injEq] at he
    exact absurd he.1 (by simp)
end
end Go.HL
namespace Go.HL
open Go
section
variable {P : Program}
/-! ## The code of a round -/
structure RRel (σ : Places) (s : St) (a : Act) : Prop where
 env : EnvRel σ s.env a.tmps
 lim : s.lim = a.tmps.size
 defs : a.defers = []
 calm : s.pan = .none
 empty : s.defers = []
theorem opH_not_defer {ρ : Operand → HVal} {h h' : Heap} {o : Oper} {v : HVal} (e : opH P ρ h o = some (.val v h')) : ∀ c, o.op ≠ .defer c := by
 obtain ⟨dst, op, type, pos, after, guard⟩ := o
 rintro c rfl
 simp only [opH] at e
 split at e
 ·split at e <;> cases e
 ·cases e
theorem env_put {σ τ : Places} {e : Env} {a : Act} {dst : Option Tmp} {x : HVal} {v : Value} {n : Nat} (r : EnvRel σ e a.tmps) (hle : σ.le τ) (hv : VRel τ x v) (hf : fits dst n = true) (hn : n = a.tmps.size) :
  EnvRel τ (e.put dst x) (a.put dst v).tmps := by
 intro i
 rw [Env.get_put, getD_put _ _ _ _ (fun d hd => by have := fits_inv hf d hd; rw [hn] at this; exact this)]
 by_cases h : dst = some i
 ·simp [h, hv]
 ·simp only [h, if_false]; exact (r i).mono hle
section
variable {b : Frame} {a : Act} {k : List Item} {cs : List Frame} {w : World} {ops : Array Oper} {i : Nat} {rest : List Nat} {o : Oper}
theorem opR_value (ho : ops[i]? = some o) (hw : Region.wanted o (yielded ops a.tmps) = true) (hnd : ∀ c, o.op ≠ .defer c) {nx : Next} {v : Value} {w' : World} (hr : (execOp a.eval o).run P w = .ok nx w') (hn : nx = .value v ∨ nx = .skip ∧ v = undef) :
  Steps P (lone (b.atR a (.inRegion ops (i :: rest) :: k)) cs w) (lone (b.atR (a.put o.dst v) (.inRegion ops rest :: k)) cs w') := by
 have hg := stepGR_op (P := P) (b := b) (a := a) (k := k) (cs := cs) (w := w) (rest := rest) ho hw
 rw [Oper.semAt_eq _ _ _ hnd] at hg
 have hfin : (b.atR a (.inRegion ops (i :: rest) :: k)).finish v = b.atR (a.put o.dst v) (.inRegion ops rest :: k) := by rw [Frame.finish_atR, ho]; rfl
 refine .one (step_lone_go ?_)
 rw [hg, ← hfin]
 rcases hn with rfl | ⟨rfl, rfl⟩ <;> simp [stepG.apply, hr]
end
theorem roundOps_rel {ops : Array Oper} (b : Frame) (k : List Item) (cs : List Frame) : ∀ (l : List Oper) (i : Nat), ops.toList.drop i = l → ∀ (s s' : St) (σ : Places) (a : Act) (w : World), roundOps P ops l s = some s' → Rel P σ s.heap w → RRel σ s a →
  ∃ τ a' w', Step P σ s.heap w τ s'.heap w' ∧ RRel τ s' a' ∧ Steps P (lone (b.atR a (.inRegion ops (List.range' i l.length) :: k)) cs w) (lone (b.atR a' k) cs w')
 | [], i, hl, s, s', σ, a, w, he, hr, f => by
  simp only [roundOps, Option.some.injEq] at he
  subst he
  exact ⟨σ, a, w, Step.refl hr, f, .one stepR_region_end⟩
 | o :: l, i, hl, s, s', σ, a, w, he, hr, f => by
  have hi : ops[i]? = some o := by
   have := congrArg (fun l => l[0]?) hl
   simpa using this
  have hl' : ops.toList.drop (i + 1) = l := by rw [← List.drop_drop, hl]; rfl
  simp only [roundOps] at he
  obtain ⟨q, hq, he'⟩ := ob_eq_some.1 he
  obtain ⟨bb, hb, hf, hcase⟩ := operH_inv hq
  have hw := wanted_rel (ops := ops) (o := o) (looks_of_env f.env _) hb
  simp only [List.length_cons, List.range'_succ]
  rcases hcase with ⟨rfl, out, ho, hafter⟩ | ⟨rfl, rfl⟩
  ·have hout := opH_rel hr (ρ := s.env.eval P) (ev := a.eval) (fun x => by
    have := eval_rel (P := P) hr (l := opLooks [x]) (looks_of_env f.env _) x
    cases x with
    | tmp t => simpa [only, opLooks] using this
    | const v => exact this
    | global v => exact this
    | func v => exact this) ho
   cases out with
   | val x h' =>
    obtain ⟨nx, v, τ, w', hrun, hnx, hv, hst⟩ := hout
    simp only [afterH, force_eq] at hafter
    cases hafter
    simp only [St.with, f.empty] at he'
    obtain ⟨υ, a', w'', hst', f', hsteps⟩ := roundOps_rel b k cs l (i + 1) hl' _ s' τ (a.put o.dst v) w' he' hst.rel
     ⟨env_put f.env hst.le hv hf f.lim, by rw [Act.size_put]; exact f.lim, by rw [Act.defers_put]; exact f.defs, f.calm, rfl⟩
    exact ⟨υ, a', w'', hst.trans hst', f', .trans (opR_value hi hw (opH_not_defer ho) hrun hnx) hsteps⟩
   | enter g args h' => simp [afterH, noCalls] at hafter
   | defer g args h' =>
    simp only [afterH] at hafter
    cases hafter
    simp at he'
   | recov h' =>
    simp only [afterH, f.calm] at hafter
    cases hafter
   | pan x h' =>
    simp only [afterH] at hafter
    cases hafter
    simp at he'
  ·have hskip := stepR_op_skip (P := P) (b := b) (a := a) (k := k) (cs := cs) (w := w) (ops := ops) (i := i) (rest := List.range' (i + 1) l.length) (by simp [hi, hw])
   simp only [hi, Option.bind_some] at hskip
   simp only [St.with, f.empty] at he'
   obtain ⟨υ, a', w'', hst', f', hsteps⟩ := roundOps_rel b k cs l (i + 1) hl' _ s' σ (a.put o.dst undef) w he' hr
    ⟨env_put f.env σ.le_refl ⟨[], rfl, VRels.nil⟩ hf f.lim, by rw [Act.size_put]; exact f.lim, by rw [Act.defers_put]; exact f.defs, f.calm, rfl⟩
   exact ⟨υ, a', w'', hst', f', .trans (.one hskip) hsteps⟩
theorem roundCode_rel (b : Frame) (cs : List Frame) : ∀ (c : Code) (k : List Item) (s s' : St) (σ : Places) (a : Act) (w : World), roundCode P c s = some s' → Rel P σ s.heap w → RRel σ s a →
  ∃ τ a' w', Step P σ s.heap w τ s'.heap w' ∧ RRel τ s' a' ∧ Steps P (lone (b.atR a (.code c :: k)) cs w) (lone (b.atR a' k) cs w')
 | .skip, k, s, s', σ, a, w, he, hr, f => by
  simp only [roundCode, Option.some.injEq] at he
  subst he
  exact ⟨σ, a, w, Step.refl hr, f, .one stepR_skip⟩
 | .region id ops draw, k, s, s', σ, a, w, he, hr, f => by
  simp only [roundCode] at he
  obtain ⟨hd, he'⟩ := bcase_none_eq_some.1 he
  subst hd
  have hlen : List.range ops.size = List.range' 0 ops.toList.length := by simp [List.range_eq_range']
  obtain ⟨τ, a', w', h1, h2, h3⟩ := roundOps_rel b k cs ops.toList 0 rfl s s' σ a w he' hr f
  rw [← hlen] at h3
  exact ⟨τ, a', w', h1, h2, .trans (.one stepR_region) h3⟩
 | .seq x y, k, s, s', σ, a, w, he, hr, f => by
  simp only [roundCode] at he
  obtain ⟨s1, e1, e2⟩ := ob_eq_some.1 he
  obtain ⟨τ, a1, w1, h1, h2, h3⟩ := roundCode_rel b cs x (.code y :: k) s s1 σ a w e1 hr f
  obtain ⟨υ, a2, w2, g1, g2, g3⟩ := roundCode_rel b cs y k s1 s' τ a1 w1 e2 h1.rel h2
  exact ⟨υ, a2, w2, h1.trans g1, g2, .trans (.one stepR_seq) (.trans h3 g3)⟩
 | .block id x, k, s, s', σ, a, w, he, hr, f => by
  simp only [roundCode] at he
  obtain ⟨τ, a1, w1, h1, h2, h3⟩ := roundCode_rel b cs x (.inBlock id :: k) s s' σ a w he hr f
  exact ⟨τ, a1, w1, h1, h2, .trans (.one stepR_block) (.trans h3 (.one stepR_inBlock))⟩
 | .cond .., _, _, _, _, _, _, he, _, _ => by simp [roundCode] at he
 | .loop .., _, _, _, _, _, _, he, _, _ => by simp [roundCode] at he
 | .scope .., _, _, _, _, _, _, he, _, _ => by simp [roundCode] at he
 | .exit .., _, _, _, _, _, _, he, _, _ => by simp [roundCode] at he
 | .goto .., _, _, _, _, _, _, he, _, _ => by simp [roundCode] at he
 | .label .., _, _, _, _, _, _, he, _, _ => by simp [roundCode] at he
 | .ret, _, _, _, _, _, _, he, _, _ => by simp [roundCode] at he
 | .refuse .., _, _, _, _, _, _, he, _, _ => by simp [roundCode] at he
 | .rangeFunc .., _, _, _, _, _, _, he, _, _ => by simp [roundCode] at he
/-! ## A round -/
theorem loop_inv {h : Heap} {k : Nat} {o : Bool × List (Nat × HVal) × Nat × List Nat × Code × Code} (e : ob (h.get k) HObj.isLoop = some o) :
  h.get k = some (.loop o.1 o.2.1 o.2.2.1 o.2.2.2.1 o.2.2.2.2.1 o.2.2.2.2.2) := by
 obtain ⟨b, hb, e⟩ := ob_eq_some.1 e
 cases b <;> simp [HObj.isLoop] at e
 subst e; exact hb
theorem params_env {σ : Places} {V : List (Nat × HVal)} : ∀ (ps : List Nat) (args : List HVal) (vs : List Value) (loc : List (Nat × HVal)) (tmps : Array Value), ps.length = args.length → VRels σ args vs → (∀ t ∈ ps, t < tmps.size) →
  (∀ t, VRel σ (assoc loc (assoc V .bad t) t) (tmps.getD t undef)) →
  ((ps.zip vs).foldl (fun (tm : Array Value) (x : Nat × Value) => tm.setIfInBounds x.1 x.2) tmps).size = tmps.size ∧
   ∀ t, VRel σ (assoc (putAll ps args loc) (assoc V .bad t) t) (((ps.zip vs).foldl (fun (tm : Array Value) (x : Nat × Value) => tm.setIfInBounds x.1 x.2) tmps).getD t undef)
 | [], args, vs, loc, tmps, hl, hv, hlt, h => by
  cases args with
  | nil => exact ⟨by simp, by simpa [putAll] using h⟩
  | cons => simp at hl
 | p :: ps, args, vs, loc, tmps, hl, hv, hlt, h => by
  cases args with
  | nil => simp at hl
  | cons v args =>
   obtain ⟨u, us, rfl, hu, hus⟩ := hv.cons_inv
   have hp : p < tmps.size := hlt p (by simp)
   have ih := params_env (σ := σ) (V := V) ps args us ((p, v) :: loc) (tmps.setIfInBounds p u) (by simpa using hl) hus (fun t ht => by simpa using hlt t (by simp [ht])) (fun t => by
    have hg := getD_put ⟨tmps, []⟩ (some p) u t (fun d hd => by cases hd; exact hp)
    have hg' : (tmps.setIfInBounds p u).getD t undef = if some p = some t then u else tmps.getD t undef := hg
    rw [hg', assoc_cons]
    by_cases e : p = t
    ·simp [e, hu]
    ·simp only [e, if_false, Option.some.injEq]; exact h t)
   simp only [List.zip_cons_cons, List.foldl_cons, putAll]
   exact ⟨by rw [ih.1]; simp, ih.2⟩
theorem round_go {k : Nat} {args : List HVal} {h h' : Heap} {cr : CRes} (e : roundH P k args h = some (cr, h')) {σ : Places} {w : World} {vs : List Value} {p : Place} (r : Rel P σ h w) (hv : VRels σ args vs) (hp : σ k = some p) :
  RoundGo P p.blk vs w fun v w' => ∃ x τ, cr = .ret x ∧ VRel τ x v ∧ Step P σ h w τ h' w' := by
 unfold roundH at e
 obtain ⟨o, ho, e1⟩ := ob_eq_some.1 e
 obtain ⟨hbusy, e2⟩ := bcase_none_eq_some.1 e1
 obtain ⟨hlen, e3⟩ := bcase_eq_some.1 e2
 obtain ⟨hall, e4⟩ := bcase_eq_some.1 e3
 obtain ⟨s1, h1, e5⟩ := ob_eq_some.1 e4
 obtain ⟨o1, ho1, e6⟩ := ob_eq_some.1 e5
 obtain ⟨hbusy1, e7⟩ := bcase_none_eq_some.1 e6
 obtain ⟨s2, h2, e8⟩ := ob_eq_some.1 e7
 obtain ⟨o2, ho2, e9⟩ := ob_eq_some.1 e8
 clear e e1 e2 e3 e4 e5 e6 e7 e8
 cases e9
 rw [nbeq] at hlen
 have hlen' : o.2.2.2.1.length = args.length := of_decide_eq_true hlen
 obtain ⟨L, g1, g2, g3, g4, g5, g6, g7, g8⟩ := r.obj k _ p (loop_inv ho) rfl hp
 have hvl := hv.length
 have hsz : (⟨vs⟩ : Array Value).size = L.params.size := by
  have : L.params.toList.length = args.length := by rw [g6]; exact hlen'
  simp at this ⊢; omega
 refine ⟨L.fn, _, L.assign, L.body, run_yield g1 hsz, fun c cs => ?_⟩
 have htm : (L.params.zip ⟨vs⟩).foldl (fun (tmps : Array Value) (x : Tmp × Value) => match x with | (t, a) => tmps.setIfInBounds t a) L.tmps =
   (o.2.2.2.1.zip vs).foldl (fun (tm : Array Value) (x : Nat × Value) => tm.setIfInBounds x.1 x.2) L.tmps := by
  rw [← Array.foldl_toList, Array.toList_zip, g6]
 rw [htm]
 have hlt : ∀ t ∈ o.2.2.2.1, t < L.tmps.size := by
  intro t ht
  have := List.all_eq_true.1 hall t ht
  rw [nblt] at this
  rw [g4]; exact of_decide_eq_true this
 obtain ⟨q1, q2⟩ := params_env (σ := σ) (V := o.2.1) o.2.2.2.1 args vs [] L.tmps hlen' hv hlt g5
 generalize (o.2.2.2.1.zip vs).foldl (fun (tm : Array Value) (x : Nat × Value) => tm.setIfInBounds x.1 x.2) L.tmps = tm at q1 q2
 let b : Frame := { (default : Frame) with fn := L.fn, kind := .normal, roundOf := some p.blk }
 have hb0 : Frame.round p.blk L.fn tm L.assign L.body .normal = b.atR ⟨tm, []⟩ [.code L.assign, .beginRound, .code L.body] := by
  simp [Frame.round, Frame.atR, b]
 rw [hb0, g7, g8]
 obtain ⟨τ1, a1, w1, st1, R1, steps1⟩ := roundCode_rel b (c :: cs) o.2.2.2.2.1 [.beginRound, .code o.2.2.2.2.2] _ s1 σ ⟨tm, []⟩ w h1 r ⟨q2, by show o.2.2.1 = tm.size; rw [q1, g4], rfl, rfl, rfl⟩
 have hp1 := st1.le k p hp
 obtain ⟨L1, j1, j2, j3, j4, j5, j6, j7, j8⟩ := st1.rel.obj k _ p (loop_inv ho1) rfl hp1
 rw [hbusy1] at j2
 have hin1 : p.blk < w1.heap.size := st1.rel.inb k p hp1
 have st2 : Step P τ1 s1.heap w1 τ1 (s1.heap.put k (.loop true o1.2.1 o1.2.2.1 o1.2.2.2.1 o1.2.2.2.2.1 o1.2.2.2.2.2)) (w1.putObj p.blk (.loop { L1 with state := .busy })) :=
  Step.put st1.rel (loop_inv ho1) rfl hp1 ⟨{ L1 with state := .busy }, World.putObj_heap_same hin1, rfl, j3, j4, j5, j6, j7, j8⟩ (fun q hq => World.putObj_heap_other hq) World.putObj_size rfl rfl rfl
 have sb : Steps P (lone (b.atR a1 [.beginRound, .code o.2.2.2.2.2]) (c :: cs) w1) (lone (b.atR a1 [.code o.2.2.2.2.2]) (c :: cs) (w1.putObj p.blk (.loop { L1 with state := .busy }))) :=
  .one (stepR_beginRound rfl (run_beginRound j1 j2))
 obtain ⟨τ3, a3, w3, st3, R3, steps3⟩ := roundCode_rel b (c :: cs) o.2.2.2.2.2 [] _ s2 τ1 a1 _ h2 st2.rel ⟨R1.env, R1.lim, R1.defs, R1.calm, R1.empty⟩
 have hp3 := st3.le k p hp1
 obtain ⟨L3, m1, m2, m3, m4, m5, m6, m7, m8⟩ := st3.rel.obj k _ p (loop_inv ho2) rfl hp3
 have hin3 : p.blk < w3.heap.size := st3.rel.inb k p hp3
 have hend := run_endRound (P := P) none m1
 have st4 : Step P τ3 s2.heap w3 τ3 (s2.heap.put k (.loop false o2.2.1 o2.2.2.1 o2.2.2.2.1 o2.2.2.2.2.1 o2.2.2.2.2.2)) (w3.putObj p.blk (.loop { L3 with state := .ready, pending := none })) :=
  Step.put st3.rel (loop_inv ho2) rfl hp3 ⟨{ L3 with state := .ready, pending := none }, World.putObj_heap_same hin3, rfl, rfl, m4, m5, m6, m7, m8⟩ (fun q hq => World.putObj_heap_other hq) World.putObj_size rfl rfl rfl
 refine ⟨.bool true, _, ⟨.bool true, τ3, rfl, rfl, st1.trans (st2.trans (st3.trans st4))⟩, steps1.trans (sb.trans (steps3.trans (.one ?_)))⟩
 exact stepR_round_end (b := b) rfl rfl hend
/-! ## The way out -/
def LeavesM (P : Program) (fn : Func) (tmps : Array Value) (R : Ending → World → Prop) : List Deferred → FrameMode → World → Prop
 | [], u, w => Leaves P fn tmps R [] u w
 | d :: ds, u, w => u ≠ .run ∧
   ((∃ r w', d.target = .collected r ∧ (Instr.takeDeferred r).run P w = .ok [] w' ∧ LeavesM P fn tmps R ds u w') ∨
    ∃ fv cap f args, d.target = .fn fv cap ∧ (invoke d.target d.args).run P w = .ok (.enter f args) w ∧
    CallsD P f args u w fun
     | .returned _, u', w' => LeavesM P fn tmps R ds (settle u') w'
     | .panicked chain, u', w' => LeavesM P fn tmps R ds (raised u' chain) w'
     | .outgrown, _, w' => R .outgrown w')
theorem leavesM_steps {fn : Func} {tmps : Array Value} {R : Ending → World → Prop} : ∀ (ds : List Deferred) (u : FrameMode) (w : World) (fr : Frame) (cs : List Frame),
  fr.mode = u → fr.defers = ds → fr.tmps = tmps → P.funcs[fr.fn]? = some fn → fr.kind = .normal → LeavesM P fn tmps R ds u w →
  ∃ e w' fr', R e w' ∧ Comes P (lone fr cs w) (lone fr' cs w') e ∧ fr'.fn = fr.fn ∧ fr'.leaving P w' e
 | [], u, w, fr, cs, hu, hd, ht, hf, hk, h => leaves_steps [] u w fr cs hu hd ht hf hk h
 | d :: ds, u, w, fr, cs, hu, hd, ht, hf, hk, h => by
  obtain ⟨hrun, ⟨r, w1, htar, htake, hrest⟩ | ⟨fv, cap, f, args, htar, hinv, hcall⟩⟩ := h
  ·have h1 := step_collected (cs := cs) (hu ▸ hrun) hd htar htake
   obtain ⟨e, w', fr', hR, hs, hfn, hl⟩ := leavesM_steps ds u w1 { fr with defers := [] ++ ds } cs hu rfl ht hf hk hrest
   exact ⟨e, w', fr', hR, Comes.of_steps (.one h1) hs, hfn, hl⟩
  ·have h1 := step_defer (cs := cs) (hu ▸ hrun) hd htar hinv
   obtain ⟨e, u', w1, frX, hR, hsteps, hkX, hgo⟩ := hcall { fr with defers := ds } cs hu
   cases e with
   | returned v =>
    have h2 := step_going_returned (c := { { fr with defers := ds } with mode := u' }) (cs := cs) hkX hgo
    obtain ⟨e, w', fr', hR', hs, hfn, hl⟩ := leavesM_steps ds (settle u') w1 { { { fr with defers := ds } with mode := u' } with mode := settle u' } cs rfl rfl ht hf hk hR
    exact ⟨e, w', fr', hR', Comes.of_steps (.head h1 (Steps.trans hsteps (.one h2))) hs, hfn, hl⟩
   | panicked chain =>
    have h2 := step_going_panicked (c := { { fr with defers := ds } with mode := u' }) (cs := cs) hgo
    obtain ⟨e, w', fr', hR', hs, hfn, hl⟩ := leavesM_steps ds (raised u' chain) w1 { { { fr with defers := ds } with mode := u' } with mode := raised u' chain } cs rfl rfl ht hf hk hR
    exact ⟨e, w', fr', hR', Comes.of_steps (.head h1 (Steps.trans hsteps (.one h2))) hs, hfn, hl⟩
   | outgrown => exact ⟨.outgrown, w1, fr, hR, Outgrown.of_steps (.one h1) hsteps, rfl, trivial⟩
def endsM (P : Program) (fn : Func) (R : Ending → World → Prop) : Exit → Act → World → Prop
 | .normal, a, w | .ret, a, w => LeavesM P fn a.tmps R a.defers .returning w
 | .panic chain, a, w => LeavesM P fn a.tmps R a.defers (.panicking chain) w
 | _, _, _ => False
theorem calls_of_arrives {f : FuncId} {fn : Func} {c : Code} {args : Array Value} {w : World} {R : Ending → World → Prop} (hf : P.funcs[f]? = some fn) (hb : fn.body = some c)
  (h : ∀ (b : Frame) (cs : List Frame), ∃ e a' w', endsM P fn R e a' w' ∧ Arrives P (lone (b.at { tmps := args ++ Array.replicate (fn.ntmps - args.size) undef, defers := [] } [.code c]) cs w) b [] cs e a' w') : Calls P f args w R := by
 intro cs
 let b : Frame := { (default : Frame) with fn := f, kind := .normal }
 have henter : Frame.enter P f args .normal = b.at { tmps := args ++ Array.replicate (fn.ntmps - args.size) undef, defers := [] } [.code c] := by
  simp [Frame.enter, Frame.at, hf, hb, b]
 obtain ⟨e, a', w', hq, harr⟩ := h b cs
 rw [← henter] at harr
 have out : ∀ (u : FrameMode) (todo : List Item), LeavesM P fn a'.tmps R a'.defers u w' → Steps P (lone (Frame.enter P f args .normal) cs w) (lone { b.at a' todo with mode := u } cs w') →
   ∃ e w'' fr, R e w'' ∧ Comes P (lone (Frame.enter P f args .normal) cs w) (lone fr cs w'') e ∧ fr.fn = f ∧ fr.leaving P w'' e := by
  intro u todo hq hs
  obtain ⟨e, w'', fr, hR, hs', hfn, hl⟩ := leavesM_steps a'.defers u w' { b.at a' todo with mode := u } cs rfl rfl rfl hf rfl hq
  exact ⟨e, w'', fr, hR, Comes.of_steps hs hs', hfn, hl⟩
 cases e with
 | normal => exact out .returning [] hq (Steps.trans harr (.one step_end))
 | ret =>
  obtain ⟨todo, hs⟩ := harr
  exact out .returning todo hq hs
 | panic chain =>
  obtain ⟨todo, hs⟩ := harr
  exact out (.panicking chain) todo hq hs
 | exit id => exact hq.elim
 | goto l => exact hq.elim
 | outgrown => exact hq.elim
/-! ## The statement -/
theorem rangeFunc_goes {dfr : Bool} {F : FrameMode → List Frame} {a : Act} {u : FrameMode} {w : World} {call : CallFn} (hc : CallSound P call) {g : Operand} {ps : Array Tmp} {assign body : Code} {s : St} {e : Ex × St} {σ : Places}
  (he : rangeFuncH P call g ps assign body s = some e) (r : Rel P σ s.heap w) (f : FRel σ dfr s a u) :
  Goes P dfr F (fun k => .code (.rangeFunc g ps assign body) :: k) (Ends P σ dfr s.heap w e) a u w := by
 unfold rangeFuncH at he
 split at he
 case h_2 => cases he
 rename_i hpan
 cases dfr with
 | true => have hp := f.pan; rw [hpan] at hp; exact hp.elim
 | false =>
 split at he
 case h_2 => cases he
 rename_i hloc
 split at he
 case h_2 => cases he
 rename_i ff first cap hev
 obtain ⟨out, hcall, he1⟩ := ob_eq_some.1 he
 clear he
 split at he1
 case h_2 => cases he1
 rename_i f' args' h'
 obtain ⟨hlt, he2⟩ := bcase_eq_some.1 he1
 rw [nblt] at hlt
 have hlt' : f' < roundNo := of_decide_eq_true hlt
 obtain ⟨⟨cr, h3⟩, hrun, he3⟩ := ob_eq_some.1 he2
 clear he1 he2
 cases cr with
 | pan x => cases he3
 | ret x =>
 simp only at he3
 obtain ⟨o, ho, he4⟩ := ob_eq_some.1 he3
 obtain ⟨hbusy, he5⟩ := bcase_none_eq_some.1 he4
 clear he3 he4
 cases he5
 have hgr := eval_rel (P := P) r (l := opLooks [g]) (looks_of_env f.env _) g
 have hgr' : VRel σ (s.env.eval P g) (a.eval g) := by
  cases g with
  | tmp t => simpa [only, opLooks] using hgr
  | const v => exact hgr
  | global v => exact hgr
  | func v => exact hgr
 rw [hev] at hgr'
 obtain ⟨fa, fb, hga, hfa, hfb⟩ := hgr'
 intro b k _
 let L : Loop := { state := .ready, pending := none, fn := b.fn, tmps := a.tmps, params := ps, assign := assign, body := body, defers := w.heap.size }
 have st1 := Step.new r (o := .block) (p := ⟨w.heap.size, 0, 0, 0⟩) (b := .deferred (some [])) rfl rfl
 have hsz1 : (w.alloc (.deferred (some []))).heap.size = w.heap.size + 1 := World.size_alloc ..
 have st2 := Step.new st1.rel (o := .loop false s.env.vars s.lim ps.toList assign body) (p := ⟨w.heap.size + 1, 0, 0, 0⟩) (b := .loop L) hsz1.symm
  ⟨L, rfl, rfl, rfl, f.lim.symm, fun t => by
   have := f.env t
   rw [Env.get_eq, hloc] at this
   exact (this.mono st1.le).mono (Places.le_upd _ st1.rel.next_none), rfl, rfl, rfl⟩
 generalize hw2 : (w.alloc (.deferred (some []))).alloc (.loop L) = w2 at st2
 have st12 := st1.trans st2
 have hkb : (σ.upd s.heap.next ⟨w.heap.size, 0, 0, 0⟩) s.heap.next = some ⟨w.heap.size, 0, 0, 0⟩ := σ.upd_same _ _
 have hkl : ((σ.upd s.heap.next ⟨w.heap.size, 0, 0, 0⟩).upd (s.heap.new .block).next ⟨w.heap.size + 1, 0, 0, 0⟩) (Nat.succ s.heap.next) = some ⟨w.heap.size + 1, 0, 0, 0⟩ := Places.upd_same _ _ _
 generalize (σ.upd s.heap.next ⟨w.heap.size, 0, 0, 0⟩) = τ1 at st1 st2 st12 hkb hkl
 have hkb2 := st2.le _ _ hkb
 generalize (τ1.upd (s.heap.new .block).next ⟨w.heap.size + 1, 0, 0, 0⟩) = τ2 at st2 st12 hkl hkb2
 have hargs : VRels τ2 (first ++ (.yield (Nat.succ s.heap.next) :: cap)) (fa ++ (.func (.yield (w.heap.size + 1)) #[] #[] :: fb)) :=
  (hfa.mono st12.le).append (VRels.cons ⟨_, hkl, rfl⟩ (hfb.mono st12.le))
 have hout := call_rel st2.rel hargs hcall
 obtain ⟨args'', hcase, ha, rfl⟩ := hout
 rcases hcase with ⟨_, hcf⟩ | ⟨hge, _⟩
 case inr => omega
 let b' : Frame := { b with roundOf := none }
 have hat : ∀ (a : Act) (t : List Item), b'.atR a t = b.at a t := fun a t => Frame.atR_of_none (b := b') rfl a t
 have henter : (Instr.enterLoop b'.fn a.tmps ps assign body b'.roundOf).run P w = .ok (w.heap.size + 1, [{ target := .collected w.heap.size, args := #[] }]) w2 := by
  rw [← hw2]; exact run_enterLoop_outer b.fn a.tmps ps assign body
 have hres : (resolve a.eval (rangeCall g (w.heap.size + 1)) 0).run P w2 = .ok { target := .fn (.func ff) ⟨fb⟩, args := ⟨fa⟩ ++ #[.func (.yield (w.heap.size + 1)) #[] #[]] } w2 := by
  have hm : (#[Operand.const (.func (.yield (w.heap.size + 1)) #[] #[])].map a.eval) = #[.func (.yield (w.heap.size + 1)) #[] #[]] := by
   apply Array.ext'; simp only [Array.toList_map, List.map_cons, List.map_nil]; rfl
  simp only [resolve]
  rw [hm, hga]
  simp [Deferred.ofValue]
 have hinv : (invoke (.fn (.func ff) ⟨fb⟩) (⟨fa⟩ ++ #[.func (.yield (w.heap.size + 1)) #[] #[]])).run P w2 = .ok (.enter f' ⟨args''⟩) w2 := by
  have e0 : ((⟨fa⟩ ++ #[.func (.yield (w.heap.size + 1)) #[] #[]] : Array Value) ++ ⟨fb⟩) = ⟨fa ++ (.func (.yield (w.heap.size + 1)) #[] #[] :: fb)⟩ := by
   apply Array.ext'; simp
  simp only [invoke]
  rw [e0]; exact hcf
 have hstep := stepR_rangeFunc (P := P) (b := b') (a := a) (k := k) (cs := F u) (w := w) henter hres hinv
 obtain ⟨en, w3, fr, ⟨τ3, st3, hcr⟩, hsteps, _, hleave⟩ := (hc f' args' _ _ _ hrun τ2 w2 args'' st2.rel ha).1 hlt'
  (b'.atR { a with defers := [{ target := .collected w.heap.size, args := #[] }] ++ a.defers } (.inRangeFunc (w.heap.size + 1) :: k) :: F u)
 obtain ⟨v, rfl, hv⟩ := hcr
 have hkl3 := st3.le _ _ hkl
 obtain ⟨L3, m1, m2, m3, m4⟩ := st3.rel.obj _ _ _ (loop_inv ho) rfl hkl3
 rw [hbusy] at m2
 have hend : (Instr.endLoop (w.heap.size + 1)).run P w3 = .ok none (w3.putObj (w.heap.size + 1) (.loop { L3 with state := .exhausted })) :=
  (run_endLoop (P := P) m1 (by rw [m2]; simp)).trans (by rw [m3])
 have st4 : Step P τ3 h3 w3 τ3 (h3.put (Nat.succ s.heap.next) .dead) (w3.putObj (w.heap.size + 1) (.loop { L3 with state := .exhausted })) :=
  Step.put st3.rel (loop_inv ho) rfl hkl3 trivial (fun q hq => World.putObj_heap_other hq) World.putObj_size rfl rfl rfl
 have hall := st12.trans (st3.trans st4)
 refine ⟨.normal, { a with defers := [{ target := .collected w.heap.size, args := #[] }] ++ a.defers }, u, _, ⟨τ3, hall, rfl, ?_⟩, ?_⟩
 ·have hkb3 := st3.le _ _ hkb2
  exact ⟨f.env.mono hall.le, f.lim, f.mask, ⟨⟨w.heap.size, 0, 0, 0⟩, a.defers, rfl, hkb3, f.defs.mono hall.le⟩, f.pan.mono hall.le⟩
 ·have hfin := finish_atR_inRangeFunc (b := b') (a := { a with defers := [{ target := .collected w.heap.size, args := #[] }] ++ a.defers }) (k := k) (w.heap.size + 1) v
  have sback := step_leave_returned (P := P) (cs := F u) (c := b'.atR { a with defers := [{ target := .collected w.heap.size, args := #[] }] ++ a.defers } (.inRangeFunc (w.heap.size + 1) :: k)) hleave
  rw [hfin] at sback
  have slast := stepR_endRangeFunc (P := P) (b := b') (a := { a with defers := [{ target := .collected w.heap.size, args := #[] }] ++ a.defers }) (k := k) (cs := F u) hend
  rw [hat] at hstep
  have hgo : Steps P (lone (b.at a (.code (.rangeFunc g ps assign body) :: k)) (F u) w) (lone (b'.atR { a with defers := [{ target := .collected w.heap.size, args := #[] }] ++ a.defers } k) (F u) (w3.putObj (w.heap.size + 1) (.loop { L3 with state := .exhausted }))) :=
   .head hstep (Steps.trans hsteps (.head sback (.one slast)))
  rw [hat] at hgo
  exact hgo
end
end Go.HL
namespace Go.HL
open Go
section
variable {P : Program}
/-! ## Behind a region -/
theorem flushK_eq {β : Type} (mask : Nat) : ∀ (l : List (Nat × HVal)) (vars : List (Nat × HVal)) (k : List (Nat × HVal) → β), (∀ i, bit mask i = false → ∀ d, assoc vars d i = d) →
  ∃ vs, flushK mask l vars k = k vs ∧ (∀ i, bit mask i = false → ∀ d, assoc vs d i = d) ∧ ∀ i, bit mask i = true → assoc vs .bad i = assoc l (assoc vars .bad i) i
 | [], vars, k, hm => ⟨vars, rfl, hm, fun _ _ => rfl⟩
 | p :: l, vars, k, hm => by
  obtain ⟨vs, h1, h2, h3⟩ := flushK_eq mask l vars (fun vars' => bcase (bit mask p.1) (setAK vars' p.1 p.2 k) (k vars')) hm
  have e : flushK mask (p :: l) vars k = bcase (bit mask p.1) (setAK vs p.1 p.2 k) (k vs) := h1
  cases hb : bit mask p.1 with
  | true =>
   rw [hb, bcT] at e
   obtain ⟨m, g1, g2⟩ := setAK_eq p.1 p.2 vs k
   refine ⟨m, by rw [e, g1], fun i hi d => ?_, fun i hi => ?_⟩
   ·have : p.1 ≠ i := by rintro rfl; rw [hb] at hi; cases hi
    rw [g2, if_neg this, h2 i hi]
   ·rw [g2, assoc_cons, h3 i hi]
  | false =>
   rw [hb, bcF] at e
   refine ⟨vs, e, h2, fun i hi => ?_⟩
   have : p.1 ≠ i := by rintro rfl; rw [hb] at hi; cases hi
   rw [assoc_cons, if_neg this, h3 i hi]
theorem flushed_rel {σ : Places} {dfr : Bool} {h : Heap} {w : World} {r r' : Ex × St} (e : flushed r = some r') {x : Exit} {a : Act} {u : FrameMode} {w' : World} (he : Ends P σ dfr h w r x a u w') :
  Ends P σ dfr h w r' x a u w' := by
 obtain ⟨ex, s⟩ := r
 unfold flushed at e
 cases ex <;> simp only at e <;> try (cases e; exact he)
 obtain ⟨τ, hs, hx, f⟩ := he
 obtain ⟨vs, h1, h2, h3⟩ := flushK_eq s.mask s.env.loc s.env.vars (fun vars => some (Ex.nrm, (⟨⟨[], vars⟩, s.heap, s.defers, s.pan, s.mask, s.lim⟩ : St))) f.mask
 rw [h1] at e
 cases e
 refine ⟨τ, hs, hx, ?_, f.lim, h2, f.defs, f.pan⟩
 intro i
 have hget : (⟨[], vs⟩ : Env).get i = assoc vs .bad i := rfl
 rw [hget]
 cases hb : bit s.mask i with
 | true => rw [h3 i hb]; exact f.env i
 | false => rw [h2 i hb]; trivial
/-! ## Code -/
def Sound (P : Program) (run : Code → St → Res) : Prop := ∀ c s r, run c s = some r → ∀ (σ : Places) (dfr : Bool) (F : FrameMode → List Frame) (a : Act) (u : FrameMode) (w : World),
 KindF dfr F → Rel P σ s.heap w → FRel σ dfr s a u → Goes P dfr F (startOf c) (Ends P σ dfr s.heap w r) a u w
theorem Ends.trans {σ τ : Places} {dfr : Bool} {h h' : Heap} {w w' : World} {r : Ex × St} {x : Exit} {a : Act} {u : FrameMode} {w'' : World} (hs : Step P σ h w τ h' w') (he : Ends P τ dfr h' w' r x a u w'') :
  Ends P σ dfr h w r x a u w'' := by
 obtain ⟨υ, h1, h2, h3⟩ := he
 exact ⟨υ, hs.trans h1, h2, h3⟩
/-! ## Calls -/
theorem bit_eq (m i : Nat) : bit m i = m.testBit i := by
 rw [Nat.testBit_eq_decide_div_mod_eq]
 show Nat.beq (m / 2 ^ i % 2) 1 = _
 rw [nbeq]
theorem numbered_get : ∀ (l : List HVal) (n i : Nat) (d : HVal), assoc (numbered l n) d i = if n ≤ i ∧ i < n + l.length then l.getD (i - n) d else d
 | [], n, i, d => by
  have : ¬ (n ≤ i ∧ i < n + ([] : List HVal).length) := by simp
  simp [numbered, assoc_nil]
 | x :: l, n, i, d => by
  simp only [numbered]
  rw [assoc_cons, numbered_get l]
  by_cases h : n = i
  ·subst h; simp
  ·simp only [h, if_false, List.length_cons]
   by_cases h2 : n ≤ i ∧ i < n + (l.length + 1)
   ·have h3 : n + 1 ≤ i ∧ i < n + 1 + l.length := by omega
    rw [if_pos h2, if_pos h3]
    obtain ⟨j, rfl⟩ : ∃ j, i = n + 1 + j := ⟨i - (n + 1), by omega⟩
    have e1 : n + 1 + j - (n + 1) = j := by omega
    have e2 : n + 1 + j - n = j + 1 := by omega
    rw [e1, e2]; rfl
   ·have h3 : ¬ (n + 1 ≤ i ∧ i < n + 1 + l.length) := by omega
    rw [if_neg h2, if_neg h3]
theorem enter_rel {σ : Places} {fn : Func} {args : List HVal} {vs : List Value} {h : Heap} {dfr : Bool} {p : Pan} {u : FrameMode} (hv : VRels σ args vs) (hp : PanRel σ dfr p u) :
  FRel σ dfr (enterSt fn args h p) { tmps := (⟨vs⟩ : Array Value) ++ Array.replicate (fn.ntmps - (⟨vs⟩ : Array Value).size) undef, defers := [] } u := by
 have hlen := hv.length
 refine ⟨?_, ?_, ?_, rfl, hp⟩
 ·intro i
  have hget : (enterSt fn args h p).env.get i = assoc (numbered args 0) .bad i := rfl
  rw [hget, numbered_get]
  by_cases hi : 0 ≤ i ∧ i < 0 + args.length
  ·rw [if_pos hi]
   have hi' : i < args.length := by omega
   obtain ⟨v, h1, h2⟩ := hv.get (List.getElem?_eq_getElem hi')
   have e1 : args.getD (i - 0) .bad = args[i] := by simp [hi']
   rw [e1]
   have hi2 : i < vs.length := by omega
   have e2 : ((⟨vs⟩ : Array Value) ++ Array.replicate (fn.ntmps - (⟨vs⟩ : Array Value).size) undef).getD i undef = v := by
    rw [Array.getD_eq_getD_getElem?, Array.getElem?_append_left (by simpa using hi2)]
    simp [h1]
   rw [e2]; exact h2
  ·rw [if_neg hi]; trivial
 ·show Nat.add args.length (Nat.sub fn.ntmps args.length) = _
  simp [hlen]
 ·intro i hi d
  have hi' : bit (Nat.lor (maskOf fn) (Nat.sub (Nat.pow 2 args.length) 1)) i = false := hi
  rw [bit_eq] at hi'
  have : ((maskOf fn) ||| (2 ^ args.length - 1)).testBit i = false := hi'
  rw [Nat.testBit_or, Nat.testBit_two_pow_sub_one] at this
  simp at this
  show assoc (numbered args 0) d i = d
  rw [numbered_get, if_neg (by omega)]
theorem mapM_toList {α β : Type} (f : α → Sem β) (xs : Array α) : xs.mapM f = (do let l ← xs.toList.mapM f; pure l.toArray) := by
 rw [Array.mapM_eq_mapM_toList]; rfl
def resM (tmps : Array Value) : ResultVar → Sem Value := fun
  | .tmp t => pure (tmps.getD t undef)
  | .cell a t => do loadVar t (← asAddr (tmps.getD a undef))
theorem resList_rel {σ : Places} {s : St} {w : World} (hr : Rel P σ s.heap w) {tmps : Array Value} (he : EnvRel σ s.env tmps) : ∀ {l : List ResultVar} {vs : List HVal}, resList P s l = some vs →
  ∃ us, (l.mapM (resM tmps)).run P w = .ok us w ∧ VRels σ vs us
 | [], vs, e => by
  simp only [resList, Option.some.injEq] at e
  subst e
  exact ⟨[], by simp, VRels.nil⟩
 | .tmp t :: l, vs, e => by
  simp only [resList] at e
  obtain ⟨ws, h1, h2⟩ := ob_eq_some.1 e
  cases h2
  obtain ⟨us, g1, g2⟩ := resList_rel hr he h1
  refine ⟨tmps.getD t undef :: us, ?_, VRels.cons (he t) g2⟩
  simp only [List.mapM_cons, Sem.run_bind, Sem.run_pure, Result.andThen_ok, g1, resM]
 | .cell a t :: l, vs, e => by
  simp only [resList] at e
  obtain ⟨p, hp, e1⟩ := ob_eq_some.1 e
  obtain ⟨v, hv, e2⟩ := ob_eq_some.1 e1
  obtain ⟨ws, h1, h2⟩ := ob_eq_some.1 e2
  cases h2
  obtain ⟨us, g1, g2⟩ := resList_rel hr he h1
  have ha := he a
  rw [isPtr_inv hp] at ha
  obtain ⟨q, hq, hav⟩ := ha
  obtain ⟨v', k1, k2⟩ := loadT_rel hr hq hv
  refine ⟨v' :: us, ?_, VRels.cons k2 g2⟩
  have h0 : (resM tmps (.cell a t)).run P w = .ok v' w := by
   simp only [resM]
   rw [hav]
   simp [asAddr, k1]
  simp only [List.mapM_cons, Sem.run_bind, Sem.run_pure, Result.andThen_ok, g1, h0]
theorem resOf_rel {σ : Places} {s : St} {w : World} (hr : Rel P σ s.heap w) {tmps : Array Value} (he : EnvRel σ s.env tmps) {fn : Func} {v : HVal} (e : resOf P fn s = some v) :
  ∃ v', (results fn tmps).run P w = .ok v' w ∧ VRel σ v v' := by
 unfold resOf at e
 obtain ⟨l, hl, e1⟩ := ob_eq_some.1 e
 obtain ⟨us, g1, g2⟩ := resList_rel hr he hl
 have hlen := g2.length
 have key : ∀ z, z = (if h : us.toArray.size = 1 then us.toArray[0] else Value.tuple us.toArray) → (results fn tmps).run P w = .ok z w := by
  rintro z rfl
  show ((do let vs ← fn.results.mapM (resM tmps); pure (if h : vs.size = 1 then vs[0] else .tuple vs)) : Sem Value).run P w = _
  rw [mapM_toList]
  simp only [Sem.run_bind]
  rw [g1]
  simp
 rcases l with _ | ⟨x, _ | ⟨x', l⟩⟩ <;> rcases us with _ | ⟨y, _ | ⟨y', us⟩⟩ <;> simp only [List.length_cons, List.length_nil] at hlen <;> try omega
 ·simp only at e1; cases e1
  exact ⟨.tuple #[], key _ (by simp), ⟨[], rfl, g2⟩⟩
 ·simp only at e1; cases e1
  obtain ⟨y', m, h1, h2, h3⟩ := g2.cons_inv
  cases h1
  exact ⟨y, key y (by simp), h2⟩
 ·simp only at e1; cases e1
  exact ⟨_, key _ rfl, ⟨_, by simp, g2⟩⟩
theorem settled_rel {τ : Places} {p : Pan} {u : FrameMode} (h : PanRel τ true p u) : PanRel τ true p.settled (settle u) := by
 cases p with
 | none => exact h
 | calm => have h' : u = .returning := h; subst h'; exact rfl
 | on v => obtain ⟨v', hv, rfl⟩ := h; exact ⟨v', hv, rfl⟩
 | done v => obtain ⟨v', hv, rfl⟩ := h; exact rfl
theorem PanRel.not_run {τ : Places} {p : Pan} {u : FrameMode} (h : PanRel τ true p u) : u ≠ .run := by
 cases p with
 | none => exact h.elim
 | calm => have h' : u = .returning := h; subst h'; simp
 | on v => obtain ⟨v', hv, rfl⟩ := h; simp
 | done v => obtain ⟨v', hv, rfl⟩ := h; simp
theorem leave_rel {run : Code → St → Res} (hr : Sound P run) {fn : Func} {tmps : Array Value} {cr : CRes} {h' : Heap} {σ₀ : Places} {h₀ : Heap} {w₀ : World} :
  ∀ (ds : List (Nat × List HVal)) (p : Pan) (s : St), leaveH P run fn ds p s = some (cr, h') → ∀ (σ : Places) (w : World) (ds' : List Deferred) (u : FrameMode), Step P σ₀ h₀ w₀ σ s.heap w →
   EnvRel σ s.env tmps → DefRel σ ds ds' → PanRel σ true p u → LeavesM P fn tmps (fun e w' => ∃ τ, Step P σ₀ h₀ w₀ τ h' w' ∧ CRel τ cr e) ds' u w
 | [], p, s, e, σ, w, ds', u, hs, he, hd, hp => by
  have hd' : ds' = [] := hd
  subst hd'
  simp only [leaveH] at e
  cases p with
  | none => cases e
  | calm =>
   simp only at e
   obtain ⟨v, hv, e1⟩ := ob_eq_some.1 e
   cases e1
   have h' : u = .returning := hp
   subst h'
   obtain ⟨v', g1, g2⟩ := resOf_rel hs.rel he hv
   exact ⟨v', g1, σ, hs, v', rfl, g2⟩
  | on v =>
   simp only at e
   cases e
   obtain ⟨v', hv, rfl⟩ := hp
   exact ⟨σ, hs, v', rfl, hv⟩
  | done v => cases e
 | d :: ds, p, s, e, σ, w, ds', u, hs, he, hd, hp => by
  cases hmk : markOf d.2 with
  | some k =>
   simp only [DefRel, hmk] at hd
   simp only [leaveH, hmk] at e
   obtain ⟨q, m, rfl, hq, hm⟩ := hd
   obtain ⟨o, ho, e1⟩ := ob_eq_some.1 e
   cases o <;> simp only at e1 <;> try (cases e1; done)
   have hb : w.heap[q.blk]? = some (.deferred (some [])) := hs.rel.obj k _ q ho rfl hq
   have hst : Step P σ s.heap w σ (s.heap.put k .dead) (w.putObj q.blk (.deferred none)) :=
    Step.put hs.rel ho rfl hq trivial (fun b hb => World.putObj_heap_other hb) World.putObj_size rfl rfl rfl
   exact ⟨hp.not_run, .inl ⟨q.blk, _, rfl, run_takeDeferred hb, leave_rel hr ds p _ e1 σ _ m u (hs.trans hst) he hm hp⟩⟩
  | none =>
  simp only [DefRel, hmk] at hd
  obtain ⟨dargs, cap, m, rfl, hv, hm⟩ := hd
  simp only [leaveH, hmk] at e
  obtain ⟨g, hg, e1⟩ := ob_eq_some.1 e
  obtain ⟨c, hc, e2⟩ := ob_eq_some.1 e1
  obtain ⟨hn, e3⟩ := bcase_none_eq_some.1 e2
  obtain ⟨_, e4⟩ := bcase_none_eq_some.1 e3
  obtain ⟨r, hrun, e5⟩ := ob_eq_some.1 e4
  clear e e1 e2 e3 e4
  have hn' : g.name ≠ "runtime.NumGoroutine" := by simpa using hn
  have hinv : (invoke (.fn (.func d.1) ⟨cap⟩) ⟨dargs⟩).run P w = .ok (.enter d.1 ⟨dargs ++ cap⟩) w := by
   simp [invoke, callFunc, hg, hn', hc]
  refine ⟨hp.not_run, .inr ⟨.func d.1, ⟨cap⟩, d.1, ⟨dargs ++ cap⟩, rfl, hinv, ?_⟩⟩
  refine callsD_of_wpS hg hc ?_
  intro c₀ cs hu b k hb hro
  have hF : KindF true (fun u => ({ c₀ with mode := u } : Frame) :: cs) := ⟨c₀, cs, rfl⟩
  have hc₀ : ({ c₀ with mode := u } : Frame) = c₀ := by subst hu; rfl
  obtain ⟨x, a', u', w', ⟨τ, hst, hx, f⟩, harr⟩ := (hr c (enterSt g d.2 s.heap p) r hrun σ true _ _ u w hF hs.rel (enter_rel hv hp)).code b k fun _ => ⟨hb, hro⟩
  simp only [hc₀] at harr
  obtain ⟨ex, s'⟩ := r
  have hdn : s'.defers = [] := by
   cases hsd : s'.defers with
   | nil => rfl
   | cons y l => simp only [hsd] at e5; cases e5
  simp only [hdn] at e5
  have hda : a'.defers = [] := by have := f.defs; rw [hdn] at this; exact this
  have next : ∀ hh, ob (resOf P g s') (fun _ => leaveH P run fn ds s'.pan.settled (s.mem s'.heap)) = some hh → hh = (cr, h') → ∃ v, (results g a'.tmps).run P w' = .ok v w' ∧
    LeavesM P fn tmps (fun e w' => ∃ τ, Step P σ₀ h₀ w₀ τ h' w' ∧ CRel τ cr e) m (settle u') w' := by
   rintro hh e6 rfl
   obtain ⟨v, hv, e7⟩ := ob_eq_some.1 e6
   obtain ⟨v', g1, _⟩ := resOf_rel hst.rel f.env hv
   exact ⟨v', g1, leave_rel hr ds _ _ e7 τ w' m (settle u') (hs.trans hst) (he.mono hst.le) (hm.mono hst.le) (settled_rel f.pan)⟩
  cases ex with
  | nrm =>
   have hx' : x = .normal := hx
   subst hx'
   obtain ⟨v, g1, g2⟩ := next _ e5 rfl
   exact ⟨.normal, a', _, w', ⟨hda, u', rfl, v, g1, g2⟩, harr⟩
  | ret =>
   have hx' : x = .ret := hx
   subst hx'
   obtain ⟨v, g1, g2⟩ := next _ e5 rfl
   exact ⟨.ret, a', _, w', ⟨hda, u', rfl, v, g1, g2⟩, harr⟩
  | exit id => cases e5
  | pan v => cases e5
theorem callFun_sound {run : Code → St → Res} (hr : Sound P run) {f : Nat} {args : List HVal} {h h' : Heap} {cr : CRes} (e : callFun P run f args h = some (cr, h')) {σ : Places} {w : World} {vs : List Value} (r : Rel P σ h w) (hv : VRels σ args vs) :
  Calls P f ⟨vs⟩ w fun e w' => ∃ τ, Step P σ h w τ h' w' ∧ CRel τ cr e := by
 unfold callFun at e
 obtain ⟨fn, hf, e1⟩ := ob_eq_some.1 e
 obtain ⟨c, hc, e2⟩ := ob_eq_some.1 e1
 obtain ⟨q, hrun, e3⟩ := ob_eq_some.1 e2
 clear e e1 e2
 refine calls_of_arrives hf hc ?_
 intro b cs
 have hF : KindF false (fun _ => cs) := ⟨cs, rfl⟩
 obtain ⟨x, a', u', w', ⟨τ, hst, hx, f⟩, harr⟩ := (hr c (enterSt fn args h .none) q hrun σ false _ _ .returning w hF r (enter_rel hv trivial)).code b [] (by simp)
 obtain ⟨ex, s'⟩ := q
 cases ex with
 | nrm =>
  have hx' : x = .normal := hx
  subst hx'
  exact ⟨.normal, a', w', leave_rel hr _ _ _ e3 τ w' _ _ hst f.env f.defs rfl, harr⟩
 | ret =>
  have hx' : x = .ret := hx
  subst hx'
  exact ⟨.ret, a', w', leave_rel hr _ _ _ e3 τ w' _ _ hst f.env f.defs rfl, harr⟩
 | exit id => cases e3
 | pan v =>
  obtain ⟨v', rfl, hv'⟩ := hx
  exact ⟨.panic _, a', w', leave_rel hr _ _ _ e3 τ w' _ _ hst f.env f.defs ⟨v', hv', rfl⟩, harr⟩
theorem calls_sound {run : Code → St → Res} (hr : Sound P run) : CallSound P (callWith P run) := by
 intro f args h cr h' e σ w vs r hv
 unfold callWith at e
 rw [nblt, bcE] at e
 by_cases hf : f < roundNo
 ·rw [if_pos (by simpa using hf)] at e
  exact ⟨fun _ => callFun_sound hr e r hv, fun hge => absurd hf (Nat.not_lt.2 hge)⟩
 ·rw [if_neg (by simpa using hf)] at e
  exact ⟨fun hlt => absurd hlt hf, fun _ p hp => round_go e r hv hp⟩
theorem callOr_sound {K c : CallFn} (hk : CallSound P K) (hc : CallSound P c) : CallSound P (callOr K c) := by
 intro f args h cr h' e
 unfold callOr at e
 cases hh : K f args h with
 | some x => rw [hh] at e; exact hk f args h cr h' (hh.trans e)
 | none => rw [hh] at e; exact hc f args h cr h' e
def noneK : CallFn := fun _ _ _ => none
theorem noneK_sound : CallSound P noneK := by
 intro f args h cr h' e
 cases e
theorem stepC_sound {K : CallFn} (hk : CallSound P K) {ih : Code → St → Res} (hi : Sound P ih) : Sound P (stepC P K ih) := by
 intro c s r he σ dfr F a u w hF hr f
 cases c with
 | skip =>
  simp only [stepC] at he; cases he
  exact fun b k _ => ⟨.normal, a, u, w, ⟨σ, Step.refl hr, rfl, f⟩, .one step_skip⟩
 | label l =>
  simp only [stepC] at he; cases he
  exact fun b k _ => ⟨.normal, a, u, w, ⟨σ, Step.refl hr, rfl, f⟩, .one step_label⟩
 | region id ops draw =>
  simp only [stepC] at he
  cases draw with
  | false =>
   rw [bcF] at he
   obtain ⟨r0, h1, h2⟩ := ob_eq_some.1 he
   exact region_goes (callOr_sound hk (calls_sound hi)) hF h1 hr f fun x a' u' w' h => flushed_rel h2 h
  | true =>
   rw [bcT] at he
   obtain ⟨hp, he'⟩ := bcase_eq_some.1 he
   obtain ⟨q, h1, he''⟩ := ob_eq_some.1 he'
   obtain ⟨r0, h2, h3⟩ := ob_eq_some.1 he''
   exact goes_of_wp (wp_mono (draw_wp (gate_sound (callOr_sound hk (calls_sound hi))) (gate_noRounds _) hp h1 h2 hr f) fun x a' w' h => flushed_rel h3 h)
 | seq x y =>
  simp only [stepC] at he
  obtain ⟨r1, h1, h2⟩ := ob_eq_some.1 he
  intro b k hb
  obtain ⟨e, a₁, u₁, w₁, ⟨τ, hs, hx, f₁⟩, harr⟩ := (hi x s r1 h1 σ dfr F a u w hF hr f).code b (.code y :: k) hb
  obtain ⟨ex, s₁⟩ := r1
  cases ex with
  | nrm =>
   simp only at h2 hs hx f₁
   have hx' : e = .normal := hx
   subst hx'
   obtain ⟨e₂, a₂, u₂, w₂, hq, harr₂⟩ := (hi y s₁ r h2 τ dfr F a₁ u₁ w₁ hF hs.rel f₁).code b k hb
   exact ⟨e₂, a₂, u₂, w₂, hq.trans hs, .of_steps (.head step_seq harr) harr₂⟩
  | exit id =>
   simp only at h2; cases h2
   have hx' : e = .exit id := hx
   subst hx'
   exact ⟨_, a₁, u₁, w₁, ⟨τ, hs, rfl, f₁⟩, .of_steps (.one step_seq) (.pass (x := .code y) rfl (fun _ _ => .inl (by simp)) harr)⟩
  | ret =>
   simp only at h2; cases h2
   have hx' : e = .ret := hx
   subst hx'
   exact ⟨_, a₁, u₁, w₁, ⟨τ, hs, rfl, f₁⟩, .of_steps (.one step_seq) (.pass (x := .code y) rfl (fun _ _ => .inl (by simp)) harr)⟩
  | pan v =>
   simp only at h2; cases h2
   obtain ⟨v', rfl, hv⟩ := hx
   exact ⟨_, a₁, u₁, w₁, ⟨τ, hs, ⟨v', rfl, hv⟩, f₁⟩, .of_steps (.one step_seq) (.pass (x := .code y) rfl (fun _ _ => .inl (by simp)) harr)⟩
 | cond c x y =>
  simp only [stepC] at he
  obtain ⟨t, ht, h2⟩ := ob_eq_some.1 he
  have hc := eval_rel (P := P) hr (l := opLooks [c]) (looks_of_env f.env _) c
  have hc' : VRel σ (s.env.eval P c) (a.eval c) := by
   cases c with
   | tmp t => simpa [only, opLooks] using hc
   | const v => exact hc
   | global v => exact hc
   | func v => exact hc
  rw [isBool_inv ht] at hc'
  have hc'' : a.eval c = .bool t := hc'
  intro b k hb
  cases t with
  | true =>
   obtain ⟨e, a₁, u₁, w₁, hq, harr⟩ := (hi x s r h2 σ dfr F a u w hF hr f).code b k hb
   exact ⟨e, a₁, u₁, w₁, hq, .of_steps (.one (step_cond hc'')) harr⟩
  | false =>
   obtain ⟨e, a₁, u₁, w₁, hq, harr⟩ := (hi y s r h2 σ dfr F a u w hF hr f).code b k hb
   exact ⟨e, a₁, u₁, w₁, hq, .of_steps (.one (step_cond hc'')) harr⟩
 | block id c =>
  simp only [stepC] at he
  obtain ⟨r1, h1, h2⟩ := ob_eq_some.1 he
  intro b k hb
  obtain ⟨e, a₁, u₁, w₁, ⟨τ, hs, hx, f₁⟩, harr⟩ := (hi c s r1 h1 σ dfr F a u w hF hr f).code b (.inBlock id :: k) hb
  obtain ⟨ex, s₁⟩ := r1
  cases ex with
  | nrm =>
   simp only at h2; cases h2
   have hx' : e = .normal := hx
   subst hx'
   exact ⟨.normal, a₁, u₁, w₁, ⟨τ, hs, rfl, f₁⟩, .head step_block (Steps.trans harr (.one step_inBlock))⟩
  | exit id' =>
   simp only at h2
   have hx' : e = .exit id' := hx
   subst hx'
   rw [bcE, nbeq] at h2
   by_cases hid : id' = id
   ·simp only [hid, decide_true, if_true] at h2
    cases h2
    exact ⟨.normal, a₁, u₁, w₁, ⟨τ, hs, rfl, f₁⟩, .head step_block (harr k (by simp [exitTo, hid]))⟩
   ·simp only [hid, decide_false, Bool.false_eq_true, if_false] at h2
    cases h2
    refine ⟨.exit id', a₁, u₁, w₁, ⟨τ, hs, rfl, f₁⟩, fun k' hk => .head step_block (harr k' ?_)⟩
    have : (id == id') = false := by simp; exact fun h => hid h.symm
    simp [exitTo, this, hk]
  | ret =>
   simp only at h2; cases h2
   have hx' : e = .ret := hx
   subst hx'
   exact ⟨_, a₁, u₁, w₁, ⟨τ, hs, rfl, f₁⟩, .of_steps (.one step_block) harr⟩
  | pan v =>
   simp only at h2; cases h2
   obtain ⟨v', rfl, hv⟩ := hx
   exact ⟨_, a₁, u₁, w₁, ⟨τ, hs, ⟨v', rfl, hv⟩, f₁⟩, .of_steps (.one step_block) harr⟩
 | loop c =>
  simp only [stepC] at he
  obtain ⟨r1, h1, h2⟩ := ob_eq_some.1 he
  intro b k hb
  obtain ⟨e, a₁, u₁, w₁, ⟨τ, hs, hx, f₁⟩, harr⟩ := (hi c s r1 h1 σ dfr F a u w hF hr f).code b (.inLoop c :: k) hb
  obtain ⟨ex, s₁⟩ := r1
  cases ex with
  | nrm =>
   simp only at h2 hs hx f₁
   have hx' : e = .normal := hx
   subst hx'
   obtain ⟨e₂, a₂, u₂, w₂, hq, harr₂⟩ := hi (.loop c) s₁ r h2 τ dfr F a₁ u₁ w₁ hF hs.rel f₁ b k hb
   exact ⟨e₂, a₂, u₂, w₂, hq.trans hs, .of_steps (Steps.trans harr (.one step_inLoop)) harr₂⟩
  | exit id =>
   simp only at h2; cases h2
   have hx' : e = .exit id := hx
   subst hx'
   exact ⟨_, a₁, u₁, w₁, ⟨τ, hs, rfl, f₁⟩, .pass (x := .inLoop c) rfl (fun _ _ => .inl (by simp)) harr⟩
  | ret =>
   simp only at h2; cases h2
   have hx' : e = .ret := hx
   subst hx'
   exact ⟨_, a₁, u₁, w₁, ⟨τ, hs, rfl, f₁⟩, .pass (x := .inLoop c) rfl (fun _ _ => .inl (by simp)) harr⟩
  | pan v =>
   simp only at h2; cases h2
   obtain ⟨v', rfl, hv⟩ := hx
   exact ⟨_, a₁, u₁, w₁, ⟨τ, hs, ⟨v', rfl, hv⟩, f₁⟩, .pass (x := .inLoop c) rfl (fun _ _ => .inl (by simp)) harr⟩
 | exit id =>
  simp only [stepC] at he; cases he
  exact fun b k _ => ⟨.exit id, a, u, w, ⟨σ, Step.refl hr, rfl, f⟩, fun _ hk => .one (step_exit hk)⟩
 | ret =>
  simp only [stepC] at he; cases he
  exact fun b k _ => ⟨.ret, a, u, w, ⟨σ, Step.refl hr, rfl, f⟩, _, .one step_ret⟩
 | goto l => simp only [stepC] at he; cases he
 | scope c => simp only [stepC] at he; cases he
 | refuse y => simp only [stepC] at he; cases he
 | rangeFunc g ps x y =>
  simp only [stepC] at he
  exact rangeFunc_goes (callOr_sound hk (calls_sound hi)) he hr f
theorem exec_sound {K : CallFn} (hk : CallSound P K) (n : Nat) : Sound P (execH P K n) := by
 induction n with
 | zero => intro c s r e; cases e
 | succ n ih => exact stepC_sound hk ih
theorem run_sound {K : CallFn} (hk : CallSound P K) (n : Nat) : CallSound P (runH P K n) := calls_sound (exec_sound hk n)
end
end Go.HL
