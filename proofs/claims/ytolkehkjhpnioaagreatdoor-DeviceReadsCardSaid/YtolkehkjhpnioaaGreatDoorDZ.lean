/- What is known beforehand; the argument laid into memory. No statement of the seat stands here. -/
import Derived.Test.YtolkehkjhpnioaaGreatDoorTb
import Derived.Test.YtolkehkjhpnioaaGreatDoorDA
import Derived.KernelRfl
import Derived.Test.YtolkehkjhpnioaaGreatDoorDB
import Derived.Test.YtolkehkjhpnioaaGreatDoorEnt19
import Derived.Test.YtolkehkjhpnioaaGreatDoorSC
import Derived.Test.YtolkehkjhpnioaaGreatDoorXA
import Derived.Test.YtolkehkjhpnioaaGreatDoorChecked
set_option linter.unusedVariables false
set_option linter.unusedSimpArgs false
namespace Go.HL
open Go
set_option maxRecDepth 1000000
noncomputable section
def entC : Ent := {
 f := 18,
 args := [],
 next := 11,
 hin := [],
 res := (.map 11),
 next' := 12,
 hout := [(11, Dr.cmdsO)] }
theorem entC_ok : provedBy (runF Go.Proofs.Tryz.prog tb noneK 100000) entC = true := by kernel_rfl
theorem entC_fine : Fine Go.Proofs.Tryz.prog entC := fine_of_run noneK_sound entC_ok
end
end Go.HL
namespace Go.HL
open Go Go.Proofs
noncomputable section
section
variable {P : Program}
theorem rooted_mapR {e : Ent} (r : Rooted P e) {k0 : Nat} {ob : HObj} (hres : e.res = .map k0) (hob : findK e.hout k0 = some ob) (hlive : ob.live = true) (hrel : ∀ {σ τ : Places} {p : Place} {b : Option Obj}, ORel P σ p ob b → ORel P τ p ob b) (how : ob.owned = true) {h : Heap} (hs : ∀ p ∈ e.hin, h.get p.1 = some p.2) {σ : Places} {w : World} (hr : Rel P σ h w) :
  Calls P e.f #[] w fun x w' => ∃ σ', Step P σ h w σ' (h.new ob) w' ∧ CRel σ' (.ret (.map h.next)) x := by
 refine (rooted_run r hs hr).mono fun x w' ⟨τ, h1, st, hcr, hout, hno⟩ => ?_
 have hk : ∀ b, b < w.heap.size → w'.heap[b]? = w.heap[b]? := fun b hb => st.kept.block b hb (hno b)
 rw [hres] at hcr
 obtain ⟨v, hv, p, hp, hvp⟩ := hcr
 have hor : ORel P τ p ob w'.heap[p.blk]? := st.rel.obj k0 ob p (hout k0 ob hob) hlive hp
 have hge : w.heap.size ≤ p.blk := by
  apply Nat.le_of_not_lt
  intro hlt
  exact hno _ (st.own p.blk hlt ⟨k0, ob, p, hout k0 ob hob, how, hp, rfl⟩)
 have hn : σ h.next = none := hr.fresh h.next (Nat.le_refl _)
 let σ' : Places := fun k => if k = h.next then some p else σ k
 have hσn : σ' h.next = some p := if_pos rfl
 have hσo : ∀ k, k ≠ h.next → σ' k = σ k := fun k hk => if_neg hk
 have hle : σ.le σ' := fun k q hq => by
  have : k ≠ h.next := by rintro rfl; rw [hn] at hq; cases hq
  rw [hσo k this]; exact hq
 have hgn : (h.new ob).get h.next = some ob := by simp
 have hgo : ∀ k, k ≠ h.next → (h.new ob).get k = h.get k := fun k hk => by simp [hk]
 refine ⟨σ', ⟨hle, ⟨?_, ?_, ?_, ?_, ?_, ?_⟩, ⟨st.kept.os, st.kept.tape, st.kept.output, st.kept.size, fun b hb _ => hk b hb⟩, ?_, Nat.le_succ _, fun k hk => hσo k (by omega), fun k hk _ => hgo k (by omega)⟩, v, hv, p, hσn, hvp⟩
 ·intro k o q hk' hl hq
  by_cases hkn : k = h.next
  ·subst hkn
   rw [hgn] at hk'; rw [hσn] at hq
   cases hk'; cases hq
   exact hrel hor
  ·rw [hgo k hkn] at hk'; rw [hσo k hkn] at hq
   rw [hk q.blk (hr.inb k q hq)]
   exact (hr.obj k o q hk' hl hq).mono hle
 ·intro k hk'
  have hk' : h.next + 1 ≤ k := hk'
  rw [hσo k (by omega)]; exact hr.fresh k (by omega)
 ·intro k o hk'
  show k < h.next + 1
  by_cases hkn : k = h.next
  ·omega
  ·rw [hgo k hkn] at hk'; have := hr.dom k o hk'; omega
 ·intro k q hq
  by_cases hkn : k = h.next
  ·subst hkn; rw [hσn] at hq; cases hq; exact st.rel.inb k0 p hp
  ·rw [hσo k hkn] at hq; exact Nat.lt_of_lt_of_le (hr.inb k q hq) st.kept.size
 ·intro k k' o o' q q' h1' h2' ho hl hne hq hq'
  by_cases hkn : k = h.next
  ·subst hkn
   rw [hσn] at hq; cases hq
   have hkn' : k' ≠ h.next := fun e => hne e.symm
   rw [hσo k' hkn'] at hq'
   have := hr.inb k' q' hq'
   omega
  ·rw [hσo k hkn] at hq
   by_cases hkn' : k' = h.next
   ·subst hkn'
    rw [hσn] at hq'; cases hq'
    have := hr.inb k q hq
    omega
   ·rw [hσo k' hkn'] at hq'; rw [hgo k hkn] at h1'; rw [hgo k' hkn'] at h2'
    exact hr.inj k k' o o' q q' h1' h2' ho hl hne hq hq'
 ·intro g hg
  obtain ⟨q, h1', h2'⟩ := hr.glob g hg
  exact ⟨q, hle _ _ h1', h2'⟩
 ·rintro b hb ⟨k, o, q, hk', ho, hq, hqb⟩
  by_cases hkn : k = h.next
  ·subst hkn; rw [hσn] at hq; cases hq; omega
  ·rw [hgo k hkn] at hk'; rw [hσo k hkn] at hq
   exact ⟨k, o, q, hk', ho, hq, hqb⟩
end
namespace Dr
def base : List (Nat × HObj) := [(0, powO), (3, lenO), (4, tab4O), (8, tab8O)]
theorem lies_at {h : Heap} (hb : (lies base).holds h) {g : Nat} {o : HObj} (hm : (g, o) ∈ base) : h.get g = some o := hb (g, o) hm
theorem lies_0 {h : Heap} (hb : (lies base).holds h) : h.get 0 = some powO := lies_at hb (by simp [base])
theorem lies_3 {h : Heap} (hb : (lies base).holds h) : h.get 3 = some lenO := lies_at hb (by simp [base])
theorem lies_4 {h : Heap} (hb : (lies base).holds h) : h.get 4 = some tab4O := lies_at hb (by simp [base])
theorem lies_8 {h : Heap} (hb : (lies base).holds h) : h.get 8 = some tab8O := lies_at hb (by simp [base])
theorem sizeG : Tryz.prog.globals.size = 11 := by kernel_rfl
theorem u8s_closed : ∀ l : List Nat, ∀ x ∈ u8s l, closedV x = true
 | [], x, h => by cases h
 | _ :: l, x, h => by
  rcases List.mem_cons.1 h with rfl | h
  ·rfl
  ·exact u8s_closed l x h
theorem root19 : Rooted P ent19 := by
 refine ⟨ent19_fine, rfl, sizeG.symm, fun p hp => ?_⟩
 have hp : p ∈ [(4, tab4O), (8, tab8O)] := hp
 simp only [List.mem_cons, List.not_mem_nil, or_false] at hp
 rcases hp with rfl | rfl
 ·exact ⟨rfl, .cells (u8s_closed _), by rw [show P.globals.size = 11 from sizeG]; decide⟩
 ·exact ⟨rfl, .cells (u8s_closed _), by rw [show P.globals.size = 11 from sizeG]; decide⟩
theorem rootC : Rooted P entC := ⟨entC_fine, rfl, sizeG.symm, fun p hp => by cases hp⟩
theorem cmdE_rel {σ τ : Places} {n : List Nat} {a b c : Int} {l : Bool} {f i : Nat} {y : MapEntry} (h : ERel σ (cmdE n a b c l f i) y) : ERel τ (cmdE n a b c l f i) y := by
 obtain ⟨h1, h2, h3⟩ := h
 refine ⟨closedV_rel rfl h1, ?_, h3⟩
 obtain ⟨m, e, hv, hs⟩ := h2
 refine ⟨m, e, ?_, hs⟩
 obtain ⟨v1, m, rfl, g1, hv⟩ := hv.cons_inv
 obtain ⟨v2, m, rfl, g2, hv⟩ := hv.cons_inv
 obtain ⟨v3, m, rfl, g3, hv⟩ := hv.cons_inv
 obtain ⟨v4, m, rfl, g4, hv⟩ := hv.cons_inv
 obtain ⟨v5, m, rfl, g5, hv⟩ := hv.cons_inv
 have := hv.nil_inv
 subst this
 obtain ⟨a', b', e5, ha, hb⟩ := g5
 have ea := ha.nil_inv
 have eb := hb.nil_inv
 subst ea eb e5
 exact VRels.cons g1 (VRels.cons g2 (VRels.cons g3 (VRels.cons g4 (VRels.cons ⟨[], [], rfl, VRels.nil, VRels.nil⟩ VRels.nil))))
theorem erels_cmd {σ τ : Places} : ∀ {l : List HEnt}, (∀ x ∈ l, ∃ n a b c k f i, x = cmdE n a b c k f i) → ∀ {m : List MapEntry}, ERels σ l m → ERels τ l m
 | [], _, m, h => h
 | x :: l, hx, m, ⟨y, m', e, he, h'⟩ => by
  obtain ⟨n, a, b, c, k, f, i, ex⟩ := hx x (by simp)
  subst ex
  exact ⟨y, m', e, cmdE_rel he, erels_cmd (fun z hz => hx z (by simp [hz])) h'⟩
theorem cmds_ent : ∀ x ∈ cmdsE, ∃ n a b c k f i, x = cmdE n a b c k f i := by
 intro x hx
 unfold cmdsE at hx
 simp only [List.mem_cons, List.not_mem_nil, or_false] at hx
 rcases hx with rfl | rfl | rfl | rfl | rfl | rfl | rfl | rfl | rfl | rfl | rfl | rfl <;> exact ⟨_, _, _, _, _, _, _, rfl⟩
theorem cmds_rel {σ τ : Places} {p : Place} {b : Option Obj} (h : ORel P σ p cmdsO b) : ORel P τ p cmdsO b := by
 obtain ⟨es', e1, e2⟩ := h
 exact ⟨es', e1, erels_cmd cmds_ent e2⟩
def ItoaIs (args : List HVal) (h : Heap) (v : HVal) : Prop := ∃ n : Int, args = [.int .i64 n] ∧ (-9223372036854775808 ≤ n ∧ n ≤ 9223372036854775807) ∧ (lies base).holds h ∧ v = strB (decI n)
def FmtIs (args : List HVal) (h : Heap) (v : HVal) : Prop := ∃ n : Int, args = [.int .i64 n, .int .i64 10] ∧ (-9223372036854775808 ≤ n ∧ n ≤ 9223372036854775807) ∧ (lies base).holds h ∧ v = strB (decI n)
def ParseIs (args : List HVal) (h : Heap) (v : HVal) : Prop := ∃ b n, args = [strB b, .int .i64 10, .int .i64 32] ∧ (∀ x ∈ b, x < 256) ∧ b.length ≤ 1000000 ∧ Lib.parseIntB 32 (b.map UInt8.ofNat) = .ok n ∧ v = .tuple [.int .i64 n, .nili]
theorem ParseIs.eq {args : List HVal} {h : Heap} {v v' : HVal} (a : ParseIs args h v) (b : ParseIs args h v') : v = v' := by
 obtain ⟨b, n, rfl, hb, _, e1, rfl⟩ := a
 obtain ⟨b', n', e, hb', _, e2, rfl⟩ := b
 injection e with e3
 rw [strB_inj hb hb' e3, e2] at e1
 cases e1
 rfl
open Classical in
def K0 : CallFn := fun f args h =>
 if f = 18 then (if args = [] then some (.ret (.map h.next), h.new cmdsO) else none)
 else if f = 4 then (if (lies base).holds h ∧ args = [] then some (.ret (.bool true), h) else none)
 else if f = 15 then (if p : ∃ v, ItoaIs args h v then some (.ret p.choose, h) else none)
 else if f = 43 then (if p : ∃ v, JoinIs args h v then some (.ret p.choose, h) else none)
 else if f = 21 then (if p : ∃ r, SplitIs args h r then some p.choose else none)
 else if f = 23 then (if p : ∃ v, ParseIs args h v then some (.ret p.choose, h) else none)
 else if f = 24 then (if p : ∃ v, FmtIs args h v then some (.ret p.choose, h) else none)
 else none
theorem k0_none {f : Nat} {a : List HVal} {h : Heap} (n1 : f ≠ 18) (n2 : f ≠ 4) (n3 : f ≠ 15) (n4 : f ≠ 43) (n5 : f ≠ 21) (n6 : f ≠ 23) (n7 : f ≠ 24) : K0 f a h = none := by
 unfold K0
 rw [if_neg n1, if_neg n2, if_neg n3, if_neg n4, if_neg n5, if_neg n6, if_neg n7]
theorem k0_known : KD base K0 := by
 refine ⟨fun f h8 hl a h => ?_, fun h hb => ?_, fun h hb => ?_, fun h n hb h1 h2 => ?_, fun h n hb h1 h2 => ?_, fun h s l hne hbb hl hll hr => ?_, fun h b c hb hby hc hl => ?_, fun h b v hby hl hp => ?_⟩
 ·refine k0_none ?_ ?_ ?_ ?_ ?_ ?_ ?_ <;> (rintro rfl; exact absurd hl (by decide))
 ·unfold K0
  rw [if_neg (by decide), if_pos rfl, if_pos ⟨hb, rfl⟩]
 ·unfold K0
  rw [if_pos rfl, if_pos rfl]
 ·have p : ∃ v, ItoaIs [.int .i64 n] h v := ⟨_, n, rfl, ⟨by omega, by omega⟩, hb, rfl⟩
  unfold K0
  rw [if_neg (by decide), if_neg (by decide), if_pos rfl, dif_pos p]
  obtain ⟨m, e, _, _, hv⟩ := p.choose_spec
  injection e with e
  injection e with _ e
  rw [hv, ← e]
 ·have p : ∃ v, FmtIs [.int .i64 n, .int .i64 10] h v := ⟨_, n, rfl, ⟨by omega, by omega⟩, hb, rfl⟩
  unfold K0
  rw [if_neg (by decide), if_neg (by decide), if_neg (by decide), if_neg (by decide), if_neg (by decide), if_neg (by decide), if_pos rfl, dif_pos p]
  obtain ⟨m, e, _, _, hv⟩ := p.choose_spec
  injection e with e
  injection e with _ e
  rw [hv, ← e]
 ·have hj : JoinIs [s, .str 1 32] h (strB (joinT l)) := ⟨s, l, rfl, hne, hbb, hl, hll, hr, rfl⟩
  have p : ∃ v, JoinIs [s, .str 1 32] h v := ⟨_, hj⟩
  unfold K0
  rw [if_neg (by decide), if_neg (by decide), if_neg (by decide), if_pos rfl, dif_pos p, JoinIs.eq p.choose_spec hj]
 ·have hj : SplitIs [strB b, .str 1 c] h (.ret (.slice h.next 0 (cutAt c b).length (some (cutAt c b).length)), h.new (.cells ((cutAt c b).map strB) 9 false true)) := ⟨b, c, rfl, hby, hc, hl, lies_3 hb, rfl⟩
  have p : ∃ r, SplitIs [strB b, .str 1 c] h r := ⟨_, hj⟩
  unfold K0
  rw [if_neg (by decide), if_neg (by decide), if_neg (by decide), if_neg (by decide), if_pos rfl, dif_pos p, SplitIs.eq p.choose_spec hj]
 ·have hj : ParseIs [strB b, .int .i64 10, .int .i64 32] h (.tuple [.int .i64 v, .nili]) := ⟨b, v, rfl, hby, hl, hp, rfl⟩
  have p : ∃ v, ParseIs [strB b, .int .i64 10, .int .i64 32] h v := ⟨_, hj⟩
  unfold K0
  rw [if_neg (by decide), if_neg (by decide), if_neg (by decide), if_neg (by decide), if_neg (by decide), if_pos rfl, dif_pos p, ParseIs.eq p.choose_spec hj]
theorem gsize (n : Nat) (h : n < 11) : n < P.globals.size := by rw [show P.globals.size = 11 from sizeG]; exact h
theorem k0_sound : CallSound P K0 := by
 intro f args h r h' e
 unfold K0 at e
 intro σ w vs hr hv
 split at e
 ·rename_i hf
  subst hf
  split at e
  ·rename_i hb
   subst hb
   have hvs := hv.nil_inv
   subst hvs
   cases e
   refine ⟨fun _ => ?_, fun hge => absurd hge (by decide)⟩
   exact (rooted_mapR rootC (k0 := 11) rfl rfl rfl cmds_rel rfl (fun p hp => by cases hp) hr).mono fun x w' ⟨τ, st, hc⟩ => ⟨τ, st, hc⟩
  ·cases e
 split at e
 ·rename_i hf
  subst hf
  split at e
  ·rename_i hb
   obtain ⟨hb, rfl⟩ := hb
   have hvs := hv.nil_inv
   subst hvs
   cases e
   refine ⟨fun _ => ?_, fun hge => absurd hge (by decide)⟩
   refine (rooted_closed root19 rfl (fun p hp => ?_) hr).mono fun x w' ⟨st, hc⟩ => ⟨σ, st, hc⟩
   have hp : p ∈ [(4, tab4O), (8, tab8O)] := hp
   simp only [List.mem_cons, List.not_mem_nil, or_false] at hp
   rcases hp with rfl | rfl
   ·exact lies_4 hb
   ·exact lies_8 hb
  ·cases e
 split at e
 ·rename_i hf
  subst hf
  split at e
  ·rename_i p
   obtain ⟨n, e1, e2, e3, e4⟩ := p.choose_spec
   cases e
   refine ⟨fun _ => ?_, fun hge => absurd hge (by decide)⟩
   rw [e4]
   subst e1
   exact (itoa_sound e2.1 e2.2 hr (lies_0 e3) (gsize 0 (by decide)) hv).mono fun x w' ⟨st, hc⟩ => ⟨σ, st, hc⟩
  ·cases e
 split at e
 ·rename_i hf
  subst hf
  split at e
  ·rename_i p
   have hj := p.choose_spec
   cases e
   refine ⟨fun _ => ?_, fun hge => absurd hge (by decide)⟩
   exact (join_sound hj hr hv).mono fun x w' ⟨st, hc⟩ => ⟨σ, st, hc⟩
  ·cases e
 split at e
 ·rename_i hf
  subst hf
  split at e
  ·rename_i p
   obtain ⟨b, c, e1, e2, e3, e4, e5, e6⟩ := p.choose_spec
   have e := Option.some.inj e
   rw [e6] at e
   cases e
   refine ⟨fun _ => ?_, fun hge => absurd hge (by decide)⟩
   subst e1
   exact split_sound e2 e3 e4 hr e5 (gsize 3 (by decide)) hv
  ·cases e
 split at e
 ·rename_i hf
  subst hf
  split at e
  ·rename_i p
   obtain ⟨b, n, e1, e2, e3, e4, e5⟩ := p.choose_spec
   cases e
   refine ⟨fun _ => ?_, fun hge => absurd hge (by decide)⟩
   rw [e5]
   subst e1
   exact (parse32_sound e2 e3 e4 hr hv).mono fun x w' ⟨st, hc⟩ => ⟨σ, st, hc⟩
  ·cases e
 split at e
 ·rename_i hf
  subst hf
  split at e
  ·rename_i p
   obtain ⟨n, e1, e2, e3, e4⟩ := p.choose_spec
   cases e
   refine ⟨fun _ => ?_, fun hge => absurd hge (by decide)⟩
   rw [e4]
   subst e1
   exact (fmt_sound e2.1 e2.2 hr (lies_0 e3) (gsize 0 (by decide)) hv).mono fun x w' ⟨st, hc⟩ => ⟨σ, st, hc⟩
  ·cases e
 ·cases e
end Dr
end
end Go.HL
namespace Go.HL
open Go Go.Deep Go.Proofs
noncomputable section
section
variable {P : Program} {W : World}
theorem lift_sliceF {H : Type} {enc : TypeId × Value → H} {α : Type} {cells : α → List HVal} {Ok : Heap → α → Prop} {t e w : Nat} (ht : P.underlying t = some (.slice e)) (hw : P.cellsOf e = w) (hw0 : 0 < w) (hcells : ∀ a, (cells a).length = w) (hst : Stays Ok)
  (hby : 0 < P.bytesOf e) (helem : ∀ n cs x, DataW.trod enc P W 0 (fun _ => true) true n e cs = some x → Sz P e x.1 → Lift P W cells Ok cs) {fuel : Nat} {cs : List Value} {x : DataW H × List MemPlace} (hd : DataW.trod enc P W 0 (fun _ => true) true fuel t cs = some x) (hsz : Sz P t x.1) :
  Lift P W (fun p : List α × HVal => [p.2]) (fun h p => SliceAt h p.2 w (p.1.map cells) ∧ p.1.length ≤ 1152921504606846976 ∧ FreeAt h p.2 ∧ ∀ a ∈ p.1, Ok h a) cs := by
 rcases open_slice ht hd with ⟨rfl, _⟩ | ⟨a, len, cap, m, n, D, Pl, rfl, hb, hl, hm, hmm, hxe, hx⟩
 ·exact .here ([], .nils) (fun σ => VRels.cons rfl VRels.nil) (fun x hx => by simp at hx; subst hx; rfl) fun h => ⟨sliceAt_nils, by simp, .nils, fun a ha => by cases ha⟩
 ·have hmc : m = cap := by simpa using hmm
  subst hmc
  rw [hxe] at hsz
  obtain ⟨hz1, hz2⟩ := sz_slice ht hsz
  by_cases hl0 : len = 0
  ·subst hl0
   refine .here ([], .empty) (fun σ => VRels.cons ⟨a, m, rfl⟩ VRels.nil) (fun x hx => by simp at hx; subst hx; rfl) fun h => ⟨⟨rfl, fun i r hr => by simp at hr⟩, by simp, .empty, fun a ha => by cases ha⟩
  ·rw [hw] at hx
   obtain ⟨CS, hCS⟩ := choose_lt (α := List Value) (p := fun i c => W.cells? 0 (a.add (i * w)) w = some c ∧ DataW.trod enc P W 0 (fun _ => true) true n e c = some (D i, Pl i)) (n := len) (fun i hi => hx i (by omega))
   -- the block
   have h0 := World.cells?_some (hCS 0 (by omega)).1
   have hc0 : ∃ v, W.cell? ((a.add (0 * w)).add 0) = some v := by
    rw [h0.2.2 0 hw0]
    exact ⟨_, List.getElem?_eq_getElem (by rw [h0.2.1]; exact hw0)⟩
   have ha0 : (a.add (0 * w)).add 0 = a := by simp [Addr.add]
   rw [ha0] at hc0
   obtain ⟨v0, hv0⟩ := hc0
   have hblk : ∃ C el fr, W.heap[a.block]? = some (.cells C el fr) ∧ a.spot = none := by
    unfold World.cell? at hv0
    split at hv0
    ·rename_i C el fr hC
     refine ⟨C, el, fr, hC, ?_⟩
     cases hs : a.spot with
     | none => rfl
     | some s => rw [hs] at hv0; simp at hv0
    ·cases hv0
   obtain ⟨C, el, fr, hC, hsp⟩ := hblk
   have hrows : ∀ i, i < len → (CS i).length = w ∧ ∀ j, j < w → C.toList[a.off + i * w + j]? = (CS i)[j]? := by
    intro i hi
    obtain ⟨_, h1, h2⟩ := World.cells?_some (hCS i hi).1
    refine ⟨h1, fun j hj => ?_⟩
    rw [← h2 j hj]
    obtain ⟨b1, b2, b3⟩ := addr_adds a (i * w)
    obtain ⟨c1, c2, c3⟩ := addr_adds (a.add (i * w)) j
    unfold World.cell?
    rw [c1, b1, hC]
    simp only [c3 (b3 hsp), Option.isSome_none, Bool.false_eq_true, if_false, c2, b2]
    simp
   have hflat := cellsOf_flatten hrows
   have hll := Lift.list (P := P) (W := W) (cells := cells) hst (css := (List.range len).map CS) (by
    intro c hc
    obtain ⟨i, hi, rfl⟩ := List.mem_map.1 hc
    exact helem _ _ _ (hCS i (List.mem_range.1 hi)).2 (hz2 _ (List.mem_map_of_mem hi)))
   intro σ h s
   obtain ⟨σ1, h1, ws, s1, hle1, hg1, hv1, hs1, hlen, hok⟩ := hll σ h s
   simp only [List.length_map, List.length_range] at hlen
   have hal : (ws.flatMap cells).length = len * w := by
    rw [← hlen]
    clear hv1 hs1 hok hlen
    induction ws with
    | nil => simp
    | cons b ws ih => rw [List.flatMap_cons, List.length_append, ih, hcells, List.length_cons, Nat.add_mul]; omega
   have hlt : a.block < W.heap.size := (Array.getElem?_eq_some_iff.1 hC).1
   have hor : ORel P σ1 ⟨a.block, a.off, 0, 0⟩ (.cells (ws.flatMap cells) 0 true false) W.heap[a.block]? := by
    refine ⟨C, el, fr, hC, ?_, hs1, fun e => absurd rfl e, (fun e => by cases e), (fun e => by cases e), (fun _ e => by cases e), .inl rfl⟩
    show VRels σ1 (ws.flatMap cells) ((C.toList.drop a.off).take (ws.flatMap cells).length)
    rw [hal, ← hflat]; exact hv1
   obtain ⟨σ2, s2, hle2, hg2, hp⟩ := s1.new hor rfl hlt
   have hget : (h1.new (.cells (ws.flatMap cells) 0 true false)).get h1.next = some (.cells (ws.flatMap cells) 0 true false) := by simp
   refine ⟨σ2, _, (ws, .slice h1.next 0 len none), s2, Places.le_trans hle1 hle2, hg1.trans hg2, VRels.cons ⟨_, m, hp, ?_, hl, .inl rfl⟩ VRels.nil, fun x hx => by simp at hx; subst hx; rfl, ⟨?_, fun i r hr => ?_⟩, ?_, .slice _ _ _ _ _ _ hget, fun b hb => hst _ _ _ hg2 (hok b hb)⟩
   ·obtain ⟨bk, of, sp⟩ := a
    simp only at hsp
    subst hsp
    rfl
   ·show some len = some (ws.map cells).length
    rw [List.length_map, hlen]
   ·refine ⟨h1.next, 0, none, by rw [List.length_map, hlen], row_of hget ?_⟩
    simp only [Nat.add_eq, Nat.mul_eq, Nat.zero_add]
    exact flatMap_row hcells hr
   ·rw [hlen]
    simp only [List.length_map, List.length_range] at hz1
    have h1 : len + (m - len) ≤ (len + (m - len)) * P.bytesOf e := Nat.le_mul_of_pos_right _ hby
    have : reachBytes ≤ 1152921504606846976 := by decide
    omega
end
namespace Dr
theorem cells21 : Tryz.prog.cellsOf 21 = 1 := by kernel_rfl
theorem bytes21 : Tryz.prog.bytesOf 21 = 4 := by kernel_rfl
theorem bounds_i32 {n : Int} (h : (Lit.int .i32 n).wf = true) : -2147483648 ≤ n ∧ n ≤ 2147483647 := by
 simp only [Lit.wf, Bool.and_eq_true, decide_eq_true_eq] at h
 exact h
section
variable {H : Type} {enc : TypeId × Value → H} {W : World} {fuel : Nat} {cs : List Value} {x : DataW H × List MemPlace}
theorem lift_words (hd : DataW.trod enc Tryz.prog W 0 (fun _ => true) true fuel 22 cs = some x) (hsz : Sz Tryz.prog 22 x.1) : Lift Tryz.prog W (fun p : List Int × HVal => [p.2]) (fun h p => (rd p.2 1 (p.1.map nc)).holds h ∧ p.1.length ≤ 1152921504606846976 ∧ ∀ a ∈ p.1, -2147483648 ≤ a ∧ a < 2147483648) cs := by
 refine (lift_sliceF (cells := nc) Tryz.underlying22 cells21 (by decide) (fun _ => rfl) (Ok := fun _ a => (Lit.int .i32 a).wf = true) (fun _ _ _ _ o => o) (by rw [bytes21]; decide) (fun n cs x h _ => lift_int Tryz.underlying21 h) hd hsz).conv (fun p => p) (fun p => rfl) fun h p ⟨o1, o2, o3, o4⟩ => ⟨⟨o1, fun k hk => ?_⟩, o2, fun a ha => by have := bounds_i32 (o4 a ha); omega⟩
 generalize p.2 = v at o3 hk
 cases o3 with
 | nils => cases hk
 | empty => cases hk
 | slice k' off c l s r hg => cases hk; exact ⟨_, hg⟩
end
end Dr
end
end Go.HL
