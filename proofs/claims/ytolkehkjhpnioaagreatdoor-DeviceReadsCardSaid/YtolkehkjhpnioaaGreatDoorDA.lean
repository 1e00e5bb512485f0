/- The walk of the device: numbers as text, lines and their parts. No statement of the seat stands here. -/
import Derived.Test.YtolkehkjhpnioaaGreatDoorXC
import Derived.Shelf.Strings.Split
import Derived.Shelf.Strings.OnBuilder
import Derived.Lib.ParseIntB
import Derived.Shelf.Strconv.Itoa3
import Derived.Shelf.LaysM
import Derived.Shelf.LaysC
import Derived.Shelf.Strconv.Itoa4
import Derived.Shelf.Strconv.ParseIntPublic10
import Derived.Ground.NamesProg
import Derived.Test.YtolkehkjhpnioaaGreatDoorProg
import Derived.KernelRfl
set_option linter.unusedVariables false
set_option linter.unusedSimpArgs false
namespace Go.HL
open Go Go.Proofs
noncomputable section
namespace Dr
abbrev i64 (n : Nat) : HVal := .int .i64 (n : Int)
abbrev strB (l : List Nat) : HVal := .str l.length (codeN l 0)
def decB (n : Nat) : List Nat := if n < 10 then [48 + n] else decB (n / 10) ++ [48 + n % 10]
termination_by n
decreasing_by omega
theorem decB_small {n : Nat} (h : n < 10) : decB n = [48 + n] := by rw [decB, if_pos h]
theorem decB_big {n : Nat} (h : ¬ n < 10) : decB n = decB (n / 10) ++ decB (n % 10) := by
 rw [decB, if_neg h, decB_small (n := n % 10) (by omega)]
def decI (n : Int) : List Nat := if n < 0 then 45 :: decB (-n).toNat else decB n.toNat
theorem decI_nat (n : Nat) : decI (n : Int) = decB n := by
 unfold decI
 rw [if_neg (by omega)]; rfl
theorem decB_len2 : ∀ (k n : Nat), 0 < k → n < 10 ^ k → (decB n).length ≤ k := by
 intro k
 induction k with
 | zero => intro n h; omega
 | succ k ih =>
  intro n _ hn
  by_cases h : n < 10
  ·rw [decB_small h]; simp
  ·rw [decB_big h, decB_small (n := n % 10) (by omega), List.length_append, List.length_singleton]
   have hk : 0 < k := by
    cases k with
    | zero => omega
    | succ k => omega
   have := ih (n / 10) hk (by rw [Nat.pow_succ] at hn; omega)
   omega
theorem decI_len {n : Int} (h1 : -4294967296 < n) (h2 : n < 4294967296) : (decI n).length ≤ 11 := by
 unfold decI
 split
 ·have := decB_len2 10 (-n).toNat (by decide) (by omega)
  simp only [List.length_cons]; omega
 ·have := decB_len2 10 n.toNat (by decide) (by omega)
  omega
theorem codeOf_map : ∀ (l : List Nat) (a : Nat), (∀ x ∈ l, x < 256) → (l.map UInt8.ofNat).foldl (fun a b => Nat.add (Nat.mul a 256) b.toNat) a = codeN l a
 | [], a, _ => rfl
 | x :: l, a, h => by
  have hx : (UInt8.ofNat x).toNat = x := by
   rw [UInt8.toNat_ofNat']; exact Nat.mod_eq_of_lt (h x (by simp))
  show (l.map UInt8.ofNat).foldl _ (Nat.add (Nat.mul a 256) (UInt8.ofNat x).toNat) = codeN l (a * 256 + x)
  rw [hx, codeOf_map l _ fun y hy => h y (by simp [hy])]; rfl
def toS (l : List Nat) : ByteArray := ⟨(l.map UInt8.ofNat).toArray⟩
theorem toS_size (l : List Nat) : (toS l).size = l.length := by simp [toS, ByteArray.size]
theorem toS_list (l : List Nat) : (toS l).data.toList = l.map UInt8.ofNat := rfl
theorem toS_code {l : List Nat} (h : ∀ x ∈ l, x < 256) : codeOf (toS l).data.toList = codeN l 0 := codeOf_map l 0 h
theorem ofNat_toNat {l : List Nat} (h : ∀ x ∈ l, x < 256) : (l.map UInt8.ofNat).map UInt8.toNat = l := by
 rw [List.map_map]
 conv => rhs; rw [← List.map_id l]
 refine List.map_congr_left fun x hx => ?_
 show (UInt8.ofNat x).toNat = x
 rw [UInt8.toNat_ofNat']; exact Nat.mod_eq_of_lt (h x hx)
theorem digL_code {l : List Nat} (h : ∀ x ∈ l, x < 256) : digL l.length (codeN l 0) 0 l.length = l := by
 have := digL_all (toS l)
 rw [toS_size, toS_code h, toS_list, ofNat_toNat h] at this
 exact this
theorem strB_inj {l m : List Nat} (hl : ∀ x ∈ l, x < 256) (hm : ∀ x ∈ m, x < 256) (h : strB l = strB m) : l = m := by
 injection h with h1 h2
 rw [← digL_code hl, h1, h2, digL_code hm]
theorem str_val {σ : Places} {l : List Nat} (hl : ∀ x ∈ l, x < 256) {v : Value} (h : VRel σ (strB l) v) : v = .string (toS l) := by
 obtain ⟨s, rfl, h1, h2⟩ := h
 have e1 := digL_all s
 rw [h1, h2, digL_code hl] at e1
 have e2 : s.data.toList = (toS l).data.toList := by
  rw [toS_list, e1, List.map_map]
  conv => lhs; rw [← List.map_id s.data.toList]
  refine List.map_congr_left fun x _ => ?_
  show x = UInt8.ofNat x.toNat
  exact UInt8.ofNat_toNat.symm
 have e3 : s.data = (toS l).data := Array.toList_inj.1 e2
 congr 1
 cases s
 cases h4 : toS l
 rw [h4] at e3
 simp only at e3
 rw [e3]
theorem val_str {σ : Places} {l : List Nat} (hl : ∀ x ∈ l, x < 256) : VRel σ (strB l) (.string (toS l)) := ⟨_, rfl, toS_size l, toS_code hl⟩
theorem step_closed {P : Program} {σ : Places} {h : Heap} {w w' : World} (hr : Rel P σ h w) (b : RowKit.Below w.heap.size w w') : Step P σ h w σ h w' :=
 ⟨σ.le_refl, ⟨fun k o p hk' hl hp => by rw [b.block p.blk (hr.inb k p hp)]; exact hr.obj k o p hk' hl hp, hr.fresh, hr.dom, fun k p hp => Nat.lt_of_lt_of_le (hr.inb k p hp) b.size, hr.inj, hr.glob⟩,
  ⟨b.os, b.tape, b.output, b.size, fun i hi _ => b.block i hi⟩, fun _ _ e => e, Nat.le_refl _, fun _ _ => rfl, fun _ _ _ => rfl⟩
theorem below_grow (w : World) (q : Nat) (os : Array Obj) : RowKit.Below w.heap.size w (Sort.grow (w.drewN q) os) :=
 ⟨rfl, rfl, rfl, by simp [Sort.grow], fun i hi => by
  show ((w.drewN q).heap ++ os)[i]? = _
  rw [Array.getElem?_append_left (by show i < w.heap.size; omega)]
  rfl⟩
theorem decDigits_eq (n : Nat) : (Lib.decDigits n).map UInt8.toNat = decB n := by
 induction n using Nat.strongRecOn with
 | _ n ih =>
  rw [Lib.decDigits]
  by_cases h : n < 10
  ·rw [dif_pos h, decB_small h]
   simp only [List.map_cons, List.map_nil, UInt8.toNat_ofNat']
   congr 1
   omega
  ·rw [dif_neg h, List.map_append, ih (n / 10) (by omega), decB_big h, decB_small (n := n % 10) (by omega)]
   simp only [List.map_cons, List.map_nil, UInt8.toNat_ofNat']
   congr 2
   omega
theorem itoa_eq (n : Int) : (Lib.itoa n).map UInt8.toNat = decI n := by
 unfold Lib.itoa decI
 split
 ·rw [List.map_cons, decDigits_eq]
  congr 2
  omega
 ·exact decDigits_eq _
theorem toNat_lt (l : List UInt8) : ∀ x ∈ l.map UInt8.toNat, x < 256 := by
 intro x hx
 obtain ⟨y, _, rfl⟩ := List.mem_map.1 hx
 exact y.toNat_lt
theorem toS_toNat (l : List UInt8) : toS (l.map UInt8.toNat) = ⟨l.toArray⟩ := by
 unfold toS
 rw [List.map_map]
 congr 2
 conv => rhs; rw [← List.map_id l]
 refine List.map_congr_left fun x _ => ?_
 exact UInt8.ofNat_toNat
theorem decI_lt (n : Int) : ∀ x ∈ decI n, x < 256 := by rw [← itoa_eq]; exact toNat_lt _
def powL : List HVal := (List.range 20).map fun i => .int .u64 ((10 ^ i : Nat) : Int)
def powO : HObj := .cells powL 0 false false
def joinT : List (List Nat) → List Nat
 | [] => []
 | x :: r => x ++ (r.map (32 :: ·)).flatten
abbrev sB (x : List Nat) : List HVal := [strB x]
theorem joinT_lt {l : List (List Nat)} (h : ∀ x ∈ l, ∀ b ∈ x, b < 256) : ∀ b ∈ joinT l, b < 256 := by
 cases l with
 | nil => intro b hb; cases hb
 | cons x r =>
  intro b hb
  rcases List.mem_append.1 hb with hb | hb
  ·exact h x (by simp) b hb
  ·obtain ⟨y, hy, hby⟩ := List.mem_flatten.1 hb
   obtain ⟨z, hz, rfl⟩ := List.mem_map.1 hy
   rcases List.mem_cons.1 hby with rfl | hby
   ·decide
   ·exact h z (by simp [hz]) b hby
theorem join_eq (l : List (List Nat)) : Lib.join ((l.map toS).map (·.data.toList)) [32] = (joinT l).map UInt8.ofNat := by
 cases l with
 | nil => rfl
 | cons x r =>
  rw [List.map_cons, List.map_cons, Lib.join_cons]
  unfold Lib.joinTail joinT
  rw [List.map_append, List.map_flatten, List.map_map, List.map_map, List.map_map]
  rfl
def JoinIs (args : List HVal) (h : Heap) (v : HVal) : Prop := ∃ s l, args = [s, .str 1 32] ∧ l ≠ [] ∧ (∀ x ∈ l, ∀ b ∈ x, b < 256) ∧ (joinT l).length ≤ 1000000 ∧ l.length ≤ 1000000 ∧ (rd s 1 (l.map sB)).holds h ∧ v = strB (joinT l)
theorem rd_strs {h : Heap} {s : HVal} {l m : List (List Nat)} (hl : ∀ x ∈ l, ∀ b ∈ x, b < 256) (hm : ∀ x ∈ m, ∀ b ∈ x, b < 256) (a : (rd s 1 (l.map sB)).holds h) (b : (rd s 1 (m.map sB)).holds h) : l = m := by
 have a := a.slice
 have b := b.slice
 have e : l.length = m.length := by
  have h1 := a.len
  have h2 := b.len
  rw [h1] at h2
  simpa using h2
 refine List.ext_getElem e fun i h1 h2 => ?_
 obtain ⟨k, off, cap, e1, r1⟩ := a.row i (sB l[i]) (by rw [List.getElem?_map, List.getElem?_eq_getElem h1]; rfl)
 obtain ⟨k2, off2, cap2, e2, r2⟩ := b.row i (sB m[i]) (by rw [List.getElem?_map, List.getElem?_eq_getElem h2]; rfl)
 rw [e1] at e2
 injection e2 with g1 g2 g3 g4
 subst g1 g2
 have q1 := r1.load
 have q2 := r2.load
 rw [show (sB m[i]).length = (sB l[i]).length from rfl, q1] at q2
 have q2 := Option.some.inj q2
 injection q2 with q2
 exact strB_inj (hl _ (List.getElem_mem h1)) (hm _ (List.getElem_mem h2)) q2
theorem JoinIs.eq {args : List HVal} {h : Heap} {v v' : HVal} (a : JoinIs args h v) (b : JoinIs args h v') : v = v' := by
 obtain ⟨s, l, e, _, h1, _, _, h2, rfl⟩ := a
 obtain ⟨s', l', e', _, h1', _, _, h2', rfl⟩ := b
 subst e
 injection e' with e'
 subst e'
 rw [rd_strs h1 h1' h2 h2']
theorem leakS {k e : Nat} {lc : List HVal} {s : Bool} (l : List (List Nat)) (hl : (l.map sB).flatten = lc) : AsPart k lc e s (ownS 9 1 (.slice k 0 l.length (some l.length)) (l.map sB)) :=
 .own hl (by intro r hr; obtain ⟨q, _, rfl⟩ := List.mem_map.1 hr; rfl) (by simp)
def Byt (l : List Nat) : Prop := ∀ x ∈ l, x < 256
theorem Byt.cons {x : Nat} {l : List Nat} (hx : x < 256) (h : Byt l) : Byt (x :: l) := fun y hy => (List.mem_cons.1 hy).elim (fun e => e ▸ hx) (h y)
theorem Byt.nil : Byt [] := fun x hx => by cases hx
def AllB (l : List (List Nat)) : Prop := ∀ p ∈ l, Byt p
theorem AllB.nil : AllB [] := fun p hp => by cases hp
theorem AllB.cons {p : List Nat} {l : List (List Nat)} (hp : Byt p) (hl : AllB l) : AllB (p :: l) := fun q hq => (List.mem_cons.1 hq).elim (fun e => e ▸ hp) (hl q)
theorem joinT_cons (a : List Nat) {l : List (List Nat)} (h : 0 < l.length) : joinT (a :: l) = a ++ [32] ++ joinT l := by
 cases l with
 | nil => simp at h
 | cons x r => simp [joinT]
theorem rdS {h : Heap} {k e : Nat} {lc : List HVal} {s : Bool} (l : List (List Nat)) (hl : (l.map sB).flatten = lc) (hp : (pts k lc e s).holds h) : (rd (.slice k 0 l.length (some l.length)) 1 (l.map sB)).holds h := ownS.rd ((leakS l hl).holds h hp)
section
variable {α : Type} [DecidableEq α]
def cutAt {α : Type} [DecidableEq α] (c : α) : List α → List (List α)
 | [] => [[]]
 | x :: l => if x = c then [] :: cutAt c l else match cutAt c l with
  | [] => [[x]]
  | p :: r => (x :: p) :: r
theorem cutAt_none {c : α} : ∀ {l : List α}, c ∉ l → cutAt c l = [l]
 | [], _ => rfl
 | x :: l, h => by
  unfold cutAt
  rw [if_neg (fun e => h (by simp [e])), cutAt_none (l := l) fun hc => h (by simp [hc])]
theorem cutAt_app {c : α} {b : List α} : ∀ {a : List α}, c ∉ a → cutAt c (a ++ c :: b) = a :: cutAt c b
 | [], _ => by simp [cutAt]
 | x :: a, h => by
  show cutAt c (x :: (a ++ c :: b)) = _
  rw [cutAt, if_neg (fun e => h (by simp [e])), cutAt_app (a := a) fun hc => h (by simp [hc])]
theorem cutAt_len (c : α) : ∀ l : List α, (cutAt c l).length ≤ l.length + 1
 | [] => by simp [cutAt]
 | x :: l => by
  have ih := cutAt_len c l
  unfold cutAt
  split
  ·simp; omega
  ·split
   ·simp
   ·rename_i p r e
    rw [e] at ih
    simp at ih ⊢; omega
theorem cutAt_sub (c : α) : ∀ (l : List α), ∀ p ∈ cutAt c l, p.length ≤ l.length ∧ ∀ x ∈ p, x ∈ l
 | [], p, hp => by
  have : p = [] := by simpa [cutAt] using hp
  subst this; simp
 | x :: l, p, hp => by
  have ih := cutAt_sub c l
  unfold cutAt at hp
  split at hp
  ·rcases List.mem_cons.1 hp with rfl | hp
   ·simp
   ·have := ih p hp
    exact ⟨by simp; omega, fun y hy => by simp [this.2 y hy]⟩
  ·split at hp
   ·have : p = [x] := by simpa using hp
    subst this; simp
   ·rename_i q r e
    rw [e] at ih
    rcases List.mem_cons.1 hp with rfl | hp
    ·have := ih q (by simp)
     refine ⟨by simp; omega, fun y hy => ?_⟩
     rcases List.mem_cons.1 hy with rfl | hy
     ·simp
     ·simp [this.2 y hy]
    ·have := ih p (by simp [hp])
     exact ⟨by simp; omega, fun y hy => by simp [this.2 y hy]⟩
theorem cutAt_map {β : Type} [DecidableEq β] (f : α → β) (c : α) : ∀ (l : List α), (∀ x ∈ l, f x = f c → x = c) → cutAt (f c) (l.map f) = (cutAt c l).map (List.map f)
 | [], _ => rfl
 | x :: l, h => by
  have ih := cutAt_map f c l fun y hy => h y (by simp [hy])
  rw [List.map_cons]
  unfold cutAt
  by_cases hx : x = c
  ·subst hx
   rw [if_pos rfl, if_pos rfl, ih]; rfl
  ·rw [if_neg hx, if_neg fun e => hx (h x (by simp) e), ih]
   cases cutAt c l <;> rfl
end
theorem splitK_cut (u : UInt8) : ∀ s : List UInt8, Lib.splitK [u] 0 (Lib.count s [u]) s = cutAt u s
 | [] => by
  have : Lib.count [] [u] = 0 := by rw [Lib.count_one]; simp
  rw [this]; rfl
 | x :: l => by
  have ih := splitK_cut u l
  unfold cutAt
  by_cases hx : x = u
  ·subst hx
   rw [if_pos rfl, Lib.count_cons_eq, Nat.add_comm]
   have hi : Lib.index (x :: l) [x] = 0 := by
    unfold Lib.index
    rw [if_pos (by simp [List.isPrefixOf])]
   unfold Lib.splitK
   rw [hi]
   show [] :: Lib.splitK [x] 0 _ l = _
   rw [ih]
  ·rw [if_neg hx, Lib.count_cons_ne x u l hx]
   have hi : Lib.index (x :: l) [u] = if Lib.index l [u] == -1 then -1 else Lib.index l [u] + 1 := by
    rw [Lib.index, if_neg (by simp [List.isPrefixOf, Ne.symm hx])]
   cases hk : Lib.count l [u] with
   | zero =>
    rw [hk] at ih
    have ih : [l] = cutAt u l := ih
    rw [← ih]; rfl
   | succ k =>
    rw [hk] at ih
    unfold Lib.splitK at ih ⊢
    rw [hi]
    by_cases hm : (Lib.index l [u] == -1) = true
    ·rw [if_pos hm] at ih ⊢
     rw [← ih]; rfl
    ·have hge := Lib.index_ge l [u]
     have hne : Lib.index l [u] ≠ -1 := fun e => hm (by rw [e]; rfl)
     rw [if_neg hm] at ih ⊢
     have hm2 : ¬ (Lib.index l [u] + 1 == -1) = true := fun e => by have := beq_iff_eq.1 e; omega
     rw [if_neg hm2, ← ih]
     have e : (Lib.index l [u] + 1).toNat = (Lib.index l [u]).toNat + 1 := by omega
     rw [e]
     show (x :: l).take ((Lib.index l [u]).toNat + 1) :: Lib.splitK [u] 0 k ((x :: l).drop ((Lib.index l [u]).toNat + 1 + 1)) = _
     rw [List.take_succ_cons, List.drop_succ_cons]
     rfl
theorem byte_inj {x y : Nat} (hx : x < 256) (hy : y < 256) (h : UInt8.ofNat x = UInt8.ofNat y) : x = y := by
 have := congrArg UInt8.toNat h
 rw [UInt8.toNat_ofNat', UInt8.toNat_ofNat'] at this
 omega
theorem split_cut {c : Nat} (hc : c < 256) {b : List Nat} (hb : ∀ x ∈ b, x < 256) : Lib.splitB (toS [c]) 0 (Lib.countB (toS b) (toS [c])) (toS b) = (cutAt c b).map toS := by
 have h1 := Lib.splitB_data (toS [c]) 0 (Lib.countB (toS b) (toS [c])) (toS b)
 have h2 : Lib.splitK (toS [c]).data.toList 0 (Lib.countB (toS b) (toS [c])) (toS b).data.toList = cutAt (UInt8.ofNat c) (b.map UInt8.ofNat) := splitK_cut (UInt8.ofNat c) (b.map UInt8.ofNat)
 rw [h2, cutAt_map UInt8.ofNat c b fun x hx e => byte_inj (hb x hx) hc e] at h1
 have h3 : ∀ {l : List ByteArray} {m : List (List Nat)}, l.map (·.data.toList) = m.map (List.map UInt8.ofNat) → l = m.map toS := by
  intro l m
  induction l generalizing m with
  | nil => intro h; cases m with | nil => rfl | cons => simp at h
  | cons x l ih =>
   intro h
   cases m with
   | nil => simp at h
   | cons y m =>
    simp only [List.map_cons, List.cons.injEq] at h
    rw [List.map_cons, ih h.2]
    congr 1
    have e : x.data = (toS y).data := Array.toList_inj.1 h.1
    cases x
    cases h4 : toS y
    rw [h4] at e
    simp only at e
    rw [e]
 exact h3 h1
theorem parse_dec (M : Nat) (hM : M < 18446744073709551616) (n : Nat) : ∀ (acc : Nat) (r : List UInt8), acc * 10 ^ (decB n).length + n ≤ M → Lib.parseUintM M acc ((decB n).map UInt8.ofNat ++ r) = Lib.parseUintM M (acc * 10 ^ (decB n).length + n) r := by
 have one : ∀ (d acc : Nat) (r : List UInt8), d < 10 → acc * 10 + d ≤ M → Lib.parseUintM M acc (UInt8.ofNat (48 + d) :: r) = Lib.parseUintM M (acc * 10 + d) r := by
  intro d acc r hd hm
  have e : (UInt8.ofNat (48 + d)).toNat = 48 + d := by rw [UInt8.toNat_ofNat']; omega
  rw [Lib.parseUintM, e, if_pos (by omega), if_neg (by omega)]
  rw [show 48 + d - 48 = d by omega, if_neg (by omega)]
 induction n using Nat.strongRecOn with
 | _ n ih =>
  intro acc r hm
  by_cases h : n < 10
  ·rw [decB_small h] at hm ⊢
   simp only [List.length_singleton, Nat.pow_one] at hm ⊢
   exact one n acc r h hm
  ·have h1 := decB_small (n := n % 10) (by omega)
   rw [decB_big h, h1] at hm ⊢
   rw [List.length_append, List.length_singleton, Nat.pow_succ, ← Nat.mul_assoc] at hm ⊢
   have hle : (acc * 10 ^ (decB (n / 10)).length + n / 10) * 10 + n % 10 ≤ M := by rw [Nat.add_mul]; omega
   rw [List.map_append, List.append_assoc, ih (n / 10) (by omega) acc _ (by omega)]
   show Lib.parseUintM M _ (UInt8.ofNat (48 + n % 10) :: r) = _
   rw [one _ _ _ (Nat.mod_lt _ (by decide)) hle]
   congr 1
   rw [Nat.add_mul]; omega
theorem decB_head (n : Nat) : ∃ d r, decB n = (48 + d) :: r ∧ d < 10 := by
 induction n using Nat.strongRecOn with
 | _ n ih =>
  by_cases h : n < 10
  ·exact ⟨n, [], decB_small h, h⟩
  ·obtain ⟨d, r, e, hd⟩ := ih (n / 10) (by omega)
   exact ⟨d, r ++ decB (n % 10), by rw [decB_big h, e]; rfl, hd⟩
theorem take_succ {α : Type} {l : List α} {i : Nat} (hi : i < l.length) (d : α) : l.take (i + 1) = l.take i ++ [l.getD i d] := by
 rw [List.take_add_one]
 simp [List.getD, List.getElem?_eq_getElem hi]
theorem codeN_append (l m : List Nat) (a : Nat) : codeN (l ++ m) a = codeN m (codeN l a) := List.foldl_append
theorem codeN_div : ∀ {l : List Nat}, (∀ x ∈ l, x < 256) → ∀ (a : Nat), codeN l a / 256 ^ l.length = a
 | [], _, a => by simp [codeN]
 | x :: l, h, a => by
  have hx := h x (by simp)
  have ih := codeN_div (l := l) (fun y hy => h y (by simp [hy])) (a * 256 + x)
  show codeN l (a * 256 + x) / 256 ^ (l.length + 1) = a
  rw [Nat.pow_succ, ← Nat.div_div_eq_div_mul, ih]
  omega
theorem sIndex_code {b : List Nat} (h : ∀ x ∈ b, x < 256) {j : Nat} (hj : j < b.length) : sIndex b.length (codeN b 0) j = b.getD j 0 := by
 have e1 : b = b.take (j + 1) ++ b.drop (j + 1) := (List.take_append_drop _ _).symm
 have e2 := codeN_div (l := b.drop (j + 1)) (fun y hy => h y (List.mem_of_mem_drop hy)) (codeN (b.take (j + 1)) 0)
 rw [← codeN_append, ← e1, List.length_drop] at e2
 unfold sIndex
 show codeN b 0 / 2 ^ (8 * (b.length - (j + 1))) % 256 = _
 rw [Nat.pow_mul, show (2 : Nat) ^ 8 = 256 by decide, e2, take_succ hj 0, codeN_append]
 have := h _ (getD_mem 0 hj)
 show (codeN (b.take j) 0 * 256 + b.getD j 0) % 256 = _
 omega
def lenO : HObj := .cells [.rng .i64 (-9223372036854775808) 9223372036854775807] 0 false false
theorem cell_of {P : Program} {σ : Places} {h : Heap} {w : World} (hr : Rel P σ h w) {g : Nat} {x : HVal} (hg : h.get g = some (.cells [x] 0 false false)) (hgs : g < P.globals.size) : ∃ v, w.cell? ⟨g, 0, none⟩ = some v ∧ VRel σ x v := by
 obtain ⟨p, hp, hb, h0⟩ := hr.glob g hgs
 have hl : load1 h g 0 = some x := by
  unfold load1
  rw [cells_get hg]; rfl
 obtain ⟨v, h1, h2, _⟩ := load1_rel hr hp hl
 rw [hb, h0] at h1
 exact ⟨v, h1, h2⟩
end Dr
end
end Go.HL
namespace Go.Proofs
open Go.Shelf
def Tryz.lays156_ren : Go.Shelf.Ren := ⟨fun | 156 => 43 | 165 => 71 | 166 => 72 | 169 => 73 | 240 => 131 | 241 => 132 | 276 => 231 | 277 => 232 | n => n, fun | 31 => 30 | 9 => 9 | 3 => 3 | 4 => 4 | 0 => 0 | 20 => 20 | 72 => 136 | 76 => 138 | 70 => 134 | 37 => 46 | 75 => 67 | 127 => 240 | 164 => 400 | 5 => 5 | 80 => 140 | n => n, fun | n => n⟩
theorem Tryz.lays156 : Go.Proofs.Lays.n156 Tryz.prog Tryz.lays156_ren := {
 mixed := by kernel_rfl
 f156 := Tryz.func43.trans (congrArg some (by kernel_rfl))
 f165 := Tryz.func71.trans (congrArg some (by kernel_rfl))
 f166 := Tryz.func72.trans (congrArg some (by kernel_rfl))
 f169 := Tryz.func73.trans (congrArg some (by kernel_rfl))
 f240 := Tryz.func131.trans (congrArg some (by kernel_rfl))
 f241 := Tryz.func132.trans (congrArg some (by kernel_rfl))
 f276 := Tryz.func231.trans (congrArg some (by kernel_rfl))
 f277 := Tryz.func232.trans (congrArg some (by kernel_rfl))
 t0 := Tryz.underlying0
 a0 := Tryz.isAgg0
 z0 := Tryz.sizeOf0
 v0 := Tryz.zeroValue0
 t3 := Tryz.underlying3
 a3 := Tryz.isAgg3
 z3 := Tryz.sizeOf3
 v3 := Tryz.zeroValue3
 t4 := Tryz.underlying4
 a4 := Tryz.isAgg4
 z4 := Tryz.sizeOf4
 v4 := Tryz.zeroValue4
 t9 := Tryz.underlying9
 a9 := Tryz.isAgg9
 z9 := Tryz.sizeOf9
 v9 := Tryz.zeroValue9
 t20 := Tryz.underlying20
 a20 := Tryz.isAgg20
 z20 := Tryz.sizeOf20
 v20 := Tryz.zeroValue20
 t31 := Tryz.underlying30
 a31 := Tryz.isAgg30
 z31 := Tryz.sizeOf30
 v31 := Tryz.zeroValue30
 t37 := Tryz.underlying46
 a37 := Tryz.isAgg46
 z37 := Tryz.sizeOf46
 v37 := Tryz.zeroValue46
 t70 := Tryz.underlying134
 a70 := Tryz.isAgg134
 z70 := Tryz.sizeOf134
 v70 := Tryz.zeroValue134
 t72 := Tryz.underlying136
 a72 := Tryz.isAgg136
 z72 := Tryz.sizeOf136
 v72 := Tryz.zeroValue136
 t75 := Tryz.underlying67
 a75 := Tryz.isAgg67
 z75 := Tryz.sizeOf67
 v75 := Tryz.zeroValue67
 t76 := Tryz.underlying138
 a76 := Tryz.isAgg138
 z76 := Tryz.sizeOf138
 v76 := Tryz.zeroValue138
 t127 := Tryz.underlying240
 a127 := Tryz.isAgg240
 z127 := Tryz.sizeOf240
 v127 := Tryz.zeroValue240
 t164 := Tryz.underlying400
 a164 := Tryz.isAgg400
 z164 := Tryz.sizeOf400
 v164 := Tryz.zeroValue400 }
theorem Tryz.Builder_Extra_156 : Builder.Extra Tryz.prog Tryz.lays156_ren := {
 sizeBuilder := by kernel_rfl
 liesBuilder := by kernel_rfl
 t5 := Tryz.underlying5
 a5 := Tryz.isAgg5
 z5 := Tryz.sizeOf5
 v5 := Tryz.zeroValue5
 infoByte := by kernel_rfl
 cellsByte := by kernel_rfl
 sizeByte := by kernel_rfl
 neB5 := by decide }
open Go.RowKit in
theorem Tryz.strings_Join (bk o c : Nat) (xs : List ByteArray) (sep : ByteArray) (w : World) (hcells : ∀ (j : Nat) x, xs[j]? = some x → w.cell? ⟨bk, o + j, none⟩ = some (.string x)) (hbk : bk < w.heap.size) (hN : xs.length ≤ 140737488355328) (hcap : xs.length ≤ c) (hlen : (Lib.join (xs.map (·.data.toList)) sep.data.toList).length ≤ 140737488355328) :
  Calls Tryz.prog 43 #[.slice (some ⟨bk, o, none⟩) xs.length c, .string sep] w fun e w' => e = .returned (.string ⟨(Lib.join (xs.map (·.data.toList)) sep.data.toList).toArray⟩) ∧ Below w.heap.size w w' := Any.strings_Join Tryz.lays156 Tryz.Builder_Extra_156 bk o c xs sep w hcells hbk hN hcap hlen
def Tryz.laysM171_ren : Go.Shelf.Ren := ⟨fun | 171 => 15 | 243 => 20 | 246 => 37 | 283 => 55 | 284 => 56 | 285 => 57 | 286 => 58 | 129 => 107 | 317 => 106 | 318 => 108 | 319 => 109 | 320 => 110 | 337 => 205 | 338 => 206 | n => n, fun | 3 => 3 | 9 => 9 | 2 => 2 | 4 => 4 | 171 => 113 | 0 => 0 | 53 => 114 | 37 => 46 | 5 => 5 | 173 => 117 | 212 => 213 | 51 => 199 | 20 => 20 | 213 => 214 | 46 => 124 | 232 => 510 | 233 => 511 | n => n, fun | 17 => 0 | 18 => 4 | 19 => 5 | n => n⟩
theorem Tryz.laysM171 : Go.Proofs.LaysM.n171 Tryz.prog Tryz.laysM171_ren := {
 mixed := by kernel_rfl
 f129 := Tryz.func107.trans (congrArg some (by kernel_rfl))
 f171 := Tryz.func15.trans (congrArg some (by kernel_rfl))
 f243 := Tryz.func20.trans (congrArg some (by kernel_rfl))
 f246 := Tryz.func37.trans (congrArg some (by kernel_rfl))
 f283 := Tryz.func55.trans (congrArg some (by kernel_rfl))
 f284 := Tryz.func56.trans (congrArg some (by kernel_rfl))
 f285 := Tryz.func57.trans (congrArg some (by kernel_rfl))
 f286 := Tryz.func58.trans (congrArg some (by kernel_rfl))
 f317 := Tryz.func106.trans (congrArg some (by kernel_rfl))
 f318 := Tryz.func108.trans (congrArg some (by kernel_rfl))
 f319 := Tryz.func109.trans (congrArg some (by kernel_rfl))
 f320 := Tryz.func110.trans (congrArg some (by kernel_rfl))
 f337 := Tryz.func205.trans (congrArg some (by kernel_rfl))
 f338 := Tryz.func206.trans (congrArg some (by kernel_rfl))
 t0 := Tryz.underlying0
 a0 := Tryz.isAgg0
 z0 := Tryz.sizeOf0
 v0 := Tryz.zeroValue0
 t2 := Tryz.underlying2
 a2 := Tryz.isAgg2
 z2 := Tryz.sizeOf2
 v2 := Tryz.zeroValue2
 t3 := Tryz.underlying3
 a3 := Tryz.isAgg3
 z3 := Tryz.sizeOf3
 v3 := Tryz.zeroValue3
 t4 := Tryz.underlying4
 a4 := Tryz.isAgg4
 z4 := Tryz.sizeOf4
 v4 := Tryz.zeroValue4
 t5 := Tryz.underlying5
 a5 := Tryz.isAgg5
 z5 := Tryz.sizeOf5
 v5 := Tryz.zeroValue5
 t9 := Tryz.underlying9
 a9 := Tryz.isAgg9
 z9 := Tryz.sizeOf9
 v9 := Tryz.zeroValue9
 t20 := Tryz.underlying20
 a20 := Tryz.isAgg20
 z20 := Tryz.sizeOf20
 v20 := Tryz.zeroValue20
 t37 := Tryz.underlying46
 a37 := Tryz.isAgg46
 z37 := Tryz.sizeOf46
 v37 := Tryz.zeroValue46
 t46 := Tryz.underlying124
 a46 := Tryz.isAgg124
 z46 := Tryz.sizeOf124
 v46 := Tryz.zeroValue124
 t51 := Tryz.underlying199
 a51 := Tryz.isAgg199
 z51 := Tryz.sizeOf199
 v51 := Tryz.zeroValue199
 t53 := Tryz.underlying114
 a53 := Tryz.isAgg114
 z53 := Tryz.sizeOf114
 v53 := Tryz.zeroValue114
 t171 := Tryz.underlying113
 a171 := Tryz.isAgg113
 z171 := Tryz.sizeOf113
 v171 := Tryz.zeroValue113
 t173 := Tryz.underlying117
 a173 := Tryz.isAgg117
 z173 := Tryz.sizeOf117
 v173 := Tryz.zeroValue117
 t212 := Tryz.underlying213
 a212 := Tryz.isAgg213
 z212 := Tryz.sizeOf213
 v212 := Tryz.zeroValue213
 t213 := Tryz.underlying214
 a213 := Tryz.isAgg214
 z213 := Tryz.sizeOf214
 t232 := Tryz.underlying510
 a232 := Tryz.isAgg510
 z232 := Tryz.sizeOf510
 v232 := Tryz.zeroValue510
 t233 := Tryz.underlying511
 a233 := Tryz.isAgg511
 z233 := Tryz.sizeOf511
 v233 := Tryz.zeroValue511
 g17 := by kernel_rfl
 g18 := by kernel_rfl
 g19 := by kernel_rfl
 i0 := by kernel_rfl
 i2 := by kernel_rfl
 i3 := by kernel_rfl
 i4 := by kernel_rfl
 i5 := by kernel_rfl
 i9 := by kernel_rfl
 i20 := by kernel_rfl
 i37 := by kernel_rfl
 i46 := by kernel_rfl
 i51 := by kernel_rfl
 i53 := by kernel_rfl
 i171 := by kernel_rfl
 i173 := by kernel_rfl
 i212 := by kernel_rfl
 i232 := by kernel_rfl
 i233 := by kernel_rfl
 m17 := by kernel_rfl
 m18 := by kernel_rfl
 m19 := by kernel_rfl }
open Go.RowKit Go.Sort Go.Lib in
theorem Tryz.strconv_Itoa (n : Int) (h0 : -9223372036854775808 ≤ n) (h1 : n ≤ 9223372036854775807) (w : World) (htab : Lib.TabIs Tryz.prog w "internal/strconv.uint64pow10" .u64 Lib.pow10Tab) :
  Calls Tryz.prog 15 #[.int .i64 n] w fun e w' => e = .returned (.string ⟨(Lib.itoa n).toArray⟩) ∧ ∃ k os, w' = grow (w.drewN k) os := Any.strconv_Itoa Tryz.laysM171 n h0 h1 w htab
def Tryz.laysM173_ren : Go.Shelf.Ren := ⟨fun | 173 => 24 | 246 => 37 | 283 => 55 | 284 => 56 | 285 => 57 | 286 => 58 | 129 => 107 | 317 => 106 | 318 => 108 | 319 => 109 | 320 => 110 | 337 => 205 | 338 => 206 | n => n, fun | 2 => 2 | 3 => 3 | 9 => 9 | 4 => 4 | 171 => 113 | 0 => 0 | 53 => 114 | 37 => 46 | 5 => 5 | 173 => 117 | 212 => 213 | 51 => 199 | 20 => 20 | 213 => 214 | 46 => 124 | 232 => 510 | 233 => 511 | n => n, fun | 17 => 0 | 18 => 4 | 19 => 5 | n => n⟩
theorem Tryz.laysM173 : Go.Proofs.LaysM.n173 Tryz.prog Tryz.laysM173_ren := {
 mixed := by kernel_rfl
 f129 := Tryz.func107.trans (congrArg some (by kernel_rfl))
 f173 := Tryz.func24.trans (congrArg some (by kernel_rfl))
 f246 := Tryz.func37.trans (congrArg some (by kernel_rfl))
 f283 := Tryz.func55.trans (congrArg some (by kernel_rfl))
 f284 := Tryz.func56.trans (congrArg some (by kernel_rfl))
 f285 := Tryz.func57.trans (congrArg some (by kernel_rfl))
 f286 := Tryz.func58.trans (congrArg some (by kernel_rfl))
 f317 := Tryz.func106.trans (congrArg some (by kernel_rfl))
 f318 := Tryz.func108.trans (congrArg some (by kernel_rfl))
 f319 := Tryz.func109.trans (congrArg some (by kernel_rfl))
 f320 := Tryz.func110.trans (congrArg some (by kernel_rfl))
 f337 := Tryz.func205.trans (congrArg some (by kernel_rfl))
 f338 := Tryz.func206.trans (congrArg some (by kernel_rfl))
 t0 := Tryz.underlying0
 a0 := Tryz.isAgg0
 z0 := Tryz.sizeOf0
 v0 := Tryz.zeroValue0
 t2 := Tryz.underlying2
 a2 := Tryz.isAgg2
 z2 := Tryz.sizeOf2
 v2 := Tryz.zeroValue2
 t3 := Tryz.underlying3
 a3 := Tryz.isAgg3
 z3 := Tryz.sizeOf3
 v3 := Tryz.zeroValue3
 t4 := Tryz.underlying4
 a4 := Tryz.isAgg4
 z4 := Tryz.sizeOf4
 v4 := Tryz.zeroValue4
 t5 := Tryz.underlying5
 a5 := Tryz.isAgg5
 z5 := Tryz.sizeOf5
 v5 := Tryz.zeroValue5
 t9 := Tryz.underlying9
 a9 := Tryz.isAgg9
 z9 := Tryz.sizeOf9
 v9 := Tryz.zeroValue9
 t20 := Tryz.underlying20
 a20 := Tryz.isAgg20
 z20 := Tryz.sizeOf20
 v20 := Tryz.zeroValue20
 t37 := Tryz.underlying46
 a37 := Tryz.isAgg46
 z37 := Tryz.sizeOf46
 v37 := Tryz.zeroValue46
 t46 := Tryz.underlying124
 a46 := Tryz.isAgg124
 z46 := Tryz.sizeOf124
 v46 := Tryz.zeroValue124
 t51 := Tryz.underlying199
 a51 := Tryz.isAgg199
 z51 := Tryz.sizeOf199
 v51 := Tryz.zeroValue199
 t53 := Tryz.underlying114
 a53 := Tryz.isAgg114
 z53 := Tryz.sizeOf114
 v53 := Tryz.zeroValue114
 t171 := Tryz.underlying113
 a171 := Tryz.isAgg113
 z171 := Tryz.sizeOf113
 v171 := Tryz.zeroValue113
 t173 := Tryz.underlying117
 a173 := Tryz.isAgg117
 z173 := Tryz.sizeOf117
 v173 := Tryz.zeroValue117
 t212 := Tryz.underlying213
 a212 := Tryz.isAgg213
 z212 := Tryz.sizeOf213
 v212 := Tryz.zeroValue213
 t213 := Tryz.underlying214
 a213 := Tryz.isAgg214
 z213 := Tryz.sizeOf214
 t232 := Tryz.underlying510
 a232 := Tryz.isAgg510
 z232 := Tryz.sizeOf510
 v232 := Tryz.zeroValue510
 t233 := Tryz.underlying511
 a233 := Tryz.isAgg511
 z233 := Tryz.sizeOf511
 v233 := Tryz.zeroValue511
 g17 := by kernel_rfl
 g18 := by kernel_rfl
 g19 := by kernel_rfl
 i0 := by kernel_rfl
 i2 := by kernel_rfl
 i3 := by kernel_rfl
 i4 := by kernel_rfl
 i5 := by kernel_rfl
 i9 := by kernel_rfl
 i20 := by kernel_rfl
 i37 := by kernel_rfl
 i46 := by kernel_rfl
 i51 := by kernel_rfl
 i53 := by kernel_rfl
 i171 := by kernel_rfl
 i173 := by kernel_rfl
 i212 := by kernel_rfl
 i232 := by kernel_rfl
 i233 := by kernel_rfl
 m17 := by kernel_rfl
 m18 := by kernel_rfl
 m19 := by kernel_rfl }
open Go.RowKit Go.Sort Go.Lib in
theorem Tryz.strconv_FormatInt_10 (n : Int) (h0 : -9223372036854775808 ≤ n) (h1 : n ≤ 9223372036854775807) (w : World) (htab : Lib.TabIs Tryz.prog w "internal/strconv.uint64pow10" .u64 Lib.pow10Tab) :
  Calls Tryz.prog 24 #[.int .i64 n, .int .i64 10] w fun e w' => e = .returned (.string ⟨(Lib.itoa n).toArray⟩) ∧ ∃ k os, w' = grow (w.drewN k) os := Any.strconv_FormatInt_10 Tryz.laysM173 n h0 h1 w htab
def Tryz.laysC174_ren : Go.Shelf.Ren := ⟨fun | 174 => 23 | 247 => 40 | 245 => 41 | 287 => 62 | 279 => 63 | 280 => 64 | 281 => 65 | 282 => 66 | 321 => 115 | 322 => 116 | 316 => 117 | 171 => 15 | 205 => 118 | 243 => 20 | 246 => 37 | 283 => 55 | 284 => 56 | 285 => 57 | 286 => 58 | 129 => 107 | 317 => 106 | 318 => 108 | 319 => 109 | 320 => 110 | 337 => 205 | 338 => 206 | n => n, fun | 9 => 9 | 3 => 3 | 2 => 2 | 75 => 67 | 85 => 68 | 4 => 4 | 167 => 121 | 5 => 5 | 53 => 114 | 175 => 122 | 46 => 124 | 168 => 125 | 37 => 46 | 0 => 0 | 210 => 223 | 21 => 21 | 127 => 240 | 145 => 370 | 143 => 368 | 171 => 113 | 173 => 117 | 212 => 213 | 51 => 199 | 20 => 20 | 213 => 214 | 232 => 510 | 233 => 511 | 80 => 140 | n => n, fun | 15 => 1 | 16 => 2 | 17 => 0 | 18 => 4 | 19 => 5 | n => n⟩
theorem Tryz.laysC174 : Go.Proofs.LaysC.n174 Tryz.prog Tryz.laysC174_ren := {
 mixed := by kernel_rfl
 f129 := Tryz.func107.trans (congrArg some (by kernel_rfl))
 f171 := Tryz.func15.trans (congrArg some (by kernel_rfl))
 f174 := Tryz.func23.trans (congrArg some (by kernel_rfl))
 f205 := Tryz.func118.trans (congrArg some (by kernel_rfl))
 f243 := Tryz.func20.trans (congrArg some (by kernel_rfl))
 f245 := Tryz.func41.trans (congrArg some (by kernel_rfl))
 f246 := Tryz.func37.trans (congrArg some (by kernel_rfl))
 f247 := Tryz.func40.trans (congrArg some (by kernel_rfl))
 f279 := Tryz.func63.trans (congrArg some (by kernel_rfl))
 f280 := Tryz.func64.trans (congrArg some (by kernel_rfl))
 f281 := Tryz.func65.trans (congrArg some (by kernel_rfl))
 f282 := Tryz.func66.trans (congrArg some (by kernel_rfl))
 f283 := Tryz.func55.trans (congrArg some (by kernel_rfl))
 f284 := Tryz.func56.trans (congrArg some (by kernel_rfl))
 f285 := Tryz.func57.trans (congrArg some (by kernel_rfl))
 f286 := Tryz.func58.trans (congrArg some (by kernel_rfl))
 f287 := Tryz.func62.trans (congrArg some (by kernel_rfl))
 f316 := Tryz.func117.trans (congrArg some (by kernel_rfl))
 f317 := Tryz.func106.trans (congrArg some (by kernel_rfl))
 f318 := Tryz.func108.trans (congrArg some (by kernel_rfl))
 f319 := Tryz.func109.trans (congrArg some (by kernel_rfl))
 f320 := Tryz.func110.trans (congrArg some (by kernel_rfl))
 f321 := Tryz.func115.trans (congrArg some (by kernel_rfl))
 f322 := Tryz.func116.trans (congrArg some (by kernel_rfl))
 f337 := Tryz.func205.trans (congrArg some (by kernel_rfl))
 f338 := Tryz.func206.trans (congrArg some (by kernel_rfl))
 t0 := Tryz.underlying0
 a0 := Tryz.isAgg0
 z0 := Tryz.sizeOf0
 v0 := Tryz.zeroValue0
 t2 := Tryz.underlying2
 a2 := Tryz.isAgg2
 z2 := Tryz.sizeOf2
 v2 := Tryz.zeroValue2
 t3 := Tryz.underlying3
 a3 := Tryz.isAgg3
 z3 := Tryz.sizeOf3
 v3 := Tryz.zeroValue3
 t4 := Tryz.underlying4
 a4 := Tryz.isAgg4
 z4 := Tryz.sizeOf4
 v4 := Tryz.zeroValue4
 t5 := Tryz.underlying5
 a5 := Tryz.isAgg5
 z5 := Tryz.sizeOf5
 v5 := Tryz.zeroValue5
 t9 := Tryz.underlying9
 a9 := Tryz.isAgg9
 z9 := Tryz.sizeOf9
 v9 := Tryz.zeroValue9
 t20 := Tryz.underlying20
 a20 := Tryz.isAgg20
 z20 := Tryz.sizeOf20
 v20 := Tryz.zeroValue20
 t21 := Tryz.underlying21
 a21 := Tryz.isAgg21
 z21 := Tryz.sizeOf21
 v21 := Tryz.zeroValue21
 t37 := Tryz.underlying46
 a37 := Tryz.isAgg46
 z37 := Tryz.sizeOf46
 v37 := Tryz.zeroValue46
 t46 := Tryz.underlying124
 a46 := Tryz.isAgg124
 z46 := Tryz.sizeOf124
 v46 := Tryz.zeroValue124
 t51 := Tryz.underlying199
 a51 := Tryz.isAgg199
 z51 := Tryz.sizeOf199
 v51 := Tryz.zeroValue199
 t53 := Tryz.underlying114
 a53 := Tryz.isAgg114
 z53 := Tryz.sizeOf114
 v53 := Tryz.zeroValue114
 t75 := Tryz.underlying67
 a75 := Tryz.isAgg67
 z75 := Tryz.sizeOf67
 v75 := Tryz.zeroValue67
 t85 := Tryz.underlying68
 a85 := Tryz.isAgg68
 z85 := Tryz.sizeOf68
 v85 := Tryz.zeroValue68
 t127 := Tryz.underlying240
 a127 := Tryz.isAgg240
 z127 := Tryz.sizeOf240
 v127 := Tryz.zeroValue240
 t143 := Tryz.underlying368
 a143 := Tryz.isAgg368
 z143 := Tryz.sizeOf368
 v143 := Tryz.zeroValue368
 t145 := Tryz.underlying370
 a145 := Tryz.isAgg370
 z145 := Tryz.sizeOf370
 v145 := Tryz.zeroValue370
 t167 := Tryz.underlying121
 a167 := Tryz.isAgg121
 z167 := Tryz.sizeOf121
 v167 := Tryz.zeroValue121
 t168 := Tryz.underlying125
 a168 := Tryz.isAgg125
 z168 := Tryz.sizeOf125
 v168 := Tryz.zeroValue125
 t171 := Tryz.underlying113
 a171 := Tryz.isAgg113
 z171 := Tryz.sizeOf113
 v171 := Tryz.zeroValue113
 t173 := Tryz.underlying117
 a173 := Tryz.isAgg117
 z173 := Tryz.sizeOf117
 v173 := Tryz.zeroValue117
 t175 := Tryz.underlying122
 a175 := Tryz.isAgg122
 z175 := Tryz.sizeOf122
 v175 := Tryz.zeroValue122
 t210 := Tryz.underlying223
 a210 := Tryz.isAgg223
 z210 := Tryz.sizeOf223
 v210 := Tryz.zeroValue223
 t212 := Tryz.underlying213
 a212 := Tryz.isAgg213
 z212 := Tryz.sizeOf213
 v212 := Tryz.zeroValue213
 t213 := Tryz.underlying214
 a213 := Tryz.isAgg214
 z213 := Tryz.sizeOf214
 t232 := Tryz.underlying510
 a232 := Tryz.isAgg510
 z232 := Tryz.sizeOf510
 v232 := Tryz.zeroValue510
 t233 := Tryz.underlying511
 a233 := Tryz.isAgg511
 z233 := Tryz.sizeOf511
 v233 := Tryz.zeroValue511
 g15 := by kernel_rfl
 g16 := by kernel_rfl
 g17 := by kernel_rfl
 g18 := by kernel_rfl
 g19 := by kernel_rfl
 t80 := Tryz.underlying140
 a80 := Tryz.isAgg140
 z80 := Tryz.sizeOf140
 v80 := Tryz.zeroValue140
 i0 := by kernel_rfl
 i2 := by kernel_rfl
 i3 := by kernel_rfl
 i4 := by kernel_rfl
 i5 := by kernel_rfl
 i9 := by kernel_rfl
 i20 := by kernel_rfl
 i21 := by kernel_rfl
 i37 := by kernel_rfl
 i46 := by kernel_rfl
 i51 := by kernel_rfl
 i53 := by kernel_rfl
 i75 := by kernel_rfl
 i80 := by kernel_rfl
 i85 := by kernel_rfl
 i127 := by kernel_rfl
 i143 := by kernel_rfl
 i145 := by kernel_rfl
 i167 := by kernel_rfl
 i168 := by kernel_rfl
 i171 := by kernel_rfl
 i173 := by kernel_rfl
 i175 := by kernel_rfl
 i210 := by kernel_rfl
 i212 := by kernel_rfl
 i232 := by kernel_rfl
 i233 := by kernel_rfl
 m15 := by kernel_rfl
 m16 := by kernel_rfl
 m17 := by kernel_rfl
 m18 := by kernel_rfl
 m19 := by kernel_rfl
 c0 := by kernel_rfl
 c2 := by kernel_rfl
 c3 := by kernel_rfl
 c4 := by kernel_rfl
 c5 := by kernel_rfl
 c9 := by kernel_rfl
 c20 := by kernel_rfl
 c21 := by kernel_rfl
 c37 := by kernel_rfl
 c46 := by kernel_rfl
 c51 := by kernel_rfl
 c53 := by kernel_rfl
 c75 := by kernel_rfl
 c80 := by kernel_rfl
 c85 := by kernel_rfl
 c127 := by kernel_rfl
 c143 := by kernel_rfl
 c145 := by kernel_rfl
 c167 := by kernel_rfl
 c168 := by kernel_rfl
 c171 := by kernel_rfl
 c173 := by kernel_rfl
 c175 := by kernel_rfl
 c210 := by kernel_rfl
 c212 := by kernel_rfl
 c213 := by kernel_rfl
 c232 := by kernel_rfl
 c233 := by kernel_rfl }
open Go.RowKit in
theorem Tryz.strconv_ParseInt_10_at32_ok (s : ByteArray) (hmax : s.size ≤ 9223372036854775806) (v : Int) (h : Lib.parseIntB 32 s.data.toList = .ok v) (w : World) :
  Calls Tryz.prog 23 #[.string s, .int .i64 10, .int .i64 32] w fun e w' => e = .returned (.tuple #[.int .i64 v, .nilIface]) ∧ (w' = w ∨ ∃ t, w' = Lib.bytesWorld w 5 t) := Any.strconv_ParseInt_10_at32_ok Tryz.laysC174 s hmax v h w
def Tryz.lays146_ren : Go.Shelf.Ren := ⟨fun | 146 => 21 | 221 => 38 | 268 => 59 | 138 => 60 | 143 => 61 | 195 => 111 | 197 => 112 | 218 => 113 | 219 => 114 | 260 => 207 | 217 => 208 | 225 => 209 | 224 => 210 | 267 => 211 | 266 => 326 | 314 => 327 | n => n, fun | 9 => 9 | 31 => 30 | 3 => 3 | 4 => 4 | 0 => 0 | 105 => 218 | 21 => 21 | 5 => 5 | 46 => 124 | 119 => 512 | 139 => 515 | 138 => 514 | 146 => 478 | 51 => 199 | n => n, fun | 1 => 3 | 3 => 6 | 4 => 7 | n => n⟩
theorem Tryz.lays146 : Go.Proofs.Lays.n146 Tryz.prog Tryz.lays146_ren := {
 mixed := by kernel_rfl
 f138 := Tryz.func60.trans (congrArg some (by kernel_rfl))
 f143 := Tryz.func61.trans (congrArg some (by kernel_rfl))
 f146 := Tryz.func21.trans (congrArg some (by kernel_rfl))
 f195 := Tryz.func111.trans (congrArg some (by kernel_rfl))
 f197 := Tryz.func112.trans (congrArg some (by kernel_rfl))
 f217 := Tryz.func208.trans (congrArg some (by kernel_rfl))
 f218 := Tryz.func113.trans (congrArg some (by kernel_rfl))
 f219 := Tryz.func114.trans (congrArg some (by kernel_rfl))
 f221 := Tryz.func38.trans (congrArg some (by kernel_rfl))
 f224 := Tryz.func210.trans (congrArg some (by kernel_rfl))
 f225 := Tryz.func209.trans (congrArg some (by kernel_rfl))
 f260 := Tryz.func207.trans (congrArg some (by kernel_rfl))
 f266 := Tryz.func326.trans (congrArg some (by kernel_rfl))
 f267 := Tryz.func211.trans (congrArg some (by kernel_rfl))
 f268 := Tryz.func59.trans (congrArg some (by kernel_rfl))
 f314 := Tryz.func327.trans (congrArg some (by kernel_rfl))
 t0 := Tryz.underlying0
 a0 := Tryz.isAgg0
 z0 := Tryz.sizeOf0
 v0 := Tryz.zeroValue0
 t3 := Tryz.underlying3
 a3 := Tryz.isAgg3
 z3 := Tryz.sizeOf3
 v3 := Tryz.zeroValue3
 t4 := Tryz.underlying4
 a4 := Tryz.isAgg4
 z4 := Tryz.sizeOf4
 v4 := Tryz.zeroValue4
 t5 := Tryz.underlying5
 a5 := Tryz.isAgg5
 z5 := Tryz.sizeOf5
 v5 := Tryz.zeroValue5
 t9 := Tryz.underlying9
 a9 := Tryz.isAgg9
 z9 := Tryz.sizeOf9
 v9 := Tryz.zeroValue9
 t21 := Tryz.underlying21
 a21 := Tryz.isAgg21
 z21 := Tryz.sizeOf21
 v21 := Tryz.zeroValue21
 t31 := Tryz.underlying30
 a31 := Tryz.isAgg30
 z31 := Tryz.sizeOf30
 v31 := Tryz.zeroValue30
 t46 := Tryz.underlying124
 a46 := Tryz.isAgg124
 z46 := Tryz.sizeOf124
 v46 := Tryz.zeroValue124
 t51 := Tryz.underlying199
 a51 := Tryz.isAgg199
 z51 := Tryz.sizeOf199
 v51 := Tryz.zeroValue199
 t105 := Tryz.underlying218
 a105 := Tryz.isAgg218
 z105 := Tryz.sizeOf218
 v105 := Tryz.zeroValue218
 t119 := Tryz.underlying512
 a119 := Tryz.isAgg512
 z119 := Tryz.sizeOf512
 t138 := Tryz.underlying514
 a138 := Tryz.isAgg514
 z138 := Tryz.sizeOf514
 v138 := Tryz.zeroValue514
 t139 := Tryz.underlying515
 a139 := Tryz.isAgg515
 z139 := Tryz.sizeOf515
 v139 := Tryz.zeroValue515
 t146 := Tryz.underlying478
 a146 := Tryz.isAgg478
 z146 := Tryz.sizeOf478
 v146 := Tryz.zeroValue478
 g1 := by kernel_rfl
 g3 := by kernel_rfl
 g4 := by kernel_rfl }
open Go.RowKit Go.Lib in
theorem Tryz.strings_Split (s sep : ByteArray) (m : Int) (w : World) (hs : s.size < 4294967281) (hm : w.cell? ⟨3, 0, none⟩ = some (.int .i64 m)) (h1 : 1 ≤ sep.size) :
  Calls Tryz.prog 21 #[.string s, .string sep] w fun e w' =>
   e = .returned (.slice (some ⟨w.heap.size, 0, none⟩) (Lib.countB s sep + 1) (Lib.countB s sep + 1)) ∧ w' = w.alloc (.cells ((Lib.splitB sep 0 (Lib.countB s sep) s).map Value.string).toArray 9) := Any.strings_Split Tryz.lays146 (by kernel_rfl) s sep m w hs hm h1
end Go.Proofs
namespace Go.HL
open Go
noncomputable section
namespace Dr
noncomputable abbrev P : Program := Go.Proofs.Tryz.prog
noncomputable def tab : Tab := [(2, .int .i64, 1), (3, .int .i64, 1), (4, .bool, 1), (5, .int .u8, 1), (9, .str, 1), (21, .int .i32, 1), (22, .slice 21, 1), (24, .ref, 1), (30, .slice 9, 1), (37, .slice 22, 1), (38, .struct [(0, 3), (1, 4), (2, 3), (3, 3), (4, 3), (5, 3), (6, 3)], 7), (39, .struct [(0, 3), (1, 4), (2, 3), (3, 3), (4, 3), (5, 3), (6, 3)], 7), (40, .ref, 1), (41, .struct [(0, 35), (1, 37), (2, 39), (9, 40)], 10), (42, .struct [(0, 35), (1, 37), (2, 39), (9, 40)], 10), (43, .array 3 42, 30), (44, .struct [(0, 43), (30, 4)], 31), (45, .struct [(0, 43), (30, 4)], 31), (46, .slice 5, 1), (48, .ref, 1), (49, .struct [(0, 3), (1, 3), (2, 3), (3, 4), (4, 48)], 5), (50, .struct [(0, 3), (1, 3), (2, 3), (3, 4), (4, 48)], 5), (61, .map 9 50, 1)]
theorem hT : tabOk P tab = true := by kernel_rfl
theorem z2 : zeroCells? P 2 = some [.int .i64 0] := by kernel_rfl
theorem z3 : zeroCells? P 3 = some [.int .i64 0] := by kernel_rfl
theorem z4 : zeroCells? P 4 = some [.bool false] := by kernel_rfl
theorem z5 : zeroCells? P 5 = some [.int .u8 0] := by kernel_rfl
theorem z9 : zeroCells? P 9 = some [.str 0 0] := by kernel_rfl
theorem b9 : P.bytesOf 9 = 16 := by kernel_rfl
theorem z21 : zeroCells? P 21 = some [.int .i32 0] := by kernel_rfl
theorem b21 : P.bytesOf 21 = 4 := by kernel_rfl
theorem z22 : zeroCells? P 22 = some [.nils] := by kernel_rfl
theorem b22 : P.bytesOf 22 = 24 := by kernel_rfl
theorem z24 : zeroCells? P 24 = some [.nilp] := by kernel_rfl
theorem z30 : zeroCells? P 30 = some [.nils] := by kernel_rfl
theorem z37 : zeroCells? P 37 = some [.nils] := by kernel_rfl
theorem z38 : zeroCells? P 38 = some [.int .i64 0, .bool false, .int .i64 0, .int .i64 0, .int .i64 0, .int .i64 0, .int .i64 0] := by kernel_rfl
theorem z39 : zeroCells? P 39 = some [.int .i64 0, .bool false, .int .i64 0, .int .i64 0, .int .i64 0, .int .i64 0, .int .i64 0] := by kernel_rfl
theorem z40 : zeroCells? P 40 = some [.nilp] := by kernel_rfl
theorem z41 : zeroCells? P 41 = some [.nilm, .nils, .int .i64 0, .bool false, .int .i64 0, .int .i64 0, .int .i64 0, .int .i64 0, .int .i64 0, .nilp] := by kernel_rfl
theorem z42 : zeroCells? P 42 = some [.nilm, .nils, .int .i64 0, .bool false, .int .i64 0, .int .i64 0, .int .i64 0, .int .i64 0, .int .i64 0, .nilp] := by kernel_rfl
theorem z43 : zeroCells? P 43 = some [.nilm, .nils, .int .i64 0, .bool false, .int .i64 0, .int .i64 0, .int .i64 0, .int .i64 0, .int .i64 0, .nilp, .nilm, .nils, .int .i64 0, .bool false, .int .i64 0, .int .i64 0, .int .i64 0, .int .i64 0, .int .i64 0, .nilp, .nilm, .nils, .int .i64 0, .bool false, .int .i64 0, .int .i64 0, .int .i64 0, .int .i64 0, .int .i64 0, .nilp] := by kernel_rfl
theorem z44 : zeroCells? P 44 = some [.nilm, .nils, .int .i64 0, .bool false, .int .i64 0, .int .i64 0, .int .i64 0, .int .i64 0, .int .i64 0, .nilp, .nilm, .nils, .int .i64 0, .bool false, .int .i64 0, .int .i64 0, .int .i64 0, .int .i64 0, .int .i64 0, .nilp, .nilm, .nils, .int .i64 0, .bool false, .int .i64 0, .int .i64 0, .int .i64 0, .int .i64 0, .int .i64 0, .nilp, .bool false] := by kernel_rfl
theorem z45 : zeroCells? P 45 = some [.nilm, .nils, .int .i64 0, .bool false, .int .i64 0, .int .i64 0, .int .i64 0, .int .i64 0, .int .i64 0, .nilp, .nilm, .nils, .int .i64 0, .bool false, .int .i64 0, .int .i64 0, .int .i64 0, .int .i64 0, .int .i64 0, .nilp, .nilm, .nils, .int .i64 0, .bool false, .int .i64 0, .int .i64 0, .int .i64 0, .int .i64 0, .int .i64 0, .nilp, .bool false] := by kernel_rfl
theorem z46 : zeroCells? P 46 = some [.nils] := by kernel_rfl
theorem z48 : zeroCells? P 48 = some [.nilf] := by kernel_rfl
theorem z49 : zeroCells? P 49 = some [.int .i64 0, .int .i64 0, .int .i64 0, .bool false, .nilf] := by kernel_rfl
theorem z50 : zeroCells? P 50 = some [.int .i64 0, .int .i64 0, .int .i64 0, .bool false, .nilf] := by kernel_rfl
theorem z61 : zeroCells? P 61 = some [.nilm] := by kernel_rfl
theorem z67 : zeroCells? P 67 = some [.nili] := by kernel_rfl
theorem mask3 : Nat.lor (maskOf Go.Proofs.Tryz.f3) (Nat.sub (Nat.pow 2 4) 1) = 2417851639246867715342095 := by kernel_rfl
theorem ca4 : Callable P 4 := ⟨_, _, Go.Proofs.Tryz.func4, rfl, by kernel_rfl, rfl⟩
theorem mask5 : Nat.lor (maskOf Go.Proofs.Tryz.f5) (Nat.sub (Nat.pow 2 0) 1) = 103 := by kernel_rfl
theorem ca5 : Callable P 5 := ⟨_, _, Go.Proofs.Tryz.func5, rfl, by kernel_rfl, rfl⟩
theorem mask6 : Nat.lor (maskOf Go.Proofs.Tryz.f6) (Nat.sub (Nat.pow 2 1) 1) = 1045 := by kernel_rfl
theorem ca6 : Callable P 6 := ⟨_, _, Go.Proofs.Tryz.func6, rfl, by kernel_rfl, rfl⟩
theorem mask7 : Nat.lor (maskOf Go.Proofs.Tryz.f7) (Nat.sub (Nat.pow 2 2) 1) = 4503738140592115 := by kernel_rfl
theorem ca7 : Callable P 7 := ⟨_, _, Go.Proofs.Tryz.func7, rfl, by kernel_rfl, rfl⟩
theorem mask8 : Nat.lor (maskOf Go.Proofs.Tryz.f8) (Nat.sub (Nat.pow 2 2) 1) = 19 := by kernel_rfl
theorem ca8 : Callable P 8 := ⟨_, _, Go.Proofs.Tryz.func8, rfl, by kernel_rfl, rfl⟩
theorem mask12 : Nat.lor (maskOf Go.Proofs.Tryz.f12) (Nat.sub (Nat.pow 2 1) 1) = 4853490551431591150755325 := by kernel_rfl
theorem ca12 : Callable P 12 := ⟨_, _, Go.Proofs.Tryz.func12, rfl, by kernel_rfl, rfl⟩
theorem ca15 : Callable P 15 := ⟨_, _, Go.Proofs.Tryz.func15, rfl, by kernel_rfl, rfl⟩
theorem mask16 : Nat.lor (maskOf Go.Proofs.Tryz.f16) (Nat.sub (Nat.pow 2 1) 1) = 1049533 := by kernel_rfl
theorem ca16 : Callable P 16 := ⟨_, _, Go.Proofs.Tryz.func16, rfl, by kernel_rfl, rfl⟩
theorem mask17 : Nat.lor (maskOf Go.Proofs.Tryz.f17) (Nat.sub (Nat.pow 2 1) 1) = 262205 := by kernel_rfl
theorem ca17 : Callable P 17 := ⟨_, _, Go.Proofs.Tryz.func17, rfl, by kernel_rfl, rfl⟩
theorem ca18 : Callable P 18 := ⟨_, _, Go.Proofs.Tryz.func18, rfl, by kernel_rfl, rfl⟩
theorem ca21 : Callable P 21 := ⟨_, _, Go.Proofs.Tryz.func21, rfl, by kernel_rfl, rfl⟩
theorem mask22 : Nat.lor (maskOf Go.Proofs.Tryz.f22) (Nat.sub (Nat.pow 2 2) 1) = 19 := by kernel_rfl
theorem ca22 : Callable P 22 := ⟨_, _, Go.Proofs.Tryz.func22, rfl, by kernel_rfl, rfl⟩
theorem ca23 : Callable P 23 := ⟨_, _, Go.Proofs.Tryz.func23, rfl, by kernel_rfl, rfl⟩
theorem ca24 : Callable P 24 := ⟨_, _, Go.Proofs.Tryz.func24, rfl, by kernel_rfl, rfl⟩
theorem mask39 : Nat.lor (maskOf Go.Proofs.Tryz.f39) (Nat.sub (Nat.pow 2 2) 1) = 66483 := by kernel_rfl
theorem ca39 : Callable P 39 := ⟨_, _, Go.Proofs.Tryz.func39, rfl, by kernel_rfl, rfl⟩
theorem mask26 : Nat.lor (maskOf Go.Proofs.Tryz.f26) (Nat.sub (Nat.pow 2 3) 1) = 32967 := by kernel_rfl
theorem ca26 : Callable P 26 := ⟨_, _, Go.Proofs.Tryz.func26, rfl, by kernel_rfl, rfl⟩
theorem mask27 : Nat.lor (maskOf Go.Proofs.Tryz.f27) (Nat.sub (Nat.pow 2 3) 1) = 16777671 := by kernel_rfl
theorem ca27 : Callable P 27 := ⟨_, _, Go.Proofs.Tryz.func27, rfl, by kernel_rfl, rfl⟩
theorem mask28 : Nat.lor (maskOf Go.Proofs.Tryz.f28) (Nat.sub (Nat.pow 2 3) 1) = 33535106747335 := by kernel_rfl
theorem ca28 : Callable P 28 := ⟨_, _, Go.Proofs.Tryz.func28, rfl, by kernel_rfl, rfl⟩
theorem ca43 : Callable P 43 := ⟨_, _, Go.Proofs.Tryz.func43, rfl, by kernel_rfl, rfl⟩
theorem mask46 : Nat.lor (maskOf Go.Proofs.Tryz.f46) (Nat.sub (Nat.pow 2 1) 1) = 5 := by kernel_rfl
theorem ca46 : Callable P 46 := ⟨_, _, Go.Proofs.Tryz.func46, rfl, by kernel_rfl, rfl⟩
theorem mask47 : Nat.lor (maskOf Go.Proofs.Tryz.f47) (Nat.sub (Nat.pow 2 4) 1) = 1099511628559 := by kernel_rfl
theorem ca47 : Callable P 47 := ⟨_, _, Go.Proofs.Tryz.func47, rfl, by kernel_rfl, rfl⟩
noncomputable def zl : List (Nat × List HVal) := [(2, [.int .i64 0]), (3, [.int .i64 0]), (4, [.bool false]), (5, [.int .u8 0]), (9, [.str 0 0]), (21, [.int .i32 0]), (22, [.nils]), (24, [.nilp]), (30, [.nils]), (37, [.nils]), (38, [.int .i64 0, .bool false, .int .i64 0, .int .i64 0, .int .i64 0, .int .i64 0, .int .i64 0]), (39, [.int .i64 0, .bool false, .int .i64 0, .int .i64 0, .int .i64 0, .int .i64 0, .int .i64 0]), (40, [.nilp]), (41, [.nilm, .nils, .int .i64 0, .bool false, .int .i64 0, .int .i64 0, .int .i64 0, .int .i64 0, .int .i64 0, .nilp]), (42, [.nilm, .nils, .int .i64 0, .bool false, .int .i64 0, .int .i64 0, .int .i64 0, .int .i64 0, .int .i64 0, .nilp]), (43, [.nilm, .nils, .int .i64 0, .bool false, .int .i64 0, .int .i64 0, .int .i64 0, .int .i64 0, .int .i64 0, .nilp, .nilm, .nils, .int .i64 0, .bool false, .int .i64 0, .int .i64 0, .int .i64 0, .int .i64 0, .int .i64 0, .nilp, .nilm, .nils, .int .i64 0, .bool false, .int .i64 0, .int .i64 0, .int .i64 0, .int .i64 0, .int .i64 0, .nilp]), (44, [.nilm, .nils, .int .i64 0, .bool false, .int .i64 0, .int .i64 0, .int .i64 0, .int .i64 0, .int .i64 0, .nilp, .nilm, .nils, .int .i64 0, .bool false, .int .i64 0, .int .i64 0, .int .i64 0, .int .i64 0, .int .i64 0, .nilp, .nilm, .nils, .int .i64 0, .bool false, .int .i64 0, .int .i64 0, .int .i64 0, .int .i64 0, .int .i64 0, .nilp, .bool false]), (45, [.nilm, .nils, .int .i64 0, .bool false, .int .i64 0, .int .i64 0, .int .i64 0, .int .i64 0, .int .i64 0, .nilp, .nilm, .nils, .int .i64 0, .bool false, .int .i64 0, .int .i64 0, .int .i64 0, .int .i64 0, .int .i64 0, .nilp, .nilm, .nils, .int .i64 0, .bool false, .int .i64 0, .int .i64 0, .int .i64 0, .int .i64 0, .int .i64 0, .nilp, .bool false]), (46, [.nils]), (48, [.nilf]), (49, [.int .i64 0, .int .i64 0, .int .i64 0, .bool false, .nilf]), (50, [.int .i64 0, .int .i64 0, .int .i64 0, .bool false, .nilf]), (61, [.nilm]), (67, [.nili])]
theorem hX : TK P tab zl := ⟨hT, z2, z3, z4, z5, z9, z21, z22, z24, z30, z37, z38, z39, z40, z41, z42, z43, z44, z45, z46, z48, z49, z50, z61, z67, trivial⟩
end Dr
end
end Go.HL
namespace Go.HL
open Go Go.Proofs
noncomputable section
namespace Dr
theorem tab_ints {σ : Places} {k : IntKind} : ∀ {l : List Int} {m : List Value}, VRels σ (l.map fun z => .int k z) m → m = l.map fun z => .int k z
 | [], m, h => h.nil_inv
 | z :: l, m, h => by
  obtain ⟨v, m', rfl, h1, h2⟩ := h.cons_inv
  rw [tab_ints h2, show v = .int k z from h1]; rfl
theorem powG : Tryz.prog.globalNamed "internal/strconv.uint64pow10" = some 0 := by kernel_rfl
theorem pow_tab {σ : Places} {h : Heap} {w : World} (hr : Rel P σ h w) (hg : h.get 0 = some powO) (hgs : 0 < P.globals.size) : Lib.TabIs P w "internal/strconv.uint64pow10" .u64 Lib.pow10Tab := by
 obtain ⟨p, hp, hb, h0⟩ := hr.glob 0 hgs
 obtain ⟨C, elem, fr, e1, e2, _, _, _, e3, _⟩ := hr.obj 0 powO p hg rfl hp
 obtain ⟨_, e3⟩ := e3 rfl
 rw [h0, List.drop_zero, List.take_of_length_le (by rw [Array.length_toList, e3]; exact Nat.le_refl _)] at e2
 unfold Lib.TabIs World.var?
 rw [show P.globalNamed "internal/strconv.uint64pow10" = some 0 from powG]
 show (match w.heap[0]? with | some (.cells cs _ _) => some cs | _ => none) = _
 rw [← hb, e1]
 have e4 : C.toList = Lib.pow10Tab.map fun z => .int .u64 z := by
  refine tab_ints (σ := σ) (k := .u64) ?_
  have : powL = Lib.pow10Tab.map fun z => HVal.int .u64 z := by
   unfold powL Lib.pow10Tab
   rw [List.map_map]; rfl
  rw [← this]; exact e2
 show some C = some _
 rw [← e4]
theorem join_sound {args : List HVal} {h : Heap} {v : HVal} (a : JoinIs args h v) {σ : Places} {w : World} {vs : List Value} (hr : Rel P σ h w) (hv : VRels σ args vs) : Calls P 43 ⟨vs⟩ w fun e w' => Step P σ h w σ h w' ∧ CRel σ (.ret v) e := by
 obtain ⟨s, l, rfl, hne, hb, hlen, hll, hrd, rfl⟩ := a
 obtain ⟨v1, m, rfl, g1, hv⟩ := hv.cons_inv
 obtain ⟨v2, m, rfl, g2, hv⟩ := hv.cons_inv
 have := hv.nil_inv
 subst this
 have g2 : v2 = .string (toS [32]) := str_val (l := [32]) (by simp) g2
 subst g2
 have h0 : 0 < l.length := List.length_pos_iff.2 hne
 have row := hrd.slice.row
 rw [List.length_map] at row
 obtain ⟨k, off, cap, rfl, _⟩ := row 0 (sB l[0]) (by rw [List.getElem?_map, List.getElem?_eq_getElem h0]; rfl)
 obtain ⟨p, c, hp, rfl, hc, _⟩ := g1
 have hcell : ∀ (j : Nat) (x : ByteArray), (l.map toS)[j]? = some x → w.cell? ⟨p.blk, p.base + off + j, none⟩ = some (.string x) := by
  intro j x hx
  rw [List.getElem?_map] at hx
  cases hj : l[j]? with
  | none => rw [hj] at hx; cases hx
  | some y =>
   rw [hj] at hx
   cases hx
   obtain ⟨k', off', cap', e, hrow⟩ := row j (sB y) (by rw [List.getElem?_map, hj]; rfl)
   injection e with e1 e2
   subst e1 e2
   obtain ⟨u, hu, hvu, _⟩ := load1_rel hr hp (hrow.nth (j := 0) rfl)
   have hy : y ∈ l := List.mem_of_getElem? hj
   rw [str_val (hb y hy) hvu] at hu
   rw [← hu]
   congr 2
   show p.base + off + j = p.base + (off + j * 1 + 0)
   omega
 have hjl : (Lib.join ((l.map toS).map (·.data.toList)) (toS [32]).data.toList) = (joinT l).map UInt8.ofNat := join_eq l
 have hc' := Tryz.strings_Join p.blk (p.base + off) c (l.map toS) (toS [32]) w hcell (hr.inb k p hp) (by rw [List.length_map]; omega) (by rw [List.length_map]; exact hc) (by rw [hjl, List.length_map]; omega)
 rw [List.length_map] at hc'
 refine hc'.mono fun e w' ⟨he, hw⟩ => ⟨step_closed hr hw, ?_⟩
 refine ⟨_, he, ?_⟩
 have := val_str (σ := σ) (joinT_lt hb)
 rw [hjl]
 exact this
theorem itoa_sound {n : Int} (h1 : -9223372036854775808 ≤ n) (h2 : n ≤ 9223372036854775807) {h : Heap} {σ : Places} {w : World} {vs : List Value} (hr : Rel P σ h w) (hg : h.get 0 = some powO) (hgs : 0 < P.globals.size) (hv : VRels σ [.int .i64 n] vs) : Calls P 15 ⟨vs⟩ w fun e w' => Step P σ h w σ h w' ∧ CRel σ (.ret (strB (decI n))) e := by
 obtain ⟨v1, m, rfl, g1, hv⟩ := hv.cons_inv
 have := hv.nil_inv
 subst this
 have g1 : v1 = .int .i64 n := g1
 subst g1
 refine (Tryz.strconv_Itoa n h1 h2 w (pow_tab hr hg hgs)).mono fun e w' ⟨he, k, os, hw⟩ => ⟨step_closed hr (by rw [hw]; exact below_grow w k os), ?_⟩
 refine ⟨_, he, ?_⟩
 rw [← itoa_eq, ← toS_toNat]
 exact val_str (toNat_lt _)
theorem fmt_sound {n : Int} (h1 : -9223372036854775808 ≤ n) (h2 : n ≤ 9223372036854775807) {h : Heap} {σ : Places} {w : World} {vs : List Value} (hr : Rel P σ h w) (hg : h.get 0 = some powO) (hgs : 0 < P.globals.size) (hv : VRels σ [.int .i64 n, .int .i64 10] vs) : Calls P 24 ⟨vs⟩ w fun e w' => Step P σ h w σ h w' ∧ CRel σ (.ret (strB (decI n))) e := by
 obtain ⟨v1, m, rfl, g1, hv⟩ := hv.cons_inv
 obtain ⟨v2, m, rfl, g2, hv⟩ := hv.cons_inv
 have := hv.nil_inv
 subst this
 have g1 : v1 = .int .i64 n := g1
 have g2 : v2 = .int .i64 10 := g2
 subst g1 g2
 refine (Tryz.strconv_FormatInt_10 n h1 h2 w (pow_tab hr hg hgs)).mono fun e w' ⟨he, k, os, hw⟩ => ⟨step_closed hr (by rw [hw]; exact below_grow w k os), ?_⟩
 refine ⟨_, he, ?_⟩
 rw [← itoa_eq, ← toS_toNat]
 exact val_str (toNat_lt _)
theorem split_sound {b : List Nat} {c : Nat} (hb : ∀ x ∈ b, x < 256) (hc : c < 256) (hl : b.length ≤ 1000000) {h : Heap} {σ : Places} {w : World} {vs : List Value} (hr : Rel P σ h w) (hg : h.get 3 = some lenO) (hgs : 3 < P.globals.size) (hv : VRels σ [strB b, .str 1 c] vs) :
  Calls P 21 ⟨vs⟩ w fun e w' => ∃ τ, Step P σ h w τ (h.new (.cells ((cutAt c b).map strB) 9 false true)) w' ∧ CRel τ (.ret (.slice h.next 0 (cutAt c b).length (some (cutAt c b).length))) e := by
 obtain ⟨v1, m, rfl, g1, hv⟩ := hv.cons_inv
 obtain ⟨v2, m, rfl, g2, hv⟩ := hv.cons_inv
 have := hv.nil_inv
 subst this
 have g1 := str_val hb g1
 have ec : codeN [c] 0 = c := by simp [codeN]
 have g2 : v2 = .string (toS [c]) := str_val (l := [c]) (by intro x hx; simp at hx; omega) (by show VRel σ (.str 1 (codeN [c] 0)) v2; rw [ec]; exact g2)
 subst g1 g2
 obtain ⟨u, hu, n, rfl, _, _⟩ := cell_of hr hg hgs
 have hsz : (toS b).size < 4294967281 := by rw [toS_size]; omega
 have h1 : 1 ≤ (toS [c]).size := by rw [toS_size]; simp
 have hN : Lib.countB (toS b) (toS [c]) + 1 = (cutAt c b).length := by
  have h3 := Lib.splitB_all (toS [c]) h1 0 (Lib.countB (toS b) (toS [c])) (toS b) rfl
  rw [split_cut hc hb, List.length_map] at h3
  exact h3.symm
 refine (Tryz.strings_Split (toS b) (toS [c]) n w hsz hu h1).mono fun e w' ⟨he, hw⟩ => ?_
 rw [split_cut hc hb] at hw
 rw [hN] at he
 subst hw
 let p : Place := ⟨w.heap.size, 0, 0, (cutAt c b).length⟩
 have hby : ∀ x ∈ cutAt c b, ∀ y ∈ x, y < 256 := fun x hx y hy => hb y ((cutAt_sub c b x hx).2 y hy)
 have hvs : ∀ {l : List (List Nat)}, (∀ x ∈ l, ∀ y ∈ x, y < 256) → ∀ τ : Places, VRels τ (l.map strB) ((l.map toS).map Value.string) := by
  intro l
  induction l with
  | nil => intro _ τ; exact VRels.nil
  | cons x l ih => intro hx τ; exact VRels.cons (val_str (hx x (by simp))) (ih (fun y hy => hx y (by simp [hy])) τ)
 have s1 : Step P σ h w (σ.upd h.next p) (h.new (.cells ((cutAt c b).map strB) 9 false true)) (w.alloc (.cells (((cutAt c b).map toS).map Value.string).toArray 9)) := by
  refine Step.new hr rfl ⟨_, 9, (0, 0), rfl, ?_, ?_, fun _ => rfl, fun _ => ⟨rfl, by simp [p]⟩, fun _ => ⟨rfl, by simp⟩, (fun e => by cases e), .inl rfl⟩
  ·show VRels _ _ ((List.drop 0 (((cutAt c b).map toS).map Value.string)).take ((cutAt c b).map strB).length)
   rw [List.drop_zero, List.take_of_length_le (by simp)]
   exact hvs hby _
  ·intro x hx
   obtain ⟨y, _, rfl⟩ := List.mem_map.1 hx
   rfl
 refine ⟨_, s1, _, he, p, (cutAt c b).length, σ.upd_same _ _, rfl, Nat.le_refl _, rfl⟩
def SplitIs (args : List HVal) (h : Heap) (r : CRes × Heap) : Prop := ∃ b c, args = [strB b, .str 1 c] ∧ (∀ x ∈ b, x < 256) ∧ c < 256 ∧ b.length ≤ 1000000 ∧ h.get 3 = some lenO ∧ r = (.ret (.slice h.next 0 (cutAt c b).length (some (cutAt c b).length)), h.new (.cells ((cutAt c b).map strB) 9 false true))
theorem SplitIs.eq {args : List HVal} {h : Heap} {r r' : CRes × Heap} (a : SplitIs args h r) (b : SplitIs args h r') : r = r' := by
 obtain ⟨b, c, rfl, hb, _, _, _, rfl⟩ := a
 obtain ⟨b', c', e, hb', _, _, _, rfl⟩ := b
 injection e with e1 e2
 injection e2 with e2
 injection e2 with _ e2
 rw [strB_inj hb hb' e1, e2]
theorem below_bytes (w : World) (e : Nat) (s : ByteArray) : RowKit.Below w.heap.size w (Lib.bytesWorld w e s) := by
 unfold Lib.bytesWorld
 have e1 : w.drew.heap.size = w.heap.size := rfl
 rw [← e1, alloc_freeze]
 exact RowKit.Below.alloc ((RowKit.Below.refl _ w).drew) (Nat.le_refl _) _
theorem parse32_sound {b : List Nat} {v : Int} (hb : ∀ x ∈ b, x < 256) (hl : b.length ≤ 1000000) (hp : Lib.parseIntB 32 (b.map UInt8.ofNat) = .ok v) {h : Heap} {σ : Places} {w : World} {vs : List Value} (hr : Rel P σ h w) (hv : VRels σ [strB b, .int .i64 10, .int .i64 32] vs) :
  Calls P 23 ⟨vs⟩ w fun e w' => Step P σ h w σ h w' ∧ CRel σ (.ret (.tuple [.int .i64 v, .nili])) e := by
 obtain ⟨v1, m, rfl, g1, hv⟩ := hv.cons_inv
 obtain ⟨v2, m, rfl, g2, hv⟩ := hv.cons_inv
 obtain ⟨v3, m, rfl, g3, hv⟩ := hv.cons_inv
 have := hv.nil_inv
 subst this
 have g1 := str_val hb g1
 have g2 : v2 = .int .i64 10 := g2
 have g3 : v3 = .int .i64 32 := g3
 subst g1 g2 g3
 refine (Tryz.strconv_ParseInt_10_at32_ok (toS b) (by rw [toS_size]; omega) v hp w).mono fun e w' ⟨he, hw⟩ => ⟨step_closed hr ?_, _, he, [.int .i64 v, .nilIface], rfl, VRels.cons rfl (VRels.cons rfl VRels.nil)⟩
 rcases hw with rfl | ⟨t, rfl⟩
 ·exact RowKit.Below.refl _ _
 ·exact below_bytes w 5 t
def libF (f : Nat) : Bool := Nat.beq f 4 || (Nat.beq f 18 || (Nat.beq f 15 || (Nat.beq f 43 || (Nat.beq f 21 || (Nat.beq f 23 || Nat.beq f 24)))))
end Dr
end
end Go.HL
namespace Go.HL
open Go
noncomputable section
def lookE (P : Program) (t : TypeId) (es : List HEnt) (i : HVal) (ok : Bool) : Option HVal :=
 match P.underlying t with
 | some (.map kt et) => bcase (simpleKey P kt) (bcase (keyOk P kt i)
   (ob (zeroH P et) fun z => ob (findH i (keyEqAt P kt) es) fun r =>
     match r with
     | some e => some (bcase ok (.tuple [e.2.val, .bool true]) e.2.val)
     | none => some (bcase ok (.tuple [z, .bool false]) z)) none) none
 | _ => none
def mapO (k : Nat) (es : List HEnt) (c : Nat) (r : Bool) : Part where
 foot j := j = k
 holds h := h.get k = some (.map es c r)
 loc e' hh := by rw [e' k rfl]; exact hh
 live {h j} hh e' := ⟨.map es c r, by rw [show j = k from e']; exact hh⟩
theorem V.lookE {P : Program} {o : Oper} {L : Sts} {h : Heap} {t k c : Nat} {x i : Operand} {ok r : Bool} {es : List HEnt} {key v : HVal} (ho : o.op = .lookup t x i ok) (hx : evL P L x = some (.map k)) (hi : evL P L i = some key) (hg : h.get k = some (.map es c r)) (hv : HL.lookE P t es key ok = some v) : OpV P o L h v h := OpV.mk ho fun ev ha d ty ps aft g => by
 have he : h.entries k = some (es, c, r) := by simp only [Heap.entries, hg, obS, HObj.isMap]
 have : lookupH P t (.map k) key ok h = some (.val v h) := by
  unfold HL.lookE at hv
  unfold lookupH
  split at hv
  ·rename_i kt et hu
   rw [hu]
   simp only at hv ⊢
   cases h1 : simpleKey P kt with
   | false => rw [h1] at hv; cases hv
   | true =>
    rw [h1] at hv
    simp only [bcT] at hv ⊢
    cases h2 : keyOk P kt key with
    | false => rw [h2] at hv; cases hv
    | true =>
     rw [h2] at hv
     simp only [bcT] at hv ⊢
     obtain ⟨z, e1, hv⟩ := ob_eq_some.1 hv
     obtain ⟨f, e2, hv⟩ := ob_eq_some.1 hv
     rw [e1, he]
     simp only [obS, e2]
     cases f with
     | none => cases hv; rfl
     | some e => cases hv; rfl
  ·cases hv
 simp only [opH, evS ha hx, evS ha hi, this]
section
variable {P : Program} {K : CallFn} {E : Env0} {ops : Array Oper} {o : Oper} {l : List Oper} {L L' : SL} {B B' : List Blk} {G G' G2 : List Part} {m n : Nat} {R : SL → List Blk → List Part → Prop} {tab : Tab} {zl : List (Nat × List HVal)} {pl : List Nat} {al : List AX} {RA : List AX → SL → List Blk → List Part → Prop}
theorem WDX.readG {p d : Nat} {v : HVal} {g : Part} (hi0 : ops[p]? = some o) (hc : isChange P o = false) (hrd : isRead P o = true) (hd : o.dst = some d) (hG : Pick G g G2) (hs : HVal.beq v v = true) (hw : wantX ops o L = some true) (hf : fits o.dst n = true) (hop : ∀ κ L0, RepL κ L L0 → ∀ h, g.holds h → OpV P o L0 h v h)
  (hk : WDX P K E tab ops pl (.rdG p g :: al) (putX o.dst (.ext v) L) B G m n RA) : WDX P K E tab ops (p :: pl) al L B G m n RA := by
 refine ⟨fun κ h L0 al0 r M ha => WD.cons hi0 (Op1.mono ((qv (R := fun L' B' G' => L' = putX o.dst (.ext v) L ∧ B' = B ∧ G' = G) hw hf (fun κ h L0 r M => hop κ L0 r h (M.chg.all _ (List.mem_append_right _ hG.mem))) ⟨rfl, rfl, rfl⟩).run κ h L0 r M) ?_)⟩
 rintro L1 h1 ⟨κ', L', B', G', ⟨t, rfl⟩, r', M', rfl, rfl, rfl⟩
 refine ⟨.read p o L0 v :: al0, ?_, hk.run _ h1 L1 _ r' M' ⟨⟨rfl, hs, fun h2 hh => hop _ _ r h2 hh⟩, ha.more⟩⟩
 have hl : lookX (putX o.dst (.ext v) L) d = some (.ext v) := by
  rw [hd]
  show bcase (Nat.beq d d) (some (SV.ext v)) _ = _
  rw [Nat.beq_refl]; rfl
 obtain ⟨u, g1, g2⟩ := r'.look hl
 cases g2
 unfold upd
 rw [hc, hrd, bcF, bcT, hd]
 simp only [wantX_eq r hw, g1]
theorem WDX.strG {p d s t e e' u w q : Nat} {x : Operand} {v : HVal} {bs : List Nat} (hX : TK P tab zl) (hi0 : ops[p]? = some o) (hc : isChange P o = false) (hrd : isRead P o = true) (hd : o.dst = some d) (ho : o.op = .convert s t x) (hs : tyL tab s = some (.slice e, u)) (he : tyL tab e = some (.int .u8, q)) (ht : tyL tab t = some (.str, w)) (hx : evH P L x = some v)
  (hG : Pick G (ownS e' 1 v (bs.map bcell)) G2) (hn : ∀ k, v ≠ .rest k) (hb : ∀ b ∈ bs, b < 256) (hw : wantX ops o L = some true) (hf : fits o.dst n = true) (hk : WDX P K E tab ops pl (.rdG p (ownS e' 1 v (bs.map bcell)) :: al) (putX o.dst (.ext (.str bs.length (codeN bs 0))) L) B G m n RA) : WDX P K E tab ops (p :: pl) al L B G m n RA :=
 .readG hi0 hc hrd hd hG (suB rfl) hw hf (fun κ L0 r h hh => by
  obtain ⟨⟨d, ha⟩, _⟩ := hh
  exact V.strOf hX.tab ho hs he ht (evH_eq r hx) hn ha (bcells_flatten bs) hb) hk
theorem WDX.lookE {p d t k c : Nat} {x i : Operand} {ok r : Bool} {es : List HEnt} {key v : HVal} (hi0 : ops[p]? = some o) (hc : isChange P o = false) (hrd : isRead P o = true) (hd : o.dst = some d) (ho : o.op = .lookup t x i ok) (hx : evH P L x = some (.map k)) (hi : evH P L i = some key) (hG : Pick G (mapO k es c r) G2) (hv : HL.lookE P t es key ok = some v) (hs : HVal.beq v v = true) (hw : wantX ops o L = some true) (hf : fits o.dst n = true)
  (hk : WDX P K E tab ops pl (.rdG p (mapO k es c r) :: al) (putX o.dst (.ext v) L) B G m n RA) : WDX P K E tab ops (p :: pl) al L B G m n RA :=
 .readG hi0 hc hrd hd hG hs hw hf (fun κ L0 rr h hh => V.lookE ho (evH_eq rr hx) (evH_eq rr hi) hh hv) hk
theorem qmk {t e q w len bs : Nat} {i : TI} {kd : IntKind} {x : Operand} {z : List HVal} (hX : TK P tab zl) (ho : o.op = .makeSlice t x x) (ht : tyL tab t = some (.slice e, q)) (he : tyL tab e = some (i, w)) (hx : evH P L x = some (.int kd (.ofNat len))) (hb : P.bytesOf e = bs) (h1 : bs * len ≤ 140737488355328) (h2 : len ≤ 140737488355328) (hz : zL zl e = some z) (hzl : Nat.beq z.length w = true) (hw : wantX ops o L = some true) (hf : fits o.dst n = true)
  (hr : ∀ k, R (putX o.dst (.ext (.slice k 0 len (some len))) L) B (pts k (repl len z) e false :: G)) : Op1X P K E ops o L B G m n R := by
 refine ⟨fun κ h L0 r M => Op1.made (Go.HL.M.slice hX.tab ho ht he (evH_eq r hx) (evH_eq r hx) (Nat.le_refl _) hb h1 h2 (hX.zero.look hz) hzl) (wantX_eq r hw) hf M.wf fun k h' mk => ?_⟩
 exact ⟨κ, _, _, _, pfx_refl κ, r.put (.ext _) o.dst, M.call (C' := [pts k (repl len z) e false]) (chg_new _ mk mk.get fun j hj => hj), hr k⟩
theorem qneg {t : Nat} {x : Operand} {k : IntKind} {a d : Int} (ho : o.op = .unOp .neg t x) (hx : evH P L x = some (.int k a)) (hd : wrapF k (-a) = d) (hw : wantX ops o L = some true) (hf : fits o.dst n = true) (hr : R (putX o.dst (.ext (.int k d)) L) B G) : Op1X P K E ops o L B G m n R :=
 qv hw hf (fun κ h L0 r M => OpV.mk ho fun ev ha d' ty ps aft g => by
  have e : Int.sub (.ofNat 0) a = -a := by show (0 : Int) - a = -a; omega
  simp only [opH, evS ha (evH_eq r hx), unH, e, hd, HL.val, obS]) hr
theorem qidxP {t e w k u off lim j : Nat} {ti : TI} {x y : Operand} {kd : IntKind} (hX : TK P tab zl) (ho : o.op = .indexAddr t x y) (ht : tyL tab t = some (.array lim e, u)) (he : tyL tab e = some (ti, w)) (hx : evH P L x = some (.ptr k off)) (hy : evH P L y = some (.int kd (.ofNat j))) (hj : j < lim) (hw : wantX ops o L = some true) (hf : fits o.dst n = true)
  (hr : R (putX o.dst (.ext (.ptr k (Nat.add off (Nat.mul j w)))) L) B G) : Op1X P K E ops o L B G m n R :=
 qv hw hf (fun κ h L0 r M => OpV.mk ho fun ev ha d ty ps aft g => by
  obtain ⟨hu, inf, hi⟩ := tab_array hX.tab ht
  have h1 : elemOk P t = true := by simp only [elemOk, hu, hi]
  have h2 : Nat.blt j lim = true := by rw [nblt]; exact decide_eq_true hj
  have e1 := evS ha (evH_eq r hx)
  have e2 := evS ha (evH_eq r hy)
  simp only [opH, h1, bcT, e1, e2, HVal.isNat, natOf, obS, hu, HVal.isPtr, h2, (tab_ok hX.tab he).2]) hr
theorem qnil {bo : BinOp} {t p : Nat} {x y : Operand} {v : HVal} (ho : o.op = .binOp bo t x y p) (hx : evH P L x = some .nili) (hy : evH P L y = some .nili) (hl : bcase (isLit x) true (isLit y) = true) (hd : nilsEq P bo t = some v) (hw : wantX ops o L = some true) (hf : fits o.dst n = true) (hr : R (putX o.dst (.ext v) L) B G) : Op1X P K E ops o L B G m n R :=
 qv hw hf (fun κ h L0 r M => OpV.mk ho fun ev ha d ty ps aft g => by
  simp only [opH, evS ha (evH_eq r hx), evS ha (evH_eq r hy), hl, binC, bcT, hd, HL.val, obS]) hr
theorem qldW {t e k off c j q : Nat} {ti : TI} {x : Operand} {v : HVal} {rows : List (List HVal)} {cap : Option Nat} (hX : TK P tab zl) (ho : o.op = .load t x) (ht : tyL tab t = some (ti, q)) (hag : ti.agg = false) (hx : evH P L x = some (.ptr k (Nat.add off (Nat.mul j 1)))) (hG : Pick G (ownS e 1 (.slice k off c cap) rows) G2) (hr : rows[j]? = some [v]) (hw : wantX ops o L = some true) (hf : fits o.dst n = true) (hk : R (putX o.dst (.ext v) L) B G) : Op1X P K E ops o L B G m n R :=
 qv hw hf (fun κ h L0 r M => V.loadO hX ho ht hag hx hr r (M.chg.all _ (List.mem_append_right _ hG.mem))) hk
theorem Chg.imp {g g' : Part} {h : Heap} (w : Wf h) (hh : g'.holds h) (hf : ∀ j, g'.foot j → g.foot j) : Chg [g] h [g'] h :=
 ⟨w, Nat.le_refl _, fun e _ => e, fun r hr => by rw [List.mem_singleton.1 hr]; exact hh, List.pairwise_singleton _ _, fun r hr j hj => .inl ⟨g, List.mem_singleton.2 rfl, hf j (by rwa [List.mem_singleton.1 hr] at hj)⟩⟩
theorem WCX.imp {c : Code} {Q : Ex → St → Prop} {g : Part} (g' : Part) (hG : Pick G g G2) (hn : noTmp B = true) (hh : ∀ h, g.holds h → g'.holds h) (hf : ∀ j, g'.foot j → g.foot j) (hw : WCX P K E c L B (g' :: G2) m n Q) : WCX P K E c L B G m n Q :=
 ⟨fun κ h L0 r M => hw.run κ h L0 r (M.callG (C' := [g']) hG (Chg.imp M.wf (hh _ (M.chg.all _ (List.mem_append_right _ hG.mem))) hf) hn)⟩
theorem ownS.sub {e w k n j : Nat} {rows : List (List HVal)} (h : Heap) (hh : (ownS e w (.slice k 0 n (some n)) rows).holds h) (hj : j ≤ n) (hn : rows.length = n) : (ownS e w (.slice k (j * w) (n - j) (some (n - j))) (rows.drop j)).holds h := by
 obtain ⟨⟨d, ha⟩, hw⟩ := hh
 subst hn
 have hfl := flatten_len hw
 generalize hc : rows.length = c at ha hj hfl
 generalize hm : rows.flatten = fl at ha hfl
 cases ha with
 | full hg hl hd =>
  refine ⟨⟨none, ?_⟩, fun r hr => hw r (List.mem_of_mem_drop hr)⟩
  have e1 : (rows.drop j).length = c - j := by rw [List.length_drop, hc]
  have hwd : ∀ r ∈ rows.drop j, r.length = w := fun r hr => hw r (List.mem_of_mem_drop hr)
  have e2 := flatten_len hwd
  rw [e1] at e2
  have e3 : (rows.drop j).flatten = fl.drop (j * w) := by
   have h1 : (rows.take j).flatten.length = j * w := by
    rw [flatten_len (fun r hr => hw r (List.mem_of_mem_take hr)), List.length_take, hc, Nat.min_eq_left hj]
   have h2 : fl = (rows.take j).flatten ++ (rows.drop j).flatten := by rw [← hm, ← List.flatten_append, List.take_append_drop]
   rw [h2, ← h1, List.drop_left]
  rw [e1, e3]
  refine .full hg (by rw [← e3]; exact e2) ?_
  have hk : j * w + (c - j) * w = c * w := by rw [← Nat.add_mul, Nat.add_sub_cancel' hj]
  rw [← hd, List.drop_zero, List.drop_take, ← hk, Nat.add_sub_cancel_left]
end
end
end Go.HL
namespace Go.HL
open Go Go.Proofs
namespace Dr
set_option maxRecDepth 10000
def cmdE (n : List Nat) (least most text : Int) (locked : Bool) (f i : Nat) : HEnt := ⟨strB n, .agg [.int .i64 least, .int .i64 most, .int .i64 text, .bool locked, .func f [] []], i⟩
def cmdsE : List HEnt := [cmdE [99, 111, 109, 112, 105, 108, 101] 1 1073741824 (-1) true 25 0, cmdE [98, 117, 102, 102, 101, 114] 1 1 0 true 26 1, cmdE [119, 114, 105, 116, 101] 3 1073741824 0 true 27 2, cmdE [114, 101, 97, 100] 3 3 0 false 28 3, cmdE [109, 97, 99, 104, 105, 110, 101] 7 7 0 true 29 4, cmdE [108, 97, 117, 110, 99, 104] 3 1073741824 1 false 30 5, cmdE [115, 116, 101, 112] 1 1 0 false 31 6, cmdE [102, 105, 110, 105, 115, 104] 0 0 0 false 32 7, cmdE [115, 119, 97, 112] 0 0 0 false 33 8, cmdE [99, 97, 110, 99, 101, 108] 0 0 0 false 34 9, cmdE [114, 97, 99, 101, 115] 3 1073741824 1 false 35 10, cmdE [99, 111, 100, 101] 1 1 1 false 36 11]
def cmdsO : HObj := .map cmdsE 12 true
structure KD (base : List (Nat × HObj)) (K : CallFn) : Prop where
 none : ∀ f, Nat.beq f 4 = false → libF f = false → ∀ a h, K f a h = none
 awake : ∀ h, (lies base).holds h → K 4 [] h = some (.ret (.bool true), h)
 cmds : ∀ h, (lies base).holds h → K 18 [] h = some (.ret (.map h.next), h.new cmdsO)
 itoa : ∀ h n, (lies base).holds h → -4294967296 < n → n < 4294967296 → K 15 [.int .i64 n] h = some (.ret (strB (decI n)), h)
 fmt : ∀ h n, (lies base).holds h → -4294967296 < n → n < 4294967296 → K 24 [.int .i64 n, .int .i64 10] h = some (.ret (strB (decI n)), h)
 join : ∀ h s l, l ≠ [] → (∀ x ∈ l, ∀ b ∈ x, b < 256) → (joinT l).length ≤ 1000000 → l.length ≤ 1000000 → (rd s 1 (l.map sB)).holds h → K 43 [s, .str 1 32] h = some (.ret (strB (joinT l)), h)
 split : ∀ h b c, (lies base).holds h → (∀ x ∈ b, x < 256) → c < 256 → b.length ≤ 1000000 → K 21 [strB b, .str 1 c] h = some (.ret (.slice h.next 0 (cutAt c b).length (some (cutAt c b).length)), h.new (.cells ((cutAt c b).map strB) 9 false true))
 parse : ∀ h b v, (∀ x ∈ b, x < 256) → b.length ≤ 1000000 → Lib.parseIntB 32 (b.map UInt8.ofNat) = .ok v → K 23 [strB b, .int .i64 10, .int .i64 32] h = some (.ret (.tuple [.int .i64 v, .nili]), h)
theorem bin_quo64 {t a b : Nat} (ha : a < 4294967296) (hb : b ≠ 0) : binH P .quo t (.int .i64 (a : Int)) (.int .i64 (b : Int)) = some (.int .i64 ((a / b : Nat) : Int)) := by
 have := Nat.div_le_self a b
 rw [bin_quo hb, wrapF_i64_nat (by omega)]
variable {K : CallFn} {base : List (Nat × HObj)}
theorem text_run (hK : KD base K) (n : Nat) (hn : n < 4294967296) (h : Heap) (w : Wf h) : Sp P K 6 [i64 n] h (Val (strB (decB n)) h) := by
 induction n using Nat.strongRecOn generalizing h with
 | _ n ih =>
  have hlen := decB_len2 11 (n / 10) (by decide) (by omega)
  refine Sp.start (m := 1045) (n := 26) w (hK.none 6 rfl rfl _ _) Tryz.func6 rfl rfl mask6 rfl rfl ?_
  repeat' (first
   | refine ToX.a_ ?_
   | refine WCX.s_ ?_
   | (refine WCX.g_ (id := 0) ?_; (refine .cons (q hX rfl ?_)) <;> (refine .nil (.intro rfl ?_)))
   | (refine WCX.g_ (id := 1) ?_; (refine .cons (q hX rfl ?_)) <;> ((refine .cons (qc rfl ?_ ?_)) <;> intro _) <;> (refine .nil (.intro rfl ?_)))
   | (refine WCX.g_ (id := 3) ?_; (refine .cons (q hX rfl ?_)) <;> ((refine .cons (qc rfl ?_ ?_)) <;> intro _) <;> (refine .nil (.intro rfl ?_)))
   | (refine WCX.g_ (id := 4) ?_; (refine .cons (q hX rfl ?_)) <;> ((refine .cons (qa (d := ((48 + n : Nat) : Int)) rfl rfl rfl rfl rfl (by rw [wI (by omega) (by omega)]; omega) rfl rfl ?_))) <;> ((refine .cons (qw (b := ((48 + n : Nat) : Int)) hX rfl rfl rfl rfl (by rw [wrapF_u8]; omega) rfl rfl ?_))) <;> (refine .cons (q hX rfl ?_)) <;> (((refine WOX.leak 0 (fun k => ownS 5 1 (.slice k 0 1 (some 1)) ([48 + n].map bcell)) rfl (fun k => .own rfl (by simp [bcell]) rfl) (fun _ => rfl) rfl fun k0 => ?_); (refine .cons (qstr (bs := [48 + n]) hX rfl rfl rfl rfl rfl .h (by simp) (by simp; omega) rfl rfl ?_)))) <;> (refine .cons (q hX rfl ?_)) <;> (refine .nil (.intro rfl ?_)))
   | refine WCX.r_ ?_
   | refine ToX.d_ ?_
   | refine WCX.t_ rfl ?_
   | refine WCX.f_ rfl ?_
   | refine WCX.k_ ?_
   | refine ToX.r_ hX rfl ?_)
  ·rename_i e
   exact absurd e (by omega)
  ·rename_i e
   exact fun h f => ⟨by rw [decB_small (n := n) (by omega)]; rfl, f.chg.picks .nil⟩
  ·rename_i e
   rw [decB_big (n := n) (by omega), decB_small (n := n % 10) (by omega)]
   repeat' (first
    | refine ToX.a_ ?_
    | (refine WCX.draw (id := 5) tab [0, 1, 3, 4, 5, 6, 7, 8, 2, 9, 10] #[0, 1, 3, 0, 8, 24, 56, 120, 248, 511, 1023] (by kernel_rfl) (by kernel_rfl) (by kernel_rfl) ?_; (refine .cq hX rfl rfl rfl ?_) <;> ((refine .cons rfl (qn rfl rfl rfl (bin_quo64 (b := 10) (by omega) (by decide)) rfl rfl ?_)) <;> refine ⟨_, .comp rfl, ?_⟩) <;> (refine .cq hX rfl rfl rfl ?_) <;> ((refine .cons rfl (qn rfl rfl rfl (bin_rem (b := 10) (by decide)) rfl rfl ?_)) <;> refine ⟨_, .comp rfl, ?_⟩) <;> ((refine .cons rfl (qa (d := ((48 + n % 10 : Nat) : Int)) rfl rfl rfl rfl rfl (by rw [wI (by omega) (by omega)]; omega) rfl rfl ?_)) <;> refine ⟨_, .comp rfl, ?_⟩) <;> ((refine .cons rfl (qw (b := ((48 + n % 10 : Nat) : Int)) hX rfl rfl rfl rfl (by rw [wrapF_u8]; omega) rfl rfl ?_)) <;> refine ⟨_, .comp rfl, ?_⟩) <;> (refine .cq hX rfl rfl rfl ?_) <;> (((refine WDX.leak 0 (fun k => ownS 5 1 (.slice k 0 1 (some 1)) ([48 + n % 10].map bcell)) rfl (fun k => .own rfl (by simp [bcell]) rfl) (fun _ => rfl) rfl fun k0 => ?_); (refine WDX.strG (bs := [48 + n % 10]) hX rfl rfl rfl rfl rfl rfl rfl rfl rfl .h (by simp) (by simp; omega) rfl rfl ?_))) <;> ((refine .cons rfl (qcallV rfl rfl rfl rfl ca6 rfl rfl (fun h f => ih (n / 10) (by omega) (by omega) h f.wf) ?_)) <;> refine ⟨_, .comp rfl, ?_⟩) <;> ((refine .cons rfl (qcat rfl rfl rfl (by simp only [List.length_singleton]; omega) rfl rfl ?_)) <;> refine ⟨_, .comp rfl, ?_⟩) <;> (refine .cq hX rfl rfl rfl ?_) <;> (refine .nil ⟨?_, .intro rfl ?_⟩ <;> (repeat' (first | exact trivial | exact .inl rfl | exact .inr (.inr ⟨_, _, _, rfl, (by repeat (first | exact .h | apply Pick.t)), (by repeat (first | exact .h | apply Pick.t))⟩) | refine ⟨?_, ?_⟩))))
    | refine WCX.r_ ?_
    | refine ToX.r_ hX rfl ?_)
   exact fun h f => ⟨rfl, f.chg.picks .nil⟩
theorem textI_run (hK : KD base K) (n : Int) (h1 : -4294967296 < n) (h2 : n < 4294967296) (h : Heap) (w : Wf h) : Sp P K 6 [.int .i64 n] h (Val (strB (decI n)) h) := by
 by_cases hn : n < 0
 ·have e : decI n = [45] ++ decB (-n).toNat := by unfold decI; rw [if_pos hn]; rfl
  rw [e]
  have hl := decB_len2 11 (-n).toNat (by decide) (by omega)
  skip
  refine Sp.start (m := 1045) (n := 26) w (hK.none 6 rfl rfl _ _) Tryz.func6 rfl rfl mask6 rfl rfl ?_
  repeat' (first
   | refine ToX.a_ ?_
   | refine WCX.s_ ?_
   | (refine WCX.g_ (id := 0) ?_; (refine .cons (q hX rfl ?_)) <;> (refine .nil (.intro rfl ?_)))
   | (refine WCX.g_ (id := 1) ?_; (refine .cons (q hX rfl ?_)) <;> ((refine .cons (qc rfl ?_ ?_)) <;> intro _) <;> (refine .nil (.intro rfl ?_)))
   | (refine WCX.g_ (id := 2) ?_; (refine .cons (q hX rfl ?_)) <;> ((refine .cons (qneg (d := (((-n).toNat : Nat) : Int)) rfl rfl (by rw [wI (by omega) (by omega)]; omega) rfl rfl ?_))) <;> ((refine .cons (qcallV rfl rfl rfl rfl ca6 rfl rfl (fun h f => text_run hK (-n).toNat (by omega) h f.wf) ?_))) <;> ((refine .cons (qcat (a := [45]) rfl rfl rfl (by simp only [List.length_singleton]; omega) rfl rfl ?_))) <;> (refine .cons (q hX rfl ?_)) <;> (refine .nil (.intro rfl ?_)))
   | (refine WCX.g_ (id := 3) ?_; (refine .cons (q hX rfl ?_)) <;> ((refine .cons (qc rfl ?_ ?_)) <;> intro _) <;> (refine .nil (.intro rfl ?_)))
   | refine WCX.r_ ?_
   | refine ToX.d_ ?_
   | refine WCX.t_ rfl ?_
   | refine WCX.f_ rfl ?_
   | refine WCX.k_ ?_
   | refine ToX.r_ hX rfl ?_)
  ·exact fun h f => ⟨rfl, f.chg⟩
  ·rename_i e _
   exact absurd hn e
  ·rename_i e _
   exact absurd hn e
 ·obtain ⟨m, rfl⟩ : ∃ m : Nat, n = m := ⟨n.toNat, by omega⟩
  rw [decI_nat]
  exact text_run hK m (by omega) h w
theorem tenant_run (hK : KD base K) (t : Nat) (ht : t < 1000) (s : List Nat) (hs : s.length ≤ 100000) (h : Heap) (w : Wf h) : Sp P K 8 [i64 t, strB s] h (Val (strB (decB t ++ [32] ++ s)) h) := by
 have hlen := decB_len2 11 t (by decide) (by omega)
 refine Sp.start (m := 19) (n := 10) w (hK.none 8 rfl rfl _ _) Tryz.func8 rfl rfl mask8 rfl rfl ?_
 repeat' (first
  | refine ToX.a_ ?_
  | refine WCX.s_ ?_
  | (refine WCX.g_ (id := 0) ?_; (refine .cons (q hX rfl ?_)) <;> (refine .nil (.intro rfl ?_)))
  | (refine WCX.g_ (id := 1) ?_; (refine .cons (q hX rfl ?_)) <;> ((refine .cons (qcallV rfl rfl rfl rfl ca6 rfl rfl (fun h f => text_run hK t (by omega) h f.wf) ?_))) <;> ((refine .cons (qcat (b := [32]) rfl rfl rfl (by simp only [List.length_singleton]; omega) rfl rfl ?_))) <;> (refine .cons (q hX rfl ?_)) <;> ((refine .cons (qcat rfl rfl rfl (by simp only [List.length_append, List.length_singleton]; omega) rfl rfl ?_))) <;> (refine .cons (q hX rfl ?_)) <;> (refine .nil (.intro rfl ?_)))
  | refine WCX.r_ ?_
  | refine ToX.r_ hX rfl ?_)
 exact fun h f => ⟨rfl, f.chg⟩
end Dr
end Go.HL
namespace Go.HL
open Go Go.Proofs
namespace Dr
set_option maxRecDepth 10000
variable {K : CallFn} {base : List (Nat × HObj)}
def cfgZ : List HVal := [.int .i64 0, .bool false, .int .i64 0, .int .i64 0, .int .i64 0, .int .i64 0, .int .i64 0]
def cfgN : List HVal := [.int .i64 4, .bool false, .int .i64 1, .int .i64 1, .int .i64 0, .int .i64 0, .int .i64 0]
abbrev tenL (bufs : HVal) (c : List HVal) : List HVal := [.nilm, bufs] ++ c ++ [.nilp]
def devA : Nat → List HVal
 | 0 => tenL .nils cfgZ ++ tenL .nils cfgZ ++ tenL .nils cfgZ ++ [.bool true]
 | 1 => tenL .nils cfgN ++ tenL .nils cfgZ ++ tenL .nils cfgZ ++ [.bool true]
 | 2 => tenL .nils cfgN ++ tenL .nils cfgN ++ tenL .nils cfgZ ++ [.bool true]
 | _ => tenL .nils cfgN ++ tenL .nils cfgN ++ tenL .nils cfgN ++ [.bool true]
theorem new_run (hK : KD base K) (h : Heap) (w : Wf h) : Sp P K 5 [] h (Tr (fun v C => ∃ k, v = .ptr k 0 ∧ C = [pts k (devA 3) 45 false]) h) := by
 refine Sp.start (m := 103) (n := 17) w (hK.none 5 rfl rfl _ _) Tryz.func5 rfl rfl mask5 rfl rfl ?_
 repeat' (first
  | refine ToX.a_ ?_
  | refine WCX.s_ ?_
  | (refine WCX.g_ (id := 0) ?_; (refine .cons (q hX rfl ?_)) <;> (refine .nil (.intro rfl ?_)))
  | (refine WCX.g_ (id := 1) ?_; (iterate 3 refine .cons (q hX rfl ?_)) <;> (refine .nil (.intro rfl ?_)))
  | (refine WCX.g_ (id := 2) ?_; (refine .cons (q hX rfl ?_)) <;> (refine .nil (.intro rfl ?_)))
  | refine WCX.b_ ?_)
 refine WCX.loop (ι := Nat) (fun a => [(5, .ext (i64 a)), (1, .ptr 0 0)]) (fun a => [.own (devA a) 45 false]) (fun _ => []) (fun a => a ≤ 3) (fun a => 3 - a) 0 ⟨⟨rfl, rfl, trivial⟩, ⟨_, rfl⟩, ⟨_, .nil⟩⟩ (Nat.zero_le _) (fun _ => rfl) (fun _ => rfl) (fun _ => rfl) ?_
 rintro a ha next
 obtain rfl | rfl | rfl | rfl : a = 0 ∨ a = 1 ∨ a = 2 ∨ a = 3 := by omega
 ·repeat' (first
   | refine ToX.a_ ?_
   | refine WCX.s_ ?_
   | (refine WCX.g_ (id := 3) ?_; ((refine .cons (qc rfl ?_ ?_)) <;> ((intro _; first | (exfalso; omega) | skip))) <;> (refine .nil (.intro rfl ?_)))
   | (refine WCX.g_ (id := 4) ?_; (iterate 2 refine .cons (q hX rfl ?_)) <;> (refine .nil (.intro rfl ?_)))
   | (refine WCX.g_ (id := 5) ?_; (iterate 5 refine .cons (q hX rfl ?_)) <;> ((refine .cons (qidxA hX rfl rfl rfl rfl rfl (by omega) (by omega) rfl rfl ?_))) <;> (iterate 2 refine .cons (q hX rfl ?_)) <;> (refine .nil (.intro rfl ?_)))
   | (refine WCX.g_ (id := 6) ?_; ((refine .cons (qa rfl rfl rfl rfl rfl (wI (by first | omega | (simp only [Int.ofNat_eq_natCast]; omega)) (by first | omega | (simp only [Int.ofNat_eq_natCast]; omega))) rfl rfl ?_))) <;> (refine .cons (q hX rfl ?_)) <;> (refine .nil (.intro rfl ?_)))
   | refine WCX.t_ rfl ?_
   | refine WCX.k_ ?_
   | refine WCX.b_ ?_
   | refine ToX.b_ ?_)
  exact next 1 _ _ _ (by omega) ⟨⟨rfl, rfl, trivial⟩, ⟨_, rfl⟩, ⟨_, .nil⟩⟩ (by omega)
 ·repeat' (first
   | refine ToX.a_ ?_
   | refine WCX.s_ ?_
   | (refine WCX.g_ (id := 3) ?_; ((refine .cons (qc rfl ?_ ?_)) <;> ((intro _; first | (exfalso; omega) | skip))) <;> (refine .nil (.intro rfl ?_)))
   | (refine WCX.g_ (id := 4) ?_; (iterate 2 refine .cons (q hX rfl ?_)) <;> (refine .nil (.intro rfl ?_)))
   | (refine WCX.g_ (id := 5) ?_; (iterate 5 refine .cons (q hX rfl ?_)) <;> ((refine .cons (qidxA hX rfl rfl rfl rfl rfl (by omega) (by omega) rfl rfl ?_))) <;> (iterate 2 refine .cons (q hX rfl ?_)) <;> (refine .nil (.intro rfl ?_)))
   | (refine WCX.g_ (id := 6) ?_; ((refine .cons (qa rfl rfl rfl rfl rfl (wI (by first | omega | (simp only [Int.ofNat_eq_natCast]; omega)) (by first | omega | (simp only [Int.ofNat_eq_natCast]; omega))) rfl rfl ?_))) <;> (refine .cons (q hX rfl ?_)) <;> (refine .nil (.intro rfl ?_)))
   | refine WCX.t_ rfl ?_
   | refine WCX.k_ ?_
   | refine WCX.b_ ?_
   | refine ToX.b_ ?_)
  exact next 2 _ _ _ (by omega) ⟨⟨rfl, rfl, trivial⟩, ⟨_, rfl⟩, ⟨_, .nil⟩⟩ (by omega)
 ·repeat' (first
   | refine ToX.a_ ?_
   | refine WCX.s_ ?_
   | (refine WCX.g_ (id := 3) ?_; ((refine .cons (qc rfl ?_ ?_)) <;> ((intro _; first | (exfalso; omega) | skip))) <;> (refine .nil (.intro rfl ?_)))
   | (refine WCX.g_ (id := 4) ?_; (iterate 2 refine .cons (q hX rfl ?_)) <;> (refine .nil (.intro rfl ?_)))
   | (refine WCX.g_ (id := 5) ?_; (iterate 5 refine .cons (q hX rfl ?_)) <;> ((refine .cons (qidxA hX rfl rfl rfl rfl rfl (by omega) (by omega) rfl rfl ?_))) <;> (iterate 2 refine .cons (q hX rfl ?_)) <;> (refine .nil (.intro rfl ?_)))
   | (refine WCX.g_ (id := 6) ?_; ((refine .cons (qa rfl rfl rfl rfl rfl (wI (by first | omega | (simp only [Int.ofNat_eq_natCast]; omega)) (by first | omega | (simp only [Int.ofNat_eq_natCast]; omega))) rfl rfl ?_))) <;> (refine .cons (q hX rfl ?_)) <;> (refine .nil (.intro rfl ?_)))
   | refine WCX.t_ rfl ?_
   | refine WCX.k_ ?_
   | refine WCX.b_ ?_
   | refine ToX.b_ ?_)
  exact next 3 _ _ _ (by omega) ⟨⟨rfl, rfl, trivial⟩, ⟨_, rfl⟩, ⟨_, .nil⟩⟩ (by omega)
 ·refine WCX.leak 0 (fun k => pts k (devA 3) 45 false) rfl (fun k => AsPart.pts _ _ _ _) (fun _ => rfl) rfl fun k => ?_
  repeat' (first
   | refine ToX.a_ ?_
   | refine WCX.s_ ?_
   | (refine WCX.g_ (id := 3) ?_; ((refine .cons (qc rfl ?_ ?_)) <;> ((intro _; first | (exfalso; omega) | skip))) <;> (refine .nil (.intro rfl ?_)))
   | (refine WCX.g_ (id := 7) ?_; (iterate 2 refine .cons (q hX rfl ?_)) <;> (refine .nil (.intro rfl ?_)))
   | refine WCX.r_ ?_
   | refine WCX.f_ rfl ?_
   | refine WCX.e_ ?_
   | refine ToX.e_ ?_
   | refine ToX.c_ ?_
   | refine ToX.r_ hX rfl ?_)
  exact fun h f => ⟨_, f.chg.picks (.cons .h .nil), k, rfl, rfl⟩
end Dr
end Go.HL
namespace Go.HL
open Go Go.Proofs
namespace Dr
set_option maxRecDepth 10000
variable {K : CallFn} {base : List (Nat × HObj)}
theorem parse32_nat {n : Nat} (hn : n < 2147483648) : Lib.parseIntB 32 ((decB n).map UInt8.ofNat) = .ok (n : Int) := by
 obtain ⟨d, r, e, hd⟩ := decB_head n
 have hp := parse_dec (2 ^ 32 - 1) (by decide) n 0 [] (by omega)
 rw [List.append_nil, Nat.zero_mul, Nat.zero_add] at hp
 have hp : Lib.parseUintM (2 ^ 32 - 1) 0 ((decB n).map UInt8.ofNat) = .ok n := hp
 have e48 : (UInt8.ofNat (48 + d)).toNat = 48 + d := by rw [UInt8.toNat_ofNat']; omega
 unfold Lib.parseIntB
 rw [e, List.map_cons] at hp ⊢
 simp only [e48]
 rw [if_neg (by omega)]
 unfold Lib.parseUintB
 rw [if_neg (by simp), hp]
 simp only
 rw [if_neg (by omega), if_neg (by omega), if_neg (by omega)]
theorem parse32_dec {n : Int} (h1 : -2147483648 ≤ n) (h2 : n < 2147483648) : Lib.parseIntB 32 ((decI n).map UInt8.ofNat) = .ok n := by
 unfold decI
 split
 ·have hp := parse_dec (2 ^ 32 - 1) (by decide) (-n).toNat 0 [] (by omega)
  rw [List.append_nil, Nat.zero_mul, Nat.zero_add] at hp
  have hp : Lib.parseUintM (2 ^ 32 - 1) 0 ((decB (-n).toNat).map UInt8.ofNat) = .ok (-n).toNat := hp
  unfold Lib.parseIntB
  rw [List.map_cons]
  have e45 : (UInt8.ofNat 45).toNat = 45 := rfl
  simp only [e45]
  rw [if_pos (by simp)]
  unfold Lib.parseUintB
  have hne : (decB (-n).toNat).map UInt8.ofNat ≠ [] := by
   obtain ⟨d, r, e, _⟩ := decB_head (-n).toNat
   rw [e]; simp
  rw [if_neg hne, hp]
  simp only [not_true_eq_false, false_and, if_false, true_and]
  rw [if_neg (by omega), if_pos trivial]
  congr 1
  omega
 ·rw [parse32_nat (by omega)]
  congr 1
  omega
theorem wrapF_i32 {n : Int} (h1 : -2147483648 ≤ n) (h2 : n < 2147483648) : wrapF .i32 n = n := by
 rw [wrapF_eq]
 simp [IntKind.wrap, IntKind.bits, IntKind.signed]
 omega
theorem neq_nil : nilsEq P .neq 67 = some (.bool false) := by kernel_rfl
theorem number_run (hK : KD base K) (n : Int) (h1 : -2147483648 ≤ n) (h2 : n < 2147483648) (h : Heap) (w : Wf h) (hB : (lies base).holds h) : Sp P K 17 [strB (decI n)] h (Val (.tuple [.int .i32 n, .bool true]) h) := by
 have hl := decI_len (n := n) (by omega) (by omega)
 have hp := parse32_dec h1 h2
 refine Sp.start (m := 262205) (n := 21) w (hK.none 17 rfl rfl _ _) Tryz.func17 rfl rfl mask17 rfl rfl ?_
 repeat' (first
  | refine ToX.a_ ?_
  | refine WCX.s_ ?_
  | (refine WCX.g_ (id := 0) ?_; (iterate 2 refine .cons (q hX rfl ?_)) <;> (refine .nil (.intro rfl ?_)))
  | (refine WCX.g_ (id := 1) ?_; (refine .cons (q hX rfl ?_)) <;> ((refine .cons (qcallV rfl rfl rfl rfl ca23 rfl rfl (fun h f => Sp.known (hK.parse h (decI n) n (decI_lt n) (by omega) hp) ⟨rfl, Chg.refl f.wf⟩) ?_))) <;> (iterate 5 refine .cons (q hX rfl ?_)) <;> (refine .nil (.intro rfl ?_)))
  | (refine WCX.g_ (id := 2) ?_; (refine .cons (q hX rfl ?_)) <;> ((refine .cons (qnil rfl rfl rfl rfl neq_nil rfl rfl ?_))) <;> (iterate 2 refine .cons (q hX rfl ?_)) <;> ((refine .cons (qcallV rfl rfl rfl rfl ca24 rfl rfl (fun h f => Sp.known (hK.fmt h n (f.ro (.of hB)) (by omega) (by omega)) ⟨rfl, Chg.refl f.wf⟩) ?_))) <;> (refine .cons (q hX rfl ?_)) <;> ((refine .cons (qc rfl ?_ ?_)) <;> intro _) <;> (refine .cons (q hX rfl ?_)) <;> (refine .nil (.intro rfl ?_)))
  | (refine WCX.g_ (id := 3) ?_; (iterate 2 refine .cons (q hX rfl ?_)) <;> (refine .nil (.intro rfl ?_)))
  | (refine WCX.g_ (id := 4) ?_; (refine .cons (q hX rfl ?_)) <;> ((refine .cons (qw (b := n) hX rfl rfl rfl rfl (wrapF_i32 (by omega) (by omega)) rfl rfl ?_))) <;> (iterate 2 refine .cons (q hX rfl ?_)) <;> (refine .nil (.intro rfl ?_)))
  | refine WCX.r_ ?_
  | refine ToX.d_ ?_
  | refine WCX.t_ rfl ?_
  | refine WCX.f_ rfl ?_
  | refine WCX.k_ ?_
  | refine ToX.r_ hX rfl ?_)
 ·rename_i e
  exact fun h f => (e ⟨rfl, rfl⟩).elim
 ·exact fun h f => ⟨rfl, f.chg⟩
/-! ## The words of a line -/
abbrev noW : List Nat := []
structure WordOk (w : List Nat) : Prop where
 ne : w ≠ []
 ok : ∀ b ∈ w, 32 < b ∧ b ≤ 126
structure LineOk (ws : List (List Nat)) : Prop where
 ne : ws ≠ []
 ok : ∀ w ∈ ws, WordOk w
 len : (joinT ws).length ≤ 100000
theorem cut_words : ∀ {l : List (List Nat)}, l ≠ [] → (∀ w ∈ l, WordOk w) → cutAt 32 (joinT l) = l
 | [], h, _ => absurd rfl h
 | [a], _, hc => by
  have : joinT [a] = a := by simp [joinT]
  rw [this]
  exact cutAt_none fun h => absurd ((hc a (by simp)).ok 32 h).1 (by omega)
 | a :: b :: r, _, hc => by
  rw [joinT_cons a (by simp), List.append_assoc]
  show cutAt 32 (a ++ 32 :: joinT (b :: r)) = _
  rw [cutAt_app fun h => absurd ((hc a (by simp)).ok 32 h).1 (by omega), cut_words (l := b :: r) (by simp) fun p hp => hc p (by simp [hp])]
theorem join_ok {l : List (List Nat)} (h : ∀ w ∈ l, WordOk w) : ∀ b ∈ joinT l, 32 ≤ b ∧ b ≤ 126 := by
 cases l with
 | nil => intro b hb; cases hb
 | cons x r =>
  intro b hb
  rcases List.mem_append.1 hb with hb | hb
  ·have := (h x (by simp)).ok b hb; omega
  ·obtain ⟨y, hy, hby⟩ := List.mem_flatten.1 hb
   obtain ⟨z, hz, rfl⟩ := List.mem_map.1 hy
   rcases List.mem_cons.1 hby with rfl | hby
   ·omega
   ·have := (h z (by simp [hz])).ok b hby; omega
def Strs (l : List (List Nat)) (v : HVal) (C : List Part) : Prop := ∃ k, v = .slice k 0 l.length (some l.length) ∧ C = [ownS 9 1 v (l.map sB)]
theorem splitK_run (hK : KD base K) (b : List Nat) (c : Nat) (hb : Byt b) (hc : c < 256) (hl : b.length ≤ 1000000) (h : Heap) (w : Wf h) (hB : (lies base).holds h) : Sp P K 21 [strB b, .str 1 c] h (Tr (Strs (cutAt c b)) h) := by
 refine Sp.known (hK.split h b c hB hb hc hl) ⟨_, ?_, h.next, rfl, rfl⟩
 have hl : ((cutAt c b).map sB).flatten = (cutAt c b).map strB := by
  generalize cutAt c b = l
  induction l with
  | nil => rfl
  | cons x l ih => rw [List.map_cons, List.flatten_cons, ih]; rfl
 have mk := made_new w (.cells ((cutAt c b).map strB) 9 false true)
 exact chg_new _ mk ((leakS (e := 9) (s := false) (cutAt c b) hl).holds _ mk.get) (leakS (e := 9) (s := false) (cutAt c b) hl).foot
theorem index_run (hK : KD base K) (v : HVal) (l : List (List Nat)) (hn : ∀ w ∈ l, w ≠ []) (hl : l.length ≤ 1000000) (h : Heap) (w : Wf h) (hr : (rd v 1 (l.map sB)).holds h) : Sp P K 39 [v, .str 0 0] h (Val (.int .i64 (-1)) h) := by
 have hlen := rd_len hr
 refine Sp.start (m := 66483) (n := 19) w (hK.none 39 rfl rfl _ _) Tryz.func39 rfl rfl mask39 rfl rfl ?_
 repeat' (first
  | refine ToX.a_ ?_
  | refine WCX.s_ ?_
  | (refine WCX.g_ (id := 0) ?_; (refine .cons (q hX rfl ?_)) <;> (refine .nil (.intro rfl ?_)))
  | (refine WCX.g_ (id := 1) ?_; (refine .cons (q hX rfl ?_)) <;> ((refine .cons (ql hX rfl rfl rfl rfl rfl rfl (by assumption) rfl rfl ?_))) <;> (refine .cons (q hX rfl ?_)) <;> (refine .nil (.intro rfl ?_)))
  | refine WCX.b_ ?_)
 refine WCX.loop (ι := Nat) (fun a => [(8, .ext (i64 a)), (7, .ext (i64 l.length)), (0, .ext v), (1, .ext (.str 0 0))]) (fun _ => []) (fun _ => []) (fun a => a ≤ l.length) (fun a => l.length - a) 0 ⟨⟨rfl, rfl, rfl, rfl, trivial⟩, ⟨_, rfl⟩, ⟨_, .nil⟩⟩ (Nat.zero_le _) (fun _ => rfl) (fun _ => rfl) (fun _ => rfl) ?_
 rintro i hi next
 repeat' (first
  | refine ToX.a_ ?_
  | refine WCX.s_ ?_
  | (refine WCX.g_ (id := 2) ?_; ((refine .cons (qc rfl ?_ ?_)) <;> intro _) <;> (refine .nil (.intro rfl ?_)))
  | (refine WCX.g_ (id := 3) ?_; (iterate 2 refine .cons (q hX rfl ?_)) <;> (refine .nil (.intro rfl ?_)))
  | (refine WCX.g_ (id := 7) ?_; (refine .cons (q hX rfl ?_)) <;> (refine .nil (.intro rfl ?_)))
  | refine WCX.r_ ?_
  | refine WCX.t_ rfl ?_
  | refine WCX.f_ rfl ?_
  | refine WCX.k_ ?_
  | refine WCX.b_ ?_
  | refine WCX.e_ ?_
  | refine ToX.e_ ?_
  | refine ToX.c_ ?_
  | refine ToX.r_ hX rfl ?_)
 ·have hil : i < l.length := by omega
  have hne : (l.getD i noW).length ≠ 0 := fun e => hn _ (getD_mem noW hil) (List.eq_nil_of_length_eq_zero e)
  repeat' (first
   | refine ToX.a_ ?_
   | refine WCX.s_ ?_
   | (refine WCX.g_ (id := 4) ?_; (iterate 3 refine .cons (q hX rfl ?_)) <;> ((refine .cons (qidx hX rfl rfl rfl rfl rfl (.of hr) (row_i noW hil) rfl rfl rfl ?_))) <;> (refine .cons (q hX rfl ?_)) <;> ((refine .cons (qc rfl ?_ ?_)) <;> intro _) <;> (refine .nil (.intro rfl ?_)))
   | (refine WCX.g_ (id := 5) ?_; (iterate 2 refine .cons (q hX rfl ?_)) <;> (refine .nil (.intro rfl ?_)))
   | (refine WCX.g_ (id := 6) ?_; ((refine .cons (qa rfl rfl rfl rfl rfl (wI (by first | omega | (simp only [Int.ofNat_eq_natCast]; omega)) (by first | omega | (simp only [Int.ofNat_eq_natCast]; omega))) rfl rfl ?_))) <;> (refine .cons (q hX rfl ?_)) <;> (refine .nil (.intro rfl ?_)))
   | refine WCX.r_ ?_
   | refine ToX.d_ ?_
   | refine ToX.f_ ?_
   | refine WCX.t_ rfl ?_
   | refine WCX.f_ rfl ?_
   | refine WCX.k_ ?_
   | refine ToX.b_ ?_
   | refine ToX.r_ hX rfl ?_)
  ·rename_i e
   exact absurd e.1.symm hne
  ·exact next (i + 1) _ _ _ (by omega) ⟨⟨rfl, rfl, rfl, rfl, trivial⟩, ⟨_, rfl⟩, ⟨_, .nil⟩⟩ (by omega)
 ·exact fun h f => ⟨rfl, f.chg⟩
theorem contains_run (hK : KD base K) (v : HVal) (l : List (List Nat)) (hn : ∀ w ∈ l, w ≠ []) (hl : l.length ≤ 1000000) (h : Heap) (w : Wf h) (hr : (rd v 1 (l.map sB)).holds h) : Sp P K 22 [v, .str 0 0] h (Val (.bool false) h) := by
 refine Sp.start (m := 19) (n := 9) w (hK.none 22 rfl rfl _ _) Tryz.func22 rfl rfl mask22 rfl rfl ?_
 repeat' (first
  | refine ToX.a_ ?_
  | refine WCX.s_ ?_
  | (refine WCX.g_ (id := 0) ?_; (refine .cons (q hX rfl ?_)) <;> (refine .nil (.intro rfl ?_)))
  | (refine WCX.g_ (id := 1) ?_; (iterate 2 refine .cons (q hX rfl ?_)) <;> ((refine .cons (qcallV rfl rfl rfl rfl ca39 rfl rfl (fun h f => index_run hK v l hn hl h f.wf (f.ro (.of hr))) ?_))) <;> ((refine .cons (qc rfl ?_ ?_)) <;> intro _) <;> (refine .cons (q hX rfl ?_)) <;> (refine .nil (.intro rfl ?_)))
  | refine WCX.r_ ?_
  | refine ToX.r_ hX rfl ?_)
 ·rename_i e
  exact absurd e (by omega)
 ·exact fun h f => ⟨rfl, f.chg⟩
end Dr
end Go.HL
namespace Go.HL
open Go Go.Proofs
namespace Dr
set_option maxRecDepth 10000
variable {K : CallFn} {base : List (Nat × HObj)}
theorem words_run (hK : KD base K) (ws : List (List Nat)) (hw : LineOk ws) (h : Heap) (w : Wf h) (hB : (lies base).holds h) : Sp P K 16 [strB (joinT ws)] h (Tr (fun v C => ∃ k, v = .tuple [.slice k 0 ws.length (some ws.length), .bool true] ∧ C = [ownS 9 1 (.slice k 0 ws.length (some ws.length)) (ws.map sB)]) h) := by
 have hj := join_ok hw.ok
 have hlen := hw.len
 have hcut := cut_words hw.ne hw.ok
 have hcl := cutAt_len 32 (joinT ws)
 rw [hcut] at hcl
 generalize joinT ws = s at hj hlen hcut hcl
 have hby : Byt s := fun b hb => by have := hj b hb; omega
 refine Sp.start (m := 1049533) (n := 28) w (hK.none 16 rfl rfl _ _) Tryz.func16 rfl rfl mask16 rfl rfl ?_
 repeat' (first
  | refine ToX.a_ ?_
  | refine WCX.s_ ?_
  | (refine WCX.g_ (id := 0) ?_; (iterate 2 refine .cons (q hX rfl ?_)) <;> (refine .nil (.intro rfl ?_)))
  | (refine WCX.g_ (id := 1) ?_; (iterate 3 refine .cons (q hX rfl ?_)) <;> (refine .nil (.intro rfl ?_)))
  | refine WCX.b_ ?_)
 refine WCX.loop (ι := Nat) (fun a => [(8, .ext (i64 a)), (7, .ext (i64 s.length)), (0, .ext (strB s))]) (fun _ => []) (fun _ => []) (fun a => a ≤ s.length) (fun a => s.length - a) 0 ⟨⟨rfl, rfl, rfl, trivial⟩, ⟨_, rfl⟩, ⟨_, .nil⟩⟩ (Nat.zero_le _) (fun _ => rfl) (fun _ => rfl) (fun _ => rfl) ?_
 rintro i hi next
 repeat' (first
  | refine ToX.a_ ?_
  | refine WCX.s_ ?_
  | (refine WCX.g_ (id := 2) ?_; ((refine .cons (qc rfl ?_ ?_)) <;> intro _) <;> (refine .nil (.intro rfl ?_)))
  | (refine WCX.g_ (id := 3) ?_; (iterate 2 refine .cons (q hX rfl ?_)) <;> (refine .nil (.intro rfl ?_)))
  | refine WCX.t_ rfl ?_
  | refine WCX.f_ rfl ?_
  | refine WCX.k_ ?_
  | refine WCX.b_ ?_
  | refine WCX.e_ ?_
  | refine ToX.e_ ?_
  | refine ToX.c_ ?_)
 ·have hil : i < s.length := by omega
  have hx : 32 ≤ sIndex s.length (codeN s 0) i ∧ sIndex s.length (codeN s 0) i ≤ 126 := by rw [sIndex_code hby hil]; exact hj _ (getD_mem 0 hil)
  repeat' (first
   | refine ToX.a_ ?_
   | (refine WCX.g_ (id := 4) ?_; (iterate 2 refine .cons (q hX rfl ?_)) <;> ((refine .cons (qs hX rfl rfl rfl rfl hil rfl rfl ?_))) <;> ((refine .cons (qc rfl ?_ ?_)) <;> ((intro e; first | (exfalso; simp only [Int.ofNat_eq_natCast] at e; omega) | skip))) <;> (iterate 3 refine .cons (q hX rfl ?_)) <;> ((refine .cons (qs hX rfl rfl rfl rfl hil rfl rfl ?_))) <;> ((refine .cons (qc rfl ?_ ?_)) <;> ((intro e; first | (exfalso; simp only [Int.ofNat_eq_natCast] at e; omega) | skip))) <;> (refine .cons (q hX rfl ?_)) <;> (refine .nil (.intro rfl ?_)))
   | (refine WCX.g_ (id := 6) ?_; ((refine .cons (qa rfl rfl rfl rfl rfl (wI (by first | omega | (simp only [Int.ofNat_eq_natCast]; omega)) (by first | omega | (simp only [Int.ofNat_eq_natCast]; omega))) rfl rfl ?_))) <;> (refine .cons (q hX rfl ?_)) <;> (refine .nil (.intro rfl ?_)))
   | refine WCX.f_ rfl ?_
   | refine WCX.k_ ?_
   | refine ToX.b_ ?_)
  exact next (i + 1) _ _ _ (by omega) ⟨⟨rfl, rfl, rfl, trivial⟩, ⟨_, rfl⟩, ⟨_, .nil⟩⟩ (by omega)
 ·have hsp := fun (h : Heap) (w : Wf h) (hB : (lies base).holds h) => splitK_run hK s 32 hby (by decide) (by omega) h w hB
  rw [hcut] at hsp
  repeat' (first
   | refine ToX.a_ ?_
   | refine WCX.s_ ?_
   | (refine WCX.g_ (id := 7) ?_; (refine .cons (q hX rfl ?_)) <;> ((refine .cons (qcall rfl rfl rfl rfl ca21 rfl rfl (fun h f => hsp h f.wf (f.ro (.of hB))) ?_)) <;> (rintro v C' ⟨k, rfl, rfl⟩)) <;> (refine .cons (q hX rfl ?_)) <;> (refine .nil (.intro rfl ?_)))
   | (refine WCX.g_ (id := 8) ?_; (iterate 2 refine .cons (q hX rfl ?_)) <;> ((refine .cons (qcallV rfl rfl rfl rfl ca22 rfl rfl (fun h f => contains_run hK (.slice k 0 ws.length (some ws.length)) ws (fun w q => (hw.ok w q).ne) (by omega) h f.wf (ownS.rd (f.pick .h))) ?_))) <;> (iterate 3 refine .cons (q hX rfl ?_)) <;> (refine .nil (.intro rfl ?_)))
   | refine WCX.r_ ?_
   | refine ToX.r_ hX rfl ?_)
  exact fun h f => ⟨_, f.chg.picks (.cons .h .nil), k, rfl, rfl⟩
theorem cmds_run (hK : KD base K) (h : Heap) (w : Wf h) (hB : (lies base).holds h) : Sp P K 18 [] h (Tr (fun v C => ∃ k, v = .map k ∧ C = [mapO k cmdsE 12 true]) h) := by
 refine Sp.known (hK.cmds h hB) ⟨_, ?_, h.next, rfl, rfl⟩
 have mk := made_new w cmdsO
 exact chg_new _ mk mk.get fun j hj => hj
abbrev nc (n : Int) : List HVal := [.int .i32 n]
theorem parse_run (hK : KD base K) (t : Nat) (ht : t < 1000) (name : List Nat) (ns : List Int) (least most : Int) (locked : Bool) (fn : Nat) (hn : ∀ n ∈ ns, -2147483648 ≤ n ∧ n < 2147483648) (hnl : ns.length ≤ 100) (h1 : 1 ≤ ns.length) (hl1 : least ≤ ns.length) (hl2 : (ns.length : Int) ≤ most) (hl3 : 0 ≤ least ∧ most ≤ 1073741824)
  (hlook : lookE P 61 cmdsE (strB name) true = some (.tuple [.agg [.int .i64 least, .int .i64 most, .int .i64 0, .bool locked, .func fn [] []], .bool true])) (hw : LineOk (decB t :: name :: ns.map decI)) (h : Heap) (w : Wf h) (hB : (lies base).holds h) :
  Sp P K 12 [strB (joinT (decB t :: name :: ns.map decI))] h (Tr (fun v C => ∃ lv k, v = .tuple [.int .i32 t, .agg [.int .i64 least, .int .i64 most, .int .i64 0, .bool locked, .func fn [] []], lv, .slice k 0 ns.length none, .bool true] ∧ C = [ownS 21 1 (.slice k 0 ns.length none) (ns.map nc)]) h) := by
 have hd : decI (t : Int) = decB t := decI_nat t
 generalize hws : decB t :: name :: ns.map decI = ws at hw
 have hwl : ws.length = ns.length + 2 := by rw [← hws]; simp
 have hw0 : ws.getD 0 noW = decB t := by rw [← hws]; rfl
 have hw1 : ws.getD 1 noW = name := by rw [← hws]; rfl
 have hbq : HVal.beq (.tuple [.agg [.int .i64 least, .int .i64 most, .int .i64 0, .bool locked, .func fn [] []], .bool true]) (.tuple [.agg [.int .i64 least, .int .i64 most, .int .i64 0, .bool locked, .func fn [] []], .bool true]) = true := by simp [HVal.beq, beqL]
 have hbq2 : HVal.beq (.agg [.int .i64 least, .int .i64 most, .int .i64 0, .bool locked, .func fn [] []]) (.agg [.int .i64 least, .int .i64 most, .int .i64 0, .bool locked, .func fn [] []]) = true := by simp [HVal.beq, beqL]
 refine Sp.start (m := 4853490551431591150755325) (n := 93) w (hK.none 12 rfl rfl _ _) Tryz.func12 rfl rfl mask12 rfl rfl ?_
 repeat' (first
  | refine ToX.a_ ?_
  | refine WCX.s_ ?_
  | (refine WCX.g_ (id := 0) ?_; (iterate 5 refine .cons (q hX rfl ?_)) <;> (refine .nil (.intro rfl ?_)))
  | (refine WCX.g_ (id := 1) ?_; (refine .cons (q hX rfl ?_)) <;> ((refine .cons (qcall rfl rfl rfl rfl ca16 rfl rfl (fun h f => words_run hK ws hw h f.wf (f.ro (.of hB))) ?_)) <;> (rintro v C' ⟨k, rfl, rfl⟩)) <;> (iterate 5 refine .cons (q hX rfl ?_)) <;> (refine .nil (.intro rfl ?_)))
  | (refine WCX.g_ (id := 2) ?_; (iterate 5 refine .cons (q hX rfl ?_)) <;> ((refine .cons (qc rfl ?_ ?_)) <;> ((intro _; first | (exfalso; omega) | skip))) <;> (refine .cons (q hX rfl ?_)) <;> (refine .nil (.intro rfl ?_)))
  | (refine WCX.g_ (id := 4) ?_; (refine .cons (q hX rfl ?_)) <;> ((refine .cons (qidxW (j := 0) hX rfl rfl rfl rfl rfl (by omega) rfl rfl ?_))) <;> ((refine .cons (qldW (v := strB (decB t)) hX rfl rfl rfl rfl .h (row_is noW (by omega) hw0) rfl rfl ?_))) <;> ((refine .cons (qcallV rfl rfl rfl rfl ca17 rfl rfl (fun h f => (hd ▸ number_run hK (t : Int) (by omega) (by omega) h f.wf (f.ro (.of hB)))) ?_))) <;> (iterate 5 refine .cons (q hX rfl ?_)) <;> (refine .nil (.intro rfl ?_)))
  | (refine WCX.draw (id := 5) tab [1, 2, 3, 0, 4, 5, 6, 7, 8, 9] #[0, 0, 2, 6, 15, 31, 63, 63, 127, 511] (by kernel_rfl) (by kernel_rfl) (by kernel_rfl) ?_; (refine .cq hX rfl rfl rfl ?_) <;> ((refine .cons rfl (qidxW (j := 1) hX rfl rfl rfl rfl rfl (by omega) rfl rfl ?_)) <;> refine ⟨_, .comp rfl, ?_⟩) <;> ((refine WDX.ldO (k := k) (off := 0) (j := 1) (rows := ws.map sB) (v := strB name) hX rfl rfl rfl rfl rfl rfl rfl rfl .h (row_is noW (by omega) hw1) (suB rfl) rfl rfl ?_)) <;> ((refine .cons rfl (qcall rfl rfl rfl rfl ca18 rfl rfl (fun h f => cmds_run hK h f.wf (f.ro (.of hB))) ?_)) <;> (rintro v C' ⟨km, rfl, rfl⟩) <;> refine ⟨_, .comp rfl, ?_⟩) <;> ((refine WDX.lookE rfl rfl rfl rfl rfl rfl rfl .h hlook hbq rfl rfl ?_)) <;> (iterate 5 refine .cq hX rfl rfl rfl ?_) <;> (refine .nil ⟨?_, .intro rfl ?_⟩ <;> (repeat' (first | exact trivial | exact .inl rfl | exact .inr (.inr ⟨_, _, _, rfl, (by repeat (first | exact .h | apply Pick.t)), (by repeat (first | exact .h | apply Pick.t))⟩) | refine ⟨?_, ?_⟩))))
  | (refine WCX.g_ (id := 6) ?_; (refine .cons (q hX rfl ?_)) <;> ((refine .cons (qslC (j := 2) hX rfl rfl rfl rfl rfl (by omega) rfl rfl ?_))) <;> (refine .cons (q hX rfl ?_)) <;> (refine .nil (.intro rfl ?_)))
  | refine WCX.f_ rfl ?_
  | refine WCX.k_ ?_)
 have efull : fullV k 0 ws.length 2 1 = .slice k 2 ns.length (some ns.length) := by
  unfold fullV moved
  have : Nat.beq 2 ws.length = false := by rw [nbeq]; exact decide_eq_false (by omega)
  rw [this, hwl]; rfl
 have erows : (ws.map sB).drop 2 = (ns.map decI).map sB := by rw [← hws]; rfl
 have efull0 : fullV k 2 ns.length 0 1 = .slice k 2 ns.length (some ns.length) := by
  unfold fullV moved
  have : Nat.beq 0 ns.length = false := by rw [nbeq]; exact decide_eq_false (by omega)
  rw [this]; rfl
 rw [efull]
 refine WCX.imp (ownS 9 1 (.slice k 2 ns.length (some ns.length)) ((ns.map decI).map sB)) (.t .h) rfl (fun h hh => by
  have := ownS.sub (j := 2) h hh (by omega) (by simp)
  rw [erows, hwl] at this
  simpa using this) (fun j hj => hj) ?_
 repeat' (first
  | refine ToX.a_ ?_
  | refine WCX.s_ ?_
  | (refine WCX.g_ (id := 7) ?_; (iterate 11 refine .cons (q hX rfl ?_)) <;> ((refine .cons (qc rfl ?_ ?_)) <;> ((intro _; first | (exfalso; omega) | skip))) <;> (iterate 6 refine .cons (q hX rfl ?_)) <;> ((refine .cons (qc rfl ?_ ?_)) <;> ((intro _; first | (exfalso; omega) | skip))) <;> (refine .cons (q hX rfl ?_)) <;> (refine .nil (.intro rfl ?_)))
  | (refine WCX.g_ (id := 9) ?_; (iterate 2 refine .cons (q hX rfl ?_)) <;> ((refine .cons (qc rfl ?_ ?_)) <;> ((intro _; first | (exfalso; omega) | skip))) <;> (refine .nil (.intro rfl ?_)))
  | (refine WCX.g_ (id := 10) ?_; (iterate 3 refine .cons (q hX rfl ?_)) <;> ((refine .cons (qslC (j := 0) hX rfl rfl rfl rfl rfl (by omega) rfl rfl ?_)) <;> (rw [efull0])) <;> (iterate 2 refine .cons (q hX rfl ?_)) <;> (refine .nil (.intro rfl ?_)))
  | refine WCX.t_ rfl ?_
  | refine WCX.f_ rfl ?_
  | refine WCX.k_ ?_
  | refine WCX.b_ ?_)
 refine WCX.nil 21 1 ?_
 refine WCX.loop (ι := Nat × HVal) (fun a => [(72, .ext (i64 a.1)), (71, .ext (i64 ns.length)), (70, .ext (.slice k 2 ns.length (some ns.length))), (5, .ext a.2), (4, .ext (.slice k 2 ns.length (some ns.length))), (3, .ptr 0 0), (2, .ext (.int .i32 (t : Int)))]) (fun _ => [.own [.int .i64 least, .int .i64 most, .int .i64 0, .bool locked, .func fn [] []] 50 false]) (fun a => [ownS 21 1 a.2 ((ns.take a.1).map nc), ownS 9 1 (.slice k 2 ns.length (some ns.length)) ((ns.map decI).map sB)]) (fun a => a.1 ≤ ns.length ∧ (0 < a.1 → ∃ q, a.2 = .slice q 0 a.1 none)) (fun a => ns.length - a.1) (0, .nils) ⟨⟨rfl, rfl, rfl, rfl, rfl, rfl, rfl, trivial⟩, ⟨_, rfl⟩, ⟨_, .cons .h (.cons .h .nil)⟩⟩ ⟨Nat.zero_le _, fun e => absurd e (by simp)⟩ (fun _ => rfl) (fun _ => rfl) (fun _ => rfl) ?_
 rintro ⟨i, nv⟩ ⟨hi, hnv⟩ next
 simp only at hi hnv next ⊢
 repeat' (first
  | refine ToX.a_ ?_
  | refine WCX.s_ ?_
  | (refine WCX.g_ (id := 11) ?_; ((refine .cons (qc rfl ?_ ?_)) <;> intro _) <;> (refine .nil (.intro rfl ?_)))
  | refine WCX.t_ rfl ?_
  | refine WCX.f_ rfl ?_
  | refine WCX.k_ ?_
  | refine WCX.b_ ?_
  | refine WCX.e_ ?_
  | refine ToX.e_ ?_
  | refine ToX.c_ ?_)
 ·have hil : i < ns.length := by omega
  have hni := hn _ (getD_mem 0 hil)
  obtain ⟨x, hx⟩ : ∃ x, ns.getD i 0 = x := ⟨_, rfl⟩
  rw [hx] at hni
  have hrow : ((ns.map decI).map sB)[i]? = some [strB (decI x)] := by
   rw [List.map_map, ← hx]; exact row_i (g := sB ∘ decI) 0 hil
  have htk : (ns.take (i + 1)).map nc = (ns.take i).map nc ++ [[.int .i32 x]] := by rw [take_succ hil 0, List.map_append, hx]; rfl
  have htl : (ns.take i).length = i := by rw [List.length_take]; omega
  repeat' (first
   | refine ToX.a_ ?_
   | refine WCX.s_ ?_
   | (refine WCX.g_ (id := 12) ?_; ((refine .cons (qidxW (j := i) hX rfl rfl rfl rfl rfl hil rfl rfl ?_))) <;> ((refine .cons (qldW (v := strB (decI x)) hX rfl rfl rfl rfl (.t .h) hrow rfl rfl ?_))) <;> (refine .cons (q hX rfl ?_)) <;> (refine .nil (.intro rfl ?_)))
   | (refine WCX.g_ (id := 13) ?_; (refine .cons (q hX rfl ?_)) <;> ((refine .cons (qcallV rfl rfl rfl rfl ca17 rfl rfl (fun h f => number_run hK x hni.1 hni.2 h f.wf (f.ro (.of hB))) ?_))) <;> (iterate 5 refine .cons (q hX rfl ?_)) <;> (refine .nil (.intro rfl ?_)))
   | (refine WCX.g_ (id := 14) ?_; (iterate 2 refine .cons (q hX rfl ?_)) <;> (refine .nil (.intro rfl ?_)))
   | (refine WCX.g_ (id := 16) ?_; (iterate 3 refine .cons (q hX rfl ?_)) <;> ((refine .cons (qapp hX rfl rfl rfl rfl rfl rfl rfl rfl rfl rfl rfl rfl b21 rfl rfl rfl rfl rfl (by repeat (first | exact .h | apply Pick.t)) rfl (by simp only [List.length_map]; omega) rfl rfl ?_)) <;> intro kp) <;> (refine .cons (q hX rfl ?_)) <;> (refine .nil (.intro rfl ?_)))
   | (refine WCX.g_ (id := 17) ?_; ((refine .cons (qa rfl rfl rfl rfl rfl (wI (by first | omega | (simp only [Int.ofNat_eq_natCast]; omega)) (by first | omega | (simp only [Int.ofNat_eq_natCast]; omega))) rfl rfl ?_))) <;> (refine .cons (q hX rfl ?_)) <;> (refine .nil (.intro rfl ?_)))
   | refine WCX.f_ rfl ?_
   | refine WCX.k_ ?_
   | refine ToX.b_ ?_)
  refine next (i + 1, _) _ _ _ (by simp only; omega) ⟨⟨rfl, rfl, rfl, rfl, rfl, rfl, rfl, trivial⟩, ⟨_, rfl⟩, ⟨_, by simp only [htk]; exact .cons .h (.cons .h .nil)⟩⟩ ⟨by simp only; omega, fun _ => ⟨kp, by simp only [List.length_map, htl]⟩⟩
 ·have hin : i = ns.length := by omega
  subst hin
  obtain ⟨kq, rfl⟩ := hnv (by omega)
  simp only [List.take_length]
  repeat' (first
   | refine ToX.a_ ?_
   | (refine WCX.draw (id := 18) tab [0, 1, 2, 3, 4, 5, 6, 7, 8] #[0, 0, 0, 0, 1, 19, 55, 127, 255] (by kernel_rfl) (by kernel_rfl) (by kernel_rfl) ?_; (refine .cq hX rfl rfl rfl ?_) <;> ((refine .cons rfl (q hX rfl ?_)) <;> refine ⟨_, .rdBA hX.tab rfl rfl rfl rfl rfl rfl rfl rfl (by assumption) rfl rfl rfl, ?_⟩) <;> (iterate 7 refine .cq hX rfl rfl rfl ?_) <;> (refine .nil ⟨?_, .intro rfl ?_⟩ <;> (repeat' (first | exact trivial | exact .inl rfl | refine ⟨?_, ?_⟩))))
   | refine WCX.r_ ?_
   | refine ToX.r_ hX rfl ?_)
  exact fun h f => ⟨_, f.chg.picks (.cons .h .nil), _, kq, rfl, rfl⟩
end Dr
end Go.HL
