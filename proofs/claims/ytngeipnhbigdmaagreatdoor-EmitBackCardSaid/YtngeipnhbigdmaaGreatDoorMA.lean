/- Words of code, numbers, names; the types that the walks meet. No statement of the seat stands here. -/
import Derived.Test.YtngeipnhbigdmaaGreatDoorXC
import Derived.Test.YtngeipnhbigdmaaGreatDoorProg
import Derived.KernelRfl
set_option linter.unusedVariables false
set_option linter.unusedSimpArgs false
namespace Go.HL.Em
structure bI where
 kind : Int
 op : Int
 d : Int
 a : Int
 b : Int
 cV : Int
 to : Int
 join : Int
deriving DecidableEq
structure aR where
 name : List Nat
 params : List (List Nat × Bool)
 shared : List (List Nat × Nat)
 «local» : Nat
 aq : List bI
deriving DecidableEq
/-! ## Readers -/
abbrev S := List Nat × Bool
def andThen {α β : Type} (f : S → α × S) (g : α → S → β × S) : S → β × S := fun s => g (f s).1 (f s).2
def tc {α : Type} (a : α) : S → α × S := fun s => (a, s)
def Reads {α : Type} (f : S → α × S) (w : List Nat) (a : α) : Prop := ∀ t, f (w ++ t, false) = (a, (t, false))
theorem Reads.tc {α : Type} (a : α) : Reads (tc a) [] a := fun _ => rfl
theorem Reads.andThen {α β : Type} {f : S → α × S} {g : α → S → β × S} {w w' : List Nat} {a : α} {b : β} (h : Reads f w a) (k : Reads (g a) w' b) : Reads (andThen f g) (w ++ w') b := fun t => by
 unfold Em.andThen
 rw [List.append_assoc, h (w' ++ t)]
 exact k t
def Good (rd : Nat → S → Nat × S) : Prop := ∀ bt w t, w ≤ bt → rd bt (w :: t, false) = (w, (t, false))
theorem Good.reads {rd : Nat → S → Nat × S} (g : Good rd) {bt w : Nat} (h : w ≤ bt) : Reads (rd bt) [w] w := fun t => g bt w t h
def bc (bt : Nat) : S → Nat × S
 | ([], _) => (0, ([], true))
 | (w :: t, b) => if bt < w then (0, (w :: t, true)) else (w, (t, b))
theorem DB : Good bc := fun bt w t h => by simp [bc, Nat.not_lt.2 h]
/-! ## Names -/
def bytesOf : Nat → Nat → List Nat
 | 0, _ => []
 | m + 1, w => w % 256 :: bytesOf m (w / 256)
def dz : List Nat → Nat
 | [] => 0
 | x :: l => x + 256 * dz l
theorem dW : ∀ (m w : Nat), (bytesOf m w).length = m
 | 0, _ => rfl
 | m + 1, w => by simp [bytesOf, dW m]
theorem mO : ∀ (m w : Nat), ∀ x ∈ bytesOf m w, x < 256
 | 0, _, x, h => by cases h
 | m + 1, w, x, h => by
  rcases List.mem_cons.1 h with rfl | h
  ·omega
  ·exact mO m _ x h
theorem ov : ∀ {l : List Nat}, (∀ x ∈ l, x < 256) → bytesOf l.length (dz l) = l
 | [], _ => rfl
 | x :: l, h => by
  have hx : x < 256 := h x (by simp)
  have ih := ov (l := l) fun y hy => h y (by simp [hy])
  show (x + 256 * dz l) % 256 :: bytesOf l.length ((x + 256 * dz l) / 256) = x :: l
  rw [show (x + 256 * dz l) % 256 = x by omega, show (x + 256 * dz l) / 256 = dz l by omega, ih]
theorem so : ∀ {l : List Nat}, (∀ x ∈ l, x < 256) → dz l < 256 ^ l.length
 | [], _ => by simp [dz]
 | x :: l, h => by
  have hx : x < 256 := h x (by simp)
  have ih := so (l := l) fun y hy => h y (by simp [hy])
  show x + 256 * dz l < 256 ^ (l.length + 1)
  rw [Nat.pow_succ]
  omega
theorem tH {l : List Nat} (h : ∀ x ∈ l, x < 256) : dz (l.take 4) < 4294967296 := by
 have h1 := so (l := l.take 4) fun x hx => h x (List.mem_of_mem_take hx)
 have h2 : (256 : Nat) ^ (l.take 4).length ≤ 256 ^ 4 := Nat.pow_le_pow_right (by omega) (by rw [List.length_take]; omega)
 have h3 : (256 : Nat) ^ 4 = 4294967296 := by decide
 omega
def jJ (l : List Nat) : List Nat := if _h : 0 < l.length then dz (l.take 4) :: jJ (l.drop 4) else []
termination_by l.length
decreasing_by rw [List.length_drop]; omega
def kA (rd : S → Nat × S) (n : Nat) (b : List Nat) (s : S) : List Nat × S :=
 if _h : b.length < n ∧ s.2 = false then kA rd n (b ++ bytesOf (min 4 (n - b.length)) (rd s).1) (rd s).2 else (b, s)
termination_by n - b.length
decreasing_by rw [List.length_append, dW]; omega
theorem Bt {rd : Nat → S → Nat × S} (g : Good rd) : ∀ (k : Nat) {c : List Nat}, c.length = k → (∀ x ∈ c, x < 256) → ∀ (b : List Nat) (t : List Nat), kA (rd 4294967295) (b.length + c.length) b (jJ c ++ t, false) = (b ++ c, (t, false)) := by
 intro k
 induction k using Nat.strongRecOn with
 | _ k ih =>
  intro c hc hx b t
  by_cases h0 : 0 < c.length
  ·have hp : jJ c = dz (c.take 4) :: jJ (c.drop 4) := by rw [jJ, dif_pos h0]
   rw [kA, dif_pos ⟨by omega, rfl⟩, hp, List.cons_append, g 4294967295 _ _ (by have := tH hx; omega)]
   have e : bytesOf (min 4 (b.length + c.length - b.length)) (dz (c.take 4)) = c.take 4 := by
    have := ov (l := c.take 4) fun x hy => hx x (List.mem_of_mem_take hy)
    rw [List.length_take] at this
    rw [Nat.add_sub_cancel_left]
    exact this
   simp only [e]
   have e2 : b.length + c.length = (b ++ c.take 4).length + (c.drop 4).length := by
    rw [List.length_append, List.length_take, List.length_drop]; omega
   rw [e2, ih (c.drop 4).length (by rw [List.length_drop]; omega) rfl (fun x hy => hx x (List.mem_of_mem_drop hy)), List.append_assoc, List.take_append_drop]
  ·obtain rfl : c = [] := List.eq_nil_of_length_eq_zero (by omega)
   rw [kA, dif_neg (by simp), jJ, dif_neg (by simp)]
   simp
def gN (rd : Nat → S → Nat × S) : S → List Nat × S := andThen (rd 16) fun n => kA (rd 4294967295) n []
def lL (b : List Nat) : List Nat := b.length :: jJ b
def cy (b : List Nat) : Prop := b.length ≤ 16 ∧ ∀ x ∈ b, x < 256
theorem nR {rd : Nat → S → Nat × S} (g : Good rd) {b : List Nat} (h : cy b) : Reads (gN rd) (lL b) b := by
 refine Reads.andThen (w := [b.length]) (g.reads h.1) fun t => ?_
 have := Bt g b.length rfl h.2 [] t
 simpa using this
/-! ## Lists -/
def dT {α : Type} (one : S → α × S) : Nat → S → List α × S
 | 0, s => ([], s)
 | n + 1, s => if s.2 = true then ([], s) else ((one s).1 :: (dT one n (one s).2).1, (dT one n (one s).2).2)
theorem kB {α : Type} {one : S → α × S} {enc : α → List Nat} : ∀ {l : List α}, (∀ a ∈ l, Reads one (enc a) a) → Reads (dT one l.length) (l.flatMap enc) l
 | [], _ => fun _ => rfl
 | a :: l, h => fun t => by
  have h1 := h a (by simp)
  have h2 := kB (l := l) (fun b hb => h b (by simp [hb])) t
  show dT one (l.length + 1) (_, false) = _
  rw [dT, if_neg (by simp), List.flatMap_cons, List.append_assoc, h1, h2]
/-! ## Code -/
def sO (rd : Nat → S → Nat × S) : S → (List Nat × Bool) × S := andThen (gN rd) fun n => andThen (rd 1) fun k => tc (n, k == 1)
def ld (p : List Nat × Bool) : List Nat := lL p.1 ++ [if p.2 then 1 else 0]
def Ap (rd : Nat → S → Nat × S) : S → (List Nat × Nat) × S := andThen (gN rd) fun n => andThen (rd 64) fun k => tc (n, k)
def oz (p : List Nat × Nat) : List Nat := lL p.1 ++ [p.2]
def signed (n : Nat) : Int := if n < 2147483648 then (n : Int) else (n : Int) - 4294967296
def Fk (rd : Nat → S → Nat × S) (l1 l2 : Nat) : S → bI × S :=
 andThen (rd l1) fun k => andThen (rd l2) fun r => andThen (rd 4294967295) fun m => andThen (rd 2000) fun to => andThen (rd 2000) fun j => andThen (rd 0) fun _ =>
  tc ⟨(k % 256 : Nat), (k / 256 : Nat), (r % 256 : Nat), (r / 256 % 256 : Nat), (r / 65536 : Nat), signed m, to, j⟩
def wF (x : bI) : List Nat := [(x.kind + 256 * x.op).toNat, (x.d + 256 * x.a + 65536 * x.b).toNat, (x.cV % 4294967296).toNat, x.to.toNat, x.join.toNat, 0]
structure k9 (x : bI) : Prop where
 kind : 0 ≤ x.kind ∧ x.kind < 256
 op : 0 ≤ x.op ∧ x.op < 256
 d : 0 ≤ x.d ∧ x.d < 256
 a : 0 ≤ x.a ∧ x.a < 256
 b : 0 ≤ x.b ∧ x.b < 256
 cV : -2147483648 ≤ x.cV ∧ x.cV ≤ 2147483647
 to : 0 ≤ x.to ∧ x.to ≤ 2000
 join : 0 ≤ x.join ∧ x.join ≤ 2000
theorem BJ {rd : Nat → S → Nat × S} (g : Good rd) {l1 l2 : Nat} (h1 : 65535 ≤ l1) (h2 : 16777215 ≤ l2) {x : bI} (h : k9 x) : Reads (Fk rd l1 l2) (wF x) x := by
 obtain ⟨k, o, d, a, b, m, t, j⟩ := h
 refine Reads.andThen (w := [_]) (g.reads (by omega)) (Reads.andThen (w := [_]) (g.reads (by omega)) (Reads.andThen (w := [_]) (g.reads (by omega)) (Reads.andThen (w := [_]) (g.reads (by omega)) (Reads.andThen (w := [_]) (g.reads (by omega)) (Reads.andThen (w := [_]) (w' := []) (g.reads (Nat.le_refl 0)) fun t => ?_)))))
 have e : (⟨(((x.kind + 256 * x.op).toNat % 256 : Nat) : Int), (((x.kind + 256 * x.op).toNat / 256 : Nat) : Int), (((x.d + 256 * x.a + 65536 * x.b).toNat % 256 : Nat) : Int), (((x.d + 256 * x.a + 65536 * x.b).toNat / 256 % 256 : Nat) : Int), (((x.d + 256 * x.a + 65536 * x.b).toNat / 65536 : Nat) : Int), signed (x.cV % 4294967296).toNat, (x.to.toNat : Int), (x.join.toNat : Int)⟩ : bI) = x := by
  cases x
  simp only at *
  unfold signed
  congr <;> first | omega | (split <;> omega)
 show (_, _) = _
 rw [e]
 rfl
def iN (rd : Nat → S → Nat × S) (l1 l2 : Nat) : S → aR × S :=
 andThen (gN rd) fun n => andThen (rd 6) fun np => andThen (dT (sO rd) np) fun ps => andThen (rd 4) fun na => andThen (dT (Ap rd) na) fun ars => andThen (rd 64) fun lo => andThen (rd 2000) fun ni => andThen (dT (Fk rd l1 l2) ni) fun is => tc ⟨n, ps, ars, lo, is⟩
def jW (c : aR) : List Nat := lL c.name ++ ([c.params.length] ++ (c.params.flatMap ld ++ ([c.shared.length] ++ (c.shared.flatMap oz ++ ([c.local] ++ ([c.aq.length] ++ (c.aq.flatMap wF ++ [])))))))
structure dZ (c : aR) : Prop where
 name : cy c.name
 params : c.params.length ≤ 6
 eg : ∀ p ∈ c.params, cy p.1
 shared : c.shared.length ≤ 4
 dF : ∀ p ∈ c.shared, cy p.1 ∧ p.2 ≤ 64
 «local» : c.local ≤ 64
 aq : c.aq.length ≤ 2000
 each : ∀ x ∈ c.aq, k9 x
theorem zP {rd : Nat → S → Nat × S} (g : Good rd) {p : List Nat × Bool} (h : cy p.1) : Reads (sO rd) (ld p) p := by
 refine Reads.andThen (nR g h) ?_
 have := Reads.andThen (g := fun k => tc (p.1, k == 1)) (w := [if p.2 then 1 else 0]) (w' := []) (g.reads (rd := rd) (bt := 1) (w := if p.2 then 1 else 0) (by split <;> omega)) (Reads.tc (p.1, (if p.2 then 1 else 0) == 1))
 have e : (p.1, (if p.2 = true then 1 else 0) == 1) = p := by obtain ⟨a, b⟩ := p; cases b <;> rfl
 rw [e] at this
 exact this
theorem Ao {rd : Nat → S → Nat × S} (g : Good rd) {p : List Nat × Nat} (h : cy p.1 ∧ p.2 ≤ 64) : Reads (Ap rd) (oz p) p :=
 Reads.andThen (nR g h.1) (Reads.andThen (w := [p.2]) (w' := []) (g.reads h.2) (Reads.tc (p.1, p.2)))
theorem Ch {rd : Nat → S → Nat × S} (g : Good rd) {l1 l2 : Nat} (h1 : 65535 ≤ l1) (h2 : 16777215 ≤ l2) {c : aR} (h : dZ c) : Reads (iN rd l1 l2) (jW c) c :=
 Reads.andThen (nR g h.name) (Reads.andThen (g.reads h.params) (Reads.andThen (kB fun p hp => zP g (h.eg p hp)) (Reads.andThen (g.reads h.shared) (Reads.andThen (kB fun p hp => Ao g (h.dF p hp))
  (Reads.andThen (g.reads h.local) (Reads.andThen (g.reads h.aq) (Reads.andThen (kB fun x hx => BJ g h1 h2 (h.each x hx)) (Reads.tc _))))))))
end Go.HL.Em
namespace Go.HL.Em
def sumOf (l : List Nat) : Nat := l.foldl (fun n w => (31 * n + w) % 4294967296) 7
def fF (c : aR) : List Nat := 65585 :: (jW c).length :: jW c
def aW (c : aR) : List Nat := fF c ++ [sumOf (fF c)]
def mQ (V : aR → Bool) (l : List Nat) : Option aR :=
 if l.length < 3 ∨ l[0]? ≠ some 65585 then none
 else if (iN bc 4294967295 4294967295 ((l.drop 2).take (l.length - 3), false)).2.2 = true ∨ V (iN bc 4294967295 4294967295 ((l.drop 2).take (l.length - 3), false)).1 = false then none
 else if aW (iN bc 4294967295 4294967295 ((l.drop 2).take (l.length - 3), false)).1 = l then some (iN bc 4294967295 4294967295 ((l.drop 2).take (l.length - 3), false)).1 else none
variable {V : aR → Bool} {l : List Nat} {c : aR}
theorem zj (hV : ∀ c, V c = true → dZ c) : mQ V l = some c ↔ V c = true ∧ aW c = l := by
 constructor
 ·intro h
  unfold mQ at h
  split at h
  ·cases h
  ·split at h
   ·cases h
   ·rename_i h2
    split at h
    ·rename_i h3
     cases h
     refine ⟨?_, h3⟩
     cases hv : V (iN bc 4294967295 4294967295 ((l.drop 2).take (l.length - 3), false)).1 with
     | true => rfl
     | false => exact absurd (.inr hv) h2
    ·cases h
 ·rintro ⟨hv, rfl⟩
  have hl : (aW c).length = (jW c).length + 3 := by simp [aW, fF]
  have hr := Ch DB (l1 := 4294967295) (l2 := 4294967295) (by omega) (by omega) (hV c hv) []
  have e : ((aW c).drop 2).take ((aW c).length - 3) = jW c := by
   rw [hl, Nat.add_sub_cancel]
   show (jW c ++ [_]).take _ = _
   rw [List.take_left]
  rw [List.append_nil] at hr
  unfold mQ
  rw [e, hr, if_neg (by simp [hl]; simp [aW, fF]), if_neg (by simp [hv]), if_pos rfl]
end Go.HL.Em
namespace Go.HL.Em
theorem Ii {a b w : Nat} (ha : a < 4294967296) (hb : b < 4294967296) (h : (31 * a + w) % 4294967296 = (31 * b + w) % 4294967296) : a = b := by
 have h1 : (3186588639 * (31 * a + w)) % 4294967296 = (3186588639 * (31 * b + w)) % 4294967296 := by rw [Nat.mul_mod, h, ← Nat.mul_mod]
 omega
theorem Ig : ∀ (l : List Nat) (n : Nat), n < 4294967296 → l.foldl (fun n w => (31 * n + w) % 4294967296) n < 4294967296
 | [], n, h => h
 | w :: l, n, _ => Ig l _ (Nat.mod_lt _ (by omega))
theorem EL : ∀ (l : List Nat) {a b : Nat}, a < 4294967296 → b < 4294967296 → l.foldl (fun n w => (31 * n + w) % 4294967296) a = l.foldl (fun n w => (31 * n + w) % 4294967296) b → a = b
 | [], _, _, _, _, h => h
 | w :: l, a, b, ha, hb, h => Ii ha hb (EL l (a := (31 * a + w) % 4294967296) (b := (31 * b + w) % 4294967296) (Nat.mod_lt _ (by omega)) (Nat.mod_lt _ (by omega)) h)
theorem EK : ∀ {l : List Nat} {k v w n : Nat}, n < 4294967296 → l[k]? = some v → v < 4294967296 → w < 4294967296 → w ≠ v → (l.set k w).foldl (fun n w => (31 * n + w) % 4294967296) n ≠ l.foldl (fun n w => (31 * n + w) % 4294967296) n
 | x :: l, 0, v, w, n, hn, hv, h1, h2, hne => fun h => by
  simp only [List.getElem?_cons_zero, Option.some.injEq] at hv
  subst hv
  have := EL l (Nat.mod_lt _ (by omega)) (Nat.mod_lt _ (by omega)) h
  omega
 | x :: l, k + 1, v, w, n, hn, hv, h1, h2, hne => EK (l := l) (k := k) (Nat.mod_lt _ (by omega)) (by simpa using hv) h1 h2 hne
 | [], _, _, _, _, _, hv, _, _, _ => by simp at hv
variable {V : aR → Bool}
theorem vl {c c' : aR} {k v w : Nat} (hv : (aW c)[k]? = some v) (h1 : v < 4294967296) (h2 : w < 4294967296) (hne : w ≠ v) : aW c' ≠ (aW c).set k w := by
 intro h
 have hlen : (fF c').length = (fF c).length := by
  have := congrArg List.length h
  simpa [aW] using this
 by_cases hk : k < (fF c).length
 ·rw [aW, aW, List.set_append_left _ _ hk] at h
  obtain ⟨e1, e2⟩ := List.append_inj h (by rw [List.length_set, hlen])
  have e3 : sumOf (fF c') = sumOf (fF c) := by simpa using e2
  rw [e1] at e3
  refine EK (l := fF c) (k := k) (n := 7) (by omega) ?_ h1 h2 hne e3
  rw [← hv, aW, List.getElem?_append_left hk]
 ·have hk2 : k = (fF c).length := by
   have := (List.getElem?_eq_some_iff.1 hv).1
   simp [aW] at this
   omega
  subst hk2
  rw [aW, aW, List.set_append_right _ _ (Nat.le_refl _), Nat.sub_self] at h
  obtain ⟨e1, e2⟩ := List.append_inj h hlen
  have e3 : sumOf (fF c') = w := by simpa using e2
  rw [aW, List.getElem?_append_right (Nat.le_refl _), Nat.sub_self] at hv
  rw [e1] at e3
  simp at hv
  omega
theorem Ar (hV : ∀ c, V c = true → dZ c) {c : aR} {k v w : Nat} (hv : (aW c)[k]? = some v) (h1 : v < 4294967296) (h2 : w < 4294967296) (hne : w ≠ v) : mQ V ((aW c).set k w) = none := by
 cases hp : mQ V ((aW c).set k w) with
 | none => rfl
 | some c' => exact absurd ((zj hV).1 hp).2 (vl hv h1 h2 hne)
end Go.HL.Em
namespace Go.HL
open Go
noncomputable section
namespace Em
noncomputable abbrev P : Program := Go.Proofs.Tryz.prog
noncomputable def aw : iO := [(3, .int .i64, 1), (4, .bool, 1), (5, .int .u8, 1), (9, .str, 1), (21, .int .i32, 1), (22, .slice 70, 1), (23, .slice 72, 1), (24, .slice 74, 1), (26, .struct [(0, 9), (1, 22), (2, 23), (3, 3), (4, 24)], 5), (29, .slice 42, 1), (30, .int .i64, 1), (42, .int .u32, 1), (56, .slice 21, 1), (70, .struct [(0, 9), (1, 4)], 2), (72, .struct [(0, 9), (1, 3)], 2), (74, .struct [(0, 3), (1, 3), (2, 3), (3, 3), (4, 3), (5, 21), (6, 3), (7, 3)], 8), (80, .struct [(0, 4), (1, 4), (2, 4), (3, 4), (4, 4), (5, 4), (6, 4), (7, 4), (8, 4), (9, 4), (10, 4), (11, 3)], 12), (81, .array 16 80, 192), (92, .struct [(0, 29), (1, 4)], 2), (95, .struct [(0, 29), (1, 3), (2, 4)], 3), (100, .slice 9, 1), (109, .slice 3, 1), (140, .slice 5, 1), (150, .map 9 4, 1), (196, .int .u64, 1), (225, .int .u64, 1)]
theorem hT : bH P aw = true := by kernel_rfl
theorem z3 : ag P 3 = some [.int .i64 0] := by kernel_rfl
theorem z4 : ag P 4 = some [.bool false] := by kernel_rfl
theorem z5 : ag P 5 = some [.int .u8 0] := by kernel_rfl
theorem b5 : P.bytesOf 5 = 1 := by kernel_rfl
theorem z9 : ag P 9 = some [.str 0 0] := by kernel_rfl
theorem z21 : ag P 21 = some [.int .i32 0] := by kernel_rfl
theorem Q1 : ag P 22 = some [.aC] := by kernel_rfl
theorem PZ : ag P 23 = some [.aC] := by kernel_rfl
theorem z24 : ag P 24 = some [.aC] := by kernel_rfl
theorem PV : ag P 26 = some [.str 0 0, .aC, .aC, .int .i64 0, .aC] := by kernel_rfl
theorem PU : ag P 29 = some [.aC] := by kernel_rfl
theorem PT : ag P 30 = some [.int .i64 0] := by kernel_rfl
theorem PQ : ag P 42 = some [.int .u32 0] := by kernel_rfl
theorem NV : P.bytesOf 42 = 4 := by kernel_rfl
theorem z56 : ag P 56 = some [.aC] := by kernel_rfl
theorem z70 : ag P 70 = some [.str 0 0, .bool false] := by kernel_rfl
theorem PL : P.bytesOf 70 = 24 := by kernel_rfl
theorem z72 : ag P 72 = some [.str 0 0, .int .i64 0] := by kernel_rfl
theorem QO : P.bytesOf 72 = 24 := by kernel_rfl
theorem PO : ag P 74 = some [.int .i64 0, .int .i64 0, .int .i64 0, .int .i64 0, .int .i64 0, .int .i32 0, .int .i64 0, .int .i64 0] := by kernel_rfl
theorem QN : P.bytesOf 74 = 64 := by kernel_rfl
theorem z80 : ag P 80 = some [.bool false, .bool false, .bool false, .bool false, .bool false, .bool false, .bool false, .bool false, .bool false, .bool false, .bool false, .int .i64 0] := by kernel_rfl
theorem z92 : ag P 92 = some [.aC, .bool false] := by kernel_rfl
theorem z95 : ag P 95 = some [.aC, .int .i64 0, .bool false] := by kernel_rfl
theorem MD : ag P 100 = some [.aC] := by kernel_rfl
theorem z109 : ag P 109 = some [.aC] := by kernel_rfl
theorem MC : ag P 140 = some [.aC] := by kernel_rfl
theorem z196 : ag P 196 = some [.int .u64 0] := by kernel_rfl
theorem Q0 : ag P 225 = some [.int .u64 0] := by kernel_rfl
noncomputable def Od : List aa := gp 16 [.bool false, .bool false, .bool false, .bool false, .bool false, .bool false, .bool false, .bool false, .bool false, .bool false, .bool false, .int .i64 0]
theorem z81 : ag P 81 = some Od := by kernel_rfl
noncomputable def zl : List (Nat × List aa) := [(3, [.int .i64 0]), (4, [.bool false]), (5, [.int .u8 0]), (9, [.str 0 0]), (21, [.int .i32 0]), (22, [.aC]), (23, [.aC]), (24, [.aC]), (26, [.str 0 0, .aC, .aC, .int .i64 0, .aC]), (29, [.aC]), (30, [.int .i64 0]), (42, [.int .u32 0]), (56, [.aC]), (70, [.str 0 0, .bool false]), (72, [.str 0 0, .int .i64 0]), (74, [.int .i64 0, .int .i64 0, .int .i64 0, .int .i64 0, .int .i64 0, .int .i32 0, .int .i64 0, .int .i64 0]), (80, [.bool false, .bool false, .bool false, .bool false, .bool false, .bool false, .bool false, .bool false, .bool false, .bool false, .bool false, .int .i64 0]), (92, [.aC, .bool false]), (95, [.aC, .int .i64 0, .bool false]), (100, [.aC]), (109, [.aC]), (140, [.aC]), (196, [.int .u64 0]), (225, [.int .u64 0]), (81, Od)]
theorem hX : TK P aw zl := ⟨hT, z3, z4, z5, z9, z21, Q1, PZ, z24, PV, PU, PT, PQ, z56, z70, z72, PO, z80, z92, z95, MD, z109, MC, z196, Q0, z81, trivial⟩
theorem Ng : Nat.lor (bB Go.Proofs.Tryz.f13) (Nat.sub (Nat.pow 2 1) 1) = 142816254623935 := by kernel_rfl
theorem Er : az P 13 := ⟨_, _, Go.Proofs.Tryz.func13, rfl, by kernel_rfl, rfl⟩
theorem Nf : Nat.lor (bB Go.Proofs.Tryz.f16) (Nat.sub (Nat.pow 2 1) 1) = 288731787813781757 := by kernel_rfl
theorem NQ : az P 16 := ⟨_, _, Go.Proofs.Tryz.func16, rfl, by kernel_rfl, rfl⟩
theorem wm : Nat.lor (bB Go.Proofs.Tryz.f18) (Nat.sub (Nat.pow 2 2) 1) = 1153066640141713471 := by kernel_rfl
theorem NP : az P 18 := ⟨_, _, Go.Proofs.Tryz.func18, rfl, by kernel_rfl, rfl⟩
theorem Nb : Nat.lor (bB Go.Proofs.Tryz.f28) (Nat.sub (Nat.pow 2 1) 1) = 70835501465177981715119 := by kernel_rfl
theorem Pf : az P 28 := ⟨_, _, Go.Proofs.Tryz.func28, rfl, by kernel_rfl, rfl⟩
theorem N9 : Nat.lor (bB Go.Proofs.Tryz.f34) (Nat.sub (Nat.pow 2 1) 1) = 4835705442439177032433839 := by kernel_rfl
theorem QI : az P 34 := ⟨_, _, Go.Proofs.Tryz.func34, rfl, by kernel_rfl, rfl⟩
theorem QH : az P 35 := ⟨_, _, Go.Proofs.Tryz.func35, rfl, by kernel_rfl, rfl⟩
theorem N8 : Nat.lor (bB Go.Proofs.Tryz.f36) (Nat.sub (Nat.pow 2 3) 1) = 17592186110463 := by kernel_rfl
theorem QG : az P 36 := ⟨_, _, Go.Proofs.Tryz.func36, rfl, by kernel_rfl, rfl⟩
theorem N7 : Nat.lor (bB Go.Proofs.Tryz.f43) (Nat.sub (Nat.pow 2 1) 1) = 1208925824118228869193725 := by kernel_rfl
theorem QF : az P 43 := ⟨_, _, Go.Proofs.Tryz.func43, rfl, by kernel_rfl, rfl⟩
theorem Jb : Nat.lor (bB Go.Proofs.Tryz.f46) (Nat.sub (Nat.pow 2 2) 1) = 33571891 := by kernel_rfl
theorem LN : az P 46 := ⟨_, _, Go.Proofs.Tryz.func46, rfl, by kernel_rfl, rfl⟩
theorem Ja : Nat.lor (bB Go.Proofs.Tryz.f47) (Nat.sub (Nat.pow 2 2) 1) = 33571891 := by kernel_rfl
theorem NO : az P 47 := ⟨_, _, Go.Proofs.Tryz.func47, rfl, by kernel_rfl, rfl⟩
theorem N5 : Nat.lor (bB Go.Proofs.Tryz.f64) (Nat.sub (Nat.pow 2 2) 1) = 1073873139 := by kernel_rfl
theorem NN : az P 64 := ⟨_, _, Go.Proofs.Tryz.func64, rfl, by kernel_rfl, rfl⟩
theorem Cs : az P 65 := ⟨_, _, Go.Proofs.Tryz.func65, rfl, by kernel_rfl, rfl⟩
theorem QD : az P 66 := ⟨_, _, Go.Proofs.Tryz.func66, rfl, by kernel_rfl, rfl⟩
theorem QC : az P 67 := ⟨_, _, Go.Proofs.Tryz.func67, rfl, by kernel_rfl, rfl⟩
theorem N3 : Nat.lor (bB Go.Proofs.Tryz.f78) (Nat.sub (Nat.pow 2 1) 1) = 2208301069 := by kernel_rfl
theorem NM : az P 78 := ⟨_, _, Go.Proofs.Tryz.func78, rfl, by kernel_rfl, rfl⟩
theorem Qz : az P 79 := ⟨_, _, Go.Proofs.Tryz.func79, rfl, by kernel_rfl, rfl⟩
theorem HI : az P 80 := ⟨_, _, Go.Proofs.Tryz.func80, rfl, by kernel_rfl, rfl⟩
theorem N0 : Nat.lor (bB Go.Proofs.Tryz.f81) (Nat.sub (Nat.pow 2 3) 1) = 141012366329055 := by kernel_rfl
theorem Qx : az P 81 := ⟨_, _, Go.Proofs.Tryz.func81, rfl, by kernel_rfl, rfl⟩
theorem MZ : Nat.lor (bB Go.Proofs.Tryz.f86) (Nat.sub (Nat.pow 2 1) 1) = 8590459133 := by kernel_rfl
theorem NL : az P 86 := ⟨_, _, Go.Proofs.Tryz.func86, rfl, by kernel_rfl, rfl⟩
theorem J9 : Nat.lor (bB Go.Proofs.Tryz.f87) (Nat.sub (Nat.pow 2 2) 1) = 8388659 := by kernel_rfl
theorem xv : az P 87 := ⟨_, _, Go.Proofs.Tryz.func87, rfl, by kernel_rfl, rfl⟩
theorem LM : az P 88 := ⟨_, _, Go.Proofs.Tryz.func88, rfl, by kernel_rfl, rfl⟩
theorem Mt : az P 148 := ⟨_, _, Go.Proofs.Tryz.func148, rfl, by kernel_rfl, rfl⟩
theorem Pq : az P 149 := ⟨_, _, Go.Proofs.Tryz.func149, rfl, by kernel_rfl, rfl⟩
theorem Pp : az P 150 := ⟨_, _, Go.Proofs.Tryz.func150, rfl, by kernel_rfl, rfl⟩
theorem Pn : az P 152 := ⟨_, _, Go.Proofs.Tryz.func152, rfl, by kernel_rfl, rfl⟩
theorem Po : az P 151 := ⟨_, _, Go.Proofs.Tryz.func151, rfl, by kernel_rfl, rfl⟩
theorem Ph : az P 241 := ⟨_, _, Go.Proofs.Tryz.func241, rfl, by kernel_rfl, rfl⟩
theorem O {K : ah} {E : eK} {ops : Array Oper} {o : Oper} {pl : List Nat} {al al' : List AX} {L : SL} {B B' : List bX} {G : List Part} {m n i : Nat} {RA : List AX → SL → List bX → List Part → Prop} {sv : SV} (hi : ops[i]? = some o) (he : qN P aw zl ops o L B n = some (sv, B')) (hu : G3 P ops i o L B G (bm o.dst sv L) B' G al = some al') (hw : iZ P K E aw ops pl al' (bm o.dst sv L) B' G m n RA) : iZ P K E aw ops (i :: pl) al L B G m n RA := iZ.cq hX hi he hu hw
theorem J {K : ah} {E : eK} {ops : Array Oper} {o : Oper} {l : List Oper} {L : SL} {B B' : List bX} {G : List Part} {m n : Nat} {R : SL → List bX → List Part → Prop} {sv : SV} (he : qN P aw zl ops o L B n = some (sv, B')) (hr : HZ P K E ops l (bm o.dst sv L) B' G m n R) : HZ P K E ops (o :: l) L B G m n R := .cons (q hX he hr)
end Em
end
end Go.HL
namespace Go.HL
open Go
noncomputable section
namespace Em
def ly : List (Nat × Nat) := [(4, 1718972003), (6, 118083455706476), (6, 108256368682354), (3, 6909556), (6, 126892148680036), (3, 7103860), (2, 26982), (4, 1701606245), (5, 512852847717), (5, 422826041707), (8, 7165066978433856869), (6, 125780071117422), (7, 27691691891320178), (6, 107152713541987), (7, 27988534160089972), (3, 7629156), (3, 6449508), (3, 6580589), (4, 1735551332), (3, 7170414), (3, 7168376), (3, 6382692), (3, 6385252), (2, 28530), (3, 7892850)]
def vj : aG := .map (ly.zipIdx.map fun p => ⟨kV p.1, .bool true, p.2⟩) 25 true
def Qp (f : Nat) : Bool := Nat.beq f 149 || (Nat.beq f 70 || (Nat.beq f 137 || (Nat.beq f 48 || (Nat.beq f 90 || (Nat.beq f 91 || Nat.beq f 162)))))
structure KN (base : List (Nat × aG)) (K : ah) : Prop where
 none : ∀ f, Nat.beq f 8 = false → Qp f = false → ∀ a h, K f a h = none
 words : ∀ h, (lies base).holds h → K 149 [] h = some (.ret (.map h.next), h.new vj)
 Pv : ∀ h, (lies base).holds h → K 8 [] h = some (.ret (.bool true), h)
def gj (n : Nat) : List aa := [.int .u32 (n : Int)]
def words (v : aa) (l : List Nat) : Part := xX 42 v 1 (l.map gj)
end Em
end
end Go.HL
namespace Go.HL
open Go Go.Proofs
namespace Em
set_option maxRecDepth 10000
variable {K : ah} {base : List (Nat × aG)}
theorem tG {v : aa} {l : List Nat} {h : Heap} (f : (words v l).holds h) : v.cells = some [v] := by
 cases f.1 <;> rfl
theorem yd {v : aa} {l : List Nat} {h : Heap} (f : (words v l).holds h) : dO v = some l.length := by
 have := f.2.slice.len; rwa [List.length_map] at this
def CI (bt : Nat) (v : aa) : S → aa → Prop
 | ([], _), v' => v' = v
 | (w :: ws, _), v' => if bt < w then v' = v else jt v 1 (ws.length + 1) 1 v'
theorem Bm {C : List Part} {h : Heap} {bt : Nat} {v v' : aa} {s : S} (n : CI bt v s v') (r : Ro C h (words v s.1)) : Ro C h (words v' (bc bt s).2.1) := by
 obtain ⟨l, b⟩ := s
 cases l with
 | nil =>
  have n : v' = v := n
  subst n; exact r
 | cons w l =>
  unfold CI at n
  unfold bc
  simp only at n ⊢
  split
  ·rename_i e
   rw [if_pos e] at n
   subst n; exact r
  ·rename_i e
   rw [if_neg e] at n
   have := r.drop (j := 1) (v' := v') (by simp) (by simpa using n)
   exact this
theorem J5 (hK : KN base K) (k bt : Nat) (v : aa) (s : S) (h : Heap) (w : Wf h) (hp : (eR k [v, .bool s.2] 92 false).holds h) (ro : Ro [eR k [v, .bool s.2] 92 false] h (words v s.1)) (hl : bt ≤ 4294967295) (hw : ∀ x ∈ s.1, x < 4294967296) :
  Sp P K 87 [.ptr k 0, .int .i64 (bt : Int)] h (NY k [v, .bool s.2] 92 false (fun x l' C' => x = .int .i64 (((bc bt s).1 : Nat) : Int) ∧ (∃ v', l' = [v', .bool (bc bt s).2.2] ∧ CI bt v s v') ∧ C' = []) h) := by
 obtain ⟨ws, b⟩ := s
 have hlen := yd ro.holds
 cases ws with
 | nil =>
  refine Sp.pT (m := 8388659) (n := 43) w hp (hK.none 87 rfl rfl _ _) Tryz.func87 rfl rfl J9 rfl rfl ?_
  repeat' (first | refine ax.a_ ?_ | refine ai.s_ ?_ | (refine X 0 ?_; (refine J Z ?_) <;> (refine Y Z ?_)) | (refine X 1 ?_; (iterate 4 refine J Z ?_) <;> (refine .cons (ql hX Z Z Z Z Z Z (by assumption) Z Z ?_)) <;> ((refine .cons (qc Z ?_ ?_)) <;> intro _) <;> (iterate 5 refine J Z ?_) <;> (first | (refine J Z ?_) | (exfalso; exact absurd Z ‹¬ ((([] : List Nat).length : Nat) : Int) = 0›)) <;> (iterate 6 refine J Z ?_) <;> (refine Y Z ?_)) | (refine X 2 ?_; (iterate 4 refine J Z ?_) <;> (refine Y Z ?_)) | (refine X 3 ?_; (refine J Z ?_) <;> (refine Y Z ?_)) | refine ai.r_ ?_ | refine ax.d_ ?_ | refine ai.t_ rfl ?_ | refine ax.r_ hX rfl ?_)
  exact fun h f => ⟨_, _, f.Cn, rfl, ⟨_, rfl, rfl⟩, rfl⟩
 | cons x ws =>
  have hx : x < 4294967296 := hw x (by simp)
  have hcl := tG ro.holds
  refine Sp.pT (m := 8388659) (n := 43) w hp (hK.none 87 rfl rfl _ _) Tryz.func87 rfl rfl J9 rfl rfl ?_
  repeat' (first | refine ax.a_ ?_ | refine ai.s_ ?_ | (refine X 0 ?_; (refine J Z ?_) <;> (refine Y Z ?_)) | (refine X 1 ?_; (iterate 4 refine J Z ?_) <;> (refine .cons (ql hX Z Z Z Z Z Z (by assumption) Z Z ?_)) <;> ((refine .cons (qc Z ?_ ?_)) <;> intro _) <;> (iterate 5 refine J Z ?_) <;> (first | (refine J Z ?_) | (refine .cons (bq hX Z Z Z Z Z ro.xX Z Z Z Z ?_))) <;> (refine J Z ?_) <;> (first | (refine J Z ?_) | (refine .cons (qw hX Z Z Z Z (fz (by omega)) Z Z ?_))) <;> (refine J Z ?_) <;> (first | (refine J Z ?_) | (refine .cons (qw hX Z Z Z Z (fz (by omega)) Z Z ?_))) <;> (first | (refine J Z ?_) | (refine .cons (qc Z ?_ ?_)) <;> intro _) <;> (refine J Z ?_) <;> (refine Y Z ?_)) | (refine X 2 ?_; (iterate 4 refine J Z ?_) <;> (refine Y Z ?_)) | (refine X 3 ?_; (refine J Z ?_) <;> (refine Y Z ?_)) | (refine X 4 ?_; (iterate 4 refine J Z ?_) <;> (refine .cons (bq hX Z Z Z Z Z ro.xX Z Z Z Z ?_)) <;> (refine J Z ?_) <;> (refine .cons (qw hX Z Z Z Z (cC (by omega)) Z Z ?_)) <;> (refine J Z ?_) <;> (refine Y Z ?_)) | (refine X 5 ?_; (iterate 5 refine J Z ?_) <;> ((refine .cons (OA hX Z Z Z Z Z Z ro (by simp) (by simp) Z Z ?_)) <;> (intro v' hd)) <;> (iterate 2 refine J Z ?_) <;> (refine .cons (qst hX Z Z Z Z Z (hd.cells hcl) Z Z Z Z Z ?_)) <;> (refine Y Z ?_)) | (refine X 6 ?_; (iterate 2 refine J Z ?_) <;> (refine Y Z ?_)) | refine ai.r_ ?_ | refine ax.d_ ?_ | refine ai.t_ rfl ?_ | refine ai.f_ rfl ?_ | refine ai.k_ ?_ | refine ax.r_ hX rfl ?_)
  ·rename_i e; exact fun h f => absurd e (by simp; omega)
  ·rename_i e
   have e : bt < x := by omega
   exact fun h f => ⟨_, _, f.Cn, by simp [bc, e, cD], ⟨v, by simp [bc, e], by simp [CI, e]⟩, rfl⟩
  ·rename_i e
   have e : ¬ bt < x := by omega
   exact fun h f => ⟨_, _, f.Cn, by simp [bc, e, cD], ⟨_, by simp [bc, e]; rfl, by simp only [CI, if_neg e]; simpa using hd⟩, rfl⟩
end Em
end Go.HL
namespace Go.HL
open Go Go.Proofs
namespace Em
set_option maxRecDepth 10000
variable {K : ah} {base : List (Nat × aG)}
def R5 (s s' : S) (v : aa) (l' : List aa) : Prop := ∃ v', l' = [v', .bool s'.2] ∧ (∀ C h, Ro C h (words v s.1) → Ro C h (words v' s'.1)) ∧ ∀ y ∈ s'.1, y < 4294967296
def ED {α : Type} (val : α → aa) (f : S → α × S) (k : Nat) (v : aa) (s : S) (h : Heap) : aa → Heap → Prop :=
 NY k [v, .bool s.2] 92 false (fun x l' C' => x = val (f s).1 ∧ R5 s (f s).2 v l' ∧ C' = []) h
abbrev i64 (n : Nat) : aa := .int .i64 (n : Int)
abbrev u32 (n : Nat) : aa := .int .u32 (n : Int)
abbrev aY (l : List Nat) : aa := .str l.length (aO l 0)
theorem gz (bt : Nat) (s : S) : (bc bt s).1 ≤ bt := by
 unfold bc; split
 ·exact Nat.zero_le _
 ·split
  ·exact Nat.zero_le _
  ·show _ ≤ bt; omega
theorem Bp {bt : Nat} {s : S} (hw : ∀ x ∈ s.1, x < 4294967296) : ∀ x ∈ (bc bt s).2.1, x < 4294967296 := by
 unfold bc; split
 ·exact fun x hx => by simp at hx
 ·split
  ·exact hw
  ·exact fun x hx => hw x (by simp [hx])
theorem dq (hK : KN base K) (k bt : Nat) (v : aa) (s : S) (h : Heap) (w : Wf h) (hp : (eR k [v, .bool s.2] 92 false).holds h) (ro : Ro [eR k [v, .bool s.2] 92 false] h (words v s.1)) (hl : bt ≤ 4294967295) (hw : ∀ x ∈ s.1, x < 4294967296) :
  Sp P K 87 [.ptr k 0, .int .i64 (bt : Int)] h (ED i64 (bc bt) k v s h) :=
 (J5 hK k bt v s h w hp ro hl hw).mono fun _ _ t => t.mono fun _ _ _ p => ⟨p.1, p.2.1.elim fun v' q => ⟨v', q.1, fun _ _ r => Bm q.2 r, Bp hw⟩, p.2.2⟩
theorem qI (hK : KN base K) (k : Nat) (v : aa) (s : S) (h : Heap) (w : Wf h) (hp : (eR k [v, .bool s.2] 92 false).holds h) (ro0 : Ro [eR k [v, .bool s.2] 92 false] h (words v s.1)) (hw : ∀ x ∈ s.1, x < 4294967296) :
  Sp P K 88 [.ptr k 0] h (ED u32 (bc 4294967295) k v s h) := by
 have hle := gz 4294967295 s
 refine Sp.pT (m := 5) (n := 6) w hp (hK.none 88 rfl rfl _ _) Tryz.func88 rfl rfl (by kernel_rfl) rfl rfl ?_
 repeat' (first | refine ax.a_ ?_ | refine ai.s_ ?_ | (refine X 0 ?_; (refine J Z ?_) <;> (refine Y Z ?_)) | (refine X 1 ?_; (refine J Z ?_) <;> ((refine .cons (ez Z Z Z Z Z Z Z xv Z Z (fun k h f hp ro => dq hK k 4294967295 v s h f.wf hp (ro _ ro0) (by omega) hw) (fun _ => Z) ?_)) <;> (rintro v l' C' B' ⟨rfl, ⟨v', rfl, hv', hlt'⟩, rfl⟩ hB; cases hB)) <;> (refine .cons (qw hX Z Z Z Z (wU (by omega)) Z Z ?_)) <;> (refine J Z ?_) <;> (refine Y Z ?_)) | refine ai.r_ ?_ | refine ax.r_ hX rfl ?_)
 exact fun h f => ⟨_, _, f.Cn, rfl, ⟨v', rfl, hv', hlt'⟩, rfl⟩
theorem rP : ∀ (m w : Nat), bytesOf (m + 1) w = bytesOf m w ++ [w / 256 ^ m % 256]
 | 0, w => by simp [bytesOf]
 | m + 1, w => by
  show w % 256 :: bytesOf (m + 1) (w / 256) = _
  rw [rP m (w / 256), Nat.div_div_eq_div_mul]
  simp [bytesOf, Nat.pow_succ, Nat.mul_comm]
theorem Io {w m : Nat} (h : m ≤ 3) : w / 2 ^ min (8 * m) 32 % 256 = w / 256 ^ m % 256 := by
 rw [Nat.min_eq_left (by omega), Nat.pow_mul]
structure NI where
 i : Nat
 s : S
 v : aa
 b : List Nat
 bv : aa
structure PB (v0 : aa) (s0 : S) (N : Nat) (a : NI) : Prop where
 rest : gN bc s0 = kA (bc 4294967295) N a.b a.s
 len : a.b.length = min a.i N
 lt : ∀ y ∈ a.s.1, y < 4294967296
 ro : ∀ C h, Ro C h (words v0 s0.1) → Ro C h (words a.v a.s.1)
 bytes : ∀ y ∈ a.b, y < 256
 loose : ∀ k, a.bv ≠ .rest k
theorem wc (hK : KN base K) (k : Nat) (v : aa) (s : S) (h : Heap) (w : Wf h) (hp : (eR k [v, .bool s.2] 92 false).holds h) (ro0 : Ro [eR k [v, .bool s.2] 92 false] h (words v s.1)) (hw : ∀ x ∈ s.1, x < 4294967296) :
  Sp P K 86 [.ptr k 0] h (ED aY (gN bc) k v s h) := by
 have hle := gz 16 s
 have hlt := Bp (bt := 16) hw
 have e0 : gN bc s = kA (bc 4294967295) (bc 16 s).1 [] (bc 16 s).2 := rfl
 refine Sp.pT (m := 8590459133) (n := 49) w hp (hK.none 86 rfl rfl _ _) Tryz.func86 rfl rfl MZ rfl rfl ?_
 repeat' (first | refine ax.a_ ?_ | refine ai.s_ ?_ | (refine X 0 ?_; (refine J Z ?_) <;> (refine Y Z ?_)) | (refine X 1 ?_; (refine J Z ?_) <;> ((refine .cons (ez Z Z Z Z Z Z Z xv Z Z (fun k h f hp ro => dq hK k 16 v s h f.wf hp (ro _ ro0) (by omega) hw) (fun _ => Z) ?_)) <;> (rintro v l' C' B' ⟨rfl, ⟨v', rfl, hv', hlt'⟩, rfl⟩ hB; cases hB)) <;> (refine J Z ?_) <;> (refine Y Z ?_)) | (refine X 2 ?_; (refine J Z ?_) <;> (refine Y Z ?_)) | (refine X 3 ?_; (refine J Z ?_) <;> (refine Y Z ?_)) | refine ai.b_ ?_)
 generalize (bc 16 s).1 = N at hle e0
 generalize hs1 : (bc 16 s).2 = s1 at hlt e0 hv'
 refine ai.nil 5 1 ?_
 refine ai.loop (ι := NI) (fun a => [(5, .ext (i64 a.i)), (4, .ext a.bv), (3, .ext (i64 N)), (0, .ptr 0 0)]) (fun a => [.own [a.v, .bool a.s.2] 92 false]) (fun a => [aL 5 1 a.bv (a.b.map gQ)]) (PB v s N) (fun a => N - a.i) ⟨0, s1, v', [], .aC⟩ ⟨⟨rfl, rfl, rfl, rfl, trivial⟩, ⟨_, rfl⟩, ⟨_, .cons .h .nil⟩⟩ ⟨e0, by simp, hlt, hv', by simp, by simp⟩ (fun _ => rfl) (fun _ => rfl) (fun _ => rfl) ?_
 rintro ⟨i, s', v2, b, bv⟩ ⟨hr, hl, hlt2, hro, hb, hbv⟩ next
 simp only at hr hl hlt2 hro hb hbv next ⊢
 repeat' (first | refine ax.a_ ?_ | refine ai.s_ ?_ | (refine X 4 ?_; (iterate 2 refine J Z ?_) <;> ((refine .cons (qc Z ?_ ?_)) <;> intro _) <;> (iterate 4 refine J Z ?_) <;> (first | (refine .cons (qb hX Z ?_ ?_)) <;> (intro hbl; (first | (cases hbl; done) | skip)) | (refine J Z ?_)) <;> (iterate 2 refine J Z ?_) <;> (refine Y Z ?_)) | (refine X 6 ?_; (refine J Z ?_) <;> ((refine .cons (ez Z Z Z Z Z Z Z LM Z Z (fun k h f hp ro => qI hK k v2 s' h f.wf hp (ro _ (hro _ _ ro0)) hlt2) (fun _ => Z) ?_)) <;> (rintro v l' C' B' ⟨rfl, ⟨v3, rfl, hv3, hlt3⟩, rfl⟩ hB; cases hB)) <;> (refine J Z ?_) <;> (refine Y Z ?_)) | (refine X 7 ?_; (iterate 2 refine J Z ?_) <;> (refine Y Z ?_)) | (refine X 11 ?_; (refine J Z ?_) <;> (refine .cons (Qa hX Z Z Z Z Z .h hbv hb Z Z ?_)) <;> (refine J Z ?_) <;> (refine Y Z ?_)) | refine ai.r_ ?_ | refine ai.t_ rfl ?_ | refine ai.f_ rfl ?_ | refine ai.k_ ?_ | refine ai.b_ ?_ | refine ai.e_ ?_ | refine ax.e_ ?_ | refine ax.c_ ?_ | refine ax.r_ hX rfl ?_)
 ·clear next
  have er : gN bc s = (b, s') := by rw [hr, kA, dif_neg (by simp [hbl])]
  exact fun h f => ⟨_, _, f.Cn.bu (.cons .h .nil), by rw [er]; rfl, ⟨v2, by rw [er], by rw [er]; exact hro, by rw [er]; exact hlt2⟩, rfl⟩
 ·have hiN : i < N := by omega
  have hbi : b.length = i := by omega
  generalize hs3 : bc 4294967295 s' = r3 at hlt3 hv3
  obtain ⟨wd, s3⟩ := r3
  have hr3 : gN bc s = kA (bc 4294967295) N (b ++ bytesOf (min 4 (N - i)) wd) s3 := by rw [hr, kA, dif_pos ⟨by omega, hbl⟩, hs3, hbi]
  simp only at hlt3 hv3 ⊢
  refine ai.loop (ι := Nat × aa) (fun a => [(7, .ext (i64 (i + a.1))), (6, .ext (u32 wd)), (5, .ext (i64 i)), (4, .ext a.2), (3, .ext (i64 N)), (0, .ptr 0 0)]) (fun a => [.own [v3, .bool s3.2] 92 false]) (fun a => [aL 5 1 a.2 ((b ++ bytesOf a.1 wd).map gQ)]) (fun a => a.1 ≤ min 4 (N - i) ∧ ∀ k, a.2 ≠ .rest k) (fun a => min 4 (N - i) - a.1) (0, bv) ⟨⟨rfl, rfl, rfl, rfl, rfl, rfl, trivial⟩, ⟨_, rfl⟩, ⟨_, by simp only [bytesOf, List.append_nil]; exact .cons .h .nil⟩⟩ ⟨Nat.zero_le _, hbv⟩ (fun _ => rfl) (fun _ => rfl) (fun _ => rfl) ?_
  rintro ⟨m, bv2⟩ ⟨hm, hbv2⟩ next2
  simp only at hm hbv2 next2 ⊢
  have hlen2 : (b ++ bytesOf m wd).length ≤ 2016 := by rw [List.length_append, dW]; omega
  repeat' (first | refine ax.a_ ?_ | refine ai.s_ ?_ | (refine X 8 ?_; (iterate 2 refine J Z ?_) <;> ((refine .cons (qc Z ?_ ?_)) <;> intro _) <;> (iterate 3 refine J Z ?_) <;> (first | (refine J Z ?_) | (refine .cons (qa Z Z Z Z Z (wI (by first | omega | (simp only [Int.ofNat_eq_natCast]; omega)) (by first | omega | (simp only [Int.ofNat_eq_natCast]; omega))) Z Z ?_))) <;> (first | (refine J Z ?_) | (refine .cons (qc Z ?_ ?_)) <;> intro _) <;> (refine J Z ?_) <;> (refine Y Z ?_)) | (refine X 10 ?_; (iterate 4 refine J Z ?_) <;> (refine .cons (qa (d := (m : Int)) Z Z Z Z Z (by rw [wI (by omega) (by omega)]; omega) Z Z ?_)) <;> (refine .cons (qw hX Z Z Z Z (fz (by omega)) Z Z ?_)) <;> (refine .cons (qa (d := ((8 * m : Nat) : Int)) Z Z Z Z Z (vi (a := 8) (by omega)) Z Z ?_)) <;> (refine .cons (qn Z Z Z LV Z Z ?_)) <;> (refine .cons (qw hX Z Z Z Z zr Z Z ?_)) <;> (refine J Z ?_) <;> ((refine .cons (sM hX Z Z Z Z Z Z Z Z Z Z Z Z b5 Z Z Z Z Z (by repeat (first | exact .h | apply aS.t)) Z (by simp only [List.length_map]; omega) Z Z ?_)) <;> intro kp) <;> (refine J Z ?_) <;> (refine Y Z ?_)) | (refine X 9 ?_; (refine J Z ?_) <;> (refine .cons (qa Z Z Z Z Z (wI (by first | omega | (simp only [Int.ofNat_eq_natCast]; omega)) (by first | omega | (simp only [Int.ofNat_eq_natCast]; omega))) Z Z ?_)) <;> (refine J Z ?_) <;> (refine Y Z ?_)) | (refine X 5 ?_; (refine J Z ?_) <;> (refine .cons (qa Z Z Z Z Z (wI (by first | omega | (simp only [Int.ofNat_eq_natCast]; omega)) (by first | omega | (simp only [Int.ofNat_eq_natCast]; omega))) Z Z ?_)) <;> (refine J Z ?_) <;> (refine Y Z ?_)) | refine ai.t_ rfl ?_ | refine ai.f_ rfl ?_ | refine ai.k_ ?_ | refine ai.b_ ?_ | refine ai.e_ ?_ | refine ax.e_ ?_ | refine ax.c_ ?_ | refine ax.b_ ?_)
  ·refine next2 (m + 1, _) _ _ _ (by simp only; omega) ⟨⟨rfl, rfl, rfl, rfl, rfl, rfl, trivial⟩, ⟨_, rfl⟩, ⟨_, by simp only [rP, ← List.append_assoc, List.map_append (l₂ := [_]), ← Io (w := wd) (m := m) (by omega)]; exact .cons .h .nil⟩⟩ ⟨by simp only; omega, by simp⟩
  ·clear next2
   have hm4 : m = min 4 (N - i) := by omega
   subst hm4
   refine next ⟨i + 4, s3, v3, _, bv2⟩ _ _ _ (by simp only; omega) ⟨⟨rfl, rfl, rfl, rfl, trivial⟩, ⟨_, rfl⟩, ⟨_, .cons .h .nil⟩⟩ ⟨hr3, by simp only [List.length_append, dW]; omega, hlt3, fun C h r => hv3 C h (hro C h r), ?_, hbv2⟩
   intro y hy
   rcases List.mem_append.1 hy with hy | hy
   ·exact hb y hy
   ·exact mO _ _ y hy
  ·clear next2
   have hm4 : m = min 4 (N - i) := by omega
   subst hm4
   refine next ⟨i + 4, s3, v3, _, bv2⟩ _ _ _ (by simp only; omega) ⟨⟨rfl, rfl, rfl, rfl, trivial⟩, ⟨_, rfl⟩, ⟨_, .cons .h .nil⟩⟩ ⟨hr3, by simp only [List.length_append, dW]; omega, hlt3, fun C h r => hv3 C h (hro C h r), ?_, hbv2⟩
   intro y hy
   rcases List.mem_append.1 hy with hy | hy
   ·exact hb y hy
   ·exact mO _ _ y hy
 ·clear next
  have er : gN bc s = (b, s') := by rw [hr, kA, dif_neg (by omega)]
  exact fun h f => ⟨_, _, f.Cn.bu (.cons .h .nil), by rw [er]; rfl, ⟨v2, by rw [er], by rw [er]; exact hro, by rw [er]; exact hlt2⟩, rfl⟩
end Em
end Go.HL
namespace Go.HL
open Go Go.Proofs
namespace Em
set_option maxRecDepth 10000
variable {K : ah} {base : List (Nat × aG)}
abbrev gu (p : List Nat × Bool) : List aa := [aY p.1, .bool p.2]
abbrev kT (p : List Nat × Nat) : List aa := [aY p.1, i64 p.2]
abbrev eo (x : bI) : List aa := [.int .i64 x.kind, .int .i64 x.op, .int .i64 x.d, .int .i64 x.a, .int .i64 x.b, .int .i32 x.cV, .int .i64 x.to, .int .i64 x.join]
structure LI (α : Type) where
 n : Nat
 s : S
 v : aa
 done : List α
 dv : aa
structure uz {α : Type} (one : S → α × S) (N : Nat) (s1 : S) (v0 : aa) (s0 : S) (a : LI α) : Prop where
 rest : dT one N s1 = (a.done ++ (dT one a.n a.s).1, (dT one a.n a.s).2)
 len : a.done.length + a.n ≤ N
 lt : ∀ y ∈ a.s.1, y < 4294967296
 ro : ∀ C h, Ro C h (words v0 s0.1) → Ro C h (words a.v a.s.1)
theorem yK {α : Type} (one : S → α × S) {n : Nat} {s : S} (h : n = 0 ∨ s.2 = true) : dT one n s = ([], s) := by
 cases n with
 | zero => rfl
 | succ n =>
  rcases h with h | h
  ·cases h
  ·rw [dT, if_pos h]
theorem uz.end {α : Type} {one : S → α × S} {N : Nat} {s1 : S} {v0 : aa} {s0 : S} {a : LI α} (i : uz one N s1 v0 s0 a) (h : a.n = 0 ∨ a.s.2 = true) : dT one N s1 = (a.done, a.s) := by
 rw [i.rest, yK one h, List.append_nil]
theorem uz.step {α : Type} {one : S → α × S} {N n : Nat} {s1 s2 s' : S} {v0 v2 v' dv dv' : aa} {s0 : S} {done : List α} {x : α} (i : uz one N s1 v0 s0 ⟨n, s2, v2, done, dv⟩) (hn : 0 < n) (h : s2.2 = false) (e : one s2 = (x, s')) (lt : ∀ y ∈ s'.1, y < 4294967296) (ro : ∀ C h, Ro C h (words v0 s0.1) → Ro C h (words v' s'.1)) : uz one N s1 v0 s0 ⟨n - 1, s', v', done ++ [x], dv'⟩ := by
 obtain ⟨n, rfl⟩ : ∃ m, n = m + 1 := ⟨n - 1, by omega⟩
 refine ⟨?_, ?_, lt, ro⟩
 ·have := i.rest
  simp only [Nat.add_sub_cancel] at this ⊢
  rw [this, dT, if_neg (by simp [h]), e]
  simp
 ·have := i.len
  simp only [List.length_append, List.length_singleton] at this ⊢
  omega
theorem Ci {rd : Nat → S → Nat × S} {l1 l2 : Nat} {s sA sB sC sD sE sF sG sH : S} {nm : List Nat} {np na lo ni : Nat} {ps : List (List Nat × Bool)} {ar : List (List Nat × Nat)} {is : List bI} (hA : gN rd s = (nm, sA)) (hB : rd 6 sA = (np, sB)) (hC : dT (sO rd) np sB = (ps, sC)) (hD : rd 4 sC = (na, sD)) (hE : dT (Ap rd) na sD = (ar, sE)) (hF : rd 64 sE = (lo, sF)) (hG : rd 2000 sF = (ni, sG)) (hH : dT (Fk rd l1 l2) ni sG = (is, sH)) : iN rd l1 l2 s = (⟨nm, ps, ar, lo, is⟩, sH) := by
 simp only [iN, andThen, hA, hB, hC, hD, hE, hF, hG, hH, tc]
abbrev AA : List aa := [.str 0 0, .aC, .aC, .int .i64 0, .aC]
theorem tA {t a b : Nat} (ha : a < 4294967296) (hb : b ≠ 0) : df P .quo t (.int .u32 (a : Int)) (.int .u32 (b : Int)) = some (.int .u32 ((a / b : Nat) : Int)) := by
 rw [LX hb, wU (Nat.lt_of_le_of_lt (Nat.div_le_self a b) ha)]
theorem sk {n : Nat} (h : n < 4294967296) : cx .i32 (n : Int) = signed n := by
 have e : (n : Int) % 4294967296 = n := by omega
 rw [dE]
 unfold signed
 simp [IntKind.wrap, IntKind.bits, IntKind.signed, e]
 by_cases hn : n < 2147483648
 ·rw [if_pos hn, if_neg (by omega)]
 ·rw [if_neg hn, if_pos (by omega)]
abbrev iL (c : aR) (pv sv iv : aa) : aa := .agg [aY c.name, pv, sv, i64 c.local, iv]
def fm (c : aR) (pv sv iv : aa) : List Part := [aL 70 2 pv (c.params.map gu), aL 72 2 sv (c.shared.map kT), aL 74 8 iv (c.aq.map eo)]
theorem JX (hK : KN base K) (k : Nat) (v : aa) (s : S) (h : Heap) (w : Wf h) (hp : (eR k [v, .bool s.2] 92 false).holds h) (ro0 : Ro [eR k [v, .bool s.2] 92 false] h (words v s.1)) (hw : ∀ x ∈ s.1, x < 4294967296) :
  Sp P K 43 [.ptr k 0] h (NY k [v, .bool s.2] 92 false (fun x l' C' => ∃ pv sv iv, x = iL (iN bc 4294967295 4294967295 s).1 pv sv iv ∧ R5 s (iN bc 4294967295 4294967295 s).2 v l' ∧ C' = fm (iN bc 4294967295 4294967295 s).1 pv sv iv) h) := by
 refine Sp.pT (m := 1208925824118228869193725) (n := 123) w hp (hK.none 43 rfl rfl _ _) Tryz.func43 rfl rfl N7 rfl rfl ?_
 repeat' (first | refine ax.a_ ?_ | refine ai.s_ ?_ | (refine X 0 ?_; (refine J Z ?_) <;> (refine Y Z ?_)) | (refine X 1 ?_; (refine J Z ?_) <;> ((refine .cons (ez Z Z Z Z Z Z Z NL Z Z (fun k h f hp ro => wc hK k v s h f.wf hp (ro _ ro0) hw) (fun _ => Z) ?_)) <;> (rintro v l' C' B' ⟨rfl, ⟨v1, rfl, hv1, hlt1⟩, rfl⟩ hB; cases hB)) <;> (iterate 3 refine J Z ?_) <;> (refine Y Z ?_)) | (refine X 2 ?_; (refine J Z ?_) <;> ((refine .cons (ez Z Z Z Z Z Z Z xv Z Z (fun k h f hp ro => dq hK k 6 v1 _ h f.wf hp (ro _ (hv1 _ _ ro0)) (by omega) hlt1) (fun _ => Z) ?_)) <;> (rintro v l' C' B' ⟨rfl, ⟨v2, rfl, hv2, hlt2⟩, rfl⟩ hB; cases hB)) <;> (refine J Z ?_) <;> (refine Y Z ?_)) | refine ai.b_ ?_)
 generalize hA : gN bc s = rA at hv1 hlt1 hv2 hlt2 ⊢
 obtain ⟨nm, sA⟩ := rA
 have hnp := gz 6 sA
 generalize hB : bc 6 sA = rB at hv2 hlt2 hnp ⊢
 obtain ⟨np, sB⟩ := rB
 simp only at hv1 hlt1 hv2 hlt2 hnp ⊢
 refine ai.nil 70 2 ?_
 refine ai.M9 (c2 := ?_) (Q2 := ?_) (ι := LI (List Nat × Bool)) (fun a => [(4, .ext (i64 a.n)), (3, .ptr 2 0), (2, .ptr 1 0), (0, .ptr 0 0)]) (fun a => [.own [a.v, .bool a.s.2] 92 false, .own AA 26 false, .own [aY nm, a.dv, .aC, .int .i64 0, .aC] 26 false]) (fun a => [aL 70 2 a.dv (a.done.map gu)]) (uz (sO bc) np sB v s) (fun a => a.n = 0 ∨ a.s.2 = true) (fun a => a.n) ⟨np, sB, v2, [], .aC⟩ ⟨⟨rfl, rfl, rfl, rfl, trivial⟩, ⟨_, rfl⟩, ⟨_, .cons .h .nil⟩⟩ ⟨by simp, by simp, hlt2, fun C h r => hv2 C h (hv1 C h r)⟩ (fun _ => rfl) (fun _ => rfl) (fun _ => rfl) ?s1 ?d1
 case s1 =>
  rintro ⟨n, s2, v2, done, dv⟩ hI next ex
  have hlt2 := hI.lt
  have hro2 := hI.ro
  have hlen := hI.len
  simp only at hlt2 hro2 hlen next ex ⊢
  repeat' (first | refine ax.a_ ?_ | refine ai.s_ ?_ | (refine X 3 ?_; (refine J Z ?_) <;> ((refine .cons (qc Z ?_ ?_)) <;> intro _) <;> (iterate 4 refine J Z ?_) <;> (first | (refine .cons (qb hX Z ?_ ?_)) <;> (intro hbl; (first | (cases hbl; done) | skip)) | (refine J Z ?_)) <;> (iterate 2 refine J Z ?_) <;> (refine Y Z ?_)) | (refine X 5 ?_; (refine J Z ?_) <;> ((refine .cons (ez Z Z Z Z Z Z Z NL Z Z (fun k h f hp ro => wc hK k v2 s2 h f.wf hp (ro _ (hro2 _ _ ro0)) hlt2) (fun _ => Z) ?_)) <;> (rintro v l' C' B' ⟨rfl, ⟨v1, rfl, hv1, hlt1⟩, rfl⟩ hB; cases hB)) <;> (iterate 3 refine J Z ?_) <;> (refine Y Z ?_)) | (refine X 6 ?_; (refine J Z ?_) <;> ((refine .cons (ez Z Z Z Z Z Z Z xv Z Z (fun k h f hp ro => dq hK k 1 v1 _ h f.wf hp (ro _ (hv1 _ _ (hro2 _ _ ro0))) (by omega) hlt1) (fun _ => Z) ?_)) <;> (rintro v l' C' B' ⟨rfl, ⟨v3, rfl, hv3, hlt3⟩, rfl⟩ hB; cases hB)) <;> ((refine .cons (qc Z ?_ ?_)) <;> intro _) <;> (iterate 2 refine J Z ?_) <;> (refine Y Z ?_)) | (refine X 7 ?_; (iterate 4 refine J Z ?_) <;> ((refine .cons (sM hX Z Z Z Z Z Z Z Z Z Z Z Z PL Z Z Z Z Z (by repeat (first | exact .h | apply aS.t)) Z (by simp only [List.length_map]; omega) Z Z ?_)) <;> intro kp) <;> (iterate 2 refine J Z ?_) <;> (refine Y Z ?_)) | (refine X 4 ?_; (refine J Z ?_) <;> (refine .cons (qa (d := ((n - 1 : Nat) : Int)) Z Z Z Z Z (lx (i := 1) (by omega) (by omega)) Z Z ?_)) <;> (refine J Z ?_) <;> (refine Y Z ?_)) | refine ai.t_ rfl ?_ | refine ai.f_ rfl ?_ | refine ai.k_ ?_ | refine ai.b_ ?_ | refine ai.e_ ?_ | refine ax.e_ ?_ | refine ax.c_ ?_ | refine ax.b_ ?_)
  ·refine ex _ _ _ ?_ (.inr hbl); exact ⟨⟨rfl, rfl, rfl, rfl, trivial⟩, ⟨_, rfl⟩, ⟨_, .cons .h .nil⟩⟩
  ·rename_i h0 h1
   refine next ⟨n - 1, _, v3, done ++ [((gN bc s2).1, true)], _⟩ _ _ _ (by simp only; omega) ⟨⟨rfl, rfl, rfl, rfl, trivial⟩, ⟨_, rfl⟩, ⟨_, by rw [List.map_append]; exact .cons .h .nil⟩⟩ (hI.step (by omega) hbl ?_ hlt3 fun C h r => hv3 C h (hv1 C h (hro2 C h r)))
   have h1 : (bc 1 (gN bc s2).2).1 = 1 := by omega
   simp [sO, andThen, tc, h1]
  ·rename_i h0 h1
   refine next ⟨n - 1, _, v3, done ++ [((gN bc s2).1, false)], _⟩ _ _ _ (by simp only; omega) ⟨⟨rfl, rfl, rfl, rfl, trivial⟩, ⟨_, rfl⟩, ⟨_, by rw [List.map_append]; exact .cons .h .nil⟩⟩ (hI.step (by omega) hbl ?_ hlt3 fun C h r => hv3 C h (hv1 C h (hro2 C h r)))
   have h1 : ¬ (bc 1 (gN bc s2).2).1 = 1 := by omega
   simp [sO, andThen, tc, h1]
  ·refine ex _ _ _ ?_ (.inl (by omega)); exact ⟨⟨rfl, rfl, rfl, rfl, trivial⟩, ⟨_, rfl⟩, ⟨_, .cons .h .nil⟩⟩
 case d1 =>
  rintro ⟨n, sC, v2, ps, pv⟩ hI hJ
  have hlt2 := hI.lt
  have hro2 := hI.ro
  have hC := hI.end hJ
  simp only at hlt2 hro2 hC ⊢
  repeat' (first | refine ax.a_ ?_ | (refine X 8 ?_; (refine J Z ?_) <;> ((refine .cons (ez Z Z Z Z Z Z Z xv Z Z (fun k h f hp ro => dq hK k 4 v2 sC h f.wf hp (ro _ (hro2 _ _ ro0)) (by omega) hlt2) (fun _ => Z) ?_)) <;> (rintro v l' C' B' ⟨rfl, ⟨v3, rfl, hv3, hlt3⟩, rfl⟩ hB; cases hB)) <;> (refine J Z ?_) <;> (refine Y Z ?_)) | refine ai.b_ ?_)
  have hna := gz 4 sC
  generalize hD : bc 4 sC = rD at hv3 hlt3 hna ⊢
  obtain ⟨na, sD⟩ := rD
  simp only at hv3 hlt3 hna ⊢
  refine ai.nil 72 2 ?_
  refine ai.M9 (c2 := ?_) (Q2 := ?_) (ι := LI (List Nat × Nat)) (fun a => [(6, .ext (i64 a.n)), (3, .ptr 2 0), (2, .ptr 1 0), (0, .ptr 0 0)]) (fun a => [.own [a.v, .bool a.s.2] 92 false, .own AA 26 false, .own [aY nm, pv, a.dv, .int .i64 0, .aC] 26 false]) (fun a => [aL 72 2 a.dv (a.done.map kT), aL 70 2 pv (ps.map gu)]) (uz (Ap bc) na sD v s) (fun a => a.n = 0 ∨ a.s.2 = true) (fun a => a.n) ⟨na, sD, v3, [], .aC⟩ ⟨⟨rfl, rfl, rfl, rfl, trivial⟩, ⟨_, rfl⟩, ⟨_, .cons .h (.cons .h .nil)⟩⟩ ⟨by simp, by simp, hlt3, fun C h r => hv3 C h (hro2 C h r)⟩ (fun _ => rfl) (fun _ => rfl) (fun _ => rfl) ?s2 ?d2
  case s2 =>
   rintro ⟨n, s2, v2, done, dv⟩ hI next ex
   have hlt2 := hI.lt
   have hro2 := hI.ro
   have hlen := hI.len
   simp only at hlt2 hro2 hlen next ex ⊢
   repeat' (first | refine ax.a_ ?_ | refine ai.s_ ?_ | (refine X 9 ?_; (refine J Z ?_) <;> ((refine .cons (qc Z ?_ ?_)) <;> intro _) <;> (iterate 4 refine J Z ?_) <;> (first | (refine .cons (qb hX Z ?_ ?_)) <;> (intro hbl; (first | (cases hbl; done) | skip)) | (refine J Z ?_)) <;> (iterate 2 refine J Z ?_) <;> (refine Y Z ?_)) | (refine X 11 ?_; (refine J Z ?_) <;> ((refine .cons (ez Z Z Z Z Z Z Z NL Z Z (fun k h f hp ro => wc hK k v2 s2 h f.wf hp (ro _ (hro2 _ _ ro0)) hlt2) (fun _ => Z) ?_)) <;> (rintro v l' C' B' ⟨rfl, ⟨v1, rfl, hv1, hlt1⟩, rfl⟩ hB; cases hB)) <;> (iterate 3 refine J Z ?_) <;> (refine Y Z ?_)) | (refine X 12 ?_; (refine J Z ?_) <;> ((refine .cons (ez Z Z Z Z Z Z Z xv Z Z (fun k h f hp ro => dq hK k 64 v1 _ h f.wf hp (ro _ (hv1 _ _ (hro2 _ _ ro0))) (by omega) hlt1) (fun _ => Z) ?_)) <;> (rintro v l' C' B' ⟨rfl, ⟨v3, rfl, hv3, hlt3⟩, rfl⟩ hB; cases hB)) <;> (iterate 2 refine J Z ?_) <;> (refine Y Z ?_)) | (refine X 13 ?_; (iterate 4 refine J Z ?_) <;> ((refine .cons (sM hX Z Z Z Z Z Z Z Z Z Z Z Z QO Z Z Z Z Z (by repeat (first | exact .h | apply aS.t)) Z (by simp only [List.length_map]; omega) Z Z ?_)) <;> intro kp) <;> (iterate 2 refine J Z ?_) <;> (refine Y Z ?_)) | (refine X 10 ?_; (refine J Z ?_) <;> (refine .cons (qa (d := ((n - 1 : Nat) : Int)) Z Z Z Z Z (lx (i := 1) (by omega) (by omega)) Z Z ?_)) <;> (refine J Z ?_) <;> (refine Y Z ?_)) | refine ai.t_ rfl ?_ | refine ai.f_ rfl ?_ | refine ai.k_ ?_ | refine ai.b_ ?_ | refine ai.e_ ?_ | refine ax.e_ ?_ | refine ax.c_ ?_ | refine ax.b_ ?_)
   ·refine ex _ _ _ ?_ (.inr hbl); exact ⟨⟨rfl, rfl, rfl, rfl, trivial⟩, ⟨_, rfl⟩, ⟨_, .cons .h (.cons .h .nil)⟩⟩
   ·refine next ⟨n - 1, _, v3, done ++ [((gN bc s2).1, _)], _⟩ _ _ _ (by simp only; omega) ⟨⟨rfl, rfl, rfl, rfl, trivial⟩, ⟨_, rfl⟩, ⟨_, by rw [List.map_append]; exact .cons .h (.cons .h .nil)⟩⟩ (hI.step (by omega) hbl rfl hlt3 fun C h r => hv3 C h (hv1 C h (hro2 C h r)))
   ·refine ex _ _ _ ?_ (.inl (by omega)); exact ⟨⟨rfl, rfl, rfl, rfl, trivial⟩, ⟨_, rfl⟩, ⟨_, .cons .h (.cons .h .nil)⟩⟩
  case d2 =>
   rintro ⟨n, sE, v2, ar, sv⟩ hI hJ
   have hlt2 := hI.lt
   have hro2 := hI.ro
   have hE := hI.end hJ
   simp only at hlt2 hro2 hE ⊢
   repeat' (first | refine ax.a_ ?_ | refine ai.s_ ?_ | (refine X 14 ?_; (refine J Z ?_) <;> ((refine .cons (ez Z Z Z Z Z Z Z xv Z Z (fun k h f hp ro => dq hK k 64 v2 sE h f.wf hp (ro _ (hro2 _ _ ro0)) (by omega) hlt2) (fun _ => Z) ?_)) <;> (rintro v l' C' B' ⟨rfl, ⟨v3, rfl, hv3, hlt3⟩, rfl⟩ hB; cases hB)) <;> (iterate 2 refine J Z ?_) <;> (refine Y Z ?_)) | (refine X 15 ?_; (refine J Z ?_) <;> ((refine .cons (ez Z Z Z Z Z Z Z xv Z Z (fun k h f hp ro => dq hK k 2000 v3 _ h f.wf hp (ro _ (hv3 _ _ (hro2 _ _ ro0))) (by omega) hlt3) (fun _ => Z) ?_)) <;> (rintro v l' C' B' ⟨rfl, ⟨v4, rfl, hv4, hlt4⟩, rfl⟩ hB; cases hB)) <;> (refine J Z ?_) <;> (refine Y Z ?_)) | refine ai.b_ ?_)
   generalize hF : bc 64 sE = rF at hv3 hlt3 hv4 hlt4 ⊢
   obtain ⟨lo, sF⟩ := rF
   simp only at hv3 hlt3 hv4 hlt4 ⊢
   have hni := gz 2000 sF
   generalize hG : bc 2000 sF = rG at hv4 hlt4 hni ⊢
   obtain ⟨ni, sG⟩ := rG
   simp only at hv4 hlt4 hni ⊢
   refine ai.nil 74 8 ?_
   refine ai.loop (ι := LI bI) (fun a => [(8, .ext (i64 a.n)), (3, .ptr 2 0), (2, .ptr 1 0), (0, .ptr 0 0)]) (fun a => [.own [a.v, .bool a.s.2] 92 false, .own AA 26 false, .own [aY nm, pv, sv, i64 lo, a.dv] 26 false]) (fun a => [aL 74 8 a.dv (a.done.map eo), aL 72 2 sv (ar.map kT), aL 70 2 pv (ps.map gu)]) (uz (Fk bc 4294967295 4294967295) ni sG v s) (fun a => a.n) ⟨ni, sG, v4, [], .aC⟩ ⟨⟨rfl, rfl, rfl, rfl, trivial⟩, ⟨_, rfl⟩, ⟨_, .cons .h (.cons .h (.cons .h .nil))⟩⟩ ⟨by simp, by simp, hlt4, fun C h r => hv4 C h (hv3 C h (hro2 C h r))⟩ (fun _ => rfl) (fun _ => rfl) (fun _ => rfl) ?_
   rintro ⟨n, s2, v2, done, dv⟩ hI next
   have hlt2 := hI.lt
   have hro2 := hI.ro
   have hlen := hI.len
   simp only at hlt2 hro2 hlen next ⊢
   have hle1 := gz 4294967295 s2
   have hle2 := gz 4294967295 (bc 4294967295 s2).2
   have hle3 := gz 4294967295 (bc 4294967295 (bc 4294967295 s2).2).2
   repeat' (first | refine ax.a_ ?_ | refine ai.s_ ?_ | (refine X 16 ?_; (refine J Z ?_) <;> ((refine .cons (qc Z ?_ ?_)) <;> intro _) <;> (iterate 4 refine J Z ?_) <;> (first | (refine .cons (qb hX Z ?_ ?_)) <;> (intro hbl; (first | (cases hbl; done) | skip)) | (refine J Z ?_)) <;> (iterate 2 refine J Z ?_) <;> (refine Y Z ?_)) | (refine X 18 ?_; (refine J Z ?_) <;> ((refine .cons (ez Z Z Z Z Z Z Z LM Z Z (fun k h f hp ro => qI hK k v2 s2 h f.wf hp (ro _ (hro2 _ _ ro0)) hlt2) (fun _ => Z) ?_)) <;> (rintro v l' C' B' ⟨rfl, ⟨va, rfl, hva, hlta⟩, rfl⟩ hB; cases hB)) <;> (refine J Z ?_) <;> ((refine .cons (ez Z Z Z Z Z Z Z LM Z Z (fun k h f hp ro => qI hK k va _ h f.wf hp (ro _ (hva _ _ (hro2 _ _ ro0))) hlta) (fun _ => Z) ?_)) <;> (rintro v l' C' B' ⟨rfl, ⟨vb, rfl, hvb, hltb⟩, rfl⟩ hB; cases hB)) <;> (refine J Z ?_) <;> ((refine .cons (ez Z Z Z Z Z Z Z LM Z Z (fun k h f hp ro => qI hK k vb _ h f.wf hp (ro _ (hvb _ _ (hva _ _ (hro2 _ _ ro0)))) hltb) (fun _ => Z) ?_)) <;> (rintro v l' C' B' ⟨rfl, ⟨vc, rfl, hvc, hltc⟩, rfl⟩ hB; cases hB)) <;> (iterate 3 refine J Z ?_) <;> (refine Y Z ?_)) | (refine X 19 ?_; (refine J Z ?_) <;> (refine .cons (qn Z Z Z (rS (b := 256) (by decide)) Z Z ?_)) <;> (refine .cons (qw hX Z Z Z Z (cC (by omega)) Z Z ?_)) <;> (refine J Z ?_) <;> (refine .cons (qn Z Z Z (tA (b := 256) (by omega) (by decide)) Z Z ?_)) <;> (refine .cons (qw hX Z Z Z Z (cC (by omega)) Z Z ?_)) <;> (refine J Z ?_) <;> (refine .cons (qn Z Z Z (rS (b := 256) (by decide)) Z Z ?_)) <;> (refine .cons (qw hX Z Z Z Z (cC (by omega)) Z Z ?_)) <;> (refine J Z ?_) <;> (refine .cons (qn Z Z Z (tA (b := 256) (by omega) (by decide)) Z Z ?_)) <;> (refine .cons (qn Z Z Z (rS (b := 256) (by decide)) Z Z ?_)) <;> (refine .cons (qw hX Z Z Z Z (cC (by omega)) Z Z ?_)) <;> (refine J Z ?_) <;> (refine .cons (qn Z Z Z (tA (b := 65536) (by omega) (by decide)) Z Z ?_)) <;> (refine .cons (qw hX Z Z Z Z (cC (by omega)) Z Z ?_)) <;> (refine J Z ?_) <;> (refine .cons (qw hX Z Z Z Z (sk (by omega)) Z Z ?_)) <;> (iterate 3 refine J Z ?_) <;> (refine Y Z ?_)) | (refine X 20 ?_; (refine J Z ?_) <;> ((refine .cons (ez Z Z Z Z Z Z Z xv Z Z (fun k h f hp ro => dq hK k 2000 vc _ h f.wf hp (ro _ (hvc _ _ (hvb _ _ (hva _ _ (hro2 _ _ ro0))))) (by omega) hltc) (fun _ => Z) ?_)) <;> (rintro v l' C' B' ⟨rfl, ⟨vd, rfl, hvd, hltd⟩, rfl⟩ hB; cases hB)) <;> (iterate 2 refine J Z ?_) <;> (refine Y Z ?_)) | (refine X 21 ?_; (refine J Z ?_) <;> ((refine .cons (ez Z Z Z Z Z Z Z xv Z Z (fun k h f hp ro => dq hK k 2000 vd _ h f.wf hp (ro _ (hvd _ _ (hvc _ _ (hvb _ _ (hva _ _ (hro2 _ _ ro0)))))) (by omega) hltd) (fun _ => Z) ?_)) <;> (rintro v l' C' B' ⟨rfl, ⟨ve, rfl, hve, hlte⟩, rfl⟩ hB; cases hB)) <;> (iterate 2 refine J Z ?_) <;> (refine Y Z ?_)) | (refine X 22 ?_; (refine J Z ?_) <;> ((refine .cons (ez Z Z Z Z Z Z Z xv Z Z (fun k h f hp ro => dq hK k 0 ve _ h f.wf hp (ro _ (hve _ _ (hvd _ _ (hvc _ _ (hvb _ _ (hva _ _ (hro2 _ _ ro0))))))) (by omega) hlte) (fun _ => Z) ?_)) <;> (rintro v l' C' B' ⟨rfl, ⟨vf, rfl, hvf, hltf⟩, rfl⟩ hB; cases hB)) <;> (refine Y Z ?_)) | (refine X 23 ?_; (iterate 4 refine J Z ?_) <;> ((refine .cons (sM hX Z Z Z Z Z Z Z Z Z Z Z Z QN Z Z Z Z Z (by repeat (first | exact .h | apply aS.t)) Z (by simp only [List.length_map]; omega) Z Z ?_)) <;> intro kp) <;> (iterate 2 refine J Z ?_) <;> (refine Y Z ?_)) | (refine X 17 ?_; (refine J Z ?_) <;> (refine .cons (qa (d := ((n - 1 : Nat) : Int)) Z Z Z Z Z (lx (i := 1) (by omega) (by omega)) Z Z ?_)) <;> (refine J Z ?_) <;> (refine Y Z ?_)) | (refine X 24 ?_; (iterate 2 refine J Z ?_) <;> (refine Y Z ?_)) | refine ai.r_ ?_ | refine ai.t_ rfl ?_ | refine ai.f_ rfl ?_ | refine ai.k_ ?_ | refine ai.b_ ?_ | refine ai.e_ ?_ | refine ax.e_ ?_ | refine ax.c_ ?_ | refine ax.b_ ?_ | refine ax.r_ hX rfl ?_)
   ·have e := Ci hA hB hC hD hE hF hG (hI.end (.inr hbl))
    refine fun h f => ⟨_, _, f.Cn.bu (.cons .h (.cons (.t (.t .h)) (.cons (.t .h) (.cons .h .nil)))), pv, sv, dv, ?_, ⟨v2, ?_, ?_, ?_⟩, ?_⟩ <;> rw [e]
    ·rfl
    ·exact hro2
    ·exact hlt2
    ·rfl
   ·refine next ⟨n - 1, _, vf, done ++ [_], _⟩ _ _ _ (by simp only; omega) ⟨⟨rfl, rfl, rfl, rfl, trivial⟩, ⟨_, rfl⟩, ⟨_, by rw [List.map_append]; exact .cons .h (.cons .h (.cons .h .nil))⟩⟩ (hI.step (by omega) hbl rfl hltf fun C h r => hvf C h (hve C h (hvd C h (hvc C h (hvb C h (hva C h (hro2 C h r)))))))
   ·have e := Ci hA hB hC hD hE hF hG (hI.end (.inl (show n = 0 by omega)))
    refine fun h f => ⟨_, _, f.Cn.bu (.cons .h (.cons (.t (.t .h)) (.cons (.t .h) (.cons .h .nil)))), pv, sv, dv, ?_, ⟨v2, ?_, ?_, ?_⟩, ?_⟩ <;> rw [e]
    ·rfl
    ·exact hro2
    ·exact hlt2
    ·rfl
end Em
end Go.HL
namespace Go.HL
open Go Go.Proofs
namespace Em
set_option maxRecDepth 10000
variable {K : ah} {base : List (Nat × aG)}
def kE (c : Int) : Bool := decide (97 ≤ c ∧ c ≤ 122 ∨ 65 ≤ c ∧ c ≤ 90)
def qt (c : Int) : Bool := decide (48 ≤ c ∧ c ≤ 57)
def o6 (c : Int) : Bool := kE c || qt c || decide (c = 95)
theorem wz (hK : KN base K) (c : Int) (h : Heap) (w : Wf h) : Sp P K 148 [.int .u8 c] h (iw (.bool (kE c)) h) := by
 refine Sp.start (m := 5) (n := 17) w (hK.none 148 rfl rfl _ _) Tryz.func148 rfl rfl (by kernel_rfl) rfl rfl ?_
 repeat' (first | refine ax.a_ ?_ | refine ai.s_ ?_ | (refine X 0 ?_; (refine J Z ?_) <;> (refine Y Z ?_)) | (refine X 1 ?_; (refine J Z ?_) <;> ((refine .cons (qc Z ?_ ?_)) <;> intro _) <;> (iterate 2 refine J Z ?_) <;> (first | (refine J Z ?_) | (refine .cons (qc Z ?_ ?_)) <;> intro _) <;> (iterate 3 refine J Z ?_) <;> (first | (refine J Z ?_) | (refine .cons (qc Z ?_ ?_)) <;> intro _) <;> (iterate 2 refine J Z ?_) <;> (first | (refine J Z ?_) | (refine .cons (qc Z ?_ ?_)) <;> intro _) <;> (iterate 3 refine J Z ?_) <;> (refine Y Z ?_)) | refine ai.r_ ?_ | refine ax.r_ hX rfl ?_)
 all_goals (intro h f; refine ⟨?_, f.aZ⟩; clear f; first | (simp_all [cD, kE]; done) | (simp_all [cD, kE]; omega) | (simp_all [cD, kE]; intros; exfalso; omega) | (simp_all [cD, kE]; split <;> intros <;> first | omega | (exfalso; omega) | simp_all))
theorem Hw (hK : KN base K) (c : Int) (h : Heap) (w : Wf h) : Sp P K 241 [.int .u8 c] h (iw (.bool (qt c)) h) := by
 refine Sp.start (m := 5) (n := 9) w (hK.none 241 rfl rfl _ _) Tryz.func241 rfl rfl (by kernel_rfl) rfl rfl ?_
 repeat' (first | refine ax.a_ ?_ | refine ai.s_ ?_ | (refine X 0 ?_; (refine J Z ?_) <;> (refine Y Z ?_)) | (refine X 1 ?_; (refine J Z ?_) <;> ((refine .cons (qc Z ?_ ?_)) <;> intro _) <;> (iterate 2 refine J Z ?_) <;> (first | (refine J Z ?_) | (refine .cons (qc Z ?_ ?_)) <;> intro _) <;> (iterate 2 refine J Z ?_) <;> (refine Y Z ?_)) | refine ai.r_ ?_ | refine ax.r_ hX rfl ?_)
 all_goals (intro h f; refine ⟨?_, f.aZ⟩; clear f; first | (simp_all [cD, qt]; done) | (simp_all [cD, qt]; omega) | (simp_all [cD, qt]; intros; exfalso; omega) | (simp_all [cD, qt]; split <;> intros <;> first | omega | (exfalso; omega) | simp_all))
theorem He (hK : KN base K) (c : Int) (h : Heap) (w : Wf h) : Sp P K 150 [.int .u8 c] h (iw (.bool (o6 c)) h) := by
 refine Sp.start (m := 5) (n := 13) w (hK.none 150 rfl rfl _ _) Tryz.func150 rfl rfl (by kernel_rfl) rfl rfl ?_
 repeat' (first | refine ax.a_ ?_ | refine ai.s_ ?_ | (refine X 0 ?_; (refine J Z ?_) <;> (refine Y Z ?_)) | (refine X 1 ?_; (refine J Z ?_) <;> ((refine .cons (dN Z Z Z Z Mt Z Z (fun h f => wz hK _ h f.wf) ?_ ?_)) <;> intro _) <;> (iterate 2 refine J Z ?_) <;> (first | (refine J Z ?_) | (refine .cons (dN Z Z Z Z Ph Z Z (fun h f => Hw hK _ h f.wf) ?_ ?_)) <;> intro _) <;> (iterate 3 refine J Z ?_) <;> (first | (refine J Z ?_) | (refine .cons (qc Z ?_ ?_)) <;> intro _) <;> (iterate 2 refine J Z ?_) <;> (refine Y Z ?_)) | refine ai.r_ ?_ | refine ax.r_ hX rfl ?_)
 all_goals (intro h f; refine ⟨?_, f.aZ⟩; clear f; first | (simp_all [cD, o6]; done) | (simp_all [cD, o6]; omega) | (simp_all [cD, o6]; intros; exfalso; omega) | (simp_all [cD, o6]; split <;> intros <;> first | omega | (exfalso; omega) | simp_all))
def rf (op : Int) : Int × Bool := if op = 0 ∨ op = 6 ∨ op = 7 then (0, true) else if op = 18 then (2147483647, true) else if op = 19 then (-2147483648, true) else if op = 5 then (-1, true) else (0, false)
def lk (op : Int) : Bool := (rf op).2
theorem Bq (hK : KN base K) (op : Int) (h : Heap) (w : Wf h) : Sp P K 151 [.int .i64 op] h (iw (.tuple [.int .i32 (rf op).1, .bool (rf op).2]) h) := by
 refine Sp.start (m := 10813) (n := 15) w (hK.none 151 rfl rfl _ _) Tryz.func151 rfl rfl (by kernel_rfl) rfl rfl ?_
 repeat' (first | refine ax.a_ ?_ | refine ai.s_ ?_ | (refine X 0 ?_; (iterate 2 refine J Z ?_) <;> (refine Y Z ?_)) | (refine X 1 ?_; (refine J Z ?_) <;> (refine Y Z ?_)) | (refine X 2 ?_; ((refine .cons (qc Z ?_ ?_)) <;> intro _) <;> (refine J Z ?_) <;> (refine Y Z ?_)) | (refine X 3 ?_; ((refine .cons (qc Z ?_ ?_)) <;> intro _) <;> (refine J Z ?_) <;> (refine Y Z ?_)) | (refine X 4 ?_; ((refine .cons (qc Z ?_ ?_)) <;> intro _) <;> (refine J Z ?_) <;> (refine Y Z ?_)) | (refine X 5 ?_; (iterate 2 refine J Z ?_) <;> (refine Y Z ?_)) | (refine X 6 ?_; ((refine .cons (qc Z ?_ ?_)) <;> intro _) <;> (refine J Z ?_) <;> (refine Y Z ?_)) | (refine X 7 ?_; (iterate 2 refine J Z ?_) <;> (refine Y Z ?_)) | (refine X 8 ?_; ((refine .cons (qc Z ?_ ?_)) <;> intro _) <;> (refine J Z ?_) <;> (refine Y Z ?_)) | (refine X 9 ?_; (iterate 2 refine J Z ?_) <;> (refine Y Z ?_)) | (refine X 10 ?_; ((refine .cons (qc Z ?_ ?_)) <;> intro _) <;> (refine J Z ?_) <;> (refine Y Z ?_)) | (refine X 11 ?_; (iterate 2 refine J Z ?_) <;> (refine Y Z ?_)) | (refine X 12 ?_; (iterate 2 refine J Z ?_) <;> (refine Y Z ?_)) | refine ai.r_ ?_ | refine ax.d_ ?_ | refine ax.f_ ?_ | refine ai.t_ rfl ?_ | refine ai.f_ rfl ?_ | refine ai.k_ ?_ | refine ai.b_ ?_ | refine ax.b_ ?_ | refine ax.r_ hX rfl ?_)
 all_goals (intro h f; refine ⟨?_, f.aZ⟩; clear f; first | (simp_all [cD, rf]; done) | (simp_all [cD, rf]; omega) | (simp_all [cD, rf]; intros; exfalso; omega) | (simp_all [cD, rf]; split <;> intros <;> first | omega | (exfalso; omega) | simp_all))
theorem p5 (hK : KN base K) (op : Int) (h : Heap) (w : Wf h) : Sp P K 79 [.int .i64 op] h (iw (.bool (lk op)) h) := by
 refine Sp.start (m := 21) (n := 11) w (hK.none 79 rfl rfl _ _) Tryz.func79 rfl rfl (by kernel_rfl) rfl rfl ?_
 repeat' (first | refine ax.a_ ?_ | refine ai.s_ ?_ | (refine X 0 ?_; (refine J Z ?_) <;> (refine Y Z ?_)) | (refine X 1 ?_; (refine J Z ?_) <;> (refine .cons (aE Z Z Z Z Po Z Z (fun h f => Bq hK _ h f.wf) ?_)) <;> (iterate 5 refine J Z ?_) <;> (refine Y Z ?_)) | (refine X 2 ?_; (iterate 2 refine J Z ?_) <;> (refine Y Z ?_)) | refine ai.r_ ?_ | refine ax.r_ hX rfl ?_)
 all_goals (intro h f; refine ⟨?_, f.aZ⟩; clear f; first | (simp_all [cD, lk]; done) | (simp_all [cD, lk]; omega) | (simp_all [cD, lk]; intros; exfalso; omega) | (simp_all [cD, lk]; split <;> intros <;> first | omega | (exfalso; omega) | simp_all))
def I3 (op : Int) : Bool := decide (0 ≤ op ∧ op < 3)
def FG (op : Int) : Bool := decide (0 ≤ op ∧ op < 20)
def Lj (k : Int) : Bool × Bool × Bool := (decide (k = 0 ∨ k = 4 ∨ k = 5 ∨ k = 11 ∨ k = 1 ∨ k = 2 ∨ k = 6 ∨ k = 10 ∨ k = 3), decide (k = 1 ∨ k = 2 ∨ k = 6 ∨ k = 10 ∨ k = 3 ∨ k = 7 ∨ k = 8 ∨ k = 12 ∨ k = 14), decide (k = 3 ∨ k = 7 ∨ k = 8))
def AW (how op : Int) : Bool := if how = 1 then I3 op else if how = 2 then FG op else if how = 3 then decide (0 ≤ op ∧ op < 4) else if how = 4 then lk op else decide (op = 0)
def cX (used : Bool) (n bt : Int) : Bool := if used then decide (0 ≤ n ∧ n < bt) else decide (n = 0)
theorem gT (hK : KN base K) (used : Bool) (n bt : Int) (h : Heap) (w : Wf h) : Sp P K 80 [.bool used, .int .i64 n, .int .i64 bt] h (iw (.bool (cX used n bt)) h) := by
 cases used
 all_goals
  refine Sp.start (m := 327) (n := 18) w (hK.none 80 rfl rfl _ _) Tryz.func80 rfl rfl (by kernel_rfl) rfl rfl ?_
  repeat' (first | refine ax.a_ ?_ | refine ai.s_ ?_ | (refine X 0 ?_; (refine J Z ?_) <;> (refine Y Z ?_)) | (refine X 1 ?_; (iterate 2 refine J Z ?_) <;> (refine Y Z ?_)) | (refine X 2 ?_; (refine J Z ?_) <;> ((refine .cons (qc Z ?_ ?_)) <;> intro _) <;> (refine J Z ?_) <;> (refine Y Z ?_)) | (refine X 3 ?_; (refine J Z ?_) <;> ((refine .cons (qc Z ?_ ?_)) <;> intro _) <;> (iterate 3 refine J Z ?_) <;> (first | (refine J Z ?_) | (refine .cons (qc Z ?_ ?_)) <;> intro _) <;> (iterate 2 refine J Z ?_) <;> (refine Y Z ?_)) | refine ai.r_ ?_ | refine ax.d_ ?_ | refine ai.t_ rfl ?_ | refine ai.f_ rfl ?_ | refine ai.k_ ?_ | refine ax.r_ hX rfl ?_)
  all_goals (intro h f; refine ⟨?_, f.aZ⟩; clear f; first | (simp_all [cD, cX]; done) | (simp_all [cD, cX]; omega) | (simp_all [cD, cX]; intros; exfalso; omega) | (simp_all [cD, cX]; split <;> intros <;> first | omega | (exfalso; omega) | simp_all))
end Em
end Go.HL
