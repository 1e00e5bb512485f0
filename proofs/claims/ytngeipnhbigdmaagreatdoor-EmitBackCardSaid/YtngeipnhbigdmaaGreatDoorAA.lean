/- The kit's contracts of strings.Split and strconv.ParseInt as known calls; a text, read line by line. No statement of the seat stands here. -/
import Derived.Test.YtngeipnhbigdmaaGreatDoorVB
import Derived.Shelf.Strings.Split
import Derived.Lib.ParseIntB
import Derived.Shelf.LaysM
import Derived.Shelf.LaysC
import Derived.Shelf.Strconv.ParseIntPublic10
import Derived.Test.YtngeipnhbigdmaaGreatDoorProg
import Derived.Test.YtngeipnhbigdmaaGreatDoorVD
set_option linter.unusedVariables false
set_option linter.unusedSimpArgs false
namespace Go.HL
open Go
namespace Ev
open Em
/-! ## A list cut at a value -/
def cutAt {α : Type} [DecidableEq α] (c : α) : List α → List (List α)
 | [] => [[]]
 | x :: l => if x = c then [] :: cutAt c l else match cutAt c l with
  | [] => [[x]]
  | p :: r => (x :: p) :: r
section
variable {α : Type} [DecidableEq α]
theorem JQ (c : α) (l : List α) : cutAt c l ≠ [] := by
 cases l with
 | nil => simp [cutAt]
 | cons x l =>
  unfold cutAt
  split
  ·simp
  ·split <;> simp
theorem xc {c : α} : ∀ {l : List α}, c ∉ l → cutAt c l = [l]
 | [], _ => rfl
 | x :: l, h => by
  unfold cutAt
  rw [if_neg (fun e => h (by simp [e])), xc (l := l) fun hc => h (by simp [hc])]
theorem tp {c : α} {b : List α} : ∀ {a : List α}, c ∉ a → cutAt c (a ++ c :: b) = a :: cutAt c b
 | [], _ => by simp [cutAt]
 | x :: a, h => by
  show cutAt c (x :: (a ++ c :: b)) = _
  rw [cutAt, if_neg (fun e => h (by simp [e])), tp (a := a) fun hc => h (by simp [hc])]
theorem tn (c : α) : ∀ l : List α, (cutAt c l).length ≤ l.length + 1
 | [] => by simp [cutAt]
 | x :: l => by
  have ih := tn c l
  unfold cutAt
  split
  ·simp; omega
  ·split
   ·simp
   ·rename_i p r e
    rw [e] at ih
    simp at ih ⊢; omega
theorem lY (c : α) : ∀ (l : List α), ∀ p ∈ cutAt c l, p.length ≤ l.length ∧ ∀ x ∈ p, x ∈ l
 | [], p, hp => by
  have : p = [] := by simpa [cutAt] using hp
  subst this; simp
 | x :: l, p, hp => by
  have ih := lY c l
  unfold cutAt at hp
  split at hp
  ·rcases List.mem_cons.1 hp with rfl | hp
   ·simp
   ·have := ih p hp
    exact ⟨by simp; omega, fun y hy => by simp [this.2 y hy]⟩
  ·split at hp
   ·have : p = [x] := by simpa using hp
    subst this; simp
   ·rename_i q r e
    rw [e] at ih
    rcases List.mem_cons.1 hp with rfl | hp
    ·have := ih q (by simp)
     refine ⟨by simp; omega, fun y hy => ?_⟩
     rcases List.mem_cons.1 hy with rfl | hy
     ·simp
     ·simp [this.2 y hy]
    ·have := ih p (by simp [hp])
     exact ⟨by simp; omega, fun y hy => by simp [this.2 y hy]⟩
theorem za {β : Type} [DecidableEq β] (f : α → β) (c : α) : ∀ (l : List α), (∀ x ∈ l, f x = f c → x = c) → cutAt (f c) (l.map f) = (cutAt c l).map (List.map f)
 | [], _ => rfl
 | x :: l, h => by
  have ih := za f c l fun y hy => h y (by simp [hy])
  rw [List.map_cons]
  unfold cutAt
  by_cases hx : x = c
  ·subst hx
   rw [if_pos rfl, if_pos rfl, ih]; rfl
  ·rw [if_neg hx, if_neg fun e => hx (h x (by simp) e), ih]
   cases cutAt c l <;> rfl
end
theorem vB (u : UInt8) : ∀ s : List UInt8, Lib.splitK [u] 0 (Lib.count s [u]) s = cutAt u s
 | [] => by
  have : Lib.count [] [u] = 0 := by rw [Lib.count_one]; simp
  rw [this]; rfl
 | x :: l => by
  have ih := vB u l
  unfold cutAt
  by_cases hx : x = u
  ·subst hx
   rw [if_pos rfl, Lib.count_cons_eq, Nat.add_comm]
   have hi : Lib.index (x :: l) [x] = 0 := by
    unfold Lib.index
    rw [if_pos (by simp [List.isPrefixOf])]
   unfold Lib.splitK
   rw [hi]
   show [] :: Lib.splitK [x] 0 _ l = _
   rw [ih]
  ·rw [if_neg hx, Lib.count_cons_ne x u l hx]
   have hi : Lib.index (x :: l) [u] = if Lib.index l [u] == -1 then -1 else Lib.index l [u] + 1 := by
    rw [Lib.index, if_neg (by simp [List.isPrefixOf, Ne.symm hx])]
   cases hk : Lib.count l [u] with
   | zero =>
    rw [hk] at ih
    have ih : [l] = cutAt u l := ih
    rw [← ih]; rfl
   | succ k =>
    rw [hk] at ih
    unfold Lib.splitK at ih ⊢
    rw [hi]
    by_cases hm : (Lib.index l [u] == -1) = true
    ·rw [if_pos hm] at ih ⊢
     rw [← ih]; rfl
    ·have hge := Lib.index_ge l [u]
     have hne : Lib.index l [u] ≠ -1 := fun e => hm (by rw [e]; rfl)
     rw [if_neg hm] at ih ⊢
     have hm2 : ¬ (Lib.index l [u] + 1 == -1) = true := fun e => by have := beq_iff_eq.1 e; omega
     rw [if_neg hm2, ← ih]
     have e : (Lib.index l [u] + 1).toNat = (Lib.index l [u]).toNat + 1 := by omega
     rw [e]
     show (x :: l).take ((Lib.index l [u]).toNat + 1) :: Lib.splitK [u] 0 k ((x :: l).drop ((Lib.index l [u]).toNat + 1 + 1)) = _
     rw [List.take_succ_cons, List.drop_succ_cons]
     rfl
theorem Kb {x y : Nat} (hx : x < 256) (hy : y < 256) (h : UInt8.ofNat x = UInt8.ofNat y) : x = y := by
 have := congrArg UInt8.toNat h
 rw [UInt8.toNat_ofNat', UInt8.toNat_ofNat'] at this
 omega
theorem yj {c : Nat} (hc : c < 256) {b : List Nat} (hb : ∀ x ∈ b, x < 256) : Lib.splitB (gU [c]) 0 (Lib.countB (gU b) (gU [c])) (gU b) = (cutAt c b).map gU := by
 have h1 := Lib.splitB_data (gU [c]) 0 (Lib.countB (gU b) (gU [c])) (gU b)
 have h2 : Lib.splitK (gU [c]).data.toList 0 (Lib.countB (gU b) (gU [c])) (gU b).data.toList = cutAt (UInt8.ofNat c) (b.map UInt8.ofNat) := vB (UInt8.ofNat c) (b.map UInt8.ofNat)
 rw [h2, za UInt8.ofNat c b fun x hx e => Kb (hb x hx) hc e] at h1
 have h3 : ∀ {l : List ByteArray} {m : List (List Nat)}, l.map (·.data.toList) = m.map (List.map UInt8.ofNat) → l = m.map gU := by
  intro l m
  induction l generalizing m with
  | nil => intro h; cases m with | nil => rfl | cons => simp at h
  | cons x l ih =>
   intro h
   cases m with
   | nil => simp at h
   | cons y m =>
    simp only [List.map_cons, List.cons.injEq] at h
    rw [List.map_cons, ih h.2]
    congr 1
    have e : x.data = (gU y).data := Array.toList_inj.1 h.1
    cases x
    cases h4 : gU y
    rw [h4] at e
    simp only at e
    rw [e]
 exact h3 h1
/-! ## Numbers -/
def eH (b : List Nat) : Int := match Lib.parseIntB 64 (b.map UInt8.ofNat) with
 | .ok v => v
 | .range => Lib.intSat 64 (b.map UInt8.ofNat)
 | _ => 0
theorem Cb (n : Nat) : 0 < (eC n).length := by
 by_cases h : n < 10
 ·rw [cA h]; simp
 ·rw [jU h, List.length_append, cA (n := n % 10) (by omega)]; simp
theorem yA (M : Nat) (hM : M < 18446744073709551616) (n : Nat) : ∀ (acc : Nat) (r : List UInt8), acc * 10 ^ (eC n).length + n ≤ M → Lib.parseUintM M acc ((eC n).map UInt8.ofNat ++ r) = Lib.parseUintM M (acc * 10 ^ (eC n).length + n) r := by
 have one : ∀ (d acc : Nat) (r : List UInt8), d < 10 → acc * 10 + d ≤ M → Lib.parseUintM M acc (UInt8.ofNat (48 + d) :: r) = Lib.parseUintM M (acc * 10 + d) r := by
  intro d acc r hd hm
  have e : (UInt8.ofNat (48 + d)).toNat = 48 + d := by rw [UInt8.toNat_ofNat']; omega
  rw [Lib.parseUintM, e, if_pos (by omega), if_neg (by omega)]
  rw [show 48 + d - 48 = d by omega, if_neg (by omega)]
 induction n using Nat.strongRecOn with
 | _ n ih =>
  intro acc r hm
  by_cases h : n < 10
  ·rw [cA h] at hm ⊢
   simp only [List.length_singleton, Nat.pow_one] at hm ⊢
   exact one n acc r h hm
  ·have h1 := cA (n := n % 10) (by omega)
   rw [jU h, h1] at hm ⊢
   rw [List.length_append, List.length_singleton, Nat.pow_succ, ← Nat.mul_assoc] at hm ⊢
   have hle : (acc * 10 ^ (eC (n / 10)).length + n / 10) * 10 + n % 10 ≤ M := by rw [Nat.add_mul]; omega
   rw [List.map_append, List.append_assoc, ih (n / 10) (by omega) acc _ (by omega)]
   show Lib.parseUintM M _ (UInt8.ofNat (48 + n % 10) :: r) = _
   rw [one _ _ _ (Nat.mod_lt _ (by decide)) hle]
   congr 1
   rw [Nat.add_mul]; omega
theorem ic (n : Nat) : ∃ d r, eC n = (48 + d) :: r ∧ d < 10 := by
 induction n using Nat.strongRecOn with
 | _ n ih =>
  by_cases h : n < 10
  ·exact ⟨n, [], cA h, h⟩
  ·obtain ⟨d, r, e, hd⟩ := ih (n / 10) (by omega)
   exact ⟨d, r ++ eC (n % 10), by rw [jU h, e]; rfl, hd⟩
theorem J1 {n : Nat} (hn : n < 4294967296) : eH (eC n) = n := by
 obtain ⟨d, r, e, hd⟩ := ic n
 have hp := yA (2 ^ 64 - 1) (by decide) n 0 [] (by omega)
 rw [List.append_nil, Nat.zero_mul, Nat.zero_add] at hp
 have hp : Lib.parseUintM (2 ^ 64 - 1) 0 ((eC n).map UInt8.ofNat) = .ok n := hp
 have e48 : (UInt8.ofNat (48 + d)).toNat = 48 + d := by rw [UInt8.toNat_ofNat']; omega
 unfold eH Lib.parseIntB
 rw [e, List.map_cons] at hp ⊢
 simp only [e48]
 rw [if_neg (by omega)]
 unfold Lib.parseUintB
 rw [if_neg (by simp), hp]
 simp only
 rw [if_neg (by omega), if_neg (by omega), if_neg (by omega)]
theorem lJ {n : Int} (h1 : -4294967296 < n) (h2 : n < 4294967296) : eH (aQ n) = n := by
 unfold aQ
 split
 ·have hp := yA (2 ^ 64 - 1) (by decide) (-n).toNat 0 [] (by omega)
  rw [List.append_nil, Nat.zero_mul, Nat.zero_add] at hp
  have hp : Lib.parseUintM (2 ^ 64 - 1) 0 ((eC (-n).toNat).map UInt8.ofNat) = .ok (-n).toNat := hp
  unfold eH Lib.parseIntB
  rw [List.map_cons]
  have e45 : (UInt8.ofNat 45).toNat = 45 := rfl
  simp only [e45]
  rw [if_pos (by simp)]
  unfold Lib.parseUintB
  have hne : (eC (-n).toNat).map UInt8.ofNat ≠ [] := by
   obtain ⟨d, r, e, _⟩ := ic (-n).toNat
   rw [e]; simp
  rw [if_neg hne, hp]
  simp only
  rw [if_neg (by omega), if_neg (by omega)]
  simp only [if_true]
  omega
 ·rw [J1 (by omega)]; omega
end Ev
end Go.HL
namespace Go.Proofs
open Go.Shelf
def Tryz.laysC174_ren : Go.Shelf.Ren := ⟨fun | 174 => 90 | 247 => 158 | 245 => 159 | 287 => 249 | 279 => 250 | 280 => 251 | 281 => 252 | 282 => 253 | 321 => 338 | 322 => 339 | 316 => 340 | 171 => 70 | 205 => 341 | 243 => 138 | 246 => 239 | 283 => 327 | 284 => 328 | 285 => 329 | 286 => 330 | 129 => 369 | 317 => 368 | 318 => 370 | 319 => 371 | 320 => 372 | 337 => 402 | 338 => 403 | n => n, fun | 9 => 9 | 3 => 3 | 2 => 2 | 75 => 144 | 85 => 160 | 4 => 4 | 167 => 347 | 5 => 5 | 53 => 196 | 175 => 348 | 46 => 225 | 168 => 350 | 37 => 140 | 0 => 0 | 210 => 407 | 21 => 21 | 127 => 228 | 145 => 464 | 143 => 462 | 171 => 396 | 173 => 399 | 212 => 449 | 51 => 42 | 20 => 20 | 213 => 450 | 232 => 508 | 233 => 509 | 80 => 96 | n => n, fun | 15 => 2 | 16 => 3 | 17 => 4 | 18 => 8 | 19 => 9 | n => n⟩
theorem Tryz.laysC174 : Go.Proofs.LaysC.n174 Tryz.prog Tryz.laysC174_ren := {
 mixed := by kernel_rfl
 f129 := Tryz.func369.trans (congrArg some (by kernel_rfl))
 f171 := Tryz.func70.trans (congrArg some (by kernel_rfl))
 f174 := Tryz.func90.trans (congrArg some (by kernel_rfl))
 f205 := Tryz.func341.trans (congrArg some (by kernel_rfl))
 f243 := Tryz.func138.trans (congrArg some (by kernel_rfl))
 f245 := Tryz.func159.trans (congrArg some (by kernel_rfl))
 f246 := Tryz.func239.trans (congrArg some (by kernel_rfl))
 f247 := Tryz.func158.trans (congrArg some (by kernel_rfl))
 f279 := Tryz.func250.trans (congrArg some (by kernel_rfl))
 f280 := Tryz.func251.trans (congrArg some (by kernel_rfl))
 f281 := Tryz.func252.trans (congrArg some (by kernel_rfl))
 f282 := Tryz.func253.trans (congrArg some (by kernel_rfl))
 f283 := Tryz.func327.trans (congrArg some (by kernel_rfl))
 f284 := Tryz.func328.trans (congrArg some (by kernel_rfl))
 f285 := Tryz.func329.trans (congrArg some (by kernel_rfl))
 f286 := Tryz.func330.trans (congrArg some (by kernel_rfl))
 f287 := Tryz.func249.trans (congrArg some (by kernel_rfl))
 f316 := Tryz.func340.trans (congrArg some (by kernel_rfl))
 f317 := Tryz.func368.trans (congrArg some (by kernel_rfl))
 f318 := Tryz.func370.trans (congrArg some (by kernel_rfl))
 f319 := Tryz.func371.trans (congrArg some (by kernel_rfl))
 f320 := Tryz.func372.trans (congrArg some (by kernel_rfl))
 f321 := Tryz.func338.trans (congrArg some (by kernel_rfl))
 f322 := Tryz.func339.trans (congrArg some (by kernel_rfl))
 f337 := Tryz.func402.trans (congrArg some (by kernel_rfl))
 f338 := Tryz.func403.trans (congrArg some (by kernel_rfl))
 t0 := Tryz.underlying0
 a0 := Tryz.isAgg0
 z0 := Tryz.sizeOf0
 v0 := Tryz.zeroValue0
 t2 := Tryz.underlying2
 a2 := Tryz.isAgg2
 z2 := Tryz.sizeOf2
 v2 := Tryz.zeroValue2
 t3 := Tryz.underlying3
 a3 := Tryz.isAgg3
 z3 := Tryz.sizeOf3
 v3 := Tryz.zeroValue3
 t4 := Tryz.underlying4
 a4 := Tryz.isAgg4
 z4 := Tryz.sizeOf4
 v4 := Tryz.zeroValue4
 t5 := Tryz.underlying5
 a5 := Tryz.isAgg5
 z5 := Tryz.sizeOf5
 v5 := Tryz.zeroValue5
 t9 := Tryz.underlying9
 a9 := Tryz.isAgg9
 z9 := Tryz.sizeOf9
 v9 := Tryz.zeroValue9
 t20 := Tryz.underlying20
 a20 := Tryz.isAgg20
 z20 := Tryz.sizeOf20
 v20 := Tryz.zeroValue20
 t21 := Tryz.underlying21
 a21 := Tryz.isAgg21
 z21 := Tryz.sizeOf21
 v21 := Tryz.zeroValue21
 t37 := Tryz.underlying140
 a37 := Tryz.isAgg140
 z37 := Tryz.sizeOf140
 v37 := Tryz.zeroValue140
 t46 := Tryz.underlying225
 a46 := Tryz.isAgg225
 z46 := Tryz.sizeOf225
 v46 := Tryz.zeroValue225
 t51 := Tryz.underlying42
 a51 := Tryz.isAgg42
 z51 := Tryz.sizeOf42
 v51 := Tryz.zeroValue42
 t53 := Tryz.underlying196
 a53 := Tryz.isAgg196
 z53 := Tryz.sizeOf196
 v53 := Tryz.zeroValue196
 t75 := Tryz.underlying144
 a75 := Tryz.isAgg144
 z75 := Tryz.sizeOf144
 v75 := Tryz.zeroValue144
 t85 := Tryz.underlying160
 a85 := Tryz.isAgg160
 z85 := Tryz.sizeOf160
 v85 := Tryz.zeroValue160
 t127 := Tryz.underlying228
 a127 := Tryz.isAgg228
 z127 := Tryz.sizeOf228
 v127 := Tryz.zeroValue228
 t143 := Tryz.underlying462
 a143 := Tryz.isAgg462
 z143 := Tryz.sizeOf462
 v143 := Tryz.zeroValue462
 t145 := Tryz.underlying464
 a145 := Tryz.isAgg464
 z145 := Tryz.sizeOf464
 v145 := Tryz.zeroValue464
 t167 := Tryz.underlying347
 a167 := Tryz.isAgg347
 z167 := Tryz.sizeOf347
 v167 := Tryz.zeroValue347
 t168 := Tryz.underlying350
 a168 := Tryz.isAgg350
 z168 := Tryz.sizeOf350
 v168 := Tryz.zeroValue350
 t171 := Tryz.underlying396
 a171 := Tryz.isAgg396
 z171 := Tryz.sizeOf396
 v171 := Tryz.zeroValue396
 t173 := Tryz.underlying399
 a173 := Tryz.isAgg399
 z173 := Tryz.sizeOf399
 v173 := Tryz.zeroValue399
 t175 := Tryz.underlying348
 a175 := Tryz.isAgg348
 z175 := Tryz.sizeOf348
 v175 := Tryz.zeroValue348
 t210 := Tryz.underlying407
 a210 := Tryz.isAgg407
 z210 := Tryz.sizeOf407
 v210 := Tryz.zeroValue407
 t212 := Tryz.underlying449
 a212 := Tryz.isAgg449
 z212 := Tryz.sizeOf449
 v212 := Tryz.zeroValue449
 t213 := Tryz.underlying450
 a213 := Tryz.isAgg450
 z213 := Tryz.sizeOf450
 t232 := Tryz.underlying508
 a232 := Tryz.isAgg508
 z232 := Tryz.sizeOf508
 v232 := Tryz.zeroValue508
 t233 := Tryz.underlying509
 a233 := Tryz.isAgg509
 z233 := Tryz.sizeOf509
 v233 := Tryz.zeroValue509
 g15 := by kernel_rfl
 g16 := by kernel_rfl
 g17 := by kernel_rfl
 g18 := by kernel_rfl
 g19 := by kernel_rfl
 t80 := Tryz.underlying96
 a80 := Tryz.isAgg96
 z80 := Tryz.sizeOf96
 v80 := Tryz.zeroValue96
 i0 := by kernel_rfl
 i2 := by kernel_rfl
 i3 := by kernel_rfl
 i4 := by kernel_rfl
 i5 := by kernel_rfl
 i9 := by kernel_rfl
 i20 := by kernel_rfl
 i21 := by kernel_rfl
 i37 := by kernel_rfl
 i46 := by kernel_rfl
 i51 := by kernel_rfl
 i53 := by kernel_rfl
 i75 := by kernel_rfl
 i80 := by kernel_rfl
 i85 := by kernel_rfl
 i127 := by kernel_rfl
 i143 := by kernel_rfl
 i145 := by kernel_rfl
 i167 := by kernel_rfl
 i168 := by kernel_rfl
 i171 := by kernel_rfl
 i173 := by kernel_rfl
 i175 := by kernel_rfl
 i210 := by kernel_rfl
 i212 := by kernel_rfl
 i232 := by kernel_rfl
 i233 := by kernel_rfl
 m15 := by kernel_rfl
 m16 := by kernel_rfl
 m17 := by kernel_rfl
 m18 := by kernel_rfl
 m19 := by kernel_rfl
 c0 := by kernel_rfl
 c2 := by kernel_rfl
 c3 := by kernel_rfl
 c4 := by kernel_rfl
 c5 := by kernel_rfl
 c9 := by kernel_rfl
 c20 := by kernel_rfl
 c21 := by kernel_rfl
 c37 := by kernel_rfl
 c46 := by kernel_rfl
 c51 := by kernel_rfl
 c53 := by kernel_rfl
 c75 := by kernel_rfl
 c80 := by kernel_rfl
 c85 := by kernel_rfl
 c127 := by kernel_rfl
 c143 := by kernel_rfl
 c145 := by kernel_rfl
 c167 := by kernel_rfl
 c168 := by kernel_rfl
 c171 := by kernel_rfl
 c173 := by kernel_rfl
 c175 := by kernel_rfl
 c210 := by kernel_rfl
 c212 := by kernel_rfl
 c213 := by kernel_rfl
 c232 := by kernel_rfl
 c233 := by kernel_rfl }
open Go.RowKit in
theorem Tryz.strconv_ParseInt_10_at64_ok (s : ByteArray) (hmax : s.size ≤ 9223372036854775806) (v : Int) (h : Lib.parseIntB 64 s.data.toList = .ok v) (w : World) :
  Calls Tryz.prog 90 #[.string s, .int .i64 10, .int .i64 64] w fun e w' => e = .returned (.tuple #[.int .i64 v, .nilIface]) ∧ (w' = w ∨ ∃ t, w' = Lib.bytesWorld w 5 t) := Any.strconv_ParseInt_10_at64_ok Tryz.laysC174 s hmax v h w
open Go.RowKit in
theorem Tryz.strconv_ParseInt_10_at64_syntax (s : ByteArray) (hlim : s.size ≤ 281474976710656) (h : Lib.parseIntB 64 s.data.toList = Lib.parseIntB 64 []) (ev : Value) (w : World) (hv : w.cell? ⟨2, 0, none⟩ = some ev) (hev : ev = .nilIface ∨ ∃ te pe, ev = .iface te pe) :
  Calls Tryz.prog 90 #[.string s, .int .i64 10, .int .i64 64] w fun e w' => ∃ N, e = .returned (.tuple #[.int .i64 (0), .iface 350 (.pointer (some ⟨N, 0, none⟩))]) ∧ w.heap.size ≤ N ∧ w'.heap[N]? = some (.cells #[.string ⟨#[80, 97, 114, 115, 101, 73, 110, 116]⟩, .string s, ev] 407 (0, 0)) ∧ Below w.heap.size w w' := Any.strconv_ParseInt_10_at64_syntax Tryz.laysC174 s hlim h ev w hv hev
open Go.RowKit in
theorem Tryz.strconv_ParseInt_10_at64_range (s : ByteArray) (hlim : s.size ≤ 281474976710656) (h : Lib.parseIntB 64 s.data.toList = .range) (ev : Value) (w : World) (hv : w.cell? ⟨3, 0, none⟩ = some ev) (hev : ev = .nilIface ∨ ∃ te pe, ev = .iface te pe) :
  Calls Tryz.prog 90 #[.string s, .int .i64 10, .int .i64 64] w fun e w' => ∃ N, e = .returned (.tuple #[.int .i64 (Lib.intSat 64 s.data.toList), .iface 350 (.pointer (some ⟨N, 0, none⟩))]) ∧ w.heap.size ≤ N ∧ w'.heap[N]? = some (.cells #[.string ⟨#[80, 97, 114, 115, 101, 73, 110, 116]⟩, .string s, ev] 407 (0, 0)) ∧ Below w.heap.size w w' := Any.strconv_ParseInt_10_at64_range Tryz.laysC174 s hlim h ev w hv hev
def Tryz.lays146_ren : Go.Shelf.Ren := ⟨fun | 146 => 48 | 221 => 89 | 268 => 155 | 138 => 156 | 143 => 157 | 195 => 245 | 197 => 246 | 218 => 247 | 219 => 248 | 260 => 333 | 217 => 334 | 225 => 335 | 224 => 336 | 267 => 337 | 266 => 374 | 314 => 375 | n => n, fun | 9 => 9 | 31 => 100 | 3 => 3 | 4 => 4 | 0 => 0 | 105 => 344 | 21 => 21 | 5 => 5 | 46 => 225 | 119 => 401 | 139 => 459 | 138 => 458 | 146 => 460 | 51 => 42 | n => n, fun | 1 => 1 | 3 => 6 | 4 => 7 | n => n⟩
theorem Tryz.lays146 : Go.Proofs.Lays.n146 Tryz.prog Tryz.lays146_ren := {
 mixed := by kernel_rfl
 f138 := Tryz.func156.trans (congrArg some (by kernel_rfl))
 f143 := Tryz.func157.trans (congrArg some (by kernel_rfl))
 f146 := Tryz.func48.trans (congrArg some (by kernel_rfl))
 f195 := Tryz.func245.trans (congrArg some (by kernel_rfl))
 f197 := Tryz.func246.trans (congrArg some (by kernel_rfl))
 f217 := Tryz.func334.trans (congrArg some (by kernel_rfl))
 f218 := Tryz.func247.trans (congrArg some (by kernel_rfl))
 f219 := Tryz.func248.trans (congrArg some (by kernel_rfl))
 f221 := Tryz.func89.trans (congrArg some (by kernel_rfl))
 f224 := Tryz.func336.trans (congrArg some (by kernel_rfl))
 f225 := Tryz.func335.trans (congrArg some (by kernel_rfl))
 f260 := Tryz.func333.trans (congrArg some (by kernel_rfl))
 f266 := Tryz.func374.trans (congrArg some (by kernel_rfl))
 f267 := Tryz.func337.trans (congrArg some (by kernel_rfl))
 f268 := Tryz.func155.trans (congrArg some (by kernel_rfl))
 f314 := Tryz.func375.trans (congrArg some (by kernel_rfl))
 t0 := Tryz.underlying0
 a0 := Tryz.isAgg0
 z0 := Tryz.sizeOf0
 v0 := Tryz.zeroValue0
 t3 := Tryz.underlying3
 a3 := Tryz.isAgg3
 z3 := Tryz.sizeOf3
 v3 := Tryz.zeroValue3
 t4 := Tryz.underlying4
 a4 := Tryz.isAgg4
 z4 := Tryz.sizeOf4
 v4 := Tryz.zeroValue4
 t5 := Tryz.underlying5
 a5 := Tryz.isAgg5
 z5 := Tryz.sizeOf5
 v5 := Tryz.zeroValue5
 t9 := Tryz.underlying9
 a9 := Tryz.isAgg9
 z9 := Tryz.sizeOf9
 v9 := Tryz.zeroValue9
 t21 := Tryz.underlying21
 a21 := Tryz.isAgg21
 z21 := Tryz.sizeOf21
 v21 := Tryz.zeroValue21
 t31 := Tryz.underlying100
 a31 := Tryz.isAgg100
 z31 := Tryz.sizeOf100
 v31 := Tryz.zeroValue100
 t46 := Tryz.underlying225
 a46 := Tryz.isAgg225
 z46 := Tryz.sizeOf225
 v46 := Tryz.zeroValue225
 t51 := Tryz.underlying42
 a51 := Tryz.isAgg42
 z51 := Tryz.sizeOf42
 v51 := Tryz.zeroValue42
 t105 := Tryz.underlying344
 a105 := Tryz.isAgg344
 z105 := Tryz.sizeOf344
 v105 := Tryz.zeroValue344
 t119 := Tryz.underlying401
 a119 := Tryz.isAgg401
 z119 := Tryz.sizeOf401
 t138 := Tryz.underlying458
 a138 := Tryz.isAgg458
 z138 := Tryz.sizeOf458
 v138 := Tryz.zeroValue458
 t139 := Tryz.underlying459
 a139 := Tryz.isAgg459
 z139 := Tryz.sizeOf459
 v139 := Tryz.zeroValue459
 t146 := Tryz.underlying460
 a146 := Tryz.isAgg460
 z146 := Tryz.sizeOf460
 v146 := Tryz.zeroValue460
 g1 := by kernel_rfl
 g3 := by kernel_rfl
 g4 := by kernel_rfl }
open Go.RowKit Go.Lib in
theorem Tryz.strings_Split (s sep : ByteArray) (m : Int) (w : World) (hs : s.size < 4294967281) (hm : w.cell? ⟨1, 0, none⟩ = some (.int .i64 m)) (h1 : 1 ≤ sep.size) :
  Calls Tryz.prog 48 #[.string s, .string sep] w fun e w' =>
   e = .returned (.slice (some ⟨w.heap.size, 0, none⟩) (Lib.countB s sep + 1) (Lib.countB s sep + 1)) ∧ w' = w.alloc (.cells ((Lib.splitB sep 0 (Lib.countB s sep) s).map Value.string).toArray 9) := Any.strings_Split Tryz.lays146 (by kernel_rfl) s sep m w hs hm h1
end Go.Proofs
namespace Go.HL
open Go Go.Proofs
noncomputable section
namespace Ev
open Em
def DU : aG := .cells [.Df .i64 (-9223372036854775808) 9223372036854775807] 0 false false
def uF (t : Nat) : aG := .cells [.iface t .bad] 0 false false
theorem cell_of {P : Program} {σ : aj} {h : Heap} {w : World} (hr : Rel P σ h w) {g : Nat} {x : aa} (hg : h.get g = some (.cells [x] 0 false false)) (hgs : g < P.globals.size) : ∃ v, w.cell? ⟨g, 0, none⟩ = some v ∧ aA σ x v := by
 obtain ⟨p, hp, hb, h0⟩ := hr.od g hgs
 have hl : mZ h g 0 = some x := by
  unfold mZ
  rw [bQ hg]; rfl
 obtain ⟨v, h1, h2, _⟩ := p3 hr hp hl
 rw [hb, h0] at h1
 exact ⟨v, h1, h2⟩
/-! ## Split -/
theorem AU {b : List Nat} {c : Nat} (hb : ∀ x ∈ b, x < 256) (hc : c < 256) (hl : b.length ≤ 1000000) {h : Heap} {σ : aj} {w : World} {vs : List Value} (hr : Rel P σ h w) (hg : h.get 1 = some DU) (hgs : 1 < P.globals.size) (hv : ao σ [aY b, .str 1 c] vs) :
  Calls P 48 ⟨vs⟩ w fun e w' => ∃ τ, Step P σ h w τ (h.new (.cells ((cutAt c b).map aY) 9 false true)) w' ∧ si τ (.ret (.slice h.next 0 (cutAt c b).length (some (cutAt c b).length))) e := by
 obtain ⟨v1, m, rfl, g1, hv⟩ := hv.cons_inv
 obtain ⟨v2, m, rfl, g2, hv⟩ := hv.cons_inv
 have := hv.cE
 subst this
 have g1 := qM hb g1
 have ec : aO [c] 0 = c := by simp [aO]
 have g2 : v2 = .string (gU [c]) := qM (l := [c]) (by intro x hx; simp at hx; omega) (by show aA σ (.str 1 (aO [c] 0)) v2; rw [ec]; exact g2)
 subst g1 g2
 obtain ⟨u, hu, n, rfl, _, _⟩ := cell_of hr hg hgs
 have hsz : (gU b).size < 4294967281 := by rw [jC]; omega
 have h1 : 1 ≤ (gU [c]).size := by rw [jC]; simp
 have hN : Lib.countB (gU b) (gU [c]) + 1 = (cutAt c b).length := by
  have h3 := Lib.splitB_all (gU [c]) h1 0 (Lib.countB (gU b) (gU [c])) (gU b) rfl
  rw [yj hc hb, List.length_map] at h3
  exact h3.symm
 refine (Tryz.strings_Split (gU b) (gU [c]) n w hsz hu h1).mono fun e w' ⟨he, hw⟩ => ?_
 rw [yj hc hb] at hw
 rw [hN] at he
 subst hw
 let p : Place := ⟨w.heap.size, 0, 0, (cutAt c b).length⟩
 have hby : ∀ x ∈ cutAt c b, ∀ y ∈ x, y < 256 := fun x hx y hy => hb y ((lY c b x hx).2 y hy)
 have hvs : ∀ {l : List (List Nat)}, (∀ x ∈ l, ∀ y ∈ x, y < 256) → ∀ τ : aj, ao τ (l.map aY) ((l.map gU).map Value.string) := by
  intro l
  induction l with
  | nil => intro _ τ; exact ao.nil
  | cons x l ih => intro hx τ; exact ao.cons (zx (hx x (by simp))) (ih (fun y hy => hx y (by simp [hy])) τ)
 have s1 : Step P σ h w (σ.oJ h.next p) (h.new (.cells ((cutAt c b).map aY) 9 false true)) (w.alloc (.cells (((cutAt c b).map gU).map Value.string).toArray 9)) := by
  refine Step.new hr rfl ⟨_, 9, (0, 0), rfl, ?_, ?_, fun _ => rfl, fun _ => ⟨rfl, by simp [p]⟩, fun _ => ⟨rfl, by simp⟩, (fun e => by cases e), .inl rfl⟩
  ·show ao _ _ ((List.drop 0 (((cutAt c b).map gU).map Value.string)).take ((cutAt c b).map aY).length)
   rw [List.drop_zero, List.take_of_length_le (by simp)]
   exact hvs hby _
  ·intro x hx
   obtain ⟨y, _, rfl⟩ := List.mem_map.1 hx
   rfl
 refine ⟨_, s1, _, he, p, (cutAt c b).length, σ.bf _ _, rfl, Nat.le_refl _, rfl⟩
def mR (args : List aa) (h : Heap) (r : qD × Heap) : Prop := ∃ b c, args = [aY b, .str 1 c] ∧ (∀ x ∈ b, x < 256) ∧ c < 256 ∧ b.length ≤ 1000000 ∧ h.get 1 = some DU ∧ r = (.ret (.slice h.next 0 (cutAt c b).length (some (cutAt c b).length)), h.new (.cells ((cutAt c b).map aY) 9 false true))
theorem mR.eq {args : List aa} {h : Heap} {r r' : qD × Heap} (a : mR args h r) (b : mR args h r') : r = r' := by
 obtain ⟨b, c, rfl, hb, _, _, _, rfl⟩ := a
 obtain ⟨b', c', e, hb', _, _, _, rfl⟩ := b
 injection e with e1 e2
 injection e2 with e2
 injection e2 with _ e2
 rw [jD hb hb' e1, e2]
/-! ## ParseInt -/
theorem CA (w : World) (e : Nat) (s : ByteArray) : RowKit.Below w.heap.size w (Lib.bytesWorld w e s) := by
 unfold Lib.bytesWorld
 have e1 : w.drew.heap.size = w.heap.size := rfl
 rw [← e1, s5]
 exact RowKit.Below.alloc ((RowKit.Below.refl _ w).drew) (Nat.le_refl _) _
theorem Bd {b : List Nat} (hb : ∀ x ∈ b, x < 256) (hl : b.length ≤ 1000000) {t2 t3 : Nat} {h : Heap} {σ : aj} {w : World} {vs : List Value} (hr : Rel P σ h w) (hg2 : h.get 2 = some (uF t2)) (hg3 : h.get 3 = some (uF t3)) (hgs : 3 < P.globals.size) (hv : ao σ [aY b, .int .i64 10, .int .i64 64] vs) :
  Calls P 90 ⟨vs⟩ w fun e w' => Step P σ h w σ h w' ∧ si σ (.ret (.tuple [.int .i64 (eH b), .bad])) e := by
 obtain ⟨v1, m, rfl, g1, hv⟩ := hv.cons_inv
 obtain ⟨v2, m, rfl, g2, hv⟩ := hv.cons_inv
 obtain ⟨v3, m, rfl, g3, hv⟩ := hv.cons_inv
 have := hv.cE
 subst this
 have g1 := qM hb g1
 have g2 : v2 = .int .i64 10 := g2
 have g3 : v3 = .int .i64 64 := g3
 subst g1 g2 g3
 have hlist : (gU b).data.toList = b.map UInt8.ofNat := vt b
 have res : ∀ {n : Int} {x : Value} {e : Ending}, eH b = n → e = .returned (.tuple #[.int .i64 n, x]) → si σ (.ret (.tuple [.int .i64 (eH b), .bad])) e := by
  intro n x e hn he
  exact ⟨_, he, [.int .i64 n, x], rfl, ao.cons (by rw [hn]; rfl) (ao.cons trivial ao.nil)⟩
 obtain ⟨u2, hu2, y2, hy2, _⟩ := cell_of hr hg2 (by omega)
 obtain ⟨u3, hu3, y3, hy3, _⟩ := cell_of hr hg3 (by omega)
 cases hp : Lib.parseIntB 64 (gU b).data.toList
 ·rename_i v
  refine (Tryz.strconv_ParseInt_10_at64_ok (gU b) (by rw [jC]; omega) v hp w).mono fun e w' ⟨he, hw⟩ => ⟨iy hr ?_, res (n := v) ?_ he⟩
  ·rcases hw with rfl | ⟨t, rfl⟩
   ·exact RowKit.Below.refl _ _
   ·exact CA w 5 t
  ·unfold eH
   rw [← hlist, hp]
 ·refine (Tryz.strconv_ParseInt_10_at64_syntax (gU b) (by rw [jC]; omega) hp u2 w hu2 (.inr ⟨_, _, hy2⟩)).mono fun e w' ⟨N, he, _, _, hw⟩ => ⟨iy hr hw, res (n := 0) ?_ he⟩
  unfold eH
  rw [← hlist, hp]
 ·refine (Tryz.strconv_ParseInt_10_at64_range (gU b) (by rw [jC]; omega) hp u3 w hu3 (.inr ⟨_, _, hy3⟩)).mono fun e w' ⟨N, he, _, _, hw⟩ => ⟨iy hr hw, res (n := Lib.intSat 64 (gU b).data.toList) ?_ he⟩
  unfold eH
  rw [← hlist, hp]
structure KR (base : List (Nat × aG)) (K : ah) : Prop where
 free : ∀ f, (Nat.beq f 91 || Nat.beq f 162) = true → ∀ a h, K f a h = none
 split : ∀ h b c, (lies base).holds h → (∀ x ∈ b, x < 256) → c < 256 → b.length ≤ 1000000 → K 48 [aY b, .str 1 c] h = some (.ret (.slice h.next 0 (cutAt c b).length (some (cutAt c b).length)), h.new (.cells ((cutAt c b).map aY) 9 false true))
 parse : ∀ h b, (lies base).holds h → (∀ x ∈ b, x < 256) → b.length ≤ 1000000 → K 90 [aY b, .int .i64 10, .int .i64 64] h = some (.ret (.tuple [.int .i64 (eH b), .bad]), h)
end Ev
end
end Go.HL
namespace Go.HL
open Go
namespace Ev
open Em
/-! ## The program's reading of a line -/
abbrev gW (l : List (List Nat)) (i : Nat) : List Nat := l.getD i []
def nr (b : List Nat) : Bool := decide (b.head? = some 114)
def nf (b : List Nat) : Int := eH (if nr b = true then b.tail else b)
def dQ (l : List (List Nat)) (s : List Nat) : Int := if s ∈ l then ((l.idxOf s : Nat) : Int) else -1
def wQ (s : List Nat) : Int := if 0 ≤ dQ BW s then ((Kw.getD (dQ BW s).toNat 0 : Nat) : Int) else 0
def O2 (s : List Nat) : Nat → Int
 | 0 => 0
 | n + 1 => if bT.getD n [] = s then (n : Int) else O2 s n
noncomputable def i32 (z : Int) : Int := cx .i32 z
abbrev vm : List Nat := [112, 97, 114, 97, 109]
abbrev fu : List Nat := [108, 111, 99, 97, 108]
abbrev pP : List Nat := [97, 114, 114, 97, 121]
abbrev zw : List Nat := [97, 116, 111, 109, 105, 99]
abbrev vp : List Nat := [98, 97, 114, 114, 105, 101, 114]
abbrev vo : List Nat := [99, 111, 108, 108, 101, 99, 116]
abbrev I1 : List Nat := [106, 117, 109, 112]
abbrev zt : List Nat := [98, 114, 97, 110, 99, 104]
abbrev Oe : List Nat := [101, 120, 105, 116]
noncomputable def ke (d : Int) (l : List (List Nat)) : bI :=
 if l.length = 1 ∧ 0 ≤ dQ qF (gW l 0) then ⟨4, dQ qF (gW l 0), d, 0, 0, 0, 0, 0⟩
 else if l.length = 1 ∧ nr (gW l 0) = true then ⟨1, 0, d, nf (gW l 0), 0, 0, 0, 0⟩
 else if l.length = 1 then ⟨0, 0, d, 0, 0, i32 (eH (gW l 0)), 0, 0⟩
 else if l.length = 2 ∧ gW l 0 = vm then ⟨5, 0, d, 0, 0, i32 (eH (gW l 1)), 0, 0⟩
 else if l.length = 2 ∧ gW l 0 = fu then ⟨11, 0, d, 0, 0, i32 (eH (gW l 1)), 0, 0⟩
 else if l.length = 2 then ⟨2, max 0 (dQ uT (gW l 0)), d, nf (gW l 1), 0, 0, 0, 0⟩
 else if l.length = 3 ∧ gW l 0 = pP then ⟨6, 0, d, nf (gW l 2), 0, i32 (eH (gW l 1)), 0, 0⟩
 else if l.length = 3 then ⟨3, O2 (gW l 1) 20, d, nf (gW l 0), nf (gW l 2), 0, 0, 0⟩
 else if l.length = 4 then ⟨10, wQ (gW l 1), d, nf (gW l 2), 0, i32 (eH (gW l 3)), 0, 0⟩
 else ⟨0, 0, d, 0, 0, 0, 0, 0⟩
noncomputable def gE (l : List (List Nat)) : bI :=
 if 3 ≤ l.length ∧ gW l 1 = [61] ∧ nr (gW l 0) = true then ke (nf (gW l 0)) (l.drop 2)
 else if l.length = 5 ∧ gW l 0 = pP then ⟨7, 0, 0, nf (gW l 2), nf (gW l 4), i32 (eH (gW l 1)), 0, 0⟩
 else if l.length = 6 ∧ gW l 0 = zw then ⟨8, wQ (gW l 1), 0, nf (gW l 4), nf (gW l 5), i32 (eH (gW l 3)), 0, 0⟩
 else if l.length = 2 ∧ gW l 0 = vp then ⟨9, 0, 0, 0, 0, i32 (eH (gW l 1)), 0, 0⟩
 else if l.length = 4 ∧ gW l 0 = fu then ⟨12, 0, 0, nf (gW l 3), 0, i32 (eH (gW l 1)), 0, 0⟩
 else if l.length = 2 ∧ gW l 0 = I1 then ⟨13, 0, 0, 0, 0, 0, eH (gW l 1), 0⟩
 else if l.length = 5 ∧ gW l 0 = zt then ⟨14, 0, 0, nf (gW l 1), 0, 0, eH (gW l 2), eH (gW l 4)⟩
 else ⟨15, 0, 0, 0, 0, 0, 0, 0⟩
/-! ## The reference's -/
def Lx (b : Nat) : Bool := decide (48 ≤ b ∧ b ≤ 57)
def CT (l : List Nat) (n : Int) : Int := l.foldl (fun (n : Int) (b : Nat) => 10 * n + ((b : Int) - 48)) n
def tK (s : List Nat) : List Nat := if 1 < s.length ∧ s.head? = some 45 then s.tail else s
def AV (s : List Nat) : Int := if 1 < s.length ∧ s.head? = some 45 then -1 else 1
def nh (s : List Nat) : Int := if (tK s).length < 1 ∨ 10 < (tK s).length then 0 else if (tK s).all Lx = true then AV s * CT (tK s) 0 else 0
def jH (s : List Nat) : Int := if s.length < 2 ∨ s.head? ≠ some 114 then 0 else nh s.tail
def JA (s : List Nat) : Int := if s = [97, 100, 100] then 0 else if s = [97, 110, 100] then 5 else if s = [111, 114] then 6 else if s = [120, 111, 114] then 7 else if s = [109, 105, 110] then 18 else if s = [109, 97, 120] then 19 else 0
noncomputable def lh (l : List (List Nat)) : bI :=
 if gW l 0 = pP then ⟨7, 0, 0, jH (gW l 2), jH (gW l 4), i32 (nh (gW l 1)), 0, 0⟩
 else if gW l 0 = zw then ⟨8, JA (gW l 1), 0, jH (gW l 4), jH (gW l 5), i32 (nh (gW l 3)), 0, 0⟩
 else if gW l 0 = vp then ⟨9, 0, 0, 0, 0, i32 (nh (gW l 1)), 0, 0⟩
 else if gW l 0 = fu then ⟨12, 0, 0, jH (gW l 3), 0, i32 (nh (gW l 1)), 0, 0⟩
 else if gW l 0 = I1 then ⟨13, 0, 0, 0, 0, 0, nh (gW l 1), 0⟩
 else if gW l 0 = zt then ⟨14, 0, 0, jH (gW l 1), 0, 0, nh (gW l 2), nh (gW l 4)⟩
 else if gW l 0 = Oe ∨ l.length < 3 then ⟨15, 0, 0, 0, 0, 0, 0, 0⟩
 else if 0 ≤ dQ qF (gW l 2) then ⟨4, dQ qF (gW l 2), jH (gW l 0), 0, 0, 0, 0, 0⟩
 else if gW l 2 = vm then ⟨5, 0, jH (gW l 0), 0, 0, i32 (nh (gW l 3)), 0, 0⟩
 else if gW l 2 = pP then ⟨6, 0, jH (gW l 0), jH (gW l 4), 0, i32 (nh (gW l 3)), 0, 0⟩
 else if gW l 2 = vo then ⟨10, JA (gW l 3), jH (gW l 0), jH (gW l 4), 0, i32 (nh (gW l 5)), 0, 0⟩
 else if gW l 2 = fu then ⟨11, 0, jH (gW l 0), 0, 0, i32 (nh (gW l 3)), 0, 0⟩
 else if 0 ≤ dQ uT (gW l 2) then ⟨2, dQ uT (gW l 2), jH (gW l 0), jH (gW l 3), 0, 0, 0, 0⟩
 else if l.length = 3 ∧ nr (gW l 2) = true then ⟨1, 0, jH (gW l 0), jH (gW l 2), 0, 0, 0, 0⟩
 else if l.length = 3 then ⟨0, 0, jH (gW l 0), 0, 0, i32 (nh (gW l 2)), 0, 0⟩
 else ⟨3, max 0 (dQ bT (gW l 3)), jH (gW l 0), jH (gW l 2), jH (gW l 4), 0, 0, 0⟩
/-! ## Numbers that were written -/
theorem ot (n : Nat) : (eC n).all Lx = true := by
 induction n using Nat.strongRecOn with
 | _ n ih =>
  by_cases h : n < 10
  ·rw [cA h]; simp [Lx]; omega
  ·rw [jU h, List.all_append, ih (n / 10) (by omega), ih (n % 10) (by omega)]; rfl
theorem AN (n : Nat) : ∀ acc : Int, CT (eC n) acc = acc * 10 ^ (eC n).length + n := by
 induction n using Nat.strongRecOn with
 | _ n ih =>
  intro acc
  by_cases h : n < 10
  ·rw [cA h]; simp [CT]; omega
  ·have h1 := cA (n := n % 10) (by omega)
   rw [jU h]
   have e : CT (eC (n / 10) ++ eC (n % 10)) acc = CT (eC (n % 10)) (CT (eC (n / 10)) acc) := List.foldl_append
   rw [e, ih (n / 10) (by omega), h1, List.length_append, List.length_singleton, Int.pow_succ]
   simp only [CT, List.foldl_cons, List.foldl_nil]
   rw [← Int.mul_assoc]
   omega
theorem pg (n : Int) : ∃ d r, aQ n = d :: r ∧ (d = 45 ∨ 48 ≤ d ∧ d < 58) := by
 unfold aQ
 split
 ·exact ⟨45, _, rfl, .inl rfl⟩
 ·obtain ⟨d, r, e, h⟩ := ic n.toNat
  exact ⟨48 + d, r, e, .inr (by omega)⟩
theorem lI {n : Int} (h1 : -4294967296 < n) (h2 : n < 4294967296) : nh (aQ n) = n := by
 have len : ∀ m : Nat, m < 4294967296 → (eC m).length ≤ 10 := fun m hm => tl 10 m (by decide) (by omega)
 unfold aQ
 split
 ·obtain ⟨d, r, e, hd⟩ := ic (-n).toNat
  have hl := len (-n).toNat (by omega)
  have hp := Cb (-n).toNat
  have ht : tK (45 :: eC (-n).toNat) = eC (-n).toNat := by unfold tK; rw [if_pos ⟨by simp; omega, rfl⟩]; rfl
  have hs : AV (45 :: eC (-n).toNat) = -1 := by unfold AV; rw [if_pos ⟨by simp; omega, rfl⟩]
  unfold nh
  rw [ht, hs, if_neg (by omega), if_pos (ot _), AN]
  omega
 ·obtain ⟨d, r, e, hd⟩ := ic n.toNat
  have hl := len n.toNat (by omega)
  have hp := Cb n.toNat
  have hh : ¬ (1 < (eC n.toNat).length ∧ (eC n.toNat).head? = some 45) := by rw [e]; simp; omega
  have ht : tK (eC n.toNat) = eC n.toNat := by unfold tK; rw [if_neg hh]
  have hs : AV (eC n.toNat) = 1 := by unfold AV; rw [if_neg hh]
  unfold nh
  rw [ht, hs, if_neg (by omega), if_pos (ot _), AN]
  omega
theorem Jq (n : Int) : nr (rT n) = true := rfl
theorem Jr (n : Int) : nr (aQ n) = false := by
 obtain ⟨d, r, e, hd⟩ := pg n
 rw [e]
 unfold nr
 simp; omega
theorem Dh {n : Int} (h1 : -4294967296 < n) (h2 : n < 4294967296) : nf (rT n) = n := lJ h1 h2
theorem Dg {n : Int} (h1 : -4294967296 < n) (h2 : n < 4294967296) : jH (rT n) = n := by
 have hp : 0 < (aQ n).length := by obtain ⟨d, r, e, _⟩ := pg n; rw [e]; simp
 unfold jH
 have : ¬ ((rT n).length < 2 ∨ (rT n).head? ≠ some 114) := by
  simp only [rT, List.length_cons, List.head?_cons, ne_eq, not_true_eq_false, or_false]; omega
 rw [if_neg this]
 exact lI h1 h2
theorem Li (n : Int) : i32 n = if n % 4294967296 < 2147483648 then n % 4294967296 else n % 4294967296 - 4294967296 := by
 unfold i32
 rw [dE]
 simp [IntKind.wrap, IntKind.bits, IntKind.signed]
 by_cases h : n % 4294967296 < 2147483648
 ·rw [if_pos h, if_neg (by omega)]
 ·rw [if_neg h, if_pos (by omega)]
theorem Nt {n : Int} (h1 : -2147483648 ≤ n) (h2 : n ≤ 2147483647) : i32 n = n := by
 rw [Li]
 split <;> omega
theorem p8 {l : List (List Nat)} {s : List Nat} (h : s ∉ l) : dQ l s = -1 := if_neg h
theorem Ag {n : Int} {c : Nat} {s : List Nat} (hc : c ≠ 45 ∧ ¬ (48 ≤ c ∧ c < 58)) : aQ n ≠ c :: s := by
 obtain ⟨d, r, e, hd⟩ := pg n
 rw [e]
 intro h
 injection h with h _
 omega
theorem MJ {n : Int} {c : Nat} {s : List Nat} (hc : c ≠ 114) : rT n ≠ c :: s := by
 intro h
 injection h with h _
 omega
theorem NG (n : Int) : aQ n ∉ qF := by
 intro h
 simp only [qF, List.mem_cons, List.not_mem_nil, or_false] at h
 rcases h with h | h | h | h <;> exact Ag (by omega) h
theorem Q9 (n : Int) : rT n ∉ qF := by
 intro h
 simp only [qF, List.mem_cons, List.not_mem_nil, or_false] at h
 rcases h with h | h | h | h <;> exact MJ (by omega) h
theorem P5 (n : Int) : aQ n ∉ uT ∨ aQ n = [45] := by
 by_cases h : aQ n ∈ uT
 ·simp only [uT, List.mem_cons, List.not_mem_nil, or_false] at h
  rcases h with h | h | h
  ·exact .inr h
  ·exact absurd h (Ag (by omega))
  ·exact absurd h (Ag (by omega))
 ·exact .inl h
theorem Hy (n : Int) : aQ n ≠ [45] := by
 unfold aQ
 split
 ·intro h
  injection h with _ h
  obtain ⟨d, r, e, _⟩ := ic (-n).toNat
  rw [e] at h; cases h
 ·intro h
  obtain ⟨d, r, e, hd⟩ := ic n.toNat
  rw [e] at h
  injection h with h _
  omega
theorem NF (n : Int) : aQ n ∉ uT := (P5 n).resolve_right (Hy n)
theorem r_u (n : Int) : rT n ∉ uT := by
 intro h
 simp only [uT, List.mem_cons, List.not_mem_nil, or_false] at h
 rcases h with h | h | h <;> exact MJ (by omega) h
end Ev
end Go.HL
namespace Go.HL
open Go
namespace Ev
open Em
set_option maxRecDepth 10000
theorem dc {n : Int} {c : Nat} {s : List Nat} (hc : c ≠ 45 ∧ ¬ (48 ≤ c ∧ c < 58)) : (aQ n = c :: s) = False := eq_false (Ag hc)
theorem j9 {n : Int} {c : Nat} {s : List Nat} (hc : c ≠ 114) : (rT n = c :: s) = False := eq_false (MJ hc)
theorem Q7 : ∀ k, k < 3 → dQ uT (uT.getD k []) = k ∧ dQ qF (uT.getD k []) = -1 ∧ uT.getD k [] ≠ vm ∧ uT.getD k [] ≠ fu ∧ uT.getD k [] ≠ pP ∧ uT.getD k [] ≠ vo := by decide
theorem QM : ∀ k, k < 20 → dQ bT (bT.getD k []) = k ∧ O2 (bT.getD k []) 20 = k := by decide
theorem Oo : ∀ k, k < 4 → dQ qF (qF.getD k []) = k := by decide
theorem Qs (n : Int) : fT n ≠ [61] := by
 unfold fT
 repeat' split
 all_goals decide
theorem OZ {n : Int} (h : n = 0 ∨ n = 18 ∨ n = 19 ∨ n = 5 ∨ n = 6 ∨ n = 7) : wQ (fT n) = n ∧ JA (fT n) = n := by
 rcases h with rfl | rfl | rfl | rfl | rfl | rfl <;> decide
theorem ck : ¬ (0 : Int) ≤ -1 := by decide
theorem Hd {f : aD} {x : bI} (h : f.jO x = true) (hf : k9 x) : gE (aN x) = x ∧ lh (aN x) = x := by
 have hfo := Fv h
 obtain ⟨kind, op, d, a, b, cV, to, jo⟩ := x
 have f1 := hf.d
 have f2 := hf.a
 have f3 := hf.b
 have f4 := hf.cV
 have f5 := hf.to
 have f6 := hf.join
 simp only at f1 f2 f3 f4 f5 f6 hfo
 have pd := Dh (n := d) (by omega) (by omega)
 have pa := Dh (n := a) (by omega) (by omega)
 have pb := Dh (n := b) (by omega) (by omega)
 have rd := Dg (n := d) (by omega) (by omega)
 have ra := Dg (n := a) (by omega) (by omega)
 have rb := Dg (n := b) (by omega) (by omega)
 have pi := lJ (n := cV) (by omega) (by omega)
 have pt := lJ (n := to) (by omega) (by omega)
 have pj := lJ (n := jo) (by omega) (by omega)
 have ri := lI (n := cV) (by omega) (by omega)
 have rt := lI (n := to) (by omega) (by omega)
 have rj := lI (n := jo) (by omega) (by omega)
 have i3 := Nt f4.1 f4.2
 have s1 := p8 (NG cV)
 have s2 := p8 (Q9 a)
 have s3 := p8 (NF cV)
 have s4 := p8 (r_u a)
 have h1 := Jq d
 have h2 := Jq a
 have h3 := Jr cV
 clear hf f1 f2 f3 f5 f6
 unfold aD.jO at h
 simp only [Bool.and_eq_true, decide_eq_true_eq] at h
 obtain ⟨⟨⟨⟨⟨⟨⟨hk, ho⟩, hd⟩, ha⟩, hb⟩, hi⟩, ht⟩, hj⟩ := h
 have hk16 : kind = 0 ∨ kind = 1 ∨ kind = 2 ∨ kind = 3 ∨ kind = 4 ∨ kind = 5 ∨ kind = 6 ∨ kind = 7 ∨ kind = 8 ∨ kind = 9 ∨ kind = 10 ∨ kind = 11 ∨ kind = 12 ∨ kind = 13 ∨ kind = 14 ∨ kind = 15 := by omega
 clear hk
 rcases hk16 with rfl | rfl | rfl | rfl | rfl | rfl | rfl | rfl | rfl | rfl | rfl | rfl | rfl | rfl | rfl | rfl
 all_goals simp [U, eN, cX, aD.BL] at ho hd ha hb hi ht hj
 -- 0
 ·subst ho ha hb ht hj
  simp [aN, gE, ke, lh, gW, pd, rd, pi, ri, i3, s1, s3, h1, h3, ck, dc, j9]
 ·subst ho hb hi ht hj
  simp [aN, gE, ke, lh, gW, pd, rd, pa, ra, i3, s2, s4, h1, h2, ck, dc, j9]
 ·subst hb hi ht hj
  obtain ⟨k, rfl⟩ := Int.eq_ofNat_of_zero_le ho.1
  obtain ⟨u1, u2, u3, u4, u5, u6⟩ := Q7 k (by omega)
  simp only [List.getD_eq_getElem?_getD] at u1 u2 u3 u4 u5 u6
  simp [aN, gE, ke, lh, gW, pd, rd, pa, ra, pb, rb, pi, ri, pt, rt, pj, rj, i3, s1, s2, s3, s4, h1, h2, h3, ck, dc, j9, u1, u2, u3, u4, u5, u6]
 ·subst hi ht hj
  obtain ⟨k, rfl⟩ := Int.eq_ofNat_of_zero_le ho.1
  obtain ⟨u1, u2⟩ := QM k (by omega)
  simp only [List.getD_eq_getElem?_getD] at u1 u2
  simp [aN, gE, ke, lh, gW, pd, rd, pa, ra, pb, rb, pi, ri, pt, rt, pj, rj, i3, s1, s2, s3, s4, h1, h2, h3, ck, dc, j9, u1, u2]
 ·subst ha hb hi ht hj
  obtain ⟨k, rfl⟩ := Int.eq_ofNat_of_zero_le ho.1
  have u1 := Oo k (by omega)
  simp only [List.getD_eq_getElem?_getD] at u1
  simp [aN, gE, ke, lh, gW, pd, rd, pa, ra, pb, rb, pi, ri, pt, rt, pj, rj, i3, s1, s2, s3, s4, h1, h2, h3, ck, dc, j9, u1]
 ·subst ho ha hb ht hj
  simp [aN, gE, ke, lh, gW, pd, rd, pa, ra, pb, rb, pi, ri, pt, rt, pj, rj, i3, s1, s2, s3, s4, h1, h2, h3, ck, dc, j9, show dQ qF vm = -1 by decide]
 ·subst ho hb ht hj
  simp [aN, gE, ke, lh, gW, pd, rd, pa, ra, pb, rb, pi, ri, pt, rt, pj, rj, i3, s1, s2, s3, s4, h1, h2, h3, ck, dc, j9, show dQ qF pP = -1 by decide]
 ·subst ho hd ht hj
  simp [aN, gE, ke, lh, gW, pd, rd, pa, ra, pb, rb, pi, ri, pt, rt, pj, rj, i3, s1, s2, s3, s4, h1, h2, h3, ck, dc, j9]
 ·subst hd ht hj
  have u := OZ (hfo (.inl rfl))
  have v := Qs op
  simp [aN, gE, ke, lh, gW, pd, rd, pa, ra, pb, rb, pi, ri, pt, rt, pj, rj, i3, s1, s2, s3, s4, h1, h2, h3, ck, dc, j9, u, v]
 ·subst ho hd ha hb ht hj
  simp [aN, gE, ke, lh, gW, pd, rd, pa, ra, pb, rb, pi, ri, pt, rt, pj, rj, i3, s1, s2, s3, s4, h1, h2, h3, ck, dc, j9]
 ·subst hb ht hj
  have u := OZ (hfo (.inr rfl))
  simp [aN, gE, ke, lh, gW, pd, rd, pa, ra, pb, rb, pi, ri, pt, rt, pj, rj, i3, s1, s2, s3, s4, h1, h2, h3, ck, dc, j9, u, show dQ qF vo = -1 by decide]
 ·subst ho ha hb ht hj
  simp [aN, gE, ke, lh, gW, pd, rd, pa, ra, pb, rb, pi, ri, pt, rt, pj, rj, i3, s1, s2, s3, s4, h1, h2, h3, ck, dc, j9, show dQ qF fu = -1 by decide]
 ·subst ho hd hb ht hj
  simp [aN, gE, ke, lh, gW, pd, rd, pa, ra, pb, rb, pi, ri, pt, rt, pj, rj, i3, s1, s2, s3, s4, h1, h2, h3, ck, dc, j9]
 ·subst ho hd ha hb hi hj
  simp [aN, gE, ke, lh, gW, pd, rd, pa, ra, pb, rb, pi, ri, pt, rt, pj, rj, i3, s1, s2, s3, s4, h1, h2, h3, ck, dc, j9]
 ·subst ho hd hb hi
  simp [aN, gE, ke, lh, gW, pd, rd, pa, ra, pb, rb, pi, ri, pt, rt, pj, rj, i3, s1, s2, s3, s4, h1, h2, h3, ck, dc, j9]
 ·subst ho hd ha hb hi ht hj
  simp [aN, gE, ke, lh, gW, pd, rd, pa, ra, pb, rb, pi, ri, pt, rt, pj, rj, i3, s1, s2, s3, s4, h1, h2, h3, ck, dc, j9]
end Ev
end Go.HL
namespace Go.HL
open Go
namespace Ev
open Em
set_option maxRecDepth 10000
abbrev eO : List Nat := [98, 117, 102, 102, 101, 114]
abbrev uA : List Nat := [105, 110, 116]
abbrev mi : List Nat := [115, 104, 97, 114, 101, 100]
abbrev qK : List Nat := [99, 111, 100, 101]
noncomputable def dU (i : Nat) (t : List Nat) (c : br) : br :=
 if t = [] then c
 else if i = 0 ∧ (cutAt 32 t).length = 4 then { c with name := gW (cutAt 32 t) 1, «local» := eH (gW (cutAt 32 t) 3) }
 else if (cutAt 32 t).length = 2 ∧ gW (cutAt 32 t) 0 = eO then { c with params := c.params ++ [(gW (cutAt 32 t) 1, true)] }
 else if (cutAt 32 t).length = 2 ∧ gW (cutAt 32 t) 0 = uA then { c with params := c.params ++ [(gW (cutAt 32 t) 1, false)] }
 else if (cutAt 32 t).length = 3 ∧ gW (cutAt 32 t) 0 = mi then { c with shared := c.shared ++ [(gW (cutAt 32 t) 1, eH (gW (cutAt 32 t) 2))] }
 else { c with aq := c.aq ++ [gE ((cutAt 32 t).drop 1)] }
noncomputable def iY : Nat → List (List Nat) → br → Option br
 | _, [], c => some c
 | i, t :: r, c => if 2000 < c.aq.length then none else iY (i + 1) r (dU i t c)
noncomputable def kD (i : Nat) (t : List Nat) (c : br) : br :=
 if i = 0 then { c with name := gW (cutAt 32 t) 1, «local» := nh (gW (cutAt 32 t) 3) }
 else if gW (cutAt 32 t) 0 = eO ∨ gW (cutAt 32 t) 0 = uA then { c with params := c.params ++ [(gW (cutAt 32 t) 1, decide (gW (cutAt 32 t) 0 = eO))] }
 else if gW (cutAt 32 t) 0 = mi then { c with shared := c.shared ++ [(gW (cutAt 32 t) 1, nh (gW (cutAt 32 t) 2))] }
 else if t ≠ [] then { c with aq := c.aq ++ [lh ((cutAt 32 t).drop 1)] }
 else c
noncomputable def nt : Nat → List (List Nat) → br → br
 | _, [], c => c
 | i, t :: r, c => nt (i + 1) r (kD i t c)
def CM : br := ⟨[], [], [], 0, []⟩
def MT (c : aR) : br := ⟨c.name, c.params, c.shared.map fun a => (a.1, (a.2 : Int)), c.local, c.aq⟩
theorem KV (c : aR) : (MT c).gM = c.gM := by
 unfold MT br.gM aR.gM
 simp only [List.map_map]
 rfl
theorem zX (c : aR) : (MT c).CY = c := by
 unfold MT br.CY
 simp only [List.map_map]
 have : (c.shared.map ((fun a : List Nat × Int => (a.1, a.2.toNat)) ∘ fun a : List Nat × Nat => (a.1, (a.2 : Int)))) = c.shared := by
  conv => rhs; rw [← List.map_id c.shared]
  exact List.map_congr_left fun a _ => rfl
 rw [this]
 rfl
/-! ## The lines of a text -/
def Clean (w : List Nat) : Prop := ∀ x ∈ w, x ≠ 32 ∧ x ≠ 10
theorem Clean.dec (n : Int) : Clean (aQ n) := by
 have key : ∀ m : Nat, Clean (eC m) := fun m x hx => by
  have := List.all_eq_true.1 (ot m) x hx
  unfold Lx at this
  have := of_decide_eq_true this
  omega
 unfold aQ
 split
 ·intro x hx
  rcases List.mem_cons.1 hx with rfl | hx
  ·omega
  ·exact key _ x hx
 ·exact key _
theorem dj {l : List Nat} (h : l.all (fun x => decide (x ≠ 32 ∧ x ≠ 10)) = true) : Clean l := fun x hx => of_decide_eq_true (List.all_eq_true.1 h x hx)
theorem Clean.r (n : Int) : Clean (rT n) := fun x hx => (List.mem_cons.1 hx).elim (fun e => by omega) (Clean.dec n x)
theorem Clean.nil : Clean [] := fun x hx => by cases hx
theorem Clean.getD {l : List (List Nat)} {k : Nat} (h : ∀ x ∈ l, Clean x) : Clean (l.getD k []) := by
 by_cases hk : k < l.length
 ·exact h _ (bh _ hk)
 ·rw [List.getD, List.getElem?_eq_none (by omega)]; exact .nil
theorem tu {l : List (List Nat)} (h : l.all (fun w => w.all fun x => decide (x ≠ 32 ∧ x ≠ 10)) = true) : ∀ x ∈ l, Clean x := fun x hx => dj (List.all_eq_true.1 h x hx)
theorem Clean.f (n : Int) : Clean (fT n) := by
 unfold fT
 repeat' split
 all_goals exact dj rfl
def qE (l : List (List Nat)) : Prop := ∀ p ∈ l, Clean p
theorem qE.ite {p : Prop} [Decidable p] {a b : List (List Nat)} (ha : qE a) (hb : qE b) : qE (if p then a else b) := by split <;> assumption
theorem qE.nil : qE [] := fun p hp => by cases hp
theorem qE.cons {p : List Nat} {l : List (List Nat)} (hp : Clean p) (hl : qE l) : qE (p :: l) := fun q hq => (List.mem_cons.1 hq).elim (fun e => e ▸ hp) (hl q)
theorem tT (x : bI) : qE (aN x) := by
 have h1 := Clean.r x.d
 have h2 := Clean.r x.a
 have h3 := Clean.r x.b
 have h4 := Clean.dec x.cV
 have h5 := Clean.dec x.to
 have h6 := Clean.dec x.join
 have h7 := Clean.f x.op
 have h8 : Clean (uT.getD x.op.toNat []) := .getD (tu rfl)
 have h9 : Clean (bT.getD x.op.toNat []) := .getD (tu rfl)
 have h10 : Clean (qF.getD x.op.toNat []) := .getD (tu rfl)
 unfold aN
 repeat' (first | refine qE.ite ?_ ?_ | exact .nil | refine .cons (by first | assumption | exact dj rfl) ?_)
theorem qe {b : List Nat} (hb : dM b) (h : mX (b.length, aO b 0) = true) : Clean b := by
 intro x hx
 obtain ⟨i, hi, e⟩ := List.getElem_of_mem hx
 unfold mX uN at h
 simp only [Bool.and_eq_true] at h
 have hr := h.1.1.2
 unfold tR at hr
 rw [List.drop_zero] at hr
 have := List.all_eq_true.1 hr i (List.mem_range.2 hi)
 unfold uq at this
 simp only at this
 rw [tQ hb hi] at this
 have e2 : b.getD i 0 = x := by rw [List.getD, List.getElem?_eq_getElem hi, e]; rfl
 rw [e2] at this
 unfold o6 kE qt at this
 simp at this
 omega
theorem jz : ∀ {l : List (List Nat)}, l ≠ [] → qE l → cutAt 32 (aJ l) = l
 | [], h, _ => absurd rfl h
 | [a], _, hc => by
  have : aJ [a] = a := by simp [aJ]
  rw [this]
  exact xc fun h => (hc a (by simp) 32 h).1 rfl
 | a :: b :: r, _, hc => by
  rw [qk a (by simp), List.append_assoc]
  show cutAt 32 (a ++ 32 :: aJ (b :: r)) = _
  rw [tp fun h => (hc a (by simp) 32 h).1 rfl, jz (l := b :: r) (by simp) fun p hp => hc p (by simp [hp])]
theorem CP {l : List (List Nat)} (hc : qE l) : 10 ∉ aJ l := by
 cases l with
 | nil => simp [aJ]
 | cons a r =>
  intro h
  rcases List.mem_append.1 h with h | h
  ·exact (hc a (by simp) 10 h).2 rfl
  ·obtain ⟨y, hy, hby⟩ := List.mem_flatten.1 h
   obtain ⟨z, hz, rfl⟩ := List.mem_map.1 hy
   rcases List.mem_cons.1 hby with e | hby
   ·cases e
   ·exact (hc z (by simp [hz]) 10 hby).2 rfl
theorem z8 {r : List Nat} : ∀ {ls : List (List (List Nat))}, (∀ l ∈ ls, qE l) → cutAt 10 ((ls.flatMap fun l => aJ l ++ [10]) ++ r) = ls.map aJ ++ cutAt 10 r
 | [], _ => rfl
 | l :: ls, h => by
  have e : cutAt 10 (aJ l ++ 10 :: ((ls.flatMap fun l => aJ l ++ [10]) ++ r)) = aJ l :: cutAt 10 ((ls.flatMap fun l => aJ l ++ [10]) ++ r) := tp (CP (h l (by simp)))
  rw [List.flatMap_cons, List.append_assoc, List.append_assoc]
  refine e.trans ?_
  rw [z8 fun q hq => h q (by simp [hq])]; rfl
/-! ## The lines of the text of code, as words -/
abbrev II (p : List Nat × Bool) : List (List Nat) := if p.2 then [eO, p.1] else [uA, p.1]
abbrev Db (a : List Nat × Nat) : List (List Nat) := [mi, a.1, aQ a.2]
abbrev xL (q : Nat × bI) : List (List Nat) := aQ q.1 :: aN q.2
def wy (c : aR) : List (List (List Nat)) := [qK, c.name, fu, aQ c.local] :: (c.params.map II ++ c.shared.map Db ++ (List.range c.aq.length).map fun j => xL (j, c.aq.getD j aP))
theorem AQ (c : aR) : bM c = (wy c).flatMap fun l => aJ l ++ [10] := by
 unfold bM wy
 rw [List.flatMap_cons, List.flatMap_append, List.flatMap_append, List.flatMap_map, List.flatMap_map, List.flatMap_map]
 have e1 : aJ [qK, c.name, fu, aQ c.local] ++ [10] = jc c := by simp [aJ, jc]
 have e2 : c.params.flatMap mz = c.params.flatMap fun p => aJ (II p) ++ [10] := by
  congr 1
  funext p
  unfold mz
  obtain ⟨b, u⟩ := p
  cases u <;> simp [aJ, II]
 have e3 : c.shared.flatMap uH = c.shared.flatMap fun a => aJ (Db a) ++ [10] := by
  congr 1
  funext a
  simp [aJ, Db, uH]
 have e4 : mH c.aq c.aq.length = (List.range c.aq.length).flatMap fun j => aJ (xL (j, c.aq.getD j aP)) ++ [10] := by
  unfold mH
  congr 1
  funext j
  unfold wG xL
  rw [qk _ (sN _).1, ← nU]
 rw [e1, e2, e3, e4, List.append_assoc, List.append_assoc, List.append_assoc]
structure FW (c : aR) : Prop where
 v : V c = true
 name : Clean c.name
 params : ∀ p ∈ c.params, Clean p.1
 shared : ∀ p ∈ c.shared, Clean p.1
 each : ∀ x ∈ c.aq, gE (aN x) = x ∧ lh (aN x) = x
theorem xh {c : aR} (h : V c = true) : FW c := by
 have hf := fy h
 have h0 := h
 unfold V at h
 simp only [Bool.and_eq_true, List.all_eq_true, decide_eq_true_eq, fc] at h
 obtain ⟨⟨⟨⟨hb, hp⟩, hs⟩, hi⟩, hv⟩ := h
 unfold aD.dm aD.oc aD.lj aD.iB at hv
 simp only [Bool.and_eq_true, decide_eq_true_eq, List.all_eq_true] at hv
 obtain ⟨⟨⟨⟨⟨⟨⟨⟨⟨h1, h2⟩, h3⟩, h4⟩, h5⟩, _⟩, h6⟩, h7⟩, _⟩, h8⟩ := hv
 refine ⟨h0, qe hb h1, fun p hpm => ?_, fun p hpm => ?_, fun x hx => Hd (h8 x hx) (hf.each x hx)⟩
 ·have := h4 _ (List.mem_map.2 ⟨p, hpm, rfl⟩)
  exact qe (hp p hpm) this
 ·have := h5 _ (List.mem_map.2 ⟨p, hpm, rfl⟩)
  unfold kQ at this
  simp only [Bool.and_eq_true, decide_eq_true_eq] at this
  exact qe (hs p hpm) this.1.1
theorem Bz {c : aR} (h : FW c) : ∀ l ∈ wy c, qE l := by
 intro l hl
 rcases List.mem_cons.1 hl with rfl | hl
 ·exact .cons (dj rfl) (.cons h.name (.cons (dj rfl) (.cons (.dec _) .nil)))
 ·rcases List.mem_append.1 hl with hl | hl
  ·rcases List.mem_append.1 hl with hl | hl
   ·obtain ⟨p, hp, rfl⟩ := List.mem_map.1 hl
    exact .ite (.cons (dj rfl) (.cons (h.params p hp) .nil)) (.cons (dj rfl) (.cons (h.params p hp) .nil))
   ·obtain ⟨p, hp, rfl⟩ := List.mem_map.1 hl
    exact .cons (dj rfl) (.cons (h.shared p hp) (.cons (.dec _) .nil))
  ·obtain ⟨j, hj, rfl⟩ := List.mem_map.1 hl
   exact .cons (.dec _) (tT _)
theorem I9 {c : aR} (h : FW c) : cutAt 10 (bM c) = (wy c).map aJ ++ [[]] := by
 have := z8 (r := []) (Bz h)
 rw [List.append_nil] at this
 rw [AQ]; exact this
end Ev
end Go.HL
namespace Go.HL
open Go
namespace Ev
open Em
set_option maxRecDepth 10000
theorem nZ {a : List Nat} {r : List (List Nat)} (h : a ≠ []) : aJ (a :: r) ≠ [] := by
 intro e
 exact h (List.append_eq_nil_iff.1 e).1
/-! ## One line -/
theorem Gn {i : Nat} (hi : 0 < i) {p : List Nat × Bool} (hp : Clean p.1) (c : br) : dU i (aJ (II p)) c = { c with params := c.params ++ [p] } ∧ kD i (aJ (II p)) c = { c with params := c.params ++ [p] } := by
 obtain ⟨b, u⟩ := p
 cases u with
 | true =>
  have hc : cutAt 32 (aJ [eO, b]) = [eO, b] := jz (by simp) (.cons (dj rfl) (.cons hp .nil))
  have hn : aJ [eO, b] ≠ [] := nZ (by simp)
  show dU i (aJ [eO, b]) c = _ ∧ kD i (aJ [eO, b]) c = _
  unfold dU kD
  rw [hc]
  simp [hn, gW, show ¬ i = 0 by omega]
 | false =>
  have hc : cutAt 32 (aJ [uA, b]) = [uA, b] := jz (by simp) (.cons (dj rfl) (.cons hp .nil))
  have hn : aJ [uA, b] ≠ [] := nZ (by simp)
  show dU i (aJ [uA, b]) c = _ ∧ kD i (aJ [uA, b]) c = _
  unfold dU kD
  rw [hc]
  simp [hn, gW, show ¬ i = 0 by omega]
theorem IE {i : Nat} (hi : 0 < i) {a : List Nat × Nat} (hp : Clean a.1) (ha : a.2 ≤ 64) (c : br) : dU i (aJ (Db a)) c = { c with shared := c.shared ++ [(a.1, (a.2 : Int))] } ∧ kD i (aJ (Db a)) c = { c with shared := c.shared ++ [(a.1, (a.2 : Int))] } := by
 have hc : cutAt 32 (aJ (Db a)) = Db a := jz (by simp) (.cons (dj rfl) (.cons hp (.cons (.dec _) .nil)))
 have hn : aJ (Db a) ≠ [] := nZ (by simp)
 have h1 := lJ (n := (a.2 : Int)) (by omega) (by omega)
 have h2 := lI (n := (a.2 : Int)) (by omega) (by omega)
 unfold dU kD
 rw [hc]
 simp [hn, gW, show ¬ i = 0 by omega, h1, h2]
theorem Gp {i : Nat} (hi : 0 < i) {j : Nat} {x : bI} (hx : gE (aN x) = x ∧ lh (aN x) = x) (c : br) : dU i (aJ (xL (j, x))) c = { c with aq := c.aq ++ [x] } ∧ kD i (aJ (xL (j, x))) c = { c with aq := c.aq ++ [x] } := by
 have hp := sN x
 have hc : cutAt 32 (aJ (xL (j, x))) = xL (j, x) := jz (by simp) (.cons (.dec _) (tT x))
 obtain ⟨d, r, hd, _⟩ := pg (j : Int)
 have hn : aJ (xL (j, x)) ≠ [] := nZ (by rw [hd]; simp)
 have e1 : (aQ (j : Int) = eO) = False := dc (by omega)
 have e2 : (aQ (j : Int) = uA) = False := dc (by omega)
 have e3 : (aQ (j : Int) = mi) = False := dc (by omega)
 have g0 : gW (xL (j, x)) 0 = aQ (j : Int) := rfl
 have gd : (xL (j, x)).drop 1 = aN x := rfl
 unfold dU kD
 rw [hc, g0, gd, hx.1, hx.2]
 simp [hn, show ¬ i = 0 by omega, e1, e2, e3]
theorem Dm {c : aR} (h : Clean c.name) (hl : c.local ≤ 64) : dU 0 (aJ [qK, c.name, fu, aQ c.local]) CM = ⟨c.name, [], [], c.local, []⟩ ∧ kD 0 (aJ [qK, c.name, fu, aQ c.local]) CM = ⟨c.name, [], [], c.local, []⟩ := by
 have hc : cutAt 32 (aJ [qK, c.name, fu, aQ c.local]) = [qK, c.name, fu, aQ c.local] := jz (by simp) (.cons (dj rfl) (.cons h (.cons (dj rfl) (.cons (.dec _) .nil))))
 have hn : aJ [qK, c.name, fu, aQ c.local] ≠ [] := nZ (by simp)
 have h1 := lJ (n := (c.local : Int)) (by omega) (by omega)
 have h2 := lI (n := (c.local : Int)) (by omega) (by omega)
 unfold dU kD
 rw [hc]
 simp [hn, gW, h1, h2, CM]
/-! ## All lines -/
theorem CC {r : List (List Nat)} : ∀ {ps : List (List Nat × Bool)} {i : Nat} {c : br}, 0 < i → (∀ p ∈ ps, Clean p.1) → c.aq.length ≤ 2000 →
  iY i ((ps.map II).map aJ ++ r) c = iY (i + ps.length) r { c with params := c.params ++ ps } ∧ nt i ((ps.map II).map aJ ++ r) c = nt (i + ps.length) r { c with params := c.params ++ ps }
 | [], i, c, _, _, _ => by simp
 | p :: ps, i, c, hi, hp, hn => by
  obtain ⟨h1, h2⟩ := Gn hi (hp p (by simp)) c
  obtain ⟨g1, g2⟩ := CC (r := r) (ps := ps) (i := i + 1) (c := { c with params := c.params ++ [p] }) (by omega) (fun q hq => hp q (by simp [hq])) hn
  show iY i (aJ (II p) :: ((ps.map II).map aJ ++ r)) c = _ ∧ nt i (aJ (II p) :: ((ps.map II).map aJ ++ r)) c = _
  rw [iY, nt, if_neg (by omega), h1, h2, g1, g2, List.append_assoc, List.length_cons, Nat.add_assoc, Nat.add_comm 1]
  exact ⟨rfl, rfl⟩
theorem FH {r : List (List Nat)} : ∀ {ps : List (List Nat × Nat)} {i : Nat} {c : br}, 0 < i → (∀ p ∈ ps, Clean p.1 ∧ p.2 ≤ 64) → c.aq.length ≤ 2000 →
  iY i ((ps.map Db).map aJ ++ r) c = iY (i + ps.length) r { c with shared := c.shared ++ ps.map fun a => (a.1, (a.2 : Int)) } ∧ nt i ((ps.map Db).map aJ ++ r) c = nt (i + ps.length) r { c with shared := c.shared ++ ps.map fun a => (a.1, (a.2 : Int)) }
 | [], i, c, _, _, _ => by simp
 | p :: ps, i, c, hi, hp, hn => by
  obtain ⟨h1, h2⟩ := IE hi (hp p (by simp)).1 (hp p (by simp)).2 c
  obtain ⟨g1, g2⟩ := FH (r := r) (ps := ps) (i := i + 1) (c := { c with shared := c.shared ++ [(p.1, (p.2 : Int))] }) (by omega) (fun q hq => hp q (by simp [hq])) hn
  show iY i (aJ (Db p) :: ((ps.map Db).map aJ ++ r)) c = _ ∧ nt i (aJ (Db p) :: ((ps.map Db).map aJ ++ r)) c = _
  rw [iY, nt, if_neg (by omega), h1, h2, g1, g2, List.append_assoc, List.length_cons, Nat.add_assoc, Nat.add_comm 1]
  exact ⟨rfl, rfl⟩
theorem FJ {r : List (List Nat)} {g : Nat → bI} : ∀ {js : List Nat} {i : Nat} {c : br}, 0 < i → (∀ j ∈ js, gE (aN (g j)) = g j ∧ lh (aN (g j)) = g j) → c.aq.length + js.length ≤ 2000 →
  iY i ((js.map fun j => xL (j, g j)).map aJ ++ r) c = iY (i + js.length) r { c with aq := c.aq ++ js.map g } ∧ nt i ((js.map fun j => xL (j, g j)).map aJ ++ r) c = nt (i + js.length) r { c with aq := c.aq ++ js.map g }
 | [], i, c, _, _, _ => by simp
 | p :: ps, i, c, hi, hp, hn => by
  rw [List.length_cons] at hn
  obtain ⟨h1, h2⟩ := Gp (j := p) hi (hp p (by simp)) c
  obtain ⟨g1, g2⟩ := FJ (r := r) (g := g) (js := ps) (i := i + 1) (c := { c with aq := c.aq ++ [g p] }) (by omega) (fun q hq => hp q (by simp [hq])) (by simp only [List.length_append, List.length_singleton]; omega)
  show iY i (aJ (xL (p, g p)) :: ((ps.map fun j => xL (j, g j)).map aJ ++ r)) c = _ ∧ nt i (aJ (xL (p, g p)) :: ((ps.map fun j => xL (j, g j)).map aJ ++ r)) c = _
  rw [iY, nt, if_neg (by omega), h1, h2, g1, g2, List.append_assoc, List.length_cons, Nat.add_assoc, Nat.add_comm 1]
  exact ⟨rfl, rfl⟩
theorem Di {α : Type} (l : List α) (d : α) : (List.range l.length).map (fun j => l.getD j d) = l := by
 refine List.ext_getElem (by simp) fun i h1 h2 => ?_
 simp [List.getD, List.getElem?_eq_getElem h2]
theorem xC {c : aR} (h : FW c) : iY 0 (cutAt 10 (bM c)) CM = some (MT c) ∧ nt 0 (cutAt 10 (bM c)) CM = MT c := by
 have hf := fy h.v
 obtain ⟨h1, h2⟩ := Dm h.name hf.local
 rw [I9 h]
 unfold wy
 rw [List.map_cons, List.map_append, List.map_append]
 show iY 0 (aJ [qK, c.name, fu, aQ c.local] :: (_ ++ [[]])) CM = _ ∧ nt 0 (aJ [qK, c.name, fu, aQ c.local] :: (_ ++ [[]])) CM = _
 rw [iY, nt, if_neg (by simp [CM]), h1, h2, List.append_assoc, List.append_assoc]
 obtain ⟨g1, g2⟩ := CC (r := (c.shared.map Db).map aJ ++ (((List.range c.aq.length).map fun j => xL (j, c.aq.getD j aP)).map aJ ++ [[]])) (ps := c.params) (i := 0 + 1) (c := ⟨c.name, [], [], c.local, []⟩) (by omega) h.params (by simp)
 rw [g1, g2]
 obtain ⟨g3, g4⟩ := FH (r := (((List.range c.aq.length).map fun j => xL (j, c.aq.getD j aP)).map aJ ++ [[]])) (ps := c.shared) (i := 0 + 1 + c.params.length) (c := ⟨c.name, [] ++ c.params, [], c.local, []⟩) (by omega) (fun p hp => ⟨h.shared p hp, (hf.dF p hp).2⟩) (by simp)
 rw [g3, g4]
 obtain ⟨g5, g6⟩ := FJ (r := [[]]) (g := fun j => c.aq.getD j aP) (js := List.range c.aq.length) (i := 0 + 1 + c.params.length + c.shared.length) (c := ⟨c.name, [] ++ c.params, [] ++ c.shared.map fun a => (a.1, (a.2 : Int)), c.local, []⟩) (by omega) (fun j hj => h.each _ (bh _ (List.mem_range.1 hj))) (by have := hf.aq; simpa using this)
 rw [g5, g6, Di]
 have hlen := hf.aq
 have hz : ∀ {i : Nat} {c : br}, 0 < i → kD i [] c = c := fun {i c} hi => by
  unfold kD
  rw [if_neg (by omega)]
  simp [cutAt, gW]
 have hz2 : ∀ {i : Nat} {c : br}, dU i [] c = c := fun {i c} => by unfold dU; rw [if_pos rfl]
 rw [iY, nt, if_neg (by simp only [List.nil_append]; omega), hz (by omega), hz2, iY, nt]
 exact ⟨rfl, rfl⟩
/-! ## What was read is fair -/
theorem Eg {t : List Nat} (h : py t) (c i : Nat) : py (gW (cutAt c t) i) := by
 by_cases hi : i < (cutAt c t).length
 ·have := lY c t _ (bh [] hi)
  exact ⟨fun x hx => h.1 x (this.2 x hx), Nat.le_trans this.1 h.2⟩
 ·unfold gW
  rw [List.getD, List.getElem?_eq_none (by omega)]
  exact ⟨.nil, by simp⟩
end Ev
end Go.HL
