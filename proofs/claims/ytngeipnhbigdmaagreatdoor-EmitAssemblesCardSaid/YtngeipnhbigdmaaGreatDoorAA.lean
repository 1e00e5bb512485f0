/- The kit's contracts of strings.Split and strconv.ParseInt as known calls; a text, read line by line. No statement of the seat stands here. -/
import Derived.Test.YtngeipnhbigdmaaGreatDoorVB
import Derived.Shelf.Strings.Split
import Derived.Lib.ParseIntB
import Derived.Shelf.LaysM
import Derived.Shelf.LaysC
import Derived.Shelf.Strconv.ParseIntPublic10
import Derived.Test.YtngeipnhbigdmaaGreatDoorProg
import Derived.Test.YtngeipnhbigdmaaGreatDoorVD
set_option linter.unusedVariables false
set_option linter.unusedSimpArgs false
namespace Go.HL
open Go
namespace Ev
open Em
/-! ## A list cut at a value -/
def cutAt {α : Type} [DecidableEq α] (c : α) : List α → List (List α)
 | [] => [[]]
 | x :: l => if x = c then [] :: cutAt c l else match cutAt c l with
  | [] => [[x]]
  | p :: r => (x :: p) :: r
section
variable {α : Type} [DecidableEq α]
theorem ny (c : α) (l : List α) : cutAt c l ≠ [] := by
 cases l with
 | nil => simp [cutAt]
 | cons x l =>
  unfold cutAt
  split
  ·simp
  ·split <;> simp
theorem vD {c : α} : ∀ {l : List α}, c ∉ l → cutAt c l = [l]
 | [], _ => rfl
 | x :: l, h => by
  unfold cutAt
  rw [if_neg (fun e => h (by simp [e])), vD (l := l) fun hc => h (by simp [hc])]
theorem rP {c : α} {b : List α} : ∀ {a : List α}, c ∉ a → cutAt c (a ++ c :: b) = a :: cutAt c b
 | [], _ => by simp [cutAt]
 | x :: a, h => by
  show cutAt c (x :: (a ++ c :: b)) = _
  rw [cutAt, if_neg (fun e => h (by simp [e])), rP (a := a) fun hc => h (by simp [hc])]
theorem lv (c : α) : ∀ l : List α, (cutAt c l).length ≤ l.length + 1
 | [] => by simp [cutAt]
 | x :: l => by
  have ih := lv c l
  unfold cutAt
  split
  ·simp; omega
  ·split
   ·simp
   ·rename_i p r e
    rw [e] at ih
    simp at ih ⊢; omega
theorem iZ (c : α) : ∀ (l : List α), ∀ p ∈ cutAt c l, p.length ≤ l.length ∧ ∀ x ∈ p, x ∈ l
 | [], p, hp => by
  have : p = [] := by simpa [cutAt] using hp
  subst this; simp
 | x :: l, p, hp => by
  have ih := iZ c l
  unfold cutAt at hp
  split at hp
  ·rcases List.mem_cons.1 hp with rfl | hp
   ·simp
   ·have := ih p hp
    exact ⟨by simp; omega, fun y hy => by simp [this.2 y hy]⟩
  ·split at hp
   ·have : p = [x] := by simpa using hp
    subst this; simp
   ·rename_i q r e
    rw [e] at ih
    rcases List.mem_cons.1 hp with rfl | hp
    ·have := ih q (by simp)
     refine ⟨by simp; omega, fun y hy => ?_⟩
     rcases List.mem_cons.1 hy with rfl | hy
     ·simp
     ·simp [this.2 y hy]
    ·have := ih p (by simp [hp])
     exact ⟨by simp; omega, fun y hy => by simp [this.2 y hy]⟩
theorem xE {β : Type} [DecidableEq β] (f : α → β) (c : α) : ∀ (l : List α), (∀ x ∈ l, f x = f c → x = c) → cutAt (f c) (l.map f) = (cutAt c l).map (List.map f)
 | [], _ => rfl
 | x :: l, h => by
  have ih := xE f c l fun y hy => h y (by simp [hy])
  rw [List.map_cons]
  unfold cutAt
  by_cases hx : x = c
  ·subst hx
   rw [if_pos rfl, if_pos rfl, ih]; rfl
  ·rw [if_neg hx, if_neg fun e => hx (h x (by simp) e), ih]
   cases cutAt c l <;> rfl
end
theorem u9 (u : UInt8) : ∀ s : List UInt8, Lib.splitK [u] 0 (Lib.count s [u]) s = cutAt u s
 | [] => by
  have : Lib.count [] [u] = 0 := by rw [Lib.count_one]; simp
  rw [this]; rfl
 | x :: l => by
  have ih := u9 u l
  unfold cutAt
  by_cases hx : x = u
  ·subst hx
   rw [if_pos rfl, Lib.count_cons_eq, Nat.add_comm]
   have hi : Lib.index (x :: l) [x] = 0 := by
    unfold Lib.index
    rw [if_pos (by simp [List.isPrefixOf])]
   unfold Lib.splitK
   rw [hi]
   show [] :: Lib.splitK [x] 0 _ l = _
   rw [ih]
  ·rw [if_neg hx, Lib.count_cons_ne x u l hx]
   have hi : Lib.index (x :: l) [u] = if Lib.index l [u] == -1 then -1 else Lib.index l [u] + 1 := by
    rw [Lib.index, if_neg (by simp [List.isPrefixOf, Ne.symm hx])]
   cases hk : Lib.count l [u] with
   | zero =>
    rw [hk] at ih
    have ih : [l] = cutAt u l := ih
    rw [← ih]; rfl
   | succ k =>
    rw [hk] at ih
    unfold Lib.splitK at ih ⊢
    rw [hi]
    by_cases hm : (Lib.index l [u] == -1) = true
    ·rw [if_pos hm] at ih ⊢
     rw [← ih]; rfl
    ·have hge := Lib.index_ge l [u]
     have hne : Lib.index l [u] ≠ -1 := fun e => hm (by rw [e]; rfl)
     rw [if_neg hm] at ih ⊢
     have hm2 : ¬ (Lib.index l [u] + 1 == -1) = true := fun e => by have := beq_iff_eq.1 e; omega
     rw [if_neg hm2, ← ih]
     have e : (Lib.index l [u] + 1).toNat = (Lib.index l [u]).toNat + 1 := by omega
     rw [e]
     show (x :: l).take ((Lib.index l [u]).toNat + 1) :: Lib.splitK [u] 0 k ((x :: l).drop ((Lib.index l [u]).toNat + 1 + 1)) = _
     rw [List.take_succ_cons, List.drop_succ_cons]
     rfl
theorem HX {x y : Nat} (hx : x < 256) (hy : y < 256) (h : UInt8.ofNat x = UInt8.ofNat y) : x = y := by
 have := congrArg UInt8.toNat h
 rw [UInt8.toNat_ofNat', UInt8.toNat_ofNat'] at this
 omega
theorem wV {c : Nat} (hc : c < 256) {b : List Nat} (hb : ∀ x ∈ b, x < 256) : Lib.splitB (gB [c]) 0 (Lib.countB (gB b) (gB [c])) (gB b) = (cutAt c b).map gB := by
 have h1 := Lib.splitB_data (gB [c]) 0 (Lib.countB (gB b) (gB [c])) (gB b)
 have h2 : Lib.splitK (gB [c]).data.toList 0 (Lib.countB (gB b) (gB [c])) (gB b).data.toList = cutAt (UInt8.ofNat c) (b.map UInt8.ofNat) := u9 (UInt8.ofNat c) (b.map UInt8.ofNat)
 rw [h2, xE UInt8.ofNat c b fun x hx e => HX (hb x hx) hc e] at h1
 have h3 : ∀ {l : List ByteArray} {m : List (List Nat)}, l.map (·.data.toList) = m.map (List.map UInt8.ofNat) → l = m.map gB := by
  intro l m
  induction l generalizing m with
  | nil => intro h; cases m with | nil => rfl | cons => simp at h
  | cons x l ih =>
   intro h
   cases m with
   | nil => simp at h
   | cons y m =>
    simp only [List.map_cons, List.cons.injEq] at h
    rw [List.map_cons, ih h.2]
    congr 1
    have e : x.data = (gB y).data := Array.toList_inj.1 h.1
    cases x
    cases h4 : gB y
    rw [h4] at e
    simp only at e
    rw [e]
 exact h3 h1
/-! ## Numbers -/
def eD (b : List Nat) : Int := match Lib.parseIntB 64 (b.map UInt8.ofNat) with
 | .ok v => v
 | .range => Lib.intSat 64 (b.map UInt8.ofNat)
 | _ => 0
theorem AJ (n : Nat) : 0 < (dH n).length := by
 by_cases h : n < 10
 ·rw [bK h]; simp
 ·rw [gi h, List.length_append, bK (n := n % 10) (by omega)]; simp
theorem xa (M : Nat) (hM : M < 18446744073709551616) (n : Nat) : ∀ (acc : Nat) (r : List UInt8), acc * 10 ^ (dH n).length + n ≤ M → Lib.parseUintM M acc ((dH n).map UInt8.ofNat ++ r) = Lib.parseUintM M (acc * 10 ^ (dH n).length + n) r := by
 have one : ∀ (d acc : Nat) (r : List UInt8), d < 10 → acc * 10 + d ≤ M → Lib.parseUintM M acc (UInt8.ofNat (48 + d) :: r) = Lib.parseUintM M (acc * 10 + d) r := by
  intro d acc r hd hm
  have e : (UInt8.ofNat (48 + d)).toNat = 48 + d := by rw [UInt8.toNat_ofNat']; omega
  rw [Lib.parseUintM, e, if_pos (by omega), if_neg (by omega)]
  rw [show 48 + d - 48 = d by omega, if_neg (by omega)]
 induction n using Nat.strongRecOn with
 | _ n ih =>
  intro acc r hm
  by_cases h : n < 10
  ·rw [bK h] at hm ⊢
   simp only [List.length_singleton, Nat.pow_one] at hm ⊢
   exact one n acc r h hm
  ·have h1 := bK (n := n % 10) (by omega)
   rw [gi h, h1] at hm ⊢
   rw [List.length_append, List.length_singleton, Nat.pow_succ, ← Nat.mul_assoc] at hm ⊢
   have hle : (acc * 10 ^ (dH (n / 10)).length + n / 10) * 10 + n % 10 ≤ M := by rw [Nat.add_mul]; omega
   rw [List.map_append, List.append_assoc, ih (n / 10) (by omega) acc _ (by omega)]
   show Lib.parseUintM M _ (UInt8.ofNat (48 + n % 10) :: r) = _
   rw [one _ _ _ (Nat.mod_lt _ (by decide)) hle]
   congr 1
   rw [Nat.add_mul]; omega
theorem gN (n : Nat) : ∃ d r, dH n = (48 + d) :: r ∧ d < 10 := by
 induction n using Nat.strongRecOn with
 | _ n ih =>
  by_cases h : n < 10
  ·exact ⟨n, [], bK h, h⟩
  ·obtain ⟨d, r, e, hd⟩ := ih (n / 10) (by omega)
   exact ⟨d, r ++ dH (n % 10), by rw [gi h, e]; rfl, hd⟩
theorem GN {n : Nat} (hn : n < 4294967296) : eD (dH n) = n := by
 obtain ⟨d, r, e, hd⟩ := gN n
 have hp := xa (2 ^ 64 - 1) (by decide) n 0 [] (by omega)
 rw [List.append_nil, Nat.zero_mul, Nat.zero_add] at hp
 have hp : Lib.parseUintM (2 ^ 64 - 1) 0 ((dH n).map UInt8.ofNat) = .ok n := hp
 have e48 : (UInt8.ofNat (48 + d)).toNat = 48 + d := by rw [UInt8.toNat_ofNat']; omega
 unfold eD Lib.parseIntB
 rw [e, List.map_cons] at hp ⊢
 simp only [e48]
 rw [if_neg (by omega)]
 unfold Lib.parseUintB
 rw [if_neg (by simp), hp]
 simp only
 rw [if_neg (by omega), if_neg (by omega), if_neg (by omega)]
theorem kU {n : Int} (h1 : -4294967296 < n) (h2 : n < 4294967296) : eD (aQ n) = n := by
 unfold aQ
 split
 ·have hp := xa (2 ^ 64 - 1) (by decide) (-n).toNat 0 [] (by omega)
  rw [List.append_nil, Nat.zero_mul, Nat.zero_add] at hp
  have hp : Lib.parseUintM (2 ^ 64 - 1) 0 ((dH (-n).toNat).map UInt8.ofNat) = .ok (-n).toNat := hp
  unfold eD Lib.parseIntB
  rw [List.map_cons]
  have e45 : (UInt8.ofNat 45).toNat = 45 := rfl
  simp only [e45]
  rw [if_pos (by simp)]
  unfold Lib.parseUintB
  have hne : (dH (-n).toNat).map UInt8.ofNat ≠ [] := by
   obtain ⟨d, r, e, _⟩ := gN (-n).toNat
   rw [e]; simp
  rw [if_neg hne, hp]
  simp only
  rw [if_neg (by omega), if_neg (by omega)]
  simp only [if_true]
  omega
 ·rw [GN (by omega)]; omega
end Ev
end Go.HL
namespace Go.Proofs
open Go.Shelf
def Tryz.laysC174_ren : Go.Shelf.Ren := ⟨fun | 174 => 90 | 247 => 158 | 245 => 159 | 287 => 249 | 279 => 250 | 280 => 251 | 281 => 252 | 282 => 253 | 321 => 338 | 322 => 339 | 316 => 340 | 171 => 70 | 205 => 341 | 243 => 138 | 246 => 239 | 283 => 327 | 284 => 328 | 285 => 329 | 286 => 330 | 129 => 369 | 317 => 368 | 318 => 370 | 319 => 371 | 320 => 372 | 337 => 402 | 338 => 403 | n => n, fun | 9 => 9 | 3 => 3 | 2 => 2 | 75 => 144 | 85 => 160 | 4 => 4 | 167 => 347 | 5 => 5 | 53 => 196 | 175 => 348 | 46 => 225 | 168 => 350 | 37 => 140 | 0 => 0 | 210 => 407 | 21 => 21 | 127 => 228 | 145 => 464 | 143 => 462 | 171 => 396 | 173 => 399 | 212 => 449 | 51 => 42 | 20 => 20 | 213 => 450 | 232 => 508 | 233 => 509 | 80 => 96 | n => n, fun | 15 => 2 | 16 => 3 | 17 => 4 | 18 => 8 | 19 => 9 | n => n⟩
theorem Tryz.laysC174 : Go.Proofs.LaysC.n174 Tryz.prog Tryz.laysC174_ren := {
 mixed := by kernel_rfl
 f129 := Tryz.func369.trans (congrArg some (by kernel_rfl))
 f171 := Tryz.func70.trans (congrArg some (by kernel_rfl))
 f174 := Tryz.func90.trans (congrArg some (by kernel_rfl))
 f205 := Tryz.func341.trans (congrArg some (by kernel_rfl))
 f243 := Tryz.func138.trans (congrArg some (by kernel_rfl))
 f245 := Tryz.func159.trans (congrArg some (by kernel_rfl))
 f246 := Tryz.func239.trans (congrArg some (by kernel_rfl))
 f247 := Tryz.func158.trans (congrArg some (by kernel_rfl))
 f279 := Tryz.func250.trans (congrArg some (by kernel_rfl))
 f280 := Tryz.func251.trans (congrArg some (by kernel_rfl))
 f281 := Tryz.func252.trans (congrArg some (by kernel_rfl))
 f282 := Tryz.func253.trans (congrArg some (by kernel_rfl))
 f283 := Tryz.func327.trans (congrArg some (by kernel_rfl))
 f284 := Tryz.func328.trans (congrArg some (by kernel_rfl))
 f285 := Tryz.func329.trans (congrArg some (by kernel_rfl))
 f286 := Tryz.func330.trans (congrArg some (by kernel_rfl))
 f287 := Tryz.func249.trans (congrArg some (by kernel_rfl))
 f316 := Tryz.func340.trans (congrArg some (by kernel_rfl))
 f317 := Tryz.func368.trans (congrArg some (by kernel_rfl))
 f318 := Tryz.func370.trans (congrArg some (by kernel_rfl))
 f319 := Tryz.func371.trans (congrArg some (by kernel_rfl))
 f320 := Tryz.func372.trans (congrArg some (by kernel_rfl))
 f321 := Tryz.func338.trans (congrArg some (by kernel_rfl))
 f322 := Tryz.func339.trans (congrArg some (by kernel_rfl))
 f337 := Tryz.func402.trans (congrArg some (by kernel_rfl))
 f338 := Tryz.func403.trans (congrArg some (by kernel_rfl))
 t0 := Tryz.underlying0
 a0 := Tryz.isAgg0
 z0 := Tryz.sizeOf0
 v0 := Tryz.zeroValue0
 t2 := Tryz.underlying2
 a2 := Tryz.isAgg2
 z2 := Tryz.sizeOf2
 v2 := Tryz.zeroValue2
 t3 := Tryz.underlying3
 a3 := Tryz.isAgg3
 z3 := Tryz.sizeOf3
 v3 := Tryz.zeroValue3
 t4 := Tryz.underlying4
 a4 := Tryz.isAgg4
 z4 := Tryz.sizeOf4
 v4 := Tryz.zeroValue4
 t5 := Tryz.underlying5
 a5 := Tryz.isAgg5
 z5 := Tryz.sizeOf5
 v5 := Tryz.zeroValue5
 t9 := Tryz.underlying9
 a9 := Tryz.isAgg9
 z9 := Tryz.sizeOf9
 v9 := Tryz.zeroValue9
 t20 := Tryz.underlying20
 a20 := Tryz.isAgg20
 z20 := Tryz.sizeOf20
 v20 := Tryz.zeroValue20
 t21 := Tryz.underlying21
 a21 := Tryz.isAgg21
 z21 := Tryz.sizeOf21
 v21 := Tryz.zeroValue21
 t37 := Tryz.underlying140
 a37 := Tryz.isAgg140
 z37 := Tryz.sizeOf140
 v37 := Tryz.zeroValue140
 t46 := Tryz.underlying225
 a46 := Tryz.isAgg225
 z46 := Tryz.sizeOf225
 v46 := Tryz.zeroValue225
 t51 := Tryz.underlying42
 a51 := Tryz.isAgg42
 z51 := Tryz.sizeOf42
 v51 := Tryz.zeroValue42
 t53 := Tryz.underlying196
 a53 := Tryz.isAgg196
 z53 := Tryz.sizeOf196
 v53 := Tryz.zeroValue196
 t75 := Tryz.underlying144
 a75 := Tryz.isAgg144
 z75 := Tryz.sizeOf144
 v75 := Tryz.zeroValue144
 t85 := Tryz.underlying160
 a85 := Tryz.isAgg160
 z85 := Tryz.sizeOf160
 v85 := Tryz.zeroValue160
 t127 := Tryz.underlying228
 a127 := Tryz.isAgg228
 z127 := Tryz.sizeOf228
 v127 := Tryz.zeroValue228
 t143 := Tryz.underlying462
 a143 := Tryz.isAgg462
 z143 := Tryz.sizeOf462
 v143 := Tryz.zeroValue462
 t145 := Tryz.underlying464
 a145 := Tryz.isAgg464
 z145 := Tryz.sizeOf464
 v145 := Tryz.zeroValue464
 t167 := Tryz.underlying347
 a167 := Tryz.isAgg347
 z167 := Tryz.sizeOf347
 v167 := Tryz.zeroValue347
 t168 := Tryz.underlying350
 a168 := Tryz.isAgg350
 z168 := Tryz.sizeOf350
 v168 := Tryz.zeroValue350
 t171 := Tryz.underlying396
 a171 := Tryz.isAgg396
 z171 := Tryz.sizeOf396
 v171 := Tryz.zeroValue396
 t173 := Tryz.underlying399
 a173 := Tryz.isAgg399
 z173 := Tryz.sizeOf399
 v173 := Tryz.zeroValue399
 t175 := Tryz.underlying348
 a175 := Tryz.isAgg348
 z175 := Tryz.sizeOf348
 v175 := Tryz.zeroValue348
 t210 := Tryz.underlying407
 a210 := Tryz.isAgg407
 z210 := Tryz.sizeOf407
 v210 := Tryz.zeroValue407
 t212 := Tryz.underlying449
 a212 := Tryz.isAgg449
 z212 := Tryz.sizeOf449
 v212 := Tryz.zeroValue449
 t213 := Tryz.underlying450
 a213 := Tryz.isAgg450
 z213 := Tryz.sizeOf450
 t232 := Tryz.underlying508
 a232 := Tryz.isAgg508
 z232 := Tryz.sizeOf508
 v232 := Tryz.zeroValue508
 t233 := Tryz.underlying509
 a233 := Tryz.isAgg509
 z233 := Tryz.sizeOf509
 v233 := Tryz.zeroValue509
 g15 := by kernel_rfl
 g16 := by kernel_rfl
 g17 := by kernel_rfl
 g18 := by kernel_rfl
 g19 := by kernel_rfl
 t80 := Tryz.underlying96
 a80 := Tryz.isAgg96
 z80 := Tryz.sizeOf96
 v80 := Tryz.zeroValue96
 i0 := by kernel_rfl
 i2 := by kernel_rfl
 i3 := by kernel_rfl
 i4 := by kernel_rfl
 i5 := by kernel_rfl
 i9 := by kernel_rfl
 i20 := by kernel_rfl
 i21 := by kernel_rfl
 i37 := by kernel_rfl
 i46 := by kernel_rfl
 i51 := by kernel_rfl
 i53 := by kernel_rfl
 i75 := by kernel_rfl
 i80 := by kernel_rfl
 i85 := by kernel_rfl
 i127 := by kernel_rfl
 i143 := by kernel_rfl
 i145 := by kernel_rfl
 i167 := by kernel_rfl
 i168 := by kernel_rfl
 i171 := by kernel_rfl
 i173 := by kernel_rfl
 i175 := by kernel_rfl
 i210 := by kernel_rfl
 i212 := by kernel_rfl
 i232 := by kernel_rfl
 i233 := by kernel_rfl
 m15 := by kernel_rfl
 m16 := by kernel_rfl
 m17 := by kernel_rfl
 m18 := by kernel_rfl
 m19 := by kernel_rfl
 c0 := by kernel_rfl
 c2 := by kernel_rfl
 c3 := by kernel_rfl
 c4 := by kernel_rfl
 c5 := by kernel_rfl
 c9 := by kernel_rfl
 c20 := by kernel_rfl
 c21 := by kernel_rfl
 c37 := by kernel_rfl
 c46 := by kernel_rfl
 c51 := by kernel_rfl
 c53 := by kernel_rfl
 c75 := by kernel_rfl
 c80 := by kernel_rfl
 c85 := by kernel_rfl
 c127 := by kernel_rfl
 c143 := by kernel_rfl
 c145 := by kernel_rfl
 c167 := by kernel_rfl
 c168 := by kernel_rfl
 c171 := by kernel_rfl
 c173 := by kernel_rfl
 c175 := by kernel_rfl
 c210 := by kernel_rfl
 c212 := by kernel_rfl
 c213 := by kernel_rfl
 c232 := by kernel_rfl
 c233 := by kernel_rfl }
open Go.RowKit in
theorem Tryz.strconv_ParseInt_10_at64_ok (s : ByteArray) (hmax : s.size ≤ 9223372036854775806) (v : Int) (h : Lib.parseIntB 64 s.data.toList = .ok v) (w : World) :
  Calls Tryz.prog 90 #[.string s, .int .i64 10, .int .i64 64] w fun e w' => e = .returned (.tuple #[.int .i64 v, .nilIface]) ∧ (w' = w ∨ ∃ t, w' = Lib.bytesWorld w 5 t) := Any.strconv_ParseInt_10_at64_ok Tryz.laysC174 s hmax v h w
open Go.RowKit in
theorem Tryz.strconv_ParseInt_10_at64_syntax (s : ByteArray) (hlim : s.size ≤ 281474976710656) (h : Lib.parseIntB 64 s.data.toList = Lib.parseIntB 64 []) (ev : Value) (w : World) (hv : w.cell? ⟨2, 0, none⟩ = some ev) (hev : ev = .nilIface ∨ ∃ te pe, ev = .iface te pe) :
  Calls Tryz.prog 90 #[.string s, .int .i64 10, .int .i64 64] w fun e w' => ∃ N, e = .returned (.tuple #[.int .i64 (0), .iface 350 (.pointer (some ⟨N, 0, none⟩))]) ∧ w.heap.size ≤ N ∧ w'.heap[N]? = some (.cells #[.string ⟨#[80, 97, 114, 115, 101, 73, 110, 116]⟩, .string s, ev] 407 (0, 0)) ∧ Below w.heap.size w w' := Any.strconv_ParseInt_10_at64_syntax Tryz.laysC174 s hlim h ev w hv hev
open Go.RowKit in
theorem Tryz.strconv_ParseInt_10_at64_range (s : ByteArray) (hlim : s.size ≤ 281474976710656) (h : Lib.parseIntB 64 s.data.toList = .range) (ev : Value) (w : World) (hv : w.cell? ⟨3, 0, none⟩ = some ev) (hev : ev = .nilIface ∨ ∃ te pe, ev = .iface te pe) :
  Calls Tryz.prog 90 #[.string s, .int .i64 10, .int .i64 64] w fun e w' => ∃ N, e = .returned (.tuple #[.int .i64 (Lib.intSat 64 s.data.toList), .iface 350 (.pointer (some ⟨N, 0, none⟩))]) ∧ w.heap.size ≤ N ∧ w'.heap[N]? = some (.cells #[.string ⟨#[80, 97, 114, 115, 101, 73, 110, 116]⟩, .string s, ev] 407 (0, 0)) ∧ Below w.heap.size w w' := Any.strconv_ParseInt_10_at64_range Tryz.laysC174 s hlim h ev w hv hev
def Tryz.lays146_ren : Go.Shelf.Ren := ⟨fun | 146 => 48 | 221 => 89 | 268 => 155 | 138 => 156 | 143 => 157 | 195 => 245 | 197 => 246 | 218 => 247 | 219 => 248 | 260 => 333 | 217 => 334 | 225 => 335 | 224 => 336 | 267 => 337 | 266 => 374 | 314 => 375 | n => n, fun | 9 => 9 | 31 => 100 | 3 => 3 | 4 => 4 | 0 => 0 | 105 => 344 | 21 => 21 | 5 => 5 | 46 => 225 | 119 => 401 | 139 => 459 | 138 => 458 | 146 => 460 | 51 => 42 | n => n, fun | 1 => 1 | 3 => 6 | 4 => 7 | n => n⟩
theorem Tryz.lays146 : Go.Proofs.Lays.n146 Tryz.prog Tryz.lays146_ren := {
 mixed := by kernel_rfl
 f138 := Tryz.func156.trans (congrArg some (by kernel_rfl))
 f143 := Tryz.func157.trans (congrArg some (by kernel_rfl))
 f146 := Tryz.func48.trans (congrArg some (by kernel_rfl))
 f195 := Tryz.func245.trans (congrArg some (by kernel_rfl))
 f197 := Tryz.func246.trans (congrArg some (by kernel_rfl))
 f217 := Tryz.func334.trans (congrArg some (by kernel_rfl))
 f218 := Tryz.func247.trans (congrArg some (by kernel_rfl))
 f219 := Tryz.func248.trans (congrArg some (by kernel_rfl))
 f221 := Tryz.func89.trans (congrArg some (by kernel_rfl))
 f224 := Tryz.func336.trans (congrArg some (by kernel_rfl))
 f225 := Tryz.func335.trans (congrArg some (by kernel_rfl))
 f260 := Tryz.func333.trans (congrArg some (by kernel_rfl))
 f266 := Tryz.func374.trans (congrArg some (by kernel_rfl))
 f267 := Tryz.func337.trans (congrArg some (by kernel_rfl))
 f268 := Tryz.func155.trans (congrArg some (by kernel_rfl))
 f314 := Tryz.func375.trans (congrArg some (by kernel_rfl))
 t0 := Tryz.underlying0
 a0 := Tryz.isAgg0
 z0 := Tryz.sizeOf0
 v0 := Tryz.zeroValue0
 t3 := Tryz.underlying3
 a3 := Tryz.isAgg3
 z3 := Tryz.sizeOf3
 v3 := Tryz.zeroValue3
 t4 := Tryz.underlying4
 a4 := Tryz.isAgg4
 z4 := Tryz.sizeOf4
 v4 := Tryz.zeroValue4
 t5 := Tryz.underlying5
 a5 := Tryz.isAgg5
 z5 := Tryz.sizeOf5
 v5 := Tryz.zeroValue5
 t9 := Tryz.underlying9
 a9 := Tryz.isAgg9
 z9 := Tryz.sizeOf9
 v9 := Tryz.zeroValue9
 t21 := Tryz.underlying21
 a21 := Tryz.isAgg21
 z21 := Tryz.sizeOf21
 v21 := Tryz.zeroValue21
 t31 := Tryz.underlying100
 a31 := Tryz.isAgg100
 z31 := Tryz.sizeOf100
 v31 := Tryz.zeroValue100
 t46 := Tryz.underlying225
 a46 := Tryz.isAgg225
 z46 := Tryz.sizeOf225
 v46 := Tryz.zeroValue225
 t51 := Tryz.underlying42
 a51 := Tryz.isAgg42
 z51 := Tryz.sizeOf42
 v51 := Tryz.zeroValue42
 t105 := Tryz.underlying344
 a105 := Tryz.isAgg344
 z105 := Tryz.sizeOf344
 v105 := Tryz.zeroValue344
 t119 := Tryz.underlying401
 a119 := Tryz.isAgg401
 z119 := Tryz.sizeOf401
 t138 := Tryz.underlying458
 a138 := Tryz.isAgg458
 z138 := Tryz.sizeOf458
 v138 := Tryz.zeroValue458
 t139 := Tryz.underlying459
 a139 := Tryz.isAgg459
 z139 := Tryz.sizeOf459
 v139 := Tryz.zeroValue459
 t146 := Tryz.underlying460
 a146 := Tryz.isAgg460
 z146 := Tryz.sizeOf460
 v146 := Tryz.zeroValue460
 g1 := by kernel_rfl
 g3 := by kernel_rfl
 g4 := by kernel_rfl }
open Go.RowKit Go.Lib in
theorem Tryz.strings_Split (s sep : ByteArray) (m : Int) (w : World) (hs : s.size < 4294967281) (hm : w.cell? ⟨1, 0, none⟩ = some (.int .i64 m)) (h1 : 1 ≤ sep.size) :
  Calls Tryz.prog 48 #[.string s, .string sep] w fun e w' =>
   e = .returned (.slice (some ⟨w.heap.size, 0, none⟩) (Lib.countB s sep + 1) (Lib.countB s sep + 1)) ∧ w' = w.alloc (.cells ((Lib.splitB sep 0 (Lib.countB s sep) s).map Value.string).toArray 9) := Any.strings_Split Tryz.lays146 (by kernel_rfl) s sep m w hs hm h1
end Go.Proofs
namespace Go.HL
open Go Go.Proofs
noncomputable section
namespace Ev
open Em
def Cl : aE := .cells [.BJ .i64 (-9223372036854775808) 9223372036854775807] 0 false false
def tj (t : Nat) : aE := .cells [.iface t .bad] 0 false false
theorem cell_of {P : Program} {σ : aj} {h : Heap} {w : World} (hr : Rel P σ h w) {g : Nat} {x : ad} (hg : h.get g = some (.cells [x] 0 false false)) (hgs : g < P.globals.size) : ∃ v, w.cell? ⟨g, 0, none⟩ = some v ∧ aC σ x v := by
 obtain ⟨p, hp, hb, h0⟩ := hr.oz g hgs
 have hl : my h g 0 = some x := by
  unfold my
  rw [bR hg]; rfl
 obtain ⟨v, h1, h2, _⟩ := o3 hr hp hl
 rw [hb, h0] at h1
 exact ⟨v, h1, h2⟩
/-! ## Split -/
theorem zp {b : List Nat} {c : Nat} (hb : ∀ x ∈ b, x < 256) (hc : c < 256) (hl : b.length ≤ 1000000) {h : Heap} {σ : aj} {w : World} {vs : List Value} (hr : Rel P σ h w) (hg : h.get 1 = some Cl) (hgs : 1 < P.globals.size) (hv : aq σ [aR b, .str 1 c] vs) :
  Calls P 48 ⟨vs⟩ w fun e w' => ∃ τ, Step P σ h w τ (h.new (.cells ((cutAt c b).map aR) 9 false true)) w' ∧ r5 τ (.ret (.slice h.next 0 (cutAt c b).length (some (cutAt c b).length))) e := by
 obtain ⟨v1, m, rfl, g1, hv⟩ := hv.cons_inv
 obtain ⟨v2, m, rfl, g2, hv⟩ := hv.cons_inv
 have := hv.cw
 subst this
 have g1 := pL hb g1
 have ec : aO [c] 0 = c := by simp [aO]
 have g2 : v2 = .string (gB [c]) := pL (l := [c]) (by intro x hx; simp at hx; omega) (by show aC σ (.str 1 (aO [c] 0)) v2; rw [ec]; exact g2)
 subst g1 g2
 obtain ⟨u, hu, n, rfl, _, _⟩ := cell_of hr hg hgs
 have hsz : (gB b).size < 4294967281 := by rw [jb]; omega
 have h1 : 1 ≤ (gB [c]).size := by rw [jb]; simp
 have hN : Lib.countB (gB b) (gB [c]) + 1 = (cutAt c b).length := by
  have h3 := Lib.splitB_all (gB [c]) h1 0 (Lib.countB (gB b) (gB [c])) (gB b) rfl
  rw [wV hc hb, List.length_map] at h3
  exact h3.symm
 refine (Tryz.strings_Split (gB b) (gB [c]) n w hsz hu h1).mono fun e w' ⟨he, hw⟩ => ?_
 rw [wV hc hb] at hw
 rw [hN] at he
 subst hw
 let p : Place := ⟨w.heap.size, 0, 0, (cutAt c b).length⟩
 have hby : ∀ x ∈ cutAt c b, ∀ y ∈ x, y < 256 := fun x hx y hy => hb y ((iZ c b x hx).2 y hy)
 have hvs : ∀ {l : List (List Nat)}, (∀ x ∈ l, ∀ y ∈ x, y < 256) → ∀ τ : aj, aq τ (l.map aR) ((l.map gB).map Value.string) := by
  intro l
  induction l with
  | nil => intro _ τ; exact aq.nil
  | cons x l ih => intro hx τ; exact aq.cons (xW (hx x (by simp))) (ih (fun y hy => hx y (by simp [hy])) τ)
 have s1 : Step P σ h w (σ.mK h.next p) (h.new (.cells ((cutAt c b).map aR) 9 false true)) (w.alloc (.cells (((cutAt c b).map gB).map Value.string).toArray 9)) := by
  refine Step.new hr rfl ⟨_, 9, (0, 0), rfl, ?_, ?_, fun _ => rfl, fun _ => ⟨rfl, by simp [p]⟩, fun _ => ⟨rfl, by simp⟩, (fun e => by cases e), .inl rfl⟩
  ·show aq _ _ ((List.drop 0 (((cutAt c b).map gB).map Value.string)).take ((cutAt c b).map aR).length)
   rw [List.drop_zero, List.take_of_length_le (by simp)]
   exact hvs hby _
  ·intro x hx
   obtain ⟨y, _, rfl⟩ := List.mem_map.1 hx
   rfl
 refine ⟨_, s1, _, he, p, (cutAt c b).length, σ.aZ _ _, rfl, Nat.le_refl _, rfl⟩
def ml (args : List ad) (h : Heap) (r : pB × Heap) : Prop := ∃ b c, args = [aR b, .str 1 c] ∧ (∀ x ∈ b, x < 256) ∧ c < 256 ∧ b.length ≤ 1000000 ∧ h.get 1 = some Cl ∧ r = (.ret (.slice h.next 0 (cutAt c b).length (some (cutAt c b).length)), h.new (.cells ((cutAt c b).map aR) 9 false true))
theorem ml.eq {args : List ad} {h : Heap} {r r' : pB × Heap} (a : ml args h r) (b : ml args h r') : r = r' := by
 obtain ⟨b, c, rfl, hb, _, _, _, rfl⟩ := a
 obtain ⟨b', c', e, hb', _, _, _, rfl⟩ := b
 injection e with e1 e2
 injection e2 with e2
 injection e2 with _ e2
 rw [kR hb hb' e1, e2]
/-! ## ParseInt -/
theorem B7 (w : World) (e : Nat) (s : ByteArray) : RowKit.Below w.heap.size w (Lib.bytesWorld w e s) := by
 unfold Lib.bytesWorld
 have e1 : w.drew.heap.size = w.heap.size := rfl
 rw [← e1, qS]
 exact RowKit.Below.alloc ((RowKit.Below.refl _ w).drew) (Nat.le_refl _) _
theorem zO {b : List Nat} (hb : ∀ x ∈ b, x < 256) (hl : b.length ≤ 1000000) {t2 t3 : Nat} {h : Heap} {σ : aj} {w : World} {vs : List Value} (hr : Rel P σ h w) (hg2 : h.get 2 = some (tj t2)) (hg3 : h.get 3 = some (tj t3)) (hgs : 3 < P.globals.size) (hv : aq σ [aR b, .int .i64 10, .int .i64 64] vs) :
  Calls P 90 ⟨vs⟩ w fun e w' => Step P σ h w σ h w' ∧ r5 σ (.ret (.tuple [.int .i64 (eD b), .bad])) e := by
 obtain ⟨v1, m, rfl, g1, hv⟩ := hv.cons_inv
 obtain ⟨v2, m, rfl, g2, hv⟩ := hv.cons_inv
 obtain ⟨v3, m, rfl, g3, hv⟩ := hv.cons_inv
 have := hv.cw
 subst this
 have g1 := pL hb g1
 have g2 : v2 = .int .i64 10 := g2
 have g3 : v3 = .int .i64 64 := g3
 subst g1 g2 g3
 have hlist : (gB b).data.toList = b.map UInt8.ofNat := tT b
 have res : ∀ {n : Int} {x : Value} {e : Ending}, eD b = n → e = .returned (.tuple #[.int .i64 n, x]) → r5 σ (.ret (.tuple [.int .i64 (eD b), .bad])) e := by
  intro n x e hn he
  exact ⟨_, he, [.int .i64 n, x], rfl, aq.cons (by rw [hn]; rfl) (aq.cons trivial aq.nil)⟩
 obtain ⟨u2, hu2, y2, hy2, _⟩ := cell_of hr hg2 (by omega)
 obtain ⟨u3, hu3, y3, hy3, _⟩ := cell_of hr hg3 (by omega)
 cases hp : Lib.parseIntB 64 (gB b).data.toList
 ·rename_i v
  refine (Tryz.strconv_ParseInt_10_at64_ok (gB b) (by rw [jb]; omega) v hp w).mono fun e w' ⟨he, hw⟩ => ⟨hO hr ?_, res (n := v) ?_ he⟩
  ·rcases hw with rfl | ⟨t, rfl⟩
   ·exact RowKit.Below.refl _ _
   ·exact B7 w 5 t
  ·unfold eD
   rw [← hlist, hp]
 ·refine (Tryz.strconv_ParseInt_10_at64_syntax (gB b) (by rw [jb]; omega) hp u2 w hu2 (.inr ⟨_, _, hy2⟩)).mono fun e w' ⟨N, he, _, _, hw⟩ => ⟨hO hr hw, res (n := 0) ?_ he⟩
  unfold eD
  rw [← hlist, hp]
 ·refine (Tryz.strconv_ParseInt_10_at64_range (gB b) (by rw [jb]; omega) hp u3 w hu3 (.inr ⟨_, _, hy3⟩)).mono fun e w' ⟨N, he, _, _, hw⟩ => ⟨hO hr hw, res (n := Lib.intSat 64 (gB b).data.toList) ?_ he⟩
  unfold eD
  rw [← hlist, hp]
structure KR (base : List (Nat × aE)) (K : ai) : Prop where
 free : ∀ f, (Nat.beq f 91 || Nat.beq f 162) = true → ∀ a h, K f a h = none
 split : ∀ h b c, (lies base).holds h → (∀ x ∈ b, x < 256) → c < 256 → b.length ≤ 1000000 → K 48 [aR b, .str 1 c] h = some (.ret (.slice h.next 0 (cutAt c b).length (some (cutAt c b).length)), h.new (.cells ((cutAt c b).map aR) 9 false true))
 parse : ∀ h b, (lies base).holds h → (∀ x ∈ b, x < 256) → b.length ≤ 1000000 → K 90 [aR b, .int .i64 10, .int .i64 64] h = some (.ret (.tuple [.int .i64 (eD b), .bad]), h)
end Ev
end
end Go.HL
namespace Go.HL
open Go
namespace Ev
open Em
/-! ## The program's reading of a line -/
abbrev gW (l : List (List Nat)) (i : Nat) : List Nat := l.getD i []
def jv (b : List Nat) : Bool := decide (b.head? = some 114)
def mE (b : List Nat) : Int := eD (if jv b = true then b.tail else b)
def dw (l : List (List Nat)) (s : List Nat) : Int := if s ∈ l then ((l.idxOf s : Nat) : Int) else -1
def vn (s : List Nat) : Int := if 0 ≤ dw As s then ((Ic.getD (dw As s).toNat 0 : Nat) : Int) else 0
def L8 (s : List Nat) : Nat → Int
 | 0 => 0
 | n + 1 => if bT.getD n [] = s then (n : Int) else L8 s n
noncomputable def i32 (z : Int) : Int := dj .i32 z
abbrev tQ : List Nat := [112, 97, 114, 97, 109]
abbrev eZ : List Nat := [108, 111, 99, 97, 108]
abbrev oS : List Nat := [97, 114, 114, 97, 121]
abbrev xV : List Nat := [97, 116, 111, 109, 105, 99]
abbrev tR : List Nat := [98, 97, 114, 114, 105, 101, 114]
abbrev pF : List Nat := [99, 111, 108, 108, 101, 99, 116]
abbrev G1 : List Nat := [106, 117, 109, 112]
abbrev xU : List Nat := [98, 114, 97, 110, 99, 104]
abbrev Jp : List Nat := [101, 120, 105, 116]
noncomputable def jL (d : Int) (l : List (List Nat)) : bI :=
 if l.length = 1 ∧ 0 ≤ dw ov (gW l 0) then ⟨4, dw ov (gW l 0), d, 0, 0, 0, 0, 0⟩
 else if l.length = 1 ∧ jv (gW l 0) = true then ⟨1, 0, d, mE (gW l 0), 0, 0, 0, 0⟩
 else if l.length = 1 then ⟨0, 0, d, 0, 0, i32 (eD (gW l 0)), 0, 0⟩
 else if l.length = 2 ∧ gW l 0 = tQ then ⟨5, 0, d, 0, 0, i32 (eD (gW l 1)), 0, 0⟩
 else if l.length = 2 ∧ gW l 0 = eZ then ⟨11, 0, d, 0, 0, i32 (eD (gW l 1)), 0, 0⟩
 else if l.length = 2 then ⟨2, max 0 (dw uT (gW l 0)), d, mE (gW l 1), 0, 0, 0, 0⟩
 else if l.length = 3 ∧ gW l 0 = oS then ⟨6, 0, d, mE (gW l 2), 0, i32 (eD (gW l 1)), 0, 0⟩
 else if l.length = 3 then ⟨3, L8 (gW l 1) 20, d, mE (gW l 0), mE (gW l 2), 0, 0, 0⟩
 else if l.length = 4 then ⟨10, vn (gW l 1), d, mE (gW l 2), 0, i32 (eD (gW l 3)), 0, 0⟩
 else ⟨0, 0, d, 0, 0, 0, 0, 0⟩
noncomputable def gf (l : List (List Nat)) : bI :=
 if 3 ≤ l.length ∧ gW l 1 = [61] ∧ jv (gW l 0) = true then jL (mE (gW l 0)) (l.drop 2)
 else if l.length = 5 ∧ gW l 0 = oS then ⟨7, 0, 0, mE (gW l 2), mE (gW l 4), i32 (eD (gW l 1)), 0, 0⟩
 else if l.length = 6 ∧ gW l 0 = xV then ⟨8, vn (gW l 1), 0, mE (gW l 4), mE (gW l 5), i32 (eD (gW l 3)), 0, 0⟩
 else if l.length = 2 ∧ gW l 0 = tR then ⟨9, 0, 0, 0, 0, i32 (eD (gW l 1)), 0, 0⟩
 else if l.length = 4 ∧ gW l 0 = eZ then ⟨12, 0, 0, mE (gW l 3), 0, i32 (eD (gW l 1)), 0, 0⟩
 else if l.length = 2 ∧ gW l 0 = G1 then ⟨13, 0, 0, 0, 0, 0, eD (gW l 1), 0⟩
 else if l.length = 5 ∧ gW l 0 = xU then ⟨14, 0, 0, mE (gW l 1), 0, 0, eD (gW l 2), eD (gW l 4)⟩
 else ⟨15, 0, 0, 0, 0, 0, 0, 0⟩
/-! ## The reference's -/
def vB (b : Nat) : Bool := decide (48 ≤ b ∧ b ≤ 57)
def iu (l : List Nat) (n : Int) : Int := l.foldl (fun (n : Int) (b : Nat) => 10 * n + ((b : Int) - 48)) n
def oB (s : List Nat) : List Nat := if 1 < s.length ∧ s.head? = some 45 then s.tail else s
def ud (s : List Nat) : Int := if 1 < s.length ∧ s.head? = some 45 then -1 else 1
def fV (s : List Nat) : Int := if (oB s).length < 1 ∨ 10 < (oB s).length then 0 else if (oB s).all vB = true then ud s * iu (oB s) 0 else 0
def gC (s : List Nat) : Int := if s.length < 2 ∨ s.head? ≠ some 114 then 0 else fV s.tail
def vm (s : List Nat) : Int := if s = [97, 100, 100] then 0 else if s = [97, 110, 100] then 5 else if s = [111, 114] then 6 else if s = [120, 111, 114] then 7 else if s = [109, 105, 110] then 18 else if s = [109, 97, 120] then 19 else 0
noncomputable def gm (l : List (List Nat)) : bI :=
 if gW l 0 = oS then ⟨7, 0, 0, gC (gW l 2), gC (gW l 4), i32 (fV (gW l 1)), 0, 0⟩
 else if gW l 0 = xV then ⟨8, vm (gW l 1), 0, gC (gW l 4), gC (gW l 5), i32 (fV (gW l 3)), 0, 0⟩
 else if gW l 0 = tR then ⟨9, 0, 0, 0, 0, i32 (fV (gW l 1)), 0, 0⟩
 else if gW l 0 = eZ then ⟨12, 0, 0, gC (gW l 3), 0, i32 (fV (gW l 1)), 0, 0⟩
 else if gW l 0 = G1 then ⟨13, 0, 0, 0, 0, 0, fV (gW l 1), 0⟩
 else if gW l 0 = xU then ⟨14, 0, 0, gC (gW l 1), 0, 0, fV (gW l 2), fV (gW l 4)⟩
 else if gW l 0 = Jp ∨ l.length < 3 then ⟨15, 0, 0, 0, 0, 0, 0, 0⟩
 else if 0 ≤ dw ov (gW l 2) then ⟨4, dw ov (gW l 2), gC (gW l 0), 0, 0, 0, 0, 0⟩
 else if gW l 2 = tQ then ⟨5, 0, gC (gW l 0), 0, 0, i32 (fV (gW l 3)), 0, 0⟩
 else if gW l 2 = oS then ⟨6, 0, gC (gW l 0), gC (gW l 4), 0, i32 (fV (gW l 3)), 0, 0⟩
 else if gW l 2 = pF then ⟨10, vm (gW l 3), gC (gW l 0), gC (gW l 4), 0, i32 (fV (gW l 5)), 0, 0⟩
 else if gW l 2 = eZ then ⟨11, 0, gC (gW l 0), 0, 0, i32 (fV (gW l 3)), 0, 0⟩
 else if 0 ≤ dw uT (gW l 2) then ⟨2, dw uT (gW l 2), gC (gW l 0), gC (gW l 3), 0, 0, 0, 0⟩
 else if l.length = 3 ∧ jv (gW l 2) = true then ⟨1, 0, gC (gW l 0), gC (gW l 2), 0, 0, 0, 0⟩
 else if l.length = 3 then ⟨0, 0, gC (gW l 0), 0, 0, i32 (fV (gW l 2)), 0, 0⟩
 else ⟨3, max 0 (dw bT (gW l 3)), gC (gW l 0), gC (gW l 2), gC (gW l 4), 0, 0, 0⟩
/-! ## Numbers that were written -/
theorem nw (n : Nat) : (dH n).all vB = true := by
 induction n using Nat.strongRecOn with
 | _ n ih =>
  by_cases h : n < 10
  ·rw [bK h]; simp [vB]; omega
  ·rw [gi h, List.all_append, ih (n / 10) (by omega), ih (n % 10) (by omega)]; rfl
theorem zh (n : Nat) : ∀ acc : Int, iu (dH n) acc = acc * 10 ^ (dH n).length + n := by
 induction n using Nat.strongRecOn with
 | _ n ih =>
  intro acc
  by_cases h : n < 10
  ·rw [bK h]; simp [iu]; omega
  ·have h1 := bK (n := n % 10) (by omega)
   rw [gi h]
   have e : iu (dH (n / 10) ++ dH (n % 10)) acc = iu (dH (n % 10)) (iu (dH (n / 10)) acc) := List.foldl_append
   rw [e, ih (n / 10) (by omega), h1, List.length_append, List.length_singleton, Int.pow_succ]
   simp only [iu, List.foldl_cons, List.foldl_nil]
   rw [← Int.mul_assoc]
   omega
theorem oe (n : Int) : ∃ d r, aQ n = d :: r ∧ (d = 45 ∨ 48 ≤ d ∧ d < 58) := by
 unfold aQ
 split
 ·exact ⟨45, _, rfl, .inl rfl⟩
 ·obtain ⟨d, r, e, h⟩ := gN n.toNat
  exact ⟨48 + d, r, e, .inr (by omega)⟩
theorem kT {n : Int} (h1 : -4294967296 < n) (h2 : n < 4294967296) : fV (aQ n) = n := by
 have len : ∀ m : Nat, m < 4294967296 → (dH m).length ≤ 10 := fun m hm => rN 10 m (by decide) (by omega)
 unfold aQ
 split
 ·obtain ⟨d, r, e, hd⟩ := gN (-n).toNat
  have hl := len (-n).toNat (by omega)
  have hp := AJ (-n).toNat
  have ht : oB (45 :: dH (-n).toNat) = dH (-n).toNat := by unfold oB; rw [if_pos ⟨by simp; omega, rfl⟩]; rfl
  have hs : ud (45 :: dH (-n).toNat) = -1 := by unfold ud; rw [if_pos ⟨by simp; omega, rfl⟩]
  unfold fV
  rw [ht, hs, if_neg (by omega), if_pos (nw _), zh]
  omega
 ·obtain ⟨d, r, e, hd⟩ := gN n.toNat
  have hl := len n.toNat (by omega)
  have hp := AJ n.toNat
  have hh : ¬ (1 < (dH n.toNat).length ∧ (dH n.toNat).head? = some 45) := by rw [e]; simp; omega
  have ht : oB (dH n.toNat) = dH n.toNat := by unfold oB; rw [if_neg hh]
  have hs : ud (dH n.toNat) = 1 := by unfold ud; rw [if_neg hh]
  unfold fV
  rw [ht, hs, if_neg (by omega), if_pos (nw _), zh]
  omega
theorem Hc (n : Int) : jv (rT n) = true := rfl
theorem He (n : Int) : jv (aQ n) = false := by
 obtain ⟨d, r, e, hd⟩ := oe n
 rw [e]
 unfold jv
 simp; omega
theorem BL {n : Int} (h1 : -4294967296 < n) (h2 : n < 4294967296) : mE (rT n) = n := kU h1 h2
theorem BK {n : Int} (h1 : -4294967296 < n) (h2 : n < 4294967296) : gC (rT n) = n := by
 have hp : 0 < (aQ n).length := by obtain ⟨d, r, e, _⟩ := oe n; rw [e]; simp
 unfold gC
 have : ¬ ((rT n).length < 2 ∨ (rT n).head? ≠ some 114) := by
  simp only [rT, List.length_cons, List.head?_cons, ne_eq, not_true_eq_false, or_false]; omega
 rw [if_neg this]
 exact kT h1 h2
theorem IQ (n : Int) : i32 n = if n % 4294967296 < 2147483648 then n % 4294967296 else n % 4294967296 - 4294967296 := by
 unfold i32
 rw [fg]
 simp [IntKind.wrap, IntKind.bits, IntKind.signed]
 by_cases h : n % 4294967296 < 2147483648
 ·rw [if_pos h, if_neg (by omega)]
 ·rw [if_neg h, if_pos (by omega)]
theorem Kw {n : Int} (h1 : -2147483648 ≤ n) (h2 : n ≤ 2147483647) : i32 n = n := by
 rw [IQ]
 split <;> omega
theorem oa {l : List (List Nat)} {s : List Nat} (h : s ∉ l) : dw l s = -1 := if_neg h
theorem yP {n : Int} {c : Nat} {s : List Nat} (hc : c ≠ 45 ∧ ¬ (48 ≤ c ∧ c < 58)) : aQ n ≠ c :: s := by
 obtain ⟨d, r, e, hd⟩ := oe n
 rw [e]
 intro h
 injection h with h _
 omega
theorem K6 {n : Int} {c : Nat} {s : List Nat} (hc : c ≠ 114) : rT n ≠ c :: s := by
 intro h
 injection h with h _
 omega
theorem KH (n : Int) : aQ n ∉ ov := by
 intro h
 simp only [ov, List.mem_cons, List.not_mem_nil, or_false] at h
 rcases h with h | h | h | h <;> exact yP (by omega) h
theorem Nc (n : Int) : rT n ∉ ov := by
 intro h
 simp only [ov, List.mem_cons, List.not_mem_nil, or_false] at h
 rcases h with h | h | h | h <;> exact K6 (by omega) h
theorem M0 (n : Int) : aQ n ∉ uT ∨ aQ n = [45] := by
 by_cases h : aQ n ∈ uT
 ·simp only [uT, List.mem_cons, List.not_mem_nil, or_false] at h
  rcases h with h | h | h
  ·exact .inr h
  ·exact absurd h (yP (by omega))
  ·exact absurd h (yP (by omega))
 ·exact .inl h
theorem FB (n : Int) : aQ n ≠ [45] := by
 unfold aQ
 split
 ·intro h
  injection h with _ h
  obtain ⟨d, r, e, _⟩ := gN (-n).toNat
  rw [e] at h; cases h
 ·intro h
  obtain ⟨d, r, e, hd⟩ := gN n.toNat
  rw [e] at h
  injection h with h _
  omega
theorem KG (n : Int) : aQ n ∉ uT := (M0 n).resolve_right (FB n)
theorem r_u (n : Int) : rT n ∉ uT := by
 intro h
 simp only [uT, List.mem_cons, List.not_mem_nil, or_false] at h
 rcases h with h | h | h <;> exact K6 (by omega) h
end Ev
end Go.HL
namespace Go.HL
open Go
namespace Ev
open Em
set_option maxRecDepth 10000
theorem cR {n : Int} {c : Nat} {s : List Nat} (hc : c ≠ 45 ∧ ¬ (48 ≤ c ∧ c < 58)) : (aQ n = c :: s) = False := eq_false (yP hc)
theorem iJ {n : Int} {c : Nat} {s : List Nat} (hc : c ≠ 114) : (rT n = c :: s) = False := eq_false (K6 hc)
theorem Na : ∀ k, k < 3 → dw uT (uT.getD k []) = k ∧ dw ov (uT.getD k []) = -1 ∧ uT.getD k [] ≠ tQ ∧ uT.getD k [] ≠ eZ ∧ uT.getD k [] ≠ oS ∧ uT.getD k [] ≠ pF := by decide
theorem NY : ∀ k, k < 20 → dw bT (bT.getD k []) = k ∧ L8 (bT.getD k []) 20 = k := by decide
theorem Ll : ∀ k, k < 4 → dw ov (ov.getD k []) = k := by decide
theorem Nu (n : Int) : fT n ≠ [61] := by
 unfold fT
 repeat' split
 all_goals decide
theorem LU {n : Int} (h : n = 0 ∨ n = 18 ∨ n = 19 ∨ n = 5 ∨ n = 6 ∨ n = 7) : vn (fT n) = n ∧ vm (fT n) = n := by
 rcases h with rfl | rfl | rfl | rfl | rfl | rfl <;> decide
theorem cp : ¬ (0 : Int) ≤ -1 := by decide
theorem Fc {f : az} {x : bI} (h : f.ju x = true) (hf : nG x) : gf (aM x) = x ∧ gm (aM x) = x := by
 have hfo := DD h
 obtain ⟨kind, op, d, a, b, cL, to, jo⟩ := x
 have f1 := hf.d
 have f2 := hf.a
 have f3 := hf.b
 have f4 := hf.cL
 have f5 := hf.to
 have f6 := hf.join
 simp only at f1 f2 f3 f4 f5 f6 hfo
 have pd := BL (n := d) (by omega) (by omega)
 have pa := BL (n := a) (by omega) (by omega)
 have pb := BL (n := b) (by omega) (by omega)
 have rd := BK (n := d) (by omega) (by omega)
 have ra := BK (n := a) (by omega) (by omega)
 have rb := BK (n := b) (by omega) (by omega)
 have pi := kU (n := cL) (by omega) (by omega)
 have pt := kU (n := to) (by omega) (by omega)
 have pj := kU (n := jo) (by omega) (by omega)
 have ri := kT (n := cL) (by omega) (by omega)
 have rt := kT (n := to) (by omega) (by omega)
 have rj := kT (n := jo) (by omega) (by omega)
 have i3 := Kw f4.1 f4.2
 have s1 := oa (KH cL)
 have s2 := oa (Nc a)
 have s3 := oa (KG cL)
 have s4 := oa (r_u a)
 have h1 := Hc d
 have h2 := Hc a
 have h3 := He cL
 clear hf f1 f2 f3 f5 f6
 unfold az.ju at h
 simp only [Bool.and_eq_true, decide_eq_true_eq] at h
 obtain ⟨⟨⟨⟨⟨⟨⟨hk, ho⟩, hd⟩, ha⟩, hb⟩, hi⟩, ht⟩, hj⟩ := h
 have hk16 : kind = 0 ∨ kind = 1 ∨ kind = 2 ∨ kind = 3 ∨ kind = 4 ∨ kind = 5 ∨ kind = 6 ∨ kind = 7 ∨ kind = 8 ∨ kind = 9 ∨ kind = 10 ∨ kind = 11 ∨ kind = 12 ∨ kind = 13 ∨ kind = 14 ∨ kind = 15 := by omega
 clear hk
 rcases hk16 with rfl | rfl | rfl | rfl | rfl | rfl | rfl | rfl | rfl | rfl | rfl | rfl | rfl | rfl | rfl | rfl
 all_goals simp [U, eo, bS, az.Ag] at ho hd ha hb hi ht hj
 -- 0
 ·subst ho ha hb ht hj
  simp [aM, gf, jL, gm, gW, pd, rd, pi, ri, i3, s1, s3, h1, h3, cp, cR, iJ]
 ·subst ho hb hi ht hj
  simp [aM, gf, jL, gm, gW, pd, rd, pa, ra, i3, s2, s4, h1, h2, cp, cR, iJ]
 ·subst hb hi ht hj
  obtain ⟨k, rfl⟩ := Int.eq_ofNat_of_zero_le ho.1
  obtain ⟨u1, u2, u3, u4, u5, u6⟩ := Na k (by omega)
  simp only [List.getD_eq_getElem?_getD] at u1 u2 u3 u4 u5 u6
  simp [aM, gf, jL, gm, gW, pd, rd, pa, ra, pb, rb, pi, ri, pt, rt, pj, rj, i3, s1, s2, s3, s4, h1, h2, h3, cp, cR, iJ, u1, u2, u3, u4, u5, u6]
 ·subst hi ht hj
  obtain ⟨k, rfl⟩ := Int.eq_ofNat_of_zero_le ho.1
  obtain ⟨u1, u2⟩ := NY k (by omega)
  simp only [List.getD_eq_getElem?_getD] at u1 u2
  simp [aM, gf, jL, gm, gW, pd, rd, pa, ra, pb, rb, pi, ri, pt, rt, pj, rj, i3, s1, s2, s3, s4, h1, h2, h3, cp, cR, iJ, u1, u2]
 ·subst ha hb hi ht hj
  obtain ⟨k, rfl⟩ := Int.eq_ofNat_of_zero_le ho.1
  have u1 := Ll k (by omega)
  simp only [List.getD_eq_getElem?_getD] at u1
  simp [aM, gf, jL, gm, gW, pd, rd, pa, ra, pb, rb, pi, ri, pt, rt, pj, rj, i3, s1, s2, s3, s4, h1, h2, h3, cp, cR, iJ, u1]
 ·subst ho ha hb ht hj
  simp [aM, gf, jL, gm, gW, pd, rd, pa, ra, pb, rb, pi, ri, pt, rt, pj, rj, i3, s1, s2, s3, s4, h1, h2, h3, cp, cR, iJ, show dw ov tQ = -1 by decide]
 ·subst ho hb ht hj
  simp [aM, gf, jL, gm, gW, pd, rd, pa, ra, pb, rb, pi, ri, pt, rt, pj, rj, i3, s1, s2, s3, s4, h1, h2, h3, cp, cR, iJ, show dw ov oS = -1 by decide]
 ·subst ho hd ht hj
  simp [aM, gf, jL, gm, gW, pd, rd, pa, ra, pb, rb, pi, ri, pt, rt, pj, rj, i3, s1, s2, s3, s4, h1, h2, h3, cp, cR, iJ]
 ·subst hd ht hj
  have u := LU (hfo (.inl rfl))
  have v := Nu op
  simp [aM, gf, jL, gm, gW, pd, rd, pa, ra, pb, rb, pi, ri, pt, rt, pj, rj, i3, s1, s2, s3, s4, h1, h2, h3, cp, cR, iJ, u, v]
 ·subst ho hd ha hb ht hj
  simp [aM, gf, jL, gm, gW, pd, rd, pa, ra, pb, rb, pi, ri, pt, rt, pj, rj, i3, s1, s2, s3, s4, h1, h2, h3, cp, cR, iJ]
 ·subst hb ht hj
  have u := LU (hfo (.inr rfl))
  simp [aM, gf, jL, gm, gW, pd, rd, pa, ra, pb, rb, pi, ri, pt, rt, pj, rj, i3, s1, s2, s3, s4, h1, h2, h3, cp, cR, iJ, u, show dw ov pF = -1 by decide]
 ·subst ho ha hb ht hj
  simp [aM, gf, jL, gm, gW, pd, rd, pa, ra, pb, rb, pi, ri, pt, rt, pj, rj, i3, s1, s2, s3, s4, h1, h2, h3, cp, cR, iJ, show dw ov eZ = -1 by decide]
 ·subst ho hd hb ht hj
  simp [aM, gf, jL, gm, gW, pd, rd, pa, ra, pb, rb, pi, ri, pt, rt, pj, rj, i3, s1, s2, s3, s4, h1, h2, h3, cp, cR, iJ]
 ·subst ho hd ha hb hi hj
  simp [aM, gf, jL, gm, gW, pd, rd, pa, ra, pb, rb, pi, ri, pt, rt, pj, rj, i3, s1, s2, s3, s4, h1, h2, h3, cp, cR, iJ]
 ·subst ho hd hb hi
  simp [aM, gf, jL, gm, gW, pd, rd, pa, ra, pb, rb, pi, ri, pt, rt, pj, rj, i3, s1, s2, s3, s4, h1, h2, h3, cp, cR, iJ]
 ·subst ho hd ha hb hi ht hj
  simp [aM, gf, jL, gm, gW, pd, rd, pa, ra, pb, rb, pi, ri, pt, rt, pj, rj, i3, s1, s2, s3, s4, h1, h2, h3, cp, cR, iJ]
end Ev
end Go.HL
namespace Go.HL
open Go
namespace Ev
open Em
set_option maxRecDepth 10000
abbrev cu : List Nat := [98, 117, 102, 102, 101, 114]
abbrev ou : List Nat := [105, 110, 116]
abbrev gT : List Nat := [115, 104, 97, 114, 101, 100]
abbrev pG : List Nat := [99, 111, 100, 101]
noncomputable def dK (i : Nat) (t : List Nat) (c : ba) : ba :=
 if t = [] then c
 else if i = 0 ∧ (cutAt 32 t).length = 4 then { c with name := gW (cutAt 32 t) 1, «local» := eD (gW (cutAt 32 t) 3) }
 else if (cutAt 32 t).length = 2 ∧ gW (cutAt 32 t) 0 = cu then { c with params := c.params ++ [(gW (cutAt 32 t) 1, true)] }
 else if (cutAt 32 t).length = 2 ∧ gW (cutAt 32 t) 0 = ou then { c with params := c.params ++ [(gW (cutAt 32 t) 1, false)] }
 else if (cutAt 32 t).length = 3 ∧ gW (cutAt 32 t) 0 = gT then { c with shared := c.shared ++ [(gW (cutAt 32 t) 1, eD (gW (cutAt 32 t) 2))] }
 else { c with ay := c.ay ++ [gf ((cutAt 32 t).drop 1)] }
noncomputable def iE : Nat → List (List Nat) → ba → Option ba
 | _, [], c => some c
 | i, t :: r, c => if 2000 < c.ay.length then none else iE (i + 1) r (dK i t c)
noncomputable def dF (i : Nat) (t : List Nat) (c : ba) : ba :=
 if i = 0 then { c with name := gW (cutAt 32 t) 1, «local» := fV (gW (cutAt 32 t) 3) }
 else if gW (cutAt 32 t) 0 = cu ∨ gW (cutAt 32 t) 0 = ou then { c with params := c.params ++ [(gW (cutAt 32 t) 1, decide (gW (cutAt 32 t) 0 = cu))] }
 else if gW (cutAt 32 t) 0 = gT then { c with shared := c.shared ++ [(gW (cutAt 32 t) 1, fV (gW (cutAt 32 t) 2))] }
 else if t ≠ [] then { c with ay := c.ay ++ [gm ((cutAt 32 t).drop 1)] }
 else c
noncomputable def iT : Nat → List (List Nat) → ba → ba
 | _, [], c => c
 | i, t :: r, c => iT (i + 1) r (dF i t c)
def xh : ba := ⟨[], [], [], 0, []⟩
def JC (c : bg) : ba := ⟨c.name, c.params, c.shared.map fun a => (a.1, (a.2 : Int)), c.local, c.ay⟩
theorem Df (c : bg) : (JC c).iw = c.iw := by
 unfold JC ba.iw bg.iw
 simp only [List.map_map]
 rfl
theorem tC (c : bg) : (JC c).zb = c := by
 unfold JC ba.zb
 simp only [List.map_map]
 have : (c.shared.map ((fun a : List Nat × Int => (a.1, a.2.toNat)) ∘ fun a : List Nat × Nat => (a.1, (a.2 : Int)))) = c.shared := by
  conv => rhs; rw [← List.map_id c.shared]
  exact List.map_congr_left fun a _ => rfl
 rw [this]
 rfl
/-! ## The lines of a text -/
def Clean (w : List Nat) : Prop := ∀ x ∈ w, x ≠ 32 ∧ x ≠ 10
theorem Clean.dec (n : Int) : Clean (aQ n) := by
 have key : ∀ m : Nat, Clean (dH m) := fun m x hx => by
  have := List.all_eq_true.1 (nw m) x hx
  unfold vB at this
  have := of_decide_eq_true this
  omega
 unfold aQ
 split
 ·intro x hx
  rcases List.mem_cons.1 hx with rfl | hx
  ·omega
  ·exact key _ x hx
 ·exact key _
theorem cU {l : List Nat} (h : l.all (fun x => decide (x ≠ 32 ∧ x ≠ 10)) = true) : Clean l := fun x hx => of_decide_eq_true (List.all_eq_true.1 h x hx)
theorem Clean.r (n : Int) : Clean (rT n) := fun x hx => (List.mem_cons.1 hx).elim (fun e => by omega) (Clean.dec n x)
theorem Clean.nil : Clean [] := fun x hx => by cases hx
theorem Clean.getD {l : List (List Nat)} {k : Nat} (h : ∀ x ∈ l, Clean x) : Clean (l.getD k []) := by
 by_cases hk : k < l.length
 ·exact h _ (aY _ hk)
 ·rw [List.getD, List.getElem?_eq_none (by omega)]; exact .nil
theorem rQ {l : List (List Nat)} (h : l.all (fun w => w.all fun x => decide (x ≠ 32 ∧ x ≠ 10)) = true) : ∀ x ∈ l, Clean x := fun x hx => cU (List.all_eq_true.1 h x hx)
theorem Clean.f (n : Int) : Clean (fT n) := by
 unfold fT
 repeat' split
 all_goals exact cU rfl
def pC (l : List (List Nat)) : Prop := ∀ p ∈ l, Clean p
theorem pC.ite {p : Prop} [Decidable p] {a b : List (List Nat)} (ha : pC a) (hb : pC b) : pC (if p then a else b) := by split <;> assumption
theorem pC.nil : pC [] := fun p hp => by cases hp
theorem pC.cons {p : List Nat} {l : List (List Nat)} (hp : Clean p) (hl : pC l) : pC (p :: l) := fun q hq => (List.mem_cons.1 hq).elim (fun e => e ▸ hp) (hl q)
theorem sr (x : bI) : pC (aM x) := by
 have h1 := Clean.r x.d
 have h2 := Clean.r x.a
 have h3 := Clean.r x.b
 have h4 := Clean.dec x.cL
 have h5 := Clean.dec x.to
 have h6 := Clean.dec x.join
 have h7 := Clean.f x.op
 have h8 : Clean (uT.getD x.op.toNat []) := .getD (rQ rfl)
 have h9 : Clean (bT.getD x.op.toNat []) := .getD (rQ rfl)
 have h10 : Clean (ov.getD x.op.toNat []) := .getD (rQ rfl)
 unfold aM
 repeat' (first | refine pC.ite ?_ ?_ | exact .nil | refine .cons (by first | assumption | exact cU rfl) ?_)
theorem p3 {b : List Nat} (hb : cV b) (h : jV (b.length, aO b 0) = true) : Clean b := by
 intro x hx
 obtain ⟨i, hi, e⟩ := List.getElem_of_mem hx
 unfold jV iN at h
 simp only [Bool.and_eq_true] at h
 have hr := h.1.1.2
 unfold pR at hr
 rw [List.drop_zero] at hr
 have := List.all_eq_true.1 hr i (List.mem_range.2 hi)
 unfold mC at this
 simp only at this
 rw [dN hb hi] at this
 have e2 : b.getD i 0 = x := by rw [List.getD, List.getElem?_eq_getElem hi, e]; rfl
 rw [e2] at this
 unfold gI eL iC at this
 simp at this
 omega
theorem iY : ∀ {l : List (List Nat)}, l ≠ [] → pC l → cutAt 32 (aK l) = l
 | [], h, _ => absurd rfl h
 | [a], _, hc => by
  have : aK [a] = a := by simp [aK]
  rw [this]
  exact vD fun h => (hc a (by simp) 32 h).1 rfl
 | a :: b :: r, _, hc => by
  rw [p6 a (by simp), List.append_assoc]
  show cutAt 32 (a ++ 32 :: aK (b :: r)) = _
  rw [rP fun h => (hc a (by simp) 32 h).1 rfl, iY (l := b :: r) (by simp) fun p hp => hc p (by simp [hp])]
theorem Bk {l : List (List Nat)} (hc : pC l) : 10 ∉ aK l := by
 cases l with
 | nil => simp [aK]
 | cons a r =>
  intro h
  rcases List.mem_append.1 h with h | h
  ·exact (hc a (by simp) 10 h).2 rfl
  ·obtain ⟨y, hy, hby⟩ := List.mem_flatten.1 h
   obtain ⟨z, hz, rfl⟩ := List.mem_map.1 hy
   rcases List.mem_cons.1 hby with e | hby
   ·cases e
   ·exact (hc z (by simp [hz]) 10 hby).2 rfl
theorem xD {r : List Nat} : ∀ {ls : List (List (List Nat))}, (∀ l ∈ ls, pC l) → cutAt 10 ((ls.flatMap fun l => aK l ++ [10]) ++ r) = ls.map aK ++ cutAt 10 r
 | [], _ => rfl
 | l :: ls, h => by
  have e : cutAt 10 (aK l ++ 10 :: ((ls.flatMap fun l => aK l ++ [10]) ++ r)) = aK l :: cutAt 10 ((ls.flatMap fun l => aK l ++ [10]) ++ r) := rP (Bk (h l (by simp)))
  rw [List.flatMap_cons, List.append_assoc, List.append_assoc]
  refine e.trans ?_
  rw [xD fun q hq => h q (by simp [hq])]; rfl
/-! ## The lines of the text of code, as words -/
abbrev Gx (p : List Nat × Bool) : List (List Nat) := if p.2 then [cu, p.1] else [ou, p.1]
abbrev BD (a : List Nat × Nat) : List (List Nat) := [gT, a.1, aQ a.2]
abbrev xL (q : Nat × bI) : List (List Nat) := aQ q.1 :: aM q.2
def uW (c : bg) : List (List (List Nat)) := [pG, c.name, eZ, aQ c.local] :: (c.params.map Gx ++ c.shared.map BD ++ (List.range c.ay.length).map fun j => xL (j, c.ay.getD j b8))
theorem zk (c : bg) : eU c = (uW c).flatMap fun l => aK l ++ [10] := by
 unfold eU uW
 rw [List.flatMap_cons, List.flatMap_append, List.flatMap_append, List.flatMap_map, List.flatMap_map, List.flatMap_map]
 have e1 : aK [pG, c.name, eZ, aQ c.local] ++ [10] = gw c := by simp [aK, gw]
 have e2 : c.params.flatMap kC = c.params.flatMap fun p => aK (Gx p) ++ [10] := by
  congr 1
  funext p
  unfold kC
  obtain ⟨b, u⟩ := p
  cases u <;> simp [aK, Gx]
 have e3 : c.shared.flatMap tl = c.shared.flatMap fun a => aK (BD a) ++ [10] := by
  congr 1
  funext a
  simp [aK, BD, tl]
 have e4 : kE c.ay c.ay.length = (List.range c.ay.length).flatMap fun j => aK (xL (j, c.ay.getD j b8)) ++ [10] := by
  unfold kE
  congr 1
  funext j
  unfold vd xL
  rw [p6 _ (rz _).1, ← n9]
 rw [e1, e2, e3, e4, List.append_assoc, List.append_assoc, List.append_assoc]
structure DZ (c : bg) : Prop where
 v : V c = true
 name : Clean c.name
 params : ∀ p ∈ c.params, Clean p.1
 shared : ∀ p ∈ c.shared, Clean p.1
 each : ∀ x ∈ c.ay, gf (aM x) = x ∧ gm (aM x) = x
theorem qF {c : bg} (h : V c = true) : DZ c := by
 have hf := w5 h
 have h0 := h
 unfold V at h
 simp only [Bool.and_eq_true, List.all_eq_true, decide_eq_true_eq, jC] at h
 obtain ⟨⟨⟨⟨hb, hp⟩, hs⟩, hi⟩, hv⟩ := h
 unfold az.cF az.nk az.gg az.cB at hv
 simp only [Bool.and_eq_true, decide_eq_true_eq, List.all_eq_true] at hv
 obtain ⟨⟨⟨⟨⟨⟨⟨⟨⟨h1, h2⟩, h3⟩, h4⟩, h5⟩, _⟩, h6⟩, h7⟩, _⟩, h8⟩ := hv
 refine ⟨h0, p3 hb h1, fun p hpm => ?_, fun p hpm => ?_, fun x hx => Fc (h8 x hx) (hf.each x hx)⟩
 ·have := h4 _ (List.mem_map.2 ⟨p, hpm, rfl⟩)
  exact p3 (hp p hpm) this
 ·have := h5 _ (List.mem_map.2 ⟨p, hpm, rfl⟩)
  unfold eS at this
  simp only [Bool.and_eq_true, decide_eq_true_eq] at this
  exact p3 (hs p hpm) this.1.1
theorem A7 {c : bg} (h : DZ c) : ∀ l ∈ uW c, pC l := by
 intro l hl
 rcases List.mem_cons.1 hl with rfl | hl
 ·exact .cons (cU rfl) (.cons h.name (.cons (cU rfl) (.cons (.dec _) .nil)))
 ·rcases List.mem_append.1 hl with hl | hl
  ·rcases List.mem_append.1 hl with hl | hl
   ·obtain ⟨p, hp, rfl⟩ := List.mem_map.1 hl
    exact .ite (.cons (cU rfl) (.cons (h.params p hp) .nil)) (.cons (cU rfl) (.cons (h.params p hp) .nil))
   ·obtain ⟨p, hp, rfl⟩ := List.mem_map.1 hl
    exact .cons (cU rfl) (.cons (h.shared p hp) (.cons (.dec _) .nil))
  ·obtain ⟨j, hj, rfl⟩ := List.mem_map.1 hl
   exact .cons (.dec _) (sr _)
theorem G7 {c : bg} (h : DZ c) : cutAt 10 (eU c) = (uW c).map aK ++ [[]] := by
 have := xD (r := []) (A7 h)
 rw [List.append_nil] at this
 rw [zk]; exact this
end Ev
end Go.HL
namespace Go.HL
open Go
namespace Ev
open Em
set_option maxRecDepth 10000
theorem nf {a : List Nat} {r : List (List Nat)} (h : a ≠ []) : aK (a :: r) ≠ [] := by
 intro e
 exact h (List.append_eq_nil_iff.1 e).1
/-! ## One line -/
theorem El {i : Nat} (hi : 0 < i) {p : List Nat × Bool} (hp : Clean p.1) (c : ba) : dK i (aK (Gx p)) c = { c with params := c.params ++ [p] } ∧ dF i (aK (Gx p)) c = { c with params := c.params ++ [p] } := by
 obtain ⟨b, u⟩ := p
 cases u with
 | true =>
  have hc : cutAt 32 (aK [cu, b]) = [cu, b] := iY (by simp) (.cons (cU rfl) (.cons hp .nil))
  have hn : aK [cu, b] ≠ [] := nf (by simp)
  show dK i (aK [cu, b]) c = _ ∧ dF i (aK [cu, b]) c = _
  unfold dK dF
  rw [hc]
  simp [hn, gW, show ¬ i = 0 by omega]
 | false =>
  have hc : cutAt 32 (aK [ou, b]) = [ou, b] := iY (by simp) (.cons (cU rfl) (.cons hp .nil))
  have hn : aK [ou, b] ≠ [] := nf (by simp)
  show dK i (aK [ou, b]) c = _ ∧ dF i (aK [ou, b]) c = _
  unfold dK dF
  rw [hc]
  simp [hn, gW, show ¬ i = 0 by omega]
theorem Gu {i : Nat} (hi : 0 < i) {a : List Nat × Nat} (hp : Clean a.1) (ha : a.2 ≤ 64) (c : ba) : dK i (aK (BD a)) c = { c with shared := c.shared ++ [(a.1, (a.2 : Int))] } ∧ dF i (aK (BD a)) c = { c with shared := c.shared ++ [(a.1, (a.2 : Int))] } := by
 have hc : cutAt 32 (aK (BD a)) = BD a := iY (by simp) (.cons (cU rfl) (.cons hp (.cons (.dec _) .nil)))
 have hn : aK (BD a) ≠ [] := nf (by simp)
 have h1 := kU (n := (a.2 : Int)) (by omega) (by omega)
 have h2 := kT (n := (a.2 : Int)) (by omega) (by omega)
 unfold dK dF
 rw [hc]
 simp [hn, gW, show ¬ i = 0 by omega, h1, h2]
theorem En {i : Nat} (hi : 0 < i) {j : Nat} {x : bI} (hx : gf (aM x) = x ∧ gm (aM x) = x) (c : ba) : dK i (aK (xL (j, x))) c = { c with ay := c.ay ++ [x] } ∧ dF i (aK (xL (j, x))) c = { c with ay := c.ay ++ [x] } := by
 have hp := rz x
 have hc : cutAt 32 (aK (xL (j, x))) = xL (j, x) := iY (by simp) (.cons (.dec _) (sr x))
 obtain ⟨d, r, hd, _⟩ := oe (j : Int)
 have hn : aK (xL (j, x)) ≠ [] := nf (by rw [hd]; simp)
 have e1 : (aQ (j : Int) = cu) = False := cR (by omega)
 have e2 : (aQ (j : Int) = ou) = False := cR (by omega)
 have e3 : (aQ (j : Int) = gT) = False := cR (by omega)
 have g0 : gW (xL (j, x)) 0 = aQ (j : Int) := rfl
 have gd : (xL (j, x)).drop 1 = aM x := rfl
 unfold dK dF
 rw [hc, g0, gd, hx.1, hx.2]
 simp [hn, show ¬ i = 0 by omega, e1, e2, e3]
theorem BQ {c : bg} (h : Clean c.name) (hl : c.local ≤ 64) : dK 0 (aK [pG, c.name, eZ, aQ c.local]) xh = ⟨c.name, [], [], c.local, []⟩ ∧ dF 0 (aK [pG, c.name, eZ, aQ c.local]) xh = ⟨c.name, [], [], c.local, []⟩ := by
 have hc : cutAt 32 (aK [pG, c.name, eZ, aQ c.local]) = [pG, c.name, eZ, aQ c.local] := iY (by simp) (.cons (cU rfl) (.cons h (.cons (cU rfl) (.cons (.dec _) .nil))))
 have hn : aK [pG, c.name, eZ, aQ c.local] ≠ [] := nf (by simp)
 have h1 := kU (n := (c.local : Int)) (by omega) (by omega)
 have h2 := kT (n := (c.local : Int)) (by omega) (by omega)
 unfold dK dF
 rw [hc]
 simp [hn, gW, h1, h2, xh]
/-! ## All lines -/
theorem B9 {r : List (List Nat)} : ∀ {ps : List (List Nat × Bool)} {i : Nat} {c : ba}, 0 < i → (∀ p ∈ ps, Clean p.1) → c.ay.length ≤ 2000 →
  iE i ((ps.map Gx).map aK ++ r) c = iE (i + ps.length) r { c with params := c.params ++ ps } ∧ iT i ((ps.map Gx).map aK ++ r) c = iT (i + ps.length) r { c with params := c.params ++ ps }
 | [], i, c, _, _, _ => by simp
 | p :: ps, i, c, hi, hp, hn => by
  obtain ⟨h1, h2⟩ := El hi (hp p (by simp)) c
  obtain ⟨g1, g2⟩ := B9 (r := r) (ps := ps) (i := i + 1) (c := { c with params := c.params ++ [p] }) (by omega) (fun q hq => hp q (by simp [hq])) hn
  show iE i (aK (Gx p) :: ((ps.map Gx).map aK ++ r)) c = _ ∧ iT i (aK (Gx p) :: ((ps.map Gx).map aK ++ r)) c = _
  rw [iE, iT, if_neg (by omega), h1, h2, g1, g2, List.append_assoc, List.length_cons, Nat.add_assoc, Nat.add_comm 1]
  exact ⟨rfl, rfl⟩
theorem DN {r : List (List Nat)} : ∀ {ps : List (List Nat × Nat)} {i : Nat} {c : ba}, 0 < i → (∀ p ∈ ps, Clean p.1 ∧ p.2 ≤ 64) → c.ay.length ≤ 2000 →
  iE i ((ps.map BD).map aK ++ r) c = iE (i + ps.length) r { c with shared := c.shared ++ ps.map fun a => (a.1, (a.2 : Int)) } ∧ iT i ((ps.map BD).map aK ++ r) c = iT (i + ps.length) r { c with shared := c.shared ++ ps.map fun a => (a.1, (a.2 : Int)) }
 | [], i, c, _, _, _ => by simp
 | p :: ps, i, c, hi, hp, hn => by
  obtain ⟨h1, h2⟩ := Gu hi (hp p (by simp)).1 (hp p (by simp)).2 c
  obtain ⟨g1, g2⟩ := DN (r := r) (ps := ps) (i := i + 1) (c := { c with shared := c.shared ++ [(p.1, (p.2 : Int))] }) (by omega) (fun q hq => hp q (by simp [hq])) hn
  show iE i (aK (BD p) :: ((ps.map BD).map aK ++ r)) c = _ ∧ iT i (aK (BD p) :: ((ps.map BD).map aK ++ r)) c = _
  rw [iE, iT, if_neg (by omega), h1, h2, g1, g2, List.append_assoc, List.length_cons, Nat.add_assoc, Nat.add_comm 1]
  exact ⟨rfl, rfl⟩
theorem DO {r : List (List Nat)} {g : Nat → bI} : ∀ {js : List Nat} {i : Nat} {c : ba}, 0 < i → (∀ j ∈ js, gf (aM (g j)) = g j ∧ gm (aM (g j)) = g j) → c.ay.length + js.length ≤ 2000 →
  iE i ((js.map fun j => xL (j, g j)).map aK ++ r) c = iE (i + js.length) r { c with ay := c.ay ++ js.map g } ∧ iT i ((js.map fun j => xL (j, g j)).map aK ++ r) c = iT (i + js.length) r { c with ay := c.ay ++ js.map g }
 | [], i, c, _, _, _ => by simp
 | p :: ps, i, c, hi, hp, hn => by
  rw [List.length_cons] at hn
  obtain ⟨h1, h2⟩ := En (j := p) hi (hp p (by simp)) c
  obtain ⟨g1, g2⟩ := DO (r := r) (g := g) (js := ps) (i := i + 1) (c := { c with ay := c.ay ++ [g p] }) (by omega) (fun q hq => hp q (by simp [hq])) (by simp only [List.length_append, List.length_singleton]; omega)
  show iE i (aK (xL (p, g p)) :: ((ps.map fun j => xL (j, g j)).map aK ++ r)) c = _ ∧ iT i (aK (xL (p, g p)) :: ((ps.map fun j => xL (j, g j)).map aK ++ r)) c = _
  rw [iE, iT, if_neg (by omega), h1, h2, g1, g2, List.append_assoc, List.length_cons, Nat.add_assoc, Nat.add_comm 1]
  exact ⟨rfl, rfl⟩
theorem BN {α : Type} (l : List α) (d : α) : (List.range l.length).map (fun j => l.getD j d) = l := by
 refine List.ext_getElem (by simp) fun i h1 h2 => ?_
 simp [List.getD, List.getElem?_eq_getElem h2]
theorem qP {c : bg} (h : DZ c) : iE 0 (cutAt 10 (eU c)) xh = some (JC c) ∧ iT 0 (cutAt 10 (eU c)) xh = JC c := by
 have hf := w5 h.v
 obtain ⟨h1, h2⟩ := BQ h.name hf.local
 rw [G7 h]
 unfold uW
 rw [List.map_cons, List.map_append, List.map_append]
 show iE 0 (aK [pG, c.name, eZ, aQ c.local] :: (_ ++ [[]])) xh = _ ∧ iT 0 (aK [pG, c.name, eZ, aQ c.local] :: (_ ++ [[]])) xh = _
 rw [iE, iT, if_neg (by simp [xh]), h1, h2, List.append_assoc, List.append_assoc]
 obtain ⟨g1, g2⟩ := B9 (r := (c.shared.map BD).map aK ++ (((List.range c.ay.length).map fun j => xL (j, c.ay.getD j b8)).map aK ++ [[]])) (ps := c.params) (i := 0 + 1) (c := ⟨c.name, [], [], c.local, []⟩) (by omega) h.params (by simp)
 rw [g1, g2]
 obtain ⟨g3, g4⟩ := DN (r := (((List.range c.ay.length).map fun j => xL (j, c.ay.getD j b8)).map aK ++ [[]])) (ps := c.shared) (i := 0 + 1 + c.params.length) (c := ⟨c.name, [] ++ c.params, [], c.local, []⟩) (by omega) (fun p hp => ⟨h.shared p hp, (hf.dX p hp).2⟩) (by simp)
 rw [g3, g4]
 obtain ⟨g5, g6⟩ := DO (r := [[]]) (g := fun j => c.ay.getD j b8) (js := List.range c.ay.length) (i := 0 + 1 + c.params.length + c.shared.length) (c := ⟨c.name, [] ++ c.params, [] ++ c.shared.map fun a => (a.1, (a.2 : Int)), c.local, []⟩) (by omega) (fun j hj => h.each _ (aY _ (List.mem_range.1 hj))) (by have := hf.ay; simpa using this)
 rw [g5, g6, BN]
 have hlen := hf.ay
 have hz : ∀ {i : Nat} {c : ba}, 0 < i → dF i [] c = c := fun {i c} hi => by
  unfold dF
  rw [if_neg (by omega)]
  simp [cutAt, gW]
 have hz2 : ∀ {i : Nat} {c : ba}, dK i [] c = c := fun {i c} => by unfold dK; rw [if_pos rfl]
 rw [iE, iT, if_neg (by simp only [List.nil_append]; omega), hz (by omega), hz2, iE, iT]
 exact ⟨rfl, rfl⟩
/-! ## What was read is fair -/
theorem rO {t : List Nat} (h : tn t) (c i : Nat) : tn (gW (cutAt c t) i) := by
 by_cases hi : i < (cutAt c t).length
 ·have := iZ c t _ (aY [] hi)
  exact ⟨fun x hx => h.1 x (this.2 x hx), Nat.le_trans this.1 h.2⟩
 ·unfold gW
  rw [List.getD, List.getElem?_eq_none (by omega)]
  exact ⟨.nil, by simp⟩
end Ev
end Go.HL
