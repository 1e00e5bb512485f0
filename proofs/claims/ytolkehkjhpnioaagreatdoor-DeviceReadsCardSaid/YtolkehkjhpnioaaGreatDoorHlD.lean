/- HL: all operations; one operation in a frame; regions whose order is fixed. No statement of the seat stands here. -/
import Derived.Test.YtolkehkjhpnioaaGreatDoorHlC
import Derived.Lib.Bytealg
import Derived.Lib.MakeNoZero
import Derived.Test.YtolkehkjhpnioaaGreatDoorHlA
import Derived.Recover
import Derived.Orders
namespace Go.HL
open Go
section
variable {P : Program} {σ : Places} {h : Heap} {w : World}
/-! ## Calls -/
theorem find_clone (fn : Func) (h1 : fn.name = "maps.clone") (h2 : fn.origin = "") : Extern.findNext fn = none ∧ Extern.find fn = some Extern.MapsClone.clone := by
 constructor
 ·unfold Extern.findNext; rw [h1, h2]; rfl
 ·unfold Extern.find; rw [h1, h2]; rfl
theorem find_noEscape (fn : Func) (h1 : fn.name = "internal/abi.NoEscape") (h2 : fn.origin = "") : Extern.findNext fn = none ∧ Extern.find fn = some Extern.AbiNoEscape.same := by
 constructor
 ·unfold Extern.findNext; rw [h1, h2]; rfl
 ·unfold Extern.find; rw [h1, h2]; rfl
theorem find_count (fn : Func) (h1 : fn.name = "internal/bytealg.CountString") (h2 : fn.origin = "") : Extern.findNext fn = none ∧ Extern.find fn = some Extern.BytealgCount.count := by
 constructor
 ·unfold Extern.findNext; rw [h1, h2]; rfl
 ·unfold Extern.find; rw [h1, h2]; rfl
theorem find_index (fn : Func) (h1 : fn.name = "internal/bytealg.IndexByteString") (h2 : fn.origin = "") : Extern.findNext fn = none ∧ Extern.find fn = some Extern.BytealgIndexByte.indexByte := by
 constructor
 ·unfold Extern.findNext; rw [h1, h2]; rfl
 ·unfold Extern.find; rw [h1, h2]; rfl
theorem find_noZero (fn : Func) (h1 : fn.name = "internal/bytealg.MakeNoZero") (h2 : fn.origin = "") : Extern.findNext fn = none ∧ Extern.find fn = some (Extern.BytealgMakeNoZero.makeNoZero fn.params fn.resultTypes) := by
 constructor
 ·unfold Extern.findNext; rw [h1, h2]; rfl
 ·unfold Extern.find; rw [h1, h2]; rfl
theorem noZero_rel (r : Rel P σ h w) {ps rs : Array TypeId} {n : Nat} {out : Out} (e : noZeroH P rs n h = some out) :
  OutRel P σ h w out ((do pure (Next.value (← Extern.BytealgMakeNoZero.makeNoZero ps rs #[.int .i64 n]))).run P w) := by
 unfold noZeroH at e
 split at e
 ·rename_i t hrs
  have hrs' : rs = #[t] := Array.ext' hrs
  subst hrs'
  split at e
  ·rename_i el hu
   obtain ⟨h0, e1⟩ := bcase_none_eq_some.1 e
   obtain ⟨h1, e2⟩ := bcase_eq_some.1 e1
   obtain ⟨h2, e3⟩ := bcase_eq_some.1 e2
   cases e3
   rw [nbeq] at h0 h1
   rw [nble] at h2
   have h0' : el ≠ 0 := of_decide_eq_false h0
   have h1' : P.cellsOf el = 1 := of_decide_eq_true h1
   have h2' : n ≤ 140737488355328 := of_decide_eq_true h2
   obtain ⟨cs, hrun, hn, _⟩ := Lib.run_makeNoZero (P := P) w ps t el hu n (by omega)
   have s0 := (Step.drew r).trans (Step.drew (Step.drew r).rel)
   let p : Place := ⟨w.heap.size, 0, P.cellsOf el, cs.size⟩
   have s1 : Step P σ h w.drew.drew (σ.upd h.next p) (h.new (.cells [] el true true)) (w.drew.drew.alloc (.cells cs el)) := by
    refine Step.new s0.rel rfl ⟨cs, el, (0, 0), rfl, ?_, by simp, fun _ => rfl, fun _ => ⟨rfl, by simp [p]⟩, fun c => by simp at c, fun _ _ => rfl, .inr ⟨rfl, h0'⟩⟩
    exact VRels.nil
   refine OutRel.step (v := .slice (some ⟨w.heap.size, 0, none⟩) n cs.size) ?_ ⟨p, cs.size, σ.upd_same _ _, by simp [p], hn, .inr (by simp [p, h1'])⟩ (s0.trans s1)
   simp [hrun]
  ·cases e
 ·cases e
theorem digL_eq (s : ByteArray) : ∀ (m i : Nat), i + m ≤ s.size → digL s.size (codeOf s.data.toList) i m = ((s.data.toList.drop i).take m).map UInt8.toNat
 | 0, i, _ => by simp [digL]
 | m + 1, i, h => by
  have hi : i < s.size := by omega
  have hi' : i < s.data.toList.length := by simpa using hi
  rw [digL, sIndex_eq s i hi, digL_eq s m (Nat.succ i) (by omega), List.drop_eq_getElem_cons hi', List.take_succ_cons, List.map_cons]
  simp [ByteArray.getElem_eq_getElem_data]
theorem digL_all (s : ByteArray) : digL s.size (codeOf s.data.toList) 0 s.size = s.data.toList.map UInt8.toNat := by
 rw [digL_eq s s.size 0 (by omega), List.drop_zero, List.take_of_length_le (by simp)]
theorem byte_beq (x : UInt8) (b : Nat) (hb : b < 256) : Nat.beq x.toNat b = (x == b.toUInt8) := by
 rw [nbeq]
 have e : (b.toUInt8).toNat = b := by simp [Nat.toUInt8]; omega
 by_cases h : x = b.toUInt8
 ·subst h; simp [e]
 ·have : x.toNat ≠ b := fun hh => h (UInt8.toNat_inj.1 (by rw [e]; exact hh))
  rw [decide_eq_false this]
  simp [h]
theorem countL_eq (b : Nat) (hb : b < 256) : ∀ l : List UInt8, countL b (l.map UInt8.toNat) = Lib.countByte l b.toUInt8
 | [] => rfl
 | x :: l => by
  have ih := countL_eq b hb l
  unfold Lib.countByte at ih ⊢
  rw [List.map_cons, countL, byte_beq x b hb, List.count_cons, ih, bcE]
  split <;> rfl
theorem indexL_eq (b : Nat) (hb : b < 256) : ∀ l : List UInt8, indexV (indexL b (l.map UInt8.toNat)) = Lib.indexByte l b.toUInt8
 | [] => rfl
 | x :: l => by
  have ih := indexL_eq b hb l
  rw [List.map_cons, indexL, byte_beq x b hb, bcE, Lib.indexByte]
  by_cases h : (x == b.toUInt8) = true
  ·rw [if_pos h, if_pos h]; rfl
  ·rw [if_neg h, if_neg h, ← ih]
   cases indexL b (l.map UInt8.toNat) with
   | none => rfl
   | some i =>
    show Int.ofNat (i + 1) = if (Int.ofNat i == -1) = true then -1 else Int.ofNat i + 1
    have : ¬ (Int.ofNat i == -1) = true := by simp
    rw [if_neg this]; rfl
theorem strByte_inv {x y : HVal} {f : Nat → Nat → Nat → HVal} {h : Heap} {out : Out} (e : strByte x y f h = some out) : ∃ n c b, x = .str n c ∧ y = .int .u8 (.ofNat b) ∧ b < 256 ∧ out = .val (f n c b) h := by
 unfold strByte at e
 split at e
 ·split at e
  ·obtain ⟨hb, e⟩ := bcase_eq_some.1 e
   cases e
   rw [nblt] at hb
   exact ⟨_, _, _, rfl, rfl, of_decide_eq_true hb, rfl⟩
  ·cases e
 ·cases e
theorem call_rel (r : Rel P σ h w) {f : Nat} {args : List HVal} {args' : List Value} {out : Out} (ha : VRels σ args args') (e : callH P f args h = some out) : OutRel P σ h w out ((callFunc f ⟨args'⟩).run P w) := by
 unfold callH at e
 obtain ⟨fn, hf, e⟩ := ob_eq_some.1 e
 cases hb : fn.body with
 | some c =>
  rw [hb] at e
  simp only at e
  obtain ⟨hn, e⟩ := bcase_none_eq_some.1 e
  obtain ⟨hlt, e⟩ := bcase_eq_some.1 e
  cases e
  rw [nblt] at hlt
  refine ⟨args', .inl ⟨of_decide_eq_true hlt, ?_⟩, ha, rfl⟩
  have hn' : fn.name ≠ "runtime.NumGoroutine" := by simpa using hn
  simp [callFunc, hf, hn', hb]
 | none =>
  rw [hb] at e
  simp only at e
  unfold externH at e
  obtain ⟨ho, e⟩ := bcase_eq_some.1 e
  have ho' : fn.origin = "" := by simpa using ho
  cases args with
  | nil => simp at e
  | cons x l =>
   cases l with
   | cons y l =>
    cases l with
    | cons => simp at e
    | nil =>
     simp only at e
     obtain ⟨x', m, rfl, hx, hm⟩ := ha.cons_inv
     obtain ⟨y', m', rfl, hy, hm'⟩ := hm.cons_inv
     obtain rfl := hm'.nil_inv
     rw [bcE] at e
     split at e
     ·rename_i hnm
      have hnm' : fn.name = "internal/bytealg.CountString" := by simpa using hnm
      obtain ⟨n, c, b, rfl, rfl, hb256, rfl⟩ := strByte_inv e
      obtain ⟨s, rfl, rfl, rfl⟩ := hx
      obtain rfl := hy
      obtain ⟨g1, g2⟩ := find_count fn hnm' ho'
      refine OutRel.same' (v := .int .i64 (Lib.countByte s.data.toList b.toUInt8 : Nat)) r ?_ ?_
      ·show Value.int .i64 _ = Value.int .i64 _
       rw [digL_all, countL_eq b hb256]; rfl
      ·have hrun := Lib.run_countString (P := P) s (b : Int) w
       have e2 : (b : Int).toNat.toUInt8 = b.toUInt8 := rfl
       rw [e2] at hrun
       simp [callFunc, hf, hb, hnm', g1, g2, hrun]
     ·obtain ⟨hnm, e⟩ := bcase_eq_some.1 e
      have hnm' : fn.name = "internal/bytealg.IndexByteString" := by simpa using hnm
      obtain ⟨n, c, b, rfl, rfl, hb256, rfl⟩ := strByte_inv e
      obtain ⟨s, rfl, rfl, rfl⟩ := hx
      obtain rfl := hy
      obtain ⟨g1, g2⟩ := find_index fn hnm' ho'
      refine OutRel.same' (v := .int .i64 (Lib.indexByte s.data.toList b.toUInt8)) r ?_ ?_
      ·show Value.int .i64 _ = Value.int .i64 _
       rw [digL_all, indexL_eq b hb256]
      ·have hrun := Lib.run_indexByteString (P := P) s (b : Int) w
       have e2 : (b : Int).toNat.toUInt8 = b.toUInt8 := rfl
       rw [e2] at hrun
       simp [callFunc, hf, hb, hnm', g1, g2, hrun]
   | nil =>
    simp only at e
    obtain ⟨x', m, rfl, hx, hm⟩ := ha.cons_inv
    obtain rfl := hm.nil_inv
    rw [bcE] at e
    split at e
    ·rename_i hnm
     have hnm' : fn.name = "maps.clone" := by simpa using hnm
     obtain ⟨ty, v, rfl⟩ : ∃ ty v, x = .iface ty v := by cases x <;> simp at e ⊢
     simp only at e
     obtain ⟨y, rfl, hy⟩ := hx
     obtain ⟨k, hk, e1⟩ := ob_eq_some.1 e
     clear e
     obtain rfl := isMap_inv hk
     clear hk
     obtain ⟨p, hp, rfl⟩ := hy
     obtain ⟨o, hoe, e2⟩ := ob_eq_some.1 e1
     cases e2
     obtain ⟨q, es', hq, hbk, hrel⟩ := r.entries hp hoe
     rw [hp] at hq; cases hq
     obtain ⟨g1, g2⟩ := find_clone fn hnm' ho'
     have s1 := Step.new r (o := .map o.1 o.2.1 true) (p := ⟨w.heap.size, 0, 0, 0⟩) (b := .map es' o.2.1) rfl ⟨es', rfl, hrel.mono (Places.le_upd _ r.next_none)⟩
     refine OutRel.step (v := .iface ty (.map (some w.heap.size))) ?_ ⟨_, rfl, _, σ.upd_same _ _, rfl⟩ s1
     have hrun : (Extern.MapsClone.clone #[.iface ty (.map (some p.blk))]).run P w = .ok (.iface ty (.map (some w.heap.size))) (w.alloc (.map es' o.2.1)) := by
      change Sem.run P (Bind.bind (getObj p.blk) _) w = _
      simp [run_getMap hbk]
     simp [callFunc, hf, hb, hnm', g1, g2, hrun]
    ·rw [bcE] at e
     split at e
     ·rename_i hnm
      have hnm' : fn.name = "internal/abi.NoEscape" := by simpa using hnm
      cases e
      obtain ⟨g1, g2⟩ := find_noEscape fn hnm' ho'
      refine OutRel.same' r hx ?_
      have hsame : (Extern.AbiNoEscape.same #[x']).run P w = .ok x' w := rfl
      simp [callFunc, hf, hb, hnm', g1, g2, hsame]
     ·obtain ⟨hnm, e⟩ := bcase_eq_some.1 e
      have hnm' : fn.name = "internal/bytealg.MakeNoZero" := by simpa using hnm
      obtain ⟨n, rfl, e1⟩ : ∃ n, x = .int .i64 (.ofNat n) ∧ noZeroH P fn.resultTypes n h = some out := by
       split at e
       ·exact ⟨_, rfl, e⟩
       ·cases e
      obtain rfl := hx
      obtain ⟨g1, g2⟩ := find_noZero fn hnm' ho'
      have := noZero_rel r (ps := fn.params) e1
      have hrun : (callFunc f ⟨[.int .i64 (Int.ofNat n)]⟩).run P w = (do pure (Next.value (← Extern.BytealgMakeNoZero.makeNoZero fn.params fn.resultTypes #[.int .i64 n])) : Sem Next).run P w := by
       simp [callFunc, hf, hb, hnm', g1, g2]
      rw [hrun]
      exact this
/-! ## Bytes -/
theorem bytes_step {l : List HVal} {u : Value} {m : List Value} {a c b : Nat} (hu : VRel σ (.int .u8 (.ofNat b)) u) (hl : VRels σ l m) (e : bcase (Nat.blt b 256) (bytesCode l (Nat.add (Nat.mul a 256) b)) none = some c)
  (ih : bytesCode l (Nat.add (Nat.mul a 256) b) = some c → ∃ bs : List UInt8, m = bs.map (fun b => Value.int .u8 b.toNat) ∧ c = (Nat.add (Nat.mul a 256) b) * 256 ^ bs.length + codeOf bs ∧ bs.length = l.length) :
  ∃ bs : List UInt8, u :: m = bs.map (fun b => Value.int .u8 b.toNat) ∧ c = a * 256 ^ bs.length + codeOf bs ∧ bs.length = (HVal.int .u8 (.ofNat b) :: l).length := by
 obtain ⟨hb, e⟩ := bcase_eq_some.1 e
 rw [nblt] at hb
 have hb' : b < 256 := by simpa using hb
 obtain ⟨bs, rfl, h2, h3⟩ := ih e
 obtain rfl := hu
 refine ⟨UInt8.ofNat b :: bs, ?_, ?_, by simp [h3]⟩
 ·have : (UInt8.ofNat b).toNat = b := by simp [Nat.mod_eq_of_lt hb']
  simp [this]
 ·rw [h2, codeOf_cons]
  have : (UInt8.ofNat b).toNat = b := by simp [Nat.mod_eq_of_lt hb']
  rw [this, List.length_cons, Nat.pow_succ]
  show (a * 256 + b) * 256 ^ bs.length + codeOf bs = _
  rw [Nat.add_mul, Nat.mul_assoc, Nat.mul_comm 256]
  omega
theorem bytesCode_rel : ∀ {l : List HVal} {vs : List Value} {a c : Nat}, VRels σ l vs → bytesCode l a = some c →
  ∃ bs : List UInt8, vs = bs.map (fun b => Value.int .u8 b.toNat) ∧ c = a * 256 ^ bs.length + codeOf bs ∧ bs.length = l.length
 | [], vs, a, c, hl, e => by
  obtain rfl := hl.nil_inv
  simp [bytesCode] at e; subst e
  exact ⟨[], rfl, by simp [codeOf_nil], rfl⟩
 | v :: l, vs, a, c, hl0, e => by
  obtain ⟨u, m, rfl, hu, hl⟩ := hl0.cons_inv
  clear hl0
  unfold bytesCode at e
  cases v with
  | int k n =>
   cases k with
   | u8 =>
    cases n with
    | ofNat b => exact bytes_step hu hl e fun h => bytesCode_rel hl h
    | negSucc b => simp at e
   | _ => simp at e
  | _ => simp at e
theorem run_bytes (bs : List UInt8) : ∀ (s : ByteArray), (forIn (bs.map fun b => Value.int .u8 (b.toNat : Int)) s (fun (c : Value) (s : ByteArray) => (do
   match c with
   | .int .u8 n => pure (ForInStep.yield (s.push (UInt8.ofNat n.toNat)))
   | _ => do
    stuck "bytesToString: byte expected"
    pure (ForInStep.yield s) : Sem (ForInStep ByteArray)))).run P w = .ok ⟨s.data ++ bs.toArray⟩ w := by
 induction bs with
 | nil => intro s; simp
 | cons b bs ih =>
  intro s
  simp only [List.map_cons, List.forIn_cons, Sem.run_bind, Sem.run_pure, Result.andThen_ok]
  have hp : s.push (UInt8.ofNat ((b.toNat : Int).toNat)) = ⟨s.data.push b⟩ := by simp [ByteArray.push]
  rw [hp, ih]
  simp
theorem bytesToString_rel (r : Rel P σ h w) {k off n : Nat} {cap : Option Nat} {x' : Value} {l : List HVal} {c : Nat} (hx : VRel σ (.slice k off n cap) x') (hl : loadN h k off n = some l) (hc : bytesCode l 0 = some c) :
  ∃ s, (Conv.bytesToString x').run P w = .ok (.string s) w ∧ VRel σ (.str n c) (.string s) := by
 obtain ⟨p, cc, hp, rfl, _, _⟩ := hx
 obtain ⟨vs, h1, h2, _, _, h5⟩ := loadN_rel r hp hl
 obtain ⟨bs, rfl, g2, g3⟩ := bytesCode_rel h1 hc
 refine ⟨⟨bs.toArray⟩, ?_, _, rfl, by show bs.toArray.size = n; simp; omega, by simpa using g2.symm⟩
 have := run_bytes (P := P) (w := w) bs ByteArray.empty
 simp only [Conv.bytesToString, Sem.run_bind, h5, Result.andThen_ok]
 rw [← Array.forIn_toList]
 refine (congrArg (fun q => q.andThen fun (a : ByteArray) (w' : World) => Sem.run P (Pure.pure (Value.string a)) w') this).trans ?_
 simp
end
end Go.HL
namespace Go.HL
open Go
section
variable {P : Program} {σ : Places} {h : Heap} {w : World}
theorem shape_of_cells {b : Nat} {C : Array Value} {elem : TypeId} {fr : Nat × Nat} (hb : w.heap[b]? = some (.cells C elem fr)) : w.shape? b = some (elem, C.size) := by
 simp [World.shape?, hb]
theorem run_viewAt {b : Nat} {C : Array Value} {elem : TypeId} {fr : Nat × Nat} (hb : w.heap[b]? = some (.cells C elem fr)) : (viewAt b).run P w = .ok none w := by
 simp [viewAt, shape_of_cells hb]
theorem run_seenAt {a : Addr} {C : Array Value} {elem : TypeId} {fr : Nat × Nat} (hb : w.heap[a.block]? = some (.cells C elem fr)) : (Conv.seenAt a).run P w = .ok a w := by
 simp [Conv.seenAt, run_viewAt hb]
theorem cells_block (r : Rel P σ h w) {k : Nat} {o : List HVal × Nat × Bool × Bool} (ho : h.cells k = some o) {p : Place} (hp : σ k = some p) :
  ∃ C elem fr, w.heap[p.blk]? = some (.cells C elem fr) ∧ VRels σ o.1 ((C.toList.drop p.base).take o.1.length) ∧ (∀ x ∈ o.1, x.scalar = true) ∧
   (o.2.1 ≠ roTy → elem = o.2.1) ∧ (o.2.2.2 = true → fr = (0, 0) ∧ C.size = p.base + p.cells) ∧ (o.2.2.1 = false → p.base = 0 ∧ C.size = o.1.length) := by
 obtain ⟨q, hq, C, elem, fr, h1, h2, h3, h4, h5, h6, _⟩ := r.cells hp ho
 rw [hp] at hq; cases hq
 exact ⟨C, elem, fr, h1, h2, h3, h4, h5, h6⟩
theorem conv_rel (r : Rel P σ h w) {s d : TypeId} {x : HVal} {x' : Value} {out : Out} (hx : VRel σ x x') (e : convH P s d x h = some out) :
  OutRel P σ h w out ((do pure (Next.value (← convert s d x'))).run P w) := by
 unfold convH at e
 cases hd : P.underlying d with
 | none => simp [hd] at e
 | some dd =>
  rw [hd] at e
  cases dd <;> simp only at e <;> try (cases e; done)
  case int k =>
   obtain ⟨sd, hs, e1⟩ := ob_eq_some.1 e
   obtain ⟨n, hn, e2⟩ := ob_eq_some.1 e1
   clear e e1
   obtain rfl := isInt_inv hn
   cases e2
   obtain rfl := hx
   refine OutRel.same' (v := .int k (k.wrap n.2)) r (by simp [VRel, wrapF_eq]) ?_
   simp [convert, rU w hs, rU w hd, Conv.intToInt]
  case string =>
   cases hs : P.underlying s with
   | none => simp [hs] at e
   | some sd =>
    rw [hs] at e
    cases sd <;> simp only at e <;> try (cases e; done)
    case string =>
     cases x <;> simp only at e <;> try (cases e; done)
     cases e
     obtain ⟨st, rfl, g1, g2⟩ := hx
     refine OutRel.same' (v := .string st) r ⟨st, rfl, g1, g2⟩ ?_
     simp [convert, rU w hs, rU w hd]
    case slice el =>
     cases he : P.underlying el with
     | none => simp [he] at e
     | some ed =>
      rw [he] at e
      obtain rfl : ed = .int .u8 := by
       cases ed with
       | int kk => cases kk <;> first | rfl | (simp at e; done)
       | _ => simp at e
      simp only at e
      skip
      ·cases x <;> simp only at e <;> try (cases e; done)
       case nils =>
        cases e
        obtain rfl := hx
        refine OutRel.same' (v := .string .empty) r ⟨.empty, rfl, rfl, rfl⟩ ?_
        simp [convert, rU w hs, rU w hd, rU w he, Conv.bytesToString]
       case slice k off n cap =>
        obtain ⟨l, hl, e1⟩ := ob_eq_some.1 e
        obtain ⟨c, hc, e2⟩ := ob_eq_some.1 e1
        cases e2
        obtain ⟨st, g1, g2⟩ := bytesToString_rel (P := P) r hx hl hc
        obtain ⟨p, cc, hp, rfl, _⟩ := hx
        refine OutRel.same' r g2 ?_
        simp [convert, rU w hs, rU w hd, rU w he, g1]
  case unsafePointer =>
   cases hs : P.underlying s with
   | none => simp [hs] at e
   | some sd =>
    rw [hs] at e
    cases sd <;> simp only at e <;> try (cases e; done)
    case pointer t =>
     obtain ⟨a, ha, e1⟩ := ob_eq_some.1 e
     clear e
     obtain rfl := isPtr_inv ha
     clear ha
     obtain ⟨hz, e2⟩ := bcase_none_eq_some.1 e1
     obtain ⟨y, hy, e3⟩ := ob_eq_some.1 e2
     cases e3
     obtain ⟨p, hp, rfl⟩ := hx
     rw [nbeq] at hz
     have hz' : P.cellsOf t ≠ 0 := by simpa using hz
     have hi : ∃ i, P.info? t = some i := by
      cases hi : P.info? t with
      | none => simp [Program.cellsOf, hi] at hz'
      | some i => exact ⟨i, rfl⟩
     obtain ⟨i, hi⟩ := hi
     obtain ⟨v, hv, _, _⟩ := load1_rel r hp hy
     have hblk : ∃ C elem fr, w.heap[p.blk]? = some (.cells C elem fr) ∧ p.base + a.2 < C.size := by
      unfold World.cell? at hv
      split at hv
      ·rename_i C elem fr hb
       refine ⟨C, elem, fr, hb, ?_⟩
       simp only [Option.isSome_none, Bool.false_eq_true, if_false] at hv
       exact (Array.getElem?_eq_some_iff.1 hv).1
      ·cases hv
     obtain ⟨C, elem, fr, hb, hlt⟩ := hblk
     refine OutRel.same' (v := .pointer (some ⟨p.blk, p.base + a.2, none⟩)) r ⟨p, hp, rfl⟩ ?_
     have hsn := run_seenAt (P := P) (a := ⟨p.blk, p.base + a.2, none⟩) hb
     have hge : ¬ (C.size ≤ p.base + a.2) := by omega
     simp [convert, rU w hs, rU w hd, Conv.unsafePointer, hsn, cellsIn, shape_of_cells hb, run_sizeOf' w hi, hz', hge]
  case pointer u =>
   cases hs : P.underlying s with
   | none => simp [hs] at e
   | some sd =>
    rw [hs] at e
    cases sd <;> simp only at e <;> try (cases e; done)
    case unsafePointer =>
     obtain ⟨a, ha, e1⟩ := ob_eq_some.1 e
     clear e
     obtain rfl := isPtr_inv ha
     clear ha
     obtain ⟨o, ho, e2⟩ := ob_eq_some.1 e1
     obtain ⟨hty, e3⟩ := bcase_none_eq_some.1 e2
     obtain ⟨hsp, e4⟩ := bcase_none_eq_some.1 e3
     obtain ⟨hz, e5⟩ := bcase_none_eq_some.1 e4
     obtain ⟨hla, e6⟩ := bcase_eq_some.1 e5
     cases e6
     obtain ⟨p, hp, rfl⟩ := hx
     rw [nbeq] at hz hty
     have hz' : P.cellsOf u ≠ 0 := by simpa using hz
     have hi : ∃ i, P.info? u = some i := by
      cases hi : P.info? u with
      | none => simp [Program.cellsOf, hi] at hz'
      | some i => exact ⟨i, rfl⟩
     obtain ⟨i, hi⟩ := hi
     obtain ⟨C, elem, fr, hb, _, _, hel, _, hex⟩ := cells_block r ho hp
     obtain ⟨hbase, hcs⟩ := hex hsp
     have hel' := hel (by show o.2.1 ≠ 0; simpa using hty)
     subst hel'
     refine OutRel.same' (v := .pointer (some ⟨p.blk, p.base + a.2, none⟩)) r ⟨p, hp, rfl⟩ ?_
     have hsn := run_seenAt (P := P) (a := ⟨p.blk, p.base + a.2, none⟩) hb
     have hva : (variablesAt ⟨p.blk, p.base + a.2, none⟩ u 1).run P w = .ok true w := by
      simp only [variablesAt, Sem.run_bind, run_program, Result.andThen_ok, run_shape, shape_of_cells hb, Sem.run_pure, Result.ok.injEq, and_true]
      rw [hbase, hcs, Nat.zero_add]
      exact hla
     simp [convert, rU w hs, rU w hd, Conv.unsafePointer, hsn, run_sizeOf' w hi, hz', hva]
theorem alloc_freeze (w : World) (C : Array Value) (e : TypeId) (n : Nat) : (w.alloc (.cells C e)).freeze ⟨w.heap.size, n, none⟩ 1 = w.alloc (.cells C e (n, n + 1)) := by
 have hh : ∀ f : Obj → Obj, (w.heap.push (.cells C e)).modify w.heap.size f = w.heap.push (f (.cells C e)) := by
  intro f
  apply Array.ext_getElem?
  intro i
  rw [Array.getElem?_modify, Array.getElem?_push, Array.getElem?_push]
  by_cases h : w.heap.size = i
  ·subst h; simp
  ·rw [if_neg h, if_neg (fun hh => h hh.symm), if_neg (fun hh => h hh.symm)]
 unfold World.freeze
 rw [if_neg (by decide)]
 show World.mk ((w.heap.push (.cells C e)).modify w.heap.size _) w.tape w.drawn w.os w.output = World.mk (w.heap.push (.cells C e (n, n + 1))) w.tape w.drawn w.os w.output
 rw [hh]
 simp
theorem bytes_rel (r : Rel P σ h w) {s d e : TypeId} {x : HVal} {x' : Value} {out : Out} (ht : toBytes P s d = some e) (hx : VRel σ x x') (eq : bytesH x h = some out) :
  OutRel P σ h w out ((do pure (Next.value (← convert s d x'))).run P w) := by
 obtain ⟨hs, hd, he⟩ : P.underlying s = some .string ∧ P.underlying d = some (.slice e) ∧ P.underlying e = some (.int .u8) := by
  unfold toBytes at ht
  split at ht
  ·rename_i h1
   split at ht
   ·rename_i el h2
    split at ht
    ·rename_i h3; cases ht; exact ⟨h1, h2, h3⟩
    ·cases ht
   ·cases ht
  ·cases ht
 unfold bytesH at eq
 split at eq
 ·obtain ⟨hn0, eq⟩ := bcase_none_eq_some.1 eq
  cases eq
  obtain ⟨st, rfl, rfl, rfl⟩ := hx
  have hne : st.size ≠ 0 := by intro hh; rw [hh] at hn0; cases hn0
  have s1 : Step P σ h w σ h w.drew := Step.drew r
  generalize hcap : (Question.appendCap st.size 0 e).cut (w.tape w.drawn (Question.appendCap st.size 0 e)) = cap
  have hle : st.size ≤ cap := by rw [← hcap]; exact Nat.le_add_right _ _
  let C : Array Value := (st.data.map fun b => Value.int .u8 b.toNat) ++ Array.replicate (cap - st.size) (.int .u8 0)
  have s2 : Step P σ h w.drew (σ.upd h.next ⟨w.heap.size, 0, 0, 0⟩) (h.new (.cells (sBytes st.size (codeOf st.data.toList) 0 st.size) 0 true false)) (w.drew.alloc (.cells C e (C.size, C.size + 1))) := by
   refine Step.new s1.rel rfl ⟨C, e, (C.size, C.size + 1), rfl, ?_, sBytes_scalar _ _ _ _, fun hh => absurd rfl hh, (fun hh => by cases hh), (fun hh => by cases hh), (fun _ hh => by cases hh), .inl rfl⟩
   rw [sBytes_length]
   have := sBytes_rel (σ := σ.upd h.next ⟨w.heap.size, 0, 0, 0⟩) st st.size 0 (by omega)
   have e1 : (List.take st.size (List.drop 0 C.toList)) = ((st.data.toList.drop 0).take st.size).map fun b => Value.int .u8 b.toNat := by
    have hC : C.toList = (st.data.toList.map fun b => Value.int .u8 b.toNat) ++ List.replicate (cap - st.size) (.int .u8 0) := by simp [C]
    rw [hC, List.drop_zero, List.drop_zero, List.take_left' (by simp), List.take_of_length_le (by simp)]
   show VRels _ _ ((C.toList.drop 0).take st.size)
   rw [e1]; exact this
  refine OutRel.step (v := .slice (some ⟨w.heap.size, 0, none⟩) st.size cap) ?_ ⟨⟨w.heap.size, 0, 0, 0⟩, cap, σ.upd_same _ _, by simp, hle, .inl rfl⟩ (s1.trans s2)
  have hfr := alloc_freeze w.drew C e C.size
  have hsh : (w.drew.alloc (.cells C e)).shape? w.heap.size = some (e, C.size) := by
   show (match (w.heap.push (Obj.cells C e))[w.heap.size]? with | some (.cells c el _) => some (el, c.size) | _ => none) = _
   simp
  have hsz : C.size = st.size + (cap - st.size) := by simp [C]
  rw [← hfr]
  simp only [C] at hsh hsz ⊢
  simp [convert, rU w hs, rU w hd, rU w he, Conv.stringToBytes, markStringish, newRow, hcap, Question.forced, hsh]
 ·cases eq
theorem cap_rel {argTypes : Array TypeId} {t type : TypeId} {x z : HVal} {x' : Value} (ht : argTypes[0]? = some t) (hx : VRel σ x x') (e : capH P t x = some z) :
  ∃ v, (Builtin.cap_ argTypes type #[x']).run P w = .ok v w ∧ VRel σ z v := by
 unfold capH at e
 cases hu : P.underlying t with
 | none => simp [hu] at e
 | some d =>
  rw [hu] at e
  cases d <;> simp only at e <;> try (cases e; done)
  cases x <;> simp only at e <;> try (cases e; done)
  ·cases e
   obtain rfl := hx
   exact ⟨.int .i64 0, by simp [Builtin.cap_, ht, rU w hu, goInt], rfl⟩
  ·rename_i k off n cap
   cases cap with
   | none => cases e
   | some c =>
    cases e
    obtain ⟨p, c', hp, rfl, _, hc⟩ := hx
    simp only at hc
    subst hc
    exact ⟨_, by simp [Builtin.cap_, ht, rU w hu, goInt], rfl⟩
theorem len_rel (r : Rel P σ h w) {argTypes : Array TypeId} {t type : TypeId} {x z : HVal} {x' : Value} (ht : argTypes[0]? = some t) (hx : VRel σ x x') (e : lenH P t x h = some z) :
  ∃ v, (Builtin.len_ argTypes type #[x']).run P w = .ok v w ∧ VRel σ z v := by
 unfold lenH at e
 cases hu : P.underlying t with
 | none => simp [hu] at e
 | some d =>
  rw [hu] at e
  cases d <;> simp only at e <;> try (cases e; done)
  case string =>
   cases x <;> simp only at e <;> try (cases e; done)
   cases e
   obtain ⟨s, rfl, rfl, _⟩ := hx
   exact ⟨.int .i64 (s.size : Int), by simp [Builtin.len_, ht, rU w hu, goInt], rfl⟩
  case array n el =>
   cases e
   exact ⟨.int .i64 (n : Int), by simp [Builtin.len_, ht, rU w hu, goInt], rfl⟩
  case slice el =>
   cases x <;> simp only at e <;> try (cases e; done)
   ·cases e
    obtain rfl := hx
    exact ⟨.int .i64 0, by simp [Builtin.len_, ht, rU w hu, goInt], rfl⟩
   ·cases e
    obtain ⟨p, c, hp, rfl, _⟩ := hx
    exact ⟨_, by simp [Builtin.len_, ht, rU w hu, goInt], rfl⟩
   ·cases e
    obtain ⟨b, c, rfl⟩ := hx
    exact ⟨_, by simp [Builtin.len_, ht, rU w hu, goInt], rfl⟩
   ·cases e
    obtain ⟨p, b, c, _, rfl, _⟩ := hx
    exact ⟨_, by simp [Builtin.len_, ht, rU w hu, goInt], rfl⟩
  case map =>
   cases x <;> simp only at e <;> try (cases e; done)
   ·cases e
    obtain rfl := hx
    exact ⟨.int .i64 0, by simp [Builtin.len_, ht, rU w hu, goInt], rfl⟩
   ·obtain ⟨es, hes, e⟩ := ob_eq_some.1 e
    cases e
    obtain ⟨q, hq, rfl⟩ := hx
    obtain ⟨p, es', hp, hb, hrel⟩ := r.entries hq hes
    rw [hp] at hq; cases hq
    have hl := hrel.length
    exact ⟨.int .i64 (es'.size : Int), by simp [Builtin.len_, ht, rU w hu, run_getMap hb, goInt], by show _ = _; rw [hl]; simp⟩
theorem delete_rel (r : Rel P σ h w) {argTypes : Array TypeId} {t type kt et : TypeId} {x y : HVal} {x' y' : Value} {out : Out} (ht : argTypes[0]? = some t) (hu : P.underlying t = some (.map kt et)) (hx : VRel σ x x') (hy : VRel σ y y')
  (hks : simpleKey P kt = true) (hko : keyOk P kt y = true)
  (e : deleteH P kt x y h = some out) :
  OutRel P σ h w out ((do pure (Next.value (← Builtin.delete_ argTypes type #[x', y']))).run P w) := by
 obtain ⟨dk, hdk⟩ := simpleKey_under hks
 unfold deleteH at e
 cases x <;> simp only at e <;> try (cases e; done)
 ·cases e
  obtain rfl := hx
  refine OutRel.same' (v := .tuple #[]) r ⟨[], rfl, VRels.nil⟩ ?_
  simp [Builtin.delete_, ht, rU w hu, checkKey_rel hy hks hko]
 ·obtain ⟨o, ho, e1⟩ := ob_eq_some.1 e
  obtain ⟨hrw, e2⟩ := bcase_eq_some.1 e1
  obtain ⟨f, hf, e3⟩ := ob_eq_some.1 e2
  clear e e1 e2
  obtain ⟨p, hp, rfl⟩ := hx
  obtain ⟨q, es', hq, hbk, hrel⟩ := r.entries hp ho
  rw [hp] at hq; cases hq
  obtain ⟨res, h1, h2⟩ := findKey_rel (P := P) (w := w) hdk hy hrel hf
  cases f with
  | none =>
   obtain rfl : res = none := h2
   cases e3
   refine OutRel.step (v := .tuple #[]) (w' := { w with heap := w.heap.setIfInBounds p.blk (.map es' o.2.1) }) ?_ (τ := σ) ⟨[], rfl, VRels.nil⟩ ?_
   ·simp [Builtin.delete_, ht, rU w hu, run_getMap hbk, checkKey_rel hy hks hko, h1, run_setMap hbk]
   ·have hlt : p.blk < w.heap.size := r.inb _ p hp
    have hid : w.heap.setIfInBounds p.blk (.map es' o.2.1) = w.heap := by
     apply Array.ext_getElem?
     intro j
     rw [Array.getElem?_setIfInBounds]
     split
     ·rename_i hj; subst hj; simp [hlt]; exact ((Array.getElem?_eq_some_iff.1 hbk).2).symm
     ·rfl
    have : ({ w with heap := w.heap.setIfInBounds p.blk (.map es' o.2.1) } : World) = w := by rw [hid]
    rw [this]; exact Step.refl r
  | some f =>
   obtain ⟨ent, rfl, hge, hgl, hent⟩ := h2
   cases e3
   refine OutRel.step (v := .tuple #[]) (w' := { w with heap := w.heap.setIfInBounds p.blk (.map (es'.eraseIdxIfInBounds f.1) o.2.1) }) ?_ (τ := σ) ⟨[], rfl, VRels.nil⟩ ?_
   ·simp only [Nat.zero_add] at h1
    simp [Builtin.delete_, ht, rU w hu, run_getMap hbk, checkKey_rel hy hks hko, h1, run_setMap hbk]
   ·refine Step.setMap r ho hrw hp ?_
    have hlt : f.1 < es'.size := by
     have := (List.getElem?_eq_some_iff.1 hgl).1; simpa using this
    have := hrel.erase f.1
    simpa [Array.eraseIdxIfInBounds, hlt] using this
end
end Go.HL
namespace Go.HL
open Go
section
variable {P : Program} {σ : Places} {h : Heap} {w : World}
theorem liesAt_same {e : TypeId} {count off n : Nat} (h1 : P.cellsOf e = 1) (h2 : off + n ≤ count) : liesAt P P.depth e count off e n = true := by
 have hd : P.depth = (2 * (P.types.size + Made.depth) + 1) + 1 := rfl
 rw [hd]
 generalize 2 * (P.types.size + Made.depth) + 1 = d
 unfold liesAt
 rw [Bool.or_eq_true]
 refine .inl ?_
 rw [hd]
 unfold rowAt
 simp only [h1, Nat.one_ne_zero, if_false, Nat.div_one, Nat.mod_one]
 rw [Bool.or_eq_true]
 refine .inl ?_
 simp only [beq_self_eq_true, Bool.true_and, Bool.and_eq_true, decide_eq_true_eq]
 refine ⟨h2, ?_⟩
 unfold sameLayout
 simp
theorem run_loadBytes (bs : List UInt8) : ∀ (b o : Nat) (acc : ByteArray), (∀ j v, (bs.map fun x => Value.int .u8 (x.toNat : Int))[j]? = some v → w.cell? (Addr.add ⟨b, o, none⟩ j) = some v) →
  (loadBytes ⟨b, o, none⟩ acc bs.length).run P w = .ok ⟨acc.data ++ bs.toArray⟩ w := by
 induction bs with
 | nil => intro b o acc _; simp [loadBytes]
 | cons x bs ih =>
  intro b o acc hc
  have h0 := hc 0 (.int .u8 x.toNat) (by simp)
  rw [addr_add, Nat.add_zero] at h0
  have ih' := ih b (o + 1) (acc.push x) (fun j v hv => by
   have := hc (j + 1) v (by simpa using hv)
   rw [addr_add] at this ⊢
   rw [show o + 1 + j = o + (j + 1) by omega]; exact this)
  have ha : (⟨b, o, none⟩ : Addr).add 1 = ⟨b, o + 1, none⟩ := addr_add b o 1
  simp [loadBytes, h0, ha]
  have hx : (x.toNat : Nat).toUInt8 = x := by simp
  rw [ih']
  simp [ByteArray.push]
theorem run_unsafeString0 (ts : Array TypeId) (ty pt : TypeId) (hpt : ts[0]? = some pt) (kd : IntKind) (p : Option Addr) : (Builtin.unsafeString_ ts ty #[.pointer p, .int kd 0]).run P w = .ok (.string .empty) w := by
 have hmax : IntKind.i64.max = 9223372036854775807 := rfl
 change Sem.run P (Bind.bind (asInt (.int kd 0)) _) w = _
 cases p <;> simp [asInt, asIntOf, hmax, hpt]
theorem run_unsafeStringN (ts : Array TypeId) (ty pt el : TypeId) (hpt : ts[0]? = some pt) (hu : P.underlying pt = some (.pointer el)) (kd : IntKind) (a : Addr) (n : Nat) (h0 : n ≠ 0) (hmx : n ≤ 9223372036854775807) (s : ByteArray)
  (hva : (variablesAt a el n).run P w = .ok true w) (hlb : (loadBytes a .empty n).run P w = .ok s w) :
  (Builtin.unsafeString_ ts ty #[.pointer (some a), .int kd n]).run P w = .ok (.string s) (w.freeze a n) := by
 have hmax : IntKind.i64.max = 9223372036854775807 := rfl
 change Sem.run P (Bind.bind (asInt (.int kd n)) _) w = _
 have h1 : ¬ (9223372036854775807 : Int) < (n : Int) := by omega
 have h2 : ¬ (n : Int) < 0 := by omega
 simp [asInt, asIntOf, hmax, h1, h2, h0, elemOf, rU w hu, hva, hlb, hpt]
theorem unsafeString_rel (r : Rel P σ h w) {argTypes : Array TypeId} {type : TypeId} {p : HVal} {p' y' : Value} {n : Nat} {kd : IntKind} {out : Out} (hp : VRel σ p p') (hy : y' = .int kd (n : Int)) (e : unsafeStringH P argTypes p n h = some out) : OutRel P σ h w out ((do pure (Next.value (← Builtin.unsafeString_ argTypes type #[p', y']))).run P w) := by
 subst hy
 unfold unsafeStringH at e
 obtain ⟨pt, hpt, e⟩ := ob_eq_some.1 e
 rw [bcE, nbeq] at e
 by_cases h0 : n = 0
 ·subst h0
  simp only [decide_true, if_true] at e
  cases p <;> simp only at e <;> try (cases e; done)
  ·cases e
   obtain rfl := hp
   refine OutRel.same' (v := .string .empty) r ⟨.empty, rfl, rfl, rfl⟩ ?_
   have := run_unsafeString0 (P := P) (w := w) argTypes type pt hpt kd
   simp only [Sem.run_bind]
   show ((Sem.run P (Builtin.unsafeString_ argTypes type #[_, Value.int kd 0]) w).andThen _) = _
   rw [this]; rfl
  ·cases e
   obtain ⟨q, hq, rfl⟩ := hp
   refine OutRel.same' (v := .string .empty) r ⟨.empty, rfl, rfl, rfl⟩ ?_
   have := run_unsafeString0 (P := P) (w := w) argTypes type pt hpt kd
   simp only [Sem.run_bind]
   show ((Sem.run P (Builtin.unsafeString_ argTypes type #[_, Value.int kd 0]) w).andThen _) = _
   rw [this]; rfl
 ·simp only [h0, decide_false, Bool.false_eq_true, if_false] at e
  obtain ⟨hmx0, e0⟩ := bcase_eq_some.1 e
  clear e
  obtain ⟨a, ha, e1⟩ := ob_eq_some.1 e0
  clear e0
  obtain rfl := isPtr_inv ha
  clear ha
  cases hu : P.underlying pt with
  | none => simp [hu] at e1
  | some d =>
   rw [hu] at e1
   obtain ⟨el, rfl⟩ : ∃ el, d = .pointer el := by cases d <;> first | exact ⟨_, rfl⟩ | (simp at e1; done)
   simp only at e1
   cases hu2 : P.underlying el with
   | none => simp [hu2] at e1
   | some d2 =>
    rw [hu2] at e1
    obtain rfl : d2 = .int .u8 := by
     cases d2 with
     | int kk => cases kk <;> first | rfl | (simp at e1; done)
     | _ => simp at e1
    simp only at e1
    obtain ⟨o, ho, e2⟩ := ob_eq_some.1 e1
    obtain ⟨hne, e3⟩ := bcase_none_eq_some.1 e2
    obtain ⟨hrw, e4⟩ := bcase_eq_some.1 e3
    obtain ⟨hc1, e5⟩ := bcase_eq_some.1 e4
    obtain ⟨hel, e6⟩ := bcase_eq_some.1 e5
    clear e1 e2 e3 e4 e5
    rw [nbeq] at hne hc1 hel
    have hne' : el ≠ 0 := by simpa using hne
    have hc1' : P.cellsOf el = 1 := by simpa using hc1
    have hel' : o.2.1 = el := by simpa using hel
    rw [takeK_eq, dropN_eq] at e6
    by_cases hlen : n ≤ (o.1.drop a.2).length
    ·rw [if_pos hlen] at e6
     obtain ⟨c, hc, e7⟩ := ob_eq_some.1 e6
     cases e7
     obtain ⟨q, hq, rfl⟩ := hp
     obtain ⟨q', hq', ro⟩ := r.cells hq ho
     rw [hq] at hq'; cases hq'
     obtain ⟨vs, g1, g2, g3, g4⟩ := cells_at ro hlen
     obtain ⟨bs, rfl, k2, k3⟩ := bytesCode_rel g1 hc
     have hbl : bs.length = n := by simpa using g2
     obtain ⟨C, elem, fr, hb, hl, hs, hele, hown, hex, hsp⟩ := ro
     have hele' : elem = el := by rw [hele (by rw [hel']; exact hne'), hel']
     obtain ⟨rfl, hcs⟩ := hown hrw
     subst hele'
     have hin : q.base + a.2 + n ≤ C.size := by
      have := hl.length
      simp at this hlen
      omega
     have hmx : n ≤ 9223372036854775807 := of_decide_eq_true ((nble _ _).symm.trans hmx0)
     have hlb := run_loadBytes (P := P) bs q.blk (q.base + a.2) ByteArray.empty g4
     rw [hbl] at hlb
     have hva : (variablesAt ⟨q.blk, q.base + a.2, none⟩ elem n).run P w = .ok true w := by
      simp only [variablesAt, Sem.run_bind, run_program, Result.andThen_ok, run_shape, shape_of_cells hb, Sem.run_pure, Result.ok.injEq, and_true]
      rw [hc1', Nat.div_one]
      exact liesAt_same hc1' hin
     refine OutRel.step (v := .string ⟨bs.toArray⟩) (w' := w.freeze ⟨q.blk, q.base + a.2, none⟩ n) (τ := σ) ?_ ⟨_, rfl, by show bs.toArray.size = n; simpa using hbl, by simpa using k2.symm⟩ ?_
     ·simp only [Sem.run_bind]
      rw [run_unsafeStringN argTypes type pt elem hpt hu kd _ n h0 hmx _ hva hlb]
      simp
     ·have hfz : (w.freeze ⟨q.blk, q.base + a.2, none⟩ n).heap[q.blk]? = some (.cells C elem (q.base + a.2, q.base + a.2 + n)) := by
       simp [World.freeze, h0, Array.getElem?_modify, hb]
      refine Step.put r (cells_inv ho) hrw hq ⟨C, elem, _, hfz, hl, hs, hele, fun hh => by simp at hh, hex, fun _ hh => by simp at hh, hsp.2⟩ (fun b hb' => ?_) ?_ ?_ ?_ ?_
      ·simp [World.freeze, h0, Array.getElem?_modify, Ne.symm hb']
      all_goals simp [World.freeze, h0]
    ·rw [if_neg hlen] at e6; cases e6
theorem sliceData_rel (r : Rel P σ h w) {argTypes : Array TypeId} {type : TypeId} {k off n c : Nat} {cap : Option Nat} {x' : Value} (hx : VRel σ (.slice k off n cap) x') (hc : cap = some c ∧ c ≠ 0 ∨ cap = none ∧ n ≠ 0) :
  OutRel P σ h w (.val (.ptr k off) h) ((do pure (Next.value (← Builtin.unsafeSliceData_ argTypes type #[x']))).run P w) := by
 obtain ⟨p, cc, hp, rfl, hle, hcap⟩ := hx
 have hne : cc ≠ 0 := by
  rcases hc with ⟨rfl, h0⟩ | ⟨rfl, h0⟩
  ·have : cc = c := hcap
   omega
  ·omega
 obtain ⟨m, rfl⟩ : ∃ m, cc = m + 1 := ⟨cc - 1, by omega⟩
 exact OutRel.same' (v := .pointer (some ⟨p.blk, p.base + off, none⟩)) r ⟨p, hp, rfl⟩ rfl
theorem makeSlice_rel (r : Rel P σ h w) {t el : TypeId} {l c : Nat} {k1 k2 : IntKind} {z : List HVal} (hu : P.underlying t = some (.slice el)) (hlc : l ≤ c) (hb : P.bytesOf el * c ≤ roomH) (hc : c ≤ roomH) (hz : zeroCells? P el = some z)
  (hzl : z.length = P.cellsOf el) :
  OutRel P σ h w (.val (.slice h.next 0 l (some c)) (h.new (.cells (repl c z) el false true))) ((do pure (Next.value (← Instr.makeSlice t (.int k1 (l : Int)) (.int k2 (c : Int))))).run P w) := by
 obtain ⟨i, v, hi, hv, h1, h2⟩ := zeroCells_rel (σ := σ) hz
 have hbytes : P.bytesOf el = i.bytes := by simp [Program.bytesOf, hi]
 have hsize : P.cellsOf el = i.size := by simp [Program.cellsOf, hi]
 unfold roomH at hb hc
 rw [hbytes] at hb
 have hrep := repl_rel h1 c (c * P.cellsOf el) (by rw [hzl])
 obtain ⟨τ, hτ, s⟩ := new_cells r hrep (repl_scalar h2) el
 refine OutRel.step (v := .slice (some ⟨w.heap.size, 0, none⟩) l c) ?_ ⟨_, c, hτ, rfl, hlc, rfl⟩ s
 have w1 : IntKind.i64.wrap (l : Int) = l := IntWalk.i64_in _ (by omega)
 have w2 : IntKind.i64.wrap (c : Int) = c := IntWalk.i64_in _ (by omega)
 have hbig : ¬ ((i.bytes : Int) * (c : Int) > 2 ^ 48) := by
  have : (i.bytes : Int) * (c : Int) = ((i.bytes * c : Nat) : Int) := by simp
  rw [this]; omega
 have hbig' : ¬ ((281474976710656 : Int) < (i.bytes : Int) * (c : Int)) := hbig
 have hneg : ¬ ((c : Int) < 0) := by omega
 have hneg2 : ¬ ((l : Int) < 0) := by omega
 have hlc' : ¬ ((l : Int) > (c : Int)) := by omega
 have hcl : ¬ (c < l) := by omega
 have hsz := run_sizeOf' (P := P) w hi
 have hzr : (zeroValue el).run P w = .ok v w := by simp [zeroValue, typeInfo, hi, hv]
 have hti : (typeInfo el).run P w = .ok i w := by simp [typeInfo, hi]
 by_cases h0 : c * P.cellsOf el = 0
 ·have hz0 : (Array.range 0).map (fun i => v.cells[i % v.cells.size]!) = #[] := by simp
  simp [Instr.makeSlice, rU w hu, asInt, asIntOf, hti, w1, w2, hbig', hneg, hneg2, hcl, hsz, h0, newRow]
  exact congrArg (fun C => w.alloc (Obj.cells C el)) (by apply Array.ext'; simp)
 ·simp [Instr.makeSlice, rU w hu, asInt, asIntOf, hti, w1, w2, hbig', hneg, hneg2, hcl, hsz, h0, hzr, newRow]
  exact congrArg (fun C => w.alloc (Obj.cells C el)) (by apply Array.ext'; simp)
end
end Go.HL
namespace Go.HL
open Go
section
variable {P : Program} {σ : Places} {h : Heap} {w : World}
theorem elemOk_inv {t : TypeId} (e : elemOk P t = true) : ∀ el, P.underlying t = some (.slice el) ∨ (∃ n, P.underlying t = some (.array n el)) → ∃ i, P.info? el = some i := by
 intro el hel
 unfold elemOk at e
 rcases hel with hu | ⟨n, hu⟩ <;> rw [hu] at e <;> simp only at e <;> cases hi : P.info? el <;> simp [hi] at e <;> exact ⟨_, rfl⟩
theorem orel_map {ρ : Operand → HVal} {ev : Operand → Value} (hρ : ∀ x, VRel σ (ρ x) (ev x)) (x : Option Operand) : ORelO σ (x.map ρ) (x.map ev) := by
 cases x with
 | none => rfl
 | some x => exact ⟨_, rfl, hρ x⟩
theorem sliceElem_inv {ts : Array TypeId} {e : TypeId} (h : sliceElem P ts = some e) : ∃ t, ts[0]? = some t ∧ P.underlying t = some (.slice e) := by
 unfold sliceElem at h
 cases h0 : ts[0]? with
 | none => simp [h0] at h
 | some t =>
  rw [h0] at h
  simp only at h
  cases hu : P.underlying t with
  | none => simp [hu] at h
  | some d => rw [hu] at h; cases d <;> simp at h; subst h; exact ⟨t, rfl, hu⟩
theorem mapKey_inv {ts : Array TypeId} {k : TypeId} (h : mapKey P ts = some k) : ∃ t et, ts[0]? = some t ∧ P.underlying t = some (.map k et) := by
 unfold mapKey at h
 cases h0 : ts[0]? with
 | none => simp [h0] at h
 | some t =>
  rw [h0] at h
  simp only at h
  cases hu : P.underlying t with
  | none => simp [hu] at h
  | some d => rw [hu] at h; cases d <;> simp at h; subst h; exact ⟨t, _, rfl, hu⟩
theorem range_rel (r : Rel P σ h w) {t : TypeId} {x : HVal} {x' : Value} {out : Out} (hx : VRel σ x x') (e : rangeH P t x h = some out) : OutRel P σ h w out ((do pure (Next.value (← Instr.range t x'))).run P w) := by
 unfold rangeH at e
 split at e
 ·rename_i kt et hu
  split at e
  ·cases e
   obtain rfl := hx
   have s1 := Step.new r (o := .iter none) (p := ⟨w.heap.size, 0, 0, 0⟩) (b := .mapIter none 0 #[] 0) rfl ⟨0, 0, none, rfl, rfl, rfl⟩
   refine OutRel.step (v := .pointer (some ⟨w.heap.size, 0, none⟩)) ?_ ⟨_, σ.upd_same _ _, rfl⟩ s1
   simp [Instr.range, rU w hu]
  ·rename_i k
   obtain ⟨o, ho, e1⟩ := ob_eq_some.1 e
   cases e1
   obtain ⟨p, hp, rfl⟩ := hx
   obtain ⟨q, es', hq, hb, hrel⟩ := r.entries hp ho
   rw [hp] at hq; cases hq
   have s1 := Step.new r (o := .iter (some k)) (p := ⟨w.heap.size, 0, 0, 0⟩) (b := .mapIter (some p.blk) o.2.1 #[] o.2.1) rfl
    ⟨_, _, _, rfl, rfl, p, Places.le_upd _ r.next_none k p hp, rfl⟩
   refine OutRel.step (v := .pointer (some ⟨w.heap.size, 0, none⟩)) ?_ ⟨_, σ.upd_same _ _, rfl⟩ s1
   simp [Instr.range, rU w hu, run_getMap hb]
  ·cases e
 ·cases e
theorem run_getAny {b since last : Nat} {q : Option Nat} {l : Array Nat} (h : w.heap[b]? = some (.mapIter q since l last)) : (getObj b).run P w = .ok (.mapIter q since l last) w := by
 simp [getObj, Sem.run, h]
theorem next_rel (r : Rel P σ h w) {x : HVal} {str : Bool} {type : TypeId} {x' : Value} {out : Out} (hx : VRel σ x x') (e : nextH x str h = some out) : OutRel P σ h w out ((do pure (Next.value (← Instr.next x' str type))).run P w) := by
 unfold nextH at e
 obtain ⟨hstr, e1⟩ := bcase_none_eq_some.1 e
 obtain ⟨a, ha, e2⟩ := ob_eq_some.1 e1
 obtain ⟨h0, e3⟩ := bcase_eq_some.1 e2
 obtain ⟨o, ho, e4⟩ := ob_eq_some.1 e3
 obtain rfl := isPtr_inv ha
 have ha0 := Nat.eq_of_beq_eq_true h0
 obtain ⟨p, hp, rfl⟩ := hx
 subst hstr
 cases o <;> simp only at e4 <;> try (cases e4; done)
 rename_i m
 have hob := r.obj a.1 _ p ho rfl hp
 obtain ⟨since, last, q, hw, hbase, hm⟩ := hob
 have hz : p.base + a.2 = 0 := by rw [hbase, ha0]
 cases m with
 | none =>
  cases e4
  have hq : q = none := hm
  subst hq
  refine OutRel.same' (v := .tuple #[.bool false]) r ⟨[.bool false], rfl, VRels.cons rfl VRels.nil⟩ ?_
  rw [hz]
  have hg : (getObj p.blk).run P w = .ok (.mapIter none since #[] last) w := run_getAny hw
  have hn : (Instr.next (.pointer (some ⟨p.blk, 0, none⟩)) false type).run P w = .ok (.tuple #[.bool false]) w := by
   change Sem.run P (Bind.bind (getObj p.blk) _) w = _
   rw [Sem.run_bind, hg]
   rfl
  rw [Sem.run_bind, hn]
  rfl
 | some k =>
  simp only at e4
  obtain ⟨es, hes, e5⟩ := ob_eq_some.1 e4
  obtain ⟨b, hb, rfl⟩ := hm
  obtain ⟨q2, es', hq2, hb2, hrel⟩ := r.entries hb hes
  rw [hb] at hq2; cases hq2
  cases hl : es.1 with
  | cons x l => rw [hl] at e5; cases e5
  | nil =>
   rw [hl] at e5 hrel
   cases e5
   have hes0 : es' = #[] := by
    have : es'.toList = [] := hrel
    apply Array.ext'; simpa using this
   subst hes0
   refine OutRel.same' (v := .tuple #[.bool false]) r ⟨[.bool false], rfl, VRels.cons rfl VRels.nil⟩ ?_
   rw [hz]
   have hg : (getObj p.blk).run P w = .ok (.mapIter (some b.blk) since #[] last) w := run_getAny hw
   have hn : (Instr.next (.pointer (some ⟨p.blk, 0, none⟩)) false type).run P w = .ok (.tuple #[.bool false]) w := by
    change Sem.run P (Bind.bind (getObj p.blk) _) w = _
    rw [Sem.run_bind, hg]
    change Sem.run P (Bind.bind (getObj b.blk) _) w = _
    rw [Sem.run_bind, run_getMap hb2]
    simp [Question.forced]
   rw [Sem.run_bind, hn]
   rfl
theorem copy_rel (r : Rel P σ h w) {ts : Array TypeId} {t0 e type : TypeId} {i : TypeInfo} {x y : HVal} {x' y' : Value} {out : Out} (h0 : ts[0]? = some t0) (hu : P.underlying t0 = some (.slice e)) (hi : P.info? e = some i)
  (hx : VRel σ x x') (hy : VRel σ y y') (eq : copyH P e x y h = some out) : OutRel P σ h w out ((do pure (Next.value (← Builtin.copy_ ts type #[x', y']))).run P w) := by
 unfold copyH at eq
 obtain ⟨a, ha, e1⟩ := ob_eq_some.1 eq
 obtain ⟨vs, hlen, hfirst, hvs, hsc, _⟩ := appended_rel r hy ha
 cases x <;> simp only at e1 <;> try (cases e1; done)
 rename_i k off n cap
 obtain ⟨hn, e2⟩ := bcase_eq_some.1 e1
 obtain ⟨h', hst, e3⟩ := ob_eq_some.1 e2
 cases e3
 rw [nble] at hn
 have hmin : Nat.min a.1 n = a.1 := Nat.min_eq_left (of_decide_eq_true hn)
 obtain ⟨p, c, hp, rfl, _⟩ := hx
 obtain ⟨w', hrun, hstep⟩ := storeN_rel r hp hst hvs hsc
 have hf := hfirst w rfl
 refine OutRel.step (v := .int .i64 (a.1 : Int)) ?_ rfl hstep
 simp [Builtin.copy_, h0, rU w hu, hlen, hmin, run_sizeOf' w hi, hf, hrun, goInt]
theorem clear_rel (r : Rel P σ h w) {ts : Array TypeId} {t0 e type : TypeId} {x : HVal} {x' : Value} {out : Out} (h0 : ts[0]? = some t0) (hu : P.underlying t0 = some (.slice e))
  (hx : VRel σ x x') (eq : clearH P e x h = some out) : OutRel P σ h w out ((do pure (Next.value (← Builtin.clear_ ts type #[x']))).run P w) := by
 unfold clearH at eq
 cases x <;> simp only at eq <;> try (cases eq; done)
 ·cases eq
  obtain rfl := hx
  refine OutRel.same' (v := .tuple #[]) r ⟨[], rfl, VRels.nil⟩ ?_
  simp [Builtin.clear_, h0, rU w hu]
 ·rename_i k off n cap
  obtain ⟨z, hz, e1⟩ := ob_eq_some.1 eq
  obtain ⟨h', hst, e2⟩ := ob_eq_some.1 e1
  cases e2
  obtain ⟨i, v, hi, hv, hr1, hr2⟩ := zeroCells_rel (σ := σ) hz
  obtain ⟨p, c, hp, rfl, _⟩ := hx
  have hvs : VRels σ (repl n z) (Builtin.zeroCells v.cells n).toList := repl_rel hr1 n (n * v.cells.size) (by have := hr1.length; simp at this; rw [this])
  obtain ⟨w', hrun, hstep⟩ := storeN_rel r hp hst hvs (repl_scalar hr2)
  refine OutRel.step (v := .tuple #[]) ?_ ⟨[], rfl, VRels.nil⟩ hstep
  cases n with
  | zero =>
   have hz0 : (Builtin.zeroCells v.cells 0).toList = [] := by simp [Builtin.zeroCells]
   rw [hz0] at hrun
   simp only [storeCells, Sem.run_pure, Result.ok.injEq, true_and] at hrun
   subst hrun
   simp [Builtin.clear_, h0, rU w hu]
  | succ n => simp [Builtin.clear_, h0, rU w hu, zeroValue, typeInfo, hi, hv, hrun]
 ·cases eq
  obtain ⟨b, c, rfl⟩ := hx
  refine OutRel.same' (v := .tuple #[]) r ⟨[], rfl, VRels.nil⟩ ?_
  simp [Builtin.clear_, h0, rU w hu]
 ·cases eq
  obtain ⟨p, b, c, _, rfl, _⟩ := hx
  refine OutRel.same' (v := .tuple #[]) r ⟨[], rfl, VRels.nil⟩ ?_
  simp [Builtin.clear_, h0, rU w hu]
theorem method_rel (w : World) {t : TypeId} {name : String} {f : Nat} (hm : methodH P t name = some f) (v : Value) : (method (P.types.size + Made.depth) t v name).run P w = .ok (f, v) w := by
 unfold methodH at hm
 obtain ⟨i, hi, e1⟩ := ob_eq_some.1 hm
 obtain ⟨m, hf, e2⟩ := ob_eq_some.1 e1
 obtain ⟨hp, e3⟩ := bcase_eq_some.1 e2
 obtain ⟨q, hq, e4⟩ := ob_eq_some.1 e3
 have hpl : m.path.toList = [] := by simpa using hp
 obtain ⟨k, hk⟩ : ∃ k, P.types.size + Made.depth = k + 1 := ⟨_, rfl⟩
 rw [hk]
 unfold method
 obtain ⟨g, pr⟩ := q
 split at e4
 ·rename_i el hu
  obtain ⟨hpr, e5⟩ := bcase_eq_some.1 e4
  cases e5
  simp only at hpr
  subst hpr
  simp [typeInfo, hi, hf, hpl, follow, hq, receiverAt, rU w hu, Place.get]
 ·rename_i fs hu
  obtain ⟨hpr, e5⟩ := bcase_none_eq_some.1 e4
  cases e5
  simp only at hpr
  subst hpr
  simp [typeInfo, hi, hf, hpl, follow, hq, receiverAt, rU w hu, Place.get]
 ·rename_i kd hu
  obtain ⟨hpr, e5⟩ := bcase_none_eq_some.1 e4
  cases e5
  simp only at hpr
  subst hpr
  simp [typeInfo, hi, hf, hpl, follow, hq, receiverAt, rU w hu, Place.get]
 ·rename_i el hu
  obtain ⟨hpr, e5⟩ := bcase_none_eq_some.1 e4
  cases e5
  simp only at hpr
  subst hpr
  simp [typeInfo, hi, hf, hpl, follow, hq, receiverAt, rU w hu, Place.get]
 ·cases e4
theorem builtin_rel (r : Rel P σ h w) {b : Builtin} {ts : Array TypeId} {type : TypeId} {consts : Array Bool} {args : List HVal} {args' : List Value} {out : Out} (ha : VRels σ args args') (e : builtinH P b ts args h = some out) :
  OutRel P σ h w out ((builtin b ts type consts ⟨args'⟩).run P w) := by
 unfold builtinH at e
 cases args with
 | nil =>
  obtain rfl := ha.nil_inv
  cases b <;> simp only at e <;> try (cases e; done)
  cases e
  exact ⟨rfl, rfl⟩
 | cons x l =>
  obtain ⟨x', m, rfl, hx, hm⟩ := ha.cons_inv
  cases l with
  | nil =>
   obtain rfl := hm.nil_inv
   cases b <;> simp only at e <;> try (cases e; done)
   case len =>
    cases h0 : ts[0]? with
    | none => simp [h0] at e
    | some t =>
     rw [h0] at e
     simp only at e
     obtain ⟨z, hz, rfl⟩ := val_inv e
     obtain ⟨v, g1, g2⟩ := len_rel r (type := type) h0 hx hz
     refine OutRel.same' r g2 ?_
     show (((do pure (Next.value (← Builtin.len_ ts type #[x']))) : Sem Next)).run P w = _
     simp [g1]
   case clear =>
    obtain ⟨el, hel, e1⟩ := ob_eq_some.1 e
    obtain ⟨t, h0, hu⟩ := sliceElem_inv hel
    exact clear_rel r (type := type) h0 hu hx e1
   case cap =>
    cases h0 : ts[0]? with
    | none => simp [h0] at e
    | some t =>
     rw [h0] at e
     simp only at e
     obtain ⟨z, hz, rfl⟩ := val_inv e
     obtain ⟨v, g1, g2⟩ := cap_rel (w := w) (type := type) h0 hx hz
     refine OutRel.same' r g2 ?_
     show (((do pure (Next.value (← Builtin.cap_ ts type #[x']))) : Sem Next)).run P w = _
     simp [g1]
   case unsafeSliceData =>
    cases x <;> simp only at e <;> try (cases e; done)
    ·cases e
     obtain rfl := hx
     exact OutRel.same' (v := .pointer none) r rfl rfl
    ·rename_i k off n cap
     cases cap with
     | none =>
      simp only at e
      obtain ⟨hn, e1⟩ := bcase_none_eq_some.1 e
      cases e1
      rw [nbeq] at hn
      exact sliceData_rel r (c := 0) hx (.inr ⟨rfl, by simpa using hn⟩)
     | some c =>
      simp only at e
      obtain ⟨hn, e1⟩ := bcase_none_eq_some.1 e
      cases e1
      rw [nbeq] at hn
      exact sliceData_rel r (c := c) hx (.inl ⟨rfl, by simpa using hn⟩)
  | cons y l =>
   obtain ⟨y', m', rfl, hy, hm'⟩ := hm.cons_inv
   cases l with
   | cons => simp at e
   | nil =>
    obtain rfl := hm'.nil_inv
    cases b <;> simp only at e <;> try (cases e; done)
    case append =>
     obtain ⟨el, hel, e1⟩ := ob_eq_some.1 e
     obtain ⟨hne, e2⟩ := bcase_none_eq_some.1 e1
     obtain ⟨hc0, e3⟩ := bcase_none_eq_some.1 e2
     obtain ⟨hb0, e4⟩ := bcase_none_eq_some.1 e3
     obtain ⟨hno, e5⟩ := bcase_eq_some.1 e4
     obtain ⟨z, hz, e6⟩ := ob_eq_some.1 e5
     obtain ⟨hzl, e7⟩ := bcase_eq_some.1 e6
     obtain ⟨a, hap, e8⟩ := ob_eq_some.1 e7
     clear e e1 e2 e3 e4 e5 e6 e7
     rw [nbeq] at hne hc0 hb0 hzl
     obtain ⟨t, h0, hu⟩ := sliceElem_inv hel
     exact append_rel r h0 hu (by simpa using hc0) (by simpa using hb0) hno hz (by simpa using hzl) (by show el ≠ 0; simpa using hne) hx hy hap e8 type
    case copy =>
     obtain ⟨el, hel, e1⟩ := ob_eq_some.1 e
     obtain ⟨i, hi, e2⟩ := ob_eq_some.1 e1
     obtain ⟨t, h0, hu⟩ := sliceElem_inv hel
     exact copy_rel r (type := type) h0 hu hi hx hy e2
    case min =>
     obtain ⟨a, h1, e1⟩ := ob_eq_some.1 e
     obtain ⟨c, h2, e2⟩ := ob_eq_some.1 e1
     obtain rfl := isInt_inv h1
     obtain rfl := isInt_inv h2
     cases e2
     obtain rfl := hx; obtain rfl := hy
     refine OutRel.same' (v := .int a.1 (if c.2 < a.2 then c.2 else a.2)) r (by simp only [VRel, ilt_eq, bcE, decide_eq_true_eq]) rfl
    case max =>
     obtain ⟨a, h1, e1⟩ := ob_eq_some.1 e
     obtain ⟨c, h2, e2⟩ := ob_eq_some.1 e1
     obtain rfl := isInt_inv h1
     obtain rfl := isInt_inv h2
     cases e2
     obtain rfl := hx; obtain rfl := hy
     refine OutRel.same' (v := .int a.1 (if c.2 > a.2 then c.2 else a.2)) r (by simp only [VRel, ilt_eq, bcE, decide_eq_true_eq]) rfl
    case delete =>
     obtain ⟨kt, hkt, e1⟩ := ob_eq_some.1 e
     obtain ⟨hks, e2⟩ := bcase_eq_some.1 e1
     obtain ⟨hko, e3⟩ := bcase_eq_some.1 e2
     obtain ⟨t, et, h0, hu⟩ := mapKey_inv hkt
     exact delete_rel r h0 hu hx hy hks hko e3
    case unsafeString =>
     obtain ⟨n, hn, e1⟩ := ob_eq_some.1 e
     obtain ⟨kd, rfl⟩ := isNat_inv hn
     exact unsafeString_rel r (type := type) hx hy e1
end
end Go.HL
namespace Go.HL
open Go
section
variable {P : Program} {σ : Places} {h : Heap} {w : World}
theorem run_val {s : Sem Value} {v : Value} {w' : World} (e : s.run P w = .ok v w') : ((do pure (Next.value (← s))) : Sem Next).run P w = .ok (.value v) w' := by simp [e]
set_option maxHeartbeats 1000000 in
theorem opH_rel (r : Rel P σ h w) {ρ : Operand → HVal} {ev : Operand → Value} (hρ : ∀ x, VRel σ (ρ x) (ev x)) {o : Oper} {out : Out} (e : opH P ρ h o = some out) :
  OutRel P σ h w out ((execOp ev o).run P w) := by
 obtain ⟨dst, op, type, pos, after, guard⟩ := o
 cases op <;> simp only [opH] at e <;> try (cases e; done)
 case move x => cases e; exact OutRel.same r (hρ x)
 case assign x => cases e; exact OutRel.same r (hρ x)
 case pick c a b =>
  obtain ⟨t, ht, e⟩ := ob_eq_some.1 e
  cases e
  have hc := hρ c
  rw [isBool_inv ht] at hc
  have hc' : ev c = .bool t := hc
  refine OutRel.same' (v := if t then ev a else ev b) r ?_ ?_
  ·cases t
   ·exact hρ b
   ·exact hρ a
  ·show ((do pure (Next.value (if ← asBool (ev c) then ev a else ev b))) : Sem Next).run P w = _
   rw [hc']
   cases t <;> simp [asBool]
 case alloc el =>
  obtain ⟨z, hz, e⟩ := ob_eq_some.1 e
  cases e
  exact op_alloc r hz
 case box el x =>
  obtain ⟨l, hl, e⟩ := ob_eq_some.1 e
  cases e
  exact op_box r hρ hl
 case build t parts =>
  obtain ⟨z, hz, e⟩ := ob_eq_some.1 e
  cases hu : P.underlying t with
  | none => simp [hu] at e
  | some d =>
   rw [hu] at e
   cases d <;> simp only at e <;> try (cases e; done)
   case struct fields =>
    obtain ⟨hin, e⟩ := bcase_eq_some.1 e
    obtain ⟨l, hl, e⟩ := ob_eq_some.1 e
    obtain ⟨cs, hcs, e⟩ := ob_eq_some.1 e
    cases e
    obtain ⟨C, g1, g2⟩ := build_struct w hρ hu hz hl (infosOk_inv hin) hcs
    exact OutRel.same' r g2 (run_val g1)
   case array n el =>
    obtain ⟨i, hi, e⟩ := ob_eq_some.1 e
    obtain ⟨cs, hcs, e⟩ := ob_eq_some.1 e
    cases e
    obtain ⟨C, g1, g2⟩ := build_array w hρ hu hz ⟨i, hi⟩ hcs
    exact OutRel.same' r g2 (run_val g1)
 case buildSlice t len parts =>
  cases hu : P.underlying t with
  | none => simp [hu] at e
  | some d =>
   rw [hu] at e
   cases d <;> simp only at e <;> try (cases e; done)
   case slice el =>
    obtain ⟨hn, e⟩ := bcase_eq_some.1 e
    obtain ⟨z, hz, e⟩ := ob_eq_some.1 e
    obtain ⟨hzl, e⟩ := bcase_eq_some.1 e
    obtain ⟨cs, hcs, e⟩ := ob_eq_some.1 e
    cases e
    rw [nbeq] at hzl
    exact op_buildSlice r hρ hu (Nat.le_of_ble_eq_true hn) hz (by simpa using hzl) hcs
 case load t a =>
  obtain ⟨p, hp, e1⟩ := ob_eq_some.1 e
  obtain ⟨v, hv, rfl⟩ := val_inv e1
  have ha := hρ a
  rw [isPtr_inv hp] at ha
  obtain ⟨q, hq, he⟩ := ha
  obtain ⟨u, g1, g2⟩ := loadT_rel r hq hv
  refine OutRel.same' r g2 (run_val (s := Instr.loadAt t (ev a)) ?_)
  rw [he]
  simp [Instr.loadAt, Instr.sureAddr, g1]
 case store t a v =>
  obtain ⟨i, hi, e0⟩ := ob_eq_some.1 e
  obtain ⟨p, hp, e1⟩ := ob_eq_some.1 e0
  clear e
  have e := e0
  obtain ⟨l, hl, e2⟩ := ob_eq_some.1 e1
  obtain ⟨hn, e3⟩ := bcase_eq_some.1 e2
  obtain ⟨h', hh, e4⟩ := ob_eq_some.1 e3
  clear e e1 e2 e3
  cases e4
  have ha := hρ a
  rw [isPtr_inv hp] at ha
  obtain ⟨q, hq, he⟩ := ha
  obtain ⟨hc1, hc2⟩ := (hρ v).cells hl
  obtain ⟨w', g1, g2⟩ := storeN_rel r hq hh hc1 hc2
  refine OutRel.skip (w' := w') (τ := σ) ?_ g2
  show ((do Instr.storeAt t (ev a) (ev v); pure Next.skip) : Sem Next).run P w = _
  rw [nbeq] at hn
  have hn' : l.length = P.cellsOf t := by simpa using hn
  have hsz : (ev v).cells.size = P.cellsOf t := by rw [← hn', hc1.length]; simp
  rw [he]
  simp [Instr.storeAt, Instr.sureAddr, storeVar, run_sizeOf' w hi, hsz, g1]
 case nilCheck x =>
  have hx := hρ x
  generalize hrx : ρ x = y at e hx
  cases y <;> simp only at e <;> try (cases e; done)
  ·cases e
   obtain ⟨q, hq, he⟩ := hx
   refine OutRel.same' (v := ev x) r (by rw [he]; exact ⟨q, hq, rfl⟩) ?_
   simp only [execOp, he]; rfl
  ·cases e
   obtain ⟨a, b, he, ha, hb⟩ := hx
   refine OutRel.same' (v := ev x) r (by rw [he]; exact ⟨a, b, rfl, ha, hb⟩) ?_
   simp only [execOp, he]; rfl
 case binOp op t x y yt =>
  obtain ⟨z, hz, rfl⟩ := val_inv e
  have key : ∃ v, ((do eqGuard op t x y (ev x) (ev y); binOp op t (ev x) (ev y)) : Sem Value).run P w = .ok v w ∧ VRel σ z v := binC_rel w (hρ x) (hρ y) x y hz
  obtain ⟨v, g1, g2⟩ := key
  exact OutRel.same' r g2 (run_val g1)
 case unOp op t x =>
  obtain ⟨z, hz, rfl⟩ := val_inv e
  obtain ⟨v, g1, g2⟩ := unH_rel (P := P) w (hρ x) hz
  exact OutRel.same' r g2 (run_val g1)
 case convert s d x =>
  cases ht : toBytes P s d with
  | none => rw [ht] at e; exact conv_rel r (hρ x) e
  | some el => rw [ht] at e; exact bytes_rel r ht (hρ x) e
 case makeInterface t x =>
  cases hu : P.underlying t with
  | none => simp [hu] at e
  | some d =>
   rw [hu] at e
   have hni : ∀ ms, d ≠ .interface ms := by rintro ms rfl; simp at e
   have e' : out = .val (.iface t (ρ x)) h := by cases d <;> first | exact absurd rfl (hni _) | (simp at e; exact e.symm)
   subst e'
   refine OutRel.same' (v := .iface t (ev x)) r ⟨_, rfl, hρ x⟩ (run_val (s := Instr.makeInterface t (ev x)) ?_)
   cases d <;> first | exact absurd rfl (hni _) | simp [Instr.makeInterface, rU w hu]
 case makeFunc fn first cap =>
  cases fn <;> simp only at e <;> try (cases e; done)
  cases e
  refine OutRel.same' (v := .func _ (first.map ev) (cap.map ev)) r ⟨(first.map ev).toList, (cap.map ev).toList, rfl, ?_, ?_⟩ rfl
  ·simpa using VRels.map ρ ev hρ first.toList
  ·simpa using VRels.map ρ ev hρ cap.toList
 case makeMap t res =>
  cases hu : P.underlying t with
  | none => simp [hu] at e
  | some d =>
   rw [hu] at e
   cases d <;> simp only at e <;> try (cases e; done)
   case map kt et =>
    have s1 := Step.new r (o := .map [] 0 true) (p := ⟨w.heap.size, 0, 0, 0⟩) (b := .map #[] 0) rfl ⟨#[], rfl, rfl⟩
    cases res with
    | none =>
     simp only at e
     cases e
     exact OutRel.step (v := .map (some w.heap.size)) rfl ⟨_, σ.upd_same _ _, rfl⟩ s1
    | some x =>
     simp only at e
     obtain ⟨n, hn, e⟩ := ob_eq_some.1 e
     cases e
     have hx := hρ x
     rw [isInt_inv hn] at hx
     have hx' : ev x = .int n.1 n.2 := hx
     refine OutRel.step (v := .map (some w.heap.size)) (run_val (s := Instr.makeMap t (some (ev x))) ?_) ⟨_, σ.upd_same _ _, rfl⟩ s1
     rw [hx']
     simp [Instr.makeMap, rU w hu, asInt, asIntOf]
 case makeSlice t l c =>
  cases hu : P.underlying t with
  | none => simp [hu] at e
  | some d =>
   rw [hu] at e
   cases d <;> simp only at e <;> try (cases e; done)
   case slice el =>
    obtain ⟨l', hl, e1⟩ := ob_eq_some.1 e
    obtain ⟨c', hc, e2⟩ := ob_eq_some.1 e1
    obtain ⟨h1, e3⟩ := bcase_eq_some.1 e2
    obtain ⟨h2, e4⟩ := bcase_eq_some.1 e3
    obtain ⟨h3, e5⟩ := bcase_eq_some.1 e4
    obtain ⟨z, hz, e6⟩ := ob_eq_some.1 e5
    obtain ⟨hzl, e7⟩ := bcase_eq_some.1 e6
    clear e e1 e2 e3 e4 e5 e6
    cases e7
    obtain ⟨k1, hk1⟩ := isNat_inv hl
    obtain ⟨k2, hk2⟩ := isNat_inv hc
    have hx := hρ l
    have hy := hρ c
    rw [hk1] at hx
    rw [hk2] at hy
    have hx' : ev l = .int k1 (l' : Int) := hx
    have hy' : ev c = .int k2 (c' : Int) := hy
    rw [nbeq] at hzl
    have := makeSlice_rel r (k1 := k1) (k2 := k2) hu (Nat.le_of_ble_eq_true h1) (Nat.le_of_ble_eq_true h2) (Nat.le_of_ble_eq_true h3) hz (by simpa using hzl)
    show OutRel P σ h w _ (((do pure (Next.value (← Instr.makeSlice t (ev l) (ev c)))) : Sem Next).run P w)
    rw [hx', hy']
    exact this
 case slice t x lo hi mx =>
  obtain ⟨hel, e⟩ := bcase_eq_some.1 e
  obtain ⟨z, hz, rfl⟩ := val_inv e
  obtain ⟨v, g1, g2⟩ := slice_rel r (elemOk_inv hel) (hρ x) (orel_map hρ lo) (orel_map hρ hi) (orel_map hρ mx) hz
  exact OutRel.same' r g2 (run_val g1)
 case fieldAddr t x f =>
  cases hu : P.underlying t with
  | none => simp [hu] at e
  | some d =>
   rw [hu] at e
   cases d <;> simp only at e <;> try (cases e; done)
   case struct fields =>
    obtain ⟨a, ha, e1⟩ := ob_eq_some.1 e
    obtain ⟨fd, hf, e2⟩ := ob_eq_some.1 e1
    obtain ⟨hz, e3⟩ := bcase_none_eq_some.1 e2
    cases e3
    have hx := hρ x
    rw [isPtr_inv ha] at hx
    obtain ⟨q, hq, he⟩ := hx
    rw [nbeq] at hz
    have hz' : P.cellsOf fd.type ≠ 0 := by simpa using hz
    have hi : ∃ i, P.info? fd.type = some i := by
     cases hi : P.info? fd.type with
     | none => simp [Program.cellsOf, hi] at hz'
     | some i => exact ⟨i, rfl⟩
    obtain ⟨i, hi⟩ := hi
    refine OutRel.same' (v := .pointer (some ⟨q.blk, q.base + (a.2 + fd.offset), none⟩)) r ⟨q, hq, rfl⟩ (run_val (s := Instr.fieldAt t (ev x) f) ?_)
    rw [he]
    simp [Instr.fieldAt, rU w hu, hf, Instr.sureAddr, fieldPlace, run_sizeOf' w hi, hz', addr_add, Nat.add_assoc]
 case field t x f =>
  cases hu : P.underlying t with
  | none => simp [hu] at e
  | some d =>
   rw [hu] at e
   cases d <;> simp only at e <;> try (cases e; done)
   case struct fields =>
    obtain ⟨cs, hcs, e1⟩ := ob_eq_some.1 e
    obtain ⟨fd, hf, e2⟩ := ob_eq_some.1 e1
    obtain ⟨z, hz, rfl⟩ := val_inv e2
    have hx := hρ x
    rw [isAgg_inv hcs] at hx
    obtain ⟨cs', he, g1, g2⟩ := hx
    obtain ⟨v, k1, k2⟩ := partH_rel w g1 g2 hz
    refine OutRel.same' r k2 (run_val (s := Instr.field t (ev x) f) ?_)
    rw [he]
    simp [Instr.field, rU w hu, hf, asAgg, k1]
 case indexAddr t x i =>
  obtain ⟨hel, e⟩ := bcase_eq_some.1 e
  obtain ⟨n, hn, e⟩ := ob_eq_some.1 e
  obtain ⟨ki, hki⟩ := isNat_inv hn
  have hi := hρ i
  rw [hki] at hi
  have hi' : ev i = .int ki (n : Int) := hi
  have hx := hρ x
  cases hu : P.underlying t with
  | none => simp [hu] at e
  | some d =>
   rw [hu] at e
   cases d <;> simp only at e <;> try (cases e; done)
   case array len el =>
    obtain ⟨ie, hie⟩ := elemOk_inv hel el (.inr ⟨len, hu⟩)
    obtain ⟨a, ha, e1⟩ := ob_eq_some.1 e
    obtain ⟨hlt, e2⟩ := bcase_eq_some.1 e1
    cases e2
    rw [isPtr_inv ha] at hx
    obtain ⟨q, hq, he⟩ := hx
    rw [nblt] at hlt
    have hlt' : n < len := by simpa using hlt
    refine OutRel.same' (v := .pointer (some ⟨q.blk, q.base + (a.2 + n * P.cellsOf el), none⟩)) r ⟨q, hq, rfl⟩ (run_val (s := Instr.indexAt t (ev x) (ev i)) ?_)
    rw [he, hi']
    simp [Instr.indexAt, asIntOf, rU w hu, Instr.sureAddr, hlt', run_sizeOf' w hie, addr_add, Nat.add_assoc]
   case slice el =>
    obtain ⟨ie, hie⟩ := elemOk_inv hel el (.inl hu)
    generalize hrx : ρ x = y at e hx
    cases y <;> simp only at e <;> try (cases e; done)
    obtain ⟨hlt, e2⟩ := bcase_eq_some.1 e
    cases e2
    obtain ⟨q, c, hq, he, _⟩ := hx
    rw [nblt] at hlt
    have hlt' := of_decide_eq_true hlt
    refine OutRel.same' (v := .pointer (some ⟨q.blk, q.base + (_ + n * P.cellsOf el), none⟩)) r ⟨q, hq, rfl⟩ (run_val (s := Instr.indexAt t (ev x) (ev i)) ?_)
    rw [he, hi']
    simp [Instr.indexAt, asIntOf, rU w hu, Instr.sureAddr, hlt', run_sizeOf' w hie, addr_add, Nat.add_assoc]
 case index t x i =>
  obtain ⟨hel, e⟩ := bcase_eq_some.1 e
  obtain ⟨n, hn, e⟩ := ob_eq_some.1 e
  obtain ⟨ki, hki⟩ := isNat_inv hn
  have hi := hρ i
  rw [hki] at hi
  have hi' : ev i = .int ki (n : Int) := hi
  have hx := hρ x
  cases hu : P.underlying t with
  | none => simp [hu] at e
  | some d =>
   rw [hu] at e
   cases d <;> simp only at e <;> try (cases e; done)
   case array len el =>
    obtain ⟨ie, hie⟩ := elemOk_inv hel el (.inr ⟨len, hu⟩)
    obtain ⟨cs, hcs, e1⟩ := ob_eq_some.1 e
    obtain ⟨hlt, e2⟩ := bcase_eq_some.1 e1
    obtain ⟨z, hz, rfl⟩ := val_inv e2
    rw [isAgg_inv hcs] at hx
    obtain ⟨cs', he, g1, g2⟩ := hx
    obtain ⟨v, k1, k2⟩ := partH_rel w g1 g2 hz
    rw [nblt] at hlt
    have hlt' : n < len := by simpa using hlt
    refine OutRel.same' r k2 (run_val (s := Instr.index t (ev x) (ev i)) ?_)
    rw [he, hi']
    have k1' : (part el { toList := cs' } (n * P.cellsOf el)).run P w = .ok v w := k1
    simp [Instr.index, asIntOf, rU w hu, hlt', run_sizeOf' w hie, k1']
   case string =>
    generalize hrx : ρ x = y at e hx
    cases y <;> simp only at e <;> try (cases e; done)
    obtain ⟨hlt, e2⟩ := bcase_eq_some.1 e
    cases e2
    obtain ⟨s, he, rfl, rfl⟩ := hx
    rw [nblt] at hlt
    have hlt' := of_decide_eq_true hlt
    refine OutRel.same' (v := .int .u8 (s[n]'hlt').toNat) r (by rw [sIndex_eq s n hlt']; rfl) (run_val (s := Instr.index t (ev x) (ev i)) ?_)
    rw [he, hi']
    simp [Instr.index, asIntOf, rU w hu, hlt']
 case lookup t x i ok => exact lookup_rel r (hρ x) (hρ i) e
 case mapUpdate t m k v => exact update_rel r (hρ m) (hρ k) (hρ v) e
 case insert t m k v => exact update_rel r (hρ m) (hρ k) (hρ v) e
 case mapEntry t m k => exact entry_rel r (hρ m) (hρ k) e
 case entryStore t m s v =>
  obtain ⟨b, hb, e1⟩ := ob_eq_some.1 e
  obtain ⟨n, hn, e2⟩ := ob_eq_some.1 e1
  obtain ⟨o, ho, e3⟩ := ob_eq_some.1 e2
  obtain ⟨hrw, e4⟩ := bcase_eq_some.1 e3
  obtain ⟨q, hq, e5⟩ := ob_eq_some.1 e4
  clear e e1 e2 e3 e4
  cases e5
  obtain ⟨kd, hkd⟩ := isNat_inv hn
  have hs := hρ s
  rw [hkd] at hs
  exact entryStore_rel r (hρ m) (hρ v) hs hb ho hrw hq
 case typeAssert x xt asserted ok =>
  have hx := hρ x
  cases hu : P.underlying asserted with
  | none => simp [hu] at e
  | some d =>
   rw [hu] at e
   have hni : ∀ ms, d ≠ .interface ms := by rintro ms rfl; simp at e
   have e' : (match ρ x with
    | .nili => bcase ok (ob (zeroH P asserted) fun z => some (.val (.tuple [z, .bool false]) h)) none
    | .iface t v => bcase (Nat.beq t asserted) (some (.val (bcase ok (.tuple [v, .bool true]) v) h))
      (bcase ok (ob (zeroH P asserted) fun z => some (.val (.tuple [z, .bool false]) h)) none)
    | _ => none) = some out := by cases d <;> first | exact absurd rfl (hni _) | exact e
   clear e
   generalize hrx : ρ x = y at e' hx
   cases y <;> simp only at e' <;> try (cases e'; done)
   ·obtain ⟨hok, e1⟩ := bcase_eq_some.1 e'
    obtain ⟨z, hz, e2⟩ := ob_eq_some.1 e1
    cases e2
    obtain ⟨zv, g1, g2⟩ := zeroH_run (σ := σ) w hz
    have he : ev x = .nilIface := hx
    refine OutRel.same' (v := .tuple #[zv, .bool false]) r ⟨_, rfl, VRels.cons g2 (VRels.cons rfl VRels.nil)⟩ (run_val (s := Instr.typeAssert (ev x) xt asserted ok) ?_)
    subst hok
    rw [he]
    cases d <;> first | exact absurd rfl (hni _) | simp [Instr.typeAssert, rU w hu, g1]
   ·rename_i t v
    obtain ⟨v', he, hv⟩ := hx
    rw [bcE, nbeq] at e'
    by_cases ht : t = asserted
    ·simp only [ht, decide_true, if_true] at e'
     cases e'
     refine OutRel.same' (v := if ok then .tuple #[v', .bool true] else v') r ?_ (run_val (s := Instr.typeAssert (ev x) xt asserted ok) ?_)
     ·cases ok
      ·exact hv
      ·exact ⟨_, rfl, VRels.cons hv (VRels.cons rfl VRels.nil)⟩
     ·rw [he, ht]
      cases d <;> first | exact absurd rfl (hni _) | simp [Instr.typeAssert, rU w hu]
    ·simp only [ht, decide_false, Bool.false_eq_true, if_false] at e'
     obtain ⟨hok, e1⟩ := bcase_eq_some.1 e'
     obtain ⟨z, hz, e2⟩ := ob_eq_some.1 e1
     cases e2
     obtain ⟨zv, g1, g2⟩ := zeroH_run (σ := σ) w hz
     refine OutRel.same' (v := .tuple #[zv, .bool false]) r ⟨_, rfl, VRels.cons g2 (VRels.cons rfl VRels.nil)⟩ (run_val (s := Instr.typeAssert (ev x) xt asserted ok) ?_)
     subst hok
     rw [he]
     cases d <;> first | exact absurd rfl (hni _) | simp [Instr.typeAssert, rU w hu, g1, ht]
 case range t x => exact range_rel r (hρ x) e
 case next it str => exact next_rel r (hρ it) e
 case extract x i =>
  obtain ⟨l, hl, e1⟩ := ob_eq_some.1 e
  obtain ⟨z, hz, rfl⟩ := val_inv e1
  have hx := hρ x
  rw [isTuple_inv hl] at hx
  obtain ⟨l', he, g⟩ := hx
  rw [nth_eq] at hz
  obtain ⟨v, hv, hr⟩ := g.get hz
  refine OutRel.same' r hr (run_val (s := Instr.extract (ev x) i) ?_)
  rw [he]
  simp [Instr.extract, hv]
 case call c =>
  obtain ⟨callee, args, argTypes⟩ := c
  have hargs := VRels.map ρ ev hρ args.toList
  cases callee with
  | builtin b =>
   simp only at e
   have := builtin_rel (consts := args.map fun | .const _ => true | _ => false) r (type := type) hargs e
   have ha : (⟨args.toList.map ev⟩ : Array Value) = args.map ev := by apply Array.ext'; simp
   rw [ha] at this
   exact this
  | invoke recv name =>
   simp only at e
   have hf := hρ recv
   generalize hrr : ρ recv = y at e hf
   cases y <;> simp only at e <;> try (cases e; done)
   obtain ⟨fid, hm, e1⟩ := ob_eq_some.1 e
   obtain ⟨v', he, hv⟩ := hf
   have := call_rel r (VRels.cons hv hargs) e1
   show OutRel P σ h w out (((do let d ← resolve ev { callee := .invoke recv name, args, argTypes } type; invoke d.target d.args) : Sem Next).run P w)
   have hrun : ((do let d ← resolve ev { callee := .invoke recv name, args, argTypes } type; invoke d.target d.args) : Sem Next).run P w = (callFunc fid ⟨v' :: args.toList.map ev⟩).run P w := by
    have h0 : (#[ev recv] ++ args.map ev)[0]? = some (ev recv) := by rw [Array.getElem?_append_left (by simp)]; rfl
    have h1 : (#[v'] ++ (#[ev recv] ++ args.map ev).extract 1 (#[ev recv] ++ args.map ev).size) = (⟨v' :: args.toList.map ev⟩ : Array Value) := by
     apply Array.ext'
     simp
     rw [List.take_of_length_le (by simp)]
    simp only [resolve, Sem.run_bind, Sem.run_pure, Result.andThen_ok, invoke, h0]
    rw [he] at h1 ⊢
    simp [callMethod, method_rel w hm v']
    congr 2
    simpa using h1
   rw [hrun]
   exact this
  | value f =>
   simp only at e
   have hf := hρ f
   generalize hrf : ρ f = y at e hf
   cases y <;> simp only at e <;> try (cases e; done)
   case yield k =>
    cases e
    obtain ⟨p, hp, he⟩ := hf
    have e0 : ∀ m, Nat.add m k = m + k := fun m => rfl
    have e1 : ∀ m, Nat.add m k - m = k := fun m => by rw [e0]; omega
    have e2 : ∀ m, m ≤ Nat.add m k := fun m => by rw [e0]; omega
    refine ⟨args.toList.map ev, .inr ⟨e2 _, p, by rw [e1]; exact hp, ?_⟩, hargs, rfl⟩
    show (((do let d ← resolve ev { callee := .value f, args, argTypes } type; invoke d.target d.args) : Sem Next).run P w) = _
    simp only [resolve, he, Deferred.ofValue, Sem.run_bind, Sem.run_pure, Result.andThen_ok, invoke]
    congr 2
    apply Array.ext'
    simp
   rename_i ff _ _
   obtain ⟨a, b, he, ha, hb⟩ := hf
   have := call_rel r (ha.append (hargs.append hb)) e
   show OutRel P σ h w out (((do let d ← resolve ev { callee := .value f, args, argTypes } type; invoke d.target d.args) : Sem Next).run P w)
   have hrun : ((do let d ← resolve ev { callee := .value f, args, argTypes } type; invoke d.target d.args) : Sem Next).run P w = (callFunc ff ⟨a ++ (args.toList.map ev ++ b)⟩).run P w := by
    simp only [resolve, he, Deferred.ofValue, Sem.run_bind, Sem.run_pure, Result.andThen_ok, invoke]
    congr 2
    apply Array.ext'
    simp
   rw [hrun]
   exact this
 case defer c =>
  obtain ⟨callee, args, argTypes⟩ := c
  have hargs := VRels.map ρ ev hρ args.toList
  cases callee with
  | builtin b => simp at e
  | invoke => simp at e
  | value f =>
   simp only at e
   have hf := hρ f
   generalize hrf : ρ f = y at e hf
   cases y <;> simp only at e <;> try (cases e; done)
   obtain ⟨a, b, he, ha, hb⟩ := hf
   cases e
   refine ⟨a ++ args.toList.map ev, b, ?_, by rw [List.append_assoc]; exact ha.append (hargs.append hb), rfl⟩
   show ((do pure (.defer (← resolve ev { callee := .value f, args, argTypes } type))) : Sem Next).run P w = _
   simp only [resolve, he, Deferred.ofValue, Sem.run_bind, Sem.run_pure, Result.andThen_ok]
   congr 3
   apply Array.ext'
   simp
 case panic x =>
  have hx := hρ x
  generalize hrx : ρ x = y at e hx
  cases y <;> simp only at e <;> try (cases e; done)
  cases e
  obtain ⟨v', he, hv⟩ := hx
  refine ⟨.iface _ v', ?_, ⟨v', rfl, hv⟩, rfl⟩
  show ((do pure (Next.value (← Instr.panic (ev x)))) : Sem Next).run P w = _
  rw [he]
  simp [Instr.panic]
end
end Go.HL
namespace Go.HL
open Go
/-! ## Slots -/
theorem assoc_nil {α : Type} (d : α) (k : Nat) : assoc [] d k = d := rfl
theorem assoc_cons {α : Type} (p : Nat × α) (l : List (Nat × α)) (d : α) (k : Nat) : assoc (p :: l) d k = if p.1 = k then p.2 else assoc l d k := by
 show Bool.rec (motive := fun _ => α) (assoc l d k) p.2 (Nat.beq p.1 k) = _
 rw [nbeq]
 by_cases h : p.1 = k <;> simp [h]
theorem setAK_eq {α β : Type} (key : Nat) (v : α) : ∀ (l : List (Nat × α)) (k : List (Nat × α) → β), ∃ m, setAK l key v k = k m ∧ ∀ d j, assoc m d j = if key = j then v else assoc l d j
 | [], k => ⟨[(key, v)], rfl, fun d j => assoc_cons _ _ _ _⟩
 | p :: t, k => by
  have e : setAK (p :: t) key v k = Bool.rec (setAK t key v fun r => k (p :: r)) (k ((key, v) :: t)) (Nat.beq p.1 key) := rfl
  rw [e, nbeq]
  by_cases h : p.1 = key
  ·refine ⟨(key, v) :: t, by simp [h], fun d j => ?_⟩
   rw [assoc_cons, assoc_cons, h]
   by_cases hj : key = j <;> simp [hj]
  ·obtain ⟨m, h1, h2⟩ := setAK_eq key v t fun r => k (p :: r)
   refine ⟨p :: m, by simp [h, h1], fun d j => ?_⟩
   rw [assoc_cons, assoc_cons, h2]
   by_cases hj : p.1 = j
   ·have : key ≠ j := fun e => h (hj.trans e.symm)
    simp [hj, this]
   ·simp [hj]
theorem Env.get_eq (e : Env) (i : Nat) : e.get i = assoc e.loc (assoc e.vars .bad i) i := rfl
theorem Env.get_put (e : Env) (dst : Option Tmp) (v : HVal) (i : Nat) : (e.put dst v).get i = if dst = some i then v else e.get i := by
 cases dst with
 | none => simp [Env.put]
 | some d =>
  simp only [Env.put, Env.get_eq, assoc_cons, Option.some.injEq]
def EnvRel (σ : Places) (e : Env) (tmps : Array Value) : Prop := ∀ t, VRel σ (e.get t) (tmps.getD t undef)
def MaskOk (e : Env) (mask : Nat) : Prop := ∀ i, bit mask i = false → ∀ d, assoc e.vars d i = d
def DefRel (σ : Places) : List (Nat × List HVal) → List Deferred → Prop
 | [], l => l = []
 | x :: l, l' => match markOf x.2 with
  | some k => ∃ p m, l' = ⟨.collected p.blk, #[]⟩ :: m ∧ σ k = some p ∧ DefRel σ l m
  | none => ∃ dargs cap m, l' = ⟨.fn (.func x.1) ⟨cap⟩, ⟨dargs⟩⟩ :: m ∧ VRels σ x.2 (dargs ++ cap) ∧ DefRel σ l m
theorem markOf_none {σ : Places} {l : List HVal} {m : List Value} (h : VRels σ l m) : markOf l = none := by
 cases l with
 | nil => rfl
 | cons v l => obtain ⟨y, m', _, hv, _⟩ := h.cons_inv; cases v <;> first | rfl | exact hv.elim
theorem DefRel.call {σ : Places} {f : Nat} {args : List HVal} {dargs cap : List Value} {l : List (Nat × List HVal)} {m : List Deferred} (hv : VRels σ args (dargs ++ cap)) (h : DefRel σ l m) :
  DefRel σ ((f, args) :: l) (⟨.fn (.func f) ⟨cap⟩, ⟨dargs⟩⟩ :: m) := by
 simp only [DefRel, markOf_none hv]
 exact ⟨dargs, cap, m, rfl, hv, h⟩
def PanRel (σ : Places) (deferred : Bool) (p : Pan) (u : FrameMode) : Prop :=
 match deferred, p with
 | false, .none => True
 | true, .calm => u = .returning
 | true, .on x => ∃ v, VRel σ x v ∧ u = .panicking [{ v, recovered := false }]
 | true, .done x => ∃ v, VRel σ x v ∧ u = .panicking [{ v, recovered := true }]
 | _, _ => False
theorem EnvRel.mono {σ τ : Places} (h : σ.le τ) {e : Env} {t : Array Value} (r : EnvRel σ e t) : EnvRel τ e t := fun i => (r i).mono h
theorem DefRel.mono {σ τ : Places} (h : σ.le τ) : ∀ {l : List (Nat × List HVal)} {m : List Deferred}, DefRel σ l m → DefRel τ l m
 | [], _, e => e
 | x :: l, l', e => by
  simp only [DefRel] at e ⊢
  split at e
  ·rename_i k hk
   obtain ⟨p, m, e1, e2, e3⟩ := e
   exact ⟨p, m, e1, h k p e2, DefRel.mono h e3⟩
  ·obtain ⟨a, c, m, e, hv, hm⟩ := e
   exact ⟨a, c, m, e, hv.mono h, hm.mono h⟩
theorem PanRel.mono {σ τ : Places} (h : σ.le τ) {d : Bool} {p : Pan} {u : FrameMode} (r : PanRel σ d p u) : PanRel τ d p u := by
 cases d <;> cases p <;> first | exact r | (obtain ⟨v, hv, e⟩ := r; exact ⟨v, hv.mono h, e⟩)
theorem getD_put (a : Act) (dst : Option Tmp) (v : Value) (i : Nat) (hf : ∀ d, dst = some d → d < a.tmps.size) :
  (a.put dst v).tmps.getD i undef = if dst = some i then v else a.tmps.getD i undef := by
 cases dst with
 | none => simp [Act.put]
 | some d =>
  have hd := hf d rfl
  simp only [Act.put, Array.getD_eq_getD_getElem?, Array.getElem?_setIfInBounds, Option.some.injEq]
  by_cases h : d = i
  ·subst h; simp [hd]
  ·simp [h]
theorem Act.size_put (a : Act) (dst : Option Tmp) (v : Value) : (a.put dst v).tmps.size = a.tmps.size := by cases dst <;> simp [Act.put]
theorem Act.defers_put (a : Act) (dst : Option Tmp) (v : Value) : (a.put dst v).defers = a.defers := by cases dst <;> rfl
theorem fits_inv {dst : Option Tmp} {n : Nat} (h : fits dst n = true) : ∀ d, dst = some d → d < n := by
 rintro d rfl
 simp only [fits, nblt] at h
 exact of_decide_eq_true h
/-! ## Operands: what an operation looks at -/
theorem hasNat_iff : ∀ {l : List Nat} {n : Nat}, hasNat l n = true ↔ n ∈ l
 | [], n => by simp [hasNat]
 | x :: l, n => by
  rw [hasNat, bcE, nbeq]
  by_cases h : x = n
  ·simp [h]
  ·have : n ≠ x := fun e => h e.symm
   simp [h, this, hasNat_iff]
theorem mem_opLooks : ∀ {l : List Operand} {t : Tmp}, Operand.tmp t ∈ l → t ∈ opLooks l
 | x :: l, t, h => by
  rcases List.mem_cons.1 h with e | h'
  ·subst e; exact List.mem_cons_self ..
  ·cases x with
   | tmp u => exact List.mem_cons_of_mem _ (mem_opLooks h')
   | const v => exact mem_opLooks (l := l) h'
   | global v => exact mem_opLooks (l := l) h'
   | func v => exact mem_opLooks (l := l) h'
def only (l : List Tmp) (ρ : Operand → HVal) : Operand → HVal
 | .tmp t => if t ∈ l then ρ (.tmp t) else .bad
 | x => ρ x
section
variable {P : Program} {σ : Places} {h : Heap} {w : World}
theorem constH_rel (v : Value) : VRel σ (constH v) v := by
 unfold constH
 split
 ·rename_i x hx; exact ofValue_rel hx
 ·trivial
theorem eval_rel (r : Rel P σ h w) {env : Env} {a : Act} {l : List Tmp} (hl : ∀ t ∈ l, VRel σ (env.get t) (a.tmps.getD t undef)) (x : Operand) : VRel σ (only l (env.eval P) x) (a.eval x) := by
 cases x with
 | tmp t =>
  simp only [only, Act.eval]
  split
  ·exact hl t (by assumption)
  ·trivial
 | const v => exact constH_rel v
 | global g =>
  simp only [only, Env.eval, Act.eval]
  rw [bcE, nblt]
  split
  ·rename_i hg
   obtain ⟨p, hp, hb, h0⟩ := r.glob g (of_decide_eq_true hg)
   exact ⟨p, hp, by rw [hb, h0]⟩
  ·trivial
 | func f => exact ⟨[], [], rfl, VRels.nil, VRels.nil⟩
theorem placesOf_congr {ρ ρ' : Operand → HVal} (fs : List Field) : ∀ {l : List (Nat × Operand)}, (∀ p ∈ l, ρ p.2 = ρ' p.2) → placesOf P fs ρ l = placesOf P fs ρ' l
 | [], _ => rfl
 | p :: l, e => by
  simp only [placesOf]
  rw [placesOf_congr fs (fun q hq => e q (List.mem_cons_of_mem _ hq)), e p (List.mem_cons_self ..)]
theorem opH_congr {ρ ρ' : Operand → HVal} {h : Heap} {o : Oper} (e : ∀ x ∈ o.op.operands.toList, ρ x = ρ' x) : opH P ρ h o = opH P ρ' h o := by
 obtain ⟨dst, op, type, pos, after, guard⟩ := o
 cases op <;> simp only [opH] <;> simp only [Op.operands] at e <;> try rfl
 case build t parts =>
  have e' : ∀ p ∈ parts.toList, ρ p.2 = ρ' p.2 := fun p hp => e p.2 (by simp only [List.mem_map]; exact ⟨p, hp, rfl⟩)
  have h1 : ∀ fs, placesOf P fs ρ parts.toList = placesOf P fs ρ' parts.toList := fun fs => placesOf_congr fs e'
  have h2 : ∀ f : Nat × Operand → Nat, ∀ c : Nat, (parts.toList.map fun p => (f p, c, ρ p.2)) = parts.toList.map fun p => (f p, c, ρ' p.2) := fun f c => List.map_congr_left fun p hp => by rw [e' p hp]
  simp only [h1, h2]
 case buildSlice t n parts =>
  have e' : ∀ p ∈ parts.toList, ρ p.2 = ρ' p.2 := fun p hp => e p.2 (by simp only [List.mem_map]; exact ⟨p, hp, rfl⟩)
  have h2 : ∀ f : Nat × Operand → Nat, ∀ c : Nat, (parts.toList.map fun p => (f p, c, ρ p.2)) = parts.toList.map fun p => (f p, c, ρ' p.2) := fun f c => List.map_congr_left fun p hp => by rw [e' p hp]
  simp only [h2]
 case makeFunc f first cap =>
  have h1 : first.toList.map ρ = first.toList.map ρ' := List.map_congr_left fun p hp => e p (by simp at hp ⊢; exact .inl hp)
  have h2 : cap.toList.map ρ = cap.toList.map ρ' := List.map_congr_left fun p hp => e p (by simp at hp ⊢; exact .inr hp)
  cases f <;> simp only [h1, h2]
 case makeMap t r =>
  cases r with
  | none => rfl
  | some x => simp only [e x (by simp)]
 case slice t x l h m =>
  have h0 := e x (by simp)
  have h1 : l.map ρ = l.map ρ' := by cases l with | none => rfl | some y => simp only [Option.map_some]; rw [e y (by simp)]
  have h2 : h.map ρ = h.map ρ' := by cases h with | none => rfl | some y => simp only [Option.map_some]; rw [e y (by simp)]
  have h3 : m.map ρ = m.map ρ' := by cases m with | none => rfl | some y => simp only [Option.map_some]; rw [e y (by simp)]
  simp only [h0, h1, h2, h3]
 case call c =>
  have h1 : c.args.toList.map ρ = c.args.toList.map ρ' := List.map_congr_left fun p hp => e p (by simp [Call.operands] at hp ⊢; exact .inr hp)
  cases hc : c.callee with
  | value f => simp only [h1, e f (by simp [Call.operands, hc])]
  | invoke r m => simp only [h1, e r (by simp [Call.operands, hc])]
  | builtin b => simp only [h1]
 case defer c =>
  have h1 : c.args.toList.map ρ = c.args.toList.map ρ' := List.map_congr_left fun p hp => e p (by simp [Call.operands] at hp ⊢; exact .inr hp)
  cases hc : c.callee with
  | value f => simp only [h1, e f (by simp [Call.operands, hc])]
  | invoke r m => rfl
  | builtin b => rfl
 all_goals
  simp only [List.forall_mem_cons, List.not_mem_nil, false_implies, implies_true, and_true] at e
  simp only [e]
theorem only_congr {l : List Tmp} {ρ : Operand → HVal} {o : Oper} (hl : ∀ t ∈ opLooks o.op.operands.toList, t ∈ l) {h : Heap} : opH P (only l ρ) h o = opH P ρ h o := by
 refine opH_congr fun x hx => ?_
 cases x <;> simp only [only]
 rw [if_pos (hl _ (mem_opLooks hx))]
theorem wanted_rel {ops : Array Oper} {o : Oper} {env : Env} {a : Act} {b : Bool} (hl : ∀ t ∈ looks ops o, VRel σ (env.get t) (a.tmps.getD t undef)) (e : wantedH ops o env = some b) :
  Region.wanted o (yielded ops a.tmps) = b := by
 unfold wantedH at e
 unfold Region.wanted
 cases hg : o.guard with
 | none => rw [hg] at e; simp only at e ⊢; cases e; rfl
 | some g =>
  obtain ⟨j, want⟩ := g
  rw [hg] at e
  simp only at e ⊢
  cases hd : (ops[j]?).bind (·.dst) with
  | none => rw [hd] at e; cases e
  | some d =>
   rw [hd] at e
   simp only at e
   have hm : d ∈ looks ops o := by simp [looks, guardLooks, hg, hd]
   have hv := hl d hm
   generalize hx : env.get d = x at e hv
   cases x <;> simp only at e <;> try (cases e; done)
   ·cases e
    rename_i b
    have hv' : a.tmps.getD d undef = .bool b := hv
    have hs : a.tmps[d]? = some (.bool b) := by
     rw [Array.getD_eq_getD_getElem?] at hv'
     cases hs : a.tmps[d]? with
     | none => rw [hs] at hv'; simp [undef] at hv'
     | some v => rw [hs] at hv'; simp at hv'; rw [hv']
    simp only [yielded, hd, Option.bind_some, hs]
    cases b <;> cases want <;> rfl
   ·cases e
    obtain ⟨l', hv', _⟩ := hv
    have hs : ∀ b, a.tmps[d]? ≠ some (.bool b) := by
     intro b hs
     rw [Array.getD_eq_getD_getElem?, hs] at hv'
     simp at hv'
    simp only [yielded, hd, Option.bind_some]
    cases hs' : a.tmps[d]? with
    | none => rfl
    | some v =>
     cases v <;> first | (exact absurd hs' (hs _)) | rfl
def CRel (τ : Places) : CRes → Ending → Prop
 | .ret x, e => ∃ v, e = .returned v ∧ VRel τ x v
 | .pan x, e => ∃ v, e = .panicked [{ v, recovered := false }] ∧ VRel τ x v
def RoundGo (P : Program) (l : Nat) (vs : List Value) (w : World) (R : Value → World → Prop) : Prop :=
 ∃ fn tmps assign body, (Instr.yield l ⟨vs⟩).run P w = .ok (.round l fn tmps assign body) w ∧
  ∀ (c : Frame) (cs : List Frame), ∃ v w', R v w' ∧ Steps P (lone (Frame.round l fn tmps assign body .normal) (c :: cs) w) (lone (c.finish v) cs w')
def CallSound (P : Program) (call : CallFn) : Prop := ∀ f args h r h', call f args h = some (r, h') → ∀ (σ : Places) (w : World) (vs : List Value), Rel P σ h w → VRels σ args vs →
 (f < roundNo → Calls P f ⟨vs⟩ w fun e w' => ∃ τ, Step P σ h w τ h' w' ∧ CRel τ r e) ∧
 (roundNo ≤ f → ∀ p, σ (f - roundNo) = some p → RoundGo P p.blk vs w fun v w' => ∃ x τ, r = .ret x ∧ VRel τ x v ∧ Step P σ h w τ h' w')
def NoRounds (call : CallFn) : Prop := ∀ f args h, roundNo ≤ f → call f args h = none
theorem gate_noRounds (c : CallFn) : NoRounds (gate c) := by
 intro f args h hf
 unfold gate
 rw [nblt, bcE, if_neg]
 rw [decide_eq_true_iff]; omega
theorem gate_sound {c : CallFn} (hc : CallSound P c) : CallSound P (gate c) := by
 intro f args h r h' e
 unfold gate at e
 exact hc f args h r h' (bcase_eq_some.1 e).2
theorem upon_of {call : CallFn} (hc : CallSound P call) (hg : NoRounds call) {s : St} {o : Oper} {a : Act} {out : Out} {q : Result Next} (r : Rel P σ s.heap w) (hd : DefRel σ s.defers a.defers)
  (ho : OutRel P σ s.heap w out q) (hn : ∀ h', out ≠ .recov h') {e : Ex × St} (he : afterH call o.dst s out = some e) {K : Act → World → Prop} {Q : Exit → Act → World → Prop}
  (hk : ∀ x h' ds, e = (.nrm, ⟨s.env.put o.dst x, h', ds, s.pan, s.mask, s.lim⟩) → ∀ τ v w' ds', Step P σ s.heap w τ h' w' → VRel τ x v → DefRel τ ds ds' → K ({ a with defers := ds' }.put o.dst v) w')
  (hp : ∀ x h', e = (.pan x, s.mem h') → ∀ τ v w', Step P σ s.heap w τ h' w' → VRel τ x v → Q (.panic [{ v, recovered := false }]) a w') :
  o.upon P a K Q q ∧ ∀ w', q ≠ .ok .recover w' := by
 cases out with
 | val x h' =>
  obtain ⟨nx, v, τ, w', rfl, hnx, hv, hs⟩ := ho
  simp only [afterH, force_eq] at he
  cases he
  have := hk x h' s.defers rfl τ v w' a.defers hs hv (hd.mono hs.le)
  rcases hnx with rfl | ⟨rfl, rfl⟩
  ·exact ⟨this, by simp⟩
  ·exact ⟨this, by simp⟩
 | enter f args h' =>
  obtain ⟨args', hcase, ha, rfl⟩ := ho
  simp only [afterH] at he
  obtain ⟨⟨cr, h2⟩, h1, h3⟩ := ob_eq_some.1 he
  rcases hcase with ⟨hlt, rfl⟩ | ⟨hge, _⟩
  case inr => rw [hg f args s.heap hge] at h1; cases h1
  refine ⟨?_, by simp⟩
  rw [Oper.upon_enter]
  refine Calls.mono ((hc f args s.heap cr h2 h1 σ w args' r ha).1 hlt) ?_
  rintro en w' ⟨τ, hs, hr⟩
  cases cr with
  | ret x =>
   obtain ⟨v, rfl, hv⟩ := hr
   simp only [force_eq] at h3
   cases h3
   exact hk x h2 s.defers rfl τ v w' a.defers hs hv (hd.mono hs.le)
  | pan x =>
   obtain ⟨v, rfl, hv⟩ := hr
   simp only at h3
   cases h3
   exact hp x h2 rfl τ v w' hs hv
 | defer f args h' =>
  obtain ⟨dargs, cap, rfl, ha, rfl⟩ := ho
  simp only [afterH] at he
  cases he
  refine ⟨?_, by simp⟩
  exact hk undefH s.heap ((f, args) :: s.defers) rfl σ undef w _ (Step.refl r) ⟨[], rfl, VRels.nil⟩ (DefRel.call ha hd)
 | recov h' => exact absurd rfl (hn h')
 | pan x h' =>
  obtain ⟨v, rfl, hv, rfl⟩ := ho
  simp only [afterH] at he
  cases he
  exact ⟨hp x s.heap rfl σ v w (Step.refl r) hv, by simp⟩
end
end Go.HL
namespace Go.HL
open Go
structure FRel (σ : Places) (dfr : Bool) (s : St) (a : Act) (u : FrameMode) : Prop where
 env : EnvRel σ s.env a.tmps
 lim : s.lim = a.tmps.size
 mask : MaskOk s.env s.mask
 defs : DefRel σ s.defers a.defers
 pan : PanRel σ dfr s.pan u
theorem FRel.mono {σ τ : Places} (h : σ.le τ) {dfr : Bool} {s : St} {a : Act} {u : FrameMode} (f : FRel σ dfr s a u) : FRel τ dfr s a u :=
 ⟨f.env.mono h, f.lim, f.mask, f.defs.mono h, f.pan.mono h⟩
def ExRel (τ : Places) : Ex → Exit → Prop
 | .nrm, x => x = .normal
 | .exit id, x => x = .exit id
 | .ret, x => x = .ret
 | .pan y, x => ∃ v, x = .panic [{ v, recovered := false }] ∧ VRel τ y v
def Ends (P : Program) (σ : Places) (dfr : Bool) (h : Heap) (w : World) (r : Ex × St) : Exit → Act → FrameMode → World → Prop := fun x a' u' w' =>
 ∃ τ, Step P σ h w τ r.2.heap w' ∧ ExRel τ r.1 x ∧ FRel τ dfr r.2 a' u'
def KindF (dfr : Bool) (F : FrameMode → List Frame) : Prop :=
 match dfr with
 | false => ∃ cs, F = fun _ => cs
 | true => ∃ (c : Frame) (cs : List Frame), F = fun u => ({ c with mode := u } : Frame) :: cs
def startOf (c : Code) (k : List Item) : List Item :=
 match c with
 | .loop b => .code b :: .inLoop b :: k
 | c => .code c :: k
def Goes (P : Program) (dfr : Bool) (F : FrameMode → List Frame) (st : List Item → List Item) (Q : Exit → Act → FrameMode → World → Prop) (a : Act) (u : FrameMode) (w : World) : Prop :=
 ∀ (b : Frame) (k : List Item), (dfr = true → b.kind = .deferred ∧ b.roundOf = none) →
  ∃ e a' u' w', Q e a' u' w' ∧ Arrives P (lone (b.at a (st k)) (F u) w) b k (F u') e a' w'
section
variable {P : Program} {dfr : Bool} {F : FrameMode → List Frame} {Q : Exit → Act → FrameMode → World → Prop} {a : Act} {u : FrameMode} {w : World}
theorem Goes.code {c : Code} (h : Goes P dfr F (startOf c) Q a u w) : Goes P dfr F (fun k => .code c :: k) Q a u w := by
 intro b k hb
 obtain ⟨e, a', u', w', hq, harr⟩ := h b k hb
 refine ⟨e, a', u', w', hq, ?_⟩
 cases c <;> first | exact harr | exact .of_steps (.one step_loop) harr
theorem goes_of_wp {c : Code} (h : c.wp P (fun e a' w' => Q e a' u w') a w) : Goes P dfr F (fun k => .code c :: k) Q a u w := by
 intro b k _
 obtain ⟨e, a', w', hq, harr⟩ := h b k (F u)
 exact ⟨e, a', u, w', hq, harr⟩
theorem goes_of_wpS {c : Code} (_hF : KindF true F) (h : c.wpS P (fun e a' cs' w' => ∃ u', cs' = F u' ∧ Q e a' u' w') a (F u) w) : Goes P true F (fun k => .code c :: k) Q a u w := by
 intro b k hb
 obtain ⟨e, a', cs', w', ⟨u', rfl, hq⟩, harr⟩ := h b k (hb rfl).1 (hb rfl).2
 exact ⟨e, a', u', w', hq, harr⟩
/-! ## A region whose order is fixed -/
theorem looks_of_env {σ : Places} {e : Env} {t : Array Value} (r : EnvRel σ e t) (l : List Tmp) : ∀ i ∈ l, VRel σ (e.get i) (t.getD i undef) := fun i _ => r i
theorem operH_inv {call : CallFn} {ops : Array Oper} {o : Oper} {s : St} {e : Ex × St} (h : operH P call ops o s = some e) :
  ∃ b, wantedH ops o s.env = some b ∧ fits o.dst s.lim = true ∧
   ((b = true ∧ ∃ out, opH P (s.env.eval P) s.heap o = some out ∧ afterH call o.dst s out = some e) ∨ (b = false ∧ e = (.nrm, s.with o.dst undefH s.heap))) := by
 unfold operH at h
 obtain ⟨b, hb, h1⟩ := ob_eq_some.1 h
 obtain ⟨hf, h2⟩ := bcase_eq_some.1 h1
 refine ⟨b, hb, hf, ?_⟩
 cases b with
 | true =>
  simp only [bcT] at h2
  obtain ⟨out, ho, h3⟩ := ob_eq_some.1 h2
  exact .inl ⟨rfl, out, ho, h3⟩
 | false =>
  simp only [bcF, Option.some.injEq] at h2
  exact .inr ⟨rfl, h2.symm⟩
theorem FRel.put {σ τ : Places} {s : St} {x : HVal} {v : Value} {h' : Heap} {ds : List (Nat × List HVal)} {ds' : List Deferred} {dst : Option Tmp} (f : FRel σ dfr s a u) (hle : σ.le τ)
  (hv : VRel τ x v) (hd : DefRel τ ds ds') (hf : fits dst s.lim = true) :
  FRel τ dfr ⟨s.env.put dst x, h', ds, s.pan, s.mask, s.lim⟩ ({ a with defers := ds' }.put dst v) u := by
 refine ⟨?_, ?_, ?_, ?_, f.pan.mono hle⟩
 ·intro i
  rw [Env.get_put, getD_put _ _ _ _ (fun d hd => by have := fits_inv hf d hd; rw [f.lim] at this; exact this)]
  by_cases h : dst = some i
  ·simp [h, hv]
  ·simp only [h, if_false]; exact (f.env i).mono hle
 ·rw [Act.size_put]; exact f.lim
 ·cases dst <;> exact f.mask
 ·rw [Act.defers_put]; exact hd
/-! One operation of a region, by the machine's steps. -/
section
variable {b : Frame} {k : List Item} {cs : List Frame} {ops : Array Oper} {i : Nat} {rest : List Nat} {o : Oper}
theorem finish_op (ho : ops[i]? = some o) (v : Value) : (b.at a (.inRegion ops (i :: rest) :: k)).finish v = b.at (a.put o.dst v) (.inRegion ops rest :: k) := by
 rw [Frame.finish_at, ho]; rfl
theorem op_value (ho : ops[i]? = some o) (hw : Region.wanted o (yielded ops a.tmps) = true) {nx : Next} {v : Value} {w' : World} (hr : (execOp a.eval o).run P w = .ok nx w') (hn : nx = .value v ∨ nx = .skip ∧ v = undef) :
  Steps P (lone (b.at a (.inRegion ops (i :: rest) :: k)) cs w) (lone (b.at (a.put o.dst v) (.inRegion ops rest :: k)) cs w') := by
 have hg := stepG_op (P := P) (b := b) (k := k) (cs := cs) (w := w) (rest := rest) ho hw
 refine .one (step_lone_go ?_)
 rw [hg, ← finish_op ho]
 rcases hn with rfl | ⟨rfl, rfl⟩ <;> simp [stepG.apply, hr]
theorem op_defer (ho : ops[i]? = some o) (hw : Region.wanted o (yielded ops a.tmps) = true) {d : Deferred} {w' : World} (hr : (execOp a.eval o).run P w = .ok (.defer d) w') :
  Steps P (lone (b.at a (.inRegion ops (i :: rest) :: k)) cs w) (lone (b.at ({ a with defers := d :: a.defers }.put o.dst undef) (.inRegion ops rest :: k)) cs w') := by
 have hg := stepG_op (P := P) (b := b) (k := k) (cs := cs) (w := w) (rest := rest) ho hw
 refine .one (step_lone_go ?_)
 have hf := finish_op (b := b) (a := { a with defers := d :: a.defers }) (k := k) (rest := rest) ho undef
 have hf' : ({ b.at a (.inRegion ops (i :: rest) :: k) with defers := d :: a.defers } : Frame).finish undef = b.at ({ a with defers := d :: a.defers }.put o.dst undef) (.inRegion ops rest :: k) := hf
 rw [hg]
 simp only [stepG.apply, Sem.runT_eq, hr, GStep.bare_after]
 rw [← hf']
 rfl
theorem op_panic (ho : ops[i]? = some o) (hw : Region.wanted o (yielded ops a.tmps) = true) {v : Value} {w' : World} (hr : (execOp a.eval o).run P w = .halt (.panic v) w') :
  Steps P (lone (b.at a (.inRegion ops (i :: rest) :: k)) cs w) (lone { b.at a (.inRegion ops (i :: rest) :: k) with mode := .panicking [{ v, recovered := false }] } cs w') := by
 have hg := stepG_op (P := P) (b := b) (k := k) (cs := cs) (w := w) (rest := rest) ho hw
 refine .one (step_lone_go ?_)
 rw [hg, ← Frame.raise_at]
 simp [stepG.apply, hr]
theorem op_enter (ho : ops[i]? = some o) (hw : Region.wanted o (yielded ops a.tmps) = true) {f : FuncId} {args : Array Value} {w' : World} (hr : (execOp a.eval o).run P w = .ok (.enter f args) w') :
  step P (lone (b.at a (.inRegion ops (i :: rest) :: k)) cs w) = .next (lone (Frame.enter P f args .normal) (b.at a (.inRegion ops (i :: rest) :: k) :: cs) w') := by
 have hg := stepG_op (P := P) (b := b) (k := k) (cs := cs) (w := w) (rest := rest) ho hw
 exact step_lone_go (by rw [hg]; simp [stepG.apply, hr, Frame.at])
theorem op_round (ho : ops[i]? = some o) (hw : Region.wanted o (yielded ops a.tmps) = true) {l : Nat} {f : FuncId} {tmps : Array Value} {assign body : Code} {w' : World}
  (hr : (execOp a.eval o).run P w = .ok (.round l f tmps assign body) w') :
  step P (lone (b.at a (.inRegion ops (i :: rest) :: k)) cs w) = .next (lone (Frame.round l f tmps assign body .normal) (b.at a (.inRegion ops (i :: rest) :: k) :: cs) w') := by
 have hg := stepG_op (P := P) (b := b) (k := k) (cs := cs) (w := w) (rest := rest) ho hw
 exact step_lone_go (by rw [hg]; simp [stepG.apply, hr])
end
theorem region_normal {call : CallFn} (hc : CallSound P call) {ops : Array Oper} {e : Ex × St} {σ₀ : Places} {h₀ : Heap} {w₀ : World} (Q : Exit → Act → World → Prop)
  (hQ : ∀ x a' w', Ends P σ₀ false h₀ w₀ e x a' u w' → Q x a' w') (b : Frame) (k : List Item) (cs : List Frame) :
  ∀ (l : List Oper) (i : Nat), ops.toList.drop i = l → ∀ (s : St) (σ : Places) (a : Act) (w : World), regionH P call ops l s = some e → Step P σ₀ h₀ w₀ σ s.heap w → FRel σ false s a u →
   ∃ x a' w', Q x a' w' ∧ Arrives P (lone (b.at a (.inRegion ops (List.range' i l.length) :: k)) cs w) b k cs x a' w'
 | [], i, hl, s, σ, a, w, he, hs, f => by
  simp only [regionH, Option.some.injEq] at he
  subst he
  exact ⟨.normal, a, w, hQ _ _ _ ⟨σ, hs, rfl, f⟩, .one step_region_end⟩
 | o :: l, i, hl, s, σ, a, w, he, hs, f => by
  have hi : ops[i]? = some o := by
   have := congrArg (fun l => l[0]?) hl
   simpa using this
  have hl' : ops.toList.drop (i + 1) = l := by rw [← List.drop_drop, hl]; rfl
  simp only [regionH] at he
  obtain ⟨r, hr, he'⟩ := ob_eq_some.1 he
  obtain ⟨bb, hb, hf, hcase⟩ := operH_inv hr
  have hw := wanted_rel (ops := ops) (o := o) (looks_of_env f.env _) hb
  simp only [List.length_cons, List.range'_succ]
  rcases hcase with ⟨rfl, out, ho, hafter⟩ | ⟨rfl, rfl⟩
  ·have hout := opH_rel hs.rel (ρ := s.env.eval P) (ev := a.eval) (fun x => by
    have := eval_rel (P := P) hs.rel (l := opLooks [x]) (looks_of_env f.env _) x
    cases x with
    | tmp t => simpa [only, opLooks] using this
    | const v => exact this
    | global v => exact this
    | func v => exact this) ho
   have next : ∀ (x : HVal) (h' : Heap) (ds : List (Nat × List HVal)) (τ : Places) (v : Value) (w' : World) (ds' : List Deferred), r = (.nrm, ⟨s.env.put o.dst x, h', ds, s.pan, s.mask, s.lim⟩) → Step P σ s.heap w τ h' w' → VRel τ x v → DefRel τ ds ds' →
     Steps P (lone (b.at a (.inRegion ops (i :: List.range' (i + 1) l.length) :: k)) cs w) (lone (b.at ({ a with defers := ds' }.put o.dst v) (.inRegion ops (List.range' (i + 1) l.length) :: k)) cs w') →
     ∃ x a' w', Q x a' w' ∧ Arrives P (lone (b.at a (.inRegion ops (i :: List.range' (i + 1) l.length) :: k)) cs w) b k cs x a' w' := by
    rintro x h' ds τ v w' ds' rfl hst hv hds hsteps
    obtain ⟨y, a', w'', hq, harr⟩ := region_normal hc Q hQ b k cs l (i + 1) hl' _ τ _ w' he' (hs.trans hst) (f.put hst.le hv hds hf)
    exact ⟨y, a', w'', hq, .of_steps hsteps harr⟩
   have stop : ∀ (x : HVal) (h' : Heap) (τ : Places) (v : Value) (w' : World), r = (.pan x, s.mem h') → Step P σ s.heap w τ h' w' → VRel τ x v →
     (∃ todo, Steps P (lone (b.at a (.inRegion ops (i :: List.range' (i + 1) l.length) :: k)) cs w) (lone { b.at a todo with mode := .panicking [{ v, recovered := false }] } cs w')) →
     ∃ x a' w', Q x a' w' ∧ Arrives P (lone (b.at a (.inRegion ops (i :: List.range' (i + 1) l.length) :: k)) cs w) b k cs x a' w' := by
    rintro x h' τ v w' rfl hst hv hsteps
    simp only at he'
    cases he'
    exact ⟨_, a, w', hQ _ _ _ ⟨τ, hs.trans hst, ⟨v, rfl, hv⟩, (f.mono hst.le).env, f.lim, f.mask, (f.mono hst.le).defs, (f.mono hst.le).pan⟩, hsteps⟩
   cases out with
   | val x h' =>
    obtain ⟨nx, v, τ, w', hrun, hnx, hv, hst⟩ := hout
    simp only [afterH, force_eq] at hafter
    cases hafter
    exact next x h' s.defers τ v w' a.defers rfl hst hv (f.defs.mono hst.le) (op_value hi hw hrun hnx)
   | enter g args h' =>
    obtain ⟨args', hcase, ha, rfl⟩ := hout
    simp only [afterH] at hafter
    obtain ⟨⟨cr, h2⟩, h1, h3⟩ := ob_eq_some.1 hafter
    have hsound := hc g args s.heap cr h2 h1 σ w args' hs.rel ha
    rcases hcase with ⟨hlt, hrun⟩ | ⟨hge, p, hp, hrun⟩
    ·obtain ⟨en, w'', fr, ⟨τ, hst, hcr⟩, hsteps, _, hleave⟩ := hsound.1 hlt (b.at a (.inRegion ops (i :: List.range' (i + 1) l.length) :: k) :: cs)
     have henter := op_enter (P := P) (b := b) (k := k) (cs := cs) (rest := List.range' (i + 1) l.length) hi hw hrun
     cases cr with
     | ret x =>
      obtain ⟨v, rfl, hv⟩ := hcr
      simp only [force_eq] at h3
      cases h3
      refine next x h2 s.defers τ v w'' a.defers rfl hst hv (f.defs.mono hst.le) (.head henter (Steps.trans hsteps (.one ?_)))
      rw [show ({ a with defers := a.defers } : Act) = a from rfl, ← finish_op hi]
      exact step_leave_returned hleave
     | pan x =>
      obtain ⟨v, rfl, hv⟩ := hcr
      simp only at h3
      cases h3
      refine stop x h2 τ v w'' rfl hst hv ⟨.inRegion ops (i :: List.range' (i + 1) l.length) :: k, .head henter (Steps.trans hsteps (.one ?_))⟩
      rw [← Frame.raise_at]
      exact step_leave_panicked hleave
    ·obtain ⟨fn, tmps, assign, body, hy, hgo⟩ := hsound.2 hge p hp
     rw [hy] at hrun
     have henter := op_round (P := P) (b := b) (k := k) (cs := cs) (rest := List.range' (i + 1) l.length) hi hw hrun
     obtain ⟨v, w'', ⟨x, τ, rfl, hv, hst⟩, hsteps⟩ := hgo (b.at a (.inRegion ops (i :: List.range' (i + 1) l.length) :: k)) cs
     simp only [force_eq] at h3
     cases h3
     refine next x h2 s.defers τ v w'' a.defers rfl hst hv (f.defs.mono hst.le) (.head henter ?_)
     rw [show ({ a with defers := a.defers } : Act) = a from rfl, ← finish_op hi]
     exact hsteps
   | defer g args h' =>
    obtain ⟨dargs, cap, hrun, ha, rfl⟩ := hout
    simp only [afterH] at hafter
    cases hafter
    exact next undefH s.heap ((g, args) :: s.defers) σ undef w _ rfl (Step.refl hs.rel) ⟨[], rfl, VRels.nil⟩ (DefRel.call ha f.defs) (op_defer hi hw hrun)
   | recov h' =>
    have hp := f.pan
    simp only [afterH] at hafter
    cases hpan : s.pan with
    | none => rw [hpan] at hafter; cases hafter
    | calm => rw [hpan] at hp; exact hp.elim
    | on v => rw [hpan] at hp; exact hp.elim
    | done v => rw [hpan] at hp; exact hp.elim
   | pan x h' =>
    obtain ⟨v, hrun, hv, rfl⟩ := hout
    simp only [afterH] at hafter
    cases hafter
    exact stop x s.heap σ v w rfl (Step.refl hs.rel) hv ⟨_, op_panic hi hw hrun⟩
  ·have hskip := step_op_skip (P := P) (b := b) (a := a) (k := k) (cs := cs) (w := w) (ops := ops) (i := i) (rest := List.range' (i + 1) l.length) (by simp [hi, hw])
   simp only [hi, Option.bind_some] at hskip
   obtain ⟨y, a', w'', hq, harr⟩ := region_normal hc Q hQ b k cs l (i + 1) hl' _ σ _ w he' hs (f.put (s := s) σ.le_refl (v := undef) ⟨[], rfl, VRels.nil⟩ f.defs hf)
   exact ⟨y, a', w'', hq, .of_steps (.one hskip) harr⟩
theorem region_deferred {call : CallFn} (hc : CallSound P call) (hg : NoRounds call) (hF : KindF true F) {ops : Array Oper} {e : Ex × St} {σ₀ : Places} {h₀ : Heap} {w₀ : World} (Q : Exit → Act → List Frame → World → Prop)
  (hQ : ∀ x a' u' w', Ends P σ₀ true h₀ w₀ e x a' u' w' → Q x a' (F u') w') :
  ∀ (l : List Oper) (i : Nat), ops.toList.drop i = l → ∀ (s : St) (σ : Places) (a : Act) (u : FrameMode) (w : World), regionH P call ops l s = some e → Step P σ₀ h₀ w₀ σ s.heap w → FRel σ true s a u →
   wpOpsS P ops Q (List.range' i l.length) a (F u) w
 | [], i, hl, s, σ, a, u, w, he, hs, f => by
  simp only [regionH, Option.some.injEq] at he
  subst he
  exact hQ _ _ _ _ ⟨σ, hs, rfl, f⟩
 | o :: l, i, hl, s, σ, a, u, w, he, hs, f => by
  have hi : ops[i]? = some o := by
   have := congrArg (fun l => l[0]?) hl
   simpa using this
  have hl' : ops.toList.drop (i + 1) = l := by rw [← List.drop_drop, hl]; rfl
  simp only [regionH] at he
  obtain ⟨r, hr, he'⟩ := ob_eq_some.1 he
  obtain ⟨b, hb, hf, hcase⟩ := operH_inv hr
  have hw := wanted_rel (ops := ops) (o := o) (looks_of_env f.env _) hb
  simp only [List.length_cons, List.range'_succ, wpOpsS, hi, hw]
  rcases hcase with ⟨rfl, out, ho, hafter⟩ | ⟨rfl, rfl⟩
  ·simp only [if_true]
   have hout := opH_rel hs.rel (ρ := s.env.eval P) (ev := a.eval) (fun x => by
    have := eval_rel (P := P) hs.rel (l := opLooks [x]) (looks_of_env f.env _) x
    cases x with
    | tmp t => simpa [only, opLooks] using this
    | const v => exact this
    | global v => exact this
    | func v => exact this) ho
   by_cases hrec : ∃ h', out = .recov h'
   ·obtain ⟨h', rfl⟩ := hrec
    obtain ⟨hrun, rfl⟩ := hout
    rw [hrun]
    simp only
    have hF' := hF
    obtain ⟨c₀, cs, hFe⟩ := hF'
    have hFu : ∀ u, F u = ({ c₀ with mode := u } : Frame) :: cs := fun u => by rw [hFe]
    have hp := f.pan
    simp only [afterH] at hafter
    cases hpan : s.pan with
    | none => rw [hpan] at hafter; cases hafter
    | calm =>
     rw [hpan] at hafter hp
     simp only at hafter
     cases hafter
     have hu : u = .returning := hp
     subst hu
     rw [hFu]
     simp only [recoverD]
     rw [← hFu]
     exact region_deferred hc hg hF Q hQ l (i + 1) hl' _ σ _ _ w he' hs (by have := f.put (s := s) (h' := s.heap) (dst := o.dst) (x := .nili) (v := .nilIface) σ.le_refl rfl f.defs hf; exact this)
    | on x =>
     rw [hpan] at hafter hp
     simp only at hafter
     cases hafter
     obtain ⟨v, hv, rfl⟩ := hp
     rw [hFu]
     simp only [recoverD]
     rw [show ({ ({ c₀ with mode := .panicking [{ v, recovered := false }] } : Frame) with mode := .panicking [{ v, recovered := true }] } : Frame) = { c₀ with mode := .panicking [{ v, recovered := true }] } from rfl, ← hFu]
     have f' := f.put (s := s) (h' := s.heap) (dst := o.dst) (x := x) (v := v) σ.le_refl hv f.defs hf
     exact region_deferred hc hg hF Q hQ l (i + 1) hl' _ σ _ (.panicking [{ v, recovered := true }]) w he' hs ⟨f'.env, f'.lim, f'.mask, f'.defs, ⟨v, hv, rfl⟩⟩
    | done x =>
     rw [hpan] at hafter hp
     simp only at hafter
     cases hafter
     obtain ⟨v, hv, rfl⟩ := hp
     rw [hFu]
     simp only [recoverD]
     rw [← hFu]
     exact region_deferred hc hg hF Q hQ l (i + 1) hl' _ σ _ _ w he' hs (by have := f.put (s := s) (h' := s.heap) (dst := o.dst) (x := .nili) (v := .nilIface) σ.le_refl rfl f.defs hf; exact this)
   ·obtain ⟨h1, h2⟩ := upon_of (K := fun a' w' => wpOpsS P ops Q (List.range' (i + 1) l.length) a' (F u) w') (Q := fun e a' w' => Q e a' (F u) w') hc hg hs.rel f.defs hout (fun h' e => hrec ⟨h', e⟩) hafter
     (by
      rintro x h' ds rfl τ v w' ds' hst hv hds
      exact region_deferred hc hg hF Q hQ l (i + 1) hl' _ τ _ u w' he' (hs.trans hst) (f.put hst.le hv hds hf))
     (by
      rintro x h' rfl τ v w' hst hv
      simp only at he'
      cases he'
      exact hQ _ _ _ _ ⟨τ, hs.trans hst, ⟨v, rfl, hv⟩, (f.mono hst.le).env, f.lim, f.mask, (f.mono hst.le).defs, (f.mono hst.le).pan⟩)
    generalize (execOp a.eval o).run P w = q at h1 h2
    split
    ·exact absurd rfl (h2 _)
    ·exact h1
  ·simp only [Bool.false_eq_true, if_false]
   exact region_deferred hc hg hF Q hQ l (i + 1) hl' _ σ _ u w he' hs (f.put (s := s) σ.le_refl (v := undef) ⟨[], rfl, VRels.nil⟩ f.defs hf)
theorem region_goes {call : CallFn} (hc : CallSound P call) (hF : KindF dfr F) {id : Nat} {ops : Array Oper} {s : St} {e : Ex × St} {σ : Places} (he : regionH P (callFor s.pan call) ops ops.toList s = some e)
  (r : Rel P σ s.heap w) (f : FRel σ dfr s a u) (hQ : ∀ x a' u' w', Ends P σ dfr s.heap w e x a' u' w' → Q x a' u' w') :
  Goes P dfr F (fun k => .code (.region id ops false) :: k) Q a u w := by
 have hlen : List.range ops.size = List.range' 0 ops.toList.length := by simp [List.range_eq_range']
 cases dfr with
 | false =>
  have hpan : s.pan = .none := by
   have hp := f.pan
   cases h : s.pan with
   | none => rfl
   | calm => rw [h] at hp; exact hp.elim
   | on v => rw [h] at hp; exact hp.elim
   | done v => rw [h] at hp; exact hp.elim
  rw [hpan] at he
  intro b k _
  obtain ⟨x, a', w', hq, harr⟩ := region_normal hc (fun x a' w' => Q x a' u w') (fun x a' w' h => hQ x a' u w' h) b k (F u) ops.toList 0 rfl s σ a w he (Step.refl r) f
  rw [← hlen] at harr
  exact ⟨x, a', u, w', hq, .of_steps (.one step_region) harr⟩
 | true =>
  have hcf : callFor s.pan call = gate call := by
   have hp := f.pan
   cases h : s.pan with
   | none => rw [h] at hp; exact hp.elim
   | calm => rfl
   | on v => rfl
   | done v => rfl
  rw [hcf] at he
  refine goes_of_wpS hF (wpS_region ?_)
  rw [hlen]
  exact region_deferred (gate_sound hc) (gate_noRounds call) hF _ (fun x a' u' w' h => ⟨u', rfl, hQ x a' u' w' h⟩) _ 0 rfl s σ a u w he (Step.refl r) f
end
end Go.HL
