/- The walk of the device: its commands, the law. No statement of the seat stands here. -/
import Derived.Test.YtolkehkjhpnioaaGreatDoorDA
set_option linter.unusedVariables false
set_option linter.unusedSimpArgs false
namespace Go.HL
open Go
noncomputable section
theorem pts.rd {k e s n off : Nat} {sp : Bool} {cap : Option Nat} {lc : List HVal} {rows : List (List HVal)} {h : Heap} (hh : (pts k lc e sp).holds h) (hn : rows.length = n) (hw : ∀ r ∈ rows, r.length = s) (hl : (lc.drop off).take (n * s) = rows.flatten) (hle : off + n * s ≤ lc.length) : (rd (.slice k off n cap) s rows).holds h := by
 have hg : h.get k = some (.cells lc e sp true) := hh
 subst hn
 refine ⟨⟨rfl, fun i r hr => ⟨k, off, cap, rfl, ?_⟩⟩, fun k' hk' => ?_⟩
 ·have hi : i < rows.length := (List.getElem?_eq_some_iff.1 hr).1
  have hrl : r.length = s := hw r (List.mem_of_getElem? hr)
  have hsl : (rows.flatten.drop (i * s)).take s = r := by
   have h1 : (rows.take i).flatten.length = i * s := by
    rw [flatten_len (fun r hr => hw r (List.mem_of_mem_take hr)), List.length_take, Nat.min_eq_left (by omega)]
   have h2 : rows.flatten = (rows.take i).flatten ++ (r ++ (rows.drop (i + 1)).flatten) := by
    have hd : rows.drop i = r :: rows.drop (i + 1) := by
     rw [List.drop_eq_getElem_cons hi]
     rw [(List.getElem?_eq_some_iff.1 hr).2]
    rw [← List.flatten_cons, ← hd, ← List.flatten_append, List.take_append_drop]
   rw [h2, ← h1, List.drop_left, ← hrl, List.take_left]
  have hmul : i * s + s ≤ rows.length * s := by rw [← Nat.succ_mul]; exact Nat.mul_le_mul_right s hi
  refine .of (cells_get hg) ?_ ?_
  ·simp only [Nat.add_eq, Nat.mul_eq, List.length_drop, hrl]; omega
  ·simp only [Nat.add_eq, Nat.mul_eq, hrl]
   rw [← hsl, ← hl, List.drop_take, List.take_take, List.drop_drop, Nat.min_eq_left (by omega)]
 ·cases hk'
  exact ⟨_, hg⟩
theorem ownS.frd {e w k n : Nat} {rows : List (List HVal)} {h : Heap} (a : (ownS e w (.slice k 0 n none) rows).holds h) : (HL.frd e (.slice k 0 n none) w rows).holds h := by
 refine ⟨?_, ownS.rd a⟩
 obtain ⟨⟨d, ha⟩, _⟩ := a
 cases ha with
 | own hg hl hd => exact .slice _ _ _ _ _ _ _ hg (.inr rfl)
theorem Ro.ownRd {C : List Part} {h : Heap} {e w k n : Nat} {c : Option Nat} {rows : List (List HVal)} (r : Ro C h (ownS e w (.slice k 0 n c) rows)) : Ro C h (rd (.slice k 0 n c) w rows) := ⟨ownS.rd r.holds, fun q hq j hj => r.away q hq j hj⟩
theorem Ro.ownFrd {C : List Part} {h : Heap} {e w k n : Nat} {rows : List (List HVal)} (r : Ro C h (ownS e w (.slice k 0 n none) rows)) : Ro C h (HL.frd e (.slice k 0 n none) w rows) := ⟨ownS.frd r.holds, fun q hq j hj => r.away q hq j hj⟩
section
variable {P : Program} {K : CallFn} {E : Env0} {ops : Array Oper} {o : Oper} {l : List Oper} {L L' : SL} {B B' : List Blk} {G G' G2 : List Part} {m n : Nat} {R : SL → List Blk → List Part → Prop} {tab : Tab} {zl : List (Nat × List HVal)} {pl : List Nat} {al : List AX} {RA : List AX → SL → List Blk → List Part → Prop}
theorem qldR {t e k off w : Nat} {s : Bool} {i : TI} {x : Operand} {v : HVal} {lc : List HVal} (hX : TK P tab zl) (ho : o.op = .load t x) (ht : tyL tab t = some (i, w)) (hi : i.agg = false) (hx : evH P L x = some (.ptr k off)) (hro : Ro E.C E.h (pts k lc e s)) (hv : nth lc off = some v) (hw : wantX ops o L = some true) (hf : fits o.dst n = true) (hr : R (putX o.dst (.ext v) L) B G) : Op1X P K E ops o L B G m n R :=
 qv hw hf (fun κ h L0 r M => by
  have hp := hro.at M.chg
  have hx' : evL P L0 x = some (.ptr k (Nat.add 0 off)) := by rw [Nat.add_eq, Nat.zero_add]; exact evH_eq r hx
  exact V.loadR hX.tab ho ht hi hx' (row_all hp) hv) hr
theorem WDX.ldE {p d t e k off w : Nat} {s : Bool} {i : TI} {x : Operand} {v : HVal} {lc : List HVal} (hX : TK P tab zl) (hi0 : ops[p]? = some o) (hc : isChange P o = false) (hrd : isRead P o = true) (hd : o.dst = some d) (ho : o.op = .load t x) (ht : tyL tab t = some (i, w)) (hi : i.agg = false) (hx : evH P L x = some (.ptr k off)) (hG : Pick G (pts k lc e s) G2) (hv : nth lc off = some v) (hs : HVal.beq v v = true) (hw : wantX ops o L = some true) (hf : fits o.dst n = true)
  (hk : WDX P K E tab ops pl (.rdG p (pts k lc e s) :: al) (putX o.dst (.ext v) L) B G m n RA) : WDX P K E tab ops (p :: pl) al L B G m n RA :=
 .readG hi0 hc hrd hd hG hs hw hf (fun κ L0 r h hh => by
  have hx' : evL P L0 x = some (.ptr k (Nat.add 0 off)) := by rw [Nat.add_eq, Nat.zero_add]; exact evH_eq r hx
  exact V.loadR hX.tab ho ht hi hx' (row_all hh) hv) hk
theorem qcutC {t e w q k off len c j b : Nat} {i : TI} {x y z : Operand} {kd kd2 : IntKind} (hX : TK P tab zl) (ho : o.op = .slice t x (some y) (some z) none) (ht : tyL tab t = some (.slice e, q)) (he : tyL tab e = some (i, w)) (hx : evH P L x = some (.slice k off len (some c))) (hy : evH P L y = some (.int kd (.ofNat j))) (hz : evH P L z = some (.int kd2 (.ofNat b))) (hj : j ≤ b) (hjc : j < c) (hb : b ≤ c) (hw : wantX ops o L = some true) (hf : fits o.dst n = true)
  (hk : R (putX o.dst (.ext (.slice k (off + j * w) (b - j) (some (c - j)))) L) B G) : Op1X P K E ops o L B G m n R :=
 qv hw hf (fun κ h L0 rr M => OpV.mk ho fun ev ha d ty ps aft g => by
  have hslice := (tab_slice hX.tab ht).1
  obtain ⟨inf, hinf⟩ := (tab_slice hX.tab ht).2
  have hwid := (tab_ok hX.tab he).2
  have hel : elemOk P t = true := by simp only [elemOk, hslice, hinf]
  have hb1 : ∀ {kd : IntKind} {j c : Nat} (d : Nat), j ≤ c → boundO (some (.int kd (.ofNat j))) c d = some j := by
   intro kd j c d hj
   show boundH (.int kd (.ofNat j)) c = some j
   unfold boundH
   show bcase (Nat.ble j c) (some j) none = some j
   rw [show Nat.ble j c = true from by rw [nble]; exact decide_eq_true hj]; rfl
  have hm : moved off j c w = off + j * w := by
   unfold moved
   rw [show Nat.beq j c = false from by rw [nbeq]; exact decide_eq_false (by omega)]; rfl
  simp only [opH, hel, bcT, evS ha (evH_eq rr hx), Option.map_some, Option.map_none, evS ha (evH_eq rr hy), evS ha (evH_eq rr hz), sliceH, hslice, hb1 _ hb, hb1 _ hj, obS, hwid, HL.val, hm]
  rfl) hk
theorem qcp {t e e0 w q k off len : Nat} {s : Bool} {i : TI} {cap : Option Nat} {cl : Call} {x y : Operand} {v2 : HVal} {lc l' : List HVal} {new : List (List HVal)} (hX : TK P tab zl)
  (ho : o.op = .call cl) (hc : cl.callee = .builtin .copy) (ha : cl.args = #[x, y]) (h0 : cl.argTypes[0]? = some t) (ht : tyL tab t = some (.slice e, q)) (he : tyL tab e = some (i, w))
  (hx : evH P L x = some (.slice k off len cap)) (hy : evH P L y = some v2) (hro : Ro E.C E.h (rd v2 w new)) (hnl : ∀ r ∈ new, r.length = w) (hpos : 0 < new.length) (hle : new.length ≤ len) (hG : Pick G (pts k lc e0 s) G2) (hov : overK lc off new.flatten some = some l') (hn : noTmp B = true)
  (hw : wantX ops o L = some true) (hf : fits o.dst n = true) (hr : R (putX o.dst (.ext (.int .i64 (Int.ofNat new.length))) L) B (pts k l' e0 s :: G2)) : Op1X P K E ops o L B G m n R := by
 refine ⟨fun κ h L0 r M => ?_⟩
 have hp := M.chg.all _ (List.mem_append_right _ hG.mem)
 have hg : h.get k = some (.cells lc e0 s true) := hp
 obtain ⟨k2, off2, cap2, rfl, hrow⟩ := rd.rows (hro.at M.chg) hpos hnl
 obtain ⟨inf, hinf⟩ := (info_of_underlying (tab_slice hX.tab ht).1)
 have hfl := flatten_len hnl
 have happ : appended P e (.slice k2 off2 new.length cap2) h = some (new.length, new.flatten) := by
  have := hrow.load
  rw [hfl] at this
  simp only [appended, (tab_ok hX.tab he).2, Nat.mul_eq, this, obS]
 have hse : sliceElem P cl.argTypes = some e := by simp only [sliceElem, h0, (tab_slice hX.tab ht).1]
 have hie : ∃ u, P.info? e = some u := by
  have hag := tab_agg hX.tab he
  unfold aggOf at hag
  obtain ⟨dd, hd, _⟩ := ob_eq_some.1 hag
  exact info_of_underlying hd
 obtain ⟨u, hu⟩ := hie
 have e1 : storeN h k off new.flatten = some (h.put k (.cells l' e0 s true)) := by
  unfold storeN
  rw [cells_get hg, obS, bcT]
  rw [overK_eq] at hov ⊢
  split at hov
  ·rename_i hle
   have := Option.some.inj hov
   rw [if_pos hle, this]
  ·cases hov
 have hble : Nat.ble new.length len = true := by rw [nble]; exact decide_eq_true hle
 refine Op1.val (v := .int .i64 (Int.ofNat new.length)) (h' := h.put k (.cells l' e0 s true)) (fun ev hag => ?_) (wantX_eq r hw) hf ?_
 ·obtain ⟨dd, op, ty, ps, aft, g⟩ := o
  simp only at ho
  subst ho
  simp only [opH, hc, ha, List.map_cons, List.map_nil, builtinH, evS hag (evH_eq r hx), evS hag (evH_eq r hy), hse, obS, hu, copyH, happ, hble, bcT, e1]
 ·exact ⟨κ, _, _, _, pfx_refl κ, r.put (.ext _) o.dst, M.callG (C' := [pts k l' e0 s]) hG (chg_put (put_put M.wf _ (M.wf.lt hg))) hn, hr⟩
end
end
end Go.HL
namespace Go.HL
open Go Go.Proofs
namespace Dr
set_option maxRecDepth 10000
variable {K : CallFn} {base : List (Nat × HObj)}
abbrev okW : List Nat := [111, 107]
theorem fineN_run (hK : KD base K) (h : Heap) (w : Wf h) : Sp P K 46 [.nils] h (Val (strB okW) h) := by
 refine Sp.start (m := 5) (n := 7) w (hK.none 46 rfl rfl _ _) Tryz.func46 rfl rfl mask46 rfl rfl ?_
 repeat' (first
  | refine ToX.a_ ?_
  | refine WCX.s_ ?_
  | (refine WCX.g_ (id := 0) ?_; (refine .cons (q hX rfl ?_)) <;> (refine .nil (.intro rfl ?_)))
  | (refine WCX.g_ (id := 1) ?_; (iterate 2 refine .cons (q hX rfl ?_)) <;> ((refine .cons (qappZ hX rfl rfl rfl rfl rfl rfl rfl rfl rfl rfl rfl rfl b9 rfl rfl rfl rfl (.of (show (ownS 9 1 .nils []).holds h from ⟨⟨_, .nils⟩, fun r hr => by simp at hr⟩)) rfl rfl ?_))) <;> (((refine WOX.leak 0 (fun k => ownS 9 1 (.slice k 0 1 (some 1)) ([okW].map sB)) rfl (fun k => .own rfl (by simp [sB]) rfl) (fun _ => rfl) rfl fun k0 => ?_); (refine .cons (qcallV rfl rfl rfl rfl ca43 rfl rfl (fun h f => Sp.known (hK.join h (.slice k0 0 1 (some 1)) [okW] (by simp) (by simp) (by simp [joinT]) (by simp) (ownS.rd (f.pick .h))) ⟨rfl, Chg.refl f.wf⟩) ?_)))) <;> (refine .cons (q hX rfl ?_)) <;> (refine .nil (.intro rfl ?_)))
  | refine WCX.r_ ?_
  | refine ToX.r_ hX rfl ?_)
 exact fun h f => ⟨rfl, f.chg.picks .nil⟩
theorem fine_run (hK : KD base K) (v : HVal) (l : List (List Nat)) (h0 : 0 < l.length) (hl : l.length ≤ 1000) (hb : ∀ x ∈ l, ∀ b ∈ x, b < 256) (hj : (joinT (okW :: l)).length ≤ 1000000) (h : Heap) (w : Wf h) (hr : (rd v 1 (l.map sB)).holds h) : Sp P K 46 [v] h (Val (strB (joinT (okW :: l))) h) := by
 refine Sp.start (m := 5) (n := 7) w (hK.none 46 rfl rfl _ _) Tryz.func46 rfl rfl mask46 rfl rfl ?_
 repeat' (first
  | refine ToX.a_ ?_
  | refine WCX.s_ ?_
  | (refine WCX.g_ (id := 0) ?_; (refine .cons (q hX rfl ?_)) <;> (refine .nil (.intro rfl ?_)))
  | (refine WCX.g_ (id := 1) ?_; (iterate 2 refine .cons (q hX rfl ?_)) <;> ((refine .cons (qappRo (rows := [sB okW]) hX rfl rfl rfl rfl rfl rfl rfl rfl rfl rfl rfl rfl b9 rfl rfl rfl rfl (by simp [sB]) rfl rfl (.of hr) (by simp [sB]) (by rw [List.length_map]; exact h0) rfl (by rw [List.length_map]; omega) rfl rfl ?_)) <;> (intro kq)) <;> ((refine .cons (qcallV rfl rfl rfl rfl ca43 rfl rfl (fun h f => Sp.known (hK.join h _ (okW :: l) (by simp) (fun x hx => (List.mem_cons.1 hx).elim (fun e => by rw [e]; simp) (hb x)) hj (by simp only [List.length_cons]; omega) (by have := ownS.rd (f.pick .h); simpa using this)) ⟨rfl, Chg.refl f.wf⟩) ?_))) <;> (refine .cons (q hX rfl ?_)) <;> (refine .nil (.intro rfl ?_)))
  | refine WCX.r_ ?_
  | refine ToX.r_ hX rfl ?_)
 exact fun h f => ⟨rfl, f.chg.picks .nil⟩
theorem cells_run (hK : KD base K) (kd o kb kc size cell n : Nat) (dev : List HVal) (hs : size ≤ 1000) (hn : 1 ≤ n) (hc : cell + n ≤ size) (hv : nth dev (Nat.add o 1) = some (.slice kb 0 1 none)) (h : Heap) (w : Wf h) (hd : (pts kd dev 45 false).holds h) (hb : (rd (.slice kb 0 1 none) 1 [[.slice kc 0 size (some size)]]).holds h) :
  Sp P K 47 [.ptr kd o, .int .i32 0, .int .i32 cell, .int .i64 n] h (Val (.tuple [.slice kc cell n (some (size - cell)), .bool true]) h) := by
 refine Sp.start (m := 1099511628559) (n := 54) w (hK.none 47 rfl rfl _ _) Tryz.func47 rfl rfl mask47 rfl rfl ?_
 repeat' (first
  | refine ToX.a_ ?_
  | refine WCX.s_ ?_
  | (refine WCX.g_ (id := 0) ?_; (iterate 2 refine .cons (q hX rfl ?_)) <;> (refine .nil (.intro rfl ?_)))
  | (refine WCX.g_ (id := 1) ?_; (refine .cons (q hX rfl ?_)) <;> ((refine .cons (qc rfl ?_ ?_)) <;> ((intro _; first | (exfalso; omega) | skip))) <;> (iterate 2 refine .cons (q hX rfl ?_)) <;> ((refine .cons (qw hX rfl rfl rfl rfl (wI (by first | omega | (simp only [Int.ofNat_eq_natCast]; omega)) (by first | omega | (simp only [Int.ofNat_eq_natCast]; omega))) rfl rfl ?_))) <;> (iterate 3 refine .cons (q hX rfl ?_)) <;> ((refine .cons (qldR hX rfl rfl rfl rfl (.of hd) hv rfl rfl ?_))) <;> (iterate 12 refine .cons (q hX rfl ?_)) <;> ((refine .cons (qldR hX rfl rfl rfl rfl (.of hd) hv rfl rfl ?_))) <;> (refine .cons (q hX rfl ?_)) <;> ((refine .cons (qidx hX rfl rfl rfl rfl rfl (.of hb) rfl rfl rfl rfl ?_))) <;> (iterate 3 refine .cons (q hX rfl ?_)) <;> ((refine .cons (qw (b := (cell : Int)) hX rfl rfl rfl rfl (wrapF_i64_nat (by omega)) rfl rfl ?_))) <;> ((refine .cons (qa (d := ((size - cell : Nat) : Int)) rfl rfl rfl rfl rfl (by rw [wI (by omega) (by omega)]; omega) rfl rfl ?_))) <;> ((refine .cons (qc rfl ?_ ?_)) <;> ((intro _; first | (exfalso; omega) | skip))) <;> (refine .cons (q hX rfl ?_)) <;> (refine .nil (.intro rfl ?_)))
  | (refine WCX.g_ (id := 3) ?_; (iterate 3 refine .cons (q hX rfl ?_)) <;> ((refine .cons (qldR hX rfl rfl rfl rfl (.of hd) hv rfl rfl ?_))) <;> (refine .cons (q hX rfl ?_)) <;> ((refine .cons (qidx hX rfl rfl rfl rfl rfl (.of hb) rfl rfl rfl rfl ?_))) <;> (iterate 3 refine .cons (q hX rfl ?_)) <;> ((refine .cons (qw (b := (cell : Int)) hX rfl rfl rfl rfl (wrapF_i64_nat (by omega)) rfl rfl ?_))) <;> (refine .cons (q hX rfl ?_)) <;> ((refine .cons (qa (d := ((cell + n : Nat) : Int)) rfl rfl rfl rfl rfl (by rw [wI (by omega) (by omega)]; omega) rfl rfl ?_))) <;> ((refine .cons (qcutC (j := cell) (b := cell + n) hX rfl rfl rfl rfl rfl rfl (by omega) (by omega) (by omega) rfl rfl ?_))) <;> (iterate 2 refine .cons (q hX rfl ?_)) <;> (refine .nil (.intro rfl ?_)))
  | refine WCX.r_ ?_
  | refine WCX.f_ rfl ?_
  | refine WCX.k_ ?_
  | refine ToX.r_ hX rfl ?_)
 exact fun h f => ⟨by simp [resV], f.chg⟩
theorem buffer_run (hK : KD base K) (kd o size : Nat) (lv nv : HVal) (dev : List HVal) (dev' : Nat → List HVal) (hs1 : 1 ≤ size) (hs2 : size ≤ 255) (hv : nth dev (Nat.add o 1) = some .nils) (hov : ∀ kb, overK dev (Nat.add o 1) [.slice kb 0 1 none] some = some (dev' kb)) (hv' : ∀ kb, nth (dev' kb) (Nat.add o 1) = some (.slice kb 0 1 none)) (h : Heap) (w : Wf h) (hg : (pts kd dev 45 false).holds h) (hn : Ro [pts kd dev 45 false] h (rd nv 1 [[.int .i32 size]])) (hB : Ro [pts kd dev 45 false] h (lies base)) :
  Sp P K 26 [.ptr kd o, lv, nv] h (TrG (pts kd dev 45 false) (fun v C => ∃ kb kc, v = strB (joinT [okW, decI 0]) ∧ C = [pts kd (dev' kb) 45 false, ownS 22 1 (.slice kb 0 1 none) [[.slice kc 0 size (some size)]], pts kc (repl size [.int .i32 0]) 21 false]) h) := by
 have hl0 := decI_len (n := 0) (by omega) (by omega)
 have hj0 : (joinT (okW :: [decI 0])).length ≤ 1000000 := by simp [joinT]; omega
 refine Sp.startG (m := 32967) (n := 49) w hg (hK.none 26 rfl rfl _ _) Tryz.func26 rfl rfl mask26 rfl rfl ?_
 repeat' (first
  | refine ToX.a_ ?_
  | refine WCX.s_ ?_
  | (refine WCX.g_ (id := 0) ?_; (refine .cons (q hX rfl ?_)) <;> (refine .nil (.intro rfl ?_)))
  | (refine WCX.g_ (id := 1) ?_; (iterate 3 refine .cons (q hX rfl ?_)) <;> ((refine .cons (qldE hX rfl rfl rfl rfl .h hv rfl rfl ?_))) <;> (refine .cons (q hX rfl ?_)) <;> ((refine .cons (qc rfl ?_ ?_)) <;> ((intro _; first | (exfalso; omega) | skip))) <;> (refine .cons (q hX rfl ?_)) <;> (refine .nil (.intro rfl ?_)))
  | (refine WCX.g_ (id := 3) ?_; (refine .cons (q hX rfl ?_)) <;> ((refine .cons (qidx hX rfl rfl rfl rfl rfl hn rfl rfl rfl rfl ?_))) <;> (refine .cons (q hX rfl ?_)) <;> ((refine .cons (qc rfl ?_ ?_)) <;> ((intro _; first | (exfalso; omega) | skip))) <;> (iterate 2 refine .cons (q hX rfl ?_)) <;> ((refine .cons (qidx hX rfl rfl rfl rfl rfl hn rfl rfl rfl rfl ?_))) <;> (refine .cons (q hX rfl ?_)) <;> ((refine .cons (qc rfl ?_ ?_)) <;> ((intro _; first | (exfalso; omega) | skip))) <;> (iterate 2 refine .cons (q hX rfl ?_)) <;> (refine .nil (.intro rfl ?_)))
  | refine WCX.f_ rfl ?_
  | refine WCX.k_ ?_
  | refine WCX.b_ ?_
  | refine ToX.b_ ?_)
 refine WCX.nil 22 1 ?_
 repeat' (first
  | refine ToX.a_ ?_
  | refine WCX.s_ ?_
  | (refine WCX.draw (id := 5) tab [0, 1, 2, 3, 4, 5, 6, 7, 8, 9, 10, 11, 12, 13] #[0, 0, 2, 6, 14, 0, 32, 96, 224, 480, 1022, 2047, 4095, 8191] (by kernel_rfl) (by kernel_rfl) (by kernel_rfl) ?_; (iterate 4 refine .cq hX rfl rfl rfl ?_) <;> ((refine WDX.ldE hX rfl rfl rfl rfl rfl rfl rfl rfl (.t .h) hv rfl rfl rfl ?_)) <;> (refine .cq hX rfl rfl rfl ?_) <;> ((refine .cons rfl (qidx hX rfl rfl rfl rfl rfl hn rfl rfl rfl rfl ?_)) <;> refine ⟨_, .comp rfl, ?_⟩) <;> ((refine .cons rfl (q hX rfl ?_)) <;> refine ⟨_, .rdS hX.tab rfl rfl rfl rfl rfl rfl rfl rfl (suB rfl) rfl rfl rfl, ?_⟩) <;> ((refine .cons rfl (qmk (len := size) hX rfl rfl rfl rfl b21 (by omega) (by omega) rfl rfl rfl rfl ?_)) <;> (intro kc) <;> refine ⟨_, .comp rfl, ?_⟩) <;> (refine .cq hX rfl rfl rfl ?_) <;> ((refine .cons rfl (qapp hX rfl rfl rfl rfl rfl rfl rfl rfl rfl rfl rfl rfl b22 rfl rfl rfl rfl rfl (by repeat (first | exact .h | apply Pick.t)) rfl (by simp) rfl rfl ?_)) <;> intro kp <;> refine ⟨_, .comp rfl, ?_⟩) <;> (iterate 2 refine .cq hX rfl rfl rfl ?_) <;> ((refine .cons rfl (qstE hX rfl rfl rfl rfl rfl (by repeat (first | exact .h | apply Pick.t)) (hov _) rfl rfl rfl ?_)) <;> refine ⟨_, .comp rfl, ?_⟩) <;> (refine .nil ⟨?_, .intro rfl ?_⟩ <;> (repeat' (first | exact trivial | exact .inl rfl | refine ⟨?_, ?_⟩))))
  | (refine WCX.g_ (id := 6) ?_; (iterate 3 refine .cons (q hX rfl ?_)) <;> ((refine .cons (qldE hX rfl rfl rfl rfl .h (hv' _) rfl rfl ?_))) <;> (refine .cons (q hX rfl ?_)) <;> ((refine .cons (qa rfl rfl rfl rfl rfl (wI (by first | omega | (simp only [Int.ofNat_eq_natCast]; omega)) (by first | omega | (simp only [Int.ofNat_eq_natCast]; omega))) rfl rfl ?_))) <;> ((refine .cons (qcallV rfl rfl rfl rfl ca15 rfl rfl (fun h f => Sp.known (hK.itoa h 0 (f.ro hB) (by omega) (by omega)) ⟨rfl, Chg.refl f.wf⟩) ?_))) <;> (refine .cons (q hX rfl ?_)) <;> ((refine .cons (qcallVS rfl rfl rfl rfl rfl rfl ca46 rfl rfl (fun k h f hp => fine_run hK (.slice k 0 1 (some 1)) [decI 0] (by simp) (by simp) (by simpa using decI_lt 0) hj0 h f.wf (pts.rd hp rfl (by simp [sB]) rfl (by simp))) ?_))) <;> (refine .cons (q hX rfl ?_)) <;> (refine .nil (.intro rfl ?_)))
  | refine WCX.r_ ?_
  | refine ToX.r_ hX rfl ?_)
 exact fun h f => ⟨_, f.chg.picks (.cons .h (.cons .h (.cons .h .nil))), _, kc, rfl, rfl⟩
end Dr
end Go.HL
namespace Go.HL
open Go Go.Proofs
namespace Dr
set_option maxRecDepth 10000
variable {K : CallFn} {base : List (Nat × HObj)}
theorem nc_one (ws : List Int) : ∀ r ∈ ws.map nc, r.length = 1 := by intro r hr; obtain ⟨q, _, rfl⟩ := List.mem_map.1 hr; rfl
theorem write_run (hK : KD base K) (kd o kb kc size cell : Nat) (ws : List Int) (lv nv : HVal) (dev lc lc' : List HVal) (hs : size ≤ 1000) (h1 : 1 ≤ ws.length) (h2 : cell + ws.length ≤ size) (hv : nth dev (Nat.add o 1) = some (.slice kb 0 1 none)) (hov : overK lc cell (ws.map nc).flatten some = some lc') (h : Heap) (w : Wf h) (hg : (pts kc lc 21 false).holds h) (hd : Ro [pts kc lc 21 false] h (pts kd dev 45 false)) (hb : Ro [pts kc lc 21 false] h (rd (.slice kb 0 1 none) 1 [[.slice kc 0 size (some size)]])) (hn : Ro [pts kc lc 21 false] h (frd 21 nv 1 (nc 0 :: nc cell :: ws.map nc))) :
  Sp P K 27 [.ptr kd o, lv, nv] h (TrG (pts kc lc 21 false) (fun v C => v = strB okW ∧ C = [pts kc lc' 21 false]) h) := by
 have hlen : lenV nv = some (ws.length + 2) := by have := hn.frd.holds.slice.len; simpa using this
 refine Sp.startG (m := 16777671) (n := 31) w hg (hK.none 27 rfl rfl _ _) Tryz.func27 rfl rfl mask27 rfl rfl ?_
 repeat' (first
  | refine ToX.a_ ?_
  | refine WCX.s_ ?_
  | (refine WCX.g_ (id := 0) ?_; (refine .cons (q hX rfl ?_)) <;> (refine .nil (.intro rfl ?_)))
  | (refine WCX.draw (id := 1) tab [0, 1, 2, 3, 4, 5, 6, 7, 8, 9, 10, 11, 13, 12, 14, 15] #[0, 0, 2, 6, 0, 16, 48, 0, 128, 384, 1023, 2047, 4095, 4095, 8191, 32767] (by kernel_rfl) (by kernel_rfl) (by kernel_rfl) ?_; (iterate 2 refine .cq hX rfl rfl rfl ?_) <;> ((refine .cons rfl (qidx hX rfl rfl rfl rfl rfl hn.frd rfl rfl rfl rfl ?_)) <;> refine ⟨_, .comp rfl, ?_⟩) <;> ((refine .cons rfl (q hX rfl ?_)) <;> refine ⟨_, .rdS hX.tab rfl rfl rfl rfl rfl rfl rfl rfl (suB rfl) rfl rfl rfl, ?_⟩) <;> (refine .cq hX rfl rfl rfl ?_) <;> ((refine .cons rfl (qidx hX rfl rfl rfl rfl rfl hn.frd rfl rfl rfl rfl ?_)) <;> refine ⟨_, .comp rfl, ?_⟩) <;> ((refine .cons rfl (q hX rfl ?_)) <;> refine ⟨_, .rdS hX.tab rfl rfl rfl rfl rfl rfl rfl rfl (suB rfl) rfl rfl rfl, ?_⟩) <;> (refine .cq hX rfl rfl rfl ?_) <;> ((refine .cons rfl (ql hX rfl rfl rfl rfl rfl rfl (by assumption) rfl rfl ?_)) <;> refine ⟨_, .comp rfl, ?_⟩) <;> ((refine .cons rfl (qa (d := ((ws.length : Nat) : Int)) rfl rfl rfl rfl rfl (by rw [wI (by first | omega | (simp only [Int.ofNat_eq_natCast]; omega)) (by first | omega | (simp only [Int.ofNat_eq_natCast]; omega))]; first | omega | (simp only [Int.ofNat_eq_natCast]; omega)) rfl rfl ?_)) <;> refine ⟨_, .comp rfl, ?_⟩) <;> ((refine .cons rfl (qcallV rfl rfl rfl rfl ca47 rfl rfl (fun h f => cells_run hK kd o kb kc size cell ws.length dev hs h1 h2 hv h f.wf (f.ro hd) (f.ro hb)) ?_)) <;> refine ⟨_, .comp rfl, ?_⟩) <;> (iterate 5 refine .cq hX rfl rfl rfl ?_) <;> (refine .nil ⟨?_, .intro rfl ?_⟩ <;> (repeat' (first | exact trivial | exact .inl rfl | refine ⟨?_, ?_⟩))))
  | (refine WCX.g_ (id := 2) ?_; (iterate 2 refine .cons (q hX rfl ?_)) <;> (refine .nil (.intro rfl ?_)))
  | (refine WCX.g_ (id := 4) ?_; (iterate 2 refine .cons (q hX rfl ?_)) <;> ((refine .cons (qdrop hX rfl rfl rfl rfl rfl rfl hn (by simp) (by simp) rfl rfl ?_)) <;> (intro v' hv')) <;> ((refine .cons (qcp (new := ws.map nc) hX rfl rfl rfl rfl rfl rfl rfl rfl (hn.drop (j := 2) (by simp) hv').frd (nc_one ws) (by rw [List.length_map]; omega) (by simp) .h hov rfl rfl rfl ?_))) <;> (refine .nil (.intro rfl ?_)))
  | (refine WCX.g_ (id := 5) ?_; ((refine .cons (qcallV rfl rfl rfl rfl ca46 rfl rfl (fun h f => fineN_run hK h f.wf) ?_))) <;> (refine .cons (q hX rfl ?_)) <;> (refine .nil (.intro rfl ?_)))
  | refine WCX.r_ ?_
  | refine WCX.f_ rfl ?_
  | refine WCX.k_ ?_
  | refine ToX.r_ hX rfl ?_)
 exact fun h f => ⟨_, f.chg.picks (.cons .h .nil), rfl, rfl⟩
theorem read_run (hK : KD base K) (kd o kb kc size cell : Nat) (ws : List Int) (lv nv : HVal) (dev : List HVal) (hs : size ≤ 1000) (h1 : 1 ≤ ws.length) (h64 : ws.length ≤ 64) (h2 : cell + ws.length ≤ size) (hws : ∀ x ∈ ws, -2147483648 ≤ x ∧ x < 2147483648) (hv : nth dev (Nat.add o 1) = some (.slice kb 0 1 none)) (hj : (joinT (okW :: ws.map decI)).length ≤ 1000000) (h : Heap) (w : Wf h) (hB : (lies base).holds h) (hd : (pts kd dev 45 false).holds h) (hb : (rd (.slice kb 0 1 none) 1 [[.slice kc 0 size (some size)]]).holds h) (hn : (rd nv 1 [nc 0, nc cell, nc ws.length]).holds h) (hw : (rd (.slice kc cell ws.length (some (size - cell))) 1 (ws.map nc)).holds h) :
  Sp P K 28 [.ptr kd o, lv, nv] h (Val (strB (joinT (okW :: ws.map decI))) h) := by
 refine Sp.start (m := 33535106747335) (n := 56) w (hK.none 28 rfl rfl _ _) Tryz.func28 rfl rfl mask28 rfl rfl ?_
 repeat' (first
  | refine ToX.a_ ?_
  | refine WCX.s_ ?_
  | (refine WCX.g_ (id := 0) ?_; (refine .cons (q hX rfl ?_)) <;> (refine .nil (.intro rfl ?_)))
  | (refine WCX.g_ (id := 1) ?_; (refine .cons (q hX rfl ?_)) <;> ((refine .cons (qidx hX rfl rfl rfl rfl rfl (.of hn) rfl rfl rfl rfl ?_))) <;> (refine .cons (q hX rfl ?_)) <;> ((refine .cons (qc rfl ?_ ?_)) <;> ((intro _; first | (exfalso; omega) | skip))) <;> (iterate 2 refine .cons (q hX rfl ?_)) <;> ((refine .cons (qidx hX rfl rfl rfl rfl rfl (.of hn) rfl rfl rfl rfl ?_))) <;> (refine .cons (q hX rfl ?_)) <;> ((refine .cons (qc rfl ?_ ?_)) <;> ((intro _; first | (exfalso; omega) | skip))) <;> (refine .cons (q hX rfl ?_)) <;> (refine .nil (.intro rfl ?_)))
  | (refine WCX.draw (id := 3) tab [0, 1, 2, 3, 4, 5, 6, 7, 8, 9, 10, 11, 12, 14, 13, 15, 16] #[0, 0, 2, 6, 0, 16, 48, 0, 128, 384, 896, 2047, 4095, 8191, 8191, 16383, 65535] (by kernel_rfl) (by kernel_rfl) (by kernel_rfl) ?_; (iterate 2 refine .cq hX rfl rfl rfl ?_) <;> ((refine .cons rfl (qidx hX rfl rfl rfl rfl rfl (.of hn) rfl rfl rfl rfl ?_)) <;> refine ⟨_, .comp rfl, ?_⟩) <;> ((refine .cons rfl (q hX rfl ?_)) <;> refine ⟨_, .rdS hX.tab rfl rfl rfl rfl rfl rfl rfl rfl (suB rfl) rfl rfl rfl, ?_⟩) <;> (refine .cq hX rfl rfl rfl ?_) <;> ((refine .cons rfl (qidx hX rfl rfl rfl rfl rfl (.of hn) rfl rfl rfl rfl ?_)) <;> refine ⟨_, .comp rfl, ?_⟩) <;> ((refine .cons rfl (q hX rfl ?_)) <;> refine ⟨_, .rdS hX.tab rfl rfl rfl rfl rfl rfl rfl rfl (suB rfl) rfl rfl rfl, ?_⟩) <;> (refine .cq hX rfl rfl rfl ?_) <;> ((refine .cons rfl (qidx hX rfl rfl rfl rfl rfl (.of hn) rfl rfl rfl rfl ?_)) <;> refine ⟨_, .comp rfl, ?_⟩) <;> ((refine .cons rfl (q hX rfl ?_)) <;> refine ⟨_, .rdS hX.tab rfl rfl rfl rfl rfl rfl rfl rfl (suB rfl) rfl rfl rfl, ?_⟩) <;> ((refine .cons rfl (qw (b := (ws.length : Int)) hX rfl rfl rfl rfl (wrapF_i64_nat (by omega)) rfl rfl ?_)) <;> refine ⟨_, .comp rfl, ?_⟩) <;> ((refine .cons rfl (qcallV rfl rfl rfl rfl ca47 rfl rfl (fun h f => cells_run hK kd o kb kc size cell ws.length dev hs h1 h2 hv h f.wf (f.ro (.of hd)) (f.ro (.of hb))) ?_)) <;> refine ⟨_, .comp rfl, ?_⟩) <;> (iterate 5 refine .cq hX rfl rfl rfl ?_) <;> (refine .nil ⟨?_, .intro rfl ?_⟩ <;> (repeat' (first | exact trivial | exact .inl rfl | refine ⟨?_, ?_⟩))))
  | (refine WCX.g_ (id := 4) ?_; (iterate 2 refine .cons (q hX rfl ?_)) <;> (refine .nil (.intro rfl ?_)))
  | (refine WCX.g_ (id := 6) ?_; (refine .cons (q hX rfl ?_)) <;> (refine .nil (.intro rfl ?_)))
  | (refine WCX.g_ (id := 7) ?_; (iterate 3 refine .cons (q hX rfl ?_)) <;> (refine .nil (.intro rfl ?_)))
  | refine WCX.f_ rfl ?_
  | refine WCX.k_ ?_
  | refine WCX.b_ ?_)
 refine WCX.nil 9 1 ?_
 refine WCX.loop (ι := Nat × HVal) (fun a => [(43, .ext (i64 a.1)), (42, .ext (i64 ws.length)), (41, .ext (.slice kc cell ws.length (some (size - cell)))), (9, .ext a.2)]) (fun _ => []) (fun a => [ownS 9 1 a.2 (((ws.take a.1).map decI).map sB)]) (fun a => a.1 ≤ ws.length ∧ (0 < a.1 → ∃ q, a.2 = .slice q 0 a.1 none)) (fun a => ws.length - a.1) (0, .nils) ⟨⟨rfl, rfl, rfl, rfl, trivial⟩, ⟨_, rfl⟩, ⟨_, .cons .h .nil⟩⟩ ⟨Nat.zero_le _, fun e => absurd e (by simp)⟩ (fun _ => rfl) (fun _ => rfl) (fun _ => rfl) ?_
 rintro ⟨i, nv⟩ ⟨hi, hnv⟩ next
 simp only at hi hnv next ⊢
 repeat' (first
  | refine ToX.a_ ?_
  | refine WCX.s_ ?_
  | (refine WCX.g_ (id := 8) ?_; ((refine .cons (qc rfl ?_ ?_)) <;> intro _) <;> (refine .nil (.intro rfl ?_)))
  | refine WCX.t_ rfl ?_
  | refine WCX.f_ rfl ?_
  | refine WCX.k_ ?_
  | refine WCX.b_ ?_
  | refine WCX.e_ ?_
  | refine ToX.e_ ?_
  | refine ToX.c_ ?_)
 ·have hil : i < ws.length := by omega
  have hni := hws _ (getD_mem 0 hil)
  obtain ⟨x, hx⟩ : ∃ x, ws.getD i 0 = x := ⟨_, rfl⟩
  rw [hx] at hni
  have hrow : (ws.map nc)[i]? = some [.int .i32 x] := by
   rw [← hx]; exact row_i (g := nc) 0 hil
  have htk : ((ws.take (i + 1)).map decI).map sB = ((ws.take i).map decI).map sB ++ [[strB (decI x)]] := by rw [take_succ hil 0, List.map_append, List.map_append, hx]; rfl
  have htl : (ws.take i).length = i := by rw [List.length_take]; omega
  repeat' (first
   | refine ToX.a_ ?_
   | (refine WCX.g_ (id := 9) ?_; ((refine .cons (qidx hX rfl rfl rfl rfl rfl (.of hw) hrow rfl rfl rfl ?_))) <;> (iterate 2 refine .cons (q hX rfl ?_)) <;> (refine .nil (.intro rfl ?_)))
   | (refine WCX.g_ (id := 10) ?_; (iterate 2 refine .cons (q hX rfl ?_)) <;> ((refine .cons (qw (b := x) hX rfl rfl rfl rfl (wI (by omega) (by omega)) rfl rfl ?_))) <;> ((refine .cons (qcallV rfl rfl rfl rfl ca15 rfl rfl (fun h f => Sp.known (hK.itoa h x (f.ro (.of hB)) (by omega) (by omega)) ⟨rfl, Chg.refl f.wf⟩) ?_))) <;> (refine .cons (q hX rfl ?_)) <;> ((refine .cons (qapp hX rfl rfl rfl rfl rfl rfl rfl rfl rfl rfl rfl rfl b9 rfl rfl rfl rfl rfl (by repeat (first | exact .h | apply Pick.t)) rfl (by simp only [List.length_map]; omega) rfl rfl ?_)) <;> intro kp) <;> (refine .cons (q hX rfl ?_)) <;> (refine .nil (.intro rfl ?_)))
   | (refine WCX.g_ (id := 11) ?_; ((refine .cons (qa rfl rfl rfl rfl rfl (wI (by first | omega | (simp only [Int.ofNat_eq_natCast]; omega)) (by first | omega | (simp only [Int.ofNat_eq_natCast]; omega))) rfl rfl ?_))) <;> (refine .cons (q hX rfl ?_)) <;> (refine .nil (.intro rfl ?_)))
   | refine ToX.b_ ?_)
  refine next (i + 1, _) _ _ _ (by simp only; omega) ⟨⟨rfl, rfl, rfl, rfl, trivial⟩, ⟨_, rfl⟩, ⟨_, by simp only [htk]; exact .cons .h .nil⟩⟩ ⟨by simp only; omega, fun _ => ⟨kp, by simp only [List.length_map, htl]⟩⟩
 ·have hin : i = ws.length := by omega
  subst hin
  obtain ⟨kq, rfl⟩ := hnv (by omega)
  simp only [List.take_length]
  repeat' (first
   | refine ToX.a_ ?_
   | (refine WCX.g_ (id := 12) ?_; (refine .cons (q hX rfl ?_)) <;> ((refine .cons (qcallV rfl rfl rfl rfl ca46 rfl rfl (fun h f => fine_run hK (.slice kq 0 ws.length none) (ws.map decI) (by simp; omega) (by simp; omega) (by intro y hy b hb; obtain ⟨z, _, rfl⟩ := List.mem_map.1 hy; exact decI_lt z b hb) hj h f.wf (ownS.rd (f.pick .h))) ?_))) <;> (refine .cons (q hX rfl ?_)) <;> (refine .nil (.intro rfl ?_)))
   | refine WCX.r_ ?_
   | refine ToX.r_ hX rfl ?_)
  exact fun h f => ⟨rfl, f.chg.picks .nil⟩
end Dr
end Go.HL
namespace Go.HL
open Go Go.Proofs
namespace Dr
set_option maxRecDepth 10000
variable {K : CallFn} {base : List (Nat × HObj)}
theorem dev_eql (k : Nat) : ∀ lit, binC P .eql 24 lit (.ptr k 0) .nilp = some (.bool false) := fun lit => by cases lit <;> kernel_rfl
theorem run_neq : ∀ lit, binC P .neq 40 lit .nilp .nilp = some (.bool false) := fun lit => by cases lit <;> kernel_rfl
theorem decB_ok (n : Nat) : ∀ b ∈ decB n, 48 ≤ b ∧ b ≤ 57 := by
 induction n using Nat.strongRecOn with
 | _ n ih =>
  intro b hb
  by_cases h : n < 10
  ·rw [decB_small h] at hb
   have : b = 48 + n := by simpa using hb
   omega
  ·rw [decB_big h] at hb
   rcases List.mem_append.1 hb with hb | hb
   ·exact ih _ (by omega) b hb
   ·rw [decB_small (n := n % 10) (by omega)] at hb
    have : b = 48 + n % 10 := by simpa using hb
    omega
theorem decB_word (n : Nat) : WordOk (decB n) := ⟨by obtain ⟨d, r, e, _⟩ := decB_head n; rw [e]; simp, fun b hb => by have := decB_ok n b hb; omega⟩
theorem decI_word (n : Int) : WordOk (decI n) := by
 unfold decI
 split
 ·refine ⟨by simp, fun b hb => ?_⟩
  rcases List.mem_cons.1 hb with rfl | hb
  ·omega
  ·have := decB_ok _ b hb; omega
 ·exact decB_word _
theorem joinT_len {N : Nat} : ∀ {l : List (List Nat)}, (∀ x ∈ l, x.length ≤ N) → (joinT l).length ≤ l.length * (N + 1)
 | [], _ => by simp [joinT]
 | [a], h => by have := h a (by simp); simp [joinT]; omega
 | a :: b :: r, h => by
  have h1 := h a (by simp)
  have h2 := joinT_len (l := b :: r) fun x hx => h x (by simp [hx])
  rw [joinT_cons a (by simp), List.length_append, List.length_append, List.length_singleton]
  simp only [List.length_cons] at h2 ⊢
  have : (r.length + 1 + 1) * (N + 1) = (r.length + 1) * (N + 1) + (N + 1) := by rw [Nat.succ_mul]
  omega
theorem line_ok (t : Nat) (ht : t < 1000) (name : List Nat) (hnm : WordOk name) (hnl : name.length ≤ 20) (ns : List Int) (hn : ∀ n ∈ ns, -2147483648 ≤ n ∧ n < 2147483648) (hl : ns.length ≤ 100) : LineOk (decB t :: name :: ns.map decI) := by
 refine ⟨by simp, fun w hw => ?_, ?_⟩
 ·rcases List.mem_cons.1 hw with rfl | hw
  ·exact decB_word t
  ·rcases List.mem_cons.1 hw with rfl | hw
   ·exact hnm
   ·obtain ⟨z, _, rfl⟩ := List.mem_map.1 hw
    exact decI_word z
 ·have := joinT_len (N := 20) (l := decB t :: name :: ns.map decI) fun x hx => by
   rcases List.mem_cons.1 hx with rfl | hx
   ·have := decB_len2 11 t (by decide) (by omega); omega
   ·rcases List.mem_cons.1 hx with rfl | hx
    ·exact hnl
    ·obtain ⟨z, hz, rfl⟩ := List.mem_map.1 hx
     have := hn z hz
     have := decI_len (n := z) (by omega) (by omega); omega
  simp only [List.length_cons, List.length_map] at this
  omega
abbrev bufN : List Nat := [98, 117, 102, 102, 101, 114]
abbrev wriN : List Nat := [119, 114, 105, 116, 101]
abbrev reaN : List Nat := [114, 101, 97, 100]
abbrev plB (t : Nat) : Nat := Nat.add (Nat.add 0 (Nat.mul t 10)) 1
theorem do_buffer (hK : KD base K) (t : Nat) (ht : t < 3) (kd size : Nat) (dev : List HVal) (dev' : Nat → List HVal) (hs1 : 1 ≤ size) (hs2 : size ≤ 255) (hmade : nth dev 30 = some (.bool true)) (hrun : nth dev (Nat.add (Nat.add 0 (Nat.mul t 10)) 9) = some .nilp) (hv : nth dev (plB t) = some .nils) (hov : ∀ kb, overK dev (plB t) [.slice kb 0 1 none] some = some (dev' kb)) (hv' : ∀ kb, nth (dev' kb) (plB t) = some (.slice kb 0 1 none)) (h : Heap) (w : Wf h) (hg : (pts kd dev 45 false).holds h) (hB : Ro [pts kd dev 45 false] h (lies base)) :
  Sp P K 7 [.ptr kd 0, strB (joinT (decB t :: bufN :: [(size : Int)].map decI))] h (TrG (pts kd dev 45 false) (fun v C => ∃ kb kc, v = strB (joinT [okW, decI 0]) ∧ C = [pts kd (dev' kb) 45 false, ownS 22 1 (.slice kb 0 1 none) [[.slice kc 0 size (some size)]], pts kc (repl size [.int .i32 0]) 21 false]) h) := by
 have hns : ∀ n ∈ [(size : Int)], -2147483648 ≤ n ∧ n < 2147483648 := by
  intro n hn
  have : n = size := by simpa using hn
  omega
 have hline := line_ok t (by omega) bufN (by exact ⟨by decide, by decide⟩) (by decide) ([(size : Int)]) hns (by simp)
 have hpar := fun (h : Heap) (w : Wf h) (hB : (lies base).holds h) => parse_run hK t (by omega) bufN ([(size : Int)]) 1 1 true 26 hns (by simp) (by simp) (by simp) (by simp) (by omega) (by kernel_rfl) hline h w hB
 refine Sp.startG (m := 4503738140592115) (n := 60) w hg (hK.none 7 rfl rfl _ _) Tryz.func7 rfl rfl mask7 rfl rfl ?_
 repeat' (first
  | refine ToX.a_ ?_
  | refine WCX.s_ ?_
  | (refine WCX.g_ (id := 0) ?_; (refine .cons (q hX rfl ?_)) <;> (refine .nil (.intro rfl ?_)))
  | (refine WCX.g_ (id := 1) ?_; (refine .cons (q hX rfl ?_)) <;> ((refine .cons (qbin rfl rfl rfl (dev_eql kd) rfl rfl ?_))) <;> (iterate 4 refine .cons (q hX rfl ?_)) <;> ((refine .cons (qldE hX rfl rfl rfl rfl (by repeat (first | exact .h | apply Pick.t)) hmade rfl rfl ?_))) <;> (iterate 2 refine .cons (q hX rfl ?_)) <;> (refine .nil (.intro rfl ?_)))
  | (refine WCX.g_ (id := 3) ?_; (refine .cons (q hX rfl ?_)) <;> ((refine .cons (qcall rfl rfl rfl rfl ca12 rfl rfl (fun h f => hpar h f.wf (f.ro hB)) ?_)) <;> (rintro v C' ⟨lv, kn, rfl, rfl⟩)) <;> (iterate 12 refine .cons (q hX rfl ?_)) <;> (refine .nil (.intro rfl ?_)))
  | (refine WCX.g_ (id := 4) ?_; (iterate 2 refine .cons (q hX rfl ?_)) <;> (refine .nil (.intro rfl ?_)))
  | (refine WCX.g_ (id := 6) ?_; (refine .cons (q hX rfl ?_)) <;> ((refine .cons (qc rfl ?_ ?_)) <;> ((intro _; first | (exfalso; omega) | skip))) <;> (iterate 2 refine .cons (q hX rfl ?_)) <;> ((refine .cons (qc rfl ?_ ?_)) <;> ((intro _; first | (exfalso; omega) | skip))) <;> (refine .cons (q hX rfl ?_)) <;> (refine .nil (.intro rfl ?_)))
  | (refine WCX.g_ (id := 8) ?_; (iterate 4 refine .cons (q hX rfl ?_)) <;> ((refine .cons (qidxP (j := t) hX rfl rfl rfl rfl rfl ht rfl rfl ?_))) <;> (refine .cons (q hX rfl ?_)) <;> (refine .nil (.intro rfl ?_)))
  | (refine WCX.g_ (id := 9) ?_; (refine .cons (q hX rfl ?_)) <;> ((refine .cons (qb hX rfl ?_ ?_)) <;> (intro hbl; (first | (cases hbl; done) | skip))) <;> (iterate 4 refine .cons (q hX rfl ?_)) <;> ((refine .cons (qldE hX rfl rfl rfl rfl (by repeat (first | exact .h | apply Pick.t)) hrun rfl rfl ?_))) <;> ((refine .cons (qbin rfl rfl rfl run_neq rfl rfl ?_))) <;> (refine .cons (q hX rfl ?_)) <;> (refine .nil (.intro rfl ?_)))
  | (refine WCX.g_ (id := 11) ?_; (iterate 5 refine .cons (q hX rfl ?_)) <;> ((refine .cons (qcallG rfl rfl rfl rfl ca26 rfl rfl (by repeat (first | exact .h | apply Pick.t)) rfl (fun h f hg ro rg => buffer_run hK kd (Nat.add 0 (Nat.mul t 10)) size lv (.slice kn 0 1 none) dev dev' hs1 hs2 hv hov hv' h f.wf hg (rg (ownS 21 1 (.slice kn 0 _ none) ([(size : Int)].map nc)) (by simp)).ownRd (ro _ hB)) ?_)) <;> ((rintro v C' ⟨kb, kc, rfl, rfl⟩))) <;> (refine .cons (q hX rfl ?_)) <;> (refine .nil (.intro rfl ?_)))
  | refine WCX.r_ ?_
  | refine WCX.f_ rfl ?_
  | refine WCX.k_ ?_
  | refine ToX.r_ hX rfl ?_)
 exact fun h f => ⟨_, f.chg.picks (.cons .h (.cons .h (.cons .h .nil))), kb, kc, rfl, rfl⟩
theorem do_write (hK : KD base K) (t : Nat) (ht : t < 3) (kd kb kc size cell : Nat) (ws : List Int) (dev lc lc' : List HVal) (hs : size ≤ 1000) (h1 : 1 ≤ ws.length) (h64 : ws.length ≤ 64) (h2 : cell + ws.length ≤ size) (hws : ∀ x ∈ ws, -2147483648 ≤ x ∧ x < 2147483648) (hmade : nth dev 30 = some (.bool true)) (hrun : nth dev (Nat.add (Nat.add 0 (Nat.mul t 10)) 9) = some .nilp) (hv : nth dev (plB t) = some (.slice kb 0 1 none)) (hov : overK lc cell (ws.map nc).flatten some = some lc') (h : Heap) (w : Wf h) (hg : (pts kc lc 21 false).holds h) (hd : Ro [pts kc lc 21 false] h (pts kd dev 45 false)) (hb : Ro [pts kc lc 21 false] h (rd (.slice kb 0 1 none) 1 [[.slice kc 0 size (some size)]])) (hB : Ro [pts kc lc 21 false] h (lies base)) :
  Sp P K 7 [.ptr kd 0, strB (joinT (decB t :: wriN :: ((0 : Int) :: (cell : Int) :: ws).map decI))] h (TrG (pts kc lc 21 false) (fun v C => v = strB okW ∧ C = [pts kc lc' 21 false]) h) := by
 have hns : ∀ n ∈ (0 : Int) :: (cell : Int) :: ws, -2147483648 ≤ n ∧ n < 2147483648 := by
  intro n hn
  rcases List.mem_cons.1 hn with rfl | hn
  ·omega
  ·rcases List.mem_cons.1 hn with rfl | hn
   ·omega
   ·exact hws n hn
 have hline := line_ok t (by omega) wriN (by exact ⟨by decide, by decide⟩) (by decide) ((0 : Int) :: (cell : Int) :: ws) hns (by simp only [List.length_cons]; omega)
 have hpar := fun (h : Heap) (w : Wf h) (hB : (lies base).holds h) => parse_run hK t (by omega) wriN ((0 : Int) :: (cell : Int) :: ws) 3 1073741824 true 27 hns (by simp only [List.length_cons]; omega) (by simp only [List.length_cons]; omega) (by simp only [List.length_cons]; omega) (by simp only [List.length_cons]; omega) (by omega) (by kernel_rfl) hline h w hB
 refine Sp.startG (m := 4503738140592115) (n := 60) w hg (hK.none 7 rfl rfl _ _) Tryz.func7 rfl rfl mask7 rfl rfl ?_
 repeat' (first
  | refine ToX.a_ ?_
  | refine WCX.s_ ?_
  | (refine WCX.g_ (id := 0) ?_; (refine .cons (q hX rfl ?_)) <;> (refine .nil (.intro rfl ?_)))
  | (refine WCX.g_ (id := 1) ?_; (refine .cons (q hX rfl ?_)) <;> ((refine .cons (qbin rfl rfl rfl (dev_eql kd) rfl rfl ?_))) <;> (iterate 4 refine .cons (q hX rfl ?_)) <;> ((refine .cons (qldR hX rfl rfl rfl rfl hd hmade rfl rfl ?_))) <;> (iterate 2 refine .cons (q hX rfl ?_)) <;> (refine .nil (.intro rfl ?_)))
  | (refine WCX.g_ (id := 3) ?_; (refine .cons (q hX rfl ?_)) <;> ((refine .cons (qcall rfl rfl rfl rfl ca12 rfl rfl (fun h f => hpar h f.wf (f.ro hB)) ?_)) <;> (rintro v C' ⟨lv, kn, rfl, rfl⟩)) <;> (iterate 12 refine .cons (q hX rfl ?_)) <;> (refine .nil (.intro rfl ?_)))
  | (refine WCX.g_ (id := 4) ?_; (iterate 2 refine .cons (q hX rfl ?_)) <;> (refine .nil (.intro rfl ?_)))
  | (refine WCX.g_ (id := 6) ?_; (refine .cons (q hX rfl ?_)) <;> ((refine .cons (qc rfl ?_ ?_)) <;> ((intro _; first | (exfalso; omega) | skip))) <;> (iterate 2 refine .cons (q hX rfl ?_)) <;> ((refine .cons (qc rfl ?_ ?_)) <;> ((intro _; first | (exfalso; omega) | skip))) <;> (refine .cons (q hX rfl ?_)) <;> (refine .nil (.intro rfl ?_)))
  | (refine WCX.g_ (id := 8) ?_; (iterate 4 refine .cons (q hX rfl ?_)) <;> ((refine .cons (qidxP (j := t) hX rfl rfl rfl rfl rfl ht rfl rfl ?_))) <;> (refine .cons (q hX rfl ?_)) <;> (refine .nil (.intro rfl ?_)))
  | (refine WCX.g_ (id := 9) ?_; (refine .cons (q hX rfl ?_)) <;> ((refine .cons (qb hX rfl ?_ ?_)) <;> (intro hbl; (first | (cases hbl; done) | skip))) <;> (iterate 4 refine .cons (q hX rfl ?_)) <;> ((refine .cons (qldR hX rfl rfl rfl rfl hd hrun rfl rfl ?_))) <;> ((refine .cons (qbin rfl rfl rfl run_neq rfl rfl ?_))) <;> (refine .cons (q hX rfl ?_)) <;> (refine .nil (.intro rfl ?_)))
  | (refine WCX.g_ (id := 11) ?_; (iterate 5 refine .cons (q hX rfl ?_)) <;> ((refine .cons (qcallG rfl rfl rfl rfl ca27 rfl rfl (by repeat (first | exact .h | apply Pick.t)) rfl (fun h f hg ro rg => write_run hK kd (Nat.add 0 (Nat.mul t 10)) kb kc size cell ws lv _ dev lc lc' hs h1 h2 hv hov h f.wf hg (ro _ hd) (ro _ hb) (rg (ownS 21 1 (.slice kn 0 _ none) (nc 0 :: nc cell :: ws.map nc)) (by simp)).ownFrd) ?_)) <;> ((rintro v C' ⟨rfl, rfl⟩))) <;> (refine .cons (q hX rfl ?_)) <;> (refine .nil (.intro rfl ?_)))
  | refine WCX.r_ ?_
  | refine WCX.f_ rfl ?_
  | refine WCX.k_ ?_
  | refine ToX.r_ hX rfl ?_)
 exact fun h f => ⟨_, f.chg.picks (.cons .h .nil), rfl, rfl⟩
theorem do_read (hK : KD base K) (t : Nat) (ht : t < 3) (kd kb kc size cell : Nat) (ws : List Int) (dev : List HVal) (hs : size ≤ 1000) (h1 : 1 ≤ ws.length) (h64 : ws.length ≤ 64) (h2 : cell + ws.length ≤ size) (hws : ∀ x ∈ ws, -2147483648 ≤ x ∧ x < 2147483648) (hmade : nth dev 30 = some (.bool true)) (hrun : nth dev (Nat.add (Nat.add 0 (Nat.mul t 10)) 9) = some .nilp) (hv : nth dev (plB t) = some (.slice kb 0 1 none)) (h : Heap) (w : Wf h) (hB : (lies base).holds h) (hd : (pts kd dev 45 false).holds h) (hb : (rd (.slice kb 0 1 none) 1 [[.slice kc 0 size (some size)]]).holds h) (hw : (rd (.slice kc cell ws.length (some (size - cell))) 1 (ws.map nc)).holds h) :
  Sp P K 7 [.ptr kd 0, strB (joinT (decB t :: reaN :: [(0 : Int), (cell : Int), (ws.length : Int)].map decI))] h (Val (strB (joinT (okW :: ws.map decI))) h) := by
 have hns : ∀ n ∈ [(0 : Int), (cell : Int), (ws.length : Int)], -2147483648 ≤ n ∧ n < 2147483648 := by
  intro n hn
  rcases List.mem_cons.1 hn with rfl | hn
  ·omega
  ·rcases List.mem_cons.1 hn with rfl | hn
   ·omega
   ·have : n = ws.length := by simpa using hn
    omega
 have hj : (joinT (okW :: ws.map decI)).length ≤ 1000000 := by
  have := joinT_len (N := 20) (l := okW :: ws.map decI) fun x hx => by
   rcases List.mem_cons.1 hx with rfl | hx
   ·decide
   ·obtain ⟨z, hz, rfl⟩ := List.mem_map.1 hx
    have := hws z hz
    have := decI_len (n := z) (by omega) (by omega); omega
  simp only [List.length_cons, List.length_map] at this
  omega
 have hline := line_ok t (by omega) reaN (by exact ⟨by decide, by decide⟩) (by decide) ([(0 : Int), (cell : Int), (ws.length : Int)]) hns (by simp)
 have hpar := fun (h : Heap) (w : Wf h) (hB : (lies base).holds h) => parse_run hK t (by omega) reaN ([(0 : Int), (cell : Int), (ws.length : Int)]) 3 3 false 28 hns (by simp) (by simp) (by simp) (by simp) (by omega) (by kernel_rfl) hline h w hB
 refine Sp.start (m := 4503738140592115) (n := 60) w (hK.none 7 rfl rfl _ _) Tryz.func7 rfl rfl mask7 rfl rfl ?_
 repeat' (first
  | refine ToX.a_ ?_
  | refine WCX.s_ ?_
  | (refine WCX.g_ (id := 0) ?_; (refine .cons (q hX rfl ?_)) <;> (refine .nil (.intro rfl ?_)))
  | (refine WCX.g_ (id := 1) ?_; (refine .cons (q hX rfl ?_)) <;> ((refine .cons (qbin rfl rfl rfl (dev_eql kd) rfl rfl ?_))) <;> (iterate 4 refine .cons (q hX rfl ?_)) <;> ((refine .cons (qldR hX rfl rfl rfl rfl (.of hd) hmade rfl rfl ?_))) <;> (iterate 2 refine .cons (q hX rfl ?_)) <;> (refine .nil (.intro rfl ?_)))
  | (refine WCX.g_ (id := 3) ?_; (refine .cons (q hX rfl ?_)) <;> ((refine .cons (qcall rfl rfl rfl rfl ca12 rfl rfl (fun h f => hpar h f.wf (f.ro (.of hB))) ?_)) <;> (rintro v C' ⟨lv, kn, rfl, rfl⟩)) <;> (iterate 12 refine .cons (q hX rfl ?_)) <;> (refine .nil (.intro rfl ?_)))
  | (refine WCX.g_ (id := 4) ?_; (iterate 2 refine .cons (q hX rfl ?_)) <;> (refine .nil (.intro rfl ?_)))
  | (refine WCX.g_ (id := 6) ?_; (refine .cons (q hX rfl ?_)) <;> ((refine .cons (qc rfl ?_ ?_)) <;> ((intro _; first | (exfalso; omega) | skip))) <;> (iterate 2 refine .cons (q hX rfl ?_)) <;> ((refine .cons (qc rfl ?_ ?_)) <;> ((intro _; first | (exfalso; omega) | skip))) <;> (refine .cons (q hX rfl ?_)) <;> (refine .nil (.intro rfl ?_)))
  | (refine WCX.g_ (id := 8) ?_; (iterate 4 refine .cons (q hX rfl ?_)) <;> ((refine .cons (qidxP (j := t) hX rfl rfl rfl rfl rfl ht rfl rfl ?_))) <;> (refine .cons (q hX rfl ?_)) <;> (refine .nil (.intro rfl ?_)))
  | (refine WCX.g_ (id := 9) ?_; (refine .cons (q hX rfl ?_)) <;> ((refine .cons (qb hX rfl ?_ ?_)) <;> (intro hbl; (first | (cases hbl; done) | skip))) <;> (iterate 7 refine .cons (q hX rfl ?_)) <;> (refine .nil (.intro rfl ?_)))
  | (refine WCX.g_ (id := 11) ?_; (iterate 5 refine .cons (q hX rfl ?_)) <;> ((refine .cons (qcallV rfl rfl rfl rfl ca28 rfl rfl (fun h f => read_run hK kd (Nat.add 0 (Nat.mul t 10)) kb kc size cell ws lv _ dev hs h1 h64 h2 hws hv hj h f.wf (f.ro (.of hB)) (f.ro (.of hd)) (f.ro (.of hb)) (ownS.rd (f.pick (a := ownS 21 1 (.slice kn 0 _ none) [nc 0, nc cell, nc ws.length]) .h)) (f.ro (.of hw))) ?_))) <;> (refine .cons (q hX rfl ?_)) <;> (refine .nil (.intro rfl ?_)))
  | refine WCX.r_ ?_
  | refine WCX.f_ rfl ?_
  | refine WCX.k_ ?_
  | refine ToX.r_ hX rfl ?_)
 exact fun h f => ⟨rfl, f.chg.picks .nil⟩
end Dr
end Go.HL
namespace Go.HL
open Go Go.Proofs
namespace Dr
set_option maxRecDepth 10000
variable {K : CallFn} {base : List (Nat × HObj)}
theorem joinT_snoc {l : List (List Nat)} (h : l ≠ []) (x : List Nat) : joinT (l ++ [x]) = joinT l ++ [32] ++ x := by
 cases l with
 | nil => exact absurd rfl h
 | cons a r => simp [joinT]
def sT (cell : Nat) (l : List Int) (i : Nat) : List Nat := joinT (wriN :: ((0 : Int) :: (cell : Int) :: l.take i).map decI)
def wT (l : List Int) (i : Nat) : List Nat := joinT (okW :: (l.take i).map decI)
theorem dec0 : decI 0 = [48] := by unfold decI; rw [if_neg (by omega)]; exact decB_small (by decide)
theorem sT_zero (cell : Nat) (l : List Int) : [119, 114, 105, 116, 101, 32, 48, 32] ++ decB cell = sT cell l 0 := by
 simp [sT, joinT, dec0, decI_nat]
theorem wT_zero (l : List Int) : wT l 0 = okW := by simp [wT, joinT]
theorem sT_succ (cell : Nat) {l : List Int} {i : Nat} (hi : i < l.length) : sT cell l i ++ [32] ++ decI (l.getD i 0) = sT cell l (i + 1) := by
 unfold sT
 rw [take_succ hi 0, ← joinT_snoc (by simp)]
 simp
theorem wT_succ {l : List Int} {i : Nat} (hi : i < l.length) : wT l i ++ [32] ++ decI (l.getD i 0) = wT l (i + 1) := by
 unfold wT
 rw [take_succ hi 0, ← joinT_snoc (by simp)]
 simp
theorem sT_len (cell : Nat) (hc : cell < 256) (l : List Int) (hl : l.length ≤ 64) (hn : ∀ x ∈ l, -2147483648 ≤ x ∧ x < 2147483648) (i : Nat) : (sT cell l i).length ≤ 2000 := by
 have := joinT_len (N := 20) (l := wriN :: ((0 : Int) :: (cell : Int) :: l.take i).map decI) fun x hx => by
  rcases List.mem_cons.1 hx with rfl | hx
  ·decide
  ·obtain ⟨z, hz, rfl⟩ := List.mem_map.1 hx
   have hz : -2147483648 ≤ z ∧ z < 2147483648 := by
    rcases List.mem_cons.1 hz with rfl | hz
    ·omega
    ·rcases List.mem_cons.1 hz with rfl | hz
     ·omega
     ·exact hn z (List.mem_of_mem_take hz)
   have := decI_len (n := z) (by omega) (by omega); omega
 simp only [List.length_cons, List.length_map, List.length_take] at this
 unfold sT
 omega
theorem wT_len (l : List Int) (hl : l.length ≤ 64) (hn : ∀ x ∈ l, -2147483648 ≤ x ∧ x < 2147483648) (i : Nat) : (wT l i).length ≤ 2000 := by
 have := joinT_len (N := 20) (l := okW :: (l.take i).map decI) fun x hx => by
  rcases List.mem_cons.1 hx with rfl | hx
  ·decide
  ·obtain ⟨z, hz, rfl⟩ := List.mem_map.1 hx
   have := hn z (List.mem_of_mem_take hz)
   have := decI_len (n := z) (by omega) (by omega); omega
 simp only [List.length_cons, List.length_map, List.length_take] at this
 unfold wT
 omega
abbrev bufS (size : Nat) : List Nat := [98, 117, 102, 102, 101, 114, 32] ++ decB size
abbrev reaS (cell n : Nat) : List Nat := [114, 101, 97, 100, 32, 48, 32] ++ decB cell ++ [32] ++ decB n
theorem line_buf (t size : Nat) : decB t ++ [32] ++ bufS size = joinT (decB t :: bufN :: [(size : Int)].map decI) := by
 simp [joinT, decI_nat]
theorem line_wri (t cell : Nat) (l : List Int) : decB t ++ [32] ++ sT cell l l.length = joinT (decB t :: wriN :: ((0 : Int) :: (cell : Int) :: l).map decI) := by
 unfold sT
 rw [List.take_length]
 simp [joinT]
theorem line_rea (t cell n : Nat) : decB t ++ [32] ++ reaS cell n = joinT (decB t :: reaN :: [(0 : Int), (cell : Int), (n : Int)].map decI) := by
 simp [joinT, decI_nat, dec0]
theorem ok0 : joinT [okW, decI 0] = [111, 107, 32, 48] := by rw [dec0]; rfl
theorem str_eql (s : List Nat) : ∀ lit, binC P .eql 9 lit (strB s) (strB s) = some (.bool true) := fun lit => by
 show strOp .eql s.length (codeN s 0) s.length (codeN s 0) = _
 simp [strOp, sEq]
def devB (t kb : Nat) : List HVal := (devA 3).set (plB t) (.slice kb 0 1 none)
theorem dev_made (t kb : Nat) (ht : t < 3) : nth (devB t kb) 30 = some (.bool true) := by
 obtain rfl | rfl | rfl : t = 0 ∨ t = 1 ∨ t = 2 := by omega
 all_goals rfl
theorem dev_run0 (t : Nat) (ht : t < 3) : nth (devA 3) (Nat.add (Nat.add 0 (Nat.mul t 10)) 9) = some .nilp := by
 obtain rfl | rfl | rfl : t = 0 ∨ t = 1 ∨ t = 2 := by omega
 all_goals rfl
theorem dev_run (t kb : Nat) (ht : t < 3) : nth (devB t kb) (Nat.add (Nat.add 0 (Nat.mul t 10)) 9) = some .nilp := by
 obtain rfl | rfl | rfl : t = 0 ∨ t = 1 ∨ t = 2 := by omega
 all_goals rfl
theorem dev_buf0 (t : Nat) (ht : t < 3) : nth (devA 3) (plB t) = some .nils := by
 obtain rfl | rfl | rfl : t = 0 ∨ t = 1 ∨ t = 2 := by omega
 all_goals rfl
theorem dev_buf (t kb : Nat) (ht : t < 3) : nth (devB t kb) (plB t) = some (.slice kb 0 1 none) := by
 obtain rfl | rfl | rfl : t = 0 ∨ t = 1 ∨ t = 2 := by omega
 all_goals rfl
theorem dev_ov (t kb : Nat) (ht : t < 3) : overK (devA 3) (plB t) [.slice kb 0 1 none] some = some (devB t kb) := by
 obtain rfl | rfl | rfl : t = 0 ∨ t = 1 ∨ t = 2 := by omega
 all_goals rfl
def lcW (size cell : Nat) (l : List Int) : List HVal := (repl size [.int .i32 0]).take cell ++ (l.map nc).flatten ++ (repl size [.int .i32 0]).drop (cell + l.length)
theorem nc_len (l : List Int) : (l.map nc).flatten.length = l.length := by rw [flatten_len (nc_one l), List.length_map, Nat.mul_one]
theorem lcW_ov (size cell : Nat) (l : List Int) (h : cell + l.length ≤ size) : overK (repl size [.int .i32 0]) cell (l.map nc).flatten some = some (lcW size cell l) := by
 rw [overK_eq, if_pos (.inr (by rw [nc_len, repl_length, List.length_singleton]; omega)), nc_len]; rfl
theorem lcW_len (size cell : Nat) (l : List Int) (h : cell + l.length ≤ size) : (lcW size cell l).length = size := by
 unfold lcW
 rw [List.length_append, List.length_append, nc_len, List.length_take, List.length_drop, repl_length, List.length_singleton]
 omega
theorem lcW_at (size cell : Nat) (l : List Int) (h : cell + l.length ≤ size) : ((lcW size cell l).drop cell).take (l.length * 1) = (l.map nc).flatten := by
 have h1 : ((repl size [HVal.int .i32 0]).take cell).length = cell := by rw [List.length_take, repl_length, List.length_singleton]; omega
 unfold lcW
 rw [List.append_assoc, Nat.mul_one, List.drop_append_of_le_length (by omega), List.drop_eq_nil_of_le (by omega), List.nil_append, List.take_append_of_le_length (by rw [nc_len]; omega), List.take_of_length_le (by rw [nc_len]; omega)]
theorem i64_u8 {n : Nat} (h : n < 256) : wrapF .i64 (n : Int) = (n : Int) := wrapF_i64_nat (by omega)
theorem law_run (hK : KD base K) (v : HVal) (l : List Int) (cell size n : Nat) (hl : l.length ≤ 1152921504606846976) (hn : ∀ x ∈ l, -2147483648 ≤ x ∧ x < 2147483648) (hc : cell < 256) (hs : size < 256) (hm : n < 256) (h : Heap) (w : Wf h) (hB : (lies base).holds h) (hr : (rd v 1 (l.map nc)).holds h) : Sp P K 3 [v, .int .u8 cell, .int .u8 size, .int .u8 n] h (Val (.bool true) h) := by
 have hlen : lenV v = some l.length := by have := hr.slice.len; rwa [List.length_map] at this
 have haw := fun (h : Heap) (w : Wf h) (hB : (lies base).holds h) => (Sp.known (hK.awake h hB) ⟨rfl, Chg.refl w⟩ : Sp P K 4 [] h (Val (.bool true) h))
 have hb := decB_len2 11 cell (by decide) (by omega)
 have hb2 := decB_len2 11 size (by decide) (by omega)
 refine Sp.start (m := 2417851639246867715342095) (n := 100) w (hK.none 3 rfl rfl _ _) Tryz.func3 rfl rfl mask3 rfl rfl ?_
 repeat' (first
  | refine ToX.a_ ?_
  | refine WCX.s_ ?_
  | (refine WCX.g_ (id := 0) ?_; (refine .cons (q hX rfl ?_)) <;> (refine .nil (.intro rfl ?_)))
  | (refine WCX.g_ (id := 1) ?_; (refine .cons (q hX rfl ?_)) <;> ((refine .cons (qw (b := (n : Int)) hX rfl rfl rfl rfl (i64_u8 hm) rfl rfl ?_))) <;> ((refine .cons (qn rfl rfl rfl (bin_rem (b := 3) (by decide)) rfl rfl ?_))) <;> (refine .cons (q hX rfl ?_)) <;> (refine .nil (.intro rfl ?_)))
  | (refine WCX.g_ (id := 2) ?_; (refine .cons (q hX rfl ?_)) <;> ((refine .cons (ql hX rfl rfl rfl rfl rfl rfl (by assumption) rfl rfl ?_))) <;> ((refine .cons (qc rfl ?_ ?_)) <;> intro _) <;> (iterate 2 refine .cons (q hX rfl ?_)) <;> (first | (refine .cons (q hX rfl ?_)) | (refine .cons (ql hX rfl rfl rfl rfl rfl rfl (by assumption) rfl rfl ?_))) <;> (first | (refine .cons (q hX rfl ?_)) | (refine .cons (qc rfl ?_ ?_)) <;> intro _) <;> (iterate 3 refine .cons (q hX rfl ?_)) <;> (first | (refine .cons (q hX rfl ?_)) | (refine .cons (qw (b := (size : Int)) hX rfl rfl rfl rfl (i64_u8 hs) rfl rfl ?_))) <;> (refine .cons (q hX rfl ?_)) <;> (first | (refine .cons (q hX rfl ?_)) | (refine .cons (qw (b := (cell : Int)) hX rfl rfl rfl rfl (i64_u8 hc) rfl rfl ?_))) <;> (refine .cons (q hX rfl ?_)) <;> (first | (refine .cons (q hX rfl ?_)) | (refine .cons (ql hX rfl rfl rfl rfl rfl rfl (by assumption) rfl rfl ?_))) <;> (first | (refine .cons (q hX rfl ?_)) | (refine .cons (qa (d := ((cell + l.length : Nat) : Int)) rfl rfl rfl rfl rfl (by rw [wI (by omega) (by omega)]; omega) rfl rfl ?_))) <;> (first | (refine .cons (q hX rfl ?_)) | (refine .cons (qc rfl ?_ ?_)) <;> intro _) <;> (refine .cons (q hX rfl ?_)) <;> (refine .nil (.intro rfl ?_)))
  | (refine WCX.g_ (id := 3) ?_; ((refine .cons (qcallV rfl rfl rfl rfl ca4 rfl rfl (fun h f => haw h f.wf (f.ro (.of hB))) ?_))) <;> (refine .cons (q hX rfl ?_)) <;> (refine .nil (.intro rfl ?_)))
  | refine WCX.r_ ?_
  | refine ToX.d_ ?_
  | refine WCX.t_ rfl ?_
  | refine WCX.f_ rfl ?_
  | refine WCX.k_ ?_
  | refine ToX.r_ hX rfl ?_)
 all_goals try exact fun h f => ⟨rfl, f.chg⟩
 obtain ⟨t, et⟩ : ∃ t, n % 3 = t := ⟨_, rfl⟩
 have ht : t < 3 := by omega
 rw [et]
 have h64 : l.length ≤ 64 := by omega
 have h1 : 1 ≤ l.length := by omega
 have h2 : cell + l.length ≤ size := by omega
 have hsl := sT_len cell hc l h64 hn
 have hwl := wT_len l h64 hn
 have hbn := decB_len2 11 l.length (by decide) (by omega)
 have hT1 : ∀ (h : Heap) (w : Wf h), Sp P K 8 [i64 t, strB (bufS size)] h (Val (strB (joinT (decB t :: bufN :: [(size : Int)].map decI))) h) := fun h w => by rw [← line_buf]; exact tenant_run hK t (by omega) _ (by simp; omega) h w
 have hT2 : ∀ (h : Heap) (w : Wf h), Sp P K 8 [i64 t, strB (sT cell l l.length)] h (Val (strB (joinT (decB t :: wriN :: ((0 : Int) :: (cell : Int) :: l).map decI))) h) := fun h w => by rw [← line_wri]; exact tenant_run hK t (by omega) _ (by have := hsl l.length; omega) h w
 have hT3 : ∀ (h : Heap) (w : Wf h), Sp P K 8 [i64 t, strB (reaS cell l.length)] h (Val (strB (joinT (decB t :: reaN :: [(0 : Int), (cell : Int), (l.length : Int)].map decI))) h) := fun h w => by rw [← line_rea]; exact tenant_run hK t (by omega) _ (by simp; omega) h w
 have hD1 := fun (kd : Nat) (h : Heap) (w : Wf h) (hg : (pts kd (devA 3) 45 false).holds h) (hB : Ro [pts kd (devA 3) 45 false] h (lies base)) => do_buffer hK t ht kd size (devA 3) (devB t) (by omega) (by omega) rfl (dev_run0 t ht) (dev_buf0 t ht) (fun kb => dev_ov t kb ht) (fun kb => dev_buf t kb ht) h w hg hB
 rw [ok0] at hD1
 have hwe : joinT (okW :: l.map decI) = wT l l.length := by unfold wT; rw [List.take_length]
 repeat' (first
  | refine ToX.a_ ?_
  | refine WCX.s_ ?_
  | (refine WCX.g_ (id := 4) ?_; ((refine .cons (qcall rfl rfl rfl rfl ca5 rfl rfl (fun h f => new_run hK h f.wf) ?_)) <;> (rintro v C' ⟨kd, rfl, rfl⟩)) <;> (refine .cons (q hX rfl ?_)) <;> (refine .nil (.intro rfl ?_)))
  | (refine WCX.g_ (id := 5) ?_; (refine .cons (q hX rfl ?_)) <;> ((refine .cons (qw (b := (cell : Int)) hX rfl rfl rfl rfl (i64_u8 hc) rfl rfl ?_))) <;> ((refine .cons (qcallV rfl rfl rfl rfl ca6 rfl rfl (fun h f => text_run hK cell (by omega) h f.wf) ?_))) <;> ((refine .cons (qcat (a := [119, 114, 105, 116, 101, 32, 48, 32]) rfl rfl rfl (by simp only [List.length_cons, List.length_nil]; omega) rfl rfl ?_))) <;> (iterate 2 refine .cons (q hX rfl ?_)) <;> (refine .nil (.intro rfl ?_)))
  | (refine WCX.g_ (id := 6) ?_; (refine .cons (q hX rfl ?_)) <;> (refine .nil (.intro rfl ?_)))
  | refine WCX.b_ ?_)
 rw [sT_zero cell l]
 have ew : strB okW = strB (wT l 0) := by rw [wT_zero]
 refine WCX.loop (ι := Nat) (fun a => [(13, .ext (i64 a)), (12, .ext (strB (wT l a))), (11, .ext (strB (sT cell l a))), (10, .ext (.ptr kd 0)), (9, .ext (i64 t)), (8, .ext (.bool false)), (0, .ext v), (1, .ext (.int .u8 cell)), (2, .ext (.int .u8 size))]) (fun _ => []) (fun _ => [pts kd (devA 3) 45 false]) (fun a => a ≤ l.length) (fun a => l.length - a) 0 ⟨⟨rfl, by rw [← ew]; rfl, rfl, rfl, rfl, rfl, rfl, rfl, rfl, trivial⟩, ⟨_, rfl⟩, ⟨_, .cons .h .nil⟩⟩ (Nat.zero_le _) (fun _ => rfl) (fun _ => rfl) (fun _ => rfl) ?_
 rintro i hi next
 repeat' (first
  | refine ToX.a_ ?_
  | refine WCX.s_ ?_
  | (refine WCX.g_ (id := 7) ?_; (iterate 2 refine .cons (q hX rfl ?_)) <;> ((refine .cons (ql hX rfl rfl rfl rfl rfl rfl (by assumption) rfl rfl ?_))) <;> ((refine .cons (qc rfl ?_ ?_)) <;> intro _) <;> (refine .nil (.intro rfl ?_)))
  | refine WCX.t_ rfl ?_
  | refine WCX.f_ rfl ?_
  | refine WCX.k_ ?_
  | refine WCX.b_ ?_
  | refine WCX.e_ ?_
  | refine ToX.e_ ?_
  | refine ToX.c_ ?_)
 ·have hil : i < l.length := by omega
  have hni := hn _ (getD_mem 0 hil)
  have es := sT_succ cell hil
  have ew := wT_succ hil
  obtain ⟨x, hx⟩ : ∃ x, l.getD i 0 = x := ⟨_, rfl⟩
  rw [hx] at hni es ew
  have hrow : (l.map nc)[i]? = some [.int .i32 x] := by
   rw [← hx]; exact row_i (g := nc) 0 hil
  have hdx := decI_len (n := x) (by omega) (by omega)
  have hsi := hsl i
  have hwi := hwl i
  repeat' (first
   | refine ToX.a_ ?_
   | (refine WCX.g_ (id := 9) ?_; (refine .cons (q hX rfl ?_)) <;> ((refine .cons (qcat (b := [32]) rfl rfl rfl (by simp only [List.length_singleton]; omega) rfl rfl ?_))) <;> (iterate 2 refine .cons (q hX rfl ?_)) <;> ((refine .cons (qidx hX rfl rfl rfl rfl rfl (.of hr) hrow rfl rfl rfl ?_))) <;> (refine .cons (q hX rfl ?_)) <;> ((refine .cons (qw (b := x) hX rfl rfl rfl rfl (wI (by omega) (by omega)) rfl rfl ?_))) <;> ((refine .cons (qcallV rfl rfl rfl rfl ca6 rfl rfl (fun h f => textI_run hK x (by omega) (by omega) h f.wf) ?_))) <;> ((refine .cons (qcat rfl rfl rfl (by simp only [List.length_append, List.length_singleton]; omega) rfl rfl ?_))) <;> (refine .cons (q hX rfl ?_)) <;> (refine .nil (.intro rfl ?_)))
   | (refine WCX.g_ (id := 10) ?_; (refine .cons (q hX rfl ?_)) <;> ((refine .cons (qcat (b := [32]) rfl rfl rfl (by simp only [List.length_singleton]; omega) rfl rfl ?_))) <;> (iterate 2 refine .cons (q hX rfl ?_)) <;> ((refine .cons (qidx hX rfl rfl rfl rfl rfl (.of hr) hrow rfl rfl rfl ?_))) <;> (refine .cons (q hX rfl ?_)) <;> ((refine .cons (qw (b := x) hX rfl rfl rfl rfl (wI (by omega) (by omega)) rfl rfl ?_))) <;> ((refine .cons (qcallV rfl rfl rfl rfl ca6 rfl rfl (fun h f => textI_run hK x (by omega) (by omega) h f.wf) ?_))) <;> ((refine .cons (qcat rfl rfl rfl (by simp only [List.length_append, List.length_singleton]; omega) rfl rfl ?_))) <;> (refine .cons (q hX rfl ?_)) <;> (refine .nil (.intro rfl ?_)))
   | (refine WCX.g_ (id := 8) ?_; (refine .cons (q hX rfl ?_)) <;> ((refine .cons (qa rfl rfl rfl rfl rfl (wI (by first | omega | (simp only [Int.ofNat_eq_natCast]; omega)) (by first | omega | (simp only [Int.ofNat_eq_natCast]; omega))) rfl rfl ?_))) <;> (refine .cons (q hX rfl ?_)) <;> (refine .nil (.intro rfl ?_)))
   | refine ToX.b_ ?_)
  exact next (i + 1) _ _ _ (by omega) ⟨⟨rfl, by rw [← ew]; rfl, by rw [← es]; rfl, rfl, rfl, rfl, rfl, rfl, rfl, trivial⟩, ⟨_, rfl⟩, ⟨_, .cons .h .nil⟩⟩ (by omega)
 ·have hin : i = l.length := by omega
  subst hin
  repeat' (first
   | refine ToX.a_ ?_
   | refine WCX.s_ ?_
   | (refine WCX.g_ (id := 11) ?_; (iterate 3 refine .cons (q hX rfl ?_)) <;> ((refine .cons (qw (b := (size : Int)) hX rfl rfl rfl rfl (i64_u8 hs) rfl rfl ?_))) <;> ((refine .cons (qcallV rfl rfl rfl rfl ca6 rfl rfl (fun h f => text_run hK size (by omega) h f.wf) ?_))) <;> ((refine .cons (qcat (a := [98, 117, 102, 102, 101, 114, 32]) rfl rfl rfl (by simp only [List.length_cons, List.length_nil]; omega) rfl rfl ?_))) <;> ((refine .cons (qcallV rfl rfl rfl rfl ca8 rfl rfl (fun h f => hT1 h f.wf) ?_))) <;> ((refine .cons (qcallG rfl rfl rfl rfl ca7 rfl rfl (by repeat (first | exact .h | apply Pick.t)) rfl (fun h f hg ro rg => hD1 kd h f.wf hg (ro _ (.of hB))) ?_)) <;> (rintro v C' ⟨kb, kc, rfl, rfl⟩)) <;> ((refine .cons (qc rfl ?_ ?_)) <;> intro _) <;> (iterate 4 refine .cons (q hX rfl ?_)) <;> (first | (refine .cons (q hX rfl ?_)) | (refine .cons (qcallV rfl rfl rfl rfl ca8 rfl rfl (fun h f => hT2 h f.wf) ?_))) <;> (first | (refine .cons (q hX rfl ?_)) | (refine .cons (qcallG rfl rfl rfl rfl ca7 rfl rfl (by repeat (first | exact .h | apply Pick.t)) rfl (fun h f hg ro rg => do_write hK t ht kd kb kc size cell l (devB t kb) (repl size [.int .i32 0]) (lcW size cell l) (by omega) h1 h64 h2 hn (dev_made t kb ht) (dev_run t kb ht) (dev_buf t kb ht) (lcW_ov size cell l h2) h f.wf hg (rg _ (by simp)) (rg (ownS 22 1 (.slice kb 0 1 none) [[.slice kc 0 size (some size)]]) (by simp)).ownRd (ro _ (.of hB))) ?_)) <;> (rintro v C' ⟨rfl, rfl⟩)) <;> (first | (refine .cons (q hX rfl ?_)) | (refine .cons (qc rfl ?_ ?_)) <;> intro _) <;> (refine .cons (q hX rfl ?_)) <;> (refine .nil (.intro rfl ?_)))
   | (refine WCX.g_ (id := 12) ?_; (refine .cons (q hX rfl ?_)) <;> (refine .nil (.intro rfl ?_)))
   | (refine WCX.g_ (id := 13) ?_; (iterate 3 refine .cons (q hX rfl ?_)) <;> ((refine .cons (qw (b := (cell : Int)) hX rfl rfl rfl rfl (i64_u8 hc) rfl rfl ?_))) <;> ((refine .cons (qcallV rfl rfl rfl rfl ca6 rfl rfl (fun h f => text_run hK cell (by omega) h f.wf) ?_))) <;> ((refine .cons (qcat (a := [114, 101, 97, 100, 32, 48, 32]) rfl rfl rfl (by simp only [List.length_cons, List.length_nil]; omega) rfl rfl ?_))) <;> ((refine .cons (qcat (b := [32]) rfl rfl rfl (by simp only [List.length_append, List.length_cons, List.length_nil]; omega) rfl rfl ?_))) <;> (refine .cons (q hX rfl ?_)) <;> ((refine .cons (ql hX rfl rfl rfl rfl rfl rfl (by assumption) rfl rfl ?_))) <;> ((refine .cons (qcallV rfl rfl rfl rfl ca6 rfl rfl (fun h f => text_run hK l.length (by omega) h f.wf) ?_))) <;> ((refine .cons (qcat rfl rfl rfl (by simp only [List.length_append, List.length_cons, List.length_nil]; omega) rfl rfl ?_))) <;> ((refine .cons (qcallV rfl rfl rfl rfl ca8 rfl rfl (fun h f => hT3 h f.wf) ?_))) <;> ((refine .cons (qcallV rfl rfl rfl rfl ca7 rfl rfl (fun h f => do_read hK t ht kd kb kc size cell l (devB t kb) (by omega) h1 h64 h2 hn (dev_made t kb ht) (dev_run t kb ht) (dev_buf t kb ht) h f.wf (f.ro (.of hB)) (f.pick (by repeat (first | exact .h | apply Pick.t))) (ownS.rd (f.pick (a := ownS 22 1 (.slice kb 0 1 none) [[.slice kc 0 size (some size)]]) (by repeat (first | exact .h | apply Pick.t)))) (pts.rd (f.pick (a := pts kc (lcW size cell l) 21 false) (by repeat (first | exact .h | apply Pick.t))) (by rw [List.length_map]) (nc_one l) (lcW_at size cell l h2) (by rw [lcW_len size cell l h2]; omega))) ?_))) <;> (refine .cons (q hX rfl ?_)) <;> ((refine .cons (qbin rfl rfl rfl (by rw [hwe]; exact str_eql _) rfl rfl ?_))) <;> (refine .cons (q hX rfl ?_)) <;> ((refine .cons (qcallV rfl rfl rfl rfl ca4 rfl rfl (fun h f => haw h f.wf (f.ro (.of hB))) ?_))) <;> (iterate 2 refine .cons (q hX rfl ?_)) <;> (refine .nil (.intro rfl ?_)))
   | refine WCX.r_ ?_
   | refine ToX.d_ ?_
   | refine WCX.t_ rfl ?_
   | refine WCX.f_ rfl ?_
   | refine WCX.k_ ?_
   | refine ToX.r_ hX rfl ?_)
  ·rename_i e
   exact absurd ⟨rfl, rfl⟩ e
  ·rename_i e
   exact absurd ⟨rfl, rfl⟩ e
  ·exact fun h f => ⟨rfl, f.chg.picks .nil⟩
end Dr
end Go.HL
