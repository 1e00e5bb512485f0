/- The walk of the function, and the contract that it gives. No statement of the seat stands here. -/
import Derived.Test.YtngeipnhbigdmaaGreatDoorVZ
import Derived.Test.YtngeipnhbigdmaaGreatDoorAC
import Derived.Test.YtngeipnhbigdmaaGreatDoorRows
import Derived.WalkKit
import Derived.ProofKit
import Derived.OpenShut
import Derived.Below
import Derived.Lay
import Derived.ReadAgain
import Derived.Deep.DeepHandedRow
import Derived.Deep.DeepWitnessRowRef
import Derived.Lib.LaidTab
set_option linter.unusedVariables false
set_option linter.unusedSimpArgs false
namespace Go.Proofs.YtngeipnhbigdmaaGreatDoor.emitBack
open Go.ChangeShapes Go.WideShapes Go.ChangeAt Go.RowKit Go.HL Go.HL.Em Go.HL.Ev

theorem own : ownKnob Tryz.prog.godebug = none := by kernel_rfl
theorem gA : Tryz.prog.globalNamed "strings.asciiSpace" = some 0 := by kernel_rfl
theorem gAType : (Tryz.prog.globals[0]?).map (·.type) = some 401 := by kernel_rfl
theorem cells401 : Tryz.prog.cellsOf 401 = 256 := by kernel_rfl
theorem cells5 : Tryz.prog.cellsOf 5 = 1 := by kernel_rfl
theorem zero10 : (((begin Tryz.prog (fun _ _ => 0) default).world.heap[10]?).bind Obj.row?).isSome = true := by kernel_rfl
theorem laidOut : laidOutB Tryz.prog = true := by kernel_rfl
theorem rowed : mapsRowed Tryz.prog = true := by kernel_rfl
theorem full : ((List.range Tryz.prog.types.size).all fun t => match Tryz.prog.underlying t with | some (.slice e) => decide (0 < Tryz.prog.cellsOf e) | _ => true) = true := by kernel_rfl
theorem in26 : decide (26 < Tryz.prog.types.size) = true := by kernel_rfl
theorem in3 : decide (3 < Tryz.prog.types.size) = true := by kernel_rfl
theorem in42 : decide (42 < Tryz.prog.types.size) = true := by kernel_rfl
def asciiZ : List Int := Me.map Int.ofNat
theorem u8s_eq : ∀ l : List Nat, Of l = l.map fun n => aa.int .u8 (.ofNat n)
  | [] => rfl
  | _ :: l => by rw [Of, u8s_eq l]; rfl

theorem laid_eq : (Rows.laid_strings_asciiSpace : DataW Unit) = Lib.tabData .u8 asciiZ := by kernel_rfl
/-- WHAT THE ROW's LIST GIVES: the cells of the table of blanks. -/
theorem table {W : World} (h : laidMetH Tryz.prog Rows.emitBackRow.laid W) : W.var? Tryz.prog "strings.asciiSpace" = some (asciiZ.map fun z => Value.int .u8 z).toArray := by
  have h0 : laidMet Tryz.prog Rows.emitBackRow.laid W := h
  obtain ⟨ps, hv, _⟩ := h0
  obtain ⟨g', t', cs, fuel, p, q, hg', ht', hvar, hd, _, _⟩ := hv
  obtain rfl := Option.some.inj (gA.symm.trans hg')
  obtain rfl := Option.some.inj (gAType.symm.trans ht')
  have hd2 : DataW.trod (fun _ => ()) Tryz.prog W 0 (fun _ => true) false fuel 401 cs.toList = some (Lib.tabData .u8 asciiZ, p) := by rw [← laid_eq]; exact hd
  rw [hvar, ← Lib.cells_of_tab Tryz.underlying401 Tryz.underlying5 cells5 cells401 hd2]

theorem gP : Tryz.prog.globalNamed "internal/strconv.uint64pow10" = some 4 := by kernel_rfl
theorem gPType : (Tryz.prog.globals[4]?).map (·.type) = some 449 := by kernel_rfl
theorem cells449 : Tryz.prog.cellsOf 449 = 20 := by kernel_rfl
theorem cells196 : Tryz.prog.cellsOf 196 = 1 := by kernel_rfl
theorem laid_eq2 : (Rows.laid_internal_strconv_uint64pow10 : DataW Unit) = Lib.tabData .u64 Lib.pow10Tab := by kernel_rfl
/-- .. and of the powers of ten. -/
theorem table2 {W : World} (h : laidMetH Tryz.prog Rows.emitBackRow.laid W) : W.var? Tryz.prog "internal/strconv.uint64pow10" = some (Lib.pow10Tab.map fun z => Value.int .u64 z).toArray := by
  have h0 : laidMet Tryz.prog Rows.emitBackRow.laid W := h
  obtain ⟨ps, hv, _⟩ := h0
  obtain ⟨_, _, _, _, _, q1, _, _, _, _, hv1, _⟩ := hv
  obtain ⟨_, _, _, _, _, q2, _, _, _, _, hv2, _⟩ := hv1
  obtain ⟨g', t', cs, fuel, p, q, hg', ht', hvar, hd, _, _⟩ := hv2
  obtain rfl := Option.some.inj (gP.symm.trans hg')
  obtain rfl := Option.some.inj (gPType.symm.trans ht')
  have hd2 : DataW.trod (fun _ => ()) Tryz.prog W 0 (fun _ => true) false fuel 449 cs.toList = some (Lib.tabData .u64 Lib.pow10Tab, p) := by rw [← laid_eq2]; exact hd
  rw [hvar, ← Lib.cells_of_tab Tryz.underlying449 Tryz.underlying196 cells196 cells449 hd2]

theorem gL : ((begin Tryz.prog (fun _ _ => 0) default).world.heap[1]?).bind Obj.row? = some (#[.int .i64 0], 3) := by kernel_rfl
theorem gS : Tryz.prog.globalNamed "strconv.ErrSyntax" = some 2 := by kernel_rfl
theorem gSType : (Tryz.prog.globals[2]?).map (·.type) = some 144 := by kernel_rfl
theorem gR : Tryz.prog.globalNamed "strconv.ErrRange" = some 3 := by kernel_rfl
theorem gRType : (Tryz.prog.globals[3]?).map (·.type) = some 144 := by kernel_rfl
theorem build3 : Tryz.prog.buildable 3 = true := by kernel_rfl
theorem cellT3 : Tryz.prog.cellTypes Tryz.prog.depth 3 = some [3] := by kernel_rfl
theorem int_row {P : Program} {W : World} {t : TypeId} (ht : P.underlying t = some (.int .i64)) {cs : Array Value} (hs : cs.size = 1) (hc : P.cellTypes P.depth t = some [t]) (h : Row.ok P W .any 0 t cs) : ∃ n, cs = #[.int .i64 n] ∧ -9223372036854775808 ≤ n ∧ n ≤ 9223372036854775807 := by
  obtain ⟨ts, e, _, hx⟩ := h
  rw [hc] at e
  cases e
  obtain ⟨v, rfl⟩ : ∃ v, cs = #[v] := by
    obtain ⟨l⟩ := cs
    match l, hs with
    | [v], _ => exact ⟨v, rfl⟩
  obtain ⟨u, hu, ho⟩ := hx 0 v rfl
  simp at hu
  subst hu
  unfold Cell.ok at ho
  rw [ht] at ho
  cases v <;> simp at ho
  obtain ⟨rfl, h1, h2⟩ := ho
  exact ⟨_, rfl, h1, h2⟩
theorem iface_inv {H : Type} {enc : TypeId × Value → H} {P : Program} {W : World} {b : Nat} {sp : Nat → Bool} {hd : Bool} {fuel : Nat} {t : TypeId} {cs : List Value} {n : String} {d : DataW H} {p : List MemPlace} {m} (ht : P.underlying t = some (.interface m))
    (h : DataW.trod enc P W b sp hd fuel t cs = some (.iface n d, p)) : ∃ u v, cs = [.iface u v] := by
  cases fuel with
  | zero => cases h
  | succ fuel =>
    unfold DataW.trod at h
    rw [ht] at h
    simp only at h
    split at h
    all_goals first
      | exact ⟨_, _, rfl⟩
      | (rename_i e _; cases e; done)
      | (rename_i e; cases e; done)
      | (cases h; done)
/-- the greatest length: some number -/
theorem len_cell {W : World} (hS : W.ShapedOpen Tryz.prog) : ∃ n e fr, W.heap[1]? = some (.cells #[.int .i64 n] e fr) ∧ -9223372036854775808 ≤ n ∧ n ≤ 9223372036854775807 := by
  obtain ⟨cs, hh, hz, hb⟩ := hS.1 1 _ _ (by rw [tO]; omega) gL
  obtain ⟨n, rfl, h1, h2⟩ := int_row Tryz.underlying3 hz cellT3 (hb build3)
  exact ⟨n, _, _, hh, h1, h2⟩
theorem var_cells {W : World} {name : String} {g : Nat} {cs : Array Value} (hg : Tryz.prog.globalNamed name = some g) (hv : W.var? Tryz.prog name = some cs) : ∃ e fr, W.heap[g]? = some (.cells cs e fr) := by
  unfold World.var? at hv
  rw [hg] at hv
  simp only [Option.bind_some] at hv
  split at hv
  · rename_i cs' e fr hw
    cases hv
    exact ⟨e, fr, hw⟩
  · cases hv
/-- .. and of the two errors: values of some type. -/
theorem errs {W : World} (h : laidMetH Tryz.prog Rows.emitBackRow.laid W) : (∃ t u e fr, W.heap[2]? = some (.cells #[.iface t u] e fr)) ∧ ∃ t u e fr, W.heap[3]? = some (.cells #[.iface t u] e fr) := by
  have h0 : laidMet Tryz.prog Rows.emitBackRow.laid W := h
  obtain ⟨ps, hv, _⟩ := h0
  obtain ⟨_, _, _, _, _, q1, _, _, _, _, hv, _⟩ := hv
  obtain ⟨_, _, _, _, _, q2, _, _, _, _, hv, _⟩ := hv
  obtain ⟨_, _, _, _, _, q3, _, _, _, _, hv, _⟩ := hv
  obtain ⟨_, _, _, _, _, q4, _, _, _, _, hv, _⟩ := hv
  obtain ⟨_, _, _, _, _, q5, _, _, _, _, hv, _⟩ := hv
  obtain ⟨_, _, _, _, _, q6, _, _, _, _, hv, _⟩ := hv
  obtain ⟨_, _, _, _, _, q7, _, _, _, _, hv, _⟩ := hv
  obtain ⟨g1, t1, c1, f1, p1, q8, hg1, ht1, hv1, hd1, hv, _⟩ := hv
  obtain ⟨g2, t2, c2, f2, p2, q9, hg2, ht2, hv2, hd2, hv, _⟩ := hv
  obtain rfl := Option.some.inj (gS.symm.trans hg1)
  obtain rfl := Option.some.inj (gSType.symm.trans ht1)
  obtain rfl := Option.some.inj (gR.symm.trans hg2)
  obtain rfl := Option.some.inj (gRType.symm.trans ht2)
  obtain ⟨u1, w1, e1⟩ := iface_inv Tryz.underlying144 hd1
  obtain ⟨u2, w2, e2⟩ := iface_inv Tryz.underlying144 hd2
  obtain ⟨k1, r1, x1⟩ := var_cells gS hv1
  obtain ⟨k2, r2, x2⟩ := var_cells gR hv2
  have y1 : c1 = #[.iface u1 w1] := by rw [← e1]
  have y2 : c2 = #[.iface u2 w2] := by rw [← e2]
  subst y1 y2
  exact ⟨⟨_, _, _, _, x1⟩, _, _, _, _, x2⟩

/-- A package-level variable's key stands for its block. -/
def places : aj := fun k => if k < 11 then some ⟨k, 0, 0, 0⟩ else none
section
variable {t2 t3 : Nat}
noncomputable def heap0 (t2 t3 : Nat) : Heap := ⟨11, ir .leaf (Ev.base t2 t3)⟩
theorem heap0_get (k : Nat) : (heap0 t2 t3).get k = if k = 0 then some fA else if k = 1 then some DU else if k = 2 then some (uF t2) else if k = 3 then some (uF t3) else if k = 4 then some xN else none := by
  show (ir .leaf (Ev.base t2 t3)).get k = _
  rw [kH]
  simp only [Ev.base, dy]
  split
  · rfl
  split
  · rfl
  split
  · rfl
  split
  · rfl
  split <;> rfl
theorem vrels_ints (σ : aj) (k : IntKind) : ∀ l : List Int, ao σ (l.map fun z => aa.int k z) (l.map fun z => Value.int k z)
  | [] => ao.nil
  | _ :: l => ao.cons rfl (vrels_ints σ k l)
theorem tab0_eq : fA = .cells (asciiZ.map fun z => aa.int .u8 z) 0 false false := by
  unfold fA asciiZ
  rw [u8s_eq, List.map_map]; rfl
theorem pow_eq : xN = .cells (Lib.pow10Tab.map fun z => aa.int .u64 z) 0 false false := by
  unfold xN KS Lib.pow10Tab
  rw [List.map_map]; rfl
theorem orel_tab {W : World} {name : String} {g : Nat} {zs : List Int} {k : IntKind} (hg : Tryz.prog.globalNamed name = some g) (hv : W.var? Tryz.prog name = some (zs.map fun z => Value.int k z).toArray) : lu Tryz.prog places ⟨g, 0, 0, 0⟩ (.cells (zs.map fun z => aa.int k z) 0 false false) W.heap[g]? := by
  unfold World.var? at hv
  rw [hg] at hv
  simp only [Option.bind_some] at hv
  split at hv
  · rename_i cs e fr hw
    obtain rfl := Option.some.inj hv
    refine ⟨_, e, fr, hw, ?_, fun x hx => ?_, fun h => absurd rfl h, (fun h => by cases h), fun _ => ⟨rfl, by simp⟩, (fun h => by cases h), .inl rfl⟩
    · have e1 : (List.drop 0 (zs.map fun z => Value.int k z)).take (zs.map fun z => aa.int k z).length = zs.map fun z => Value.int k z := by
        rw [List.drop_zero, List.take_of_length_le (by simp)]
      show ao places _ ((List.drop 0 (zs.map fun z => Value.int k z)).take (zs.map fun z => aa.int k z).length)
      rw [e1]
      exact vrels_ints places k zs
    · obtain ⟨z, _, rfl⟩ := List.mem_map.1 hx
      rfl
  · cases hv
theorem orel_one {W : World} {g : Nat} {x : aa} {v : Value} {e : TypeId} {fr : Nat × Nat} (hx : x.scalar = true) (hv : aA places x v) (hw : W.heap[g]? = some (.cells #[v] e fr)) : lu Tryz.prog places ⟨g, 0, 0, 0⟩ (.cells [x] 0 false false) W.heap[g]? := by
  refine ⟨_, e, fr, hw, ?_, fun y hy => ?_, fun h => absurd rfl h, (fun h => by cases h), fun _ => ⟨rfl, rfl⟩, (fun h => by cases h), .inl rfl⟩
  · exact ao.cons hv ao.nil
  · rw [List.mem_singleton.1 hy]; exact hx
/-- HL's memory at the start stands for every world of the row. -/
theorem rel0 {W : World} (hL : laidMetH Tryz.prog Rows.emitBackRow.laid W) (hS : W.ShapedOpen Tryz.prog) (h2 : ∃ u e fr, W.heap[2]? = some (.cells #[.iface t2 u] e fr)) (h3 : ∃ u e fr, W.heap[3]? = some (.cells #[.iface t3 u] e fr)) : Rel Tryz.prog places (heap0 t2 t3) W := by
  have hsize : 10 < W.heap.size := by
    obtain ⟨⟨zero, t⟩, hz⟩ := Option.isSome_iff_exists.1 zero10
    obtain ⟨cs, hh, _⟩ := hS.1 10 zero t (by rw [tO]; omega) hz
    exact (Array.getElem?_eq_some_iff.1 hh).1
  have hown : ∀ k o, (heap0 t2 t3).get k = some o → k < 11 ∧ o.owned = false := by
    intro k o hk
    rw [heap0_get] at hk
    split at hk
    · cases hk; exact ⟨by omega, rfl⟩
    split at hk
    · cases hk; exact ⟨by omega, rfl⟩
    split at hk
    · cases hk; exact ⟨by omega, rfl⟩
    split at hk
    · cases hk; exact ⟨by omega, rfl⟩
    split at hk
    · cases hk; exact ⟨by omega, rfl⟩
    · cases hk
  refine ⟨?_, ?_, ?_, ?_, ?_, ?_⟩
  · intro k o p hk _ hp
    have hp' : p = ⟨k, 0, 0, 0⟩ := by
      unfold places at hp
      split at hp
      · exact (Option.some.inj hp).symm
      · cases hp
    subst hp'
    rw [heap0_get] at hk
    split at hk
    · rename_i e
      subst e
      cases hk
      rw [tab0_eq]
      exact orel_tab gA (table hL)
    split at hk
    · rename_i e
      subst e
      cases hk
      obtain ⟨n, e, fr, hw, h1, h2⟩ := len_cell hS
      exact orel_one rfl ⟨n, rfl, h1, h2⟩ hw
    split at hk
    · rename_i e
      subst e
      cases hk
      obtain ⟨u, e, fr, hw⟩ := h2
      exact orel_one rfl ⟨u, rfl, trivial⟩ hw
    split at hk
    · rename_i e
      subst e
      cases hk
      obtain ⟨u, e, fr, hw⟩ := h3
      exact orel_one rfl ⟨u, rfl, trivial⟩ hw
    split at hk
    · rename_i e
      subst e
      cases hk
      rw [pow_eq]
      exact orel_tab gP (table2 hL)
    · cases hk
  · intro k hk
    have : ¬ k < 11 := Nat.not_lt.2 hk
    simp [places, this]
  · intro k o hk
    exact (hown k o hk).1
  · intro k p hp
    unfold places at hp
    split at hp
    · cases hp
      show k < W.heap.size
      omega
    · cases hp
  · intro k k' o o' p p' hk hk' ho
    rw [(hown k o hk).2] at ho; cases ho
  · intro g hg
    rw [tO] at hg
    exact ⟨⟨g, 0, 0, 0⟩, by simp [places, hg], rfl, rfl⟩
theorem ls0 {W : World} (hL : laidMetH Tryz.prog Rows.emitBackRow.laid W) (hS : W.ShapedOpen Tryz.prog) (h2 : ∃ u e fr, W.heap[2]? = some (.cells #[.iface t2 u] e fr)) (h3 : ∃ u e fr, W.heap[3]? = some (.cells #[.iface t3 u] e fr)) : LS Tryz.prog W places (heap0 t2 t3) := by
  refine ⟨rel0 hL hS h2 h3, fun k hk => ?_, fun k o hk => ?_⟩
  · have hk : 11 ≤ k := hk
    rw [heap0_get, if_neg (by omega), if_neg (by omega), if_neg (by omega), if_neg (by omega), if_neg (by omega)]
  · rw [heap0_get] at hk
    split at hk
    · cases hk; rfl
    split at hk
    · cases hk; rfl
    split at hk
    · cases hk; rfl
    split at hk
    · cases hk; rfl
    split at hk
    · cases hk; rfl
    · cases hk
theorem lies0 : (lies (Ev.base t2 t3)).holds (heap0 t2 t3) := by
  intro p hp
  have hp : p ∈ [(0, fA), (1, DU), (2, uF t2), (3, uF t3), (4, xN)] := hp
  simp only [List.mem_cons, List.not_mem_nil, or_false] at hp
  rcases hp with rfl | rfl | rfl | rfl | rfl <;> rw [heap0_get] <;> rfl
end

theorem wf_i64 {n : Int} (h : (Lit.int .i64 n).wf = true) : -9223372036854775808 ≤ n ∧ n ≤ 9223372036854775807 := by
  simp only [Lit.wf, Bool.and_eq_true, decide_eq_true_eq] at h
  exact h
theorem wf_u32 {n : Int} (h : (Lit.int .u32 n).wf = true) : 0 ≤ n ∧ n ≤ 4294967295 := by
  simp only [Lit.wf, Bool.and_eq_true, decide_eq_true_eq] at h
  exact h
/-- THE WALK: of every code, every number and every word. -/
theorem walk {H : Type} {enc : TypeId × Value → H} {W : World} {fuel : Nat} {cs : Array Value} {x : DataW H × List MemPlace} {a b : Int} (hL : laidMetH Tryz.prog Rows.emitBackRow.laid W) (hS : W.ShapedOpen Tryz.prog)
    (hd : DataW.trod enc Tryz.prog W 0 (fun _ => true) true fuel 26 cs.toList = some x) (hsz : Sz Tryz.prog 26 x.1) (ha : (Lit.int .i64 a).wf = true) (hb : (Lit.int .u32 b).wf = true) :
    Calls Tryz.prog 6 #[.agg cs, .int .i64 a, .int .u32 b] W fun e W' => e = .returned (.bool true) ∧ Below W.heap.size W W' := by
  obtain ⟨⟨t2, h2⟩, t3, h3⟩ := errs hL
  obtain ⟨σ, h, f, s, _, hg, hv, hsc, ho⟩ := H2 hd hsz places (heap0 t2 t3) (ls0 hL hS h2 h3)
  have hB : (lies (Ev.base t2 t3)).holds h := fun p hp => hg.get (lies0 p hp)
  have hb2 := wf_u32 hb
  obtain ⟨m, rfl⟩ := Int.eq_ofNat_of_zero_le hb2.1
  obtain ⟨v, h', d, rfl, _⟩ := Ki Ev.Jj Nq Le f.1 ho.2 f.2.1 f.2.2.1 f.2.2.2 a (wf_i64 ha) m (by omega) h s.wf hB ho.1
  have hlt : 6 < bd := by unfold bd; omega
  refine (d.calls Ev.Ji hlt s.rel (vs := [.agg cs, .int .i64 a, .int .u32 (m : Int)]) (ao.cons ⟨cs.toList, rfl, hv, hsc⟩ (ao.cons rfl (ao.cons rfl ao.nil)))).mono fun e W' ⟨τ, st, hc⟩ => ?_
  obtain ⟨y, rfl, hy⟩ := hc
  have hy' : y = .bool true := hy
  subst hy'
  refine ⟨rfl, st.kept.os, st.kept.tape, st.kept.output, st.kept.size, fun b hb => st.kept.block b hb ?_⟩
  rintro ⟨k, o, p, hk, ho, _⟩
  rw [s.ro k o hk] at ho
  cases ho

theorem post_of_below {H : Type} {enc : TypeId × Value → H} {P : Program} {f : Func} {s : ChangeSpec} {apart fresh handsOn again : Bool} {W W' : World} {args : Array Value} {v : Value} {ds gs : List (DataW H)} {before pa pv : List MemPlace}
    (hW : DataW.Whole enc P f.params.toList s.vars apart W args.toList ds gs before)
    (hres : ∀ (b : Nat) (sp : Nat → Bool) (hd : Bool), DataW.TrodAll enc P W' b sp hd f.resultTypes.toList (v.resultList f.resultTypes.size) (s.fn H (ds ++ gs)).results [])
    (hargs : ∀ sp : Nat → Bool, (∀ p ∈ before, sp p.block = true) → DataW.TrodAll enc P W' 0 sp true f.params.toList args.toList (s.fn H (ds ++ gs)).args pa)
    (hvars : ∀ sp : Nat → Bool, (∀ p ∈ before, sp p.block = true) → DataW.TrodVars enc P W' sp s.vars (s.fn H (ds ++ gs)).vars pv)
    (hps : before = pa ++ pv) (hb : Below W.heap.size W W')
    (hok : ∀ (j : Nat) (t : TypeId) (r : Value), f.resultTypes[j]? = some t → (v.resultList f.resultTypes.size)[j]? = some r → Value.okWide P W' .any 0 t r) :
    s.post enc P f apart fresh handsOn again W args v W' := by
  have hlt : ∀ p ∈ before, p.block < W.heap.size := fun p hp => hW.lt p hp
  have hold : ∀ p ∈ before, (fun b => decide (b < W.heap.size)) p.block = true := fun p hp => by simpa using hlt p hp
  refine ⟨ds, gs, before, [], pa, pv, hW, hres _ _ _, hargs _ hold, hvars _ hold, World.keptBut_mono (fun p hp => ⟨hp, ?_⟩) (hb.frame (· ∈ before)), fun _ => ?_⟩
  · rw [hps, List.mem_append] at hp
    exact Or.inr hp
  · obtain ⟨_, _, _, _, _, hz, hn⟩ := hW
    refine ⟨hok, _, _, ([] ++ pa) ++ pv, ⟨[] ++ pa, pv, trodAll_append (hargs _ (fun _ _ => rfl)) (hres _ _ _), hvars _ (fun _ _ => rfl), rfl, ?_, ?_⟩, ?_⟩
    · intro b off hp
      have hp' : MemPlace.cell b off ∈ before := by rw [hps]; simpa using hp
      rw [hb.frozen (p := ⟨b, off, none⟩) (hlt _ hp')]
      exact hz b off hp'
    · intro ha
      have := hn ha
      rw [hps] at this
      simpa using this
    · intro p hp _
      rw [hps]
      simpa using hp

set_option maxRecDepth 100000 in
/-- WHAT THE WALK GIVES, FOR EVERY ARGUMENT AND EVERY WORLD THAT THE ROW LETS IN. -/
theorem contract (H : Type) (enc : TypeId × Value → H) (W : World) (base : Nat) (args : Array Value) (ds gs : List (DataW H)) (before : List MemPlace)
    (hval : ∀ (j : Nat) t v, Tryz.f6.params[j]? = some t → args[j]? = some v → Value.okWide Tryz.prog W .any base t v)
    (hW : DataW.Whole enc Tryz.prog Tryz.f6.params.toList Rows.emitBackSpec.vars false W args.toList ds gs before) (hwt : ∀ n ∈ DataW.weightsEach Tryz.prog Tryz.f6.params.toList ds, n ≤ reachBytes) (hL : laidMetH Tryz.prog Rows.emitBackRow.laid W) (hS : W.ShapedOpen Tryz.prog) :
    Calls Tryz.prog 6 args W fun e W' => ∃ v, e = .returned v ∧ Rows.emitBackSpec.post enc Tryz.prog Tryz.f6 false true false false W args v W' := by
  have hW' := hW
  obtain ⟨p, q, hA0, hV, rfl, hfz, hnd⟩ := hW
  have hA : DataW.TrodAll enc Tryz.prog W 0 (fun _ => true) true Tryz.f6.params.toList args.toList ds p := hA0
  rw [Tryz.params6] at hA hval hwt
  obtain ⟨v0, v1, v2, d0, d1, d2, p0, p1, p2, rfl, rfl, rfl, h0, h1, h2⟩ := trodAll_three hA
  obtain ⟨rfl, rfl⟩ := trodVars_none hV
  obtain ⟨cs, rfl, _⟩ := okWide_struct Tryz.underlying26 (hval 0 26 v0 rfl rfl)
  obtain ⟨a, rfl⟩ := okWide_int Tryz.underlying3 (hval 1 3 v1 rfl rfl)
  obtain ⟨b, rfl⟩ := okWide_int Tryz.underlying42 (hval 2 42 v2 rfl rfl)
  clear hA0
  simp only [List.append_nil] at hW'
  have hsz : Sz Tryz.prog 26 d0 := fun n hn => hwt n (iR (i := 0) rfl rfl hn)
  obtain ⟨fuel, hd⟩ := h0
  obtain ⟨fuel1, hd1⟩ := h1
  obtain ⟨fuel2, hd2⟩ := h2
  obtain ⟨n1, e1, _, w1⟩ := DataW.trod_int Tryz.underlying3 hd1
  obtain ⟨n2, e2, _, w2⟩ := DataW.trod_int Tryz.underlying42 hd2
  have e1 : a = n1 := by injection e1 with e1; injection e1
  have e2 : b = n2 := by injection e2 with e2; injection e2
  subst e1 e2
  refine (walk hL hS hd hsz w1 w2).mono fun e W' ⟨he, hg⟩ => ?_
  subst he
  have hup0 : DataW.Trod enc Tryz.prog W' 0 (fun _ => true) true 26 (.agg cs) d0 p0 := ⟨fuel, DataW.trod_carry fuel _ _ _ hd (fun y hy => hg.same (DataW.trod_lt fuel _ _ _ hd y hy))⟩
  have hup1 : DataW.Trod enc Tryz.prog W' 0 (fun _ => true) true 3 (.int .i64 a) d1 p1 := ⟨fuel1, DataW.trod_carry fuel1 _ _ _ hd1 (fun y hy => hg.same (DataW.trod_lt fuel1 _ _ _ hd1 y hy))⟩
  have hup2 : DataW.Trod enc Tryz.prog W' 0 (fun _ => true) true 42 (.int .u32 b) d2 p2 := ⟨fuel2, DataW.trod_carry fuel2 _ _ _ hd2 (fun y hy => hg.same (DataW.trod_lt fuel2 _ _ _ hd2 y hy))⟩
  have kr := kids_rows laidOut rowed
  have sf := slices_full_of _ full
  exact ⟨_, rfl, post_of_below (pa := p0 ++ (p1 ++ p2)) (pv := []) hW' (fun _ _ _ => (trodAll_cons_mk (shut_bool Tryz.underlying4 _) trodAll_mk0))
    (fun sp hsp => trodAll_mk3 (hup0.respare kr sf (of_decide_eq_true in26) fun y hy => hsp y (by simp [hy])) (hup1.respare kr sf (of_decide_eq_true in3) fun y hy => hsp y (by simp [hy])) (hup2.respare kr sf (of_decide_eq_true in42) fun y hy => hsp y (by simp [hy]))) (fun _ _ => rfl) (by simp)
    hg (ok_one (by kernel_rfl) rfl (okWide_bool_mk Tryz.underlying4 _))⟩
end Go.Proofs.YtngeipnhbigdmaaGreatDoor.emitBack
