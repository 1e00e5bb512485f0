/- The walk of the function, and the contract that it gives. No statement of the seat stands here. -/
import Derived.Test.YtolkehkjhpnioaaGreatDoorDZ
import Derived.Test.YtolkehkjhpnioaaGreatDoorRows
import Derived.WalkKit
import Derived.ProofKit
import Derived.OpenShut
import Derived.Below
import Derived.Lay
import Derived.Carry
import Derived.ReadAgain
import Derived.Deep.DeepHandedRow
import Derived.Deep.DeepWitnessRowRef
import Derived.Lib.LaidTab
set_option linter.unusedVariables false
set_option linter.unusedSimpArgs false
namespace Go.Proofs.YtolkehkjhpnioaaGreatDoor.deviceReads
open Go.ChangeShapes Go.WideShapes Go.ChangeAt Go.RowKit Go.HL Go.HL.Dr

theorem own : ownKnob Tryz.prog.godebug = none := by kernel_rfl
theorem gB : Tryz.prog.globalNamed "math/bits.deBruijn32tab" = some 4 := by kernel_rfl
theorem gA : Tryz.prog.globalNamed "strings.asciiSpace" = some 8 := by kernel_rfl
theorem gP : Tryz.prog.globalNamed "internal/strconv.uint64pow10" = some 0 := by kernel_rfl
theorem gBType : (Tryz.prog.globals[4]?).map (·.type) = some 510 := by kernel_rfl
theorem gAType : (Tryz.prog.globals[8]?).map (·.type) = some 512 := by kernel_rfl
theorem gPType : (Tryz.prog.globals[0]?).map (·.type) = some 213 := by kernel_rfl
theorem cells510 : Tryz.prog.cellsOf 510 = 32 := by kernel_rfl
theorem cells512 : Tryz.prog.cellsOf 512 = 256 := by kernel_rfl
theorem cells213 : Tryz.prog.cellsOf 213 = 20 := by kernel_rfl
theorem cells5 : Tryz.prog.cellsOf 5 = 1 := by kernel_rfl
theorem cellsP : Tryz.prog.cellsOf 114 = 1 := by kernel_rfl
theorem zero10 : (((begin Tryz.prog (fun _ _ => 0) default).world.heap[10]?).bind Obj.row?).isSome = true := by kernel_rfl
/-- the types of the arguments, and what they are made of -/
def ArgT (t : TypeId) : Prop := t = 22 ∨ t = 21 ∨ t = 5
theorem argKids : Kids Tryz.prog ArgT := by
  refine ⟨fun ht hu => ?_, fun ht hu => ?_, fun ht hu => ?_, fun ht hu => ?_, fun ht hu => ?_⟩
  all_goals rcases ht with rfl | rfl | rfl
  all_goals first
    | (rw [Tryz.underlying22] at hu; cases hu; first | done | exact .inr (.inl rfl))
    | (rw [Tryz.underlying21] at hu; cases hu)
    | (rw [Tryz.underlying5] at hu; cases hu)
theorem argFull : ∀ t e, ArgT t → Tryz.prog.underlying t = some (.slice e) → 0 < Tryz.prog.cellsOf e := by
  intro t e ht hu
  rcases ht with rfl | rfl | rfl
  · rw [Tryz.underlying22] at hu; cases hu; rw [cells21]; decide
  · rw [Tryz.underlying21] at hu; cases hu
  · rw [Tryz.underlying5] at hu; cases hu
def zs (l : List Nat) : List Int := l.map Int.ofNat
theorem laidA : (Rows.laid_strings_asciiSpace : DataW Unit) = Lib.tabData .u8 (zs tab8L) := by kernel_rfl
theorem laidB : (Rows.laid_math_bits_deBruijn32tab : DataW Unit) = Lib.tabData .u8 (zs tab4L) := by kernel_rfl
theorem laidP : (Rows.laid_internal_strconv_uint64pow10 : DataW Unit) = Lib.tabData .u64 Lib.pow10Tab := by kernel_rfl
theorem noHandles : (Rows.deviceReadsRow.laid.filter fun x => x.2.handleName?.isSome) = [] := by kernel_rfl
theorem plainLaid {W : World} (h : laidMetH Tryz.prog Rows.deviceReadsRow.laid W) : laidMet Tryz.prog Rows.deviceReadsRow.laid W := by
  unfold laidMetH at h
  rw [noHandles] at h
  exact h
/-- a listed variable reads as the list says -/
theorem laid_at {W : World} {n : String} {d : DataW Unit} : ∀ {l : List (String × DataW Unit)} {ps : List MemPlace}, DataW.LaidVars Tryz.prog W l ps → (n, d) ∈ l →
    ∃ g t cs fuel p, Tryz.prog.globalNamed n = some g ∧ (Tryz.prog.globals[g]?).map (·.type) = some t ∧ W.var? Tryz.prog n = some cs ∧ DataW.trod (fun _ => ()) Tryz.prog W 0 (fun _ => true) false fuel t cs.toList = some (d, p)
  | [], _, _, hm => by cases hm
  | (m, e) :: l, ps, h, hm => by
    obtain ⟨g, t, cs, fuel, p, q, h1, h2, h3, h4, h5, _⟩ := h
    rcases List.mem_cons.1 hm with he | hm
    · cases he; exact ⟨g, t, cs, fuel, p, h1, h2, h3, h4⟩
    · exact laid_at h5 hm
/-- WHAT THE ROW's LIST GIVES: the cells of the three tables. -/
theorem tableA {W : World} (h : laidMetH Tryz.prog Rows.deviceReadsRow.laid W) : W.var? Tryz.prog "strings.asciiSpace" = some ((zs tab8L).map fun z => Value.int .u8 z).toArray := by
  obtain ⟨ps, hv, _⟩ := plainLaid h
  obtain ⟨g', t', cs, fuel, p, hg', ht', hvar, hd⟩ := laid_at (n := "strings.asciiSpace") (d := Rows.laid_strings_asciiSpace) hv (by simp [Rows.deviceReadsRow])
  obtain rfl := Option.some.inj (gA.symm.trans hg')
  obtain rfl := Option.some.inj (gAType.symm.trans ht')
  rw [laidA] at hd
  rw [hvar, ← Lib.cells_of_tab Tryz.underlying512 Tryz.underlying5 cells5 cells512 hd]
theorem tableB {W : World} (h : laidMetH Tryz.prog Rows.deviceReadsRow.laid W) : W.var? Tryz.prog "math/bits.deBruijn32tab" = some ((zs tab4L).map fun z => Value.int .u8 z).toArray := by
  obtain ⟨ps, hv, _⟩ := plainLaid h
  obtain ⟨g', t', cs, fuel, p, hg', ht', hvar, hd⟩ := laid_at (n := "math/bits.deBruijn32tab") (d := Rows.laid_math_bits_deBruijn32tab) hv (by simp [Rows.deviceReadsRow])
  obtain rfl := Option.some.inj (gB.symm.trans hg')
  obtain rfl := Option.some.inj (gBType.symm.trans ht')
  rw [laidB] at hd
  rw [hvar, ← Lib.cells_of_tab Tryz.underlying510 Tryz.underlying5 cells5 cells510 hd]
theorem tableP {W : World} (h : laidMetH Tryz.prog Rows.deviceReadsRow.laid W) : W.var? Tryz.prog "internal/strconv.uint64pow10" = some (Lib.pow10Tab.map fun z => Value.int .u64 z).toArray := by
  obtain ⟨ps, hv, _⟩ := plainLaid h
  obtain ⟨g', t', cs, fuel, p, hg', ht', hvar, hd⟩ := laid_at (n := "internal/strconv.uint64pow10") (d := Rows.laid_internal_strconv_uint64pow10) hv (by simp [Rows.deviceReadsRow])
  obtain rfl := Option.some.inj (gP.symm.trans hg')
  obtain rfl := Option.some.inj (gPType.symm.trans ht')
  rw [laidP] at hd
  rw [hvar, ← Lib.cells_of_tab Tryz.underlying213 Tryz.underlying114 cellsP cells213 hd]

theorem gL : ((begin Tryz.prog (fun _ _ => 0) default).world.heap[3]?).bind Obj.row? = some (#[.int .i64 0], 3) := by kernel_rfl
theorem build3 : Tryz.prog.buildable 3 = true := by kernel_rfl
theorem cellT3 : Tryz.prog.cellTypes Tryz.prog.depth 3 = some [3] := by kernel_rfl
theorem int_row {P : Program} {W : World} {t : TypeId} (ht : P.underlying t = some (.int .i64)) {cs : Array Value} (hs : cs.size = 1) (hc : P.cellTypes P.depth t = some [t]) (h : Row.ok P W .any 0 t cs) : ∃ n, cs = #[.int .i64 n] ∧ -9223372036854775808 ≤ n ∧ n ≤ 9223372036854775807 := by
  obtain ⟨ts, e, _, hx⟩ := h
  rw [hc] at e
  cases e
  obtain ⟨v, rfl⟩ : ∃ v, cs = #[v] := by
    obtain ⟨l⟩ := cs
    match l, hs with
    | [v], _ => exact ⟨v, rfl⟩
  obtain ⟨u, hu, ho⟩ := hx 0 v rfl
  simp at hu
  subst hu
  unfold Cell.ok at ho
  rw [ht] at ho
  cases v <;> simp at ho
  obtain ⟨rfl, h1, h2⟩ := ho
  exact ⟨_, rfl, h1, h2⟩
/-- the greatest length: some number -/
theorem len_cell {W : World} (hS : W.ShapedOpen Tryz.prog) : ∃ n e fr, W.heap[3]? = some (.cells #[.int .i64 n] e fr) ∧ -9223372036854775808 ≤ n ∧ n ≤ 9223372036854775807 := by
  obtain ⟨cs, hh, hz, hb⟩ := hS.1 3 _ _ (by rw [sizeG]; omega) gL
  obtain ⟨n, rfl, h1, h2⟩ := int_row Tryz.underlying3 hz cellT3 (hb build3)
  exact ⟨n, _, _, hh, h1, h2⟩

/-- A package-level variable's key stands for its block. -/
def places : Places := fun k => if k < 11 then some ⟨k, 0, 0, 0⟩ else none
noncomputable def heap0 : Heap := ⟨11, layOver .leaf Dr.base⟩
theorem heap0_get (k : Nat) : heap0.get k = if k = 0 then some powO else if k = 3 then some lenO else if k = 4 then some tab4O else if k = 8 then some tab8O else none := by
  show (layOver .leaf Dr.base).get k = _
  rw [get_layOver]
  simp only [Dr.base, findK]
  split
  · rfl
  split
  · rfl
  split
  · rfl
  split <;> rfl
theorem vrels_ints (σ : Places) (k : IntKind) : ∀ l : List Int, VRels σ (l.map fun z => HVal.int k z) (l.map fun z => Value.int k z)
  | [] => VRels.nil
  | _ :: l => VRels.cons rfl (vrels_ints σ k l)
theorem u8s_eq : ∀ l : List Nat, u8s l = l.map fun n => HVal.int .u8 (.ofNat n)
  | [] => rfl
  | _ :: l => by rw [u8s, u8s_eq l]; rfl
theorem tab_eq (l : List Nat) : HObj.cells (u8s l) 0 false false = .cells ((zs l).map fun z => HVal.int .u8 z) 0 false false := by
  unfold zs
  rw [u8s_eq, List.map_map]; rfl
theorem pow_eq : powO = .cells (Lib.pow10Tab.map fun z => HVal.int .u64 z) 0 false false := by
  unfold powO powL Lib.pow10Tab
  rw [List.map_map]; rfl
theorem orel_tab {W : World} {name : String} {g : Nat} {zs : List Int} {k : IntKind} (hg : Tryz.prog.globalNamed name = some g) (hv : W.var? Tryz.prog name = some (zs.map fun z => Value.int k z).toArray) : ORel Tryz.prog places ⟨g, 0, 0, 0⟩ (.cells (zs.map fun z => HVal.int k z) 0 false false) W.heap[g]? := by
  unfold World.var? at hv
  rw [hg] at hv
  simp only [Option.bind_some] at hv
  split at hv
  · rename_i cs e fr hw
    obtain rfl := Option.some.inj hv
    refine ⟨_, e, fr, hw, ?_, fun x hx => ?_, fun h => absurd rfl h, (fun h => by cases h), fun _ => ⟨rfl, by simp⟩, (fun h => by cases h), .inl rfl⟩
    · have e1 : (List.drop 0 (zs.map fun z => Value.int k z)).take (zs.map fun z => HVal.int k z).length = zs.map fun z => Value.int k z := by
        rw [List.drop_zero, List.take_of_length_le (by simp)]
      show VRels places _ ((List.drop 0 (zs.map fun z => Value.int k z)).take (zs.map fun z => HVal.int k z).length)
      rw [e1]
      exact vrels_ints places k zs
    · obtain ⟨z, _, rfl⟩ := List.mem_map.1 hx
      rfl
  · cases hv
theorem orel_one {W : World} {g : Nat} {x : HVal} {v : Value} {e : TypeId} {fr : Nat × Nat} (hx : x.scalar = true) (hv : VRel places x v) (hw : W.heap[g]? = some (.cells #[v] e fr)) : ORel Tryz.prog places ⟨g, 0, 0, 0⟩ (.cells [x] 0 false false) W.heap[g]? := by
  refine ⟨_, e, fr, hw, ?_, fun y hy => ?_, fun h => absurd rfl h, (fun h => by cases h), fun _ => ⟨rfl, rfl⟩, (fun h => by cases h), .inl rfl⟩
  · exact VRels.cons hv VRels.nil
  · rw [List.mem_singleton.1 hy]; exact hx
/-- HL's memory at the start stands for every world of the row. -/
theorem rel0 {W : World} (hL : laidMetH Tryz.prog Rows.deviceReadsRow.laid W) (hS : W.ShapedOpen Tryz.prog) : Rel Tryz.prog places heap0 W := by
  have hsize : 10 < W.heap.size := by
    obtain ⟨⟨zero, t⟩, hz⟩ := Option.isSome_iff_exists.1 zero10
    obtain ⟨cs, hh, _⟩ := hS.1 10 zero t (by rw [sizeG]; omega) hz
    exact (Array.getElem?_eq_some_iff.1 hh).1
  have hown : ∀ k o, heap0.get k = some o → k < 11 ∧ o.owned = false := by
    intro k o hk
    rw [heap0_get] at hk
    split at hk
    · cases hk; exact ⟨by omega, rfl⟩
    split at hk
    · cases hk; exact ⟨by omega, rfl⟩
    split at hk
    · cases hk; exact ⟨by omega, rfl⟩
    split at hk
    · cases hk; exact ⟨by omega, rfl⟩
    · cases hk
  refine ⟨?_, ?_, ?_, ?_, ?_, ?_⟩
  · intro k o p hk _ hp
    have hp' : p = ⟨k, 0, 0, 0⟩ := by
      unfold places at hp
      split at hp
      · exact (Option.some.inj hp).symm
      · cases hp
    subst hp'
    rw [heap0_get] at hk
    split at hk
    · rename_i e
      subst e
      cases hk
      rw [pow_eq]
      exact orel_tab gP (tableP hL)
    split at hk
    · rename_i e
      subst e
      cases hk
      obtain ⟨n, e, fr, hw, h1, h2⟩ := len_cell hS
      exact orel_one rfl ⟨n, rfl, h1, h2⟩ hw
    split at hk
    · rename_i e
      subst e
      cases hk
      unfold tab4O
      rw [tab_eq]
      exact orel_tab gB (tableB hL)
    split at hk
    · rename_i e
      subst e
      cases hk
      unfold tab8O
      rw [tab_eq]
      exact orel_tab gA (tableA hL)
    · cases hk
  · intro k hk
    have : ¬ k < 11 := Nat.not_lt.2 hk
    simp [places, this]
  · intro k o hk
    exact (hown k o hk).1
  · intro k p hp
    unfold places at hp
    split at hp
    · cases hp
      show k < W.heap.size
      omega
    · cases hp
  · intro k k' o o' p p' hk hk' ho
    rw [(hown k o hk).2] at ho; cases ho
  · intro g hg
    rw [sizeG] at hg
    exact ⟨⟨g, 0, 0, 0⟩, by simp [places, hg], rfl, rfl⟩
theorem ls0 {W : World} (hL : laidMetH Tryz.prog Rows.deviceReadsRow.laid W) (hS : W.ShapedOpen Tryz.prog) : LS Tryz.prog W places heap0 := by
  refine ⟨rel0 hL hS, fun k hk => ?_, fun k o hk => ?_⟩
  · have hk : 11 ≤ k := hk
    rw [heap0_get, if_neg (by omega), if_neg (by omega), if_neg (by omega), if_neg (by omega)]
  · rw [heap0_get] at hk
    split at hk
    · cases hk; rfl
    split at hk
    · cases hk; rfl
    split at hk
    · cases hk; rfl
    split at hk
    · cases hk; rfl
    · cases hk
theorem lies0 : (lies Dr.base).holds heap0 := by
  intro p hp
  have hp : p ∈ [(0, powO), (3, lenO), (4, tab4O), (8, tab8O)] := hp
  simp only [List.mem_cons, List.not_mem_nil, or_false] at hp
  rcases hp with rfl | rfl | rfl | rfl <;> rw [heap0_get] <;> rfl

/-- THE WALK: of all words, every cell, size and tenant. -/
theorem walk {H : Type} {enc : TypeId × Value → H} {W : World} {fuel : Nat} {v0 : Value} {x : DataW H × List MemPlace} {a b c : Int} (hL : laidMetH Tryz.prog Rows.deviceReadsRow.laid W) (hS : W.ShapedOpen Tryz.prog)
    (hd : DataW.trod enc Tryz.prog W 0 (fun _ => true) true fuel 22 [v0] = some x) (hsz : Sz Tryz.prog 22 x.1) (ha : (Lit.int .u8 a).wf = true) (hb : (Lit.int .u8 b).wf = true) (hc : (Lit.int .u8 c).wf = true) :
    Calls Tryz.prog 3 #[v0, .int .u8 a, .int .u8 b, .int .u8 c] W fun e W' => e = .returned (.bool true) ∧ Below W.heap.size W W' := by
  obtain ⟨σ, h, f, s, _, hg, hv, hsc, ho⟩ := lift_words hd hsz places heap0 (ls0 hL hS)
  have hB : (lies Dr.base).holds h := fun p hp => hg.get (lies0 p hp)
  have ha2 := bounds_u8 ha
  have hb2 := bounds_u8 hb
  have hc2 := bounds_u8 hc
  obtain ⟨k, rfl⟩ := Int.eq_ofNat_of_zero_le ha2.1
  obtain ⟨m, rfl⟩ := Int.eq_ofNat_of_zero_le hb2.1
  obtain ⟨n, rfl⟩ := Int.eq_ofNat_of_zero_le hc2.1
  obtain ⟨v, h', d, rfl, _⟩ := law_run Dr.k0_known f.2 f.1 k m n ho.2.1 ho.2.2 (by omega) (by omega) (by omega) h s.wf hB ho.1
  have hlt : 3 < roundNo := by unfold roundNo; omega
  obtain ⟨u, w, eu, hu, hw⟩ := hv.cons_inv
  have := hw.nil_inv
  subst this
  cases eu
  refine (d.calls Dr.k0_sound hlt s.rel (vs := [v0, .int .u8 (k : Int), .int .u8 (m : Int), .int .u8 (n : Int)]) (VRels.cons hu (VRels.cons rfl (VRels.cons rfl (VRels.cons rfl VRels.nil))))).mono fun e W' ⟨τ, st, hc⟩ => ?_
  obtain ⟨y, rfl, hy⟩ := hc
  have hy' : y = .bool true := hy
  subst hy'
  refine ⟨rfl, st.kept.os, st.kept.tape, st.kept.output, st.kept.size, fun b hb => st.kept.block b hb ?_⟩
  rintro ⟨k, o, p, hk, ho, _⟩
  rw [s.ro k o hk] at ho
  cases ho

theorem post_of_below {H : Type} {enc : TypeId × Value → H} {P : Program} {f : Func} {s : ChangeSpec} {apart fresh handsOn again : Bool} {W W' : World} {args : Array Value} {v : Value} {ds gs : List (DataW H)} {before pa pv : List MemPlace}
    (hW : DataW.Whole enc P f.params.toList s.vars apart W args.toList ds gs before)
    (hres : ∀ (b : Nat) (sp : Nat → Bool) (hd : Bool), DataW.TrodAll enc P W' b sp hd f.resultTypes.toList (v.resultList f.resultTypes.size) (s.fn H (ds ++ gs)).results [])
    (hargs : ∀ sp : Nat → Bool, (∀ p ∈ before, sp p.block = true) → DataW.TrodAll enc P W' 0 sp true f.params.toList args.toList (s.fn H (ds ++ gs)).args pa)
    (hvars : ∀ sp : Nat → Bool, (∀ p ∈ before, sp p.block = true) → DataW.TrodVars enc P W' sp s.vars (s.fn H (ds ++ gs)).vars pv)
    (hps : before = pa ++ pv) (hb : Below W.heap.size W W')
    (hok : ∀ (j : Nat) (t : TypeId) (r : Value), f.resultTypes[j]? = some t → (v.resultList f.resultTypes.size)[j]? = some r → Value.okWide P W' .any 0 t r) :
    s.post enc P f apart fresh handsOn again W args v W' := by
  have hlt : ∀ p ∈ before, p.block < W.heap.size := fun p hp => hW.lt p hp
  have hold : ∀ p ∈ before, (fun b => decide (b < W.heap.size)) p.block = true := fun p hp => by simpa using hlt p hp
  refine ⟨ds, gs, before, [], pa, pv, hW, hres _ _ _, hargs _ hold, hvars _ hold, World.keptBut_mono (fun p hp => ⟨hp, ?_⟩) (hb.frame (· ∈ before)), fun _ => ?_⟩
  · rw [hps, List.mem_append] at hp
    exact Or.inr hp
  · obtain ⟨_, _, _, _, _, hz, hn⟩ := hW
    refine ⟨hok, _, _, ([] ++ pa) ++ pv, ⟨[] ++ pa, pv, trodAll_append (hargs _ (fun _ _ => rfl)) (hres _ _ _), hvars _ (fun _ _ => rfl), rfl, ?_, ?_⟩, ?_⟩
    · intro b off hp
      have hp' : MemPlace.cell b off ∈ before := by rw [hps]; simpa using hp
      rw [hb.frozen (p := ⟨b, off, none⟩) (hlt _ hp')]
      exact hz b off hp'
    · intro ha
      have := hn ha
      rw [hps] at this
      simpa using this
    · intro p hp _
      rw [hps]
      simpa using hp

set_option maxRecDepth 100000 in
/-- WHAT THE WALK GIVES, FOR EVERY ARGUMENT AND EVERY WORLD THAT THE ROW LETS IN. -/
theorem contract (H : Type) (enc : TypeId × Value → H) (W : World) (base : Nat) (args : Array Value) (ds gs : List (DataW H)) (before : List MemPlace)
    (hval : ∀ (j : Nat) t v, Tryz.f3.params[j]? = some t → args[j]? = some v → Value.okWide Tryz.prog W .any base t v)
    (hW : DataW.Whole enc Tryz.prog Tryz.f3.params.toList Rows.deviceReadsSpec.vars false W args.toList ds gs before) (hwt : ∀ n ∈ DataW.weightsEach Tryz.prog Tryz.f3.params.toList ds, n ≤ reachBytes) (hL : laidMetH Tryz.prog Rows.deviceReadsRow.laid W) (hS : W.ShapedOpen Tryz.prog) :
    Calls Tryz.prog 3 args W fun e W' => ∃ v, e = .returned v ∧ Rows.deviceReadsSpec.post enc Tryz.prog Tryz.f3 false true false false W args v W' := by
  have hW' := hW
  obtain ⟨p, q, hA0, hV, rfl, hfz, hnd⟩ := hW
  have hA : DataW.TrodAll enc Tryz.prog W 0 (fun _ => true) true Tryz.f3.params.toList args.toList ds p := hA0
  rw [Tryz.params3] at hA hval hwt
  obtain ⟨v0, v1, v2, v3, d0, d1, d2, d3, p0, p1, p2, p3, rfl, rfl, rfl, h0, h1, h2, h3⟩ := trodAll_four hA
  obtain ⟨rfl, rfl⟩ := trodVars_none hV
  obtain ⟨a0, len, cap, rfl⟩ := okWide_slice Tryz.underlying22 (hval 0 22 v0 rfl rfl)
  obtain ⟨a, rfl⟩ := okWide_int Tryz.underlying5 (hval 1 5 v1 rfl rfl)
  obtain ⟨b, rfl⟩ := okWide_int Tryz.underlying5 (hval 2 5 v2 rfl rfl)
  obtain ⟨c, rfl⟩ := okWide_int Tryz.underlying5 (hval 3 5 v3 rfl rfl)
  clear hA0
  simp only [List.append_nil] at hW'
  have hsz : Sz Tryz.prog 22 d0 := fun n hn => hwt n (weightsEach_mem (i := 0) rfl rfl hn)
  obtain ⟨fuel, hd⟩ := h0
  obtain ⟨fuel1, hd1⟩ := h1
  obtain ⟨fuel2, hd2⟩ := h2
  obtain ⟨fuel3, hd3⟩ := h3
  obtain ⟨n1, e1, _, w1⟩ := DataW.trod_int Tryz.underlying5 hd1
  obtain ⟨n2, e2, _, w2⟩ := DataW.trod_int Tryz.underlying5 hd2
  obtain ⟨n3, e3, _, w3⟩ := DataW.trod_int Tryz.underlying5 hd3
  have e1 : a = n1 := by injection e1 with e1; injection e1
  have e2 : b = n2 := by injection e2 with e2; injection e2
  have e3 : c = n3 := by injection e3 with e3; injection e3
  subst e1 e2 e3
  refine (walk hL hS hd hsz w1 w2 w3).mono fun e W' ⟨he, hg⟩ => ?_
  subst he
  have hup0 : DataW.Trod enc Tryz.prog W' 0 (fun _ => true) true 22 (.slice a0 len cap) d0 p0 := ⟨fuel, DataW.trod_carry fuel _ _ _ hd (fun y hy => hg.same (DataW.trod_lt fuel _ _ _ hd y hy))⟩
  have hup1 : DataW.Trod enc Tryz.prog W' 0 (fun _ => true) true 5 (.int .u8 a) d1 p1 := ⟨fuel1, DataW.trod_carry fuel1 _ _ _ hd1 (fun y hy => hg.same (DataW.trod_lt fuel1 _ _ _ hd1 y hy))⟩
  have hup2 : DataW.Trod enc Tryz.prog W' 0 (fun _ => true) true 5 (.int .u8 b) d2 p2 := ⟨fuel2, DataW.trod_carry fuel2 _ _ _ hd2 (fun y hy => hg.same (DataW.trod_lt fuel2 _ _ _ hd2 y hy))⟩
  have hup3 : DataW.Trod enc Tryz.prog W' 0 (fun _ => true) true 5 (.int .u8 c) d3 p3 := ⟨fuel3, DataW.trod_carry fuel3 _ _ _ hd3 (fun y hy => hg.same (DataW.trod_lt fuel3 _ _ _ hd3 y hy))⟩
  have kr := argKids
  have sf := argFull
  exact ⟨_, rfl, post_of_below (pa := p0 ++ (p1 ++ (p2 ++ p3))) (pv := []) hW' (fun _ _ _ => (trodAll_cons_mk (shut_bool Tryz.underlying4 _) trodAll_mk0))
    (fun sp hsp => trodAll_mk4 (hup0.respare kr sf (.inl rfl) fun y hy => hsp y (by simp [hy])) (hup1.respare kr sf (.inr (.inr rfl)) fun y hy => hsp y (by simp [hy])) (hup2.respare kr sf (.inr (.inr rfl)) fun y hy => hsp y (by simp [hy])) (hup3.respare kr sf (.inr (.inr rfl)) fun y hy => hsp y (by simp [hy]))) (fun _ _ => rfl) (by simp)
    hg (ok_one (by kernel_rfl) rfl (okWide_bool_mk Tryz.underlying4 _))⟩
end Go.Proofs.YtolkehkjhpnioaaGreatDoor.deviceReads
