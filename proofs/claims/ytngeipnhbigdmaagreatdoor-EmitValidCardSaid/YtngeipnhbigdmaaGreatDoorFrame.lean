/- The walk of the function, and the contract that it gives. No statement of the seat stands here. -/
import Derived.Test.YtngeipnhbigdmaaGreatDoorFYv
import Derived.Test.YtngeipnhbigdmaaGreatDoorVZ
import Derived.Test.YtngeipnhbigdmaaGreatDoorRows
import Derived.WalkKit
import Derived.ProofKit
import Derived.OpenShut
import Derived.Below
import Derived.Lay
import Derived.ReadAgain
import Derived.Deep.DeepHandedRow
import Derived.Deep.DeepWitnessRowRef
import Derived.Lib.LaidTab
set_option linter.unusedVariables false
set_option linter.unusedSimpArgs false
namespace Go.Proofs.YtngeipnhbigdmaaGreatDoor.emitValid
open Go.ChangeShapes Go.WideShapes Go.ChangeAt Go.RowKit Go.HL Go.HL.Em Go.HL.Ev

theorem own : ownKnob Tryz.prog.godebug = none := by kernel_rfl
theorem gA : Tryz.prog.globalNamed "strings.asciiSpace" = some 0 := by kernel_rfl
theorem gAType : (Tryz.prog.globals[0]?).map (·.type) = some 401 := by kernel_rfl
theorem cells401 : Tryz.prog.cellsOf 401 = 256 := by kernel_rfl
theorem cells5 : Tryz.prog.cellsOf 5 = 1 := by kernel_rfl
theorem zero10 : (((begin Tryz.prog (fun _ _ => 0) default).world.heap[10]?).bind Obj.row?).isSome = true := by kernel_rfl
theorem laidOut : laidOutB Tryz.prog = true := by kernel_rfl
theorem rowed : mapsRowed Tryz.prog = true := by kernel_rfl
theorem full : ((List.range Tryz.prog.types.size).all fun t => match Tryz.prog.underlying t with | some (.slice e) => decide (0 < Tryz.prog.cellsOf e) | _ => true) = true := by kernel_rfl
theorem in26 : decide (26 < Tryz.prog.types.size) = true := by kernel_rfl
def asciiZ : List Int := tab0L.map Int.ofNat
theorem u8s_eq : ∀ l : List Nat, u8s l = l.map fun n => HVal.int .u8 (.ofNat n)
  | [] => rfl
  | _ :: l => by rw [u8s, u8s_eq l]; rfl

theorem laid_eq : (Rows.laid_strings_asciiSpace : DataW Unit) = Lib.tabData .u8 asciiZ := by kernel_rfl
/-- WHAT THE ROW's LIST GIVES: the cells of the table of blanks. -/
theorem table {W : World} (h : laidMetH Tryz.prog Rows.emitValidRow.laid W) : W.var? Tryz.prog "strings.asciiSpace" = some (asciiZ.map fun z => Value.int .u8 z).toArray := by
  have h0 : laidMet Tryz.prog Rows.emitValidRow.laid W := h
  obtain ⟨ps, hv, _⟩ := h0
  obtain ⟨g', t', cs, fuel, p, q, hg', ht', hvar, hd, _, _⟩ := hv
  obtain rfl := Option.some.inj (gA.symm.trans hg')
  obtain rfl := Option.some.inj (gAType.symm.trans ht')
  have hd2 : DataW.trod (fun _ => ()) Tryz.prog W 0 (fun _ => true) false fuel 401 cs.toList = some (Lib.tabData .u8 asciiZ, p) := by rw [← laid_eq]; exact hd
  rw [hvar, ← Lib.cells_of_tab Tryz.underlying401 Tryz.underlying5 cells5 cells401 hd2]

theorem gP : Tryz.prog.globalNamed "internal/strconv.uint64pow10" = some 4 := by kernel_rfl
theorem gPType : (Tryz.prog.globals[4]?).map (·.type) = some 449 := by kernel_rfl
theorem cells449 : Tryz.prog.cellsOf 449 = 20 := by kernel_rfl
theorem cells196 : Tryz.prog.cellsOf 196 = 1 := by kernel_rfl
theorem laid_eq2 : (Rows.laid_internal_strconv_uint64pow10 : DataW Unit) = Lib.tabData .u64 Lib.pow10Tab := by kernel_rfl
/-- .. and of the powers of ten. -/
theorem table2 {W : World} (h : laidMetH Tryz.prog Rows.emitValidRow.laid W) : W.var? Tryz.prog "internal/strconv.uint64pow10" = some (Lib.pow10Tab.map fun z => Value.int .u64 z).toArray := by
  have h0 : laidMet Tryz.prog Rows.emitValidRow.laid W := h
  obtain ⟨ps, hv, _⟩ := h0
  obtain ⟨_, _, _, _, _, q1, _, _, _, _, hv1, _⟩ := hv
  obtain ⟨_, _, _, _, _, q2, _, _, _, _, hv2, _⟩ := hv1
  obtain ⟨g', t', cs, fuel, p, q, hg', ht', hvar, hd, _, _⟩ := hv2
  obtain rfl := Option.some.inj (gP.symm.trans hg')
  obtain rfl := Option.some.inj (gPType.symm.trans ht')
  have hd2 : DataW.trod (fun _ => ()) Tryz.prog W 0 (fun _ => true) false fuel 449 cs.toList = some (Lib.tabData .u64 Lib.pow10Tab, p) := by rw [← laid_eq2]; exact hd
  rw [hvar, ← Lib.cells_of_tab Tryz.underlying449 Tryz.underlying196 cells196 cells449 hd2]

/-- A package-level variable's key stands for its block. -/
def places : Places := fun k => if k < 11 then some ⟨k, 0, 0, 0⟩ else none
noncomputable def heap0 : Heap := ⟨11, layOver .leaf [(0, tab0O), (4, powO)]⟩
theorem vrels_ints (σ : Places) (k : IntKind) : ∀ l : List Int, VRels σ (l.map fun z => HVal.int k z) (l.map fun z => Value.int k z)
  | [] => VRels.nil
  | _ :: l => VRels.cons rfl (vrels_ints σ k l)
theorem heap0_get (k : Nat) : heap0.get k = if k = 0 then some tab0O else if k = 4 then some powO else none := by
  show (layOver .leaf [(0, tab0O), (4, powO)]).get k = _
  rw [get_layOver]
  simp only [findK]
  split
  · rfl
  · split <;> rfl
theorem tab0_eq : tab0O = .cells (asciiZ.map fun z => HVal.int .u8 z) 0 false false := by
  unfold tab0O asciiZ
  rw [u8s_eq, List.map_map]; rfl
theorem pow_eq : powO = .cells (Lib.pow10Tab.map fun z => HVal.int .u64 z) 0 false false := by
  unfold powO powL Lib.pow10Tab
  rw [List.map_map]; rfl
theorem orel_tab {W : World} {name : String} {g : Nat} {zs : List Int} {k : IntKind} (hg : Tryz.prog.globalNamed name = some g) (hv : W.var? Tryz.prog name = some (zs.map fun z => Value.int k z).toArray) : ORel Tryz.prog places ⟨g, 0, 0, 0⟩ (.cells (zs.map fun z => HVal.int k z) 0 false false) W.heap[g]? := by
  unfold World.var? at hv
  rw [hg] at hv
  simp only [Option.bind_some] at hv
  split at hv
  · rename_i cs e fr hw
    obtain rfl := Option.some.inj hv
    refine ⟨_, e, fr, hw, ?_, fun x hx => ?_, fun h => absurd rfl h, (fun h => by cases h), fun _ => ⟨rfl, by simp⟩, (fun h => by cases h), .inl rfl⟩
    · have e1 : (List.drop 0 (zs.map fun z => Value.int k z)).take (zs.map fun z => HVal.int k z).length = zs.map fun z => Value.int k z := by
        rw [List.drop_zero, List.take_of_length_le (by simp)]
      show VRels places _ ((List.drop 0 (zs.map fun z => Value.int k z)).take (zs.map fun z => HVal.int k z).length)
      rw [e1]
      exact vrels_ints places k zs
    · obtain ⟨z, _, rfl⟩ := List.mem_map.1 hx
      rfl
  · cases hv
/-- HL's memory at the start stands for every world of the row. -/
theorem rel0 {W : World} (hL : laidMetH Tryz.prog Rows.emitValidRow.laid W) (hS : W.ShapedOpen Tryz.prog) : Rel Tryz.prog places heap0 W := by
  have hsize : 10 < W.heap.size := by
    obtain ⟨⟨zero, t⟩, hz⟩ := Option.isSome_iff_exists.1 zero10
    obtain ⟨cs, hh, _⟩ := hS.1 10 zero t (by rw [sizeG]; omega) hz
    exact (Array.getElem?_eq_some_iff.1 hh).1
  have hown : ∀ k o, heap0.get k = some o → k < 11 ∧ o.owned = false := by
    intro k o hk
    rw [heap0_get] at hk
    split at hk
    · cases hk; exact ⟨by omega, rfl⟩
    · split at hk
      · cases hk; exact ⟨by omega, rfl⟩
      · cases hk
  refine ⟨?_, ?_, ?_, ?_, ?_, ?_⟩
  · intro k o p hk _ hp
    rw [heap0_get] at hk
    split at hk
    · rename_i hk0
      subst hk0
      cases hk
      have hp' : p = ⟨0, 0, 0, 0⟩ := by simpa [places] using hp.symm
      subst hp'
      rw [tab0_eq]
      exact orel_tab gA (table hL)
    · split at hk
      · rename_i hk4
        subst hk4
        cases hk
        have hp' : p = ⟨4, 0, 0, 0⟩ := by simpa [places] using hp.symm
        subst hp'
        rw [pow_eq]
        exact orel_tab gP (table2 hL)
      · cases hk
  · intro k hk
    have : ¬ k < 11 := Nat.not_lt.2 hk
    simp [places, this]
  · intro k o hk
    exact (hown k o hk).1
  · intro k p hp
    unfold places at hp
    split at hp
    · cases hp
      show k < W.heap.size
      omega
    · cases hp
  · intro k k' o o' p p' hk hk' ho
    rw [(hown k o hk).2] at ho; cases ho
  · intro g hg
    rw [sizeG] at hg
    exact ⟨⟨g, 0, 0, 0⟩, by simp [places, hg], rfl, rfl⟩
theorem ls0 {W : World} (hL : laidMetH Tryz.prog Rows.emitValidRow.laid W) (hS : W.ShapedOpen Tryz.prog) : LS Tryz.prog W places heap0 := by
  refine ⟨rel0 hL hS, fun k hk => ?_, fun k o hk => ?_⟩
  · have hk : 11 ≤ k := hk
    rw [heap0_get, if_neg (by omega), if_neg (by omega)]
  · rw [heap0_get] at hk
    split at hk
    · cases hk; rfl
    · split at hk
      · cases hk; rfl
      · cases hk
theorem lies0 : (lies Ev.base).holds heap0 := by
  intro p hp
  have hp : p ∈ [(0, tab0O), (4, powO)] := hp
  rcases List.mem_cons.1 hp with rfl | hp
  · rw [heap0_get]; rfl
  · rw [List.mem_singleton.1 hp, heap0_get]; rfl

/-- THE WALK: of every code. -/
theorem walk {H : Type} {enc : TypeId × Value → H} {W : World} {fuel : Nat} {cs : Array Value} {x : DataW H × List MemPlace} (hL : laidMetH Tryz.prog Rows.emitValidRow.laid W) (hS : W.ShapedOpen Tryz.prog)
    (hd : DataW.trod enc Tryz.prog W 0 (fun _ => true) true fuel 26 cs.toList = some x) (hsz : Sz Tryz.prog 26 x.1) :
    Calls Tryz.prog 3 #[.agg cs] W fun e W' => e = .returned (.bool true) ∧ Below W.heap.size W W' := by
  obtain ⟨σ, h, f, s, _, hg, hv, hsc, ho⟩ := lift_code hd hsz places heap0 (ls0 hL hS)
  have hB : (lies Ev.base).holds h := fun p hp => hg.get (lies0 p hp)
  obtain ⟨v, h', d, rfl, _⟩ := valid_law Ev.k0_known k0_lib f.1 ho.2 f.2.1 f.2.2.1 f.2.2.2 h s.wf hB ho.1
  have hlt : 3 < roundNo := by unfold roundNo; omega
  refine (d.calls Ev.k0_sound hlt s.rel (vs := [.agg cs]) (VRels.cons ⟨cs.toList, rfl, hv, hsc⟩ VRels.nil)).mono fun e W' ⟨τ, st, hc⟩ => ?_
  obtain ⟨y, rfl, hy⟩ := hc
  have hy' : y = .bool true := hy
  subst hy'
  refine ⟨rfl, st.kept.os, st.kept.tape, st.kept.output, st.kept.size, fun b hb => st.kept.block b hb ?_⟩
  rintro ⟨k, o, p, hk, ho, _⟩
  rw [s.ro k o hk] at ho
  cases ho

theorem post_of_below {H : Type} {enc : TypeId × Value → H} {P : Program} {f : Func} {s : ChangeSpec} {apart fresh handsOn again : Bool} {W W' : World} {args : Array Value} {v : Value} {ds gs : List (DataW H)} {before pa pv : List MemPlace}
    (hW : DataW.Whole enc P f.params.toList s.vars apart W args.toList ds gs before)
    (hres : ∀ (b : Nat) (sp : Nat → Bool) (hd : Bool), DataW.TrodAll enc P W' b sp hd f.resultTypes.toList (v.resultList f.resultTypes.size) (s.fn H (ds ++ gs)).results [])
    (hargs : ∀ sp : Nat → Bool, (∀ p ∈ before, sp p.block = true) → DataW.TrodAll enc P W' 0 sp true f.params.toList args.toList (s.fn H (ds ++ gs)).args pa)
    (hvars : ∀ sp : Nat → Bool, (∀ p ∈ before, sp p.block = true) → DataW.TrodVars enc P W' sp s.vars (s.fn H (ds ++ gs)).vars pv)
    (hps : before = pa ++ pv) (hb : Below W.heap.size W W')
    (hok : ∀ (j : Nat) (t : TypeId) (r : Value), f.resultTypes[j]? = some t → (v.resultList f.resultTypes.size)[j]? = some r → Value.okWide P W' .any 0 t r) :
    s.post enc P f apart fresh handsOn again W args v W' := by
  have hlt : ∀ p ∈ before, p.block < W.heap.size := fun p hp => hW.lt p hp
  have hold : ∀ p ∈ before, (fun b => decide (b < W.heap.size)) p.block = true := fun p hp => by simpa using hlt p hp
  refine ⟨ds, gs, before, [], pa, pv, hW, hres _ _ _, hargs _ hold, hvars _ hold, World.keptBut_mono (fun p hp => ⟨hp, ?_⟩) (hb.frame (· ∈ before)), fun _ => ?_⟩
  · rw [hps, List.mem_append] at hp
    exact Or.inr hp
  · obtain ⟨_, _, _, _, _, hz, hn⟩ := hW
    refine ⟨hok, _, _, ([] ++ pa) ++ pv, ⟨[] ++ pa, pv, trodAll_append (hargs _ (fun _ _ => rfl)) (hres _ _ _), hvars _ (fun _ _ => rfl), rfl, ?_, ?_⟩, ?_⟩
    · intro b off hp
      have hp' : MemPlace.cell b off ∈ before := by rw [hps]; simpa using hp
      rw [hb.frozen (p := ⟨b, off, none⟩) (hlt _ hp')]
      exact hz b off hp'
    · intro ha
      have := hn ha
      rw [hps] at this
      simpa using this
    · intro p hp _
      rw [hps]
      simpa using hp

set_option maxRecDepth 100000 in
/-- WHAT THE WALK GIVES, FOR EVERY ARGUMENT AND EVERY WORLD THAT THE ROW LETS IN. -/
theorem contract (H : Type) (enc : TypeId × Value → H) (W : World) (base : Nat) (args : Array Value) (ds gs : List (DataW H)) (before : List MemPlace)
    (hval : ∀ (j : Nat) t v, Tryz.f3.params[j]? = some t → args[j]? = some v → Value.okWide Tryz.prog W .any base t v)
    (hW : DataW.Whole enc Tryz.prog Tryz.f3.params.toList Rows.emitValidSpec.vars false W args.toList ds gs before) (hwt : ∀ n ∈ DataW.weightsEach Tryz.prog Tryz.f3.params.toList ds, n ≤ reachBytes) (hL : laidMetH Tryz.prog Rows.emitValidRow.laid W) (hS : W.ShapedOpen Tryz.prog) :
    Calls Tryz.prog 3 args W fun e W' => ∃ v, e = .returned v ∧ Rows.emitValidSpec.post enc Tryz.prog Tryz.f3 false true false false W args v W' := by
  have hW' := hW
  obtain ⟨p, q, hA0, hV, rfl, hfz, hnd⟩ := hW
  have hA : DataW.TrodAll enc Tryz.prog W 0 (fun _ => true) true Tryz.f3.params.toList args.toList ds p := hA0
  rw [Tryz.params3] at hA hval hwt
  obtain ⟨v0, d0, rfl, rfl, h0⟩ := trodAll_one hA
  obtain ⟨rfl, rfl⟩ := trodVars_none hV
  obtain ⟨cs, rfl, _⟩ := okWide_struct Tryz.underlying26 (hval 0 26 v0 rfl rfl)
  clear hA0
  simp only [List.append_nil] at hW'
  have hsz : Sz Tryz.prog 26 d0 := fun n hn => hwt n (weightsEach_mem (i := 0) rfl rfl hn)
  obtain ⟨fuel, hd⟩ := h0
  refine (walk hL hS hd hsz).mono fun e W' ⟨he, hg⟩ => ?_
  subst he
  have hup : DataW.Trod enc Tryz.prog W' 0 (fun _ => true) true 26 (.agg cs) d0 p := ⟨fuel, DataW.trod_carry fuel _ _ _ hd (fun y hy => hg.same (DataW.trod_lt fuel _ _ _ hd y hy))⟩
  exact ⟨_, rfl, post_of_below (pa := p) (pv := []) hW' (fun _ _ _ => (trodAll_cons_mk (shut_bool Tryz.underlying4 _) trodAll_mk0))
    (fun sp hsp => trodAll_mk1 (hup.respare (kids_rows laidOut rowed) (slices_full_of _ full) (of_decide_eq_true in26) hsp)) (fun _ _ => rfl) (by simp)
    hg (ok_one (by kernel_rfl) rfl (okWide_bool_mk Tryz.underlying4 _))⟩
end Go.Proofs.YtngeipnhbigdmaaGreatDoor.emitValid
