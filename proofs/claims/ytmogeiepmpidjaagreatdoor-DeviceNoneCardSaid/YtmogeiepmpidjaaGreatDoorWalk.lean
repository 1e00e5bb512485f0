/- The walk of the function by HL, and the contract that it gives. No statement of the seat stands here. -/
import Derived.Test.YtmogeiepmpidjaaGreatDoorRoot
import Derived.Test.YtmogeiepmpidjaaGreatDoorRows
import Derived.WalkKit
import Derived.ProofKit
import Derived.OpenShut
import Derived.Below
import Derived.Lay
import Derived.ChangeMaps5
import Derived.Deep.DeepHandedRow
import Derived.Deep.DeepWitnessRowRef
import Derived.Lib.LaidTab
namespace Go.Proofs.YtmogeiepmpidjaaGreatDoor.deviceNone
open Go.ChangeShapes Go.WideShapes Go.ChangeAt Go.RowKit Go.HL

theorem own : ownKnob Tryz.prog.godebug = none := by kernel_rfl
theorem gB : Tryz.prog.globalNamed "math/bits.deBruijn32tab" = some 4 := by kernel_rfl
theorem gA : Tryz.prog.globalNamed "strings.asciiSpace" = some 8 := by kernel_rfl
theorem gBType : (Tryz.prog.globals[4]?).map (·.type) = some 542 := by kernel_rfl
theorem gAType : (Tryz.prog.globals[8]?).map (·.type) = some 544 := by kernel_rfl
theorem cells542 : Tryz.prog.cellsOf 542 = 32 := by kernel_rfl
theorem cells544 : Tryz.prog.cellsOf 544 = 256 := by kernel_rfl
theorem cells5 : Tryz.prog.cellsOf 5 = 1 := by kernel_rfl
theorem sizeG : Tryz.prog.globals.size = 11 := by kernel_rfl
theorem zero10 : (((begin Tryz.prog (fun _ _ => 0) default).world.heap[10]?).bind Obj.row?).isSome = true := by kernel_rfl
def zs (l : List Nat) : List Int := l.map Int.ofNat
theorem laidA : (Rows.laid_strings_asciiSpace : DataW Unit) = Lib.tabData .u8 (zs tab8L) := by kernel_rfl
theorem laidB : (Rows.laid_math_bits_deBruijn32tab : DataW Unit) = Lib.tabData .u8 (zs tab4L) := by kernel_rfl
theorem noHandles : (Rows.deviceNoneRow.laid.filter fun x => x.2.handleName?.isSome) = [] := by kernel_rfl
theorem plainLaid {W : World} (h : laidMetH Tryz.prog Rows.deviceNoneRow.laid W) : laidMet Tryz.prog Rows.deviceNoneRow.laid W := by
  unfold laidMetH at h
  rw [noHandles] at h
  exact h
/-- a listed variable reads as the list says -/
theorem laid_at {W : World} {n : String} {d : DataW Unit} : ∀ {l : List (String × DataW Unit)} {ps : List MemPlace}, DataW.LaidVars Tryz.prog W l ps → (n, d) ∈ l →
    ∃ g t cs fuel p, Tryz.prog.globalNamed n = some g ∧ (Tryz.prog.globals[g]?).map (·.type) = some t ∧ W.var? Tryz.prog n = some cs ∧ DataW.trod (fun _ => ()) Tryz.prog W 0 (fun _ => true) false fuel t cs.toList = some (d, p)
  | [], _, _, hm => by cases hm
  | (m, e) :: l, ps, h, hm => by
    obtain ⟨g, t, cs, fuel, p, q, h1, h2, h3, h4, h5, _⟩ := h
    rcases List.mem_cons.1 hm with he | hm
    · cases he; exact ⟨g, t, cs, fuel, p, h1, h2, h3, h4⟩
    · exact laid_at h5 hm
/-- WHAT THE ROW's LIST GIVES: the cells of the two tables. -/
theorem tableA {W : World} (h : laidMetH Tryz.prog Rows.deviceNoneRow.laid W) : W.var? Tryz.prog "strings.asciiSpace" = some ((zs tab8L).map fun z => Value.int .u8 z).toArray := by
  obtain ⟨ps, hv, _⟩ := plainLaid h
  obtain ⟨g', t', cs, fuel, p, hg', ht', hvar, hd⟩ := laid_at (n := "strings.asciiSpace") (d := Rows.laid_strings_asciiSpace) hv (by simp [Rows.deviceNoneRow])
  obtain rfl := Option.some.inj (gA.symm.trans hg')
  obtain rfl := Option.some.inj (gAType.symm.trans ht')
  rw [laidA] at hd
  rw [hvar, ← Lib.cells_of_tab Tryz.underlying544 Tryz.underlying5 cells5 cells544 hd]
theorem tableB {W : World} (h : laidMetH Tryz.prog Rows.deviceNoneRow.laid W) : W.var? Tryz.prog "math/bits.deBruijn32tab" = some ((zs tab4L).map fun z => Value.int .u8 z).toArray := by
  obtain ⟨ps, hv, _⟩ := plainLaid h
  obtain ⟨g', t', cs, fuel, p, hg', ht', hvar, hd⟩ := laid_at (n := "math/bits.deBruijn32tab") (d := Rows.laid_math_bits_deBruijn32tab) hv (by simp [Rows.deviceNoneRow])
  obtain rfl := Option.some.inj (gB.symm.trans hg')
  obtain rfl := Option.some.inj (gBType.symm.trans ht')
  rw [laidB] at hd
  rw [hvar, ← Lib.cells_of_tab Tryz.underlying542 Tryz.underlying5 cells5 cells542 hd]

/-- A package-level variable's key stands for its block. -/
def places : Places := fun k => if k < 11 then some ⟨k, 0, 0, 0⟩ else none
theorem vrels_ints (σ : Places) : ∀ l : List Nat, VRels σ (u8s l) ((zs l).map fun z => Value.int .u8 z)
  | [] => VRels.nil
  | _ :: l => VRels.cons rfl (vrels_ints σ l)
theorem scalars : ∀ l : List Nat, ∀ x ∈ u8s l, x.scalar = true
  | [], x, h => by cases h
  | _ :: l, x, h => by
    rcases List.mem_cons.1 h with rfl | h
    · rfl
    · exact scalars l x h
theorem u8s_length : ∀ l : List Nat, (u8s l).length = l.length
  | [] => rfl
  | _ :: l => by simp [u8s, u8s_length l]
theorem heap0_get (k : Nat) : heap0.get k = if k = 4 then some tab4O else if k = 8 then some tab8O else none := by
  show (layOver .leaf [(4, tab4O), (8, tab8O)]).get k = _
  rw [get_layOver]
  simp only [findK]
  split
  · rfl
  · split <;> rfl
theorem heap0_some {k : Nat} {o : HObj} (h : heap0.get k = some o) : k = 4 ∧ o = tab4O ∨ k = 8 ∧ o = tab8O := by
  rw [heap0_get] at h
  split at h
  · rename_i e; cases h; exact .inl ⟨e, rfl⟩
  · split at h
    · rename_i e; cases h; exact .inr ⟨e, rfl⟩
    · cases h
theorem tab_rel {W : World} {name : String} {g : Nat} {l : List Nat} (hg : Tryz.prog.globalNamed name = some g) (hv : W.var? Tryz.prog name = some ((zs l).map fun z => Value.int .u8 z).toArray) :
    ORel Tryz.prog places ⟨g, 0, 0, 0⟩ (.cells (u8s l) 0 false false) W.heap[g]? := by
  unfold World.var? at hv
  rw [hg] at hv
  simp only [Option.bind_some] at hv
  split at hv
  · rename_i cs e fr hw
    obtain rfl := Option.some.inj hv
    refine ⟨_, e, fr, hw, ?_, scalars l, fun h => absurd rfl h, (fun h => by cases h), fun _ => ⟨rfl, ?_⟩, (fun h => by cases h), .inl rfl⟩
    · have e1 : (List.drop 0 ((zs l).map fun z => Value.int .u8 z)).take (u8s l).length = (zs l).map fun z => Value.int .u8 z := by
        rw [List.drop_zero, List.take_of_length_le]
        rw [u8s_length]; simp [zs]
      show VRels places (u8s l) ((List.drop 0 ((zs l).map fun z => Value.int .u8 z)).take (u8s l).length)
      rw [e1]
      exact vrels_ints places l
    · rw [u8s_length]; simp [zs]
  · cases hv
/-- HL's memory at the start stands for every world of the row. -/
theorem rel0 {W : World} (hL : laidMetH Tryz.prog Rows.deviceNoneRow.laid W) (hS : W.ShapedOpen Tryz.prog) : Rel Tryz.prog places heap0 W := by
  have hsize : 10 < W.heap.size := by
    obtain ⟨⟨zero, t⟩, hz⟩ := Option.isSome_iff_exists.1 zero10
    obtain ⟨cs, hh, _⟩ := hS.1 10 zero t (by rw [sizeG]; omega) hz
    exact (Array.getElem?_eq_some_iff.1 hh).1
  refine ⟨?_, ?_, ?_, ?_, ?_, ?_⟩
  · intro k o p hk _ hp
    rcases heap0_some hk with ⟨rfl, rfl⟩ | ⟨rfl, rfl⟩
    · have hp' : p = ⟨4, 0, 0, 0⟩ := by simpa [places] using hp.symm
      subst hp'
      exact tab_rel gB (tableB hL)
    · have hp' : p = ⟨8, 0, 0, 0⟩ := by simpa [places] using hp.symm
      subst hp'
      exact tab_rel gA (tableA hL)
  · intro k hk
    have : ¬ k < 11 := Nat.not_lt.2 hk
    simp [places, this]
  · intro k o hk
    show k < 11
    rcases heap0_some hk with ⟨rfl, _⟩ | ⟨rfl, _⟩ <;> omega
  · intro k p hp
    unfold places at hp
    split at hp
    · cases hp
      show k < W.heap.size
      omega
    · cases hp
  · intro k k' o o' p p' hk hk' ho
    rcases heap0_some hk with ⟨_, rfl⟩ | ⟨_, rfl⟩ <;> cases ho
  · intro g hg
    rw [sizeG] at hg
    exact ⟨⟨g, 0, 0, 0⟩, by simp [places, hg], rfl, rfl⟩

set_option maxRecDepth 1000000 in
theorem root_run {x : HVal} (h : runs x = true) : ∃ h', runH Tryz.prog (known ents) 100000 3 [.bad, x] heap0 = some (.ret (.bool true), h') := by
  unfold runs at h
  rw [runF_eq tb_ok] at h
  cases hr : runH Tryz.prog (known ents) 100000 3 [.bad, x] heap0 with
  | none => rw [hr] at h; cases h
  | some r =>
    obtain ⟨cr, h'⟩ := r
    rw [hr] at h
    cases cr with
    | pan v => cases h
    | ret v =>
      cases v with
      | bool b => have hb : b = true := h; subst hb; exact ⟨h', rfl⟩
      | _ => cases h
/-- Of every number of the kind a run is there. -/
theorem run_for (n : Int) (h1 : -9223372036854775808 ≤ n) (h2 : n ≤ 9223372036854775807) : ∃ x : HVal, VRel places x (.int .i64 n) ∧ runs x = true := by
  by_cases a : n < 0
  · exact ⟨.rng .i64 (-9223372036854775808) (-1), ⟨n, rfl, h1, by omega⟩, root_neg⟩
  · by_cases b : 3 ≤ n
    · exact ⟨.rng .i64 3 9223372036854775807, ⟨n, rfl, b, h2⟩, root_big⟩
    · have : n = 0 ∨ n = 1 ∨ n = 2 := by omega
      rcases this with rfl | rfl | rfl
      · exact ⟨.int .i64 (.ofNat 0), rfl, root_0⟩
      · exact ⟨.int .i64 (.ofNat 1), rfl, root_1⟩
      · exact ⟨.int .i64 (.ofNat 2), rfl, root_2⟩

/-- THE WALK: by HL's runs. -/
theorem walk (v : Value) (n : Int) (h1 : -9223372036854775808 ≤ n) (h2 : n ≤ 9223372036854775807) {W : World} (hL : laidMetH Tryz.prog Rows.deviceNoneRow.laid W) (hS : W.ShapedOpen Tryz.prog) :
    Calls Tryz.prog 3 #[v, .int .i64 n] W fun e W' => e = .returned (.bool true) ∧ Below W.heap.size W W' := by
  obtain ⟨x, hx, hrun⟩ := run_for n h1 h2
  obtain ⟨h', hr⟩ := root_run hrun
  have hlt : 3 < roundNo := by unfold roundNo; omega
  refine ((run_sound ents_sound 100000 3 [.bad, x] heap0 _ h' hr places W [v, .int .i64 n] (rel0 hL hS) (VRels.cons trivial (VRels.cons hx VRels.nil))).1 hlt).mono fun e W' ⟨τ, st, hc⟩ => ?_
  obtain ⟨y, rfl, hy⟩ := hc
  have hy' : y = .bool true := hy
  subst hy'
  refine ⟨rfl, st.kept.os, st.kept.tape, st.kept.output, st.kept.size, fun b hb => st.kept.block b hb ?_⟩
  rintro ⟨k, o, p, hk, ho, _⟩
  rcases heap0_some hk with ⟨_, rfl⟩ | ⟨_, rfl⟩ <;> cases ho

theorem post_of_below {H : Type} {enc : TypeId × Value → H} {P : Program} {f : Func} {s : ChangeSpec} {apart fresh handsOn again : Bool} {W W' : World} {args : Array Value} {v : Value} {ds gs : List (DataW H)} {before pa pv : List MemPlace}
    (hW : DataW.Whole enc P f.params.toList s.vars apart W args.toList ds gs before)
    (hres : ∀ (b : Nat) (sp : Nat → Bool) (hd : Bool), DataW.TrodAll enc P W' b sp hd f.resultTypes.toList (v.resultList f.resultTypes.size) (s.fn H (ds ++ gs)).results [])
    (hargs : ∀ sp : Nat → Bool, (∀ p ∈ before, sp p.block = true) → DataW.TrodAll enc P W' 0 sp true f.params.toList args.toList (s.fn H (ds ++ gs)).args pa)
    (hvars : ∀ sp : Nat → Bool, (∀ p ∈ before, sp p.block = true) → DataW.TrodVars enc P W' sp s.vars (s.fn H (ds ++ gs)).vars pv)
    (hps : before = pa ++ pv) (hb : Below W.heap.size W W')
    (hok : ∀ (j : Nat) (t : TypeId) (r : Value), f.resultTypes[j]? = some t → (v.resultList f.resultTypes.size)[j]? = some r → Value.okWide P W' .any 0 t r) :
    s.post enc P f apart fresh handsOn again W args v W' := by
  have hlt : ∀ p ∈ before, p.block < W.heap.size := fun p hp => hW.lt p hp
  have hold : ∀ p ∈ before, (fun b => decide (b < W.heap.size)) p.block = true := fun p hp => by simpa using hlt p hp
  refine ⟨ds, gs, before, [], pa, pv, hW, hres _ _ _, hargs _ hold, hvars _ hold, World.keptBut_mono (fun p hp => ⟨hp, ?_⟩) (hb.frame (· ∈ before)), fun _ => ?_⟩
  · rw [hps, List.mem_append] at hp
    exact Or.inr hp
  · obtain ⟨_, _, _, _, _, hz, hn⟩ := hW
    refine ⟨hok, _, _, ([] ++ pa) ++ pv, ⟨[] ++ pa, pv, trodAll_append (hargs _ (fun _ _ => rfl)) (hres _ _ _), hvars _ (fun _ _ => rfl), rfl, ?_, ?_⟩, ?_⟩
    · intro b off hp
      have hp' : MemPlace.cell b off ∈ before := by rw [hps]; simpa using hp
      rw [hb.frozen (p := ⟨b, off, none⟩) (hlt _ hp')]
      exact hz b off hp'
    · intro ha
      have := hn ha
      rw [hps] at this
      simpa using this
    · intro p hp _
      rw [hps]
      simpa using hp

set_option maxRecDepth 100000 in
/-- WHAT THE WALK GIVES, FOR EVERY ARGUMENT AND EVERY WORLD THAT THE ROW LETS IN. -/
theorem contract (H : Type) (enc : TypeId × Value → H) (W : World) (base : Nat) (args : Array Value) (ds gs : List (DataW H)) (before : List MemPlace)
    (hval : ∀ (j : Nat) t v, Tryz.f3.params[j]? = some t → args[j]? = some v → Value.okWide Tryz.prog W .any base t v)
    (hW : DataW.Whole enc Tryz.prog Tryz.f3.params.toList Rows.deviceNoneSpec.vars false W args.toList ds gs before) (hL : laidMetH Tryz.prog Rows.deviceNoneRow.laid W) (hS : W.ShapedOpen Tryz.prog) :
    Calls Tryz.prog 3 args W fun e W' => ∃ v, e = .returned v ∧ Rows.deviceNoneSpec.post enc Tryz.prog Tryz.f3 false true false false W args v W' := by
  have hW' := hW
  obtain ⟨p, q, hA0, hV, rfl, hfz, hnd⟩ := hW
  have hA : DataW.TrodAll enc Tryz.prog W 0 (fun _ => true) true Tryz.f3.params.toList args.toList ds p := hA0
  rw [Tryz.params3] at hA hval
  obtain ⟨v0, vs0, d0, ds0, p0, q0, hargs, rfl, rfl, h0, r0⟩ := trodAll_cons hA
  obtain ⟨v1, vs1, d1, ds1, p1, q1, hargs1, rfl, rfl, h1, r1⟩ := trodAll_cons r0
  obtain ⟨rfl, rfl, rfl⟩ := trodAll_nil r1
  obtain rfl : args = #[v0, v1] := by cases args; simp_all
  obtain ⟨rfl, rfl⟩ := trodVars_none hV
  obtain ⟨s0, rfl, rfl, rfl, w0⟩ := ChangeMaps.open_string Tryz.underlying9 (hval 0 9 v0 rfl rfl) h0
  obtain ⟨a1, rfl, rfl, rfl, w1⟩ := open_int Tryz.underlying3 (hval 1 3 v1 rfl rfl) h1
  clear hA0
  simp only [List.append_nil] at hW'
  have hb : -9223372036854775808 ≤ a1 ∧ a1 ≤ 9223372036854775807 := by
    have hw := w1
    simp only [Lit.wf, Bool.and_eq_true, decide_eq_true_eq] at hw
    exact hw
  refine (walk (.string s0) a1 hb.1 hb.2 hL hS).mono fun e W' ⟨he, hg⟩ => ?_
  subst he
  exact ⟨_, rfl, post_of_below (pa := []) (pv := []) hW' (fun _ _ _ => (trodAll_cons_mk (shut_bool Tryz.underlying4 _) trodAll_mk0))
    (fun sp _ => (trodAll_cons_mk (ChangeMaps.shut_string Tryz.underlying9 w0) (trodAll_cons_mk (shut_int Tryz.underlying3 w1) trodAll_mk0))) (fun _ _ => rfl) rfl
    hg (ok_one (by kernel_rfl) rfl (okWide_bool_mk Tryz.underlying4 _))⟩

end Go.Proofs.YtmogeiepmpidjaaGreatDoor.deviceNone
