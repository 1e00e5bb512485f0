/- PROVED: 'drawloom/drawloomlaw05.MeanNil' returns true for every argument, and its argument reads behind the call as it read before ('Rows.MeanNilCardSaid', the tied card).
   Its conditions are those of the given row: the five listed variables of Go's library start as the program's text lays them. The proof: the interpreter HL, sound for the model ('run_sound'), runs the function in the kernel, of the argument nothing known ('root_ok'). -/
import Derived.Test.YtanmclbppcbngaaGreatDoorRoot
import Derived.Test.YtanmclbppcbngaaGreatDoorCards
import Derived.Test.YtanmclbppcbngaaGreatDoorTie
import Derived.WalkKit
import Derived.ProofKit
import Derived.OpenShut
import Derived.Below
import Derived.Lay
import Derived.Deep.DeepHandedRow
import Derived.Deep.DeepWitnessRowRef
import Derived.Lib.LaidTab
namespace Go.Proofs.YtanmclbppcbngaaGreatDoor.meanNil
open Go.ChangeShapes Go.WideShapes Go.ChangeAt Go.RowKit Go.HL

theorem own : ownKnob Tryz.prog.godebug = none := by kernel_rfl
theorem gA : Tryz.prog.globalNamed "strings.asciiSpace" = some 0 := by kernel_rfl
theorem gAType : (Tryz.prog.globals[0]?).map (·.type) = some 283 := by kernel_rfl
theorem cells283 : Tryz.prog.cellsOf 283 = 256 := by kernel_rfl
theorem cells5 : Tryz.prog.cellsOf 5 = 1 := by kernel_rfl
theorem sizeG : Tryz.prog.globals.size = 6 := by kernel_rfl
theorem zero5 : (((begin Tryz.prog (fun _ _ => 0) default).world.heap[5]?).bind Obj.row?).isSome = true := by kernel_rfl
def asciiZ : List Int := asciiL.map Int.ofNat
theorem u8s_eq : ∀ l : List Nat, u8s l = l.map fun n => HVal.int .u8 (.ofNat n)
  | [] => rfl
  | _ :: l => by rw [u8s, u8s_eq l]; rfl

theorem laid_eq : (Rows.laid_strings_asciiSpace : DataW Unit) = Lib.tabData .u8 asciiZ := by kernel_rfl
/-- WHAT THE ROW's LIST GIVES: the cells of the table of blanks. -/
theorem table {W : World} (h : laidMetH Tryz.prog Rows.meanNilRow.laid W) : W.var? Tryz.prog "strings.asciiSpace" = some (asciiZ.map fun z => Value.int .u8 z).toArray := by
  have h0 : laidMet Tryz.prog Rows.meanNilRow.laid W := h
  obtain ⟨ps, hv, _⟩ := h0
  obtain ⟨_, _, _, _, _, q1, _, _, _, _, hv1, _⟩ := hv
  obtain ⟨_, _, _, _, _, q2, _, _, _, _, hv2, _⟩ := hv1
  obtain ⟨_, _, _, _, _, q3, _, _, _, _, hv3, _⟩ := hv2
  obtain ⟨_, _, _, _, _, q4, _, _, _, _, hv4, _⟩ := hv3
  obtain ⟨g', t', cs, fuel, p, q, hg', ht', hvar, hd, _, _⟩ := hv4
  obtain rfl := Option.some.inj (gA.symm.trans hg')
  obtain rfl := Option.some.inj (gAType.symm.trans ht')
  have hd2 : DataW.trod (fun _ => ()) Tryz.prog W 0 (fun _ => true) false fuel 283 cs.toList = some (Lib.tabData .u8 asciiZ, p) := by rw [← laid_eq]; exact hd
  rw [hvar, ← Lib.cells_of_tab Tryz.underlying283 Tryz.underlying5 cells5 cells283 hd2]

/-- A package-level variable's key stands for its block. -/
def places : Places := fun k => if k < 6 then some ⟨k, 0, 0, 0⟩ else none
theorem vrels_ints (σ : Places) : ∀ l : List Nat, VRels σ (u8s l) ((l.map Int.ofNat).map fun z => Value.int .u8 z)
  | [] => VRels.nil
  | _ :: l => VRels.cons rfl (vrels_ints σ l)
theorem scalars : ∀ l : List Nat, ∀ x ∈ u8s l, x.scalar = true
  | [], x, h => by cases h
  | _ :: l, x, h => by
    rcases List.mem_cons.1 h with rfl | h
    · rfl
    · exact scalars l x h
theorem u8s_length (l : List Nat) : (u8s l).length = l.length := by rw [u8s_eq]; simp
theorem heap0_get (k : Nat) : heap0.get k = if k = 0 then some asciiO else none := by
  show (layOver .leaf [(0, asciiO)]).get k = _
  rw [get_layOver]
  simp only [findK]
  split <;> rfl
/-- HL's memory at the start stands for every world of the row. -/
theorem rel0 {W : World} (hL : laidMetH Tryz.prog Rows.meanNilRow.laid W) (hS : W.ShapedOpen Tryz.prog) : Rel Tryz.prog places heap0 W := by
  have hsize : 5 < W.heap.size := by
    obtain ⟨⟨zero, t⟩, hz⟩ := Option.isSome_iff_exists.1 zero5
    obtain ⟨cs, hh, _⟩ := hS.1 5 zero t (by rw [sizeG]; omega) hz
    exact (Array.getElem?_eq_some_iff.1 hh).1
  refine ⟨?_, ?_, ?_, ?_, ?_, ?_⟩
  · intro k o p hk _ hp
    rw [heap0_get] at hk
    split at hk
    · rename_i hk0
      subst hk0
      cases hk
      have hp' : p = ⟨0, 0, 0, 0⟩ := by simpa [places] using hp.symm
      subst hp'
      have hv := table hL
      unfold World.var? at hv
      rw [gA] at hv
      simp only [Option.bind_some] at hv
      split at hv
      · rename_i cs e fr hw
        obtain rfl := Option.some.inj hv
        refine ⟨_, e, fr, hw, ?_, scalars asciiL, fun h => absurd rfl h, (fun h => by cases h), fun _ => ⟨rfl, ?_⟩, (fun h => by cases h), .inl rfl⟩
        · have e1 : (List.drop 0 (asciiZ.map fun z => Value.int .u8 z)).take (u8s asciiL).length = asciiZ.map fun z => Value.int .u8 z := by
            rw [List.drop_zero, List.take_of_length_le]
            rw [u8s_length]; simp [asciiZ]
          show VRels places (u8s asciiL) ((List.drop 0 (asciiZ.map fun z => Value.int .u8 z)).take (u8s asciiL).length)
          rw [e1]
          exact vrels_ints places asciiL
        · rw [u8s_length]; simp [asciiZ]
      · cases hv
    · cases hk
  · intro k hk
    have : ¬ k < 6 := Nat.not_lt.2 hk
    simp [places, this]
  · intro k o hk
    rw [heap0_get] at hk
    split at hk
    · rename_i hk0; subst hk0; exact Nat.zero_lt_succ 5
    · cases hk
  · intro k p hp
    unfold places at hp
    split at hp
    · cases hp
      show k < W.heap.size
      omega
    · cases hp
  · intro k k' o o' p p' hk hk' ho
    rw [heap0_get] at hk
    split at hk
    · cases hk; cases ho
    · cases hk
  · intro g hg
    rw [sizeG] at hg
    exact ⟨⟨g, 0, 0, 0⟩, by simp [places, hg], rfl, rfl⟩

theorem ents_sound : CallSound Tryz.prog (known ents) :=
  known_sound (fine_cons ent1_fine (fine_cons ent2_fine (fine_cons ent4_fine (fine_cons ent5_fine (fine_cons ent6_fine (fine_cons ent7_fine (fine_cons ent8_fine fine_nil)))))))
set_option maxRecDepth 1000000 in
theorem root_run : ∃ h', runH Tryz.prog (known ents) 100000 3 [.bad] heap0 = some (.ret (.bool true), h') := by
  have h := root_ok
  rw [runF_eq tb_ok] at h
  cases hr : runH Tryz.prog (known ents) 100000 3 [.bad] heap0 with
  | none => rw [hr] at h; cases h
  | some r =>
    obtain ⟨cr, h'⟩ := r
    rw [hr] at h
    cases cr with
    | pan v => cases h
    | ret v =>
      cases v with
      | bool b => have hb : b = true := h; subst hb; exact ⟨h', rfl⟩
      | _ => cases h

/-- THE WALK: by HL's run. -/
theorem walk (v : Value) {W : World} (hL : laidMetH Tryz.prog Rows.meanNilRow.laid W) (hS : W.ShapedOpen Tryz.prog) :
    Calls Tryz.prog 3 #[v] W fun e W' => e = .returned (.bool true) ∧ Below W.heap.size W W' := by
  obtain ⟨h', hr⟩ := root_run
  refine (run_sound ents_sound 100000 3 [.bad] heap0 _ h' hr places W [v] (rel0 hL hS) (VRels.cons trivial VRels.nil)).mono fun e W' ⟨τ, st, hc⟩ => ?_
  obtain ⟨x, rfl, hx⟩ := hc
  have hx' : x = .bool true := hx
  subst hx'
  refine ⟨rfl, st.kept.os, st.kept.tape, st.kept.output, st.kept.size, fun b hb => st.kept.block b hb ?_⟩
  rintro ⟨k, o, p, hk, ho, _⟩
  rw [heap0_get] at hk
  split at hk
  · cases hk; cases ho
  · cases hk

theorem post_of_below {H : Type} {enc : TypeId × Value → H} {P : Program} {f : Func} {s : ChangeSpec} {apart fresh handsOn again : Bool} {W W' : World} {args : Array Value} {v : Value} {ds gs : List (DataW H)} {before pa pv : List MemPlace}
    (hW : DataW.Whole enc P f.params.toList s.vars apart W args.toList ds gs before)
    (hres : ∀ (b : Nat) (sp : Nat → Bool) (hd : Bool), DataW.TrodAll enc P W' b sp hd f.resultTypes.toList (v.resultList f.resultTypes.size) (s.fn H (ds ++ gs)).results [])
    (hargs : ∀ sp : Nat → Bool, (∀ p ∈ before, sp p.block = true) → DataW.TrodAll enc P W' 0 sp true f.params.toList args.toList (s.fn H (ds ++ gs)).args pa)
    (hvars : ∀ sp : Nat → Bool, (∀ p ∈ before, sp p.block = true) → DataW.TrodVars enc P W' sp s.vars (s.fn H (ds ++ gs)).vars pv)
    (hps : before = pa ++ pv) (hb : Below W.heap.size W W')
    (hok : ∀ (j : Nat) (t : TypeId) (r : Value), f.resultTypes[j]? = some t → (v.resultList f.resultTypes.size)[j]? = some r → Value.okWide P W' .any 0 t r) :
    s.post enc P f apart fresh handsOn again W args v W' := by
  have hlt : ∀ p ∈ before, p.block < W.heap.size := fun p hp => hW.lt p hp
  have hold : ∀ p ∈ before, (fun b => decide (b < W.heap.size)) p.block = true := fun p hp => by simpa using hlt p hp
  refine ⟨ds, gs, before, [], pa, pv, hW, hres _ _ _, hargs _ hold, hvars _ hold, World.keptBut_mono (fun p hp => ⟨hp, ?_⟩) (hb.frame (· ∈ before)), fun _ => ?_⟩
  · rw [hps, List.mem_append] at hp
    exact Or.inr hp
  · obtain ⟨_, _, _, _, _, hz, hn⟩ := hW
    refine ⟨hok, _, _, ([] ++ pa) ++ pv, ⟨[] ++ pa, pv, trodAll_append (hargs _ (fun _ _ => rfl)) (hres _ _ _), hvars _ (fun _ _ => rfl), rfl, ?_, ?_⟩, ?_⟩
    · intro b off hp
      have hp' : MemPlace.cell b off ∈ before := by rw [hps]; simpa using hp
      rw [hb.frozen (p := ⟨b, off, none⟩) (hlt _ hp')]
      exact hz b off hp'
    · intro ha
      have := hn ha
      rw [hps] at this
      simpa using this
    · intro p hp _
      rw [hps]
      simpa using hp

set_option maxRecDepth 100000 in
/-- WHAT THE WALK GIVES, FOR EVERY ARGUMENT AND EVERY WORLD THAT THE ROW LETS IN. -/
theorem contract (H : Type) (enc : TypeId × Value → H) (W : World) (base : Nat) (args : Array Value) (ds gs : List (DataW H)) (before : List MemPlace)
    (hval : ∀ (j : Nat) t v, Tryz.f3.params[j]? = some t → args[j]? = some v → Value.okWide Tryz.prog W .any base t v)
    (hW : DataW.Whole enc Tryz.prog Tryz.f3.params.toList Rows.meanNilSpec.vars false W args.toList ds gs before) (hL : laidMetH Tryz.prog Rows.meanNilRow.laid W) (hS : W.ShapedOpen Tryz.prog) :
    Calls Tryz.prog 3 args W fun e W' => ∃ v, e = .returned v ∧ Rows.meanNilSpec.post enc Tryz.prog Tryz.f3 false true false false W args v W' := by
  have hW' := hW
  obtain ⟨p, q, hA0, hV, rfl, hfz, hnd⟩ := hW
  have hA : DataW.TrodAll enc Tryz.prog W 0 (fun _ => true) true Tryz.f3.params.toList args.toList ds p := hA0
  rw [Tryz.params3] at hA hval
  obtain ⟨v0, vs0, d0, ds0, p0, q0, hargs, rfl, rfl, h0, r0⟩ := trodAll_cons hA
  obtain ⟨rfl, rfl, rfl⟩ := trodAll_nil r0
  obtain rfl : args = #[v0] := by cases args; simp_all
  obtain ⟨rfl, rfl⟩ := trodVars_none hV
  obtain ⟨a0, rfl, rfl, rfl, w0⟩ := open_int Tryz.underlying3 (hval 0 3 v0 rfl rfl) h0
  clear hA0
  simp only [List.append_nil] at hW'
  refine (walk (.int .i64 a0) hL hS).mono fun e W' ⟨he, hg⟩ => ?_
  subst he
  exact ⟨_, rfl, post_of_below (pa := []) (pv := []) hW' (fun _ _ _ => (trodAll_cons_mk (shut_bool Tryz.underlying4 _) trodAll_mk0)) (fun sp _ => (trodAll_cons_mk (shut_int Tryz.underlying3 w0) trodAll_mk0)) (fun _ _ => rfl) rfl
    hg (ok_one (by kernel_rfl) rfl (okWide_bool_mk Tryz.underlying4 _))⟩

/-- A WORLD FOR THE WITNESS: the listed variables laid. -/
noncomputable abbrev laidWorld (os : Os) : World := World.laidAll Tryz.prog os Rows.meanNilRow.laid
set_option maxRecDepth 1000000 in
theorem laid_met (os : Os) (args : Array Value) : laidMet Tryz.prog Rows.meanNilRow.laid ((laidWorld os).forCall (fun _ _ => 0) ⟨#[], args, []⟩).memory :=
  laidMet_laidAll _ (by kernel_rfl) (by kernel_rfl)
set_option maxRecDepth 1000000 in
theorem reads (os : Os) {H : Type} (enc : TypeId × Value → H) : ∃ places, DataW.whole enc Tryz.prog ((laidWorld os).forCall (fun _ _ => 0) ⟨#[], #[.int .i64 0], []⟩).memory Tryz.f3.params.toList Rows.meanNilSpec.vars false #[Value.int .i64 0].toList 8 = some ([.lit (.int .i64 0)], [], places) :=
  ⟨[], by kernel_rfl⟩

set_option maxRecDepth 100000 in
theorem lifted (os : Os) (started : os.Started) (H : Type) (enc : TypeId × Value → H) (F : Stop.Interp) :
    ReturnsInHanded {} Tryz.checked os 3 .any ((OpenSpec.ofChange Rows.meanNilSpec).preRow enc Tryz.prog Tryz.f3 Rows.meanNilRow.domain false Rows.meanNilRow.laid) (((OpenSpec.ofChange Rows.meanNilSpec).at F).post enc Tryz.prog Tryz.f3 false true false false) := by
  obtain ⟨places, hx⟩ := reads os enc
  refine returnsInHanded_of_row (C := Tryz.checked) (s := OpenSpec.ofChange Rows.meanNilSpec) own started (by kernel_rfl) Tryz.func3
    (witness_row_atRef (enc := enc) (C := Tryz.checked) false (laidWorld os) #[.int .i64 0] (World.laidAll_os _ _ _) (by kernel_rfl) (by kernel_rfl) (by kernel_rfl)
      (OpenSpec.preRow_of_cond 8 hx (by kernel_rfl) (fun k hk => by cases hk) (by kernel_rfl) (laid_met os _))) ?_
  intro W base args ds gs before hval hW _ _ _ hL hS _
  exact contract H enc W base args ds gs before hval hW hL hS

theorem said : Rows.MeanNilSaid :=
  OpenClaim.holds_of_cond 3 Tryz.f3 rfl rfl rfl rfl rfl rfl rfl ⟨rfl, rfl, rfl, rfl, rfl⟩ rfl rfl rfl rfl rfl (by kernel_rfl) Tryz.func3 (by kernel_rfl)
    (of_decide_eq_true (by kernel_rfl)) (by unfold Func.isWrapper; first | (rw [if_pos (by decide +kernel)]; kernel_rfl) | (rw [if_neg (by decide +kernel)]; exact ⟨rfl, rfl⟩))
    (fun os started H enc _ F => by rw [OpenClaim.pre_eq_preRow]; exact lifted os started H enc F)

/-- No parameter wants a stand-in; the program's own looks are on: what the card asks. -/
theorem plain (f : FuncId) (fn : Func) (hf : Tryz.pinned.checked.prog.funcNamed "drawloom/drawloomlaw05.MeanNil" = some f) (hfn : Tryz.pinned.checked.prog.funcs[f]? = some fn) :
    true = Tryz.pinned.checked.prog.looks [] ∧ ∀ (j : Nat) t, fn.params[j]? = some t → Tryz.pinned.checked.prog.wantsStandIn t = false := by
  obtain rfl : f = 3 := Option.some.inj ((show Tryz.prog.funcNamed "drawloom/drawloomlaw05.MeanNil" = some 3 by kernel_rfl).symm.trans hf) |>.symm
  obtain rfl : fn = Tryz.f3 := (Option.some.inj (Tryz.func3.symm.trans hfn)).symm
  refine ⟨by kernel_rfl, fun j t ht => ?_⟩
  rw [Tryz.params3] at ht
  obtain rfl : t = 3 := by simpa using Array.mem_of_getElem? ht
  exact (show Tryz.prog.wantsStandIn 3 = false by kernel_rfl)

/-- ████ THE CARD ████ -/
theorem card : Rows.MeanNilCardSaid :=
  Claim7.holds_tied_plain_at .later [] _ _ _ _ said (fun _ h => by cases h) (by kernel_rfl) (fun _ h => by cases h) meanNil_row_tie rfl ⟨rfl, rfl⟩ (by kernel_rfl) rfl plain (by kernel_rfl)
#print axioms card
end Go.Proofs.YtanmclbppcbngaaGreatDoor.meanNil
