/- The argument, words as data, laid into HL's memory. No statement of the seat stands here. -/
import Derived.Test.YtngeipnhbigdmaaGreatDoorSC
import Derived.Test.YtngeipnhbigdmaaGreatDoorMA
import Derived.Test.YtngeipnhbigdmaaGreatDoorChecked
set_option linter.unusedVariables false
set_option linter.unusedSimpArgs false
namespace Go.HL
open Go Go.Deep Go.Proofs
noncomputable section
section
variable {P : Program} {W : World}
theorem lift_sliceF {H : Type} {enc : TypeId × Value → H} {α : Type} {cells : α → List HVal} {Ok : Heap → α → Prop} {t e w : Nat} (ht : P.underlying t = some (.slice e)) (hw : P.cellsOf e = w) (hw0 : 0 < w) (hcells : ∀ a, (cells a).length = w) (hst : Stays Ok)
    (hby : 0 < P.bytesOf e) (helem : ∀ n cs x, DataW.trod enc P W 0 (fun _ => true) true n e cs = some x → Sz P e x.1 → Lift P W cells Ok cs) {fuel : Nat} {cs : List Value} {x : DataW H × List MemPlace} (hd : DataW.trod enc P W 0 (fun _ => true) true fuel t cs = some x) (hsz : Sz P t x.1) :
    Lift P W (fun p : List α × HVal => [p.2]) (fun h p => SliceAt h p.2 w (p.1.map cells) ∧ p.1.length ≤ 1152921504606846976 ∧ FreeAt h p.2 ∧ ∀ a ∈ p.1, Ok h a) cs := by
  rcases open_slice ht hd with ⟨rfl, _⟩ | ⟨a, len, cap, m, n, D, Pl, rfl, hb, hl, hm, hmm, hxe, hx⟩
  · exact .here ([], .nils) (fun σ => VRels.cons rfl VRels.nil) (fun x hx => by simp at hx; subst hx; rfl) fun h => ⟨sliceAt_nils, by simp, .nils, fun a ha => by cases ha⟩
  · have hmc : m = cap := by simpa using hmm
    subst hmc
    rw [hxe] at hsz
    obtain ⟨hz1, hz2⟩ := sz_slice ht hsz
    by_cases hl0 : len = 0
    · subst hl0
      refine .here ([], .empty) (fun σ => VRels.cons ⟨a, m, rfl⟩ VRels.nil) (fun x hx => by simp at hx; subst hx; rfl) fun h => ⟨⟨rfl, fun i r hr => by simp at hr⟩, by simp, .empty, fun a ha => by cases ha⟩
    · rw [hw] at hx
      obtain ⟨CS, hCS⟩ := choose_lt (α := List Value) (p := fun i c => W.cells? 0 (a.add (i * w)) w = some c ∧ DataW.trod enc P W 0 (fun _ => true) true n e c = some (D i, Pl i)) (n := len) (fun i hi => hx i (by omega))
      -- the block
      have h0 := World.cells?_some (hCS 0 (by omega)).1
      have hc0 : ∃ v, W.cell? ((a.add (0 * w)).add 0) = some v := by
        rw [h0.2.2 0 hw0]
        exact ⟨_, List.getElem?_eq_getElem (by rw [h0.2.1]; exact hw0)⟩
      have ha0 : (a.add (0 * w)).add 0 = a := by simp [Addr.add]
      rw [ha0] at hc0
      obtain ⟨v0, hv0⟩ := hc0
      have hblk : ∃ C el fr, W.heap[a.block]? = some (.cells C el fr) ∧ a.spot = none := by
        unfold World.cell? at hv0
        split at hv0
        · rename_i C el fr hC
          refine ⟨C, el, fr, hC, ?_⟩
          cases hs : a.spot with
          | none => rfl
          | some s => rw [hs] at hv0; simp at hv0
        · cases hv0
      obtain ⟨C, el, fr, hC, hsp⟩ := hblk
      have hrows : ∀ i, i < len → (CS i).length = w ∧ ∀ j, j < w → C.toList[a.off + i * w + j]? = (CS i)[j]? := by
        intro i hi
        obtain ⟨_, h1, h2⟩ := World.cells?_some (hCS i hi).1
        refine ⟨h1, fun j hj => ?_⟩
        rw [← h2 j hj]
        obtain ⟨b1, b2, b3⟩ := addr_adds a (i * w)
        obtain ⟨c1, c2, c3⟩ := addr_adds (a.add (i * w)) j
        unfold World.cell?
        rw [c1, b1, hC]
        simp only [c3 (b3 hsp), Option.isSome_none, Bool.false_eq_true, if_false, c2, b2]
        simp
      have hflat := cellsOf_flatten hrows
      have hll := Lift.list (P := P) (W := W) (cells := cells) hst (css := (List.range len).map CS) (by
        intro c hc
        obtain ⟨i, hi, rfl⟩ := List.mem_map.1 hc
        exact helem _ _ _ (hCS i (List.mem_range.1 hi)).2 (hz2 _ (List.mem_map_of_mem hi)))
      intro σ h s
      obtain ⟨σ1, h1, ws, s1, hle1, hg1, hv1, hs1, hlen, hok⟩ := hll σ h s
      simp only [List.length_map, List.length_range] at hlen
      have hal : (ws.flatMap cells).length = len * w := by
        rw [← hlen]
        clear hv1 hs1 hok hlen
        induction ws with
        | nil => simp
        | cons b ws ih => rw [List.flatMap_cons, List.length_append, ih, hcells, List.length_cons, Nat.add_mul]; omega
      have hlt : a.block < W.heap.size := (Array.getElem?_eq_some_iff.1 hC).1
      have hor : ORel P σ1 ⟨a.block, a.off, 0, 0⟩ (.cells (ws.flatMap cells) 0 true false) W.heap[a.block]? := by
        refine ⟨C, el, fr, hC, ?_, hs1, fun e => absurd rfl e, (fun e => by cases e), (fun e => by cases e), (fun _ e => by cases e), .inl rfl⟩
        show VRels σ1 (ws.flatMap cells) ((C.toList.drop a.off).take (ws.flatMap cells).length)
        rw [hal, ← hflat]; exact hv1
      obtain ⟨σ2, s2, hle2, hg2, hp⟩ := s1.new hor rfl hlt
      have hget : (h1.new (.cells (ws.flatMap cells) 0 true false)).get h1.next = some (.cells (ws.flatMap cells) 0 true false) := by simp
      refine ⟨σ2, _, (ws, .slice h1.next 0 len none), s2, Places.le_trans hle1 hle2, hg1.trans hg2, VRels.cons ⟨_, m, hp, ?_, hl, .inl rfl⟩ VRels.nil, fun x hx => by simp at hx; subst hx; rfl, ⟨?_, fun i r hr => ?_⟩, ?_, .slice _ _ _ _ _ _ hget, fun b hb => hst _ _ _ hg2 (hok b hb)⟩
      · obtain ⟨bk, of, sp⟩ := a
        simp only at hsp
        subst hsp
        rfl
      · show some len = some (ws.map cells).length
        rw [List.length_map, hlen]
      · refine ⟨h1.next, 0, none, by rw [List.length_map, hlen], row_of hget ?_⟩
        simp only [Nat.add_eq, Nat.mul_eq, Nat.zero_add]
        exact flatMap_row hcells hr
      · rw [hlen]
        simp only [List.length_map, List.length_range] at hz1
        have h1 : len + (m - len) ≤ (len + (m - len)) * P.bytesOf e := Nat.le_mul_of_pos_right _ hby
        have : reachBytes ≤ 1152921504606846976 := by decide
        omega
end
namespace Em
theorem cells42 : Tryz.prog.cellsOf 42 = 1 := by kernel_rfl
theorem bytes42 : Tryz.prog.bytesOf 42 = 4 := by kernel_rfl
section
variable {H : Type} {enc : TypeId × Value → H} {W : World} {fuel : Nat} {cs : List Value} {x : DataW H × List MemPlace}
theorem lift_word (hd : DataW.trod enc Tryz.prog W 0 (fun _ => true) true fuel 42 cs = some x) : Lift Tryz.prog W wcell (fun _ n => n < 4294967296) cs := by
  obtain ⟨n, rfl, _, hwf⟩ := DataW.trod_int Tryz.underlying42 hd
  have hb : 0 ≤ n ∧ n ≤ 4294967295 := by
    simp only [Lit.wf, Bool.and_eq_true, decide_eq_true_eq] at hwf
    exact hwf
  have e : ((n.toNat : Nat) : Int) = n := Int.toNat_of_nonneg hb.1
  exact .here n.toNat (fun σ => by rw [wcell, e]; exact VRels.cons rfl VRels.nil) (fun y hy => by rw [List.mem_singleton.1 hy]; rfl) fun _ => by omega
theorem lift_words (hd : DataW.trod enc Tryz.prog W 0 (fun _ => true) true fuel 29 cs = some x) (hsz : Sz Tryz.prog 29 x.1) : Lift Tryz.prog W (fun p : List Nat × HVal => [p.2]) (fun h p => (words p.2 p.1).holds h ∧ p.1.length ≤ 1152921504606846976 ∧ ∀ a ∈ p.1, a < 4294967296) cs := by
  refine (lift_sliceF (cells := wcell) Tryz.underlying29 cells42 (by decide) (fun _ => rfl) (Ok := fun _ n => n < 4294967296) (fun _ _ _ _ o => o) (by rw [bytes42]; decide) (fun n cs x h _ => lift_word h) hd hsz).conv (fun p => p) (fun p => rfl) fun h p ⟨o1, o2, o3, o4⟩ => ⟨⟨o3, o1, fun k hk => ?_⟩, o2, o4⟩
  generalize p.2 = v at o3 hk
  cases o3 with
  | nils => cases hk
  | empty => cases hk
  | slice k' off c l s r hg => cases hk; exact ⟨_, hg⟩
end
end Em
end
end Go.HL
