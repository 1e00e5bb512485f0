/- What is valid: the program's law and the reference's, in plain lists. No statement of the seat stands here. -/
import Derived.Test.YtfmflhdogffjoaaGreatDoorFvQ
namespace Go.HL
open Go
namespace Fv
def FlowD.at (f : FlowD) (i : Nat) : NodeD := f.nodes.getD i noNode
def sumM : List NodeD → Nat
  | [] => 0
  | x :: l => x.ins.length + sumM l
def FlowD.sizeM (f : FlowD) (i : Nat) : Nat := f.nodes.length + sumM (f.nodes.take i)
def FlowD.predsLen (f : FlowD) (i : Nat) : Int := ((f.predsR.getD i []).length : Int)
def instrsP (f : FlowD) (b : Int) : Bool → List Int → List InstrD → Bool
  | _, _, [] => true
  | phis, ch, x :: l => !((decide (x.kind = 11) && (!phis || decide (x.d ∈ ch))) || !f.instrM x b) && instrsP f b (phis && decide (x.kind = 11)) (if x.kind = 11 then x.d :: ch else ch) l
def instrR (f : FlowD) (i : Nat) (b : Int) (l : List InstrD) (k : Nat) : Bool :=
  f.refInstrM (l.getD k noInstr) b && !(decide ((l.getD k noInstr).kind = 11) && (decide (i = 0) || (decide (0 < k) && decide ((l.getD (k - 1) noInstr).kind ≠ 11)) || twiceM (l.take k) (l.getD k noInstr).d))
def instrsR (f : FlowD) (i : Nat) (b : Int) (l : List InstrD) : Bool := (List.range l.length).all (instrR f i b l)
def FlowD.validP (f : FlowD) : Bool :=
  decide (1 ≤ f.nodes.length ∧ f.nodes.length ≤ 2000) && f.hdM && (f.nodes.all f.endsM && f.reachM.all id) && (List.range f.nodes.length).all fun i => decide (f.sizeM (i + 1) ≤ 2000) && instrsP f (f.predsLen i) (decide (0 < i)) [] (f.at i).ins
def FlowD.validR (f : FlowD) : Bool :=
  f.headsM && decide (0 ≤ f.regs ∧ f.regs ≤ 2000) && decide (1 ≤ f.nodes.length ∧ f.nodes.length ≤ 2000) && ((List.range f.nodes.length).all fun i => decide (f.sizeM (i + 1) ≤ 2000) && f.endsM (f.at i)) &&
    (List.range f.nodes.length).all fun i => f.reachM.getD i false && instrsR f i (f.predsLen i) (f.at i).ins
/-! instructions -/
theorem array_same (f : FlowD) (hp : f.params.length ≤ 6) (n : Int) : f.arrayM n = f.wordM 1 n := by
  unfold FlowD.arrayM FlowD.wordM
  by_cases h6 : 6 ≤ n
  · have h1 : ¬ n < (f.params.length : Int) := by omega
    simp [h6, h1]
  · simp [h6]
theorem instr_same (f : FlowD) (hp : f.params.length ≤ 6) (x : InstrD) (b : Int) : f.instrM x b = f.refInstrM x b := by
  by_cases hk : 0 ≤ x.kind ∧ x.kind < 12
  · have : x.kind = 0 ∨ x.kind = 1 ∨ x.kind = 2 ∨ x.kind = 3 ∨ x.kind = 4 ∨ x.kind = 5 ∨ x.kind = 6 ∨ x.kind = 7 ∨ x.kind = 8 ∨ x.kind = 9 ∨ x.kind = 10 ∨ x.kind = 11 := by omega
    unfold FlowD.instrM FlowD.refInstrM
    rcases this with h | h | h | h | h | h | h | h | h | h | h | h <;> rw [h] <;>
      simp [fieldsM, hasM, howM, whatM, noUses, opM, signM, FlowD.immM, array_same f hp, FlowD.wordM, unaryM, binaryM, regM]
    all_goals ac_rfl
  · unfold FlowD.instrM FlowD.refInstrM
    rw [decide_eq_false hk]
    have : (fieldsM x.kind).2 = false := by
      have a0 : x.kind ≠ 0 := by omega
      have a1 : x.kind ≠ 1 := by omega
      have a2 : x.kind ≠ 2 := by omega
      have a3 : x.kind ≠ 3 := by omega
      have a4 : x.kind ≠ 4 := by omega
      have a5 : x.kind ≠ 5 := by omega
      have a6 : x.kind ≠ 6 := by omega
      have a7 : x.kind ≠ 7 := by omega
      have a8 : x.kind ≠ 8 := by omega
      have a9 : x.kind ≠ 9 := by omega
      have a10 : x.kind ≠ 10 := by omega
      have a11 : x.kind ≠ 11 := by omega
      simp [fieldsM, *]
    rw [this]; simp
theorem instrs_same (f : FlowD) (hp : f.params.length ≤ 6) (i : Nat) (b : Int) (l : List InstrD) : instrsP f b (decide (0 < i)) [] l = instrsR f i b l := by
  have main : ∀ (d k : Nat) (phis : Bool) (ch : List Int), k + d = l.length → phis = decide (0 < i ∧ (k = 0 ∨ (l.getD (k - 1) noInstr).kind = 11)) → (phis = true → ∀ e, twiceM (l.take k) e = decide (e ∈ ch)) →
      instrsP f b phis ch (l.drop k) = ((List.range l.length).drop k).all (instrR f i b l) := by
    intro d
    induction d with
    | zero =>
      intro k phis ch hk _ _
      rw [List.drop_of_length_le (by omega), List.drop_of_length_le (by simp; omega)]; rfl
    | succ d ih =>
      intro k phis ch hk hph hch
      have hkl : k < l.length := by omega
      rw [drop_cons hkl noInstr, all_step _ (by simpa using hkl) 0]
      have hr : (List.range l.length).getD k 0 = k := by simp [List.getD, hkl]
      rw [hr]
      simp only [instrsP]
      by_cases hx : instrR f i b l k = true
      · rw [hx, Bool.true_and]
        have hx2 := hx
        unfold instrR at hx2
        simp only [Bool.and_eq_true, Bool.not_eq_true'] at hx2
        obtain ⟨h1, h2⟩ := hx2
        rw [instr_same f hp, h1]
        by_cases h11 : (l.getD k noInstr).kind = 11
        · rw [decide_eq_true h11, Bool.true_and] at h2
          simp only [Bool.or_eq_false_iff, decide_eq_false_iff_not, Bool.and_eq_false_iff] at h2
          obtain ⟨⟨h3, h4⟩, h5⟩ := h2
          have hpt : phis = true := by
            rw [hph, decide_eq_true_eq]
            refine ⟨by omega, ?_⟩
            rcases h4 with h4 | h4
            · exact .inl (by omega)
            · exact .inr (Classical.not_not.1 h4)
          have hnc : decide ((l.getD k noInstr).d ∈ ch) = false := by rw [← hch hpt]; exact h5
          rw [hpt, hnc, decide_eq_true h11]
          simp only [Bool.not_true, Bool.or_false, Bool.and_false, Bool.not_false, Bool.true_and, Bool.and_self]
          rw [if_pos h11]
          refine ih (k + 1) true _ (by omega) ?_ fun _ e => ?_
          · symm
            rw [decide_eq_true_eq]
            exact ⟨by omega, .inr h11⟩
          · unfold twiceM
            rw [take_succ hkl noInstr, List.any_append]
            have := hch hpt e
            unfold twiceM at this
            rw [this]
            simp [eq_comm, Bool.or_comm]
        · rw [decide_eq_false h11]
          simp only [Bool.false_and, Bool.not_true, Bool.or_false, Bool.not_false, Bool.true_and, Bool.and_false]
          rw [if_neg h11]
          refine ih (k + 1) false _ (by omega) ?_ fun e => by cases e
          symm
          rw [decide_eq_false_iff_not]
          rintro ⟨_, e | e⟩
          · omega
          · exact h11 e
      · have hx' : instrR f i b l k = false := by simpa using hx
        rw [hx', Bool.false_and]
        unfold instrR at hx'
        rw [instr_same f hp]
        by_cases h1 : f.refInstrM (l.getD k noInstr) b = true
        · rw [h1, Bool.true_and] at hx'
          simp only [Bool.not_eq_false', Bool.and_eq_true, decide_eq_true_eq] at hx'
          obtain ⟨h11, h2⟩ := hx'
          rw [h1, decide_eq_true h11]
          have : (!phis || decide ((l.getD k noInstr).d ∈ ch)) = true := by
            cases hpt : phis with
            | false => rfl
            | true =>
              have := hch hpt
              rw [← this]
              simp only [Bool.not_true, Bool.false_or]
              rw [hpt] at hph
              have hph := of_decide_eq_true hph.symm
              simp only [Bool.or_eq_true, Bool.and_eq_true, decide_eq_true_eq] at h2
              rcases h2 with (h2 | h2) | h2
              · omega
              · rcases hph.2 with e | e
                · omega
                · exact absurd e h2.2
              · exact h2
          rw [this]; rfl
        · have h1 : f.refInstrM (l.getD k noInstr) b = false := by simpa using h1
          rw [h1]; simp
  have := main l.length 0 (decide (0 < i)) [] (by omega) (by simp) (fun _ e => by simp [twiceM])
  rw [List.drop_zero, List.drop_zero] at this
  exact this
theorem reach_length (f : FlowD) (h : 1 ≤ f.nodes.length) : f.reachM.length = f.nodes.length := by
  have hv : ∀ (l : List Int) (s : List Bool) (q : List Int), (visitM l s q).1.length = s.length := by
    intro l
    induction l with
    | nil => intro s q; rfl
    | cons m l ih => intro s q; simp only [visitM]; split <;> simp [ih]
  have hb : ∀ (n : Nat) (s : List Bool) (q : List Int), (bfsM f n s q).length = s.length := by
    intro n
    induction n with
    | zero => intro s q; rfl
    | succ n ih =>
      intro s q
      cases q with
      | nil => rfl
      | cons m q => rw [bfsM, ih, hv]
  unfold FlowD.reachM
  rw [hb, (seen0_count f h).2]
theorem valid_same (f : FlowD) : f.validP = f.validR := by
  by_cases hn : 1 ≤ f.nodes.length ∧ f.nodes.length ≤ 2000
  · by_cases hh : f.hdM = true
    · have hh2 := hh
      unfold FlowD.hdM at hh2
      simp only [Bool.and_eq_true, decide_eq_true_eq] at hh2
      obtain ⟨h1, h2⟩ := hh2
      have h6 : f.params.length ≤ 6 := by
        unfold FlowD.headsM FlowD.refHeadM at h1
        simp only [Bool.and_eq_true, decide_eq_true_eq] at h1
        omega
      unfold FlowD.validP FlowD.validR
      rw [hh, h1, decide_eq_true hn, decide_eq_true h2]
      simp only [Bool.true_and]
      have e1 : f.nodes.all f.endsM = (List.range f.nodes.length).all fun i => f.endsM (f.at i) := by
        rw [Bool.eq_iff_iff]
        simp only [List.all_eq_true, List.mem_range]
        constructor
        · intro h i hi; exact h _ (getD_mem noNode hi)
        · intro h x hx
          obtain ⟨j, hj, rfl⟩ := List.getElem_of_mem hx
          have := h j hj
          simpa [FlowD.at, List.getD, List.getElem?_eq_getElem hj] using this
      have e2 : f.reachM.all id = (List.range f.nodes.length).all fun i => f.reachM.getD i false := by
        rw [Bool.eq_iff_iff]
        simp only [List.all_eq_true, List.mem_range]
        have hl := reach_length f hn.1
        constructor
        · intro h i hi; exact h _ (getD_mem false (by omega))
        · intro h x hx
          obtain ⟨j, hj, rfl⟩ := List.getElem_of_mem hx
          have := h j (by omega)
          simpa [List.getD, List.getElem?_eq_getElem hj] using this
      rw [e1, e2, Bool.eq_iff_iff]
      simp only [Bool.and_eq_true, List.all_eq_true, List.mem_range]
      constructor
      · rintro ⟨⟨ha, hb⟩, hc⟩
        exact ⟨fun i hi => ⟨(hc i hi).1, ha i hi⟩, fun i hi => ⟨hb i hi, by rw [← instrs_same f h6]; exact (hc i hi).2⟩⟩
      · rintro ⟨ha, hb⟩
        exact ⟨⟨fun i hi => (ha i hi).2, fun i hi => (hb i hi).1⟩, fun i hi => ⟨(ha i hi).1, by rw [instrs_same f h6]; exact (hb i hi).2⟩⟩
    · have hh : f.hdM = false := by simpa using hh
      have hh2 := hh
      unfold FlowD.hdM at hh2
      unfold FlowD.validP FlowD.validR
      rw [hh, hh2]; simp
  · unfold FlowD.validP FlowD.validR
    rw [decide_eq_false hn]; simp
end Fv
end Go.HL
