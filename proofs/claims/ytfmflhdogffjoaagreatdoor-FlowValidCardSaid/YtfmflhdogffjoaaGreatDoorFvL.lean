/- What nodes are reached: the search, in plain lists. No statement of the seat stands here. -/
import Derived.Test.YtfmflhdogffjoaaGreatDoorFvK
namespace Go.HL
open Go
namespace Fv
def noNode : NodeD := ⟨[], .nils, 0, 0, 0, 0⟩
def FlowD.node (f : FlowD) (m : Int) : NodeD := f.nodes.getD m.toNat noNode
def visitM : List Int → List Bool → List Int → List Bool × List Int
  | [], s, q => (s, q)
  | m :: l, s, q => if s.getD m.toNat false = true then visitM l s q else visitM l (s.set m.toNat true) (q ++ [m])
def bfsM (f : FlowD) : Nat → List Bool → List Int → List Bool
  | 0, s, _ => s
  | _ + 1, s, [] => s
  | n + 1, s, m :: q => bfsM f n (visitM (f.node m).next s q).1 (visitM (f.node m).next s q).2
theorem bfsM_nil (f : FlowD) (n : Nat) (s : List Bool) : bfsM f n s [] = s := by cases n <;> rfl
def FlowD.seen0 (f : FlowD) : List Bool := (List.replicate f.nodes.length false).set 0 true
def FlowD.reachM (f : FlowD) : List Bool := bfsM f (2 * f.nodes.length) f.seen0 [0]
theorem visitM_step {l : List Int} {k j : Nat} {s : List Bool} {q : List Int} (hk : k < l.length) (hj : l.getD k 0 = (j : Int)) : visitM (l.drop k) s q = if s.getD j false = true then visitM (l.drop (k + 1)) s q else visitM (l.drop (k + 1)) (s.set j true) (q ++ [(j : Int)]) := by
  rw [drop_cons hk 0, hj]
  rfl
theorem count_set {s : List Bool} {j : Nat} (hj : j < s.length) (h : s.getD j false = false) : (s.set j true).count false + 1 = s.count false ∧ (s.set j true).count true = s.count true + 1 := by
  induction s generalizing j with
  | nil => simp at hj
  | cons b s ih =>
    cases j with
    | zero =>
      simp only [List.getD_cons_zero] at h
      subst h
      simp
    | succ j =>
      simp only [List.getD_cons_succ] at h
      simp only [List.length_cons] at hj
      have := ih (by omega) h
      simp only [List.set_cons_succ, List.count_cons]
      constructor <;> omega
theorem count_both (s : List Bool) : s.count true + s.count false = s.length := by
  induction s with
  | nil => rfl
  | cons b s ih => cases b <;> simp [List.count_cons] <;> omega
theorem all_true (s : List Bool) : s.all id = decide (s.count true = s.length) := by
  induction s with
  | nil => rfl
  | cons b s ih =>
    have hle : s.count true ≤ s.length := List.count_le_length
    cases b with
    | true => simp [ih]
    | false => simp; omega
theorem seen0_count (f : FlowD) (h : 1 ≤ f.nodes.length) : f.seen0.count true = 1 ∧ f.seen0.length = f.nodes.length := by
  unfold FlowD.seen0
  obtain ⟨n, hn⟩ : ∃ n, f.nodes.length = n + 1 := ⟨f.nodes.length - 1, by omega⟩
  rw [hn]
  have := count_set (s := List.replicate (n + 1) false) (j := 0) (by simp) (by simp [List.replicate_succ])
  refine ⟨?_, by simp⟩
  rw [this.2]
  simp [List.count_replicate]
end Fv
end Go.HL
