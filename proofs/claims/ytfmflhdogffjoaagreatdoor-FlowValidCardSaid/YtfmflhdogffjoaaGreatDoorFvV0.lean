/- The memory of a list of lists that is gathered. No statement of the seat stands here. -/
import Derived.Test.YtfmflhdogffjoaaGreatDoorFvU
namespace Go.HL
open Go
namespace Fv
section
variable {hb h h1 h2 hc hp : Heap} {f : FlowD} {i kp : Nat} {vs : List HVal} {vt vk : HVal} {d : Option Nat}
structure Gath (hb : Heap) (f : FlowD) (i : Nat) (vs : List HVal) (vt : HVal) (d : Option Nat) (h : Heap) : Prop where
  app : App h 41 1 vt i vs d
  dead : ∀ j, d = some j → hb.get j = none
  apart : ∀ m k, m < i → keyV (vs.getD m .nils) = some k → d ≠ some k
  len : vs.length = i
  held : ∀ m, m < i → Held h (vs.getD m .nils) 1 ((f.at m).next.map intCells)
  grow : Grow hb h
  wf : Wf h
theorem Gath.start (g : Grow hb h) (w : Wf h) : Gath hb f 0 [] .nils none h := ⟨.nils, fun _ e => (by cases e), fun _ _ e => absurd e (by omega), rfl, fun _ e => absurd e (by omega), g, w⟩
theorem getD_append {α : Type} {l : List α} {a d : α} {m : Nat} : (l ++ [a]).getD m d = if m < l.length then l.getD m d else if m = l.length then a else d := by
  simp only [List.getD]
  by_cases h : m < l.length
  · simp [h, List.getElem?_append_left]
  · rw [List.getElem?_append_right (by omega)]
    by_cases h2 : m = l.length
    · simp [h2]
    · have : ¬ m - l.length = 0 := by omega
      rw [if_neg h, if_neg h2, List.getElem?_eq_none (by simp; omega)]; rfl
theorem Gath.step (g : Gath hb f i vs vt d h) (g1 : Grow h h1) (hv : Held h2 vk 1 ((f.at i).next.map intCells)) (nv : ∀ k, keyV vk = some k → h1.get k = none) (g2 : Grow h1 h2) (gc : Grow h2 hc) (p : Appended hc 41 1 (i + 1) (vs ++ [vk]) d kp hp) : Gath hb f (i + 1) (vs ++ [vk]) (.slice kp 0 (i + 1) none) (some kp) hp := by
  have gall : Grow h hc := (g1.trans g2).trans gc
  have hvc : Held hc vk 1 ((f.at i).next.map intCells) := hv.grow gc
  have k1 : ∀ k, keyV vk = some k → some k ≠ d := by
    intro k hk e
    obtain ⟨o, ho⟩ := g.app.live (g.app.key e.symm)
    have := g1.get ho; rw [nv k hk] at this; cases this
  have k2 : ∀ k, keyV vk = some k → k ≠ kp := by
    rintro k hk rfl
    obtain ⟨o, ho⟩ := hvc.live k hk
    rw [p.fresh] at ho; cases ho
  have k3 : ∀ m k, m < i → keyV (vs.getD m .nils) = some k → k ≠ kp := by
    rintro m k hm hk rfl
    obtain ⟨o, ho⟩ := ((g.held m hm).grow gall).live k hk
    rw [p.fresh] at ho; cases ho
  refine ⟨p.app, fun j e => ?_, fun m k hm hk => ?_, by simp [g.len], fun m hm => ?_, p.grow (g.grow.trans gall) g.dead, p.wf⟩
  · cases e; exact (g.grow.trans gall).fresh p.fresh
  · intro e
    cases e
    rw [getD_append] at hk
    split at hk
    · exact k3 m kp (by rw [g.len] at *; assumption) hk rfl
    · split at hk
      · exact k2 kp hk rfl
      · cases hk
  · rw [getD_append]
    by_cases hmi : m < i
    · rw [if_pos (by rw [g.len]; exact hmi)]
      exact ((g.held m hmi).grow gall).keep fun k hk => p.old k (fun e => g.apart m k hmi hk e.symm) (k3 m k hmi hk)
    · have : m = i := by omega
      subst this
      rw [if_neg (by rw [g.len]; omega), if_pos g.len.symm]
      exact hvc.keep fun k hk => p.old k (k1 k hk) (k2 k hk)
def FlowD.graphM (f : FlowD) : List (List Int) := f.nodes.map NodeD.next
theorem Gath.lists (g : Gath hb f i vs vt d h) (hi : i = f.nodes.length) : ListsAt h vt f.graphM := by
  refine ⟨vs, by rw [g.len, hi]; simp [FlowD.graphM], g.app.at1, fun m hm => ?_⟩
  have hm' : m < f.nodes.length := by simpa [FlowD.graphM] using hm
  have := (g.held m (by omega)).slice
  have e : f.graphM.getD m [] = (f.at m).next := by simp [FlowD.graphM, FlowD.at, List.getD, hm']
  rw [e]; exact this
structure GivesPair (h : Heap) (ok : Bool) (T : List (List Int)) (v : HVal) (h' : Heap) : Prop where
  ex : ∃ lv, v = .tuple [lv, .int .i64 (if ok = true then 0 else 1)] ∧ ListsAt h' lv (if ok = true then T else [])
  grow : Grow h h'
  wf : Wf h'
theorem lists_nils : ListsAt h .nils [] := ⟨[], rfl, sliceAt_nils, fun m hm => by simp at hm⟩
end
end Fv
end Go.HL
