/- The memory of a search. No statement of the seat stands here. -/
import Derived.Test.YtfmflhdogffjoaaGreatDoorFvL
namespace Go.HL
open Go Go.Proofs
namespace Fv
variable {K : CallFn} {base : List (Nat × HObj)}
def FlowD.linked (f : FlowD) : Prop := ∀ x ∈ f.nodes, ∀ m ∈ x.next, 1 ≤ m ∧ m < (f.nodes.length : Int)
/-- the memory of a search: the truths, the numbers -/
structure Srch (hb : Heap) (ks : Nat) (s : List Bool) (t : List Int) (vt : HVal) (d : Option Nat) (h : Heap) : Prop where
  app : App h 3 1 vt t.length (t.map intKey) d
  apart : keyW vt ≠ some ks
  dead : ∀ j, d = some j → hb.get j = none
  seen : h.get ks = some (.cells (cellsB s) 4 false true)
  new : hb.get ks = none
  grow : Grow hb h
  wf : Wf h
section
variable {hb h h' h2 : Heap} {ks kp : Nat} {s : List Bool} {t : List Int} {vt : HVal} {d : Option Nat} {m : Int}
theorem Srch.numbers (a : Srch hb ks s t vt d h) : SliceAt h vt 1 (t.map intCells) := by
  have := a.app.at1
  rw [List.map_map] at this
  exact this
theorem Srch.more (a : Srch hb ks s t vt d h) (g : Grow h h') (w : Wf h') : Srch hb ks s t vt d h' := ⟨a.app.mono g, a.apart, a.dead, g.get a.seen, a.new, a.grow.trans g, w⟩
theorem Srch.mark {j : Nat} {b : Bool} (a : Srch hb ks s t vt d h) (gs : h'.get ks = some (.cells (cellsB (s.set j b)) 4 false true)) (es : Grow hb h') (ws : Wf h') (os : ∀ j, j ≠ ks → h'.get j = h.get j) : Srch hb ks (s.set j b) t vt d h' :=
  ⟨a.app.keep fun k hk => os k fun e => a.apart (by rw [hk, e]), a.apart, a.dead, gs, a.new, es, ws⟩
theorem Srch.push (a : Srch hb ks s t vt d h) (p : Appended h 3 1 (t.length + 1) (t.map intKey ++ [intKey m]) d kp h') : Srch hb ks s (t ++ [m]) (.slice kp 0 (t.length + 1) none) (some kp) h' := by
  have hne : ks ≠ kp := by rintro rfl; have := a.seen; rw [p.fresh] at this; cases this
  refine ⟨?_, fun e => hne (by cases e; rfl), fun j e => ?_, ?_, a.new, p.grow a.grow a.dead, p.wf⟩
  · have := p.app
    simpa using this
  · cases e; exact a.grow.fresh p.fresh
  · rw [p.old ks (fun e => a.apart (a.app.key e.symm)) hne]; exact a.seen
theorem Srch.pop {v' : HVal} (a : Srch hb ks s (m :: t) vt d h) (p : App h 3 1 v' t.length (((m :: t).map intKey).drop 1) d) (k : keyW v' = keyW vt) : Srch hb ks s t v' d h :=
  ⟨by simpa using p, by rw [k]; exact a.apart, a.dead, a.seen, a.new, a.grow, a.wf⟩
/-- a slice that is read beside a search -/
structure Beside (ks : Nat) (vt vk : HVal) (rows : List (List HVal)) (h : Heap) : Prop where
  held : Held h vk 1 rows
  seen : keyV vk ≠ some ks
  todo : ∀ k, keyW vt = some k → keyV vk ≠ some k
theorem Beside.mark {vk : HVal} {rows : List (List HVal)} (b : Beside ks vt vk rows h) (os : ∀ j, j ≠ ks → h'.get j = h.get j) : Beside ks vt vk rows h' :=
  ⟨b.held.keep fun k hk => os k fun e => b.seen (by rw [hk, e]), b.seen, b.todo⟩
theorem Beside.more {vk : HVal} {rows : List (List HVal)} (b : Beside ks vt vk rows h) (g : Grow h h') : Beside ks vt vk rows h' := ⟨b.held.grow g, b.seen, b.todo⟩
theorem Beside.push {vk : HVal} {rows : List (List HVal)} {e w c n : Nat} {l l' : List HVal} (b : Beside ks vt vk rows h) (a : App h e w vt c l d) (p : Appended h e w n l' d kp h') : Beside ks (.slice kp 0 n none) vk rows h' := by
  have hne : keyV vk ≠ some kp := fun e => by obtain ⟨o, ho⟩ := b.held.live kp e; rw [p.fresh] at ho; cases ho
  refine ⟨b.held.keep fun k hk => p.old k (fun e => b.todo k (a.key e.symm) hk) (fun e => hne (by rw [hk, e])), b.seen, fun k hk => ?_⟩
  cases hk; exact hne
theorem Beside.new {vk : HVal} {rows : List (List HVal)} (a : Srch hb ks s t vt d h) (g : Grow h h') (hv : Held h2 vk 1 rows) (nv : ∀ k, keyV vk = some k → h'.get k = none) : Beside ks vt vk rows h2 := by
  refine ⟨hv, fun e => ?_, fun k hk e => ?_⟩
  · have := g.get a.seen; rw [nv ks e] at this; cases this
  · obtain ⟨o, ho⟩ := a.app.live hk
    have := g.get ho; rw [nv k e] at this; cases this
end
end Fv
end Go.HL
