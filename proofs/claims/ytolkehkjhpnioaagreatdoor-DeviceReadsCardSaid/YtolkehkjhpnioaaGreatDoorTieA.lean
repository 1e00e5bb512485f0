/- The list that is tied to the text; the text's words. No statement of the seat stands here. -/
import Derived.Test.YtolkehkjhpnioaaGreatDoorRows
import Derived.LaidByTextLater
import Derived.SevenTiedAt
namespace Go.Proofs.YtolkehkjhpnioaaGreatDoor.deviceReads
open Go
def listed : List (String × DataW Unit) := [("internal/strconv.uint64pow10", Rows.laid_internal_strconv_uint64pow10), ("math/bits.deBruijn32tab", Rows.laid_math_bits_deBruijn32tab), ("math/bits.deBruijn64tab", Rows.laid_math_bits_deBruijn64tab), ("unicode/utf8.acceptRanges", Rows.laid_unicode_utf8_acceptRanges), ("strconv.ErrSyntax", Rows.laid_strconv_ErrSyntax), ("strconv.ErrRange", Rows.laid_strconv_ErrRange), ("strings.asciiSpace", Rows.laid_strings_asciiSpace), ("unicode.White_Space", Rows.laid_unicode_White_Space)]
theorem w1 : Tryz.prog.worded (varsWordLater true) = true := by kernel_rfl
theorem w2 : Tryz.prog.worded (varsWordLater !true) = false := by kernel_rfl
theorem w3 : Tryz.prog.worded rootWordLater = true := by kernel_rfl
theorem kinds : listed.map (fun x => Tryz.prog.kindOfLater x.1) = [LaidKind.data, .data, .data, .data, .sentinel, .sentinel, .data, .listed].map some := by kernel_rfl
theorem named : (Tryz.prog.funcNamed "gosem.cut.vars").isSome = true := by kernel_rfl
theorem plainAll : (listed.all fun x => x.2.handleName?.isNone) = true := by kernel_rfl
/-- the places that the variables take: block by block -/
def rowsOf (l : List (Nat × Nat)) : List MemPlace := l.flatMap fun x => MemPlace.row ⟨x.1, 0, none⟩ x.2
def blocks : List (Nat × Nat) := [(0, 20), (4, 32), (5, 64), (7, 32), (1, 1), (17, 1), (2, 1), (16, 1), (8, 256), (9, 1), (19, 3), (18, 21)]
theorem mem_row {b n : Nat} {p : MemPlace} (h : p ∈ MemPlace.row ⟨b, 0, none⟩ n) : ∃ i, i < n ∧ p = .cell b i := by
  simp only [MemPlace.row, List.mem_map, List.mem_range] at h
  obtain ⟨i, hi, rfl⟩ := h
  exact ⟨i, hi, by simp⟩
theorem row_nodup (b n : Nat) : (MemPlace.row ⟨b, 0, none⟩ n).Nodup := by
  unfold MemPlace.row
  refine List.Pairwise.map _ (fun i j h => ?_) List.nodup_range
  intro e
  simp at e
  exact h e
theorem rows_nodup : ∀ {l : List (Nat × Nat)}, (l.map (·.1)).Nodup → (rowsOf l).Nodup
  | [], _ => List.nodup_nil
  | x :: l, h => by
    simp only [List.map_cons, List.nodup_cons] at h
    show (MemPlace.row ⟨x.1, 0, none⟩ x.2 ++ rowsOf l).Nodup
    refine List.nodup_append.2 ⟨row_nodup _ _, rows_nodup h.2, fun p hp q hq e => ?_⟩
    subst e
    obtain ⟨i, _, rfl⟩ := mem_row hp
    simp only [rowsOf, List.mem_flatMap] at hq
    obtain ⟨y, hy, hq⟩ := hq
    obtain ⟨j, _, e⟩ := mem_row hq
    have e1 : x.1 = y.1 := by injection e
    exact h.1 (by rw [e1]; exact List.mem_map_of_mem hy)
theorem blocks_nodup : (rowsOf blocks).Nodup := rows_nodup (by decide)
end Go.Proofs.YtolkehkjhpnioaaGreatDoor.deviceReads
