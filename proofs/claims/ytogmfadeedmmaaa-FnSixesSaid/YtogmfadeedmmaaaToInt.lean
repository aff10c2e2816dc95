/- The copy of a list of numbers lies in a new row. For every list of at most 1048576 numbers. -/
import Derived.Test.YtogmfadeedmmaaaSlices
import Derived.Test.YtogmfadeedmmaaaBase
import Derived.Test.YtogmfadeedmmaaaArg
import Derived.OwnWalk
import Derived.Lib.Hide
namespace Go.Proofs.Ytogmfadeedmmaaa
open Go.RowKit
set_option linter.unusedSimpArgs false
set_option linter.unusedVariables false

/-- The first j of l, then zeros: as the copy goes on. -/
def cpy (l : List Int) (j : Nat) : List Int := l.take j ++ List.replicate (l.length - j) 0
theorem cpy_len (l : List Int) (j : Nat) (h : j ≤ l.length) : (cpy l j).length = l.length := by simp [cpy]; omega
theorem cpy_succ (l : List Int) (j : Nat) (h : j < l.length) : (cpy l j).set j (l.getD j 0) = cpy l (j + 1) := by
  have hl : (l.take j).length = j := by simp; omega
  rw [cpy, cpy, List.set_append_right _ _ (by omega), hl, Nat.sub_self, show l.length - j = (l.length - (j + 1)) + 1 by omega, List.replicate_succ, List.set_cons_zero]
  rw [List.take_succ_eq_append_getElem h]
  simp only [List.getD, List.getElem?_eq_getElem h, Option.getD_some, List.append_assoc, List.cons_append, List.nil_append]
theorem cpy_all (l : List Int) : cpy l l.length = l := by simp [cpy]

theorem row_zero {w : World} {base g n : Nat} (h : w.ownsRow base 3 1 (.slice (some ⟨g, 0, none⟩) n n) n (madeCells (Value.int .i64 0).cells (n * 1)).toList) : Row w g (List.replicate n 0) := by
  rcases h.2 with ⟨h0, _⟩ | ⟨g', cap, cur, hv, hb, hg, hnc, hcm, hcs, ht⟩
  · simp at h0
  · simp only [Value.slice.injEq, Option.some.injEq, Addr.mk.injEq] at hv
    obtain ⟨⟨rfl, _⟩, _, rfl⟩ := hv
    refine ⟨cur, hg, ?_⟩
    have e : (madeCells (Value.int .i64 0).cells (n * 1)).toList = ivs (List.replicate n 0) := by
      have e1 : madeCells (Value.int .i64 0).cells (n * 1) = (Array.range n).map (fun _ => Value.int .i64 0) := by
        simp only [madeCells, Nat.mul_one]
        apply Array.map_congr_left
        intro i _
        simp [Value.cells, Nat.mod_one]
      rw [e1]
      simp [ivs, List.map_const', List.map_replicate]
    rw [List.length_replicate]
    rw [← e]
    simpa using ht

theorem ArgRow.low {k : IntKind} {w w' : World} {a : Option Addr} {n cap : Nat} {l : List Int} (h : ArgRow k w a n cap l) (hb : Below w.heap.size w w') : ArgRow k w' a n cap l := by
  obtain ⟨h1, h2, h3, h4⟩ := h
  refine ⟨h1, h2, h3, ?_⟩
  rcases h4 with h4 | ⟨b, off, ha, hbl, hc⟩
  · exact .inl h4
  · exact .inr ⟨b, off, ha, Nat.lt_of_lt_of_le hbl hb.size, fun j hj => (hb.cell (p := ⟨b, off + j, none⟩) hbl).trans (hc j hj)⟩

end Go.Proofs.Ytogmfadeedmmaaa
