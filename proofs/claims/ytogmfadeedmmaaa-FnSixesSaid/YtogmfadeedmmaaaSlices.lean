/- Rows of numbers in memory; contracts of the functions that copy, compare, mark and check them. Each holds for all rows, in whatever memory. -/
import Derived.Test.YtogmfadeedmmaaaPure
import Derived.Test.YtogmfadeedmmaaaRows
import Derived.WalkKit
import Derived.WalkSpells
import Derived.WalkLawsBesides
import Derived.BigQuiet
import Derived.Deep.QuietTactic
import Derived.Deep.Light
import Derived.Lib.Hide
namespace Go.Proofs.Ytogmfadeedmmaaa
open Go.RowKit
set_option linter.unusedSimpArgs false
set_option linter.unusedVariables false

def ivs (l : List Int) : List Value := l.map (Value.int .i64)

/-- Block g begins with the numbers l. -/
def Row (w : World) (g : Nat) (l : List Int) : Prop := ∃ cur : Array Value, w.heap[g]? = some (.cells cur 3 (0, 0)) ∧ cur.toList.take l.length = ivs l

theorem Row.lt {w : World} {g : Nat} {l : List Int} (h : Row w g l) : g < w.heap.size := by
  obtain ⟨cur, hc, _⟩ := h
  exact (Array.getElem?_eq_some_iff.1 hc).1

theorem Row.kept {w w' : World} {g : Nat} {l : List Int} (h : Row w g l) (he : w'.heap[g]? = w.heap[g]?) : Row w' g l := by
  obtain ⟨cur, hc, ht⟩ := h
  exact ⟨cur, he.trans hc, ht⟩

theorem Row.below {w w' : World} {g : Nat} {l : List Int} (h : Row w g l) (hb : Below w.heap.size w w') : Row w' g l := h.kept (hb.block g h.lt)

theorem Row.size {w : World} {g : Nat} {l : List Int} (h : Row w g l) : ∃ cur : Array Value, w.heap[g]? = some (.cells cur 3 (0, 0)) ∧ cur.toList.take l.length = ivs l ∧ l.length ≤ cur.size := by
  obtain ⟨cur, hc, ht⟩ := h
  refine ⟨cur, hc, ht, ?_⟩
  have := congrArg List.length ht
  simp [ivs] at this
  omega

theorem Row.cell {w : World} {g : Nat} {l : List Int} (h : Row w g l) (j : Nat) (hj : j < l.length) : w.cell? ⟨g, j, none⟩ = some (.int .i64 (l.getD j 0)) := by
  obtain ⟨cur, hc, ht, hs⟩ := h.size
  rw [cell_of_row w g j cur _ (0, 0) hc]
  have h1 : (cur.toList.take l.length)[j]? = (ivs l)[j]? := by rw [ht]
  rw [List.getElem?_take, if_pos hj] at h1
  simp only [Array.getElem?_toList] at h1
  rw [h1]
  simp [ivs, List.getD, List.getElem?_eq_getElem hj]

theorem Row.free {w : World} {g : Nat} {l : List Int} (h : Row w g l) (j : Nat) : w.frozen? ⟨g, j, none⟩ = false := by
  obtain ⟨cur, hc, _⟩ := h
  simp [World.frozen?, hc]

/-- A number stored into a row. -/
theorem Row.put {w : World} {g : Nat} {l : List Int} (h : Row w g l) (j : Nat) (hj : j < l.length) (n : Int) : Row (w.setCell ⟨g, j, none⟩ (.int .i64 n)) g (l.set j n) := by
  obtain ⟨cur, hc, ht, hs⟩ := h.size
  refine ⟨cur.setIfInBounds j (.int .i64 n), ?_, ?_⟩
  · simp [World.setCell, Array.getElem?_modify, hc]
  · rw [List.length_set, Array.toList_setIfInBounds, List.take_set, ht]
    simp [ivs, List.map_set]

theorem Row.put_other {w : World} {g g' : Nat} {l : List Int} (h : Row w g l) (j : Nat) (v : Value) (hne : g ≠ g') : Row (w.setCell ⟨g', j, none⟩ v) g l :=
  h.kept (Below.heap_setCell w ⟨g', j, none⟩ v g hne)

theorem Row.of_owns {w : World} {base : Nat} {v : Value} {l : List Int} (h : w.ownsRow base 3 1 v l.length (ivs l)) (hv : v ≠ .slice none 0 0) :
    ∃ g cap, v = .slice (some ⟨g, 0, none⟩) l.length cap ∧ base ≤ g ∧ Row w g l := by
  rcases h.2 with ⟨h0, _⟩ | ⟨g, cap, cur, rfl, hb, hg, hnc, hcm, hcs, ht⟩
  · exact absurd h0 hv
  · exact ⟨g, cap, rfl, hb, cur, hg, by simpa using ht⟩

/-- The numbers from k on, n of them. -/
def marks (k : Int) : Nat → List Int
  | 0 => []
  | n + 1 => k :: marks (k + 1) n
theorem marks_len (k : Int) (n : Nat) : (marks k n).length = n := by
  induction n generalizing k with
  | zero => rfl
  | succ n ih => simp [marks, ih]
theorem marks_get (k : Int) (n j : Nat) (h : j < n) : (marks k n).getD j 0 = k + j := by
  induction n generalizing k j with
  | zero => omega
  | succ n ih =>
    cases j with
    | zero => simp [marks]
    | succ j =>
      have := ih (k + 1) j (by omega)
      simp only [marks, List.getD_cons_succ, this]
      omega
/-- The first j of l marked from k on, the others as they were. -/
def part (k : Int) (l : List Int) (j : Nat) : List Int := marks k j ++ l.drop j
theorem part_len (k : Int) (l : List Int) (j : Nat) (h : j ≤ l.length) : (part k l j).length = l.length := by simp [part, marks_len]; omega
theorem marks_snoc (k : Int) (n : Nat) : marks k (n + 1) = marks k n ++ [k + n] := by
  induction n generalizing k with
  | zero => simp [marks]
  | succ n ih =>
    rw [marks, ih (k + 1)]
    simp [marks]
    omega
theorem part_succ (k : Int) (l : List Int) (j : Nat) (h : j < l.length) : (part k l j).set j (k + j) = part k l (j + 1) := by
  have hl : (marks k j).length = j := marks_len k j
  rw [part, part, List.set_append_right _ _ (by omega), hl, Nat.sub_self, marks_snoc]
  rw [List.drop_eq_getElem_cons h]
  simp only [List.set_cons_zero, List.append_assoc, List.cons_append, List.nil_append]
theorem part_all (k : Int) (l : List Int) : part k l l.length = marks k l.length := by simp [part]

/-- Are two lists equal from j on? -/
theorem eq_of_get {a b : List Int} (hl : a.length = b.length) (h : ∀ j, j < a.length → a.getD j 0 = b.getD j 0) : a = b := by
  apply List.ext_getElem hl
  intro i h1 h2
  have := h i h1
  simpa [List.getD, List.getElem?_eq_getElem h1, List.getElem?_eq_getElem h2] using this

theorem grown_set {w wr : World} {g : Nat} (h : w.grownBy wr (some g)) (j : Nat) (v : Value) : w.grownBy (wr.setCell ⟨g, j, none⟩ v) (some g) :=
  ⟨h.os, h.tape, h.output, by simpa [World.setCell] using h.size, fun i hi hne => (Below.heap_setCell wr ⟨g, j, none⟩ v i (by rintro rfl; exact hne rfl)).trans (h.block i hi hne)⟩

theorem Row.grown {w w' : World} {g g' : Nat} {l : List Int} (h : Row w g l) (hg : w.grownBy w' (some g')) (hne : g ≠ g') : Row w' g l :=
  h.kept (hg.block g h.lt (by simpa using hne))
theorem below_mark {B : Nat} {a w w' : World} {g : Nat} (h : Below B a w) (hg : w.grownBy w' (some g)) (hB : B ≤ g) (hBw : B ≤ w.heap.size) : Below B a w' :=
  h.grown hg hBw (fun k hk => by cases hk; exact hB)

end Go.Proofs.Ytogmfadeedmmaaa
