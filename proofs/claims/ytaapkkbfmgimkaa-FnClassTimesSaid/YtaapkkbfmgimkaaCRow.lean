/- Rows of classes in memory, seven numbers each; the list of the differences of line classes. Each holds for all rows, in whatever memory. -/
import Derived.Test.YtaapkkbfmgimkaaSlices
import Derived.Test.YtaapkkbfmgimkaaBase
namespace Go.Proofs.Ytaapkkbfmgimkaa
open Go.RowKit
set_option linter.unusedSimpArgs false
set_option linter.unusedVariables false

def cells7 (x : Cls) : List Value := [.int .i64 x.d, .int .i64 x.a, .int .i64 x.b, .int .i64 x.c, .int .i64 x.e, .int .i64 x.f, .int .i64 x.g]
def cvs : List Cls → List Value
  | [] => []
  | x :: l => cells7 x ++ cvs l
theorem cvs_len (l : List Cls) : (cvs l).length = l.length * 7 := by
  induction l with
  | nil => rfl
  | cons x l ih => simp [cvs, cells7, ih]; omega
theorem cvs_app (l m : List Cls) : cvs (l ++ m) = cvs l ++ cvs m := by
  induction l with
  | nil => rfl
  | cons x l ih => simp [cvs, ih]
theorem cvs_one (l : List Cls) : ∀ u ∈ cvs l, u.oneCell' = true := by
  induction l with
  | nil => intro u hu; cases hu
  | cons x l ih =>
    intro u hu
    rw [cvs, List.mem_append] at hu
    rcases hu with hu | hu
    · simp only [cells7, List.mem_cons, List.not_mem_nil, or_false] at hu
      rcases hu with rfl | rfl | rfl | rfl | rfl | rfl | rfl <;> rfl
    · exact ih u hu
theorem cvs_at (l : List Cls) (j i : Nat) (hj : j < l.length) (hi : i < 7) : (cvs l)[j * 7 + i]? = (cells7 (l.getD j zeroC))[i]? := by
  induction l generalizing j with
  | nil => simp at hj
  | cons x l ih =>
    have h7 : (cells7 x).length = 7 := rfl
    cases j with
    | zero =>
      rw [cvs, List.getElem?_append_left (by omega)]
      simp
    | succ j =>
      rw [cvs, List.getElem?_append_right (by omega), h7, show (j + 1) * 7 + i - 7 = j * 7 + i by omega, ih j (by simpa using hj)]
      simp
theorem cvs_take (l : List Cls) (j : Nat) : cvs (l.take j) = (cvs l).take (j * 7) := by
  induction l generalizing j with
  | nil => simp [cvs]
  | cons x l ih =>
    cases j with
    | zero => simp [cvs]
    | succ j =>
      have h7 : (cells7 x).length = 7 := rfl
      rw [List.take_succ_cons, cvs, ih, cvs, List.take_append, h7, show (j + 1) * 7 - 7 = j * 7 by omega, List.take_of_length_le (show (cells7 x).length ≤ (j + 1) * 7 by omega)]
theorem cvs_drop (l : List Cls) (j : Nat) : cvs (l.drop j) = (cvs l).drop (j * 7) := by
  induction l generalizing j with
  | nil => simp [cvs]
  | cons x l ih =>
    cases j with
    | zero => simp [cvs]
    | succ j =>
      have h7 : (cells7 x).length = 7 := rfl
      rw [List.drop_succ_cons, ih, cvs, List.drop_append, h7, show (j + 1) * 7 - 7 = j * 7 by omega, List.drop_eq_nil_of_le (show (cells7 x).length ≤ (j + 1) * 7 by omega), List.nil_append]

/-- Block g begins with the classes l. -/
def CRow (w : World) (g : Nat) (l : List Cls) : Prop := ∃ cur : Array Value, w.heap[g]? = some (.cells cur 25 (0, 0)) ∧ cur.toList.take (l.length * 7) = cvs l

theorem CRow.lt {w : World} {g : Nat} {l : List Cls} (h : CRow w g l) : g < w.heap.size := by
  obtain ⟨cur, hc, _⟩ := h
  exact (Array.getElem?_eq_some_iff.1 hc).1
theorem CRow.kept {w w' : World} {g : Nat} {l : List Cls} (h : CRow w g l) (he : w'.heap[g]? = w.heap[g]?) : CRow w' g l := by
  obtain ⟨cur, hc, ht⟩ := h
  exact ⟨cur, he.trans hc, ht⟩
theorem CRow.below {w w' : World} {g : Nat} {l : List Cls} (h : CRow w g l) (hb : Below w.heap.size w w') : CRow w' g l := h.kept (hb.block g h.lt)
theorem CRow.grown {w w' : World} {g R : Nat} {l : List Cls} (h : CRow w g l) (hb : w.grownBy w' (some R)) (hne : g ≠ R) : CRow w' g l := h.kept (hb.block g h.lt (fun e => hne ((Option.some.inj e))))
theorem CRow.at {w : World} {g : Nat} {l : List Cls} (h : CRow w g l) (n : Nat) (u : Value) (hu : (cvs l)[n]? = some u) : w.cell? ⟨g, n, none⟩ = some u := by
  obtain ⟨cur, hc, ht⟩ := h
  have hn : n < l.length * 7 := by
    have := (List.getElem?_eq_some_iff.1 hu).1
    rw [cvs_len] at this
    exact this
  rw [cell_of_row w g n cur _ (0, 0) hc]
  rw [← ht, List.getElem?_take, if_pos hn] at hu
  simpa using hu
theorem CRow.cell {w : World} {g : Nat} {l : List Cls} (h : CRow w g l) (j i : Nat) (hj : j < l.length) (hi : i < 7) : w.cell? ⟨g, j * 7 + i, none⟩ = (cells7 (l.getD j zeroC))[i]? := by
  have e := cvs_at l j i hj hi
  obtain ⟨u, hu⟩ : ∃ u, (cells7 (l.getD j zeroC))[i]? = some u := ⟨_, List.getElem?_eq_getElem (show i < (cells7 (l.getD j zeroC)).length from hi)⟩
  rw [hu]
  rw [hu] at e
  exact h.at _ _ e
theorem CRow.of_owns {w : World} {base : Nat} {v : Value} {l : List Cls} (h : w.ownsRow base 25 7 v l.length (cvs l)) (hv : v ≠ .slice none 0 0) :
    ∃ g cap, v = .slice (some ⟨g, 0, none⟩) l.length cap ∧ base ≤ g ∧ l.length ≤ cap ∧ cap ≤ maxLen ∧ CRow w g l := by
  rcases h.2 with ⟨h0, _⟩ | ⟨g, cap, cur, rfl, hb, hg, hnc, hcm, hcs, ht⟩
  · exact absurd h0 hv
  · exact ⟨g, cap, rfl, hb, hnc, hcm, cur, hg, by simpa using ht⟩

theorem cvs_snoc (l : List Cls) (x : Cls) : cvs (l ++ [x]) = cvs l ++ cells7 x := by simp [cvs_app, cvs]

theorem owns_empty7 (w : World) (t : TypeId) : (w.alloc (.cells #[] t)).ownsRow w.heap.size t 7 (.slice (some ⟨w.heap.size, 0, none⟩) 0 0) 0 [] :=
  World.ownsRow_made w #[] 0 (Nat.le_refl _) (by unfold maxLen; omega) rfl

/-- One more class, where it is a root that is new. -/
def stepS (L : List Cls) (d : Cls) : List Cls := if prodC d d = -2 then (if d ∈ L then L else d :: L) else L
def difC (i k : Nat) : Cls := sumC (LC i) (-1) (LC k)
def rowS (i : Nat) (L : List Cls) : Nat → List Cls
  | 0 => L
  | k + 1 => stepS (rowS i L k) (difC i k)
def allS : Nat → List Cls
  | 0 => []
  | i + 1 => rowS i (allS i) 27
theorem stepS_len (L : List Cls) (d : Cls) : (stepS L d).length ≤ L.length + 1 := by
  unfold stepS
  split
  · split
    · omega
    · simp
  · omega
theorem rowS_len (i : Nat) (L : List Cls) (k : Nat) : (rowS i L k).length ≤ L.length + k := by
  induction k with
  | zero => simp [rowS]
  | succ k ih =>
    have := stepS_len (rowS i L k) (difC i k)
    simp only [rowS]
    omega
theorem allS_len (i : Nat) : (allS i).length ≤ 27 * i := by
  induction i with
  | zero => simp [allS]
  | succ i ih =>
    have := rowS_len i (allS i) 27
    simp only [allS]
    omega
def smallN (n : Int) : Bool := inB n (-3) 1001
/-- A class whose numbers lie from -3 to 1001. -/
def smallC (x : Cls) : Bool := smallN x.d && (smallN x.a && (smallN x.b && (smallN x.c && (smallN x.e && (smallN x.f && smallN x.g)))))
set_option maxRecDepth 100000 in
theorem allS_72 : (allS 27).length = 72 := by decide +kernel
set_option maxRecDepth 100000 in
theorem allS_small : (allS 27).all smallC = true := by decide +kernel

end Go.Proofs.Ytaapkkbfmgimkaa
