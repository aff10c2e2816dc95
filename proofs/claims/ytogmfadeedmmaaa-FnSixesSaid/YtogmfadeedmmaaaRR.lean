/- Rows of rows of numbers: a row of slices, each with a block of its own; how it grows, how it is kept. No condition. -/
import Derived.Test.YtogmfadeedmmaaaLists
namespace Go.Proofs.Ytogmfadeedmmaaa
open Go.RowKit
set_option linter.unusedSimpArgs false
set_option linter.unusedVariables false

theorem Try.infoS : (Try.prog.info? 38).map (fun i => (i.zero, i.size, i.bytes)) = some (some (.slice none 0 0), 1, 24) := by kernel_rfl

/-- A slice of numbers: its block, its room, its numbers. -/
structure Sv where
  g : Nat
  cap : Nat
  l : List Int
def Sv.v (x : Sv) : Value := .slice (some ⟨x.g, 0, none⟩) x.l.length x.cap
def svs (xs : List Sv) : List Value := xs.map Sv.v
def lls (xs : List Sv) : List (List Int) := xs.map Sv.l
theorem svs_len (xs : List Sv) : (svs xs).length = xs.length := by simp [svs]
theorem lls_len (xs : List Sv) : (lls xs).length = xs.length := by simp [lls]
theorem svs_snoc (xs : List Sv) (x : Sv) : svs (xs ++ [x]) = svs xs ++ [x.v] := by simp [svs]
theorem lls_snoc (xs : List Sv) (x : Sv) : lls (xs ++ [x]) = lls xs ++ [x.l] := by simp [lls]

theorem ll_all {L : List (List Int)} {xs : List Sv} {p : List Int → Prop} (h : lls xs = L) (hL : ∀ l ∈ L, p l) : ∀ x ∈ xs, p x.l := fun x hx => hL _ (by rw [← h]; exact List.mem_map_of_mem hx)

/-- Each slice lies in a block of its own from B on. -/
def Each (w : World) (B : Nat) (xs : List Sv) : Prop := (∀ x ∈ xs, B ≤ x.g ∧ Row w x.g x.l) ∧ xs.Pairwise (fun a b => a.g < b.g)
theorem Each.nil (w : World) (B : Nat) : Each w B [] := ⟨fun x hx => absurd hx (by simp), List.Pairwise.nil⟩
theorem Each.below {w w' : World} {B : Nat} {xs : List Sv} (h : Each w B xs) (hb : Below w.heap.size w w') : Each w' B xs :=
  ⟨fun x hx => ⟨(h.1 x hx).1, (h.1 x hx).2.below hb⟩, h.2⟩
theorem Each.le {w : World} {B B' : Nat} {xs : List Sv} (h : Each w B xs) (hB : B' ≤ B) : Each w B' xs :=
  ⟨fun x hx => ⟨Nat.le_trans hB (h.1 x hx).1, (h.1 x hx).2⟩, h.2⟩
theorem Each.push {w : World} {B : Nat} {xs : List Sv} (h : Each w B xs) (x : Sv) (hx : B ≤ x.g) (hr : Row w x.g x.l) (hlt : ∀ y ∈ xs, y.g < x.g) : Each w B (xs ++ [x]) := by
  refine ⟨fun y hy => ?_, ?_⟩
  · rw [List.mem_append] at hy
    rcases hy with hy | hy
    · exact h.1 y hy
    · simp at hy
      subst hy
      exact ⟨hx, hr⟩
  · rw [List.pairwise_append]
    refine ⟨h.2, List.pairwise_singleton _ _, fun a ha b hb => ?_⟩
    simp at hb
    subst hb
    exact hlt a ha
theorem Each.lt {w : World} {B : Nat} {xs : List Sv} (h : Each w B xs) : ∀ y ∈ xs, y.g < w.heap.size := fun y hy => (h.1 y hy).2.lt
theorem own_block_of {w : World} {base : Nat} {t : TypeId} {v : Value} {n : Nat} {xs : List Value} (h : w.ownsRow base t 1 v n xs) {g : Nat} (hg : v.ownBlock = some g) : ∃ cur : Array Value, w.heap[g]? = some (.cells cur t (0, 0)) := by
  rcases h.2 with ⟨rfl, _⟩ | ⟨g', cap, cur, rfl, hb, hc, _⟩
  · simp [Value.ownBlock] at hg
  · simp [Value.ownBlock] at hg
    subst hg
    exact ⟨cur, hc⟩
/-- The owned row is no block of numbers. -/
theorem own_not_row {w : World} {base : Nat} {v : Value} {n : Nat} {xs : List Value} (h : w.ownsRow base 38 1 v n xs) {g : Nat} {l : List Int} (hr : Row w g l) : v.ownBlock ≠ some g := by
  intro hg
  obtain ⟨cur, hc⟩ := own_block_of h hg
  obtain ⟨cur', hc', _⟩ := hr
  rw [hc] at hc'
  simp at hc'
theorem Each.grown {w w' : World} {B base : Nat} {v : Value} {n : Nat} {ys : List Value} {xs : List Sv} (h : Each w B xs) (ho : w.ownsRow base 38 1 v n ys) (hg : w.grownBy w' v.ownBlock) : Each w' B xs :=
  ⟨fun x hx => ⟨(h.1 x hx).1, (h.1 x hx).2.kept (hg.block _ (h.1 x hx).2.lt (fun e => own_not_row ho (h.1 x hx).2 e.symm))⟩, h.2⟩

/-- A new row of slices, owned from B on. -/
def OwnS (w : World) (B : Nat) (v : Value) (xs : List Sv) : Prop := w.ownsRow B 38 1 v xs.length (svs xs) ∧ Each w B xs ∧ v ≠ .slice none 0 0
theorem OwnS.below {w w' : World} {B : Nat} {v : Value} {xs : List Sv} (h : OwnS w B v xs) (hb : Below w.heap.size w w') : OwnS w' B v xs := ⟨owns_below h.1 hb, h.2.1.below hb, h.2.2⟩
theorem OwnS.start (w : World) : OwnS (w.alloc (.cells #[] 38)) w.heap.size (.slice (some ⟨w.heap.size, 0, none⟩) 0 0) [] := ⟨owns_empty w _, Each.nil _ _, by simp⟩
theorem OwnS.push {w w' : World} {B : Nat} {v v' : Value} {xs : List Sv} (h : OwnS w B v xs) (x : Sv) (hx : B ≤ x.g) (hr : Row w x.g x.l) (hlt : ∀ y ∈ xs, y.g < x.g)
    (ho : w'.ownsRow B 38 1 v' (xs.length + 1) (svs xs ++ [x.v])) (hg : w.grownBy w' v.ownBlock) (hn : ¬ v' = .slice none 0 0) : OwnS w' B v' (xs ++ [x]) := by
  refine ⟨by rw [svs_snoc, List.length_append]; exact ho, ?_, hn⟩
  have e := (h.2.1.push x hx hr hlt)
  exact e.grown h.1 hg

/-- Block g begins with these slices. -/
def RowS (w : World) (g : Nat) (xs : List Sv) : Prop := ∃ cur : Array Value, w.heap[g]? = some (.cells cur 38 (0, 0)) ∧ cur.toList.take xs.length = svs xs
theorem RowS.lt {w : World} {g : Nat} {xs : List Sv} (h : RowS w g xs) : g < w.heap.size := by
  obtain ⟨cur, hc, _⟩ := h
  exact (Array.getElem?_eq_some_iff.1 hc).1
theorem RowS.kept {w w' : World} {g : Nat} {xs : List Sv} (h : RowS w g xs) (he : w'.heap[g]? = w.heap[g]?) : RowS w' g xs := by
  obtain ⟨cur, hc, ht⟩ := h
  exact ⟨cur, he.trans hc, ht⟩
theorem RowS.below {w w' : World} {g : Nat} {xs : List Sv} (h : RowS w g xs) (hb : Below w.heap.size w w') : RowS w' g xs := h.kept (hb.block g h.lt)
theorem RowS.cell {w : World} {g : Nat} {xs : List Sv} (h : RowS w g xs) (j : Nat) (x : Sv) (hj : xs[j]? = some x) : w.cell? ⟨g, j, none⟩ = some (.slice (some ⟨x.g, 0, none⟩) x.l.length x.cap) := by
  obtain ⟨cur, hc, ht⟩ := h
  have hlt : j < xs.length := (List.getElem?_eq_some_iff.1 hj).1
  rw [cell_of_row w g j cur _ (0, 0) hc]
  have h1 : (cur.toList.take xs.length)[j]? = (svs xs)[j]? := by rw [ht]
  rw [List.getElem?_take, if_pos hlt] at h1
  simp only [Array.getElem?_toList] at h1
  rw [h1]
  simp [svs, hj, Sv.v]
theorem RowS.ne {w : World} {g g' : Nat} {xs : List Sv} {l : List Int} (h : RowS w g xs) (hr : Row w g' l) : g ≠ g' := by
  rintro rfl
  obtain ⟨cur, hc, _⟩ := h
  obtain ⟨cur', hc', _⟩ := hr
  rw [hc] at hc'
  simp at hc'
theorem OwnS.row {w : World} {B : Nat} {v : Value} {xs : List Sv} (h : OwnS w B v xs) : ∃ g cap, v = .slice (some ⟨g, 0, none⟩) xs.length cap ∧ B ≤ g ∧ RowS w g xs ∧ Each w B xs := by
  obtain ⟨h1, h2, h3⟩ := h
  rcases h1.2 with ⟨h0, _⟩ | ⟨g, cap, cur, rfl, hb, hg, hnc, hcm, hcs, ht⟩
  · exact absurd h0 h3
  · exact ⟨g, cap, rfl, hb, ⟨cur, hg, by simpa using ht⟩, h2⟩
/-- What a call returns that makes a row of slices. -/
def OwnLL (w : World) (L : List (List Int)) (e : Ending) (w' : World) : Prop := ∃ g cap xs, e = .returned (.slice (some ⟨g, 0, none⟩) xs.length cap) ∧ lls xs = L ∧ w.heap.size ≤ g ∧ RowS w' g xs ∧ Each w' w.heap.size xs ∧ Below w.heap.size w w'
def OwnLT (w : World) (L : List (List Int)) (e : Ending) (w' : World) : Prop := ∃ g cap xs, e = .returned (.tuple #[.slice (some ⟨g, 0, none⟩) xs.length cap, .bool true]) ∧ lls xs = L ∧ w.heap.size ≤ g ∧ RowS w' g xs ∧ Each w' w.heap.size xs ∧ Below w.heap.size w w'

theorem row3 (w : World) (a b c : Int) : Row (w.alloc (.cells #[.int .i64 a, .int .i64 b, .int .i64 c] 3)) w.heap.size [a, b, c] := ⟨_, heap_alloc_new w _, rfl⟩
theorem one_of_slice {a : Option Addr} {n c : Nat} : ∀ u ∈ [Value.slice a n c], u.oneCell' = true := by
  intro u hu
  simp at hu
  subst hu
  rfl

end Go.Proofs.Ytogmfadeedmmaaa
