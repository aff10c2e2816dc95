/- The sixes, as plain lists: how they grow, line by line, and what all of them are. No Go in sight; no condition. -/
import Derived.Test.YtogmfadeedmmaaaSix
namespace Go.Proofs.Ytogmfadeedmmaaa
open Go.RowKit

/-- The first line that may follow a list. -/
def frm (l : List Int) : Nat := if l.length = 0 then 0 else ln l (l.length - 1) + 1
/-- The lists of sixes that begin with l and lack m lines. -/
def grow : Nat → List Int → List (List Int)
  | 0, l => [l]
  | m + 1, l => ((List.range 27).filter (fun z => decide (frm l ≤ z) && skewTo l z l.length)).flatMap (fun z : Nat => grow m (l ++ [(z : Int)]))
/-- Those whose next line is less than k. -/
def gK (m : Nat) (l : List Int) (k : Nat) : List (List Int) := ((List.range k).filter (fun z => decide (frm l ≤ z) && skewTo l z l.length)).flatMap (fun z : Nat => grow m (l ++ [(z : Int)]))
theorem grow_0 (l : List Int) : grow 0 l = [l] := rfl
theorem grow_s (m : Nat) (l : List Int) : grow (m + 1) l = gK m l 27 := rfl
theorem gK_0 (m : Nat) (l : List Int) : gK m l (frm l) = [] := by
  have : (List.range (frm l)).filter (fun z => decide (frm l ≤ z) && skewTo l z l.length) = [] := by
    simp only [List.filter_eq_nil_iff, List.mem_range]
    intro a ha
    have : ¬ frm l ≤ a := by omega
    simp [this]
  rw [gK, this]
  rfl
theorem gK_t {m : Nat} {l : List Int} {k : Nat} (h : frm l ≤ k) (hs : skewTo l k l.length = true) : gK m l (k + 1) = gK m l k ++ grow m (l ++ [(k : Int)]) := by
  simp [gK, List.range_succ, List.filter_append, h, hs]
theorem gK_f {m : Nat} {l : List Int} {k : Nat} (hs : skewTo l k l.length = false) : gK m l (k + 1) = gK m l k := by
  simp [gK, List.range_succ, List.filter_append, hs]
theorem gK_len_s (m : Nat) (l : List Int) (k : Nat) : (gK m l k).length ≤ (gK m l (k + 1)).length := by
  simp only [gK, List.range_succ, List.filter_append, List.flatMap_append, List.length_append]
  omega
theorem gK_len {m : Nat} {l : List Int} {k : Nat} (d : Nat) : (gK m l k).length ≤ (gK m l (k + d)).length := by
  induction d with
  | zero => exact Nat.le_refl _
  | succ d ih => exact Nat.le_trans ih (gK_len_s m l (k + d))
theorem gK_le {m : Nat} {l : List Int} {k : Nat} (h : k ≤ 27) : (gK m l k).length ≤ (grow (m + 1) l).length := by
  have := gK_len (m := m) (l := l) (k := k) (27 - k)
  rw [show k + (27 - k) = 27 by omega] at this
  exact this
theorem frm_le {l : List Int} (h : ∀ i, i < l.length → lineN (l.getD i 0) = true) : frm l ≤ 27 := by
  unfold frm
  split
  · omega
  · have := (lineN_nat (h (l.length - 1) (by omega))).1
    unfold ln
    omega

/-- All sixes. -/
def sixes : List (List Int) := [[0, 1, 2, 3, 4, 5], [0, 1, 2, 18, 19, 20], [0, 1, 3, 16, 17, 20], [0, 1, 4, 15, 17, 19], [0, 1, 5, 15, 16, 18], [0, 2, 3, 13, 14, 20], [0, 2, 4, 12, 14, 19], [0, 2, 5, 12, 13, 18], [0, 3, 4, 11, 14, 17], [0, 3, 5, 11, 13, 16], [0, 4, 5, 11, 12, 15], [0, 11, 12, 13, 14, 21], [0, 11, 15, 16, 17, 21], [0, 12, 15, 18, 19, 21], [0, 13, 16, 18, 20, 21], [0, 14, 17, 19, 20, 21], [1, 2, 3, 9, 10, 20], [1, 2, 4, 8, 10, 19], [1, 2, 5, 8, 9, 18], [1, 3, 4, 7, 10, 17], [1, 3, 5, 7, 9, 16], [1, 4, 5, 7, 8, 15], [1, 7, 8, 9, 10, 22], [1, 7, 15, 16, 17, 22], [1, 8, 15, 18, 19, 22], [1, 9, 16, 18, 20, 22], [1, 10, 17, 19, 20, 22], [2, 3, 4, 6, 10, 14], [2, 3, 5, 6, 9, 13], [2, 4, 5, 6, 8, 12], [2, 6, 8, 9, 10, 23], [2, 6, 12, 13, 14, 23], [2, 8, 12, 18, 19, 23], [2, 9, 13, 18, 20, 23], [2, 10, 14, 19, 20, 23], [3, 4, 5, 6, 7, 11], [3, 6, 7, 9, 10, 24], [3, 6, 11, 13, 14, 24], [3, 7, 11, 16, 17, 24], [3, 9, 13, 16, 20, 24], [3, 10, 14, 17, 20, 24], [4, 6, 7, 8, 10, 25], [4, 6, 11, 12, 14, 25], [4, 7, 11, 15, 17, 25], [4, 8, 12, 15, 19, 25], [4, 10, 14, 17, 19, 25], [5, 6, 7, 8, 9, 26], [5, 6, 11, 12, 13, 26], [5, 7, 11, 15, 16, 26], [5, 8, 12, 15, 18, 26], [5, 9, 13, 16, 18, 26], [6, 7, 11, 24, 25, 26], [6, 8, 12, 23, 25, 26], [6, 9, 13, 23, 24, 26], [6, 10, 14, 23, 24, 25], [7, 8, 15, 22, 25, 26], [7, 9, 16, 22, 24, 26], [7, 10, 17, 22, 24, 25], [8, 9, 18, 22, 23, 26], [8, 10, 19, 22, 23, 25], [9, 10, 20, 22, 23, 24], [11, 12, 15, 21, 25, 26], [11, 13, 16, 21, 24, 26], [11, 14, 17, 21, 24, 25], [12, 13, 18, 21, 23, 26], [12, 14, 19, 21, 23, 25], [13, 14, 20, 21, 23, 24], [15, 16, 18, 21, 22, 26], [15, 17, 19, 21, 22, 25], [16, 17, 20, 21, 22, 24], [18, 19, 20, 21, 22, 23], [21, 22, 23, 24, 25, 26]]
theorem grow_all : grow 6 [] = sixes := by decide +kernel
theorem sixes_len : sixes.length = 72 := by decide +kernel
theorem sixes_6 : ∀ l ∈ sixes, l.length = 6 := by decide +kernel
theorem sixes_good : ∀ l ∈ sixes, sixB l = true := by decide +kernel
theorem sixes_one : ∀ l ∈ sixes, l.Nodup := by decide +kernel
theorem sixes_16 : ∀ n : Nat, n < 27 → (sixes.filter (fun l => l.contains (n : Int))).length = 16 := by decide +kernel
/-- The sixes with a line. -/
def sxB (n : Int) : List (List Int) := sixes.filter (fun l => l.contains n)
theorem sxB_6 (n : Int) : ∀ l ∈ sxB n, l.length = 6 := fun l hl => sixes_6 l (List.mem_filter.1 hl).1
theorem sxB_len (n : Int) : (sxB n).length ≤ 72 := by
  have := List.length_filter_le (fun l : List Int => l.contains n) sixes
  have h := sixes_len
  unfold sxB
  omega

/-- Every list that is a six is one of them. -/
theorem grow_mem {l : List Int} (hl : l.length = 6) (hg : goodTo l 6 = true) : ∀ m, m ≤ 6 → l ∈ grow m (l.take (6 - m))
  | 0, _ => by simp [grow, List.take_of_length_le (Nat.le_of_eq hl)]
  | m + 1, hm => by
    have ih := grow_mem hl hg m (by omega)
    have hj : 6 - (m + 1) < l.length := by omega
    have ga := goodTo_at hg (6 - (m + 1)) (by omega)
    have e6 : 6 - m = 6 - (m + 1) + 1 := by omega
    rw [e6] at ih
    generalize 6 - (m + 1) = j at *
    have hk := goodAt_line ga
    simp only [goodAt, Bool.and_eq_true] at ga
    obtain ⟨_, g2, g3⟩ := ga
    have ht : l.take (j + 1) = l.take j ++ [((ln l j : Nat) : Int)] := by
      rw [List.take_succ_eq_append_getElem hj, hk.2]
      simp [List.getD, List.getElem?_eq_getElem hj]
    rw [ht] at ih
    have hlen : (l.take j).length = j := by simp; omega
    have hln : ∀ i, i < j → ln (l.take j) i = ln l i := by
      intro i hi
      simp [ln, List.getD, hi]
    have hsk : ∀ k i, i ≤ j → skewTo (l.take j) k i = skewTo l k i := by
      intro k i
      induction i with
      | zero => intro _; rfl
      | succ i ih => intro hi; simp only [skewTo, ih (by omega), hln i (by omega)]
    have hf : frm (l.take j) ≤ ln l j := by
      unfold frm
      rw [hlen]
      split
      · omega
      · rename_i h0
        rw [hln (j - 1) (by omega)]
        have hp := goodAt_line (goodTo_at hg (j - 1) (by omega))
        have : l.getD (j - 1) 0 < l.getD j 0 := by
          have : (j == 0) = false := by simpa using h0
          rw [this] at g2
          simpa using g2
        omega
    refine List.mem_flatMap.2 ⟨ln l j, List.mem_filter.2 ⟨List.mem_range.2 hk.1, ?_⟩, ih⟩
    rw [hlen, hsk _ _ (Nat.le_refl _), g3, decide_eq_true hf]
    rfl
theorem six_mem {l : List Int} (h : sixB l = true) : l ∈ sixes := by
  simp only [sixB, Bool.and_eq_true, beq_iff_eq] at h
  have := grow_mem h.1 (by rw [← h.1]; exact h.2) 6 (Nat.le_refl _)
  rw [← grow_all]
  simpa using this

end Go.Proofs.Ytogmfadeedmmaaa
