/- The 45 planes: how many there are, how many have a line, and that their third line is the third line of the first two. No condition. -/
import Derived.Test.YtogmfadeedmmaaaPln
namespace Go.Proofs.Ytogmfadeedmmaaa
open Go.RowKit

def planesL : List (List Int) := [[0, 6, 22], [0, 7, 23], [0, 8, 24], [0, 9, 25], [0, 10, 26], [1, 6, 21], [1, 11, 23], [1, 12, 24], [1, 13, 25], [1, 14, 26], [2, 7, 21], [2, 11, 22], [2, 15, 24], [2, 16, 25], [2, 17, 26], [3, 8, 21], [3, 12, 22], [3, 15, 23], [3, 18, 25], [3, 19, 26], [4, 9, 21], [4, 13, 22], [4, 16, 23], [4, 18, 24], [4, 20, 26], [5, 10, 21], [5, 14, 22], [5, 17, 23], [5, 19, 24], [5, 20, 25], [6, 15, 20], [6, 16, 19], [6, 17, 18], [7, 12, 20], [7, 13, 19], [7, 14, 18], [8, 11, 20], [8, 13, 17], [8, 14, 16], [9, 11, 19], [9, 12, 17], [9, 14, 15], [10, 11, 18], [10, 12, 16], [10, 13, 15]]
theorem q_lit : qI 27 = planesL := by decide +kernel
theorem plB_45 : (plB (-1)).length = 45 := by
  rw [plB_def, q_lit]
  decide +kernel
theorem pl_5 : ∀ n : Nat, n < 27 → (planesL.filter (hasL (n : Int))).length = 5 := by decide +kernel
theorem plB_5 (n : Nat) (h : n < 27) : (plB (n : Int)).length = 5 := by
  rw [plB_def, q_lit]
  exact pl_5 n h
def okPl (l : List Int) : Bool := match l with
  | [a, b, c] => (decide (0 ≤ a) && decide (a < 27)) && ((decide (0 ≤ b) && decide (b < 27)) && (mtB a.toNat b.toNat && decide (thR a.toNat b.toNat = c)))
  | _ => false
theorem pl_ok : ∀ l ∈ planesL, okPl l = true := by decide +kernel
theorem plB_form (n : Int) : ∀ l ∈ plB n, ∃ (i k : Nat) (c : Int), i < 27 ∧ k < 27 ∧ mtB i k = true ∧ thR i k = c ∧ l = [(i : Int), (k : Int), c] := by
  intro l hl
  rw [plB_def, q_lit] at hl
  have h := pl_ok l (List.mem_filter.1 hl).1
  unfold okPl at h
  split at h
  · rename_i a b c
    simp only [Bool.and_eq_true, decide_eq_true_eq] at h
    obtain ⟨⟨h1, h2⟩, ⟨h3, h4⟩, h5, h6⟩ := h
    refine ⟨a.toNat, b.toNat, c, by omega, by omega, h5, h6, ?_⟩
    rw [show ((a.toNat : Nat) : Int) = a by omega, show ((b.toNat : Nat) : Int) = b by omega]
  · cases h

end Go.Proofs.Ytogmfadeedmmaaa
