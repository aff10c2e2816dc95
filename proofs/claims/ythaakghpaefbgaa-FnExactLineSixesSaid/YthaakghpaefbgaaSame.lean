/- Two lists of equal numbers are the same; no condition but the lists' lengths. The lines that meet a line: ten, each meets one other. -/
import Derived.Test.YthaakghpaefbgaaSlices
import Derived.Test.YthaakghpaefbgaaMeeting
namespace Go.Proofs.Ythaakghpaefbgaa
open Go.RowKit
set_option linter.unusedSimpArgs false
set_option linter.unusedVariables false

def ml (i x : Nat) : Nat := ((linesB (mtB i) 27).getD x 0).toNat
def cntM (i x : Nat) : Nat → Nat
  | 0 => 0
  | y + 1 => cntM i x y + if mtB (ml i x) (ml i y) then 1 else 0

theorem ml_len : ∀ i, i < 27 → (linesB (mtB i) 27).length = 10 := by decide +kernel
theorem ml_val : ∀ i, i < 27 → ∀ x, x < 10 → ml i x < 27 ∧ (linesB (mtB i) 27).getD x 0 = (ml i x : Int) ∧ mtB i (ml i x) = true ∧ (x = 0 ∨ ml i (x - 1) < ml i x) := by decide +kernel
theorem ml_cnt : ∀ i, i < 27 → ∀ x, x < 10 → cntM i x 10 = 1 := by decide +kernel
theorem cnt_0 (i x : Nat) : cntM i x 0 = 0 := rfl
theorem cnt_t {i x y : Nat} (h : mtB (ml i x) (ml i y) = true) : cntM i x (y + 1) = cntM i x y + 1 := by simp [cntM, h]
theorem cnt_f {i x y : Nat} (h : mtB (ml i x) (ml i y) = false) : cntM i x (y + 1) = cntM i x y := by simp [cntM, h]
theorem cnt_le (i x : Nat) : ∀ y, cntM i x y ≤ y
  | 0 => Nat.le_refl _
  | y + 1 => by have := cnt_le i x y; simp only [cntM]; split <;> omega
attribute [irreducible] ml cntM

end Go.Proofs.Ythaakghpaefbgaa
