/- Two lists of equal numbers are the same; no condition but the lists' lengths. The lines that meet a line: ten, each meets one other. -/
import Derived.Test.YtogmfadeedmmaaaSlices
import Derived.Test.YtogmfadeedmmaaaMeeting
namespace Go.Proofs.Ytogmfadeedmmaaa
open Go.RowKit
set_option linter.unusedSimpArgs false
set_option linter.unusedVariables false

theorem sameInts_nil (ao bo : Option Addr) (ca cb : Nat) (w : World) :
    Calls Try.prog 31 #[.slice ao 0 ca, .slice bo 0 cb] w fun e w' => e = .returned (.bool true) ∧ Below w.heap.size w w' := by
  go_enter Try.func31, Try.ntmps31
  go_wp2
  refine wp_loop_rounds 1 ?_
  rw [rounds_succ]
  go_wp2
  go_ret
  exact ⟨rfl, by (repeat (first | (with_reducible exact Below.refl _ _) | (with_reducible refine bl_alloc ?_ ?_ _; focus (first | omega | (simp; done) | (simp; omega))) | (with_reducible refine bl_set ?_ ?_ _; focus (first | omega | (simp; done) | (simp; omega))) | (with_reducible refine Below.drew ?_) | (with_reducible refine below_drewN ?_ _) | (with_reducible refine below_step ?_ (by assumption))))⟩

set_option maxHeartbeats 1000000 in
theorem sameInts_same (g g' cap cap' : Nat) (l : List Int) (hl : l.length ≤ 1000000000) (w : World) (h : Row w g l) (h' : Row w g' l) :
    Calls Try.prog 31 #[.slice (some ⟨g, 0, none⟩) l.length cap, .slice (some ⟨g', 0, none⟩) l.length cap'] w fun e w' => e = .returned (.bool true) ∧ Below w.heap.size w w' := by
  go_enter Try.func31, Try.ntmps31
  go_wp2
  go_loopw [5] (fun c wr => ∃ j n : Nat, j ≤ l.length ∧ c = .int .i64 j ∧ wr = w.drewN n) (fun c _ => l.length - (intOf c).toNat)
  case atStart => exact ⟨0, 0, by omega, rfl, rfl⟩
  case round =>
    obtain ⟨j, n, hj, rfl, rfl⟩ := hrel
    by_cases hlt : j < l.length
    · have c1 := h.cell j hlt
      have c2 := h'.cell j hlt
      have b1 : (0 : Int) ≤ (j : Int) := by omega
      have b2 : (j : Int) < (l.length : Int) := by omega
      go_wp2
      go_quiet (fail)
      go_wp2
      go_roundw
      case rel => exact ⟨j + 1, _, by omega, by go_num, rfl⟩
      case measure => simp [intOf]; omega
    · obtain rfl : j = l.length := by omega
      go_wp2
      go_ret
      exact ⟨rfl, by (repeat (first | (with_reducible exact Below.refl _ _) | (with_reducible refine bl_alloc ?_ ?_ _; focus (first | omega | (simp; done) | (simp; omega))) | (with_reducible refine bl_set ?_ ?_ _; focus (first | omega | (simp; done) | (simp; omega))) | (with_reducible refine Below.drew ?_) | (with_reducible refine below_drewN ?_ _) | (with_reducible refine below_step ?_ (by assumption))))⟩

def ml (i x : Nat) : Nat := ((linesB (mtB i) 27).getD x 0).toNat
def cntM (i x : Nat) : Nat → Nat
  | 0 => 0
  | y + 1 => cntM i x y + if mtB (ml i x) (ml i y) then 1 else 0

theorem ml_len : ∀ i, i < 27 → (linesB (mtB i) 27).length = 10 := by decide +kernel
theorem ml_val : ∀ i, i < 27 → ∀ x, x < 10 → ml i x < 27 ∧ (linesB (mtB i) 27).getD x 0 = (ml i x : Int) ∧ mtB i (ml i x) = true ∧ (x = 0 ∨ ml i (x - 1) < ml i x) := by decide +kernel
theorem ml_cnt : ∀ i, i < 27 → ∀ x, x < 10 → cntM i x 10 = 1 := by decide +kernel
theorem cnt_0 (i x : Nat) : cntM i x 0 = 0 := rfl
theorem cnt_t {i x y : Nat} (h : mtB (ml i x) (ml i y) = true) : cntM i x (y + 1) = cntM i x y + 1 := by simp [cntM, h]
theorem cnt_f {i x y : Nat} (h : mtB (ml i x) (ml i y) = false) : cntM i x (y + 1) = cntM i x y := by simp [cntM, h]
theorem cnt_le (i x : Nat) : ∀ y, cntM i x y ≤ y
  | 0 => Nat.le_refl _
  | y + 1 => by have := cnt_le i x y; simp only [cntM]; split <;> omega
attribute [irreducible] ml cntM

end Go.Proofs.Ytogmfadeedmmaaa
