/- The line classes are the only classes with the product -1 and the degree 1. No Go in sight; no condition but that the numbers are in their range. -/
import Derived.Test.YtaapkkbfmgimkaaZ
import Derived.Test.YtaapkkbfmgimkaaClassOf
namespace Go.Proofs.Ytaapkkbfmgimkaa
open Go.RowKit
set_option linter.unusedSimpArgs false
set_option linter.unusedVariables false

theorem sq_ge (n : Int) : 0 ≤ n * n := by
  have h := Int.mul_nonneg (Int.natCast_nonneg n.natAbs) (Int.natCast_nonneg n.natAbs)
  rw [← Int.natAbs_mul_self' n] 
  exact h
theorem sq_plus (n : Int) : 0 ≤ n * n + n ∧ (n * n + n = 0 → n = 0 ∨ n = -1) := by
  by_cases h : 0 ≤ n
  · have := Int.mul_nonneg h h
    exact ⟨by omega, fun _ => .inl (by omega)⟩
  · have := Int.mul_nonneg (show 0 ≤ -n by omega) (show 0 ≤ -n - 1 by omega)
    have e : -n * (-n - 1) = n * n + n := by grind
    rw [e] at this
    refine ⟨this, fun h0 => .inr ?_⟩
    have h1 : n * (n + 1) = 0 := by grind
    rcases Int.mul_eq_zero.1 h1 with h2 | h2 <;> omega
theorem sq_minus (n : Int) : 0 ≤ n * n - n ∧ (n * n - n = 0 → n = 0 ∨ n = 1) := by
  have h := sq_plus (-n)
  have e : -n * -n = n * n := by grind
  rw [e] at h
  refine ⟨by omega, fun h0 => ?_⟩
  rcases h.2 (by omega) with h1 | h1 <;> omega

theorem six_bd (a b c e f g : Int) : (a + b + c + e + f + g) * (a + b + c + e + f + g) ≤ 6 * (a * a + b * b + c * c + e * e + f * f + g * g) := by
  have h1 := sq_ge (a - b)
  have h2 := sq_ge (a - c)
  have h3 := sq_ge (a - e)
  have h4 := sq_ge (a - f)
  have h5 := sq_ge (a - g)
  have h6 := sq_ge (b - c)
  have h7 := sq_ge (b - e)
  have h8 := sq_ge (b - f)
  have h9 := sq_ge (b - g)
  have h10 := sq_ge (c - e)
  have h11 := sq_ge (c - f)
  have h12 := sq_ge (c - g)
  have h13 := sq_ge (e - f)
  have h14 := sq_ge (e - g)
  have h15 := sq_ge (f - g)
  have e : 6 * (a * a + b * b + c * c + e * e + f * f + g * g) - (a + b + c + e + f + g) * (a + b + c + e + f + g) = (a - b) * (a - b) + (a - c) * (a - c) + (a - e) * (a - e) + (a - f) * (a - f) + (a - g) * (a - g) + (b - c) * (b - c) + (b - e) * (b - e) + (b - f) * (b - f) + (b - g) * (b - g) + (c - e) * (c - e) + (c - f) * (c - f) + (c - g) * (c - g) + (e - f) * (e - f) + (e - g) * (e - g) + (f - g) * (f - g) := by grind
  omega

theorem d_of (d : Int) (h : (3 * d - 1) * (3 * d - 1) ≤ 6 * (d * d + 1)) : d = 0 ∨ d = 1 ∨ d = 2 := by
  have e : (3 * d - 1) * (3 * d - 1) = 9 * (d * d) - 6 * d + 1 := by grind
  rw [e] at h
  have h1 : 3 * (d * d) ≤ 6 * d + 5 := by omega
  by_cases hd : 3 ≤ d
  · have := Int.mul_nonneg (show 0 ≤ d - 3 by omega) (show 0 ≤ d by omega)
    have e2 : (d - 3) * d = d * d - 3 * d := by grind
    omega
  · by_cases hn : d ≤ -1
    · have := Int.mul_nonneg (show 0 ≤ -d - 1 by omega) (show 0 ≤ -d by omega)
      have e2 : (-d - 1) * -d = d * d + d := by grind
      omega
    · omega

set_option maxRecDepth 100000 in
set_option maxHeartbeats 4000000 in
theorem lines_z (d a b c e f g : Int) (h1 : d * d - a * a - b * b - c * c - e * e - f * f - g * g = -1) (h2 : 3 * d - a - b - c - e - f - g = 1) : 0 ≤ CL ⟨d, a, b, c, e, f, g⟩ := by
  have hs := six_bd a b c e f g
  have e1 : a + b + c + e + f + g = 3 * d - 1 := by omega
  have e2 : a * a + b * b + c * c + e * e + f * f + g * g = d * d + 1 := by omega
  rw [e1, e2] at hs
  have hd := d_of d hs
  clear hs
  rcases hd with rfl | rfl | rfl
  · obtain ⟨a1, a2⟩ := sq_plus a
    obtain ⟨b1, b2⟩ := sq_plus b
    obtain ⟨c1, c2⟩ := sq_plus c
    obtain ⟨e3, e4⟩ := sq_plus e
    obtain ⟨f1, f2⟩ := sq_plus f
    obtain ⟨g1, g2⟩ := sq_plus g
    have a3 := a2 (by omega)
    have b3 := b2 (by omega)
    have c3 := c2 (by omega)
    have e5 := e4 (by omega)
    have f3 := f2 (by omega)
    have g3 := g2 (by omega)
    clear a1 a2 b1 b2 c1 c2 e3 e4 f1 f2 g1 g2 e1 e2 h1
    rcases a3 with rfl | rfl <;> rcases b3 with rfl | rfl <;> rcases c3 with rfl | rfl <;> rcases e5 with rfl | rfl <;> rcases f3 with rfl | rfl <;> rcases g3 with rfl | rfl <;> first | (exfalso; omega) | decide +kernel
  · obtain ⟨a1, a2⟩ := sq_minus a
    obtain ⟨b1, b2⟩ := sq_minus b
    obtain ⟨c1, c2⟩ := sq_minus c
    obtain ⟨e3, e4⟩ := sq_minus e
    obtain ⟨f1, f2⟩ := sq_minus f
    obtain ⟨g1, g2⟩ := sq_minus g
    have a3 := a2 (by omega)
    have b3 := b2 (by omega)
    have c3 := c2 (by omega)
    have e5 := e4 (by omega)
    have f3 := f2 (by omega)
    have g3 := g2 (by omega)
    clear a1 a2 b1 b2 c1 c2 e3 e4 f1 f2 g1 g2 e1 e2 h1
    rcases a3 with rfl | rfl <;> rcases b3 with rfl | rfl <;> rcases c3 with rfl | rfl <;> rcases e5 with rfl | rfl <;> rcases f3 with rfl | rfl <;> rcases g3 with rfl | rfl <;> first | (exfalso; omega) | decide +kernel
  · obtain ⟨a1, a2⟩ := sq_minus a
    obtain ⟨b1, b2⟩ := sq_minus b
    obtain ⟨c1, c2⟩ := sq_minus c
    obtain ⟨e3, e4⟩ := sq_minus e
    obtain ⟨f1, f2⟩ := sq_minus f
    obtain ⟨g1, g2⟩ := sq_minus g
    have a3 := a2 (by omega)
    have b3 := b2 (by omega)
    have c3 := c2 (by omega)
    have e5 := e4 (by omega)
    have f3 := f2 (by omega)
    have g3 := g2 (by omega)
    clear a1 a2 b1 b2 c1 c2 e3 e4 f1 f2 g1 g2 e1 e2 h1
    rcases a3 with rfl | rfl <;> rcases b3 with rfl | rfl <;> rcases c3 with rfl | rfl <;> rcases e5 with rfl | rfl <;> rcases f3 with rfl | rfl <;> rcases g3 with rfl | rfl <;> first | (exfalso; omega) | decide +kernel

/-- P9: there are no more line classes. -/
theorem law_lines {x : Cls} (hx : vldB x = true) (h1 : prodC x x = -1) (h2 : degC x = 1) : 0 ≤ CL x := by
  unfold degC at h2
  rw [prodC_z (big hx) (big hx)] at h1
  rw [prodC_z (big hx) plane_big] at h2
  unfold prodZ at h1 h2
  unfold planeC at h2
  simp only at h2
  exact lines_z x.d x.a x.b x.c x.e x.f x.g h1 (by omega)

/-- P7: what the search finds is the line class. -/
theorem eqB_eq {x y : Cls} (h : eqB x y = true) : x = y := by
  cases x; cases y
  simp only [eqB, eqM, Bool.and_eq_true, beq_iff_eq] at h
  obtain ⟨h0, h1, h2, h3, h4, h5, h6⟩ := h
  simp only [Cls.mk.injEq]
  exact ⟨h0, h1, h2, h3, h4, h5, h6⟩
theorem findL_at (x : Cls) : ∀ (n k : Nat), 0 ≤ findL x n k → ∃ j : Nat, k ≤ j ∧ j < k + n ∧ findL x n k = (j : Int) ∧ LC j = x
  | 0, k, h => by simp [findL] at h
  | n + 1, k, h => by
    unfold findL at h ⊢
    split
    · next hq => exact ⟨k, by omega, by omega, rfl, eqB_eq hq⟩
    · next hq =>
      rw [if_neg hq] at h
      obtain ⟨j, h1, h2, h3, h4⟩ := findL_at x n (k + 1) h
      exact ⟨j, by omega, by omega, h3, h4⟩
theorem CL_at {x : Cls} (h : 0 ≤ CL x) : ∃ j : Nat, j < 27 ∧ CL x = (j : Int) ∧ LC j = x := by
  obtain ⟨j, _, h2, h3, h4⟩ := findL_at x 27 0 h
  exact ⟨j, by omega, h3, h4⟩
theorem line_nums : ∀ j : Nat, j < 27 → prodR (LC j) (LC j) = -1 ∧ degR (LC j) = 1 ∧ genR (LC j) = 0 ∧ vldB (LC j) = true := by decide +kernel

end Go.Proofs.Ytaapkkbfmgimkaa
