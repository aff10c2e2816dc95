/- The plain laws of classes over the whole numbers: sums and products of classes with small numbers do not overflow; their degrees, genera and lines. No Go in sight. -/
import Derived.Test.YtogmfadeedmmaaaArith
namespace Go.Proofs.Ytogmfadeedmmaaa
open Go.RowKit
set_option linter.unusedSimpArgs false
set_option linter.unusedVariables false

theorem mul_bd (m n A B : Int) (h : -A ≤ m ∧ m ≤ A) (k : -B ≤ n ∧ n ≤ B) : -(A*B) ≤ m*n ∧ m*n ≤ A*B := by
  have h1 : (m*n).natAbs ≤ (A*B).natAbs := by
    rw [Int.natAbs_mul, Int.natAbs_mul]
    exact Nat.mul_le_mul (by omega) (by omega)
  have h2 : 0 ≤ A*B := Int.mul_nonneg (by omega) (by omega)
  omega
theorem w64 (n : Int) (h : -4611686018427387904 ≤ n ∧ n ≤ 4611686018427387904) : wrap64 n = n := by unfold wrap64; omega

/-- All numbers of a class lie from -A to A. -/
def bdC (A : Int) (x : Cls) : Prop := (-A ≤ x.d ∧ x.d ≤ A) ∧ (-A ≤ x.a ∧ x.a ≤ A) ∧ (-A ≤ x.b ∧ x.b ≤ A) ∧ (-A ≤ x.c ∧ x.c ≤ A) ∧ (-A ≤ x.e ∧ x.e ≤ A) ∧ (-A ≤ x.f ∧ x.f ≤ A) ∧ (-A ≤ x.g ∧ x.g ≤ A)
theorem bdC_of {x : Cls} (h : vldB x = true) : bdC 1000 x := by
  simp only [vldB, okN, inB, Bool.and_eq_true, decide_eq_true_eq] at h
  unfold bdC
  omega
theorem of_bdC {x : Cls} (h : bdC 1000 x) : vldB x = true := by
  simp only [vldB, okN, inB, Bool.and_eq_true, decide_eq_true_eq]
  unfold bdC at h
  omega
def prodZ (x y : Cls) : Int := x.d * y.d - x.a * y.a - x.b * y.b - x.c * y.c - x.e * y.e - x.f * y.f - x.g * y.g
def sumZ (x : Cls) (n : Int) (y : Cls) : Cls := ⟨x.d + n * y.d, x.a + n * y.a, x.b + n * y.b, x.c + n * y.c, x.e + n * y.e, x.f + n * y.f, x.g + n * y.g⟩
def degZ (x : Cls) : Int := prodZ x planeC

theorem stepM_z (s m n : Int) (hs : -1000000000000000 ≤ s ∧ s ≤ 1000000000000000) (hm : -1000000 ≤ m ∧ m ≤ 1000000) (hn : -1000000 ≤ n ∧ n ≤ 1000000) : stepM s m n = s - m * n ∧ (-1000000000000000 ≤ s → s ≤ 1000000000000000 → True) := by
  have h := mul_bd m n 1000000 1000000 hm hn
  refine ⟨?_, fun _ _ => trivial⟩
  unfold stepM
  rw [w64 (m * n) (by omega), w64 _ (by omega)]

theorem prodC_z {x y : Cls} (hx : bdC 1000000 x) (hy : bdC 1000000 y) : prodC x y = prodZ x y := by
  obtain ⟨x0, x1, x2, x3, x4, x5, x6⟩ := hx
  obtain ⟨y0, y1, y2, y3, y4, y5, y6⟩ := hy
  have h0 := mul_bd _ _ 1000000 1000000 x0 y0
  have h1 := mul_bd _ _ 1000000 1000000 x1 y1
  have h2 := mul_bd _ _ 1000000 1000000 x2 y2
  have h3 := mul_bd _ _ 1000000 1000000 x3 y3
  have h4 := mul_bd _ _ 1000000 1000000 x4 y4
  have h5 := mul_bd _ _ 1000000 1000000 x5 y5
  have h6 := mul_bd _ _ 1000000 1000000 x6 y6
  unfold prodC prodZ
  rw [w64 (x.d * y.d) (by omega), (stepM_z _ _ _ (by omega) x1 y1).1, (stepM_z _ _ _ (by omega) x2 y2).1, (stepM_z _ _ _ (by omega) x3 y3).1, (stepM_z _ _ _ (by omega) x4 y4).1, (stepM_z _ _ _ (by omega) x5 y5).1, (stepM_z _ _ _ (by omega) x6 y6).1]

theorem addM_z (m n k : Int) (hm : -1000000 ≤ m ∧ m ≤ 1000000) (hn : -1000000 ≤ n ∧ n ≤ 1000000) (hk : -1000000 ≤ k ∧ k ≤ 1000000) : addM m n k = m + n * k := by
  have h := mul_bd n k 1000000 1000000 hn hk
  unfold addM
  rw [w64 (n * k) (by omega), w64 _ (by omega)]
theorem sumC_z {x y : Cls} {n : Int} (hx : bdC 1000000 x) (hn : -1000000 ≤ n ∧ n ≤ 1000000) (hy : bdC 1000000 y) : sumC x n y = sumZ x n y := by
  obtain ⟨x0, x1, x2, x3, x4, x5, x6⟩ := hx
  obtain ⟨y0, y1, y2, y3, y4, y5, y6⟩ := hy
  unfold sumC sumZ
  rw [addM_z _ _ _ x0 hn y0, addM_z _ _ _ x1 hn y1, addM_z _ _ _ x2 hn y2, addM_z _ _ _ x3 hn y3, addM_z _ _ _ x4 hn y4, addM_z _ _ _ x5 hn y5, addM_z _ _ _ x6 hn y6]
theorem bdC_le {A B : Int} {x : Cls} (h : bdC A x) (hAB : A ≤ B) : bdC B x := by unfold bdC at *; omega
theorem big {x : Cls} (h : vldB x = true) : bdC 1000000 x := bdC_le (bdC_of h) (by omega)
theorem zero_big : bdC 1000000 zeroC := by unfold bdC zeroC; decide
theorem plane_big : bdC 1000000 planeC := by unfold bdC planeC; decide

theorem eqB_refl (x : Cls) : eqB x x = true := by simp [eqB, eqM]
theorem eqB_of {x y : Cls} (h : x = y) : eqB x y = true := by subst h; exact eqB_refl x

/-- P1: a class less itself is 0. -/
theorem law_neg {x : Cls} (h : vldB x = true) : timB x (-1) = true ∧ addB x (timR x (-1)) = true ∧ addR x (timR x (-1)) = zeroC := by
  have hs : sumC zeroC (-1) x = sumZ zeroC (-1) x := sumC_z zero_big (by omega) (big h)
  have hv : vldB (sumZ zeroC (-1) x) = true := by
    apply of_bdC
    have := bdC_of h
    unfold bdC sumZ zeroC at *
    simp only
    omega
  have ht : timR x (-1) = sumZ zeroC (-1) x := by simp [timR, h, hs, tldC, hv, kOk, inB]
  have hs2 : sumC x 1 (sumZ zeroC (-1) x) = sumZ x 1 (sumZ zeroC (-1) x) := sumC_z (big h) (by omega) (big hv)
  have hz : sumZ x 1 (sumZ zeroC (-1) x) = zeroC := by
    unfold sumZ zeroC
    simp only [Cls.mk.injEq]
    omega
  have hvz : vldB zeroC = true := by decide
  refine ⟨by simp [timB, h, hs, hv, kOk, inB], ?_, ?_⟩
  · rw [ht]; simp [addB, h, hv, hs2, hz, hvz]
  · rw [ht]; simp [addR, h, hv, hs2, hz, tldC, hvz]

theorem prodZ_comm (x y : Cls) : prodZ x y = prodZ y x := by unfold prodZ; grind
theorem prodZ_add (x y : Cls) : prodZ x (sumZ x 1 y) = prodZ x y + prodZ x x := by unfold prodZ sumZ; grind
theorem prodC_comm {x y : Cls} (hx : vldB x = true) (hy : vldB y = true) : prodC x y = prodC y x := by
  rw [prodC_z (big hx) (big hy), prodC_z (big hy) (big hx), prodZ_comm]
theorem prodZ_bd {x y : Cls} (hx : vldB x = true) (hy : vldB y = true) : -7000000 ≤ prodZ x y ∧ prodZ x y ≤ 7000000 := by
  obtain ⟨x0, x1, x2, x3, x4, x5, x6⟩ := bdC_of hx
  obtain ⟨y0, y1, y2, y3, y4, y5, y6⟩ := bdC_of hy
  have h0 := mul_bd _ _ 1000 1000 x0 y0
  have h1 := mul_bd _ _ 1000 1000 x1 y1
  have h2 := mul_bd _ _ 1000 1000 x2 y2
  have h3 := mul_bd _ _ 1000 1000 x3 y3
  have h4 := mul_bd _ _ 1000 1000 x4 y4
  have h5 := mul_bd _ _ 1000 1000 x5 y5
  have h6 := mul_bd _ _ 1000 1000 x6 y6
  unfold prodZ
  omega
theorem ok_plane : vldB planeC = true := by decide

/-- P4: products share sums. -/
theorem law_prod {x y : Cls} (hx : vldB x = true) (hy : vldB y = true) (hs : vldB (sumC x 1 y) = true) : prodC x (sumC x 1 y) = wrap64 (prodC x y + prodC x x) := by
  have e : sumC x 1 y = sumZ x 1 y := sumC_z (big hx) (by omega) (big hy)
  have b1 := prodZ_bd hx hy
  have b2 := prodZ_bd hx hx
  rw [prodC_z (big hx) (big hs), prodC_z (big hx) (big hy), prodC_z (big hx) (big hx), e, prodZ_add, w64 _ (by omega)]

/-- P3: multiples have multiple products. -/
theorem law_times {x : Cls} {n : Int} (hx : vldB x = true) (hn : -1000 ≤ n ∧ n ≤ 1000) (hs : vldB (sumC zeroC n x) = true) : prodC (sumC zeroC n x) (sumC zeroC n x) = wrap64 (wrap64 (n * n) * prodC x x) := by
  have e : sumC zeroC n x = sumZ zeroC n x := sumC_z zero_big (by omega) (big hx)
  have b2 := prodZ_bd hx hx
  have b3 := mul_bd n n 1000 1000 hn hn
  have b4 := mul_bd (n * n) (prodZ x x) 1000000 7000000 (by omega) b2
  rw [prodC_z (big hs) (big hs), prodC_z (big hx) (big hx), w64 (n * n) (by omega), w64 _ (by omega), e]
  unfold prodZ sumZ zeroC
  grind

/-- P2: sums go both ways; degrees add. -/
theorem law_add {x y : Cls} (hx : vldB x = true) (hy : vldB y = true) (hs : vldB (sumC x 1 y) = true) : sumC y 1 x = sumC x 1 y ∧ degC (sumC x 1 y) = wrap64 (degC x + degC y) := by
  have e : sumC x 1 y = sumZ x 1 y := sumC_z (big hx) (by omega) (big hy)
  have e' : sumC y 1 x = sumZ y 1 x := sumC_z (big hy) (by omega) (big hx)
  have b1 := prodZ_bd hx ok_plane
  have b2 := prodZ_bd hy ok_plane
  constructor
  · rw [e, e']
    unfold sumZ
    simp only [Cls.mk.injEq]
    omega
  · unfold degC
    rw [prodC_z (big hs) plane_big, prodC_z (big hx) plane_big, prodC_z (big hy) plane_big, w64 _ (by omega), e]
    unfold prodZ sumZ planeC
    simp only
    omega

theorem sq_even (n : Int) : ∃ q, n * n = n + 2 * q := by
  rcases Int.emod_two_eq n with h | h
  · exact ⟨n / 2 * (n - 1), by have : n = 2 * (n / 2) := by omega
                               grind⟩
  · exact ⟨n * (n / 2), by have : n = 2 * (n / 2) + 1 := by omega
                           grind⟩
theorem even_z (x : Cls) : ∃ q, prodZ x x = degZ x + 2 * q := by
  obtain ⟨q0, h0⟩ := sq_even x.d
  obtain ⟨q1, h1⟩ := sq_even x.a
  obtain ⟨q2, h2⟩ := sq_even x.b
  obtain ⟨q3, h3⟩ := sq_even x.c
  obtain ⟨q4, h4⟩ := sq_even x.e
  obtain ⟨q5, h5⟩ := sq_even x.f
  obtain ⟨q6, h6⟩ := sq_even x.g
  refine ⟨q0 - x.d - q1 - q2 - q3 - q4 - q5 - q6, ?_⟩
  unfold prodZ degZ prodZ planeC
  simp only
  omega

/-- P5: parity. -/
theorem law_par {x : Cls} (hx : vldB x = true) : (wrap64 (prodC x x - degC x)).tmod 2 = 0 := by
  obtain ⟨q, hq⟩ := even_z x
  have b1 := prodZ_bd hx hx
  have b2 := prodZ_bd hx ok_plane
  unfold degC
  unfold degZ at hq
  rw [prodC_z (big hx) (big hx), prodC_z (big hx) plane_big, w64 _ (by omega), hq, show prodZ x planeC + 2 * q - prodZ x planeC = 2 * q by omega]
  exact Int.mul_tmod_right 2 q

theorem genC_z {x : Cls} (hx : vldB x = true) {q : Int} (hq : prodZ x x = degZ x + 2 * q) : genC x = q + 1 := by
  have b1 := prodZ_bd hx hx
  have b2 := prodZ_bd hx ok_plane
  unfold genC degC
  unfold degZ at hq
  rw [prodC_z (big hx) (big hx), prodC_z (big hx) plane_big, w64 (_ - _) (by omega), hq, show prodZ x planeC + 2 * q - prodZ x planeC = 2 * q by omega, Int.mul_tdiv_cancel_left q (by omega), w64 q (by omega), w64 _ (by omega)]

/-- P6: genera of sums. -/
theorem law_genus {x : Cls} (hx : vldB x = true) (hs : vldB (sumC x 1 (LC 0)) = true) : genC (sumC x 1 (LC 0)) = wrap64 (wrap64 (genC x + prodC x (LC 0)) - 1) := by
  have h0 : vldB (LC 0) = true := by decide
  have e : sumC x 1 (LC 0) = sumZ x 1 (LC 0) := sumC_z (big hx) (by omega) (big h0)
  obtain ⟨q, hq⟩ := even_z x
  have b3 := prodZ_bd hx h0
  have b1 := prodZ_bd hx hx
  have b2 := prodZ_bd hx ok_plane
  have hq' : prodZ (sumC x 1 (LC 0)) (sumC x 1 (LC 0)) = degZ (sumC x 1 (LC 0)) + 2 * (q + prodZ x (LC 0) - 1) := by
    rw [e]
    unfold degZ prodZ planeC at hq
    unfold degZ prodZ sumZ planeC LC
    simp only at hq ⊢
    grind
  rw [genC_z hs hq', genC_z hx hq, prodC_z (big hx) (big h0)]
  unfold degZ at hq
  rw [w64 (_ + _) (by omega), w64 _ (by omega)]
  omega

end Go.Proofs.Ytogmfadeedmmaaa
