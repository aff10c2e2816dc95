/- What the boxes of classes hold behind a call that only makes new blocks; facts on the sums and products of classes that are in their range. No condition. -/
import Derived.Test.YtaapkkbfmgimkaaZL
import Derived.Test.YtaapkkbfmgimkaaRootsL
import Derived.Test.YtaapkkbfmgimkaaCut
namespace Go.Proofs.Ytaapkkbfmgimkaa
open Go.RowKit
set_option linter.unusedSimpArgs false
set_option linter.unusedVariables false

theorem live0 {W W' : World} {B : Nat} {A : Array Value} (h : ∀ o : Nat, W.cell? ⟨B, o, none⟩ = A[o]?) (hB : B < W.heap.size) (hb : Below W.heap.size W W') : ∀ o : Nat, W'.cell? ⟨B, o, none⟩ = A[o]? := fun o => (hb.cell (p := ⟨B, o, none⟩) hB).trans (h o)
theorem live1 {W W' : World} {B : Nat} {A : Array Value} {x : Obj} (h : ∀ o : Nat, W.cell? ⟨B, o, none⟩ = A[o]?) (hB : B < W.heap.size) (hb : Below (W.alloc x).heap.size (W.alloc x) W') : ∀ o : Nat, W'.cell? ⟨B, o, none⟩ = A[o]? := live0 (live0 h hB ((Below.refl _ _).alloc (Nat.le_refl _) x)) (by simp; omega) hb
theorem live2 {W W' : World} {B : Nat} {A : Array Value} {x y : Obj} (h : ∀ o : Nat, W.cell? ⟨B, o, none⟩ = A[o]?) (hB : B < W.heap.size) (hb : Below ((W.alloc x).alloc y).heap.size ((W.alloc x).alloc y) W') : ∀ o : Nat, W'.cell? ⟨B, o, none⟩ = A[o]? := live1 (live0 h hB ((Below.refl _ _).alloc (Nat.le_refl _) x)) (by simp; omega) hb
theorem new1 {W W' : World} {A : Array Value} {t : TypeId} (hb : Below (W.alloc (.cells A t)).heap.size (W.alloc (.cells A t)) W') : ∀ o : Nat, W'.cell? ⟨W.heap.size, o, none⟩ = A[o]? := live0 (fun o => cell_of_row _ _ _ _ _ (0, 0) (alloc_at W _ _ rfl)) (by simp) hb
theorem new2a {W W' : World} {A : Array Value} {t : TypeId} {y : Obj} (hb : Below ((W.alloc (.cells A t)).alloc y).heap.size ((W.alloc (.cells A t)).alloc y) W') : ∀ o : Nat, W'.cell? ⟨W.heap.size, o, none⟩ = A[o]? := live1 (fun o => cell_of_row _ _ _ _ _ (0, 0) (alloc_at W _ _ rfl)) (by simp) hb
theorem new2b {W W' : World} {A : Array Value} {t : TypeId} {y : Obj} (hb : Below ((W.alloc y).alloc (.cells A t)).heap.size ((W.alloc y).alloc (.cells A t)) W') : ∀ o : Nat, W'.cell? ⟨W.heap.size + 1, o, none⟩ = A[o]? := live0 (fun o => cell_of_row _ _ _ _ _ (0, 0) (alloc_at _ _ _ (by simp))) (by simp) hb
theorem grow1 {a W W' : World} {x : Obj} (h : Below a.heap.size a W) (hb : Below (W.alloc x).heap.size (W.alloc x) W') : Below a.heap.size a W' ∧ W.heap.size + 1 ≤ W'.heap.size := ⟨below_step (h.alloc h.size x) hb, by have := hb.size; simpa using this⟩
theorem grow0 {a W W' : World} (h : Below a.heap.size a W) (hb : Below W.heap.size W W') : Below a.heap.size a W' ∧ W.heap.size ≤ W'.heap.size := ⟨below_step h hb, hb.size⟩
theorem grow2 {a W W' : World} {x y : Obj} (h : Below a.heap.size a W) (hb : Below ((W.alloc x).alloc y).heap.size ((W.alloc x).alloc y) W') : Below a.heap.size a W' ∧ W.heap.size + 1 + 1 ≤ W'.heap.size := ⟨below_step ((h.alloc h.size x).alloc (by have := h.size; simp; omega) y) hb, by have := hb.size; simpa using this⟩

theorem neq_self7 (xd xa xb xc xe xf xg : Int) (w : World) : (binOp .neq 25 (.agg #[.int .i64 xd, .int .i64 xa, .int .i64 xb, .int .i64 xc, .int .i64 xe, .int .i64 xf, .int .i64 xg]) (.agg #[.int .i64 xd, .int .i64 xa, .int .i64 xb, .int .i64 xc, .int .i64 xe, .int .i64 xf, .int .i64 xg])).run Try.prog w = .ok (.bool false) w := by rw [ne_class, eqB_refl]; rfl
theorem eql_self7 (xd xa xb xc xe xf xg : Int) (w : World) : (binOp .eql 25 (.agg #[.int .i64 xd, .int .i64 xa, .int .i64 xb, .int .i64 xc, .int .i64 xe, .int .i64 xf, .int .i64 xg]) (.agg #[.int .i64 xd, .int .i64 xa, .int .i64 xb, .int .i64 xc, .int .i64 xe, .int .i64 xf, .int .i64 xg])).run Try.prog w = .ok (.bool true) w := by rw [eq_class, eqB_refl]

theorem addB_parts {x y : Cls} (h : addB x y = true) : vldB x = true ∧ vldB y = true ∧ vldB (sumC x 1 y) = true := by
  simp only [addB, Bool.and_eq_true] at h
  exact h
theorem addR_t {x y : Cls} (h : addB x y = true) : addR x y = sumC x 1 y := by
  obtain ⟨h1, h2, h3⟩ := addB_parts h
  simp [addR, h1, h2, h3, tldC]
theorem addR_f {x y : Cls} (h : addB x y = false) : addR x y = zeroC := by
  simp only [addR]
  split
  · next hv =>
    simp only [Bool.and_eq_true] at hv
    simp only [addB, hv.1, hv.2, Bool.true_and] at h
    simp [tldC, h]
  · rfl
theorem timB_parts {x : Cls} {n : Int} (h : timB x n = true) : vldB x = true ∧ (-1000 ≤ n ∧ n ≤ 1000) ∧ vldB (sumC zeroC n x) = true := by
  simp only [timB, kOk, inB, Bool.and_eq_true, decide_eq_true_eq] at h
  exact h
theorem timR_t {x : Cls} {n : Int} (h : timB x n = true) : timR x n = sumC zeroC n x := by
  have h' := h
  simp only [timB, Bool.and_eq_true] at h'
  simp [timR, h'.1, h'.2.1, h'.2.2, tldC]
theorem timR_f {x : Cls} {n : Int} (h : timB x n = false) : timR x n = zeroC := by
  simp only [timR]
  split
  · next hv =>
    simp only [Bool.and_eq_true] at hv
    simp only [timB, hv.1, hv.2, Bool.true_and] at h
    simp [tldC, h]
  · rfl
theorem prodC_bd {x y : Cls} (hx : vldB x = true) (hy : vldB y = true) : -7000000 ≤ prodC x y ∧ prodC x y ≤ 7000000 := by
  rw [prodC_z (big hx) (big hy)]
  exact prodZ_bd hx hy
theorem degC_bd {x : Cls} (hx : vldB x = true) : -7000000 ≤ degC x ∧ degC x ≤ 7000000 := prodC_bd hx ok_plane
theorem ok_zero : vldB zeroC = true := by decide
theorem prodR_t {x y : Cls} (hx : vldB x = true) (hy : vldB y = true) : prodR x y = prodC x y := by simp [prodR, hx, hy]
theorem degR_t {x : Cls} (hx : vldB x = true) : degR x = degC x := by simp [degR, hx]
theorem genR_t {x : Cls} (hx : vldB x = true) : genR x = genC x := by simp [genR, hx]
theorem prodR_f {x y : Cls} (h : (vldB x && vldB y) = false) : prodR x y = 0 := by simp [prodR, h]
theorem degR_f {x : Cls} (h : vldB x = false) : degR x = 0 := by simp [degR, h]
theorem genR_f {x : Cls} (h : vldB x = false) : genR x = 0 := by simp [genR, h]
/-- Sums of degrees, products, genera, as whole numbers without a machine's end. -/
theorem deg_sum {x y : Cls} (h : addB x y = true) : degC (sumC x 1 y) = degC x + degC y := by
  obtain ⟨h1, h2, h3⟩ := addB_parts h
  have b1 := degC_bd h1
  have b2 := degC_bd h2
  rw [(law_add h1 h2 h3).2, w64 _ (by omega)]
theorem add_comm7 {x y : Cls} (h : addB x y = true) : addB y x = true ∧ sumC y 1 x = sumC x 1 y := by
  obtain ⟨h1, h2, h3⟩ := addB_parts h
  have e := (law_add h1 h2 h3).1
  exact ⟨by simp [addB, h1, h2, e, h3], e⟩
theorem prod_sum {x y : Cls} (h : addB x y = true) : prodC x (sumC x 1 y) = prodC x y + prodC x x := by
  obtain ⟨h1, h2, h3⟩ := addB_parts h
  have b1 := prodC_bd h1 h2
  have b2 := prodC_bd h1 h1
  rw [law_prod h1 h2 h3, w64 _ (by omega)]
theorem par_ex {x : Cls} (h : vldB x = true) : ∃ q : Int, prodC x x = degC x + 2 * q ∧ (-7000000 ≤ q ∧ q ≤ 7000000) := by
  obtain ⟨q, hq⟩ := even_z x
  have b1 := prodC_bd h h
  have b2 := degC_bd h
  have e1 : prodC x x = prodZ x x := prodC_z (big h) (big h)
  have e2 : degC x = degZ x := prodC_z (big h) plane_big
  exact ⟨q, by omega, by omega⟩
theorem gen_sum {x : Cls} (h : addB x (LC 0) = true) : genC (sumC x 1 (LC 0)) = genC x + prodC x (LC 0) - 1 ∧ (-8000000 ≤ genC x ∧ genC x ≤ 8000000) := by
  obtain ⟨h1, h2, h3⟩ := addB_parts h
  have b1 := prodC_bd h1 h2
  obtain ⟨q, hq⟩ := even_z x
  have e := genC_z h1 hq
  have b2 := prodZ_bd h1 h1
  have b3 := prodZ_bd h1 ok_plane
  unfold degZ at hq
  have hb : -8000000 ≤ genC x ∧ genC x ≤ 8000000 := by omega
  refine ⟨?_, hb⟩
  rw [law_genus h1 h3, w64 (_ + _) (by omega), w64 _ (by omega)]
theorem gen_bd {x : Cls} (h1 : vldB x = true) : -8000000 ≤ genC x ∧ genC x ≤ 8000000 := by
  obtain ⟨q, hq⟩ := even_z x
  have e := genC_z h1 hq
  have b2 := prodZ_bd h1 h1
  have b3 := prodZ_bd h1 ok_plane
  unfold degZ at hq
  omega

end Go.Proofs.Ytaapkkbfmgimkaa
