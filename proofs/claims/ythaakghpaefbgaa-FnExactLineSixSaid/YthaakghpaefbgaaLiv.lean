/- What the boxes of classes hold behind a call that only makes new blocks. No condition. -/
import Derived.Test.YthaakghpaefbgaaBox
import Derived.Test.YthaakghpaefbgaaCut
namespace Go.Proofs.Ythaakghpaefbgaa
open Go.RowKit
set_option linter.unusedSimpArgs false
set_option linter.unusedVariables false

theorem live0 {W W' : World} {B : Nat} {A : Array Value} (h : ∀ o : Nat, W.cell? ⟨B, o, none⟩ = A[o]?) (hB : B < W.heap.size) (hb : Below W.heap.size W W') : ∀ o : Nat, W'.cell? ⟨B, o, none⟩ = A[o]? := fun o => (hb.cell (p := ⟨B, o, none⟩) hB).trans (h o)
theorem live1 {W W' : World} {B : Nat} {A : Array Value} {x : Obj} (h : ∀ o : Nat, W.cell? ⟨B, o, none⟩ = A[o]?) (hB : B < W.heap.size) (hb : Below (W.alloc x).heap.size (W.alloc x) W') : ∀ o : Nat, W'.cell? ⟨B, o, none⟩ = A[o]? := live0 (live0 h hB ((Below.refl _ _).alloc (Nat.le_refl _) x)) (by simp; omega) hb
theorem live2 {W W' : World} {B : Nat} {A : Array Value} {x y : Obj} (h : ∀ o : Nat, W.cell? ⟨B, o, none⟩ = A[o]?) (hB : B < W.heap.size) (hb : Below ((W.alloc x).alloc y).heap.size ((W.alloc x).alloc y) W') : ∀ o : Nat, W'.cell? ⟨B, o, none⟩ = A[o]? := live1 (live0 h hB ((Below.refl _ _).alloc (Nat.le_refl _) x)) (by simp; omega) hb
theorem new1 {W W' : World} {A : Array Value} {t : TypeId} (hb : Below (W.alloc (.cells A t)).heap.size (W.alloc (.cells A t)) W') : ∀ o : Nat, W'.cell? ⟨W.heap.size, o, none⟩ = A[o]? := live0 (fun o => cell_of_row _ _ _ _ _ (0, 0) (alloc_at W _ _ rfl)) (by simp) hb
theorem new2a {W W' : World} {A : Array Value} {t : TypeId} {y : Obj} (hb : Below ((W.alloc (.cells A t)).alloc y).heap.size ((W.alloc (.cells A t)).alloc y) W') : ∀ o : Nat, W'.cell? ⟨W.heap.size, o, none⟩ = A[o]? := live1 (fun o => cell_of_row _ _ _ _ _ (0, 0) (alloc_at W _ _ rfl)) (by simp) hb
theorem new2b {W W' : World} {A : Array Value} {t : TypeId} {y : Obj} (hb : Below ((W.alloc y).alloc (.cells A t)).heap.size ((W.alloc y).alloc (.cells A t)) W') : ∀ o : Nat, W'.cell? ⟨W.heap.size + 1, o, none⟩ = A[o]? := live0 (fun o => cell_of_row _ _ _ _ _ (0, 0) (alloc_at _ _ _ (by simp))) (by simp) hb
theorem grow1 {a W W' : World} {x : Obj} (h : Below a.heap.size a W) (hb : Below (W.alloc x).heap.size (W.alloc x) W') : Below a.heap.size a W' ∧ W.heap.size + 1 ≤ W'.heap.size := ⟨below_step (h.alloc h.size x) hb, by have := hb.size; simpa using this⟩
theorem grow0 {a W W' : World} (h : Below a.heap.size a W) (hb : Below W.heap.size W W') : Below a.heap.size a W' ∧ W.heap.size ≤ W'.heap.size := ⟨below_step h hb, hb.size⟩
theorem grow2 {a W W' : World} {x y : Obj} (h : Below a.heap.size a W) (hb : Below ((W.alloc x).alloc y).heap.size ((W.alloc x).alloc y) W') : Below a.heap.size a W' ∧ W.heap.size + 1 + 1 ≤ W'.heap.size := ⟨below_step ((h.alloc h.size x).alloc (by have := h.size; simp; omega) y) hb, by have := hb.size; simpa using this⟩

theorem neq_self7 (xd xa xb xc xe xf xg : Int) (w : World) : (binOp .neq 31 (.agg #[.int .i64 xd, .int .i64 xa, .int .i64 xb, .int .i64 xc, .int .i64 xe, .int .i64 xf, .int .i64 xg]) (.agg #[.int .i64 xd, .int .i64 xa, .int .i64 xb, .int .i64 xc, .int .i64 xe, .int .i64 xf, .int .i64 xg])).run Try.prog w = .ok (.bool false) w := by rw [ne_class, eqB_refl]; rfl
theorem eql_self7 (xd xa xb xc xe xf xg : Int) (w : World) : (binOp .eql 31 (.agg #[.int .i64 xd, .int .i64 xa, .int .i64 xb, .int .i64 xc, .int .i64 xe, .int .i64 xf, .int .i64 xg]) (.agg #[.int .i64 xd, .int .i64 xa, .int .i64 xb, .int .i64 xc, .int .i64 xe, .int .i64 xf, .int .i64 xg])).run Try.prog w = .ok (.bool true) w := by rw [eq_class, eqB_refl]

end Go.Proofs.Ythaakghpaefbgaa
