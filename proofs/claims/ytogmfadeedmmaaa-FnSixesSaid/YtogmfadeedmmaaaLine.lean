/- Contracts of the line classes in the program: for each index from 0 to 26 the program gives the line class, in whatever memory. -/
import Derived.Test.YtogmfadeedmmaaaBase
namespace Go.Proofs.Ytogmfadeedmmaaa
open Go.RowKit
set_option linter.unusedSimpArgs false
set_option linter.unusedVariables false

theorem pairAt_0 (w : World) : Calls Try.prog 83 #[.int .i64 0] w fun e w' => e = .returned (.tuple #[.int .i64 0, .int .i64 1]) ∧ w = w' := by
  go_enter Try.func83, Try.ntmps83
  go_wp2
  refine wp_loop_rounds 1 ?_
  rw [rounds_succ]
  go_wp2
  go_ret2
  exact ⟨rfl, rfl⟩

theorem pairAt_1 (w : World) : Calls Try.prog 83 #[.int .i64 1] w fun e w' => e = .returned (.tuple #[.int .i64 0, .int .i64 2]) ∧ w = w' := by
  go_enter Try.func83, Try.ntmps83
  go_wp2
  refine wp_loop_rounds 1 ?_
  rw [rounds_succ]
  go_wp2
  go_ret2
  exact ⟨rfl, rfl⟩

theorem pairAt_2 (w : World) : Calls Try.prog 83 #[.int .i64 2] w fun e w' => e = .returned (.tuple #[.int .i64 0, .int .i64 3]) ∧ w = w' := by
  go_enter Try.func83, Try.ntmps83
  go_wp2
  refine wp_loop_rounds 1 ?_
  rw [rounds_succ]
  go_wp2
  go_ret2
  exact ⟨rfl, rfl⟩

theorem pairAt_3 (w : World) : Calls Try.prog 83 #[.int .i64 3] w fun e w' => e = .returned (.tuple #[.int .i64 0, .int .i64 4]) ∧ w = w' := by
  go_enter Try.func83, Try.ntmps83
  go_wp2
  refine wp_loop_rounds 1 ?_
  rw [rounds_succ]
  go_wp2
  go_ret2
  exact ⟨rfl, rfl⟩

theorem pairAt_4 (w : World) : Calls Try.prog 83 #[.int .i64 4] w fun e w' => e = .returned (.tuple #[.int .i64 0, .int .i64 5]) ∧ w = w' := by
  go_enter Try.func83, Try.ntmps83
  go_wp2
  refine wp_loop_rounds 1 ?_
  rw [rounds_succ]
  go_wp2
  go_ret2
  exact ⟨rfl, rfl⟩

theorem pairAt_5 (w : World) : Calls Try.prog 83 #[.int .i64 5] w fun e w' => e = .returned (.tuple #[.int .i64 1, .int .i64 2]) ∧ w = w' := by
  go_enter Try.func83, Try.ntmps83
  go_wp2
  refine wp_loop_rounds 2 ?_
  rw [rounds_succ]
  go_wp2
  rw [rounds_succ]
  go_wp2
  go_ret2
  exact ⟨rfl, rfl⟩

theorem pairAt_6 (w : World) : Calls Try.prog 83 #[.int .i64 6] w fun e w' => e = .returned (.tuple #[.int .i64 1, .int .i64 3]) ∧ w = w' := by
  go_enter Try.func83, Try.ntmps83
  go_wp2
  refine wp_loop_rounds 2 ?_
  rw [rounds_succ]
  go_wp2
  rw [rounds_succ]
  go_wp2
  go_ret2
  exact ⟨rfl, rfl⟩

theorem pairAt_7 (w : World) : Calls Try.prog 83 #[.int .i64 7] w fun e w' => e = .returned (.tuple #[.int .i64 1, .int .i64 4]) ∧ w = w' := by
  go_enter Try.func83, Try.ntmps83
  go_wp2
  refine wp_loop_rounds 2 ?_
  rw [rounds_succ]
  go_wp2
  rw [rounds_succ]
  go_wp2
  go_ret2
  exact ⟨rfl, rfl⟩

theorem pairAt_8 (w : World) : Calls Try.prog 83 #[.int .i64 8] w fun e w' => e = .returned (.tuple #[.int .i64 1, .int .i64 5]) ∧ w = w' := by
  go_enter Try.func83, Try.ntmps83
  go_wp2
  refine wp_loop_rounds 2 ?_
  rw [rounds_succ]
  go_wp2
  rw [rounds_succ]
  go_wp2
  go_ret2
  exact ⟨rfl, rfl⟩

theorem pairAt_9 (w : World) : Calls Try.prog 83 #[.int .i64 9] w fun e w' => e = .returned (.tuple #[.int .i64 2, .int .i64 3]) ∧ w = w' := by
  go_enter Try.func83, Try.ntmps83
  go_wp2
  refine wp_loop_rounds 3 ?_
  rw [rounds_succ]
  go_wp2
  rw [rounds_succ]
  go_wp2
  rw [rounds_succ]
  go_wp2
  go_ret2
  exact ⟨rfl, rfl⟩

theorem pairAt_10 (w : World) : Calls Try.prog 83 #[.int .i64 10] w fun e w' => e = .returned (.tuple #[.int .i64 2, .int .i64 4]) ∧ w = w' := by
  go_enter Try.func83, Try.ntmps83
  go_wp2
  refine wp_loop_rounds 3 ?_
  rw [rounds_succ]
  go_wp2
  rw [rounds_succ]
  go_wp2
  rw [rounds_succ]
  go_wp2
  go_ret2
  exact ⟨rfl, rfl⟩

theorem pairAt_11 (w : World) : Calls Try.prog 83 #[.int .i64 11] w fun e w' => e = .returned (.tuple #[.int .i64 2, .int .i64 5]) ∧ w = w' := by
  go_enter Try.func83, Try.ntmps83
  go_wp2
  refine wp_loop_rounds 3 ?_
  rw [rounds_succ]
  go_wp2
  rw [rounds_succ]
  go_wp2
  rw [rounds_succ]
  go_wp2
  go_ret2
  exact ⟨rfl, rfl⟩

theorem pairAt_12 (w : World) : Calls Try.prog 83 #[.int .i64 12] w fun e w' => e = .returned (.tuple #[.int .i64 3, .int .i64 4]) ∧ w = w' := by
  go_enter Try.func83, Try.ntmps83
  go_wp2
  refine wp_loop_rounds 4 ?_
  rw [rounds_succ]
  go_wp2
  rw [rounds_succ]
  go_wp2
  rw [rounds_succ]
  go_wp2
  rw [rounds_succ]
  go_wp2
  go_ret2
  exact ⟨rfl, rfl⟩

theorem pairAt_13 (w : World) : Calls Try.prog 83 #[.int .i64 13] w fun e w' => e = .returned (.tuple #[.int .i64 3, .int .i64 5]) ∧ w = w' := by
  go_enter Try.func83, Try.ntmps83
  go_wp2
  refine wp_loop_rounds 4 ?_
  rw [rounds_succ]
  go_wp2
  rw [rounds_succ]
  go_wp2
  rw [rounds_succ]
  go_wp2
  rw [rounds_succ]
  go_wp2
  go_ret2
  exact ⟨rfl, rfl⟩

theorem pairAt_14 (w : World) : Calls Try.prog 83 #[.int .i64 14] w fun e w' => e = .returned (.tuple #[.int .i64 4, .int .i64 5]) ∧ w = w' := by
  go_enter Try.func83, Try.ntmps83
  go_wp2
  refine wp_loop_rounds 5 ?_
  rw [rounds_succ]
  go_wp2
  rw [rounds_succ]
  go_wp2
  rw [rounds_succ]
  go_wp2
  rw [rounds_succ]
  go_wp2
  rw [rounds_succ]
  go_wp2
  go_ret2
  exact ⟨rfl, rfl⟩

theorem lineClass_0 (w : World) : Calls Try.prog 59 #[.int .i64 0] w fun e w' => e = .returned (.agg #[.int .i64 (LC 0).d, .int .i64 (LC 0).a, .int .i64 (LC 0).b, .int .i64 (LC 0).c, .int .i64 (LC 0).e, .int .i64 (LC 0).f, .int .i64 (LC 0).g]) ∧ Below w.heap.size w w' := by
  go_enter Try.func59, Try.ntmps59
  go_wp2_with fail
  refine bodyPost_ret (v := .agg #[.int .i64 (LC 0).d, .int .i64 (LC 0).a, .int .i64 (LC 0).b, .int .i64 (LC 0).c, .int .i64 (LC 0).e, .int .i64 (LC 0).f, .int .i64 (LC 0).g]) (by simp [results, Try.results59, go_sem, LC]) rfl ⟨rfl, ?_⟩
  (repeat (first | (with_reducible exact Below.refl _ _) | (with_reducible refine bl_alloc ?_ ?_ _; focus (first | omega | (simp; done) | (simp; omega))) | (with_reducible refine bl_set ?_ ?_ _; focus (first | omega | (simp; done) | (simp; omega))) | (with_reducible refine Below.drew ?_) | (with_reducible refine below_drewN ?_ _) | (with_reducible refine below_step ?_ (by assumption))))

theorem lineClass_1 (w : World) : Calls Try.prog 59 #[.int .i64 1] w fun e w' => e = .returned (.agg #[.int .i64 (LC 1).d, .int .i64 (LC 1).a, .int .i64 (LC 1).b, .int .i64 (LC 1).c, .int .i64 (LC 1).e, .int .i64 (LC 1).f, .int .i64 (LC 1).g]) ∧ Below w.heap.size w w' := by
  go_enter Try.func59, Try.ntmps59
  go_wp2_with fail
  refine bodyPost_ret (v := .agg #[.int .i64 (LC 1).d, .int .i64 (LC 1).a, .int .i64 (LC 1).b, .int .i64 (LC 1).c, .int .i64 (LC 1).e, .int .i64 (LC 1).f, .int .i64 (LC 1).g]) (by simp [results, Try.results59, go_sem, LC]) rfl ⟨rfl, ?_⟩
  (repeat (first | (with_reducible exact Below.refl _ _) | (with_reducible refine bl_alloc ?_ ?_ _; focus (first | omega | (simp; done) | (simp; omega))) | (with_reducible refine bl_set ?_ ?_ _; focus (first | omega | (simp; done) | (simp; omega))) | (with_reducible refine Below.drew ?_) | (with_reducible refine below_drewN ?_ _) | (with_reducible refine below_step ?_ (by assumption))))

theorem lineClass_2 (w : World) : Calls Try.prog 59 #[.int .i64 2] w fun e w' => e = .returned (.agg #[.int .i64 (LC 2).d, .int .i64 (LC 2).a, .int .i64 (LC 2).b, .int .i64 (LC 2).c, .int .i64 (LC 2).e, .int .i64 (LC 2).f, .int .i64 (LC 2).g]) ∧ Below w.heap.size w w' := by
  go_enter Try.func59, Try.ntmps59
  go_wp2_with fail
  refine bodyPost_ret (v := .agg #[.int .i64 (LC 2).d, .int .i64 (LC 2).a, .int .i64 (LC 2).b, .int .i64 (LC 2).c, .int .i64 (LC 2).e, .int .i64 (LC 2).f, .int .i64 (LC 2).g]) (by simp [results, Try.results59, go_sem, LC]) rfl ⟨rfl, ?_⟩
  (repeat (first | (with_reducible exact Below.refl _ _) | (with_reducible refine bl_alloc ?_ ?_ _; focus (first | omega | (simp; done) | (simp; omega))) | (with_reducible refine bl_set ?_ ?_ _; focus (first | omega | (simp; done) | (simp; omega))) | (with_reducible refine Below.drew ?_) | (with_reducible refine below_drewN ?_ _) | (with_reducible refine below_step ?_ (by assumption))))

theorem lineClass_3 (w : World) : Calls Try.prog 59 #[.int .i64 3] w fun e w' => e = .returned (.agg #[.int .i64 (LC 3).d, .int .i64 (LC 3).a, .int .i64 (LC 3).b, .int .i64 (LC 3).c, .int .i64 (LC 3).e, .int .i64 (LC 3).f, .int .i64 (LC 3).g]) ∧ Below w.heap.size w w' := by
  go_enter Try.func59, Try.ntmps59
  go_wp2_with fail
  refine bodyPost_ret (v := .agg #[.int .i64 (LC 3).d, .int .i64 (LC 3).a, .int .i64 (LC 3).b, .int .i64 (LC 3).c, .int .i64 (LC 3).e, .int .i64 (LC 3).f, .int .i64 (LC 3).g]) (by simp [results, Try.results59, go_sem, LC]) rfl ⟨rfl, ?_⟩
  (repeat (first | (with_reducible exact Below.refl _ _) | (with_reducible refine bl_alloc ?_ ?_ _; focus (first | omega | (simp; done) | (simp; omega))) | (with_reducible refine bl_set ?_ ?_ _; focus (first | omega | (simp; done) | (simp; omega))) | (with_reducible refine Below.drew ?_) | (with_reducible refine below_drewN ?_ _) | (with_reducible refine below_step ?_ (by assumption))))

theorem lineClass_4 (w : World) : Calls Try.prog 59 #[.int .i64 4] w fun e w' => e = .returned (.agg #[.int .i64 (LC 4).d, .int .i64 (LC 4).a, .int .i64 (LC 4).b, .int .i64 (LC 4).c, .int .i64 (LC 4).e, .int .i64 (LC 4).f, .int .i64 (LC 4).g]) ∧ Below w.heap.size w w' := by
  go_enter Try.func59, Try.ntmps59
  go_wp2_with fail
  refine bodyPost_ret (v := .agg #[.int .i64 (LC 4).d, .int .i64 (LC 4).a, .int .i64 (LC 4).b, .int .i64 (LC 4).c, .int .i64 (LC 4).e, .int .i64 (LC 4).f, .int .i64 (LC 4).g]) (by simp [results, Try.results59, go_sem, LC]) rfl ⟨rfl, ?_⟩
  (repeat (first | (with_reducible exact Below.refl _ _) | (with_reducible refine bl_alloc ?_ ?_ _; focus (first | omega | (simp; done) | (simp; omega))) | (with_reducible refine bl_set ?_ ?_ _; focus (first | omega | (simp; done) | (simp; omega))) | (with_reducible refine Below.drew ?_) | (with_reducible refine below_drewN ?_ _) | (with_reducible refine below_step ?_ (by assumption))))

theorem lineClass_5 (w : World) : Calls Try.prog 59 #[.int .i64 5] w fun e w' => e = .returned (.agg #[.int .i64 (LC 5).d, .int .i64 (LC 5).a, .int .i64 (LC 5).b, .int .i64 (LC 5).c, .int .i64 (LC 5).e, .int .i64 (LC 5).f, .int .i64 (LC 5).g]) ∧ Below w.heap.size w w' := by
  go_enter Try.func59, Try.ntmps59
  go_wp2_with fail
  refine bodyPost_ret (v := .agg #[.int .i64 (LC 5).d, .int .i64 (LC 5).a, .int .i64 (LC 5).b, .int .i64 (LC 5).c, .int .i64 (LC 5).e, .int .i64 (LC 5).f, .int .i64 (LC 5).g]) (by simp [results, Try.results59, go_sem, LC]) rfl ⟨rfl, ?_⟩
  (repeat (first | (with_reducible exact Below.refl _ _) | (with_reducible refine bl_alloc ?_ ?_ _; focus (first | omega | (simp; done) | (simp; omega))) | (with_reducible refine bl_set ?_ ?_ _; focus (first | omega | (simp; done) | (simp; omega))) | (with_reducible refine Below.drew ?_) | (with_reducible refine below_drewN ?_ _) | (with_reducible refine below_step ?_ (by assumption))))

theorem lineClass_6 (w : World) : Calls Try.prog 59 #[.int .i64 6] w fun e w' => e = .returned (.agg #[.int .i64 (LC 6).d, .int .i64 (LC 6).a, .int .i64 (LC 6).b, .int .i64 (LC 6).c, .int .i64 (LC 6).e, .int .i64 (LC 6).f, .int .i64 (LC 6).g]) ∧ Below w.heap.size w w' := by
  go_enter Try.func59, Try.ntmps59
  go_wp2_with (go_at_call 83; ((with_reducible refine (pairAt_0 _).mono ?_); rintro e w' ⟨rfl, rfl⟩))
  refine bodyPost_ret (v := .agg #[.int .i64 (LC 6).d, .int .i64 (LC 6).a, .int .i64 (LC 6).b, .int .i64 (LC 6).c, .int .i64 (LC 6).e, .int .i64 (LC 6).f, .int .i64 (LC 6).g]) (by simp [results, Try.results59, go_sem, LC]) rfl ⟨rfl, ?_⟩
  (repeat (first | (with_reducible exact Below.refl _ _) | (with_reducible refine bl_alloc ?_ ?_ _; focus (first | omega | (simp; done) | (simp; omega))) | (with_reducible refine bl_set ?_ ?_ _; focus (first | omega | (simp; done) | (simp; omega))) | (with_reducible refine Below.drew ?_) | (with_reducible refine below_drewN ?_ _) | (with_reducible refine below_step ?_ (by assumption))))

theorem lineClass_7 (w : World) : Calls Try.prog 59 #[.int .i64 7] w fun e w' => e = .returned (.agg #[.int .i64 (LC 7).d, .int .i64 (LC 7).a, .int .i64 (LC 7).b, .int .i64 (LC 7).c, .int .i64 (LC 7).e, .int .i64 (LC 7).f, .int .i64 (LC 7).g]) ∧ Below w.heap.size w w' := by
  go_enter Try.func59, Try.ntmps59
  go_wp2_with (go_at_call 83; ((with_reducible refine (pairAt_1 _).mono ?_); rintro e w' ⟨rfl, rfl⟩))
  refine bodyPost_ret (v := .agg #[.int .i64 (LC 7).d, .int .i64 (LC 7).a, .int .i64 (LC 7).b, .int .i64 (LC 7).c, .int .i64 (LC 7).e, .int .i64 (LC 7).f, .int .i64 (LC 7).g]) (by simp [results, Try.results59, go_sem, LC]) rfl ⟨rfl, ?_⟩
  (repeat (first | (with_reducible exact Below.refl _ _) | (with_reducible refine bl_alloc ?_ ?_ _; focus (first | omega | (simp; done) | (simp; omega))) | (with_reducible refine bl_set ?_ ?_ _; focus (first | omega | (simp; done) | (simp; omega))) | (with_reducible refine Below.drew ?_) | (with_reducible refine below_drewN ?_ _) | (with_reducible refine below_step ?_ (by assumption))))

theorem lineClass_8 (w : World) : Calls Try.prog 59 #[.int .i64 8] w fun e w' => e = .returned (.agg #[.int .i64 (LC 8).d, .int .i64 (LC 8).a, .int .i64 (LC 8).b, .int .i64 (LC 8).c, .int .i64 (LC 8).e, .int .i64 (LC 8).f, .int .i64 (LC 8).g]) ∧ Below w.heap.size w w' := by
  go_enter Try.func59, Try.ntmps59
  go_wp2_with (go_at_call 83; ((with_reducible refine (pairAt_2 _).mono ?_); rintro e w' ⟨rfl, rfl⟩))
  refine bodyPost_ret (v := .agg #[.int .i64 (LC 8).d, .int .i64 (LC 8).a, .int .i64 (LC 8).b, .int .i64 (LC 8).c, .int .i64 (LC 8).e, .int .i64 (LC 8).f, .int .i64 (LC 8).g]) (by simp [results, Try.results59, go_sem, LC]) rfl ⟨rfl, ?_⟩
  (repeat (first | (with_reducible exact Below.refl _ _) | (with_reducible refine bl_alloc ?_ ?_ _; focus (first | omega | (simp; done) | (simp; omega))) | (with_reducible refine bl_set ?_ ?_ _; focus (first | omega | (simp; done) | (simp; omega))) | (with_reducible refine Below.drew ?_) | (with_reducible refine below_drewN ?_ _) | (with_reducible refine below_step ?_ (by assumption))))

theorem lineClass_9 (w : World) : Calls Try.prog 59 #[.int .i64 9] w fun e w' => e = .returned (.agg #[.int .i64 (LC 9).d, .int .i64 (LC 9).a, .int .i64 (LC 9).b, .int .i64 (LC 9).c, .int .i64 (LC 9).e, .int .i64 (LC 9).f, .int .i64 (LC 9).g]) ∧ Below w.heap.size w w' := by
  go_enter Try.func59, Try.ntmps59
  go_wp2_with (go_at_call 83; ((with_reducible refine (pairAt_3 _).mono ?_); rintro e w' ⟨rfl, rfl⟩))
  refine bodyPost_ret (v := .agg #[.int .i64 (LC 9).d, .int .i64 (LC 9).a, .int .i64 (LC 9).b, .int .i64 (LC 9).c, .int .i64 (LC 9).e, .int .i64 (LC 9).f, .int .i64 (LC 9).g]) (by simp [results, Try.results59, go_sem, LC]) rfl ⟨rfl, ?_⟩
  (repeat (first | (with_reducible exact Below.refl _ _) | (with_reducible refine bl_alloc ?_ ?_ _; focus (first | omega | (simp; done) | (simp; omega))) | (with_reducible refine bl_set ?_ ?_ _; focus (first | omega | (simp; done) | (simp; omega))) | (with_reducible refine Below.drew ?_) | (with_reducible refine below_drewN ?_ _) | (with_reducible refine below_step ?_ (by assumption))))

theorem lineClass_10 (w : World) : Calls Try.prog 59 #[.int .i64 10] w fun e w' => e = .returned (.agg #[.int .i64 (LC 10).d, .int .i64 (LC 10).a, .int .i64 (LC 10).b, .int .i64 (LC 10).c, .int .i64 (LC 10).e, .int .i64 (LC 10).f, .int .i64 (LC 10).g]) ∧ Below w.heap.size w w' := by
  go_enter Try.func59, Try.ntmps59
  go_wp2_with (go_at_call 83; ((with_reducible refine (pairAt_4 _).mono ?_); rintro e w' ⟨rfl, rfl⟩))
  refine bodyPost_ret (v := .agg #[.int .i64 (LC 10).d, .int .i64 (LC 10).a, .int .i64 (LC 10).b, .int .i64 (LC 10).c, .int .i64 (LC 10).e, .int .i64 (LC 10).f, .int .i64 (LC 10).g]) (by simp [results, Try.results59, go_sem, LC]) rfl ⟨rfl, ?_⟩
  (repeat (first | (with_reducible exact Below.refl _ _) | (with_reducible refine bl_alloc ?_ ?_ _; focus (first | omega | (simp; done) | (simp; omega))) | (with_reducible refine bl_set ?_ ?_ _; focus (first | omega | (simp; done) | (simp; omega))) | (with_reducible refine Below.drew ?_) | (with_reducible refine below_drewN ?_ _) | (with_reducible refine below_step ?_ (by assumption))))

theorem lineClass_11 (w : World) : Calls Try.prog 59 #[.int .i64 11] w fun e w' => e = .returned (.agg #[.int .i64 (LC 11).d, .int .i64 (LC 11).a, .int .i64 (LC 11).b, .int .i64 (LC 11).c, .int .i64 (LC 11).e, .int .i64 (LC 11).f, .int .i64 (LC 11).g]) ∧ Below w.heap.size w w' := by
  go_enter Try.func59, Try.ntmps59
  go_wp2_with (go_at_call 83; ((with_reducible refine (pairAt_5 _).mono ?_); rintro e w' ⟨rfl, rfl⟩))
  refine bodyPost_ret (v := .agg #[.int .i64 (LC 11).d, .int .i64 (LC 11).a, .int .i64 (LC 11).b, .int .i64 (LC 11).c, .int .i64 (LC 11).e, .int .i64 (LC 11).f, .int .i64 (LC 11).g]) (by simp [results, Try.results59, go_sem, LC]) rfl ⟨rfl, ?_⟩
  (repeat (first | (with_reducible exact Below.refl _ _) | (with_reducible refine bl_alloc ?_ ?_ _; focus (first | omega | (simp; done) | (simp; omega))) | (with_reducible refine bl_set ?_ ?_ _; focus (first | omega | (simp; done) | (simp; omega))) | (with_reducible refine Below.drew ?_) | (with_reducible refine below_drewN ?_ _) | (with_reducible refine below_step ?_ (by assumption))))

theorem lineClass_12 (w : World) : Calls Try.prog 59 #[.int .i64 12] w fun e w' => e = .returned (.agg #[.int .i64 (LC 12).d, .int .i64 (LC 12).a, .int .i64 (LC 12).b, .int .i64 (LC 12).c, .int .i64 (LC 12).e, .int .i64 (LC 12).f, .int .i64 (LC 12).g]) ∧ Below w.heap.size w w' := by
  go_enter Try.func59, Try.ntmps59
  go_wp2_with (go_at_call 83; ((with_reducible refine (pairAt_6 _).mono ?_); rintro e w' ⟨rfl, rfl⟩))
  refine bodyPost_ret (v := .agg #[.int .i64 (LC 12).d, .int .i64 (LC 12).a, .int .i64 (LC 12).b, .int .i64 (LC 12).c, .int .i64 (LC 12).e, .int .i64 (LC 12).f, .int .i64 (LC 12).g]) (by simp [results, Try.results59, go_sem, LC]) rfl ⟨rfl, ?_⟩
  (repeat (first | (with_reducible exact Below.refl _ _) | (with_reducible refine bl_alloc ?_ ?_ _; focus (first | omega | (simp; done) | (simp; omega))) | (with_reducible refine bl_set ?_ ?_ _; focus (first | omega | (simp; done) | (simp; omega))) | (with_reducible refine Below.drew ?_) | (with_reducible refine below_drewN ?_ _) | (with_reducible refine below_step ?_ (by assumption))))

theorem lineClass_13 (w : World) : Calls Try.prog 59 #[.int .i64 13] w fun e w' => e = .returned (.agg #[.int .i64 (LC 13).d, .int .i64 (LC 13).a, .int .i64 (LC 13).b, .int .i64 (LC 13).c, .int .i64 (LC 13).e, .int .i64 (LC 13).f, .int .i64 (LC 13).g]) ∧ Below w.heap.size w w' := by
  go_enter Try.func59, Try.ntmps59
  go_wp2_with (go_at_call 83; ((with_reducible refine (pairAt_7 _).mono ?_); rintro e w' ⟨rfl, rfl⟩))
  refine bodyPost_ret (v := .agg #[.int .i64 (LC 13).d, .int .i64 (LC 13).a, .int .i64 (LC 13).b, .int .i64 (LC 13).c, .int .i64 (LC 13).e, .int .i64 (LC 13).f, .int .i64 (LC 13).g]) (by simp [results, Try.results59, go_sem, LC]) rfl ⟨rfl, ?_⟩
  (repeat (first | (with_reducible exact Below.refl _ _) | (with_reducible refine bl_alloc ?_ ?_ _; focus (first | omega | (simp; done) | (simp; omega))) | (with_reducible refine bl_set ?_ ?_ _; focus (first | omega | (simp; done) | (simp; omega))) | (with_reducible refine Below.drew ?_) | (with_reducible refine below_drewN ?_ _) | (with_reducible refine below_step ?_ (by assumption))))

theorem lineClass_14 (w : World) : Calls Try.prog 59 #[.int .i64 14] w fun e w' => e = .returned (.agg #[.int .i64 (LC 14).d, .int .i64 (LC 14).a, .int .i64 (LC 14).b, .int .i64 (LC 14).c, .int .i64 (LC 14).e, .int .i64 (LC 14).f, .int .i64 (LC 14).g]) ∧ Below w.heap.size w w' := by
  go_enter Try.func59, Try.ntmps59
  go_wp2_with (go_at_call 83; ((with_reducible refine (pairAt_8 _).mono ?_); rintro e w' ⟨rfl, rfl⟩))
  refine bodyPost_ret (v := .agg #[.int .i64 (LC 14).d, .int .i64 (LC 14).a, .int .i64 (LC 14).b, .int .i64 (LC 14).c, .int .i64 (LC 14).e, .int .i64 (LC 14).f, .int .i64 (LC 14).g]) (by simp [results, Try.results59, go_sem, LC]) rfl ⟨rfl, ?_⟩
  (repeat (first | (with_reducible exact Below.refl _ _) | (with_reducible refine bl_alloc ?_ ?_ _; focus (first | omega | (simp; done) | (simp; omega))) | (with_reducible refine bl_set ?_ ?_ _; focus (first | omega | (simp; done) | (simp; omega))) | (with_reducible refine Below.drew ?_) | (with_reducible refine below_drewN ?_ _) | (with_reducible refine below_step ?_ (by assumption))))

theorem lineClass_15 (w : World) : Calls Try.prog 59 #[.int .i64 15] w fun e w' => e = .returned (.agg #[.int .i64 (LC 15).d, .int .i64 (LC 15).a, .int .i64 (LC 15).b, .int .i64 (LC 15).c, .int .i64 (LC 15).e, .int .i64 (LC 15).f, .int .i64 (LC 15).g]) ∧ Below w.heap.size w w' := by
  go_enter Try.func59, Try.ntmps59
  go_wp2_with (go_at_call 83; ((with_reducible refine (pairAt_9 _).mono ?_); rintro e w' ⟨rfl, rfl⟩))
  refine bodyPost_ret (v := .agg #[.int .i64 (LC 15).d, .int .i64 (LC 15).a, .int .i64 (LC 15).b, .int .i64 (LC 15).c, .int .i64 (LC 15).e, .int .i64 (LC 15).f, .int .i64 (LC 15).g]) (by simp [results, Try.results59, go_sem, LC]) rfl ⟨rfl, ?_⟩
  (repeat (first | (with_reducible exact Below.refl _ _) | (with_reducible refine bl_alloc ?_ ?_ _; focus (first | omega | (simp; done) | (simp; omega))) | (with_reducible refine bl_set ?_ ?_ _; focus (first | omega | (simp; done) | (simp; omega))) | (with_reducible refine Below.drew ?_) | (with_reducible refine below_drewN ?_ _) | (with_reducible refine below_step ?_ (by assumption))))

theorem lineClass_16 (w : World) : Calls Try.prog 59 #[.int .i64 16] w fun e w' => e = .returned (.agg #[.int .i64 (LC 16).d, .int .i64 (LC 16).a, .int .i64 (LC 16).b, .int .i64 (LC 16).c, .int .i64 (LC 16).e, .int .i64 (LC 16).f, .int .i64 (LC 16).g]) ∧ Below w.heap.size w w' := by
  go_enter Try.func59, Try.ntmps59
  go_wp2_with (go_at_call 83; ((with_reducible refine (pairAt_10 _).mono ?_); rintro e w' ⟨rfl, rfl⟩))
  refine bodyPost_ret (v := .agg #[.int .i64 (LC 16).d, .int .i64 (LC 16).a, .int .i64 (LC 16).b, .int .i64 (LC 16).c, .int .i64 (LC 16).e, .int .i64 (LC 16).f, .int .i64 (LC 16).g]) (by simp [results, Try.results59, go_sem, LC]) rfl ⟨rfl, ?_⟩
  (repeat (first | (with_reducible exact Below.refl _ _) | (with_reducible refine bl_alloc ?_ ?_ _; focus (first | omega | (simp; done) | (simp; omega))) | (with_reducible refine bl_set ?_ ?_ _; focus (first | omega | (simp; done) | (simp; omega))) | (with_reducible refine Below.drew ?_) | (with_reducible refine below_drewN ?_ _) | (with_reducible refine below_step ?_ (by assumption))))

theorem lineClass_17 (w : World) : Calls Try.prog 59 #[.int .i64 17] w fun e w' => e = .returned (.agg #[.int .i64 (LC 17).d, .int .i64 (LC 17).a, .int .i64 (LC 17).b, .int .i64 (LC 17).c, .int .i64 (LC 17).e, .int .i64 (LC 17).f, .int .i64 (LC 17).g]) ∧ Below w.heap.size w w' := by
  go_enter Try.func59, Try.ntmps59
  go_wp2_with (go_at_call 83; ((with_reducible refine (pairAt_11 _).mono ?_); rintro e w' ⟨rfl, rfl⟩))
  refine bodyPost_ret (v := .agg #[.int .i64 (LC 17).d, .int .i64 (LC 17).a, .int .i64 (LC 17).b, .int .i64 (LC 17).c, .int .i64 (LC 17).e, .int .i64 (LC 17).f, .int .i64 (LC 17).g]) (by simp [results, Try.results59, go_sem, LC]) rfl ⟨rfl, ?_⟩
  (repeat (first | (with_reducible exact Below.refl _ _) | (with_reducible refine bl_alloc ?_ ?_ _; focus (first | omega | (simp; done) | (simp; omega))) | (with_reducible refine bl_set ?_ ?_ _; focus (first | omega | (simp; done) | (simp; omega))) | (with_reducible refine Below.drew ?_) | (with_reducible refine below_drewN ?_ _) | (with_reducible refine below_step ?_ (by assumption))))

theorem lineClass_18 (w : World) : Calls Try.prog 59 #[.int .i64 18] w fun e w' => e = .returned (.agg #[.int .i64 (LC 18).d, .int .i64 (LC 18).a, .int .i64 (LC 18).b, .int .i64 (LC 18).c, .int .i64 (LC 18).e, .int .i64 (LC 18).f, .int .i64 (LC 18).g]) ∧ Below w.heap.size w w' := by
  go_enter Try.func59, Try.ntmps59
  go_wp2_with (go_at_call 83; ((with_reducible refine (pairAt_12 _).mono ?_); rintro e w' ⟨rfl, rfl⟩))
  refine bodyPost_ret (v := .agg #[.int .i64 (LC 18).d, .int .i64 (LC 18).a, .int .i64 (LC 18).b, .int .i64 (LC 18).c, .int .i64 (LC 18).e, .int .i64 (LC 18).f, .int .i64 (LC 18).g]) (by simp [results, Try.results59, go_sem, LC]) rfl ⟨rfl, ?_⟩
  (repeat (first | (with_reducible exact Below.refl _ _) | (with_reducible refine bl_alloc ?_ ?_ _; focus (first | omega | (simp; done) | (simp; omega))) | (with_reducible refine bl_set ?_ ?_ _; focus (first | omega | (simp; done) | (simp; omega))) | (with_reducible refine Below.drew ?_) | (with_reducible refine below_drewN ?_ _) | (with_reducible refine below_step ?_ (by assumption))))

theorem lineClass_19 (w : World) : Calls Try.prog 59 #[.int .i64 19] w fun e w' => e = .returned (.agg #[.int .i64 (LC 19).d, .int .i64 (LC 19).a, .int .i64 (LC 19).b, .int .i64 (LC 19).c, .int .i64 (LC 19).e, .int .i64 (LC 19).f, .int .i64 (LC 19).g]) ∧ Below w.heap.size w w' := by
  go_enter Try.func59, Try.ntmps59
  go_wp2_with (go_at_call 83; ((with_reducible refine (pairAt_13 _).mono ?_); rintro e w' ⟨rfl, rfl⟩))
  refine bodyPost_ret (v := .agg #[.int .i64 (LC 19).d, .int .i64 (LC 19).a, .int .i64 (LC 19).b, .int .i64 (LC 19).c, .int .i64 (LC 19).e, .int .i64 (LC 19).f, .int .i64 (LC 19).g]) (by simp [results, Try.results59, go_sem, LC]) rfl ⟨rfl, ?_⟩
  (repeat (first | (with_reducible exact Below.refl _ _) | (with_reducible refine bl_alloc ?_ ?_ _; focus (first | omega | (simp; done) | (simp; omega))) | (with_reducible refine bl_set ?_ ?_ _; focus (first | omega | (simp; done) | (simp; omega))) | (with_reducible refine Below.drew ?_) | (with_reducible refine below_drewN ?_ _) | (with_reducible refine below_step ?_ (by assumption))))

theorem lineClass_20 (w : World) : Calls Try.prog 59 #[.int .i64 20] w fun e w' => e = .returned (.agg #[.int .i64 (LC 20).d, .int .i64 (LC 20).a, .int .i64 (LC 20).b, .int .i64 (LC 20).c, .int .i64 (LC 20).e, .int .i64 (LC 20).f, .int .i64 (LC 20).g]) ∧ Below w.heap.size w w' := by
  go_enter Try.func59, Try.ntmps59
  go_wp2_with (go_at_call 83; ((with_reducible refine (pairAt_14 _).mono ?_); rintro e w' ⟨rfl, rfl⟩))
  refine bodyPost_ret (v := .agg #[.int .i64 (LC 20).d, .int .i64 (LC 20).a, .int .i64 (LC 20).b, .int .i64 (LC 20).c, .int .i64 (LC 20).e, .int .i64 (LC 20).f, .int .i64 (LC 20).g]) (by simp [results, Try.results59, go_sem, LC]) rfl ⟨rfl, ?_⟩
  (repeat (first | (with_reducible exact Below.refl _ _) | (with_reducible refine bl_alloc ?_ ?_ _; focus (first | omega | (simp; done) | (simp; omega))) | (with_reducible refine bl_set ?_ ?_ _; focus (first | omega | (simp; done) | (simp; omega))) | (with_reducible refine Below.drew ?_) | (with_reducible refine below_drewN ?_ _) | (with_reducible refine below_step ?_ (by assumption))))

theorem lineClass_21 (w : World) : Calls Try.prog 59 #[.int .i64 21] w fun e w' => e = .returned (.agg #[.int .i64 (LC 21).d, .int .i64 (LC 21).a, .int .i64 (LC 21).b, .int .i64 (LC 21).c, .int .i64 (LC 21).e, .int .i64 (LC 21).f, .int .i64 (LC 21).g]) ∧ Below w.heap.size w w' := by
  go_enter Try.func59, Try.ntmps59
  go_wp2_with fail
  refine bodyPost_ret (v := .agg #[.int .i64 (LC 21).d, .int .i64 (LC 21).a, .int .i64 (LC 21).b, .int .i64 (LC 21).c, .int .i64 (LC 21).e, .int .i64 (LC 21).f, .int .i64 (LC 21).g]) (by simp [results, Try.results59, go_sem, LC]) rfl ⟨rfl, ?_⟩
  (repeat (first | (with_reducible exact Below.refl _ _) | (with_reducible refine bl_alloc ?_ ?_ _; focus (first | omega | (simp; done) | (simp; omega))) | (with_reducible refine bl_set ?_ ?_ _; focus (first | omega | (simp; done) | (simp; omega))) | (with_reducible refine Below.drew ?_) | (with_reducible refine below_drewN ?_ _) | (with_reducible refine below_step ?_ (by assumption))))

theorem lineClass_22 (w : World) : Calls Try.prog 59 #[.int .i64 22] w fun e w' => e = .returned (.agg #[.int .i64 (LC 22).d, .int .i64 (LC 22).a, .int .i64 (LC 22).b, .int .i64 (LC 22).c, .int .i64 (LC 22).e, .int .i64 (LC 22).f, .int .i64 (LC 22).g]) ∧ Below w.heap.size w w' := by
  go_enter Try.func59, Try.ntmps59
  go_wp2_with fail
  refine bodyPost_ret (v := .agg #[.int .i64 (LC 22).d, .int .i64 (LC 22).a, .int .i64 (LC 22).b, .int .i64 (LC 22).c, .int .i64 (LC 22).e, .int .i64 (LC 22).f, .int .i64 (LC 22).g]) (by simp [results, Try.results59, go_sem, LC]) rfl ⟨rfl, ?_⟩
  (repeat (first | (with_reducible exact Below.refl _ _) | (with_reducible refine bl_alloc ?_ ?_ _; focus (first | omega | (simp; done) | (simp; omega))) | (with_reducible refine bl_set ?_ ?_ _; focus (first | omega | (simp; done) | (simp; omega))) | (with_reducible refine Below.drew ?_) | (with_reducible refine below_drewN ?_ _) | (with_reducible refine below_step ?_ (by assumption))))

theorem lineClass_23 (w : World) : Calls Try.prog 59 #[.int .i64 23] w fun e w' => e = .returned (.agg #[.int .i64 (LC 23).d, .int .i64 (LC 23).a, .int .i64 (LC 23).b, .int .i64 (LC 23).c, .int .i64 (LC 23).e, .int .i64 (LC 23).f, .int .i64 (LC 23).g]) ∧ Below w.heap.size w w' := by
  go_enter Try.func59, Try.ntmps59
  go_wp2_with fail
  refine bodyPost_ret (v := .agg #[.int .i64 (LC 23).d, .int .i64 (LC 23).a, .int .i64 (LC 23).b, .int .i64 (LC 23).c, .int .i64 (LC 23).e, .int .i64 (LC 23).f, .int .i64 (LC 23).g]) (by simp [results, Try.results59, go_sem, LC]) rfl ⟨rfl, ?_⟩
  (repeat (first | (with_reducible exact Below.refl _ _) | (with_reducible refine bl_alloc ?_ ?_ _; focus (first | omega | (simp; done) | (simp; omega))) | (with_reducible refine bl_set ?_ ?_ _; focus (first | omega | (simp; done) | (simp; omega))) | (with_reducible refine Below.drew ?_) | (with_reducible refine below_drewN ?_ _) | (with_reducible refine below_step ?_ (by assumption))))

theorem lineClass_24 (w : World) : Calls Try.prog 59 #[.int .i64 24] w fun e w' => e = .returned (.agg #[.int .i64 (LC 24).d, .int .i64 (LC 24).a, .int .i64 (LC 24).b, .int .i64 (LC 24).c, .int .i64 (LC 24).e, .int .i64 (LC 24).f, .int .i64 (LC 24).g]) ∧ Below w.heap.size w w' := by
  go_enter Try.func59, Try.ntmps59
  go_wp2_with fail
  refine bodyPost_ret (v := .agg #[.int .i64 (LC 24).d, .int .i64 (LC 24).a, .int .i64 (LC 24).b, .int .i64 (LC 24).c, .int .i64 (LC 24).e, .int .i64 (LC 24).f, .int .i64 (LC 24).g]) (by simp [results, Try.results59, go_sem, LC]) rfl ⟨rfl, ?_⟩
  (repeat (first | (with_reducible exact Below.refl _ _) | (with_reducible refine bl_alloc ?_ ?_ _; focus (first | omega | (simp; done) | (simp; omega))) | (with_reducible refine bl_set ?_ ?_ _; focus (first | omega | (simp; done) | (simp; omega))) | (with_reducible refine Below.drew ?_) | (with_reducible refine below_drewN ?_ _) | (with_reducible refine below_step ?_ (by assumption))))

theorem lineClass_25 (w : World) : Calls Try.prog 59 #[.int .i64 25] w fun e w' => e = .returned (.agg #[.int .i64 (LC 25).d, .int .i64 (LC 25).a, .int .i64 (LC 25).b, .int .i64 (LC 25).c, .int .i64 (LC 25).e, .int .i64 (LC 25).f, .int .i64 (LC 25).g]) ∧ Below w.heap.size w w' := by
  go_enter Try.func59, Try.ntmps59
  go_wp2_with fail
  refine bodyPost_ret (v := .agg #[.int .i64 (LC 25).d, .int .i64 (LC 25).a, .int .i64 (LC 25).b, .int .i64 (LC 25).c, .int .i64 (LC 25).e, .int .i64 (LC 25).f, .int .i64 (LC 25).g]) (by simp [results, Try.results59, go_sem, LC]) rfl ⟨rfl, ?_⟩
  (repeat (first | (with_reducible exact Below.refl _ _) | (with_reducible refine bl_alloc ?_ ?_ _; focus (first | omega | (simp; done) | (simp; omega))) | (with_reducible refine bl_set ?_ ?_ _; focus (first | omega | (simp; done) | (simp; omega))) | (with_reducible refine Below.drew ?_) | (with_reducible refine below_drewN ?_ _) | (with_reducible refine below_step ?_ (by assumption))))

theorem lineClass_26 (w : World) : Calls Try.prog 59 #[.int .i64 26] w fun e w' => e = .returned (.agg #[.int .i64 (LC 26).d, .int .i64 (LC 26).a, .int .i64 (LC 26).b, .int .i64 (LC 26).c, .int .i64 (LC 26).e, .int .i64 (LC 26).f, .int .i64 (LC 26).g]) ∧ Below w.heap.size w w' := by
  go_enter Try.func59, Try.ntmps59
  go_wp2_with fail
  refine bodyPost_ret (v := .agg #[.int .i64 (LC 26).d, .int .i64 (LC 26).a, .int .i64 (LC 26).b, .int .i64 (LC 26).c, .int .i64 (LC 26).e, .int .i64 (LC 26).f, .int .i64 (LC 26).g]) (by simp [results, Try.results59, go_sem, LC]) rfl ⟨rfl, ?_⟩
  (repeat (first | (with_reducible exact Below.refl _ _) | (with_reducible refine bl_alloc ?_ ?_ _; focus (first | omega | (simp; done) | (simp; omega))) | (with_reducible refine bl_set ?_ ?_ _; focus (first | omega | (simp; done) | (simp; omega))) | (with_reducible refine Below.drew ?_) | (with_reducible refine below_drewN ?_ _) | (with_reducible refine below_step ?_ (by assumption))))

theorem lineClass_any : ∀ (k : Nat) (hk : k < 27) (w : World),
    Calls Try.prog 59 #[.int .i64 (k : Int)] w fun e w' => e = .returned (.agg #[.int .i64 (LC k).d, .int .i64 (LC k).a, .int .i64 (LC k).b, .int .i64 (LC k).c, .int .i64 (LC k).e, .int .i64 (LC k).f, .int .i64 (LC k).g]) ∧ Below w.heap.size w w'
  | 0, _, w => lineClass_0 w
  | 1, _, w => lineClass_1 w
  | 2, _, w => lineClass_2 w
  | 3, _, w => lineClass_3 w
  | 4, _, w => lineClass_4 w
  | 5, _, w => lineClass_5 w
  | 6, _, w => lineClass_6 w
  | 7, _, w => lineClass_7 w
  | 8, _, w => lineClass_8 w
  | 9, _, w => lineClass_9 w
  | 10, _, w => lineClass_10 w
  | 11, _, w => lineClass_11 w
  | 12, _, w => lineClass_12 w
  | 13, _, w => lineClass_13 w
  | 14, _, w => lineClass_14 w
  | 15, _, w => lineClass_15 w
  | 16, _, w => lineClass_16 w
  | 17, _, w => lineClass_17 w
  | 18, _, w => lineClass_18 w
  | 19, _, w => lineClass_19 w
  | 20, _, w => lineClass_20 w
  | 21, _, w => lineClass_21 w
  | 22, _, w => lineClass_22 w
  | 23, _, w => lineClass_23 w
  | 24, _, w => lineClass_24 w
  | 25, _, w => lineClass_25 w
  | 26, _, w => lineClass_26 w
  | _ + 27, hk, _ => absurd hk (by omega)

end Go.Proofs.Ytogmfadeedmmaaa
