/- Contracts of the small functions on classes: range tests, products, sums, the plane class. Each holds for all arguments, in whatever memory. -/
import Derived.Test.YtogmfadeedmmaaaPure
import Derived.Test.YtogmfadeedmmaaaRows
import Derived.WalkKit
import Derived.WalkSpells
import Derived.WalkLawsBesides
import Derived.BigQuiet
import Derived.Deep.QuietTactic
import Derived.Deep.RegionLawGrows
import Derived.Deep.Light
import Derived.StillTailTactics
namespace Go.Proofs.Ytogmfadeedmmaaa
open Go.RowKit

theorem idx_0 (v0 v1 v2 v3 v4 v5 : Value) (w : World) : (Instr.index 24 (.agg #[v0, v1, v2, v3, v4, v5]) (.int .i64 0)).run Try.prog w = .ok v0 w := by kernel_rfl
theorem idx_1 (v0 v1 v2 v3 v4 v5 : Value) (w : World) : (Instr.index 24 (.agg #[v0, v1, v2, v3, v4, v5]) (.int .i64 1)).run Try.prog w = .ok v1 w := by kernel_rfl
theorem idx_2 (v0 v1 v2 v3 v4 v5 : Value) (w : World) : (Instr.index 24 (.agg #[v0, v1, v2, v3, v4, v5]) (.int .i64 2)).run Try.prog w = .ok v2 w := by kernel_rfl
theorem idx_3 (v0 v1 v2 v3 v4 v5 : Value) (w : World) : (Instr.index 24 (.agg #[v0, v1, v2, v3, v4, v5]) (.int .i64 3)).run Try.prog w = .ok v3 w := by kernel_rfl
theorem idx_4 (v0 v1 v2 v3 v4 v5 : Value) (w : World) : (Instr.index 24 (.agg #[v0, v1, v2, v3, v4, v5]) (.int .i64 4)).run Try.prog w = .ok v4 w := by kernel_rfl
theorem idx_5 (v0 v1 v2 v3 v4 v5 : Value) (w : World) : (Instr.index 24 (.agg #[v0, v1, v2, v3, v4, v5]) (.int .i64 5)).run Try.prog w = .ok v5 w := by kernel_rfl
attribute [local go_sem] idx_0 idx_1 idx_2 idx_3 idx_4 idx_5

theorem l6In_any (n lo hi : Int) (w : World) :
    Calls Try.prog 52 #[.int .i64 n, .int .i64 lo, .int .i64 hi] w fun e w' => e = .returned (.bool (inB n lo hi)) ∧ w = w' := by
  by_cases h1 : lo ≤ n
  · go_enter Try.func52, Try.ntmps52
    go_wp2
    go_ret
    exact ⟨ret_bool (by simp [inB, h1]), rfl⟩
  · go_enter Try.func52, Try.ntmps52
    go_wp2
    go_ret
    exact ⟨ret_bool (by simp [inB]; omega), rfl⟩

theorem isLine_any (n : Int) (w : World) :
    Calls Try.prog 58 #[.int .i64 n] w fun e w' => e = .returned (.bool (inB n 0 26)) ∧ w = w' := by
  by_cases h1 : 0 ≤ n
  · by_cases h2 : n < 27
    · go_enter Try.func58, Try.ntmps58
      go_wp2
      go_ret
      exact ⟨ret_bool (by simp [inB, h1]; omega), rfl⟩
    · go_enter Try.func58, Try.ntmps58
      go_wp2
      go_ret
      exact ⟨ret_bool (by simp [inB, h1]; omega), rfl⟩
  · go_enter Try.func58, Try.ntmps58
    go_wp2
    go_ret
    exact ⟨ret_bool (by simp [inB]; omega), rfl⟩

theorem l1Plane_any (w : World) :
    Calls Try.prog 75 #[] w fun e w' => e = .returned (.agg #[.int .i64 3, .int .i64 1, .int .i64 1, .int .i64 1, .int .i64 1, .int .i64 1, .int .i64 1]) ∧ Below w.heap.size w w' := by
  go_enter Try.func75, Try.ntmps75
  go_wp2
  refine bodyPost_ret (v := .agg #[.int .i64 3, .int .i64 1, .int .i64 1, .int .i64 1, .int .i64 1, .int .i64 1, .int .i64 1]) (by simp [results, Try.results75, go_sem]) rfl ⟨rfl, ?_⟩
  (repeat (first | (with_reducible exact Below.refl _ _) | (with_reducible refine bl_alloc ?_ ?_ _; focus (first | omega | (simp; done) | (simp; omega))) | (with_reducible refine bl_set ?_ ?_ _; focus (first | omega | (simp; done) | (simp; omega))) | (with_reducible refine Below.drew ?_) | (with_reducible refine below_drewN ?_ _) | (with_reducible refine below_step ?_ (by assumption))))

theorem planeClass_any (w : World) :
    Calls Try.prog 85 #[] w fun e w' => e = .returned (.agg #[.int .i64 3, .int .i64 1, .int .i64 1, .int .i64 1, .int .i64 1, .int .i64 1, .int .i64 1]) ∧ Below w.heap.size w w' := by
  go_enter Try.func85, Try.ntmps85
  go_wp2
  refine bodyPost_ret (v := .agg #[.int .i64 3, .int .i64 1, .int .i64 1, .int .i64 1, .int .i64 1, .int .i64 1, .int .i64 1]) (by simp [results, Try.results85, go_sem]) rfl ⟨rfl, ?_⟩
  (repeat (first | (with_reducible exact Below.refl _ _) | (with_reducible refine bl_alloc ?_ ?_ _; focus (first | omega | (simp; done) | (simp; omega))) | (with_reducible refine bl_set ?_ ?_ _; focus (first | omega | (simp; done) | (simp; omega))) | (with_reducible refine Below.drew ?_) | (with_reducible refine below_drewN ?_ _) | (with_reducible refine below_step ?_ (by assumption))))

theorem product_any (xd xa xb xc xe xf xg yd ya yb yc ye yf yg : Int) (w : World) :
    Calls Try.prog 55 #[.agg #[.int .i64 xd, .int .i64 xa, .int .i64 xb, .int .i64 xc, .int .i64 xe, .int .i64 xf, .int .i64 xg], .agg #[.int .i64 yd, .int .i64 ya, .int .i64 yb, .int .i64 yc, .int .i64 ye, .int .i64 yf, .int .i64 yg]] w fun e w' => e = .returned (.int .i64 (prodC ⟨xd, xa, xb, xc, xe, xf, xg⟩ ⟨yd, ya, yb, yc, ye, yf, yg⟩)) ∧ Below w.heap.size w w' := by
  go_enter Try.func55, Try.ntmps55
  go_wp2
  refine wp_loop_rounds 7 ?_
  rw [rounds_succ]
  go_wp2
  rw [rounds_succ]
  go_wp2
  rw [rounds_succ]
  go_wp2
  rw [rounds_succ]
  go_wp2
  rw [rounds_succ]
  go_wp2
  rw [rounds_succ]
  go_wp2
  rw [rounds_succ]
  go_wp2
  go_ret
  exact ⟨rfl, by (repeat (first | (with_reducible exact Below.refl _ _) | (with_reducible refine bl_alloc ?_ ?_ _; focus (first | omega | (simp; done) | (simp; omega))) | (with_reducible refine bl_set ?_ ?_ _; focus (first | omega | (simp; done) | (simp; omega))) | (with_reducible refine Below.drew ?_) | (with_reducible refine below_drewN ?_ _) | (with_reducible refine below_step ?_ (by assumption))))⟩

theorem l1Product_any (xd xa xb xc xe xf xg yd ya yb yc ye yf yg : Int) (w : World) :
    Calls Try.prog 84 #[.agg #[.int .i64 xd, .int .i64 xa, .int .i64 xb, .int .i64 xc, .int .i64 xe, .int .i64 xf, .int .i64 xg], .agg #[.int .i64 yd, .int .i64 ya, .int .i64 yb, .int .i64 yc, .int .i64 ye, .int .i64 yf, .int .i64 yg]] w fun e w' => e = .returned (.int .i64 (prodC ⟨xd, xa, xb, xc, xe, xf, xg⟩ ⟨yd, ya, yb, yc, ye, yf, yg⟩)) ∧ Below w.heap.size w w' := by
  go_enter Try.func84, Try.ntmps84
  go_wp2
  refine wp_loop_rounds 7 ?_
  rw [rounds_succ]
  go_wp2
  go_quiet (fail)
  go_wp2
  rw [rounds_succ]
  go_wp2
  go_quiet (fail)
  go_wp2
  rw [rounds_succ]
  go_wp2
  go_quiet (fail)
  go_wp2
  rw [rounds_succ]
  go_wp2
  go_quiet (fail)
  go_wp2
  rw [rounds_succ]
  go_wp2
  go_quiet (fail)
  go_wp2
  rw [rounds_succ]
  go_wp2
  go_quiet (fail)
  go_wp2
  rw [rounds_succ]
  go_wp2
  go_ret
  exact ⟨rfl, by (repeat (first | (with_reducible exact Below.refl _ _) | (with_reducible refine bl_alloc ?_ ?_ _; focus (first | omega | (simp; done) | (simp; omega))) | (with_reducible refine bl_set ?_ ?_ _; focus (first | omega | (simp; done) | (simp; omega))) | (with_reducible refine Below.drew ?_) | (with_reducible refine below_drewN ?_ _) | (with_reducible refine below_step ?_ (by assumption))))⟩

theorem l1Sum_any (xd xa xb xc xe xf xg n yd ya yb yc ye yf yg : Int) (w : World) :
    Calls Try.prog 69 #[.agg #[.int .i64 xd, .int .i64 xa, .int .i64 xb, .int .i64 xc, .int .i64 xe, .int .i64 xf, .int .i64 xg], .int .i64 n, .agg #[.int .i64 yd, .int .i64 ya, .int .i64 yb, .int .i64 yc, .int .i64 ye, .int .i64 yf, .int .i64 yg]] w fun e w' => e = .returned (.agg #[.int .i64 (sumC ⟨xd, xa, xb, xc, xe, xf, xg⟩ n ⟨yd, ya, yb, yc, ye, yf, yg⟩).d, .int .i64 (sumC ⟨xd, xa, xb, xc, xe, xf, xg⟩ n ⟨yd, ya, yb, yc, ye, yf, yg⟩).a, .int .i64 (sumC ⟨xd, xa, xb, xc, xe, xf, xg⟩ n ⟨yd, ya, yb, yc, ye, yf, yg⟩).b, .int .i64 (sumC ⟨xd, xa, xb, xc, xe, xf, xg⟩ n ⟨yd, ya, yb, yc, ye, yf, yg⟩).c, .int .i64 (sumC ⟨xd, xa, xb, xc, xe, xf, xg⟩ n ⟨yd, ya, yb, yc, ye, yf, yg⟩).e, .int .i64 (sumC ⟨xd, xa, xb, xc, xe, xf, xg⟩ n ⟨yd, ya, yb, yc, ye, yf, yg⟩).f, .int .i64 (sumC ⟨xd, xa, xb, xc, xe, xf, xg⟩ n ⟨yd, ya, yb, yc, ye, yf, yg⟩).g]) ∧ Below w.heap.size w w' := by
  go_enter Try.func69, Try.ntmps69
  go_wp2
  refine wp_loop_rounds 7 ?_
  rw [rounds_succ]
  go_wp2
  go_region
  go_wp2
  rw [rounds_succ]
  go_wp2
  go_region
  go_wp2
  rw [rounds_succ]
  go_wp2
  go_region
  go_wp2
  rw [rounds_succ]
  go_wp2
  go_region
  go_wp2
  rw [rounds_succ]
  go_wp2
  go_region
  go_wp2
  rw [rounds_succ]
  go_wp2
  go_region
  go_wp2
  rw [rounds_succ]
  go_wp2
  refine bodyPost_ret (v := .agg #[.int .i64 (sumC ⟨xd, xa, xb, xc, xe, xf, xg⟩ n ⟨yd, ya, yb, yc, ye, yf, yg⟩).d, .int .i64 (sumC ⟨xd, xa, xb, xc, xe, xf, xg⟩ n ⟨yd, ya, yb, yc, ye, yf, yg⟩).a, .int .i64 (sumC ⟨xd, xa, xb, xc, xe, xf, xg⟩ n ⟨yd, ya, yb, yc, ye, yf, yg⟩).b, .int .i64 (sumC ⟨xd, xa, xb, xc, xe, xf, xg⟩ n ⟨yd, ya, yb, yc, ye, yf, yg⟩).c, .int .i64 (sumC ⟨xd, xa, xb, xc, xe, xf, xg⟩ n ⟨yd, ya, yb, yc, ye, yf, yg⟩).e, .int .i64 (sumC ⟨xd, xa, xb, xc, xe, xf, xg⟩ n ⟨yd, ya, yb, yc, ye, yf, yg⟩).f, .int .i64 (sumC ⟨xd, xa, xb, xc, xe, xf, xg⟩ n ⟨yd, ya, yb, yc, ye, yf, yg⟩).g]) (by simp [results, Try.results69, go_sem, sumC, addM]) rfl ⟨rfl, ?_⟩
  (repeat (first | (with_reducible exact Below.refl _ _) | (with_reducible refine bl_alloc ?_ ?_ _; focus (first | omega | (simp; done) | (simp; omega))) | (with_reducible refine bl_set ?_ ?_ _; focus (first | omega | (simp; done) | (simp; omega))) | (with_reducible refine Below.drew ?_) | (with_reducible refine below_drewN ?_ _) | (with_reducible refine below_step ?_ (by assumption))))

theorem addTimes_any (xd xa xb xc xe xf xg n yd ya yb yc ye yf yg : Int) (w : World) :
    Calls Try.prog 67 #[.agg #[.int .i64 xd, .int .i64 xa, .int .i64 xb, .int .i64 xc, .int .i64 xe, .int .i64 xf, .int .i64 xg], .int .i64 n, .agg #[.int .i64 yd, .int .i64 ya, .int .i64 yb, .int .i64 yc, .int .i64 ye, .int .i64 yf, .int .i64 yg]] w fun e w' => e = .returned (.agg #[.int .i64 (sumC ⟨xd, xa, xb, xc, xe, xf, xg⟩ n ⟨yd, ya, yb, yc, ye, yf, yg⟩).d, .int .i64 (sumC ⟨xd, xa, xb, xc, xe, xf, xg⟩ n ⟨yd, ya, yb, yc, ye, yf, yg⟩).a, .int .i64 (sumC ⟨xd, xa, xb, xc, xe, xf, xg⟩ n ⟨yd, ya, yb, yc, ye, yf, yg⟩).b, .int .i64 (sumC ⟨xd, xa, xb, xc, xe, xf, xg⟩ n ⟨yd, ya, yb, yc, ye, yf, yg⟩).c, .int .i64 (sumC ⟨xd, xa, xb, xc, xe, xf, xg⟩ n ⟨yd, ya, yb, yc, ye, yf, yg⟩).e, .int .i64 (sumC ⟨xd, xa, xb, xc, xe, xf, xg⟩ n ⟨yd, ya, yb, yc, ye, yf, yg⟩).f, .int .i64 (sumC ⟨xd, xa, xb, xc, xe, xf, xg⟩ n ⟨yd, ya, yb, yc, ye, yf, yg⟩).g]) ∧ Below w.heap.size w w' := by
  go_enter Try.func67, Try.ntmps67
  go_wp2
  refine wp_loop_rounds 7 ?_
  rw [rounds_succ]
  go_wp2
  rw [rounds_succ]
  go_wp2
  rw [rounds_succ]
  go_wp2
  rw [rounds_succ]
  go_wp2
  rw [rounds_succ]
  go_wp2
  rw [rounds_succ]
  go_wp2
  rw [rounds_succ]
  go_wp2
  refine bodyPost_ret (v := .agg #[.int .i64 (sumC ⟨xd, xa, xb, xc, xe, xf, xg⟩ n ⟨yd, ya, yb, yc, ye, yf, yg⟩).d, .int .i64 (sumC ⟨xd, xa, xb, xc, xe, xf, xg⟩ n ⟨yd, ya, yb, yc, ye, yf, yg⟩).a, .int .i64 (sumC ⟨xd, xa, xb, xc, xe, xf, xg⟩ n ⟨yd, ya, yb, yc, ye, yf, yg⟩).b, .int .i64 (sumC ⟨xd, xa, xb, xc, xe, xf, xg⟩ n ⟨yd, ya, yb, yc, ye, yf, yg⟩).c, .int .i64 (sumC ⟨xd, xa, xb, xc, xe, xf, xg⟩ n ⟨yd, ya, yb, yc, ye, yf, yg⟩).e, .int .i64 (sumC ⟨xd, xa, xb, xc, xe, xf, xg⟩ n ⟨yd, ya, yb, yc, ye, yf, yg⟩).f, .int .i64 (sumC ⟨xd, xa, xb, xc, xe, xf, xg⟩ n ⟨yd, ya, yb, yc, ye, yf, yg⟩).g]) (by simp [results, Try.results67, go_sem, sumC, addM]) rfl ⟨rfl, ?_⟩
  (repeat (first | (with_reducible exact Below.refl _ _) | (with_reducible refine bl_alloc ?_ ?_ _; focus (first | omega | (simp; done) | (simp; omega))) | (with_reducible refine bl_set ?_ ?_ _; focus (first | omega | (simp; done) | (simp; omega))) | (with_reducible refine Below.drew ?_) | (with_reducible refine below_drewN ?_ _) | (with_reducible refine below_step ?_ (by assumption))))

theorem Try.info3 : (Try.prog.info? 3).map (fun i => (i.zero, i.size, i.bytes)) = some (some (.int .i64 0), 1, 8) := by kernel_rfl

theorem six_cells (u0 v0 v1 v2 v3 v4 v5 : Value) : ∀ (j : Nat) (u : Value), [v0, v1, v2, v3, v4, v5][j]? = some u → (#[u0, v0, v1, v2, v3, v4, v5] : Array Value)[1 + j]? = some u
  | 0, u, h | 1, u, h | 2, u, h | 3, u, h | 4, u, h | 5, u, h => by simpa using h
  | j + 6, u, h => by simp at h
theorem one_cell (v0 : Value) : ∀ (j : Nat) (u : Value), [v0][j]? = some u → (#[v0] : Array Value)[0 + j]? = some u
  | 0, u, h => by simpa using h
  | j + 1, u, h => by simp at h

set_option maxHeartbeats 400000 in
theorem isClass_any (xd xa xb xc xe xf xg : Int) (w : World) :
    Calls Try.prog 54 #[.agg #[.int .i64 xd, .int .i64 xa, .int .i64 xb, .int .i64 xc, .int .i64 xe, .int .i64 xf, .int .i64 xg]] w fun e w' => e = .returned (.bool (vldB ⟨xd, xa, xb, xc, xe, xf, xg⟩)) ∧ Below w.heap.size w w' := by
  obtain ⟨i0, hi, hz0, hz1, hz2⟩ := info_parts Try.info3
  go_enter Try.func54, Try.ntmps54
  go_wp2
  go_region_law (refine step_append_grows rfl (.tmp 6) (.tmp 9) 38 rfl 3 i0 (.int .i64 0) 1 8 Try.underlying38 hi hz0 hz1 hz2 rfl (by decide) (some ⟨w.heap.size, 1, none⟩) 6 6 [.int .i64 xa, .int .i64 xb, .int .i64 xc, .int .i64 xe, .int .i64 xf, .int .i64 xg] rfl (by simp) rfl (cells_of_block (cur := #[.int .i64 xd, .int .i64 xa, .int .i64 xb, .int .i64 xc, .int .i64 xe, .int .i64 xf, .int .i64 xg]) (t := 26) (by exact (alloc_under (w.alloc _) _ _ (by simp)).trans (alloc_at w _ _ rfl)) 1 _ (six_cells _ _ _ _ _ _ _)) ⟨w.heap.size + 1, 0, none⟩ 1 1 [.int .i64 xd] rfl rfl (cells_of_block (cur := #[.int .i64 xd]) (t := 3) (by exact alloc_at (w.alloc _) _ _ (by simp)) 0 _ (one_cell _) _ rfl) (by intro u hu; simp at hu; subst hu; rfl) (by omega) (by unfold maxLen; omega) (by omega) ?_; intro v' w1 hown hgrow; obtain ⟨g, cap, hv, hg, hn7, hcm, hgs, hcell⟩ := own_shape hown (by omega); subst hv; have c0 := hcell 0 _ rfl; have c1 := hcell 1 _ rfl; have c2 := hcell 2 _ rfl; have c3 := hcell 3 _ rfl; have c4 := hcell 4 _ rfl; have c5 := hcell 5 _ rfl; have c6 := hcell 6 _ rfl; clear hown hcell)
  have hB : Below w.heap.size w w1 := by
    refine Below.trans (b := ((w.alloc (.cells #[.int .i64 xd, .int .i64 xa, .int .i64 xb, .int .i64 xc, .int .i64 xe, .int .i64 xf, .int .i64 xg] 26)).alloc (.cells #[.int .i64 xd] 3)).drew) (by (repeat (first | (with_reducible exact Below.refl _ _) | (with_reducible refine bl_alloc ?_ ?_ _; focus (first | omega | (simp; done) | (simp; omega))) | (with_reducible refine bl_set ?_ ?_ _; focus (first | omega | (simp; done) | (simp; omega))) | (with_reducible refine Below.drew ?_) | (with_reducible refine below_drewN ?_ _) | (with_reducible refine below_step ?_ (by assumption))))) ?_
    exact (Below.refl _ _).grown (hgrow) (by simp; omega) (by simp)
  clear hgrow
  go_wp2
  refine wp_loop_rounds 8 ?_
  rw [rounds_succ]
  go_wp2
  · go_ret
    exact ⟨ret_bool (by simp [vldB, okN, inB]; omega), hB⟩
  rotate_left
  · go_ret
    exact ⟨ret_bool (by simp [vldB, okN, inB]; omega), hB⟩
  rw [rounds_succ]
  go_wp2
  · go_ret
    exact ⟨ret_bool (by simp [vldB, okN, inB]; omega), hB⟩
  rotate_left
  · go_ret
    exact ⟨ret_bool (by simp [vldB, okN, inB]; omega), hB⟩
  rw [rounds_succ]
  go_wp2
  · go_ret
    exact ⟨ret_bool (by simp [vldB, okN, inB]; omega), hB⟩
  rotate_left
  · go_ret
    exact ⟨ret_bool (by simp [vldB, okN, inB]; omega), hB⟩
  rw [rounds_succ]
  go_wp2
  · go_ret
    exact ⟨ret_bool (by simp [vldB, okN, inB]; omega), hB⟩
  rotate_left
  · go_ret
    exact ⟨ret_bool (by simp [vldB, okN, inB]; omega), hB⟩
  rw [rounds_succ]
  go_wp2
  · go_ret
    exact ⟨ret_bool (by simp [vldB, okN, inB]; omega), hB⟩
  rotate_left
  · go_ret
    exact ⟨ret_bool (by simp [vldB, okN, inB]; omega), hB⟩
  rw [rounds_succ]
  go_wp2
  · go_ret
    exact ⟨ret_bool (by simp [vldB, okN, inB]; omega), hB⟩
  rotate_left
  · go_ret
    exact ⟨ret_bool (by simp [vldB, okN, inB]; omega), hB⟩
  rw [rounds_succ]
  go_wp2
  · go_ret
    exact ⟨ret_bool (by simp [vldB, okN, inB]; omega), hB⟩
  rotate_left
  · go_ret
    exact ⟨ret_bool (by simp [vldB, okN, inB]; omega), hB⟩
  rw [rounds_succ]
  go_wp2
  go_ret
  exact ⟨ret_bool (by simp [vldB, okN, inB]; omega), hB⟩

end Go.Proofs.Ytogmfadeedmmaaa
