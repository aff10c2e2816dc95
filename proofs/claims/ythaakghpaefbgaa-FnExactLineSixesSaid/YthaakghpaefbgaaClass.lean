/- Contracts of the functions that test, copy and compare classes. Each holds for all arguments, in whatever memory. -/
import Derived.Test.YthaakghpaefbgaaBase
namespace Go.Proofs.Ythaakghpaefbgaa
open Go.RowKit
set_option linter.unusedSimpArgs false
set_option linter.unusedVariables false
attribute [local go_sem] idx_0 idx_1 idx_2 idx_3 idx_4 idx_5

theorem eqIntA6_any (xd xa xb xc xe xf xg yd ya yb yc ye yf yg : Int) (w : World) :
    Calls Try.prog 45 #[.agg #[.int .i64 xa, .int .i64 xb, .int .i64 xc, .int .i64 xe, .int .i64 xf, .int .i64 xg], .agg #[.int .i64 ya, .int .i64 yb, .int .i64 yc, .int .i64 ye, .int .i64 yf, .int .i64 yg]] w fun e w' => e = .returned (.bool (eqM ⟨xd, xa, xb, xc, xe, xf, xg⟩ ⟨yd, ya, yb, yc, ye, yf, yg⟩)) ∧ Below w.heap.size w w' := by
  go_enter Try.func45, Try.ntmps45
  go_wp2
  refine wp_loop_rounds 7 ?_
  rw [rounds_succ]
  go_wp2
  go_quiet (fail)
  go_wp2
  · go_ret
    exact ⟨ret_bool (by go_light; simp_all [eqM]), by (repeat (first | (with_reducible exact Below.refl _ _) | (with_reducible refine bl_alloc ?_ ?_ _; focus (first | omega | (simp; done) | (simp; omega))) | (with_reducible refine bl_set ?_ ?_ _; focus (first | omega | (simp; done) | (simp; omega))) | (with_reducible refine Below.drew ?_) | (with_reducible refine below_drewN ?_ _) | (with_reducible refine below_step ?_ (by assumption))))⟩
  rw [rounds_succ]
  go_wp2
  go_quiet (fail)
  go_wp2
  · go_ret
    exact ⟨ret_bool (by go_light; simp_all [eqM]), by (repeat (first | (with_reducible exact Below.refl _ _) | (with_reducible refine bl_alloc ?_ ?_ _; focus (first | omega | (simp; done) | (simp; omega))) | (with_reducible refine bl_set ?_ ?_ _; focus (first | omega | (simp; done) | (simp; omega))) | (with_reducible refine Below.drew ?_) | (with_reducible refine below_drewN ?_ _) | (with_reducible refine below_step ?_ (by assumption))))⟩
  rw [rounds_succ]
  go_wp2
  go_quiet (fail)
  go_wp2
  · go_ret
    exact ⟨ret_bool (by go_light; simp_all [eqM]), by (repeat (first | (with_reducible exact Below.refl _ _) | (with_reducible refine bl_alloc ?_ ?_ _; focus (first | omega | (simp; done) | (simp; omega))) | (with_reducible refine bl_set ?_ ?_ _; focus (first | omega | (simp; done) | (simp; omega))) | (with_reducible refine Below.drew ?_) | (with_reducible refine below_drewN ?_ _) | (with_reducible refine below_step ?_ (by assumption))))⟩
  rw [rounds_succ]
  go_wp2
  go_quiet (fail)
  go_wp2
  · go_ret
    exact ⟨ret_bool (by go_light; simp_all [eqM]), by (repeat (first | (with_reducible exact Below.refl _ _) | (with_reducible refine bl_alloc ?_ ?_ _; focus (first | omega | (simp; done) | (simp; omega))) | (with_reducible refine bl_set ?_ ?_ _; focus (first | omega | (simp; done) | (simp; omega))) | (with_reducible refine Below.drew ?_) | (with_reducible refine below_drewN ?_ _) | (with_reducible refine below_step ?_ (by assumption))))⟩
  rw [rounds_succ]
  go_wp2
  go_quiet (fail)
  go_wp2
  · go_ret
    exact ⟨ret_bool (by go_light; simp_all [eqM]), by (repeat (first | (with_reducible exact Below.refl _ _) | (with_reducible refine bl_alloc ?_ ?_ _; focus (first | omega | (simp; done) | (simp; omega))) | (with_reducible refine bl_set ?_ ?_ _; focus (first | omega | (simp; done) | (simp; omega))) | (with_reducible refine Below.drew ?_) | (with_reducible refine below_drewN ?_ _) | (with_reducible refine below_step ?_ (by assumption))))⟩
  rw [rounds_succ]
  go_wp2
  go_quiet (fail)
  go_wp2
  · go_ret
    exact ⟨ret_bool (by go_light; simp_all [eqM]), by (repeat (first | (with_reducible exact Below.refl _ _) | (with_reducible refine bl_alloc ?_ ?_ _; focus (first | omega | (simp; done) | (simp; omega))) | (with_reducible refine bl_set ?_ ?_ _; focus (first | omega | (simp; done) | (simp; omega))) | (with_reducible refine Below.drew ?_) | (with_reducible refine below_drewN ?_ _) | (with_reducible refine below_step ?_ (by assumption))))⟩
  rw [rounds_succ]
  go_wp2
  go_ret
  exact ⟨ret_bool (by go_light; simp_all [eqM]), by (repeat (first | (with_reducible exact Below.refl _ _) | (with_reducible refine bl_alloc ?_ ?_ _; focus (first | omega | (simp; done) | (simp; omega))) | (with_reducible refine bl_set ?_ ?_ _; focus (first | omega | (simp; done) | (simp; omega))) | (with_reducible refine Below.drew ?_) | (with_reducible refine below_drewN ?_ _) | (with_reducible refine below_step ?_ (by assumption))))⟩

end Go.Proofs.Ythaakghpaefbgaa
