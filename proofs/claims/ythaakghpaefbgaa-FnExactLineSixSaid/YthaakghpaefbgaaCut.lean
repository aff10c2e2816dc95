/- That the equality of two classes is reflexive. No condition. -/
import Derived.Test.YthaakghpaefbgaaEq
import Derived.Deep.RegionHeld3
import Derived.Deep.DeepCutAuto
namespace Go.Proofs.Ythaakghpaefbgaa
open Go.RowKit

theorem eqB_self (x : Cls) : eqB ⟨x.d, x.a, x.b, x.c, x.e, x.f, x.g⟩ ⟨x.d, x.a, x.b, x.c, x.e, x.f, x.g⟩ = true := by simp [eqB, eqM]

theorem ne_class (xd xa xb xc xe xf xg yd ya yb yc ye yf yg : Int) (w : World) : (binOp .neq 31 (.agg #[.int .i64 xd, .int .i64 xa, .int .i64 xb, .int .i64 xc, .int .i64 xe, .int .i64 xf, .int .i64 xg]) (.agg #[.int .i64 yd, .int .i64 ya, .int .i64 yb, .int .i64 yc, .int .i64 ye, .int .i64 yf, .int .i64 yg])).run Try.prog w = .ok (.bool (!eqB ⟨xd, xa, xb, xc, xe, xf, xg⟩ ⟨yd, ya, yb, yc, ye, yf, yg⟩)) w := by
  have h := eq_class xd xa xb xc xe xf xg yd ya yb yc ye yf yg w
  rw [run_eql_struct] at h
  rw [run_neq_struct]
  generalize (Op.equalIn 10000 31 (.agg #[.int .i64 xd, .int .i64 xa, .int .i64 xb, .int .i64 xc, .int .i64 xe, .int .i64 xf, .int .i64 xg]) (.agg #[.int .i64 yd, .int .i64 ya, .int .i64 yb, .int .i64 yc, .int .i64 ye, .int .i64 yf, .int .i64 yg])).run Try.prog w = r at h ⊢
  cases r with
  | ok b w1 => simp only [Result.andThen, Result.ok.injEq, Value.bool.injEq] at h ⊢; simp [h.1, h.2]
  | halt x w1 => simp [Result.andThen] at h
theorem ne_self (x : Cls) (w : World) : (binOp .neq 31 (.agg #[.int .i64 (x).d, .int .i64 (x).a, .int .i64 (x).b, .int .i64 (x).c, .int .i64 (x).e, .int .i64 (x).f, .int .i64 (x).g]) (.agg #[.int .i64 (x).d, .int .i64 (x).a, .int .i64 (x).b, .int .i64 (x).c, .int .i64 (x).e, .int .i64 (x).f, .int .i64 (x).g])).run Try.prog w = .ok (.bool false) w := by
  rw [ne_class, eqB_self]; rfl
theorem eq_self (x : Cls) (w : World) : (binOp .eql 31 (.agg #[.int .i64 (x).d, .int .i64 (x).a, .int .i64 (x).b, .int .i64 (x).c, .int .i64 (x).e, .int .i64 (x).f, .int .i64 (x).g]) (.agg #[.int .i64 (x).d, .int .i64 (x).a, .int .i64 (x).b, .int .i64 (x).c, .int .i64 (x).e, .int .i64 (x).f, .int .i64 (x).g])).run Try.prog w = .ok (.bool true) w := by
  rw [eq_class, eqB_self]

end Go.Proofs.Ythaakghpaefbgaa
