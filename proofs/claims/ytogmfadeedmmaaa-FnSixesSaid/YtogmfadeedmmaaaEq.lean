/- The equality of two classes, as the machine tests it: number by number. No condition. -/
import Derived.Test.YtogmfadeedmmaaaBase
namespace Go.Proofs.Ytogmfadeedmmaaa
open Go.RowKit
set_option linter.unusedSimpArgs false
set_option linter.unusedVariables false

theorem part_0 (c0 c1 c2 c3 c4 c5 : Value) (w : World) : (part 3 #[c0, c1, c2, c3, c4, c5] 0).run Try.prog w = .ok c0 w := by kernel_rfl
theorem part_1 (c0 c1 c2 c3 c4 c5 : Value) (w : World) : (part 3 #[c0, c1, c2, c3, c4, c5] 1).run Try.prog w = .ok c1 w := by kernel_rfl
theorem part_2 (c0 c1 c2 c3 c4 c5 : Value) (w : World) : (part 3 #[c0, c1, c2, c3, c4, c5] 2).run Try.prog w = .ok c2 w := by kernel_rfl
theorem part_3 (c0 c1 c2 c3 c4 c5 : Value) (w : World) : (part 3 #[c0, c1, c2, c3, c4, c5] 3).run Try.prog w = .ok c3 w := by kernel_rfl
theorem part_4 (c0 c1 c2 c3 c4 c5 : Value) (w : World) : (part 3 #[c0, c1, c2, c3, c4, c5] 4).run Try.prog w = .ok c4 w := by kernel_rfl
theorem part_5 (c0 c1 c2 c3 c4 c5 : Value) (w : World) : (part 3 #[c0, c1, c2, c3, c4, c5] 5).run Try.prog w = .ok c5 w := by kernel_rfl
theorem part_D (c0 c1 c2 c3 c4 c5 c6 : Value) (w : World) : (part 3 #[c0, c1, c2, c3, c4, c5, c6] 0).run Try.prog w = .ok c0 w := by kernel_rfl
theorem part_M (c0 c1 c2 c3 c4 c5 c6 : Value) (w : World) : (part 24 #[c0, c1, c2, c3, c4, c5, c6] 1).run Try.prog w = .ok (.agg #[c1, c2, c3, c4, c5, c6]) w := by kernel_rfl
theorem size_int (w : World) : (sizeOf 3).run Try.prog w = .ok 1 w := by kernel_rfl

theorem eq_arr (d : Nat) (xd xa xb xc xe xf xg yd ya yb yc ye yf yg : Int) (w : World) : (Op.equalIn (d + 2) 24 (.agg #[.int .i64 xa, .int .i64 xb, .int .i64 xc, .int .i64 xe, .int .i64 xf, .int .i64 xg]) (.agg #[.int .i64 ya, .int .i64 yb, .int .i64 yc, .int .i64 ye, .int .i64 yf, .int .i64 yg])).run Try.prog w = .ok (eqM ⟨xd, xa, xb, xc, xe, xf, xg⟩ ⟨yd, ya, yb, yc, ye, yf, yg⟩) w := by
  have e := fun (a b : Int) => run_equalIn_int (P := Try.prog) w d 3 .i64 .i64 a b Try.underlying3
  have r : List.range' 0 6 1 = [0, 1, 2, 3, 4, 5] := rfl
  rw [show d + 2 = (d + 1) + 1 from rfl, Op.equalIn]
  simp [run_underlying Try.underlying24, size_int, Std.Legacy.Range.forIn_eq_forIn_range', Std.Legacy.Range.size, r, part_0, part_1, part_2, part_3, part_4, part_5, e]
  simp only [eqM]
  (repeat' split) <;> simp_all

theorem eq_class (xd xa xb xc xe xf xg yd ya yb yc ye yf yg : Int) (w : World) : (binOp .eql 26 (.agg #[.int .i64 xd, .int .i64 xa, .int .i64 xb, .int .i64 xc, .int .i64 xe, .int .i64 xf, .int .i64 xg]) (.agg #[.int .i64 yd, .int .i64 ya, .int .i64 yb, .int .i64 yc, .int .i64 ye, .int .i64 yf, .int .i64 yg])).run Try.prog w = .ok (.bool (eqB ⟨xd, xa, xb, xc, xe, xf, xg⟩ ⟨yd, ya, yb, yc, ye, yf, yg⟩)) w := by
  have e := fun (a b : Int) => run_equalIn_int (P := Try.prog) w 9998 3 .i64 .i64 a b Try.underlying3
  have a := fun (ua ub uc ue uf ug va vb vc ve vf vg : Int) => eq_arr 9997 0 ua ub uc ue uf ug 0 va vb vc ve vf vg w
  have hst : Try.prog.stoodInHeld 26 = false := by kernel_rfl
  rw [run_eql_struct, run_equalIn_struct w 9999 26 _ _ (by kernel_rfl) hst]
  have hf : (Try.prog.fieldsOf 26).toList.map (fun f => (f.name, f.type, f.offset)) = [("D", 3, 0), ("M", 24, 1)] := by kernel_rfl
  generalize (Try.prog.fieldsOf 26).toList = fs at hf
  match fs, hf with
  | [f0, f1], hf =>
    simp only [List.map_cons, List.map_nil, List.cons.injEq, Prod.mk.injEq, and_true] at hf
    obtain ⟨⟨n0, t0, o0⟩, n1, t1, o1⟩ := hf
    simp [Op.eqFields, n0, t0, o0, n1, t1, o1, part_D, part_M, e, a, Result.andThen]
    by_cases h : xd = yd
    · subst h
      cases hm : eqM ⟨xd, xa, xb, xc, xe, xf, xg⟩ ⟨xd, ya, yb, yc, ye, yf, yg⟩
      · have hm' : eqM ⟨0, xa, xb, xc, xe, xf, xg⟩ ⟨0, ya, yb, yc, ye, yf, yg⟩ = false := hm
        simp [hm, hm', eqB]
      · have hm' : eqM ⟨0, xa, xb, xc, xe, xf, xg⟩ ⟨0, ya, yb, yc, ye, yf, yg⟩ = true := hm
        simp [hm, hm', eqB]
    · simp [h, eqB]
  | [], hf => simp at hf
  | [_], hf => simp at hf
  | _ :: _ :: _ :: _, hf => simp at hf

end Go.Proofs.Ytogmfadeedmmaaa
