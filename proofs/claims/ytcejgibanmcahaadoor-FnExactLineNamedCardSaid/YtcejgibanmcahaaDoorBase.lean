/- Contracts of the small functions on classes: range tests, products, sums, the plane class. Each holds for all arguments, in whatever memory. -/
import Derived.Test.YtcejgibanmcahaaDoorPure
import Derived.Test.YtcejgibanmcahaaDoorRows
import Derived.WalkKit
import Derived.WalkSpells
import Derived.WalkLawsBesides
import Derived.BigQuiet
import Derived.Deep.QuietTactic
import Derived.Deep.RegionLawGrows
import Derived.Deep.Light
import Derived.StillTailTactics
namespace Go.Proofs.YtcejgibanmcahaaDoor
open Go.RowKit

theorem idx_0 (v0 v1 v2 v3 v4 v5 : Value) (w : World) : (Instr.index 34 (.agg #[v0, v1, v2, v3, v4, v5]) (.int .i64 0)).run Tryd.prog w = .ok v0 w := by kernel_rfl
theorem idx_1 (v0 v1 v2 v3 v4 v5 : Value) (w : World) : (Instr.index 34 (.agg #[v0, v1, v2, v3, v4, v5]) (.int .i64 1)).run Tryd.prog w = .ok v1 w := by kernel_rfl
theorem idx_2 (v0 v1 v2 v3 v4 v5 : Value) (w : World) : (Instr.index 34 (.agg #[v0, v1, v2, v3, v4, v5]) (.int .i64 2)).run Tryd.prog w = .ok v2 w := by kernel_rfl
theorem idx_3 (v0 v1 v2 v3 v4 v5 : Value) (w : World) : (Instr.index 34 (.agg #[v0, v1, v2, v3, v4, v5]) (.int .i64 3)).run Tryd.prog w = .ok v3 w := by kernel_rfl
theorem idx_4 (v0 v1 v2 v3 v4 v5 : Value) (w : World) : (Instr.index 34 (.agg #[v0, v1, v2, v3, v4, v5]) (.int .i64 4)).run Tryd.prog w = .ok v4 w := by kernel_rfl
theorem idx_5 (v0 v1 v2 v3 v4 v5 : Value) (w : World) : (Instr.index 34 (.agg #[v0, v1, v2, v3, v4, v5]) (.int .i64 5)).run Tryd.prog w = .ok v5 w := by kernel_rfl
attribute [local go_sem] idx_0 idx_1 idx_2 idx_3 idx_4 idx_5

theorem l6In_any (n lo hi : Int) (w : World) :
    Calls Tryd.prog 17 #[.int .i64 n, .int .i64 lo, .int .i64 hi] w fun e w' => e = .returned (.bool (inB n lo hi)) ∧ w = w' := by
  by_cases h1 : lo ≤ n
  · go_enter Tryd.func17, Tryd.ntmps17
    go_wp2
    go_ret
    exact ⟨ret_bool (by simp [inB, h1]), rfl⟩
  · go_enter Tryd.func17, Tryd.ntmps17
    go_wp2
    go_ret
    exact ⟨ret_bool (by simp [inB]; omega), rfl⟩

theorem isLine_any (n : Int) (w : World) :
    Calls Tryd.prog 16 #[.int .i64 n] w fun e w' => e = .returned (.bool (inB n 0 26)) ∧ w = w' := by
  by_cases h1 : 0 ≤ n
  · by_cases h2 : n < 27
    · go_enter Tryd.func16, Tryd.ntmps16
      go_wp2
      go_ret
      exact ⟨ret_bool (by simp [inB, h1]; omega), rfl⟩
    · go_enter Tryd.func16, Tryd.ntmps16
      go_wp2
      go_ret
      exact ⟨ret_bool (by simp [inB, h1]; omega), rfl⟩
  · go_enter Tryd.func16, Tryd.ntmps16
    go_wp2
    go_ret
    exact ⟨ret_bool (by simp [inB]; omega), rfl⟩

theorem Tryd.info3 : (Tryd.prog.info? 3).map (fun i => (i.zero, i.size, i.bytes)) = some (some (.int .i64 0), 1, 8) := by kernel_rfl

theorem six_cells (u0 v0 v1 v2 v3 v4 v5 : Value) : ∀ (j : Nat) (u : Value), [v0, v1, v2, v3, v4, v5][j]? = some u → (#[u0, v0, v1, v2, v3, v4, v5] : Array Value)[1 + j]? = some u
  | 0, u, h | 1, u, h | 2, u, h | 3, u, h | 4, u, h | 5, u, h => by simpa using h
  | j + 6, u, h => by simp at h
theorem one_cell (v0 : Value) : ∀ (j : Nat) (u : Value), [v0][j]? = some u → (#[v0] : Array Value)[0 + j]? = some u
  | 0, u, h => by simpa using h
  | j + 1, u, h => by simp at h

end Go.Proofs.YtcejgibanmcahaaDoor
