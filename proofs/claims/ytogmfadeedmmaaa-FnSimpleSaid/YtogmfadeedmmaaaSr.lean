/- The products of the simple roots. No condition. -/
import Derived.Test.YtogmfadeedmmaaaRoot
namespace Go.Proofs.Ytogmfadeedmmaaa
set_option linter.unusedVariables false

def srN (i k : Nat) : Int := prodR (SR i) (SR k)
theorem SR_ok' : ∀ i, i < 6 → vldB (SR i) = true := by decide +kernel
theorem SR_ok (i : Nat) (hi : i < 6) : vldB ⟨(SR i).d, (SR i).a, (SR i).b, (SR i).c, (SR i).e, (SR i).f, (SR i).g⟩ = true := SR_ok' i hi
theorem SR_prod (i k : Nat) (hi : i < 6) (hk : k < 6) :
    prodR ⟨(SR i).d, (SR i).a, (SR i).b, (SR i).c, (SR i).e, (SR i).f, (SR i).g⟩ ⟨(SR k).d, (SR k).a, (SR k).b, (SR k).c, (SR k).e, (SR k).f, (SR k).g⟩ = srN i k := rfl
theorem SR_root' : ∀ i, i < 6 → rootB (SR i) = true := by decide +kernel
theorem SR_root (i : Nat) (hi : i < 6) : rootB ⟨(SR i).d, (SR i).a, (SR i).b, (SR i).c, (SR i).e, (SR i).f, (SR i).g⟩ = true := SR_root' i hi

theorem sv_0 : srN 0 0 = -2 := by decide +kernel

theorem sv_1 : srN 0 1 = 1 := by decide +kernel

theorem sv_2 : srN 0 2 = 0 := by decide +kernel

theorem sv_3 : srN 0 3 = 0 := by decide +kernel

theorem sv_4 : srN 0 4 = 0 := by decide +kernel

theorem sv_5 : srN 0 5 = 0 := by decide +kernel

theorem sv_6 : srN 1 0 = 1 := by decide +kernel

theorem sv_7 : srN 1 1 = -2 := by decide +kernel

theorem sv_8 : srN 1 2 = 1 := by decide +kernel

theorem sv_9 : srN 1 3 = 0 := by decide +kernel

theorem sv_10 : srN 1 4 = 0 := by decide +kernel

theorem sv_11 : srN 1 5 = 0 := by decide +kernel

theorem sv_12 : srN 2 0 = 0 := by decide +kernel

theorem sv_13 : srN 2 1 = 1 := by decide +kernel

theorem sv_14 : srN 2 2 = -2 := by decide +kernel

theorem sv_15 : srN 2 3 = 1 := by decide +kernel

theorem sv_16 : srN 2 4 = 0 := by decide +kernel

theorem sv_17 : srN 2 5 = 1 := by decide +kernel

theorem sv_18 : srN 3 0 = 0 := by decide +kernel

theorem sv_19 : srN 3 1 = 0 := by decide +kernel

theorem sv_20 : srN 3 2 = 1 := by decide +kernel

theorem sv_21 : srN 3 3 = -2 := by decide +kernel

theorem sv_22 : srN 3 4 = 1 := by decide +kernel

theorem sv_23 : srN 3 5 = 0 := by decide +kernel

theorem sv_24 : srN 4 0 = 0 := by decide +kernel

theorem sv_25 : srN 4 1 = 0 := by decide +kernel

theorem sv_26 : srN 4 2 = 0 := by decide +kernel

theorem sv_27 : srN 4 3 = 1 := by decide +kernel

theorem sv_28 : srN 4 4 = -2 := by decide +kernel

theorem sv_29 : srN 4 5 = 0 := by decide +kernel

theorem sv_30 : srN 5 0 = 0 := by decide +kernel

theorem sv_31 : srN 5 1 = 0 := by decide +kernel

theorem sv_32 : srN 5 2 = 1 := by decide +kernel

theorem sv_33 : srN 5 3 = 0 := by decide +kernel

theorem sv_34 : srN 5 4 = 0 := by decide +kernel

theorem sv_35 : srN 5 5 = -2 := by decide +kernel

end Go.Proofs.Ytogmfadeedmmaaa
