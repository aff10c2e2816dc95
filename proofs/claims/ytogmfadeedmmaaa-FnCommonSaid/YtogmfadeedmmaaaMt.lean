/- That two lines meet each other or not; the classes of lines are in their range; their products. No condition. -/
import Derived.Test.YtogmfadeedmmaaaLineMeets
import Derived.Test.YtogmfadeedmmaaaArith
import Derived.Test.YtogmfadeedmmaaaCut
namespace Go.Proofs.Ytogmfadeedmmaaa
open Go.RowKit
set_option linter.unusedSimpArgs false
set_option linter.unusedVariables false

theorem mt_all : ∀ i, i < 27 → ∀ j, j < 27 → mtB i j = mtB j i := by decide +kernel
theorem mt_sym (i j : Nat) (hi : i < 27) (hj : j < 27) : mtB i j = mtB j i := mt_all i hi j hj
theorem LC_ok' : ∀ i, i < 27 → vldB (LC i) = true := by decide +kernel
theorem LC_ok (i : Nat) (hi : i < 27) : vldB ⟨(LC i).d, (LC i).a, (LC i).b, (LC i).c, (LC i).e, (LC i).f, (LC i).g⟩ = true := LC_ok' i hi
theorem prodR_mt (i k : Nat) (hi : i < 27) (hk : k < 27) (h : mtB i k = true) :
    prodR ⟨(LC i).d, (LC i).a, (LC i).b, (LC i).c, (LC i).e, (LC i).f, (LC i).g⟩ ⟨(LC k).d, (LC k).a, (LC k).b, (LC k).c, (LC k).e, (LC k).f, (LC k).g⟩ = 1 := by
  show prodR (LC i) (LC k) = 1
  simp only [mtB, decide_eq_true_eq] at h
  simp [prodR, LC_ok' i hi, LC_ok' k hk, h]

end Go.Proofs.Ytogmfadeedmmaaa
