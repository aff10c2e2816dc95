/- How many lines meet both of two lines: one where they meet, else five. No condition. -/
import Derived.Test.YtogmfadeedmmaaaCommon
import Derived.Test.YtogmfadeedmmaaaMt
namespace Go.Proofs.Ytogmfadeedmmaaa
open Go.RowKit

theorem common_all : ∀ i, i < 27 → ∀ k, k < 27 → i ≠ k → (linesB (cmB i k) 27).length = if mtB i k then 1 else 5 := by decide +kernel
theorem common_len (i k : Nat) (hi : i < 27) (hk : k < 27) (h : i ≠ k) : (linesB (cmB i k) 27).length = if mtB i k then 1 else 5 := common_all i hi k hk h

end Go.Proofs.Ytogmfadeedmmaaa
