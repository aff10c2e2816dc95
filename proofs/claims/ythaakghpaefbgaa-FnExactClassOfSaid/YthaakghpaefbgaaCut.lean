/- That the equality of two classes is reflexive. No condition. -/
import Derived.Test.YthaakghpaefbgaaPure
import Derived.Deep.RegionHeld3
import Derived.Deep.DeepCutAuto
namespace Go.Proofs.Ythaakghpaefbgaa
open Go.RowKit

theorem eqB_self (x : Cls) : eqB ⟨x.d, x.a, x.b, x.c, x.e, x.f, x.g⟩ ⟨x.d, x.a, x.b, x.c, x.e, x.f, x.g⟩ = true := by simp [eqB, eqM]

end Go.Proofs.Ythaakghpaefbgaa
