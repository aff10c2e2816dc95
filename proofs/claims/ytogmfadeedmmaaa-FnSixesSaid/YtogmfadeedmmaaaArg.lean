/- What the walk is told of a slice of numbers that came in. No condition. -/
import Derived.Test.YtogmfadeedmmaaaRow
import Derived.ChangeOld
import Derived.Below
namespace Go.Proofs.Ytogmfadeedmmaaa
open Go.ChangeShapes Go.WideShapes Go.ChangeAt Go.RowKit
set_option linter.unusedSimpArgs false
set_option linter.unusedVariables false

theorem laidOut : laidOutB Try.prog = true := by kernel_rfl

/-- A slice of n numbers: the numbers l lie there, each fits its kind. -/
def ArgRow (k : IntKind) (w : World) (a : Option Addr) (n cap : Nat) (l : List Int) : Prop :=
  l.length = n ∧ (n ≤ cap ∧ cap ≤ maxLen) ∧ (∀ x ∈ l, (Lit.int k x).wf = true) ∧
    (n = 0 ∨ ∃ b off, a = some ⟨b, off, none⟩ ∧ b < w.heap.size ∧ ∀ j, j < n → w.cell? ⟨b, off + j, none⟩ = some (.int k (l.getD j 0)))

theorem argRow_of {k : IntKind} {w : World} {x : Addr} {len cap : Nat} {zs : List Int} (hl : len ≤ cap) (hm : cap ≤ maxLen) (hz : zs.length = cap) (hcell : ∀ i, i < zs.length → w.cell? (x.add i) = some (.int k (zs.getD i 0)))
    (hwz : ∀ n ∈ zs, (Lit.int k n).wf = true) : ArgRow k w (some x) len cap (zs.take len) := by
  refine ⟨by simp; omega, ⟨hl, hm⟩, fun y hy => hwz y (List.mem_of_mem_take hy), ?_⟩
  by_cases h0 : len = 0
  · exact .inl h0
  · obtain ⟨b, off, spot⟩ := x
    have hc := hcell 0 (by omega)
    have hspot : spot = none := by simpa [Addr.add] using World.cell?_spot hc
    subst hspot
    refine .inr ⟨b, off, rfl, ?_, fun j hj => ?_⟩
    · have := World.block_lt_of_cell? _ _ hc
      simpa [Addr.add] using this
    · have h1 := hcell j (by omega)
      rw [Addr.add_lit] at h1
      rw [h1]
      simp [List.getD, List.getElem?_take, hj]

end Go.Proofs.Ytogmfadeedmmaaa
