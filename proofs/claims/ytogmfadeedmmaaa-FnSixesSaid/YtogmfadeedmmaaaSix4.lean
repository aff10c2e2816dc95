/- LineSix of the program and of the reference, at a list that is a six and at one that is none. Each holds for every list of at most 1048576 numbers, in whatever memory. -/
import Derived.Test.YtogmfadeedmmaaaSix3
namespace Go.Proofs.Ytogmfadeedmmaaa
open Go.RowKit
set_option linter.unusedSimpArgs false
set_option linter.unusedVariables false

theorem six_len {l : List Int} (h : sixB l = true) : l.length = 6 := by
  simp only [sixB, Bool.and_eq_true, beq_iff_eq] at h
  exact h.1
theorem iSix_no (g : Nat) (l : List Int) (hl : l.length ≤ 1048576) (hs : sixB l = false) (w : World) (h : Row w g l) :
    Calls Try.prog 44 #[.slice (some ⟨g, 0, none⟩) l.length l.length] w fun e w' => e = .returned (.tuple #[.slice none 0 0, .bool false]) ∧ Below w.heap.size w w' := by
  by_cases h6 : l.length = 6
  · have K := iSix_6 g 6 (by omega) (by unfold maxLen; omega) l h6 w h
    rw [h6]
    exact K.mono fun e w' h => by
      rcases h with ⟨h, _⟩ | ⟨_, h⟩
      · rw [hs] at h; cases h
      · exact h
  · exact (iSix_len g _ l h6 hl w).mono fun e w' h => by
      rcases h with ⟨h, _⟩ | ⟨_, h⟩
      · rw [hs] at h; cases h
      · exact h
theorem iSix_yes (g : Nat) (l : List Int) (hs : sixB l = true) (w : World) (h : Row w g l) :
    Calls Try.prog 44 #[.slice (some ⟨g, 0, none⟩) l.length l.length] w (OwnT w (linesB (fiveB l) 27)) := by
  have h6 := six_len hs
  have K := iSix_6 g 6 (by omega) (by unfold maxLen; omega) l h6 w h
  rw [h6]
  exact K.mono fun e w' h => by
    rcases h with ⟨_, h⟩ | ⟨h, _⟩
    · exact h
    · rw [hs] at h; cases h
theorem sSix_no (g : Nat) (l : List Int) (hl : l.length ≤ 1048576) (hs : sixB l = false) (w : World) (h : Row w g l) :
    Calls Try.prog 45 #[.slice (some ⟨g, 0, none⟩) l.length l.length] w fun e w' => (∃ g, e = .returned (.tuple #[.slice (some ⟨g, 0, none⟩) 0 0, .bool false])) ∧ Below w.heap.size w w' :=
  (sSix_out g _ l hl hs w h).mono fun e w' h => by
    rcases h with ⟨h, _⟩ | ⟨_, h⟩
    · rw [hs] at h; cases h
    · exact h
theorem sSix_yes (g : Nat) (l : List Int) (hs : sixB l = true) (w : World) (h : Row w g l) :
    Calls Try.prog 45 #[.slice (some ⟨g, 0, none⟩) l.length l.length] w (OwnT w (linesB (fiveB l) 27)) := by
  have h6 := six_len hs
  have K := sSix_in g 6 l h6 hs w h
  rw [h6]
  exact K.mono fun e w' h => by
    rcases h with ⟨_, h⟩ | ⟨h, _⟩
    · exact h
    · rw [hs] at h; cases h

end Go.Proofs.Ytogmfadeedmmaaa
