/- Facts of the sixes with a line; LineSix of the program at a slice with room. No condition. -/
import Derived.Test.YtogmfadeedmmaaaGrow
import Derived.Test.YtogmfadeedmmaaaSix4
namespace Go.Proofs.Ytogmfadeedmmaaa
open Go.RowKit

theorem sxB_16 (n : Nat) (h : n < 27) : (sxB (n : Int)).length = 16 := sixes_16 n h
theorem sxB_good (n : Int) : ∀ l ∈ sxB n, sixB l = true ∧ l.contains n = true := fun l hl => ⟨sixes_good l (List.mem_filter.1 hl).1, (List.mem_filter.1 hl).2⟩
theorem iSixC_yes (g cap : Nat) (h1 : 6 ≤ cap) (h2 : cap ≤ maxLen) (l : List Int) (hs : sixB l = true) (w : World) (h : Row w g l) :
    Calls Try.prog 44 #[.slice (some ⟨g, 0, none⟩) 6 cap] w (OwnT w (linesB (fiveB l) 27)) :=
  (iSix_6 g cap h1 h2 l (six_len hs) w h).mono fun e w' h => by
    rcases h with ⟨_, h⟩ | ⟨h, _⟩
    · exact h
    · rw [hs] at h; cases h
theorem iSixC_cap (g cap : Nat) (h1 : 6 ≤ cap) (h2 : cap ≤ maxLen) (l : List Int) (hs : sixB l = true) (w : World) (h : Row w g l) :
    Calls Try.prog 44 #[.slice (some ⟨g, 0, none⟩) 6 cap] w (OwnTc w (linesB (fiveB l) 27)) :=
  (iSix_6c g cap h1 h2 l (six_len hs) w h).mono fun e w' h => by
    rcases h with ⟨_, h⟩ | ⟨h, _⟩
    · exact h
    · rw [hs] at h; cases h
theorem iSixC_no (g cap : Nat) (h1 : 6 ≤ cap) (h2 : cap ≤ maxLen) (l : List Int) (h6 : l.length = 6) (hs : sixB l = false) (w : World) (h : Row w g l) :
    Calls Try.prog 44 #[.slice (some ⟨g, 0, none⟩) 6 cap] w fun e w' => e = .returned (.tuple #[.slice none 0 0, .bool false]) ∧ Below w.heap.size w w' :=
  (iSix_6c g cap h1 h2 l h6 w h).mono fun e w' h => by
    rcases h with ⟨h, _⟩ | ⟨_, h⟩
    · rw [hs] at h; cases h
    · exact h
theorem sSixC_yes (g cap : Nat) (l : List Int) (hs : sixB l = true) (w : World) (h : Row w g l) :
    Calls Try.prog 45 #[.slice (some ⟨g, 0, none⟩) 6 cap] w (OwnT w (linesB (fiveB l) 27)) :=
  (sSix_in g cap l (six_len hs) hs w h).mono fun e w' h => by
    rcases h with ⟨_, h⟩ | ⟨h, _⟩
    · exact h
    · rw [hs] at h; cases h
theorem sSixC_no (g cap : Nat) (l : List Int) (h6 : l.length = 6) (hs : sixB l = false) (w : World) (h : Row w g l) :
    Calls Try.prog 45 #[.slice (some ⟨g, 0, none⟩) 6 cap] w fun e w' => (∃ g, e = .returned (.tuple #[.slice (some ⟨g, 0, none⟩) 0 0, .bool false])) ∧ Below w.heap.size w w' := by
  have K := sSix_out g cap l (by omega) hs w h
  rw [h6] at K
  exact K.mono fun e w' h => by
    rcases h with ⟨h, _⟩ | ⟨_, h⟩
    · rw [hs] at h; cases h
    · exact h
/-- Has the line n been met among the first k of a list? -/
def hasTo (n : Int) (l : List Int) : Nat → Bool
  | 0 => false
  | k + 1 => hasTo n l k || (l.getD k 0 == n)
theorem hasTo_mem {n : Int} {l : List Int} : ∀ k, k ≤ l.length → (hasTo n l k = true ↔ n ∈ l.take k)
  | 0, _ => by simp [hasTo]
  | k + 1, h => by
    have ih := hasTo_mem (n := n) (l := l) k (by omega)
    have hk : k < l.length := by omega
    rw [List.take_succ_eq_append_getElem hk, List.mem_append, ← ih]
    simp only [hasTo, Bool.or_eq_true, beq_iff_eq, List.mem_singleton]
    rw [show l.getD k 0 = l[k] by simp [List.getD, List.getElem?_eq_getElem hk]]
    constructor
    · rintro (h | h)
      · exact .inl h
      · exact .inr h.symm
    · rintro (h | h)
      · exact .inl h
      · exact .inr h.symm
theorem hasTo_all {n : Int} {l : List Int} (h : l.contains n = true) : hasTo n l l.length = true := by
  rw [hasTo_mem l.length (Nat.le_refl _), List.take_length]
  exact List.contains_iff_mem.1 h


/-- The other six of a double six is a six, and its other six is the first; each of its lines meets five of the first. -/
def dblB (l : List Int) : Bool := (linesB (fiveB l) 27).length == 6 && (sixB (linesB (fiveB l) 27) && (linesB (fiveB (linesB (fiveB l) 27)) 27 == l && (List.range 6).all (fun i => cntS l (ln (linesB (fiveB l) 27) i) 6 == 5)))
theorem dbl_all : ∀ l ∈ sixes, dblB l = true := by decide +kernel
theorem dbl {l : List Int} (h : sixB l = true) : (linesB (fiveB l) 27).length = 6 ∧ sixB (linesB (fiveB l) 27) = true ∧ linesB (fiveB (linesB (fiveB l) 27)) 27 = l ∧ ∀ i, i < 6 → cntS l (ln (linesB (fiveB l) 27) i) 6 = 5 := by
  have hd := dbl_all l (six_mem h)
  simp only [dblB, Bool.and_eq_true, beq_iff_eq, List.all_eq_true, List.mem_range] at hd
  exact hd

end Go.Proofs.Ytogmfadeedmmaaa
