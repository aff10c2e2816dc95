/- Contracts of slices.Index and slices.Contains at a list of numbers. Each holds for every list, in whatever memory. -/
import Derived.Test.YtogmfadeedmmaaaSlices
namespace Go.Proofs.Ytogmfadeedmmaaa
open Go.RowKit
set_option linter.unusedSimpArgs false
set_option linter.unusedVariables false

theorem has_at {l : List Int} {n : Int} {j : Nat} (hj : j < l.length) (h : l.getD j 0 = n) : l.contains n = true := by
  rw [List.contains_iff_mem, ← h]
  simp [List.getD, List.getElem?_eq_getElem hj]
theorem has_not {l : List Int} {n : Int} (h : ∀ j, j < l.length → l.getD j 0 ≠ n) : l.contains n = false := by
  cases hc : l.contains n
  · rfl
  · rw [List.contains_iff_mem] at hc
    obtain ⟨j, hj, e⟩ := List.getElem_of_mem hc
    have := h j hj
    simp [List.getD, List.getElem?_eq_getElem hj] at this
    exact absurd e this

set_option maxHeartbeats 1000000 in
theorem index_any (g cap : Nat) (l : List Int) (n : Int) (hl : l.length ≤ 1000000000) (w : World) (h : Row w g l) :
    Calls Try.prog 86 #[.slice (some ⟨g, 0, none⟩) l.length cap, .int .i64 n] w fun e w' => (∃ i : Int, e = .returned (.int .i64 i) ∧ decide (0 ≤ i) = l.contains n) ∧ w = w' := by
  go_enter Try.func86, Try.ntmps86
  go_wp2_with fail
  go_loop [8] (fun c => ∃ j : Nat, j ≤ l.length ∧ c = .int .i64 j ∧ Hid (∀ i, i < j → l.getD i 0 ≠ n)) (fun c => l.length - (intOf c).toNat)
  case atStart => exact ⟨0, by omega, rfl, Lib.hid (fun i hi => by omega)⟩
  case round =>
    obtain ⟨j, hj, rfl, hin⟩ := hrel
    by_cases hlt : j < l.length
    · have c0 := h.cell j hlt
      have b1 : (0 : Int) ≤ (j : Int) := by omega
      have b2 : (j : Int) < (l.length : Int) := by omega
      by_cases hq : l.getD j 0 = n
      · have HC := Lib.hid (has_at hlt hq)
        rw [hq] at c0
        clear hq
        go_wp2_with fail
        go_ret
        exact ⟨⟨j, rfl, by (have hc := HC.out; first | (rw [hc]; simp; done) | (simp at hc ⊢; exact hc) | simp_all)⟩, rfl⟩
      · have HN := Lib.hid (show ∀ i, i < j + 1 → l.getD i 0 ≠ n from fun i hi => by
          by_cases e : i = j
          · rw [e]; exact hq
          · exact hin.out i (by omega))
        have hqb : (n == l.getD j 0) = false := by simpa using (Ne.symm hq)
        clear hin hq
        generalize l.getD j 0 = q at c0 hqb
        go_wp2_with fail
        go_round
        case rel => exact ⟨j + 1, by omega, by go_num, HN⟩
        case measure => ((simp [intOf]) <;> omega)
    · obtain rfl : j = l.length := by omega
      have HC := Lib.hid (has_not hin.out)
      go_wp2_with fail
      go_ret
      exact ⟨⟨-1, rfl, by (have hc := HC.out; first | (rw [hc]; simp; done) | (simp at hc ⊢; exact hc) | simp_all)⟩, rfl⟩

theorem contains_any (g cap : Nat) (l : List Int) (n : Int) (hl : l.length ≤ 1000000000) (w : World) (h : Row w g l) :
    Calls Try.prog 72 #[.slice (some ⟨g, 0, none⟩) l.length cap, .int .i64 n] w fun e w' => e = .returned (.bool (l.contains n)) ∧ w = w' := by
  have K := Lib.hid (index_any g cap l n hl w h)
  generalize l.contains n = q at K
  clear h
  go_enter Try.func72, Try.ntmps72
  go_wp2_with fail
  refine K.out.mono ?_
  rintro e w1 ⟨⟨i, rfl, hi⟩, rfl⟩
  have HI := Lib.hid hi
  clear hi
  go_wp2_with fail
  go_ret
  exact ⟨ret_bool HI.out, rfl⟩

end Go.Proofs.Ytogmfadeedmmaaa
