/- The copy of a list of numbers lies in a new row. For every list of at most 1048576 numbers. -/
import Derived.Test.YthaakghpaefbgaaSlices
import Derived.Test.YthaakghpaefbgaaBase
import Derived.Test.YthaakghpaefbgaaArg
import Derived.OwnWalk
import Derived.Lib.Hide
namespace Go.Proofs.Ythaakghpaefbgaa
open Go.RowKit
set_option linter.unusedSimpArgs false
set_option linter.unusedVariables false

/-- The first j of l, then zeros: as the copy goes on. -/
def cpy (l : List Int) (j : Nat) : List Int := l.take j ++ List.replicate (l.length - j) 0
theorem cpy_len (l : List Int) (j : Nat) (h : j ≤ l.length) : (cpy l j).length = l.length := by simp [cpy]; omega
theorem cpy_succ (l : List Int) (j : Nat) (h : j < l.length) : (cpy l j).set j (l.getD j 0) = cpy l (j + 1) := by
  have hl : (l.take j).length = j := by simp; omega
  rw [cpy, cpy, List.set_append_right _ _ (by omega), hl, Nat.sub_self, show l.length - j = (l.length - (j + 1)) + 1 by omega, List.replicate_succ, List.set_cons_zero]
  rw [List.take_succ_eq_append_getElem h]
  simp only [List.getD, List.getElem?_eq_getElem h, Option.getD_some, List.append_assoc, List.cons_append, List.nil_append]
theorem cpy_all (l : List Int) : cpy l l.length = l := by simp [cpy]

theorem row_zero {w : World} {base g n : Nat} (h : w.ownsRow base 3 1 (.slice (some ⟨g, 0, none⟩) n n) n (madeCells (Value.int .i64 0).cells (n * 1)).toList) : Row w g (List.replicate n 0) := by
  rcases h.2 with ⟨h0, _⟩ | ⟨g', cap, cur, hv, hb, hg, hnc, hcm, hcs, ht⟩
  · simp at h0
  · simp only [Value.slice.injEq, Option.some.injEq, Addr.mk.injEq] at hv
    obtain ⟨⟨rfl, _⟩, _, rfl⟩ := hv
    refine ⟨cur, hg, ?_⟩
    have e : (madeCells (Value.int .i64 0).cells (n * 1)).toList = ivs (List.replicate n 0) := by
      have e1 : madeCells (Value.int .i64 0).cells (n * 1) = (Array.range n).map (fun _ => Value.int .i64 0) := by
        simp only [madeCells, Nat.mul_one]
        apply Array.map_congr_left
        intro i _
        simp [Value.cells, Nat.mod_one]
      rw [e1]
      simp [ivs, List.map_const', List.map_replicate]
    rw [List.length_replicate]
    rw [← e]
    simpa using ht

theorem ArgRow.low {k : IntKind} {w w' : World} {a : Option Addr} {n cap : Nat} {l : List Int} (h : ArgRow k w a n cap l) (hb : Below w.heap.size w w') : ArgRow k w' a n cap l := by
  obtain ⟨h1, h2, h3, h4⟩ := h
  refine ⟨h1, h2, h3, ?_⟩
  rcases h4 with h4 | ⟨b, off, ha, hbl, hc⟩
  · exact .inl h4
  · exact .inr ⟨b, off, ha, Nat.lt_of_lt_of_le hbl hb.size, fun j hj => (hb.cell (p := ⟨b, off + j, none⟩) hbl).trans (hc j hj)⟩

set_option maxHeartbeats 1000000 in
theorem toIntS_any (a : Option Addr) (n cap : Nat) (l : List Int) (hn : n ≤ 1048576) (w : World) (h : ArgRow .i64 w a n cap l) :
    Calls Try.prog 13 #[.slice a n cap] w fun e w' => ∃ g, e = .returned (.slice (some ⟨g, 0, none⟩) n n) ∧ w.heap.size ≤ g ∧ Row w' g l ∧ Below w.heap.size w w' := by
  obtain ⟨i0, hi0, hz0, hz1, hz2⟩ := info_parts Try.info3
  obtain ⟨hlen, ⟨hcn, hcm⟩, hwf, hc⟩ := h
  have hc' : n = 0 ∨ ∃ b off, a = some ⟨b, off, none⟩ ∧ b < w.heap.size ∧ ∀ j, j < n → w.cell? ⟨b, off + j, none⟩ = some (.int .i64 (l.getD j 0)) := hc
  have HC := Lib.hid hc'
  clear hc hc' hwf hcn hcm
  go_enter Try.func13, Try.ntmps13
  go_wp2_with (at_make; refine wpList_make_full _ rfl _ _ 22 rfl w.heap.size 3 i0 (.int .i64 0) 1 Try.underlying22 hi0 hz0 hz1 .i64 .i64 (n : Int) (n : Int) n rfl rfl rfl rfl (by rw [hz2]; omega) (by unfold maxLen; omega) (Nat.le_refl _) ?_; intro w1 hown hg)
  have hr0 : Row w1 w.heap.size (cpy l 0) := by
    have := row_zero hown
    simpa [cpy, hlen] using this
  have hb1 : Below w.heap.size w w1 := (Below.refl _ _).grown hg (Nat.le_refl _) (fun k hk => by cases hk)
  clear hown hg
  go_wp2_with fail
  go_loopw [4] (fun c wr => ∃ j : Nat, j ≤ n ∧ c = .int .i64 j ∧ Row wr w.heap.size (cpy l j) ∧ Below w.heap.size w wr) (fun c _ => n - (intOf c).toNat)
  case atStart => exact ⟨0, by omega, rfl, hr0, hb1⟩
  case round =>
    clear hr0 hb1
    obtain ⟨j, hj, rfl, hrow, hb0⟩ := hrel
    by_cases hlt : j < n
    · rcases HC.out with h0 | ⟨b, off, rfl, hbl, hc⟩
      · omega
      · have c0 : wr.cell? ⟨b, off + j, none⟩ = some (.int .i64 (l.getD j 0)) := (hb0.cell (p := ⟨b, off + j, none⟩) hbl).trans (hc j hlt)
        have hcl := cpy_len l j (by omega)
        have c1 := hrow.cell j (by omega)
        have c2 := hrow.free j
        have hput := hrow.put j (by omega) (l.getD j 0)
        rw [cpy_succ l j (by omega)] at hput
        have HP := Lib.hid hput
        have b1 : (0 : Int) ≤ (j : Int) := by omega
        have b2 : (j : Int) < (n : Int) := by omega
        clear hput hcl hc
        generalize l.getD j 0 = q at c0 HP
        go_wp2_with fail
        go_roundw
        case rel => exact ⟨j + 1, by omega, by go_num, HP.out, by (repeat (first | (with_reducible exact Below.refl _ _) | (with_reducible refine bl_alloc ?_ ?_ _; focus (first | omega | (simp; done) | (simp; omega))) | (with_reducible refine bl_set ?_ ?_ _; focus (first | omega | (simp; done) | (simp; omega))) | (with_reducible refine Below.drew ?_) | (with_reducible refine below_drewN ?_ _) | (with_reducible refine below_step ?_ (by assumption))))⟩
        case measure => simp [intOf]; omega
    · obtain rfl : j = n := by omega
      rw [← hlen, cpy_all] at hrow
      go_wp2_with fail
      go_ret
      exact ⟨_, rfl, Nat.le_refl _, hrow, hb0⟩

end Go.Proofs.Ythaakghpaefbgaa
