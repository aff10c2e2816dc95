/- What two lines that meet have to do with their third line; the drawing of two lines that often meet; the drawing of a list of lines. No condition. -/
import Derived.Test.YtogmfadeedmmaaaThird
import Derived.Test.YtogmfadeedmmaaaSum
import Derived.Test.YtogmfadeedmmaaaMeeting
import Derived.Test.YtogmfadeedmmaaaSame
import Derived.Test.YtogmfadeedmmaaaDraw
import Derived.Test.YtogmfadeedmmaaaLiv
namespace Go.Proofs.Ytogmfadeedmmaaa
open Go.RowKit
set_option linter.unusedSimpArgs false
set_option linter.unusedVariables false

set_option maxRecDepth 100000 in
theorem third_all : ∀ i, i < 27 → ∀ k, k < 27 → mtB i k = true → (0 ≤ thC i k ∧ thC i k < 27) ∧ mtB (thC i k).toNat i = true ∧ mtB (thC i k).toNat k = true ∧ thC (thC i k).toNat i = (k : Int) ∧ sumR [(i : Int), (k : Int), thC i k] = ⟨3, 1, 1, 1, 1, 1, 1⟩ ∧ allB [(i : Int), (k : Int), thC i k] = true := by decide +kernel
theorem third_law (i k : Nat) (hi : i < 27) (hk : k < 27) (h : mtB i k = true) : ∃ t : Nat, t < 27 ∧ thR i k = (t : Int) ∧ mtB t i = true ∧ mtB t k = true ∧ thR t i = (k : Int) ∧ sumR [(i : Int), (k : Int), (t : Int)] = ⟨3, 1, 1, 1, 1, 1, 1⟩ ∧ allB [(i : Int), (k : Int), (t : Int)] = true := by
  obtain ⟨⟨h0, h1⟩, h2, h3, h4, h5, h6⟩ := third_all i hi k hk h
  have e : ((thC i k).toNat : Int) = thC i k := by omega
  refine ⟨(thC i k).toNat, by omega, by rw [e]; simp [thR, h], h2, h3, by simp [thR, h2, h4], by rw [e]; exact h5, by rw [e]; exact h6⟩

theorem rd3 (w : World) (x y z : Int) (g : Nat) (hg : g = w.heap.size) : Rd (w.alloc (.cells #[.int .i64 x, .int .i64 y, .int .i64 z] 3)) (some ⟨g, 0, none⟩) [x, y, z] := by
  subst hg
  refine .inr ⟨_, 0, rfl, by simp, fun j hj => ?_⟩
  have hc := cell_of_row (w.alloc (.cells #[.int .i64 x, .int .i64 y, .int .i64 z] 3)) w.heap.size (0 + j) _ _ (0, 0) (alloc_at w _ _ rfl)
  rw [hc]
  have hj' : j = 0 ∨ j = 1 ∨ j = 2 := by simp at hj; omega
  rcases hj' with rfl | rfl | rfl <;> rfl
theorem cell_dr (w : World) (a : Addr) : w.drew.cell? a = w.cell? a := rfl
theorem Row.ne_rd {w : World} {g R : Nat} {l : List Int} {a : Option Addr} {n cap p : Nat} {l' : List Int} (h : Row w g l) (h' : RdAt w R a n cap l' p) : g ≠ R := by
  rintro rfl
  obtain ⟨cur, hc, _⟩ := h
  have := hc.symm.trans h'.1
  simp at this

theorem RdAt.dr {w : World} {R : Nat} {a : Option Addr} {n cap : Nat} {l : List Int} {p : Nat} (h : RdAt w R a n cap l p) : RdAt w.drew R a n cap l p := h
theorem below_rd {w w4 w5 : World} {R : Nat} (hB : Below w.heap.size w w4) (hg : w4.drew.grownBy w5 (some R)) (hR : w.heap.size ≤ R) : Below w.heap.size w w5 := Below.grown (w := w4.drew) hB.drew hg hB.size (fun k hk => by cases hk; exact hR)
theorem pick_row {i : Nat} {L : List Int} {v : Int} {w4 w5 : World} {g R : Nat} {a : Option Addr} {n cap p : Nat} {l' : List Int} (hv0 : 0 ≤ v) (hv1 : v < 10) (hlen : L.length = 10)
    (hval : ∀ x, x < 10 → ml i x < 27 ∧ L.getD x 0 = (ml i x : Int) ∧ mtB i (ml i x) = true ∧ (x = 0 ∨ ml i (x - 1) < ml i x)) (hrow : Row w4 g L) (hr : RdAt w4 R a n cap l' p) (hg : w4.drew.grownBy w5 (some R)) :
    ∃ (j : Nat) (m : Nat), v = (j : Int) ∧ (j : Int) < (L.length : Int) ∧ w5.cell? ⟨g, j, none⟩ = some (.int .i64 (m : Int)) ∧ (m : Int) ≤ 26 := by
  obtain ⟨j, rfl⟩ : ∃ j : Nat, v = j := ⟨v.toNat, by omega⟩
  obtain ⟨h27, hjv, _, _⟩ := hval j (by omega)
  have hrow5 : Row w5 g L := hrow.kept (hg.block g hrow.lt (fun e => hrow.ne_rd hr (Option.some.inj e)))
  have c := hrow5.cell j (by omega)
  rw [hjv] at c
  exact ⟨j, ml i j, rfl, by omega, c, by omega⟩

set_option maxHeartbeats 4000000 in
theorem drawLineThird_any (a : Option Addr) (n cap : Nat) (l : List Int) (w : World) (h : ArgRow .u8 w a n cap l) :
    Calls Try.prog 41 #[.slice a n cap] w (DrewTwo (fun x y => (-1 ≤ x ∧ x ≤ 27) ∧ (-1 ≤ y ∧ y ≤ 27)) w) := by
  go_enter Try.func41, Try.ntmps41
  go_wp2_with fail
  refine (l6Open_any a n cap l _ h).mono ?_
  rintro e w1 ⟨n', cap', l', rfl, hr1, hb1⟩
  go_wp2_with fail
  refine (l91Index_any _ a n' cap' l' 0 (by omega) _ hr1).mono ?_
  rintro e w2 ⟨x, p', rfl, hx0, hx1, hp', hr2, hg2⟩
  have hB2 : Below w.heap.size w w2 := hb1.grown hg2 hb1.size (fun k hk => by cases hk; omega)
  clear hb1 hr1 hg2
  cases hr : inB x 0 26
  · go_wp2_with fail
    refine (sMeeting_out x hr _).mono ?_
    rintro e w3 ⟨rfl, hb3⟩
    have hr3 := hr2.below hb3
    have hB3 := below_step hB2 hb3
    go_wp2_with fail
    refine (l91Index_any _ a n' cap' l' p' (by omega) _ hr3).mono ?_
    rintro e w4 ⟨y, p'', rfl, hy0, hy1, hp'', hr4, hg4⟩
    have hB4 : Below w.heap.size w w4 := hB3.grown hg4 hB3.size (fun k hk => by cases hk; omega)
    clear hr hr2 hr3 hb3 hB3 hB2 hg4
    go_wp2_with fail
    go_ret2
    exact ⟨x, y, rfl, ⟨⟨hx0, hx1⟩, ⟨hy0, hy1⟩⟩, hB4⟩
  · obtain ⟨i, rfl⟩ : ∃ k : Nat, x = k := ⟨x.toNat, by simp [inB] at hr; omega⟩
    have hi : i < 27 := by simp [inB] at hr; omega
    clear hr
    have hlen := ml_len i hi
    have hval := ml_val i hi
    have K := fun W : World => sMeeting_in i hi W
    generalize linesB (mtB i) 27 = L at hlen hval K
    have HV := Lib.hid hval
    have HK := Lib.hid K
    clear hval K
    go_wp2_with fail
    refine (HK.out _).mono ?_
    rintro e w3 ⟨g, cap3, rfl, hg, hrow, hb3⟩
    have hr3 := hr2.below hb3
    have hB3 := below_step hB2 hb3
    clear hr2 hB2 hb3
    go_wp2_with fail
    refine (pick_any _ a n' cap' l' p' 3 (by omega) (by omega) (by omega) _ hr3).mono ?_
    rintro e w4 ⟨u, rfl, hu0, hu1, hr4, hg4⟩
    have hB4 : Below w.heap.size w w4 := hB3.grown hg4 hB3.size (fun k hk => by cases hk; omega)
    have hrow4 : Row w4 g L := hrow.kept (hg4.block g hrow.lt (fun e => hrow.ne_rd hr3 (Option.some.inj e)))
    clear hB3 hg4 hrow hr3
    by_cases hu : 0 < u
    · have hbl : (L.length : Int) = 10 := by omega
      go_wp2_with fail
      go_region_with ((go_at_call 50; ((with_reducible refine (pick_any w.heap.size a n' cap' l' (p' + 1) 10 (by omega) (by omega) (by omega) (w4.drew) (RdAt.dr hr4)).mono ?_); rintro e w5 ⟨v, rfl, hv0, hv1, hr5, hg5⟩; obtain ⟨j, m, rfl, b1, c, hm27⟩ := pick_row hv0 hv1 hlen HV.out hrow4 hr4 hg5; have hB5 := below_rd hB4 hg5 (Nat.le_refl _))))
      all_goals
        go_wp2_with fail
        go_ret2
        exact ⟨_, _, rfl, ⟨⟨hx0, hx1⟩, ⟨by omega, by omega⟩⟩, hB5⟩
    · go_wp2_with fail
      refine (l91Index_any _ a n' cap' l' (p' + 1) (by omega) _ hr4).mono ?_
      rintro e w5 ⟨y, p'', rfl, hy0, hy1, hp'', hr5, hg5⟩
      have hB5 : Below w.heap.size w w5 := hB4.grown hg5 hB4.size (fun k hk => by cases hk; omega)
      clear hB4 hg5 hrow4 hr4
      go_wp2_with fail
      go_ret2
      exact ⟨_, y, rfl, ⟨⟨hx0, hx1⟩, ⟨hy0, hy1⟩⟩, hB5⟩

end Go.Proofs.Ytogmfadeedmmaaa
