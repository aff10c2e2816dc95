/- The contract of the drawing of a name: for every code some text is drawn. No condition. -/
import Derived.Test.YtcejgibanmcahaaDoorNamed
import Derived.Test.YtcejgibanmcahaaDoorDraw
namespace Go.Proofs.YtcejgibanmcahaaDoor
open Go.RowKit
set_option linter.unusedSimpArgs false
set_option linter.unusedVariables false

set_option maxHeartbeats 1000000 in
theorem of_any (R : Nat) (a : Option Addr) (n cap : Nat) (l : List Int) (p : Nat) (hp : p ≤ 90000) (g : Nat) (A : Array Value) (t : TypeId) (w : World) (h : RdAt w R a n cap l p) (hg : w.heap[g]? = some (.cells A t (0, 0))) (hgR : g ≠ R) (hA : ∀ j, j < 9 → ∃ s, A[j]? = some (.string s)) :
    Calls Tryd.prog 21 #[.pointer (some ⟨R, 0, none⟩), .slice (some ⟨g, 0, none⟩) 9 9] w fun e w' => ∃ s : ByteArray, e = .returned (.string s) ∧ w.grownBy w' (some R) := by
  have hgl : g < w.heap.size := (Array.getElem?_eq_some_iff.1 hg).1
  have HA := Lib.hid hA
  have HG := Lib.hid hg
  clear hA hg
  go_enter Tryd.func21, Tryd.ntmps21
  go_wp2_with fail
  refine (pick_any R a n cap l p 9 (by omega) (by omega) (by omega) _ h).mono ?_
  rintro e w2 ⟨v, rfl, hv0, hv1, hr2, hg2⟩
  obtain ⟨j, rfl⟩ : ∃ j : Nat, v = j := ⟨v.toNat, by omega⟩
  obtain ⟨s, hs⟩ := HA.out j (by omega)
  have c : w2.cell? ⟨g, j, none⟩ = some (.string s) := (World.cell?_of_block (a := ⟨g, j, none⟩) (hg2.block g hgl (fun e => hgR (Option.some.inj e)))).trans ((cell_of_row w g j A t (0, 0) HG.out).trans hs)
  have b1 : (j : Int) < 9 := hv1
  have HG2 := Lib.hid hg2
  clear hg2 hs hr2
  go_wp2_with fail
  go_ret
  exact ⟨s, rfl, HG2.out⟩

def DrewS (w : World) (e : Ending) (w' : World) : Prop := ∃ s : ByteArray, e = .returned (.string s) ∧ Below w.heap.size w w'

set_option maxHeartbeats 2000000 in
theorem drawLineNamed_any (a : Option Addr) (n cap : Nat) (l : List Int) (w : World) (h : ArgRow .u8 w a n cap l) :
    Calls Tryd.prog 12 #[.slice a n cap] w (DrewS w) := by
  go_enter Tryd.func12, Tryd.ntmps12
  go_wp2_with fail
  refine (l6Open_any a n cap l _ h).mono ?_
  rintro e w1 ⟨n', cap', l', rfl, hr1, hb1⟩
  go_wp2_with fail
  refine (pick_any _ a n' cap' l' 0 6 (by omega) (by omega) (by omega) _ hr1).mono ?_
  rintro e w2 ⟨x, rfl, hx0, hx1, hr2, hg2⟩
  have hB2 : Below w.heap.size w w2 := hb1.grown hg2 hb1.size (fun k hk => by cases hk; omega)
  have hl2 := hr2.lt
  clear hb1 hg2 hr1
  by_cases hx : x = 0
  · subst hx
    go_wp2_with fail
    refine (of_any w.heap.size a n' cap' l' 1 (by omega) w2.heap.size _ _ _ (hr2.below ((Below.refl _ _).alloc (Nat.le_refl _) _)) (alloc_at w2 _ _ rfl) (by omega) (by
      intro j hj
      have hj' : j = 0 ∨ j = 1 ∨ j = 2 ∨ j = 3 ∨ j = 4 ∨ j = 5 ∨ j = 6 ∨ j = 7 ∨ j = 8 := by omega
      rcases hj' with rfl | rfl | rfl | rfl | rfl | rfl | rfl | rfl | rfl <;> exact ⟨_, rfl⟩)).mono ?_
    rintro e w3 ⟨s, rfl, hg3⟩
    have hB3 : Below w.heap.size w w3 := Below.grown (w := w2.alloc _) (hB2.alloc hB2.size _) hg3 (by simp; omega) (fun k hk => by cases hk; exact Nat.le_refl _)
    clear hg3 hr2
    go_wp2_with fail
    go_ret
    exact ⟨s, rfl, hB3⟩
  · have hx' : (x == 0) = false := by simpa using hx
    clear hx
    go_wp2_with fail
    refine (l91Index_any _ a n' cap' l' 1 (by omega) _ hr2).mono ?_
    rintro e w3 ⟨y, p', rfl, hy0, hy1, hp', hr3, hg3⟩
    have hB3 : Below w.heap.size w w3 := hB2.grown hg3 hB2.size (fun k hk => by cases hk; exact Nat.le_refl _)
    clear hg3 hr2 hr3
    cases hr : inB y 0 26
    · go_wp2_with fail
      refine (sLineName_out y hr _).mono ?_
      rintro e w4 ⟨rfl, hb4⟩
      have hB4 := below_step hB3 hb4
      clear hb4
      go_wp2_with fail
      go_ret
      exact ⟨_, rfl, hB4⟩
    · obtain ⟨i, rfl⟩ : ∃ k : Nat, y = k := ⟨y.toNat, by simp [inB] at hr; omega⟩
      have hi : i < 27 := by simp [inB] at hr; omega
      clear hr
      go_wp2_with fail
      refine (sLineName_in i hi _).mono ?_
      rintro e w4 ⟨rfl, hb4⟩
      have hB4 := below_step hB3 hb4
      clear hb4
      go_wp2_with fail
      go_ret
      exact ⟨_, rfl, hB4⟩

end Go.Proofs.YtcejgibanmcahaaDoor
