/- Contracts of ClassSum in the program and in the reference. Each holds for every list of at most 1000000000 numbers, in whatever memory. -/
import Derived.Test.YtogmfadeedmmaaaBox
import Derived.Test.YtogmfadeedmmaaaLine
import Derived.Test.YtogmfadeedmmaaaLineS
import Derived.Test.YtogmfadeedmmaaaArith
import Derived.Deep.RegionHeld3
import Derived.Lib.Hide
namespace Go.Proofs.Ytogmfadeedmmaaa
open Go.RowKit
set_option linter.unusedSimpArgs false
set_option linter.unusedVariables false
attribute [local go_sem] idx_0 idx_1 idx_2 idx_3 idx_4 idx_5

theorem iClassSum_long (a : Option Addr) (cap : Nat) (l : List Int) (hl : 100 < l.length) (hl2 : l.length ≤ 1000000000) (w : World) :
    Calls Try.prog 33 #[.slice a l.length cap] w fun e w' => e = .returned (.tuple #[.agg #[.int .i64 0, .int .i64 0, .int .i64 0, .int .i64 0, .int .i64 0, .int .i64 0, .int .i64 0], .bool false]) ∧ Below w.heap.size w w' := by
  have hd : (100 : Int) < (l.length : Int) := by omega
  go_enter Try.func33, Try.ntmps33
  go_wp2_with fail
  refine bodyPost_ret (v := .tuple #[.agg #[.int .i64 0, .int .i64 0, .int .i64 0, .int .i64 0, .int .i64 0, .int .i64 0, .int .i64 0], .bool false]) (by simp [results, Try.results33, go_sem, *]) rfl ⟨rfl, ?_⟩
  (repeat (first | (with_reducible exact Below.refl _ _) | (with_reducible refine bl_alloc ?_ ?_ _; focus (first | omega | (simp; done) | (simp; omega))) | (with_reducible refine bl_set ?_ ?_ _; focus (first | omega | (simp; done) | (simp; omega))) | (with_reducible refine Below.drew ?_) | (with_reducible refine below_drewN ?_ _) | (with_reducible refine below_step ?_ (by assumption))))

theorem sClassSum_long (a : Option Addr) (cap : Nat) (l : List Int) (hl : 100 < l.length) (hl2 : l.length ≤ 1000000000) (w : World) :
    Calls Try.prog 34 #[.slice a l.length cap] w fun e w' => e = .returned (.tuple #[.agg #[.int .i64 0, .int .i64 0, .int .i64 0, .int .i64 0, .int .i64 0, .int .i64 0, .int .i64 0], .bool false]) ∧ Below w.heap.size w w' := by
  have hd : (100 : Int) < (l.length : Int) := by omega
  go_enter Try.func34, Try.ntmps34
  go_wp2_with fail
  refine bodyPost_ret (v := .tuple #[.agg #[.int .i64 0, .int .i64 0, .int .i64 0, .int .i64 0, .int .i64 0, .int .i64 0, .int .i64 0], .bool false]) (by simp [results, Try.results34, go_sem, *]) rfl ⟨rfl, ?_⟩
  (repeat (first | (with_reducible exact Below.refl _ _) | (with_reducible refine bl_alloc ?_ ?_ _; focus (first | omega | (simp; done) | (simp; omega))) | (with_reducible refine bl_set ?_ ?_ _; focus (first | omega | (simp; done) | (simp; omega))) | (with_reducible refine Below.drew ?_) | (with_reducible refine below_drewN ?_ _) | (with_reducible refine below_step ?_ (by assumption))))

set_option maxHeartbeats 4000000 in
theorem iClassSum_any (a : Option Addr) (cap : Nat) (l : List Int) (hl : l.length ≤ 100) (w : World) (h : Rd w a l) :
    Calls Try.prog 33 #[.slice a l.length cap] w fun e w' => e = .returned (.tuple #[.agg #[.int .i64 (sumR l).d, .int .i64 (sumR l).a, .int .i64 (sumR l).b, .int .i64 (sumR l).c, .int .i64 (sumR l).e, .int .i64 (sumR l).f, .int .i64 (sumR l).g], .bool (allB l)]) ∧ Below w.heap.size w w' := by
  have hd : (l.length : Int) ≤ (100 : Int) := by omega
  have HR := Lib.hid h
  clear h
  go_enter Try.func33, Try.ntmps33
  go_wp2_with fail
  go_loopw [14] (fun c wr => ∃ j : Nat, j ≤ l.length ∧ c = .int .i64 j ∧ InBox wr w.heap.size ⟨0, 0, 0, 0, 0, 0, 0⟩ ∧ InBox wr (w.heap.size + 1) (sumS l j) ∧ (∀ i, i < j → lineN (l.getD i 0) = true) ∧ Below w.heap.size w wr) (fun c _ => l.length - (intOf c).toNat)
  case atStart => exact ⟨0, by omega, rfl, (box_new w 0 0 0 0 0 0 0 _ rfl).alloc _, box_new _ 0 0 0 0 0 0 0 _ (by simp), fun i hi => by omega, by (repeat (first | (with_reducible exact Below.refl _ _) | (with_reducible refine bl_alloc ?_ ?_ _; focus (first | omega | (simp; done) | (simp; omega))) | (with_reducible refine bl_set ?_ ?_ _; focus (first | omega | (simp; done) | (simp; omega))) | (with_reducible refine Below.drew ?_) | (with_reducible refine below_drewN ?_ _) | (with_reducible refine below_step ?_ (by assumption))))⟩
  case round =>
    obtain ⟨j, hj, rfl, hz, hs, hin, hb0⟩ := hrel
    have hrd := HR.out.below hb0
    have hsz := hb0.size
    have hlt2 := hs.lt
    by_cases hlj : j < l.length
    · rcases hrd with h0 | ⟨b, off, rfl, hbl, hc⟩
      · omega
      · have cj := hc j hlj
        have b1 : (0 : Int) ≤ (j : Int) := by omega
        have b2 : (j : Int) < (l.length : Int) := by omega
        cases hk : lineN (l.getD j 0)
        · have hk' : inB (l.getD j 0) 0 26 = false := hk
          have HA := Lib.hid (allB_not hlj hk)
          generalize l.getD j 0 = q at cj hk'
          have d0 := hz.c 0
          have g0 := hz.f 0
          have d1 := hz.c 1
          have g1 := hz.f 1
          have d2 := hz.c 2
          have g2 := hz.f 2
          have d3 := hz.c 3
          have g3 := hz.f 3
          have d4 := hz.c 4
          have g4 := hz.f 4
          have d5 := hz.c 5
          have g5 := hz.f 5
          have d6 := hz.c 6
          have g6 := hz.f 6
          simp only [seven, List.getElem?_cons_zero, List.getElem?_cons_succ] at d0 d1 d2 d3 d4 d5 d6
          clear hin hc hz hs hk
          go_wp2_with (first | (go_at_call 58; ((with_reducible refine (isLine_any _ _).mono ?_); rintro e w' ⟨rfl, rfl⟩)))
          refine bodyPost_ret (v := .tuple #[.agg #[.int .i64 0, .int .i64 0, .int .i64 0, .int .i64 0, .int .i64 0, .int .i64 0, .int .i64 0], .bool false]) (by simp [results, Try.results33, go_sem, *]) rfl ⟨by rw [HA.out, sumR_f HA.out], ?_⟩
          (repeat (first | (with_reducible exact Below.refl _ _) | (with_reducible refine bl_alloc ?_ ?_ _; focus (first | omega | (simp; done) | (simp; omega))) | (with_reducible refine bl_set ?_ ?_ _; focus (first | omega | (simp; done) | (simp; omega))) | (with_reducible refine Below.drew ?_) | (with_reducible refine below_drewN ?_ _) | (with_reducible refine below_step ?_ (by assumption))))
        · obtain ⟨hkk, hke⟩ := lineN_nat hk
          have hk' : inB ((l.getD j 0).toNat : Int) 0 26 = true := by rw [hke]; exact hk
          have HIN := Lib.hid (show ∀ i, i < j + 1 → lineN (l.getD i 0) = true from fun i hi => by
            by_cases hij : i = j
            · subst hij; exact hk
            · exact hin i (by omega))
          have hst : sumS l (j + 1) = sumC (sumS l j) 1 (LC (l.getD j 0).toNat) := rfl
          rw [← hke] at cj
          generalize (l.getD j 0).toNat = kk at cj hkk hk' hst
          obtain ⟨yd, ya, yb, yc, ye, yf, yg, hy⟩ : ∃ yd ya yb yc ye yf yg : Int, sumS l j = ⟨yd, ya, yb, yc, ye, yf, yg⟩ := by cases hq : sumS l j; exact ⟨_, _, _, _, _, _, _, rfl⟩
          rw [hy] at hs hst
          have HY := Lib.hid hst
          have HC := Lib.hid hs
          have HZ := Lib.hid hz
          have ka := hs.arr
          have fa := hs.f
          clear hin hc hk hke hy hst hs hz
          go_wp2_with (first | (go_at_call 58; ((with_reducible refine (isLine_any _ _).mono ?_); rintro e w' ⟨rfl, rfl⟩)))
          go_region_with (first
            | (go_at_call 59; ((with_reducible refine (lineClass_any kk hkk _).mono ?_); rintro e w3 ⟨rfl, hb3⟩; have z3 := InBox.kept (w := wr.drew) HZ.out hb3; have s3 := InBox.kept (w := wr.drew) HC.out hb3; have hB3 := below_step hb0.drew hb3; have k3 := s3.arr; have f3 := s3.f; clear hb3))
            | (go_at_call 67; ((with_reducible refine (addTimes_any yd ya yb yc ye yf yg 1 _ _ _ _ _ _ _ _).mono ?_); rintro e w4 ⟨rfl, hb4⟩; have z4 := z3.kept hb4; have s4 := s3.kept hb4; have hB4 := below_step hB3 hb4; have k4 := s4.arr; have f4 := s4.f; clear hb4)))
          all_goals
            have HZ4 := Lib.hid z4
            have HS4 := Lib.hid s4
            clear z4 s4 z3 s3
            go_wp2_with fail
            go_roundw
            case rel => exact ⟨j + 1, by omega, by go_num, by (repeat (with_reducible refine InBox.set ?_ (by omega))); exact HZ4.out, by rw [HY.out]; exact HS4.out.put7 (sumC ⟨yd, ya, yb, yc, ye, yf, yg⟩ 1 (LC kk)), HIN.out, by (repeat (first | (with_reducible exact Below.refl _ _) | (with_reducible refine bl_alloc ?_ ?_ _; focus (first | omega | (simp; done) | (simp; omega))) | (with_reducible refine bl_set ?_ ?_ _; focus (first | omega | (simp; done) | (simp; omega))) | (with_reducible refine Below.drew ?_) | (with_reducible refine below_drewN ?_ _) | (with_reducible refine below_step ?_ (by assumption))))⟩
            case measure => simp [intOf]; omega
    · obtain rfl : j = l.length := by omega
      have hal := allB_of hin
      have hv := sumS_ok hl hin
      have hsr := sumR_t hal
      obtain ⟨yd, ya, yb, yc, ye, yf, yg, hy⟩ : ∃ yd ya yb yc ye yf yg : Int, sumS l l.length = ⟨yd, ya, yb, yc, ye, yf, yg⟩ := by cases hq : sumS l l.length; exact ⟨_, _, _, _, _, _, _, rfl⟩
      rw [hy] at hs hv hsr
      have HA := Lib.hid hal
      have HSR := Lib.hid hsr
      clear hin hal hsr hy hrd
      have K1 : ∀ W : World, Calls Try.prog 68 #[.agg #[.int .i64 yd, .int .i64 ya, .int .i64 yb, .int .i64 yc, .int .i64 ye, .int .i64 yf, .int .i64 yg]] W fun e w' => e = .returned (.tuple #[.agg #[.int .i64 yd, .int .i64 ya, .int .i64 yb, .int .i64 yc, .int .i64 ye, .int .i64 yf, .int .i64 yg], .bool true]) ∧ Below W.heap.size W w' := fun W => by
        have h := iTold_any yd ya yb yc ye yf yg W
        rw [hv, show tldC ⟨yd, ya, yb, yc, ye, yf, yg⟩ = ⟨yd, ya, yb, yc, ye, yf, yg⟩ by simp [tldC, hv]] at h
        exact h
      have ka := hs.arr
      have HZ := Lib.hid hz
      clear hv hs hz
      go_wp2_with fail
      refine (K1 _).mono ?_
      rintro e w3 ⟨rfl, hb3⟩
      have hz3 := HZ.out.kept hb3
      have hB3 := below_step hb0 hb3
      have d0 := hz3.c 0
      have g0 := hz3.f 0
      have d1 := hz3.c 1
      have g1 := hz3.f 1
      have d2 := hz3.c 2
      have g2 := hz3.f 2
      have d3 := hz3.c 3
      have g3 := hz3.f 3
      have d4 := hz3.c 4
      have g4 := hz3.f 4
      have d5 := hz3.c 5
      have g5 := hz3.f 5
      have d6 := hz3.c 6
      have g6 := hz3.f 6
      simp only [seven, List.getElem?_cons_zero, List.getElem?_cons_succ] at d0 d1 d2 d3 d4 d5 d6
      clear hz3 hb3 ka
      go_wp2_with fail
      refine bodyPost_ret (v := .tuple #[.agg #[.int .i64 yd, .int .i64 ya, .int .i64 yb, .int .i64 yc, .int .i64 ye, .int .i64 yf, .int .i64 yg], .bool true]) (by simp [results, Try.results33, go_sem, *]) rfl ⟨by rw [HA.out, HSR.out], ?_⟩
      (repeat (first | (with_reducible exact Below.refl _ _) | (with_reducible refine bl_alloc ?_ ?_ _; focus (first | omega | (simp; done) | (simp; omega))) | (with_reducible refine bl_set ?_ ?_ _; focus (first | omega | (simp; done) | (simp; omega))) | (with_reducible refine Below.drew ?_) | (with_reducible refine below_drewN ?_ _) | (with_reducible refine below_step ?_ (by assumption))))


set_option maxHeartbeats 4000000 in
theorem sClassSum_any (a : Option Addr) (cap : Nat) (l : List Int) (hl : l.length ≤ 100) (w : World) (h : Rd w a l) :
    Calls Try.prog 34 #[.slice a l.length cap] w fun e w' => e = .returned (.tuple #[.agg #[.int .i64 (sumR l).d, .int .i64 (sumR l).a, .int .i64 (sumR l).b, .int .i64 (sumR l).c, .int .i64 (sumR l).e, .int .i64 (sumR l).f, .int .i64 (sumR l).g], .bool (allB l)]) ∧ Below w.heap.size w w' := by
  have hd : (l.length : Int) ≤ (100 : Int) := by omega
  have HR := Lib.hid h
  clear h
  go_enter Try.func34, Try.ntmps34
  go_wp2_with fail
  go_loopw [5] (fun c wr => ∃ j : Nat, j ≤ l.length ∧ c = .int .i64 j ∧ InBox wr w.heap.size ⟨0, 0, 0, 0, 0, 0, 0⟩ ∧ InBox wr (w.heap.size + 1) (sumS l j) ∧ (∀ i, i < j → lineN (l.getD i 0) = true) ∧ Below w.heap.size w wr) (fun c _ => l.length - (intOf c).toNat)
  case atStart => exact ⟨0, by omega, rfl, (box_new w 0 0 0 0 0 0 0 _ rfl).alloc _, box_new _ 0 0 0 0 0 0 0 _ (by simp), fun i hi => by omega, by (repeat (first | (with_reducible exact Below.refl _ _) | (with_reducible refine bl_alloc ?_ ?_ _; focus (first | omega | (simp; done) | (simp; omega))) | (with_reducible refine bl_set ?_ ?_ _; focus (first | omega | (simp; done) | (simp; omega))) | (with_reducible refine Below.drew ?_) | (with_reducible refine below_drewN ?_ _) | (with_reducible refine below_step ?_ (by assumption))))⟩
  case round =>
    obtain ⟨j, hj, rfl, hz, hs, hin, hb0⟩ := hrel
    have hrd := HR.out.below hb0
    have hsz := hb0.size
    have hlt2 := hs.lt
    by_cases hlj : j < l.length
    · rcases hrd with h0 | ⟨b, off, rfl, hbl, hc⟩
      · omega
      · have cj := hc j hlj
        have b1 : (0 : Int) ≤ (j : Int) := by omega
        have b2 : (j : Int) < (l.length : Int) := by omega
        cases hk : lineN (l.getD j 0)
        · have hk' : inB (l.getD j 0) 0 26 = false := hk
          have HA := Lib.hid (allB_not hlj hk)
          generalize l.getD j 0 = q at cj hk'
          have d0 := hz.c 0
          have g0 := hz.f 0
          have d1 := hz.c 1
          have g1 := hz.f 1
          have d2 := hz.c 2
          have g2 := hz.f 2
          have d3 := hz.c 3
          have g3 := hz.f 3
          have d4 := hz.c 4
          have g4 := hz.f 4
          have d5 := hz.c 5
          have g5 := hz.f 5
          have d6 := hz.c 6
          have g6 := hz.f 6
          simp only [seven, List.getElem?_cons_zero, List.getElem?_cons_succ] at d0 d1 d2 d3 d4 d5 d6
          clear hin hc hz hs hk
          go_wp2_with (first | (go_at_call 52; ((with_reducible refine (l6In_any _ _ _ _).mono ?_); rintro e w' ⟨rfl, rfl⟩)))
          refine bodyPost_ret (v := .tuple #[.agg #[.int .i64 0, .int .i64 0, .int .i64 0, .int .i64 0, .int .i64 0, .int .i64 0, .int .i64 0], .bool false]) (by simp [results, Try.results34, go_sem, *]) rfl ⟨by rw [HA.out, sumR_f HA.out], ?_⟩
          (repeat (first | (with_reducible exact Below.refl _ _) | (with_reducible refine bl_alloc ?_ ?_ _; focus (first | omega | (simp; done) | (simp; omega))) | (with_reducible refine bl_set ?_ ?_ _; focus (first | omega | (simp; done) | (simp; omega))) | (with_reducible refine Below.drew ?_) | (with_reducible refine below_drewN ?_ _) | (with_reducible refine below_step ?_ (by assumption))))
        · obtain ⟨hkk, hke⟩ := lineN_nat hk
          have hk' : inB ((l.getD j 0).toNat : Int) 0 26 = true := by rw [hke]; exact hk
          have HIN := Lib.hid (show ∀ i, i < j + 1 → lineN (l.getD i 0) = true from fun i hi => by
            by_cases hij : i = j
            · subst hij; exact hk
            · exact hin i (by omega))
          have hst : sumS l (j + 1) = sumC (sumS l j) 1 (LC (l.getD j 0).toNat) := rfl
          rw [← hke] at cj
          generalize (l.getD j 0).toNat = kk at cj hkk hk' hst
          obtain ⟨yd, ya, yb, yc, ye, yf, yg, hy⟩ : ∃ yd ya yb yc ye yf yg : Int, sumS l j = ⟨yd, ya, yb, yc, ye, yf, yg⟩ := by cases hq : sumS l j; exact ⟨_, _, _, _, _, _, _, rfl⟩
          rw [hy] at hs hst
          have HY := Lib.hid hst
          have HC := Lib.hid hs
          have HZ := Lib.hid hz
          have ka := hs.arr
          have fa := hs.f
          clear hin hc hk hke hy hst hs hz
          go_wp2_with (first | (go_at_call 52; ((with_reducible refine (l6In_any _ _ _ _).mono ?_); rintro e w' ⟨rfl, rfl⟩)))
          go_region_with (first
            | (go_at_call 60; ((with_reducible refine (l1Of_any kk hkk _).mono ?_); rintro e w3 ⟨rfl, hb3⟩; have z3 := InBox.kept (w := wr.drew) HZ.out hb3; have s3 := InBox.kept (w := wr.drew) HC.out hb3; have hB3 := below_step hb0.drew hb3; have k3 := s3.arr; have f3 := s3.f; clear hb3))
            | (go_at_call 69; ((with_reducible refine (l1Sum_any yd ya yb yc ye yf yg 1 _ _ _ _ _ _ _ _).mono ?_); rintro e w4 ⟨rfl, hb4⟩; have z4 := z3.kept hb4; have s4 := s3.kept hb4; have hB4 := below_step hB3 hb4; have k4 := s4.arr; have f4 := s4.f; clear hb4)))
          all_goals
            have HZ4 := Lib.hid z4
            have HS4 := Lib.hid s4
            clear z4 s4 z3 s3
            go_wp2_with fail
            go_roundw
            case rel => exact ⟨j + 1, by omega, by go_num, by (repeat (with_reducible refine InBox.set ?_ (by omega))); exact HZ4.out, by rw [HY.out]; exact HS4.out.put7 (sumC ⟨yd, ya, yb, yc, ye, yf, yg⟩ 1 (LC kk)), HIN.out, by (repeat (first | (with_reducible exact Below.refl _ _) | (with_reducible refine bl_alloc ?_ ?_ _; focus (first | omega | (simp; done) | (simp; omega))) | (with_reducible refine bl_set ?_ ?_ _; focus (first | omega | (simp; done) | (simp; omega))) | (with_reducible refine Below.drew ?_) | (with_reducible refine below_drewN ?_ _) | (with_reducible refine below_step ?_ (by assumption))))⟩
            case measure => simp [intOf]; omega
    · obtain rfl : j = l.length := by omega
      have hal := allB_of hin
      have hv := sumS_ok hl hin
      have hsr := sumR_t hal
      obtain ⟨yd, ya, yb, yc, ye, yf, yg, hy⟩ : ∃ yd ya yb yc ye yf yg : Int, sumS l l.length = ⟨yd, ya, yb, yc, ye, yf, yg⟩ := by cases hq : sumS l l.length; exact ⟨_, _, _, _, _, _, _, rfl⟩
      rw [hy] at hs hv hsr
      have HA := Lib.hid hal
      have HSR := Lib.hid hsr
      clear hin hal hsr hy hrd
      have ka := hs.arr
      have d0 := hz.c 0
      have g0 := hz.f 0
      have d1 := hz.c 1
      have g1 := hz.f 1
      have d2 := hz.c 2
      have g2 := hz.f 2
      have d3 := hz.c 3
      have g3 := hz.f 3
      have d4 := hz.c 4
      have g4 := hz.f 4
      have d5 := hz.c 5
      have g5 := hz.f 5
      have d6 := hz.c 6
      have g6 := hz.f 6
      simp only [seven, List.getElem?_cons_zero, List.getElem?_cons_succ] at d0 d1 d2 d3 d4 d5 d6
      have hne : ¬ (w.heap.size = w.heap.size + 1) := by omega
      clear hv hs hz
      go_wp2_with fail
      refine bodyPost_ret (v := .tuple #[.agg #[.int .i64 yd, .int .i64 ya, .int .i64 yb, .int .i64 yc, .int .i64 ye, .int .i64 yf, .int .i64 yg], .bool true]) (by simp [results, Try.results34, go_sem, *]) rfl ⟨by rw [HA.out, HSR.out], ?_⟩
      (repeat (first | (with_reducible exact Below.refl _ _) | (with_reducible refine bl_alloc ?_ ?_ _; focus (first | omega | (simp; done) | (simp; omega))) | (with_reducible refine bl_set ?_ ?_ _; focus (first | omega | (simp; done) | (simp; omega))) | (with_reducible refine Below.drew ?_) | (with_reducible refine below_drewN ?_ _) | (with_reducible refine below_step ?_ (by assumption))))


def sumQ (l : List Int) : Cls := if l.length ≤ 100 then sumR l else ⟨0, 0, 0, 0, 0, 0, 0⟩
def sumQB (l : List Int) : Bool := decide (l.length ≤ 100) && allB l
theorem iClassSum_q (a : Option Addr) (cap : Nat) (l : List Int) (hl : l.length ≤ 1000000000) (w : World) (h : Rd w a l) :
    Calls Try.prog 33 #[.slice a l.length cap] w fun e w' => e = .returned (.tuple #[.agg #[.int .i64 (sumQ l).d, .int .i64 (sumQ l).a, .int .i64 (sumQ l).b, .int .i64 (sumQ l).c, .int .i64 (sumQ l).e, .int .i64 (sumQ l).f, .int .i64 (sumQ l).g], .bool (sumQB l)]) ∧ Below w.heap.size w w' := by
  by_cases hn : l.length ≤ 100
  · have K := iClassSum_any a cap l hn w h
    rw [show sumR l = sumQ l by simp [sumQ, hn], show allB l = sumQB l by simp [sumQB, hn]] at K
    exact K
  · have K := iClassSum_long a cap l (by omega) hl w
    rw [show sumQ l = ⟨0, 0, 0, 0, 0, 0, 0⟩ by simp [sumQ, hn], show sumQB l = false by simp [sumQB, hn]]
    exact K
theorem sClassSum_q (a : Option Addr) (cap : Nat) (l : List Int) (hl : l.length ≤ 1000000000) (w : World) (h : Rd w a l) :
    Calls Try.prog 34 #[.slice a l.length cap] w fun e w' => e = .returned (.tuple #[.agg #[.int .i64 (sumQ l).d, .int .i64 (sumQ l).a, .int .i64 (sumQ l).b, .int .i64 (sumQ l).c, .int .i64 (sumQ l).e, .int .i64 (sumQ l).f, .int .i64 (sumQ l).g], .bool (sumQB l)]) ∧ Below w.heap.size w w' := by
  by_cases hn : l.length ≤ 100
  · have K := sClassSum_any a cap l hn w h
    rw [show sumR l = sumQ l by simp [sumQ, hn], show allB l = sumQB l by simp [sumQB, hn]] at K
    exact K
  · have K := sClassSum_long a cap l (by omega) hl w
    rw [show sumQ l = ⟨0, 0, 0, 0, 0, 0, 0⟩ by simp [sumQ, hn], show sumQB l = false by simp [sumQB, hn]]
    exact K

end Go.Proofs.Ytogmfadeedmmaaa
