/- The contract of LineSix in the reference: the other six of a double six in a new row, or an empty list. It holds for every list, in whatever memory. -/
import Derived.Test.YtogmfadeedmmaaaSix2
namespace Go.Proofs.Ytogmfadeedmmaaa
open Go.RowKit
set_option linter.unusedSimpArgs false
set_option linter.unusedVariables false

theorem l6In_q (n lo hi : Int) (w : World) :
    Calls Try.prog 52 #[.int .i64 n, .int .i64 lo, .int .i64 hi] w fun e w' => e = .returned (.bool (inB n lo hi)) ∧ w' = w := (l6In_any n lo hi w).mono fun e w' h => ⟨h.1, h.2.symm⟩

theorem skew_f {l : List Int} {k : Nat} {j : Nat} (h : skewTo l k j = false) : ∀ m, j ≤ m → skewTo l k m = false := by
  intro m hm
  induction m with
  | zero => obtain rfl : j = 0 := by omega
            exact h
  | succ m ih =>
    by_cases e : j = m + 1
    · rw [← e]; exact h
    · simp only [skewTo, ih (by omega), Bool.false_and]

set_option maxRecDepth 20000 in
set_option maxHeartbeats 8000000 in
theorem l2Six_any (g cap : Nat) (l : List Int) (hl : l.length ≤ 1048576) (w : World) (hrow : Row w g l) :
    Calls Try.prog 79 #[.slice (some ⟨g, 0, none⟩) l.length cap] w fun e w' => e = .returned (.bool (sixB l)) ∧ Below w.heap.size w w' := by
  have HR := Lib.hid hrow
  clear hrow
  go_enter Try.func79, Try.ntmps79
  go_wp2_with fail
  go_loopw [3] (fun c wr => ∃ j : Nat, j ≤ l.length ∧ c = .int .i64 j ∧ goodTo l j = true ∧ Below w.heap.size w wr) (fun c _ => l.length - (intOf c).toNat)
  case atStart => exact ⟨0, by omega, rfl, rfl, Below.refl _ _⟩
  case round =>
    obtain ⟨j, hj, rfl, hgood, hb0⟩ := hrel
    have hrow := HR.out.below hb0
    by_cases hlt : j < l.length
    · have cj := hrow.cell j hlt
      have b1 : (0 : Int) ≤ (j : Int) := by omega
      have b2 : (j : Int) < (l.length : Int) := by omega
      cases hk : lineN (l.getD j 0)
      · have HX := Lib.hid (six_bad hlt (show goodAt l j = false by simp only [goodAt, hk, Bool.false_and]))
        have hk' : inB (l.getD j 0) 0 26 = false := hk
        generalize l.getD j 0 = q at cj hk'
        clear hgood hk hrow
        go_wp2_with fail
        go_quiet ((go_at_call 52; exact Calls.quiet_of_same (l6In_q _ _ _ _)))
        go_wp2_with fail
        go_ret
        exact ⟨ret_bool HX.out.symm, by (repeat (first | (with_reducible exact Below.refl _ _) | (with_reducible refine bl_alloc ?_ ?_ _; focus (first | omega | (simp; done) | (simp; omega))) | (with_reducible refine bl_set ?_ ?_ _; focus (first | omega | (simp; done) | (simp; omega))) | (with_reducible refine Below.drew ?_) | (with_reducible refine below_drewN ?_ _) | (with_reducible refine below_step ?_ (by assumption))))⟩
      · obtain ⟨hkk, hke⟩ := lineN_nat hk
        have hk' : inB ((l.getD j 0).toNat : Int) 0 26 = true := by rw [hke]; exact hk
        have hin : ∀ i, i < j → ln l i < 27 ∧ (ln l i : Int) = l.getD i 0 := fun i hi => goodAt_line (goodTo_at hgood i hi)
        have HIN := Lib.hid hin
        by_cases hasc : j = 0 ∨ l.getD (j - 1) 0 < l.getD j 0
        · have GF := Lib.hid (show skewTo l (l.getD j 0).toNat j = false → goodAt l j = false from fun h => by simp only [goodAt, ln, h, Bool.and_false])
          have hpre : (j == 0 || decide (l.getD (j - 1) 0 < l.getD j 0)) = true := by
            rcases hasc with h | h
            · rw [h]; rfl
            · simp only [decide_eq_true h, Bool.or_true]
          have GT := Lib.hid (show skewTo l (l.getD j 0).toNat j = true → goodTo l (j + 1) = true from fun h => by
            rw [goodTo, hgood]
            simp only [goodAt, hk, ln, h, hpre, Bool.true_and])
          rw [← hke] at cj
          have hmid : j = 0 ∨ ∃ m : Nat, j = m + 1 ∧ wr.cell? ⟨g, m, none⟩ = some (.int .i64 (l.getD m 0)) ∧ l.getD m 0 < ((l.getD j 0).toNat : Int) := by
            rcases hasc with h | h
            · exact .inl h
            · by_cases h0 : j = 0
              · exact .inl h0
              · exact .inr ⟨j - 1, by omega, hrow.cell (j - 1) (by omega), by rw [hke]; exact h⟩
          generalize (l.getD j 0).toNat = kk at cj hkk hk' GF GT hmid
          clear hk hke hin hasc hpre hgood
          have hmain : Code.wp Try.prog (.skip) (fun _ _ _ => True) ⟨#[], []⟩ w → True := fun _ => trivial
          clear hmain
          rcases hmid with rfl | ⟨m, hjm, cm, hq⟩
          · have HT := Lib.hid (GT.out rfl)
            clear GF GT
            go_wp2_with fail
            go_quiet ((go_at_call 52; exact Calls.quiet_of_same (l6In_q _ _ _ _)))
            go_wp2_with fail
            refine wp_loop_rounds 1 ?_
            rw [rounds_succ]
            go_wp2_with fail
            go_roundw
            case rel => exact ⟨0 + 1, by omega, by first | rfl | go_num, HT.out, by (repeat (first | (with_reducible exact Below.refl _ _) | (with_reducible refine bl_alloc ?_ ?_ _; focus (first | omega | (simp; done) | (simp; omega))) | (with_reducible refine bl_set ?_ ?_ _; focus (first | omega | (simp; done) | (simp; omega))) | (with_reducible refine Below.drew ?_) | (with_reducible refine below_drewN ?_ _) | (with_reducible refine below_step ?_ (by assumption))))⟩
            case measure => ((simp [intOf]) <;> omega)
          · generalize l.getD m 0 = q at cm hq
            have b7 : (0 : Int) < (j : Int) := by omega
            have b8 : IntKind.i64.wrap ((j : Int) - 1) = (m : Int) := by rw [IntWalk.i64_in _ (by omega)]; omega
            have b9 : (j : Int) - 1 = (m : Int) := by omega
            have b10 : IntKind.i64.wrap (m : Int) = (m : Int) := IntWalk.i64_in _ (by omega)
            have b11 : 0 < j := by omega
            have b12 : (0 : Int) ≤ (m : Int) := by omega
            have b13 : (m : Int) < (l.length : Int) := by omega
            have hd1 : decide ((0 : Int) < (j : Int)) = true := by simp; omega
            have hdj : decide ((j : Int) < (l.length : Int)) = true := by simp; omega
            have hd2 : ¬ ((kk : Int) ≤ q) := by omega
            have hd3 : decide ((kk : Int) ≤ q) = false := by simp; omega
            have KQ : Hid (∀ W : World, Calls Try.prog 52 #[.int .i64 (kk : Int), .int .i64 0, .int .i64 26] W fun e w' => e = .returned (.bool true) ∧ w' = W) := Lib.hid (fun W => by
              have h := l6In_q (kk : Int) 0 26 W
              rw [hk'] at h
              exact h)
            clear hjm
            go_wp2_with fail
            go_quiet ((go_at_call 52; exact Calls.quiet_of_same (KQ.out _)))
            go_wp2_with fail
            go_loopw [4] (fun c wr2 => ∃ i : Nat, i ≤ j ∧ c = .int .i64 i ∧ skewTo l kk i = true ∧ Row wr2 g l ∧ wr2.cell? ⟨g, j, none⟩ = some (.int .i64 (kk : Int)) ∧ Below w.heap.size w wr2) (fun c _ => j - (intOf c).toNat)
            case atStart => exact ⟨0, by omega, rfl, rfl, hrow.below (by (repeat (first | (with_reducible exact Below.refl _ _) | (with_reducible refine bl_alloc ?_ ?_ _; focus (first | omega | (simp; done) | (simp; omega))) | (with_reducible refine bl_set ?_ ?_ _; focus (first | omega | (simp; done) | (simp; omega))) | (with_reducible refine Below.drew ?_) | (with_reducible refine below_drewN ?_ _) | (with_reducible refine below_step ?_ (by assumption))))), cj, by (repeat (first | (with_reducible exact Below.refl _ _) | (with_reducible refine bl_alloc ?_ ?_ _; focus (first | omega | (simp; done) | (simp; omega))) | (with_reducible refine bl_set ?_ ?_ _; focus (first | omega | (simp; done) | (simp; omega))) | (with_reducible refine Below.drew ?_) | (with_reducible refine below_drewN ?_ _) | (with_reducible refine below_step ?_ (by assumption))))⟩
            case round =>
              clear hrow cj cm hb0
              obtain ⟨i, hi, rfl, hsk, hrow, cj, hb0⟩ := hrel
              by_cases hlti : i < j
              · obtain ⟨hx, hxe⟩ := HIN.out i hlti
                have ci := hrow.cell i (by omega)
                rw [← hxe] at ci
                have hst : skewTo l kk (i + 1) = !mtB (ln l i) kk := by simp [skewTo, hsk]
                have hsy : mtB kk (ln l i) = mtB (ln l i) kk := mt_all6 kk hkk (ln l i) hx
                have HST := Lib.hid hst
                have HSY := Lib.hid hsy
                have b14 : (0 : Int) ≤ (i : Int) := by omega
                have b15 : (i : Int) < (l.length : Int) := by omega
                have K := Lib.hid (fun W : World => l2Meets_any kk (ln l i) hkk hx W)
                have HCJ := Lib.hid cj
                generalize ln l i = x at ci HST HSY K
                have HCI := Lib.hid ci
                have HRW := Lib.hid hrow
                clear hxe hx hst hsy hsk
                cases hm : mtB x kk
                · go_wp2_with fail
                  go_region_held3 (fun w' => w'.cell? ⟨g, j, none⟩ = some (.int .i64 (kk : Int)) ∧ w'.cell? ⟨g, i, none⟩ = some (.int .i64 (x : Int))) ((refine ⟨?_, ?_⟩ <;> (first | (simp [go_sem, *]; done) | assumption | (rw [hbc _ _ (by first | omega | (simp; omega))]; first | assumption | (simp [go_sem, *]; done))))) ((go_at_call 63; ((with_reducible refine (K.out _).mono ?_); rintro e w3 ⟨rfl, hb3⟩; obtain ⟨hbc, hbf⟩ := bcell hb3; have hgl := HRW.out.lt)))
                  all_goals
                    have hB3 := below_step (Below.drew hb0) hb3
                    have hr3 : Row w3 g l := Row.below (w := wr.drew) HRW.out hb3
                    have hc3 : w3.cell? ⟨g, j, none⟩ = some (.int .i64 (kk : Int)) := (hbc g j hgl).trans HCJ.out
                    rw [HSY.out, hm]
                    clear hbc hbf hb3
                    go_wp2_with fail
                    go_roundw
                    case rel =>
                      first
                        | exact ⟨i + 1, by omega, by go_num, by rw [HST.out, hm]; rfl, hr3, hc3, hB3⟩
                        | ((repeat apply Exists.intro); (refine ⟨?_, rfl⟩); exact ⟨i + 1, by omega, by go_num, by rw [HST.out, hm]; rfl, hr3, hc3, hB3⟩)
                    case measure => ((simp [intOf]) <;> omega)
                · have HX := Lib.hid (six_bad hlt (GF.out (skew_f (show skewTo l kk (i + 1) = false by rw [HST.out, hm]; rfl) j (by omega))))
                  go_wp2_with fail
                  go_region_held3 (fun w' => w'.cell? ⟨g, j, none⟩ = some (.int .i64 (kk : Int)) ∧ w'.cell? ⟨g, i, none⟩ = some (.int .i64 (x : Int))) ((refine ⟨?_, ?_⟩ <;> (first | (simp [go_sem, *]; done) | assumption | (rw [hbc _ _ (by first | omega | (simp; omega))]; first | assumption | (simp [go_sem, *]; done))))) ((go_at_call 63; ((with_reducible refine (K.out _).mono ?_); rintro e w3 ⟨rfl, hb3⟩; obtain ⟨hbc, hbf⟩ := bcell hb3; have hgl := HRW.out.lt)))
                  all_goals
                    have hB3 := below_step (Below.drew hb0) hb3
                    rw [HSY.out, hm]
                    clear hbc hbf hb3
                    go_wp2_with fail
                    go_ret
                    exact ⟨ret_bool HX.out.symm, hB3⟩
              · obtain rfl : i = j := by omega
                have HT := Lib.hid (GT.out hsk)
                clear GF GT hsk
                go_wp2_with fail
                go_roundw
                case rel => exact ⟨i + 1, by omega, by go_num, HT.out, hb0⟩
                case measure => ((simp [intOf]) <;> omega)
        · have hj0 : ¬ j = 0 := fun h => hasc (.inl h)
          obtain ⟨m, hjm⟩ : ∃ m, j = m + 1 := ⟨j - 1, by omega⟩
          have hge : ¬ l.getD m 0 < l.getD j 0 := fun h => hasc (.inr (by rw [show j - 1 = m by omega]; exact h))
          have HX := Lib.hid (six_bad hlt (show goodAt l j = false by
            simp only [goodAt, show j - 1 = m by omega, decide_eq_false hge, show (j == 0) = false by simpa using hj0, Bool.or_false, Bool.false_and, Bool.and_false]))
          have cm := hrow.cell m (by omega)
          rw [← hke] at cj hge
          generalize (l.getD j 0).toNat = kk at cj hkk hk' hge
          generalize l.getD m 0 = q at cm hge
          have b7 : (0 : Int) < (j : Int) := by omega
          have b8 : IntKind.i64.wrap ((j : Int) - 1) = (m : Int) := by rw [IntWalk.i64_in _ (by omega)]; omega
          have b9 : (j : Int) - 1 = (m : Int) := by omega
          have b10 : IntKind.i64.wrap (m : Int) = (m : Int) := IntWalk.i64_in _ (by omega)
          have b11 : 0 < j := by omega
          have b12 : (0 : Int) ≤ (m : Int) := by omega
          have b13 : (m : Int) < (l.length : Int) := by omega
          have hd1 : decide ((0 : Int) < (j : Int)) = true := by simp; omega
          have hd2 : (kk : Int) ≤ q := by omega
          have hd3 : decide ((kk : Int) ≤ q) = true := by simp; omega
          clear hk hke hin hrow hgood hjm hj0 hasc hge
          go_wp2_with fail
          go_quiet ((go_at_call 52; exact Calls.quiet_of_same (l6In_q _ _ _ _)))
          go_wp2_with fail
          go_ret
          exact ⟨ret_bool HX.out.symm, by (repeat (first | (with_reducible exact Below.refl _ _) | (with_reducible refine bl_alloc ?_ ?_ _; focus (first | omega | (simp; done) | (simp; omega))) | (with_reducible refine bl_set ?_ ?_ _; focus (first | omega | (simp; done) | (simp; omega))) | (with_reducible refine Below.drew ?_) | (with_reducible refine below_drewN ?_ _) | (with_reducible refine below_step ?_ (by assumption))))⟩
    · obtain rfl : j = l.length := by omega
      by_cases h6 : l.length = 6
      · have HX := Lib.hid (show sixB l = true by rw [sixB, hgood]; simp [h6])
        clear hgood hrow
        go_wp2_with fail
        go_ret
        exact ⟨ret_bool (by first | (rw [HX.out]; done) | (rw [HX.out]; simp [h6]; done)), hb0⟩
      · have HX := Lib.hid (show sixB l = false by simp only [sixB, show (l.length == 6) = false by simpa using h6, Bool.false_and])
        have hd6 : ((l.length : Int) == 6) = false := by simp; omega
        clear hgood hrow
        go_wp2_with fail
        go_ret
        exact ⟨ret_bool (by first | (rw [HX.out]; done) | (rw [HX.out]; simp; omega)), hb0⟩

def SixS (l : List Int) (w : World) (e : Ending) (w' : World) : Prop := (sixB l = true ∧ OwnT w (linesB (fiveB l) 27) e w') ∨ (sixB l = false ∧ (∃ g, e = .returned (.tuple #[.slice (some ⟨g, 0, none⟩) 0 0, .bool false])) ∧ Below w.heap.size w w')

theorem sSix_out (g cap : Nat) (l : List Int) (hl : l.length ≤ 1048576) (hs : sixB l = false) (w : World) (hrow : Row w g l) :
    Calls Try.prog 45 #[.slice (some ⟨g, 0, none⟩) l.length cap] w (SixS l w) := by
  have HS := Lib.hid hs
  have K := Lib.hid (l2Six_any g cap l hl (w.alloc (.cells #[] 3)) (hrow.below ((Below.refl _ _).alloc (Nat.le_refl _) _)))
  clear hrow
  go_enter Try.func45, Try.ntmps45
  go_wp2_with fail
  refine K.out.mono ?_
  rintro e w1 ⟨rfl, hb1⟩
  have hB : Below w.heap.size w w1 := Below.trans (b := w.alloc (.cells #[] 3)) ((Below.refl _ _).alloc (Nat.le_refl _) _) (hb1.mono (by simp))
  clear hb1
  go_wp2_with fail
  go_ret2
  exact .inr ⟨HS.out, ⟨_, rfl⟩, hB⟩

set_option maxRecDepth 20000 in
set_option maxHeartbeats 8000000 in
theorem sSix_in (g cap : Nat) (l : List Int) (h6 : l.length = 6) (hs : sixB l = true) (w : World) (hrow : Row w g l) :
    Calls Try.prog 45 #[.slice (some ⟨g, 0, none⟩) 6 cap] w (SixS l w) := by
  have HS := Lib.hid hs
  have HR := Lib.hid hrow
  have K := Lib.hid (l2Six_any g cap l (by omega) (w.alloc (.cells #[] 3)) (hrow.below ((Below.refl _ _).alloc (Nat.le_refl _) _)))
  have hgood : goodTo l 6 = true := by
    simp only [sixB, Bool.and_eq_true] at hs
    rw [h6] at hs
    exact hs.2
  have HG := Lib.hid (show ∀ i, i < 6 → ln l i < 27 ∧ (ln l i : Int) = l.getD i 0 from fun i hi => goodAt_line (goodTo_at hgood i hi))
  rw [h6] at K
  clear hrow hgood
  obtain ⟨i0, hi0, hz0, hz1, hz2⟩ := info_parts Try.info3
  go_enter Try.func45, Try.ntmps45
  go_wp2_with fail
  refine K.out.mono ?_
  rintro e w1 ⟨rfl, hb1⟩
  have hB : Below w.heap.size w w1 := Below.trans (b := w.alloc (.cells #[] 3)) ((Below.refl _ _).alloc (Nat.le_refl _) _) (hb1.mono (by simp))
  have hown1 : w1.ownsRow w.heap.size 3 1 (.slice (some ⟨w.heap.size, 0, none⟩) 0 0) 0 [] := owns_below (owns_empty w 3) hb1
  clear hb1
  go_wp2_with fail
  go_loopw [4, 5] (fun v c wr => ∃ k : Nat, k ≤ 27 ∧ c = .int .i64 k ∧ wr.ownsRow w.heap.size 3 1 v (linesB (fiveB l) k).length (ivs (linesB (fiveB l) k)) ∧ Below w.heap.size w wr ∧ v ≠ .slice none 0 0) (fun _ c _ => 27 - (intOf c).toNat)
  case atStart => exact ⟨0, by omega, rfl, hown1, hB, by simp⟩
  case round =>
    clear hown1 hB
    obtain ⟨k, hk, rfl, hown, hb0, hv⟩ := hrel
    have HV := Lib.hid hv
    clear hv
    by_cases hlt : k < 27
    · have hln := linesB_len (fiveB l) k
      have hdk : decide ((k : Int) < 27) = true := by simp; omega
      go_wp2_with fail
      go_loopw [6, 7] (fun nn c wr => ∃ (j : Nat), j ≤ 6 ∧ c = .int .i64 j ∧ nn = .int .i64 (cntS l k j : Nat) ∧ wr.ownsRow w.heap.size 3 1 _ (linesB (fiveB l) k).length (ivs (linesB (fiveB l) k)) ∧ Below w.heap.size w wr) (fun _ c _ => 6 - (intOf c).toNat)
      case atStart => exact ⟨0, by omega, rfl, rfl, hown, hb0⟩
      case round =>
        clear hown hb0
        obtain ⟨j, hj, rfl, rfl, hown, hb0⟩ := hrel
        have hle := cntS_le l k j
        by_cases hltj : j < 6
        · have cj := (HR.out.below hb0).cell j (by omega)
          obtain ⟨hx, hxe⟩ := HG.out j hltj
          rw [← hxe] at cj
          have b1 : (0 : Int) ≤ (j : Int) := by omega
          have b2 : (j : Int) < (6 : Int) := by omega
          have KM := Lib.hid (fun (W : World) => l2Meets_any k (ln l j) hlt hx W)
          have HST := Lib.hid (show cntS l k (j + 1) = cntS l k j + if mtB k (ln l j) then 1 else 0 from rfl)
          generalize ln l j = x at cj KM HST
          clear hxe hx
          go_wp2_with fail
          refine (KM.out _).mono ?_
          rintro e w3 ⟨rfl, hb3⟩
          have hB3 := below_step hb0 hb3
          have ho3 := owns_below hown hb3
          clear hb3 hown
          cases hm : mtB k x
          · go_wp2_with fail
            go_roundw
            case rel =>
              first
                | exact ⟨j + 1, by omega, by go_num, by rw [HST.out, hm]; first | rfl | (simp; done), ho3, hB3⟩
                | ((repeat apply Exists.intro); (refine ⟨?_, rfl⟩); exact ⟨j + 1, by omega, by go_num, by rw [HST.out, hm]; first | rfl | (simp; done), ho3, hB3⟩)
            case measure => ((simp [intOf]) <;> omega)
          · go_wp2_with fail
            go_roundw
            case rel =>
              first
                | exact ⟨j + 1, by omega, by go_num, by rw [HST.out, hm]; first | rfl | go_num | (simp; done), ho3, hB3⟩
                | ((repeat apply Exists.intro); (refine ⟨?_, rfl⟩); exact ⟨j + 1, by omega, by go_num, by rw [HST.out, hm]; first | rfl | go_num | (simp; done), ho3, hB3⟩)
            case measure => ((simp [intOf]) <;> omega)
        · obtain rfl : j = 6 := by omega
          have hsz := hb0.size
          by_cases h5 : cntS l k 6 = 5
          · have hm : fiveB l k = true := by simp [fiveB, h5]
            rw [h5]
            have HM := Lib.hid hm
            clear hm h5 hle
            go_wp2_with (at_builtin; refine wpList_append_own _ rfl _ _ 38 rfl w.heap.size 3 i0 (.int .i64 0) 1 8 Try.underlying38 hi0 hz0 hz1 hz2 rfl (by decide) _ _ _ rfl (hown.alloc _) ⟨_, 0, none⟩ 1 1 [.int .i64 (k : Int)] rfl rfl (new_one _ _ _) one_of (by unfold maxLen; omega) (by omega) ?_ ?_)
            · simp
              omega
            · intro v' w5 ho hg hn
              have hB5 := below_own (B := w.heap.size) (a := w) (hb0.alloc (by omega) _) (hown.alloc _) hg (Nat.le_refl _) (by simp; omega)
              have HO := Lib.hid ho
              have HN := Lib.hid hn
              clear hn hg hown ho hb0
              go_wp2_with fail
              go_roundw
              case rel =>
                first
                  | exact ⟨k + 1, by omega, by go_num, by rw [linesB_t HM.out]; exact owns_app HO.out, hB5, fun h => by have hnn := HN.out; have hvv := HV.out; simp_all⟩
                  | ((repeat apply Exists.intro); (refine ⟨?_, rfl⟩); exact ⟨k + 1, by omega, by go_num, by rw [linesB_t HM.out]; exact owns_app HO.out, hB5, fun h => by have hnn := HN.out; have hvv := HV.out; simp_all⟩)
              case measure => ((simp [intOf]) <;> omega)
          · have hm : fiveB l k = false := by simp [fiveB, h5]
            have HM := Lib.hid hm
            have h5i : ((cntS l k 6 : Nat) : Int) ≠ 5 := by omega
            have h5b : (((cntS l k 6 : Nat) : Int) == 5) = false := by simpa using h5i
            generalize cntS l k 6 = q at h5i h5b
            clear hm h5 h5i hle
            go_wp2_with fail
            go_roundw
            case rel =>
              first
                | exact ⟨k + 1, by omega, by go_num, by rw [linesB_f HM.out]; exact hown, hb0, HV.out⟩
                | ((repeat apply Exists.intro); (refine ⟨?_, rfl⟩); exact ⟨k + 1, by omega, by go_num, by rw [linesB_f HM.out]; exact hown, hb0, HV.out⟩)
            case measure => ((simp [intOf]) <;> omega)
    · obtain rfl : k = 27 := by omega
      obtain ⟨g3, cap3, hg1, hg2, hg3⟩ := Row.of_owns hown HV.out
      subst hg1
      go_wp2_with fail
      go_ret2
      exact .inl ⟨HS.out, g3, cap3, rfl, hg2, hg3, hb0⟩

end Go.Proofs.Ytogmfadeedmmaaa
