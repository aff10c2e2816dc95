/- Contracts of the test of words, of the turning round of lists, and of WordBack in the program and in the reference. Each holds for every list of at most 1048576 numbers, in whatever memory. -/
import Derived.Test.YthaakghpaefbgaaBox
import Derived.Test.YthaakghpaefbgaaLists
import Derived.Test.YthaakghpaefbgaaToInt
namespace Go.Proofs.Ythaakghpaefbgaa
open Go.RowKit
set_option linter.unusedSimpArgs false
set_option linter.unusedVariables false

def okW (n : Int) : Bool := inB n 0 5
def allW (l : List Int) : Bool := l.all okW
def wordB (l : List Int) : Bool := decide (l.length ≤ 60) && allW l
theorem allW_of {l : List Int} (h : ∀ i, i < l.length → okW (l.getD i 0) = true) : allW l = true := by
  rw [allW, List.all_eq_true]
  intro x hx
  obtain ⟨i, hi, rfl⟩ := List.getElem_of_mem hx
  have := h i hi
  simpa [List.getD, List.getElem?_eq_getElem hi] using this
theorem allW_not {l : List Int} {j : Nat} (hj : j < l.length) (h : okW (l.getD j 0) = false) : allW l = false := by
  cases hb : allW l
  · rfl
  · rw [allW, List.all_eq_true] at hb
    have := hb l[j] (List.getElem_mem hj)
    rw [List.getD_eq_getElem?_getD, List.getElem?_eq_getElem hj] at h
    simp only [Option.getD_some] at h
    rw [this] at h
    cases h

theorem isWordF_any (n : Int) (w : World) :
    Calls Try.prog 67 #[.int .i64 n] w fun e w' => e = .returned (.bool (!okW n)) ∧ w = w' := by
  by_cases h1 : n < 0
  · go_enter Try.func67, Try.ntmps67
    go_wp2
    go_ret
    exact ⟨ret_bool (by simp [okW, inB]; omega), rfl⟩
  · by_cases h2 : 5 < n
    · go_enter Try.func67, Try.ntmps67
      go_wp2
      go_ret
      exact ⟨ret_bool (by simp [okW, inB]; omega), rfl⟩
    · go_enter Try.func67, Try.ntmps67
      go_wp2
      go_ret
      exact ⟨ret_bool (by simp [okW, inB]; omega), rfl⟩

set_option maxHeartbeats 1000000 in
theorem indexWord_any (a : Option Addr) (cap : Nat) (l : List Int) (hl : l.length ≤ 60) (w : World) (h : Rd w a l) :
    Calls Try.prog 74 #[.slice a l.length cap, .func (.func 67) #[] #[]] w fun e w' => ∃ i : Int, e = .returned (.int .i64 i) ∧ decide (0 ≤ i) = !allW l ∧ w = w' := by
  have HR := Lib.hid h
  clear h
  go_enter Try.func74, Try.ntmps74
  go_wp2_with fail
  go_loop [8] (fun c => ∃ j : Nat, j ≤ l.length ∧ c = .int .i64 j ∧ (∀ i, i < j → okW (l.getD i 0) = true)) (fun c => l.length - (intOf c).toNat)
  case atStart => exact ⟨0, by omega, rfl, fun i hi => by omega⟩
  case round =>
    obtain ⟨j, hj, rfl, hin⟩ := hrel
    by_cases hlt : j < l.length
    · rcases HR.out with h0 | ⟨b, off, rfl, hbl, hc⟩
      · omega
      · have c0 := hc j hlt
        have b1 : (0 : Int) ≤ (j : Int) := by omega
        have b2 : (j : Int) < (l.length : Int) := by omega
        clear hc
        cases hk : okW (l.getD j 0)
        · have HA := Lib.hid (allW_not hlt hk)
          generalize l.getD j 0 = q at c0 hk
          clear hin
          go_wp2_with (go_at_call 67; ((with_reducible refine (isWordF_any _ _).mono ?_); rintro e w' ⟨rfl, rfl⟩))
          go_ret
          exact ⟨j, rfl, by rw [HA.out]; simp, rfl⟩
        · have HIN := Lib.hid (show ∀ i, i < j + 1 → okW (l.getD i 0) = true from fun i hi => by
            by_cases hij : i = j
            · subst hij; exact hk
            · exact hin i (by omega))
          generalize l.getD j 0 = q at c0 hk
          clear hin
          go_wp2_with (go_at_call 67; ((with_reducible refine (isWordF_any _ _).mono ?_); rintro e w' ⟨rfl, rfl⟩))
          go_round
          case rel => exact ⟨j + 1, by omega, by go_num, HIN.out⟩
          case measure => ((simp [intOf]) <;> omega)
    · obtain rfl : j = l.length := by omega
      have HA := Lib.hid (allW_of hin)
      clear hin
      go_wp2_with fail
      go_ret
      exact ⟨-1, rfl, by rw [HA.out]; simp, rfl⟩

theorem containsWord_any (a : Option Addr) (cap : Nat) (l : List Int) (hl : l.length ≤ 60) (w : World) (h : Rd w a l) :
    Calls Try.prog 59 #[.slice a l.length cap, .func (.func 67) #[] #[]] w fun e w' => e = .returned (.bool (!allW l)) ∧ w = w' := by
  have HR := Lib.hid h
  clear h
  go_enter Try.func59, Try.ntmps59
  go_wp2_with fail
  refine (indexWord_any a cap l hl _ HR.out).mono ?_
  rintro e w1 ⟨i, rfl, hi, rfl⟩
  have HI := Lib.hid hi
  clear hi
  go_wp2_with fail
  go_ret
  exact ⟨ret_bool HI.out, rfl⟩

theorem isWord_any (a : Option Addr) (cap : Nat) (l : List Int) (hl : l.length ≤ 1048576) (w : World) (h : Rd w a l) :
    Calls Try.prog 39 #[.slice a l.length cap] w fun e w' => e = .returned (.bool (wordB l)) ∧ w = w' := by
  by_cases h60 : l.length ≤ 60
  · have hd : (l.length : Int) ≤ (60 : Int) := by omega
    have HR := Lib.hid h
    have HW := Lib.hid (show wordB l = allW l by simp [wordB, h60])
    clear h
    go_enter Try.func39, Try.ntmps39
    go_wp2_with (go_at_call 59; ((with_reducible refine (containsWord_any a cap l h60 _ HR.out).mono ?_); rintro e w' ⟨rfl, rfl⟩))
    go_ret
    exact ⟨ret_bool (by first | (rw [HW.out]; done) | (rw [HW.out]; simp)), rfl⟩
  · have hd : ¬ ((l.length : Int) ≤ (60 : Int)) := by omega
    have HW := Lib.hid (show wordB l = false by simp [wordB, h60])
    clear h
    go_enter Try.func39, Try.ntmps39
    go_wp2_with fail
    go_ret
    exact ⟨ret_bool HW.out.symm, rfl⟩

set_option maxHeartbeats 1000000 in
theorem l3Word_any (a : Option Addr) (cap : Nat) (l : List Int) (hl : l.length ≤ 1048576) (w : World) (h : Rd w a l) :
    Calls Try.prog 38 #[.slice a l.length cap] w fun e w' => e = .returned (.bool (wordB l)) ∧ w = w' := by
  have HR := Lib.hid h
  clear h
  go_enter Try.func38, Try.ntmps38
  go_wp2_with fail
  go_loop [3] (fun c => ∃ j : Nat, j ≤ l.length ∧ c = .int .i64 j ∧ (∀ i, i < j → okW (l.getD i 0) = true)) (fun c => l.length - (intOf c).toNat)
  case atStart => exact ⟨0, by omega, rfl, fun i hi => by omega⟩
  case round =>
    obtain ⟨j, hj, rfl, hin⟩ := hrel
    by_cases hlt : j < l.length
    · rcases HR.out with h0 | ⟨b, off, rfl, hbl, hc⟩
      · omega
      · have c0 := hc j hlt
        have b1 : (0 : Int) ≤ (j : Int) := by omega
        have b2 : (j : Int) < (l.length : Int) := by omega
        clear hc
        cases hk : okW (l.getD j 0)
        · have HA := Lib.hid (show wordB l = false by simp [wordB, allW_not hlt hk])
          have hk' : inB (l.getD j 0) 0 5 = false := hk
          generalize l.getD j 0 = q at c0 hk'
          clear hin hk
          go_wp2_with (go_at_call 41; ((with_reducible refine (l6In_any _ _ _ _).mono ?_); rintro e w' ⟨rfl, rfl⟩))
          go_ret
          exact ⟨ret_bool HA.out.symm, rfl⟩
        · have HIN := Lib.hid (show ∀ i, i < j + 1 → okW (l.getD i 0) = true from fun i hi => by
            by_cases hij : i = j
            · subst hij; exact hk
            · exact hin i (by omega))
          have hk' : inB (l.getD j 0) 0 5 = true := hk
          generalize l.getD j 0 = q at c0 hk'
          clear hin hk
          go_wp2_with (go_at_call 41; ((with_reducible refine (l6In_any _ _ _ _).mono ?_); rintro e w' ⟨rfl, rfl⟩))
          go_round
          case rel => exact ⟨j + 1, by omega, by go_num, HIN.out⟩
          case measure => ((simp [intOf]) <;> omega)
    · obtain rfl : j = l.length := by omega
      have ha := allW_of hin
      clear hin
      by_cases h60 : l.length ≤ 60
      · have hd : (l.length : Int) ≤ (60 : Int) := by omega
        have HW := Lib.hid (show wordB l = true by simp [wordB, ha, h60])
        clear ha
        go_wp2_with fail
        go_ret
        exact ⟨ret_bool (by first | (rw [HW.out]; done) | (rw [HW.out]; simp; omega)), rfl⟩
      · have hd : ¬ ((l.length : Int) ≤ (60 : Int)) := by omega
        have HW := Lib.hid (show wordB l = false by simp [wordB, h60])
        clear ha
        go_wp2_with fail
        go_ret
        exact ⟨ret_bool (by first | (rw [HW.out]; done) | (rw [HW.out]; simp; omega)), rfl⟩

/-- The list with its first and last j numbers exchanged. -/
def rv (l : List Int) (j : Nat) : List Int := (List.range l.length).map fun k => if k < j ∨ l.length - 1 - k < j then l.getD (l.length - 1 - k) 0 else l.getD k 0
theorem rv_len (l : List Int) (j : Nat) : (rv l j).length = l.length := by simp [rv]
theorem rv_get (l : List Int) (j k : Nat) (h : k < l.length) : (rv l j).getD k 0 = if k < j ∨ l.length - 1 - k < j then l.getD (l.length - 1 - k) 0 else l.getD k 0 := by
  simp [rv, List.getD, List.getElem?_map, List.getElem?_range h]
theorem rv_zero (l : List Int) : rv l 0 = l := by
  apply eq_of_get (rv_len l 0)
  intro k hk
  rw [rv_len] at hk
  rw [rv_get l 0 k hk, if_neg (by omega)]
theorem rv_all (l : List Int) (j : Nat) (h : l.length ≤ 2 * j + 1) : rv l j = l.reverse := by
  apply eq_of_get (by rw [rv_len, List.length_reverse])
  intro k hk
  rw [rv_len] at hk
  rw [rv_get l j k hk]
  have e : l.reverse.getD k 0 = l.getD (l.length - 1 - k) 0 := by
    rw [List.getD_eq_getElem?_getD, List.getD_eq_getElem?_getD, List.getElem?_reverse hk]
  rw [e]
  split
  · rfl
  · next hn => rw [show l.length - 1 - k = k by omega]
theorem rv_step (l : List Int) (j : Nat) (h : 2 * j + 1 < l.length) : ((rv l j).set j (l.getD (l.length - 1 - j) 0)).set (l.length - 1 - j) (l.getD j 0) = rv l (j + 1) := by
  apply eq_of_get (by simp [rv_len])
  intro k hk
  simp only [List.length_set, rv_len] at hk
  rw [rv_get l (j + 1) k hk, List.getD_eq_getElem?_getD, List.getElem?_set]
  split
  · next e =>
    subst e
    rw [if_pos (by simp [rv_len]; omega), if_pos (by omega)]
    simp only [Option.getD_some]
    rw [show l.length - 1 - (l.length - 1 - j) = j by omega]
  · next hne =>
    rw [List.getElem?_set]
    split
    · next e =>
      subst e
      rw [if_pos (by rw [rv_len]; omega), if_pos (by omega)]
      rfl
    · next hne2 =>
      rw [← List.getD_eq_getElem?_getD, rv_get l j k hk]
      by_cases hc : k < j ∨ l.length - 1 - k < j
      · rw [if_pos hc, if_pos (by omega)]
      · rw [if_neg hc, if_neg (by omega)]
theorem rv_step' (l : List Int) (j : Nat) (h : 2 * j + 1 < l.length) : ((rv l j).set (l.length - 1 - j) (l.getD j 0)).set j (l.getD (l.length - 1 - j) 0) = rv l (j + 1) := by
  rw [← rv_step l j h, List.set_comm _ _ (by omega)]

theorem gr_dr {a w : World} {row : Option Nat} (h : a.grownBy w row) : a.grownBy w.drew row := ⟨h.os, h.tape, h.output, h.size, h.block⟩

set_option maxHeartbeats 2000000 in
theorem reverse_any (g cap : Nat) (l : List Int) (hl : l.length ≤ 1048576) (w : World) (h : Row w g l) :
    Calls Try.prog 40 #[.slice (some ⟨g, 0, none⟩) l.length cap] w fun e w' => e = .returned (.tuple #[]) ∧ Row w' g l.reverse ∧ w.grownBy w' (some g) := by
  go_enter Try.func40, Try.ntmps40
  go_wp2_with fail
  go_loopw [2, 3] (fun ci cj wr => ∃ (j : Nat) (c : Int), 2 * j ≤ l.length + 1 ∧ ci = .int .i64 j ∧ cj = .int .i64 c ∧ c = (l.length : Int) - 1 - j ∧ Row wr g (rv l j) ∧ w.grownBy wr (some g)) (fun c _ _ => l.length - (intOf c).toNat)
  case atStart => exact ⟨0, (l.length : Int) - 1, by omega, rfl, by first | rfl | go_num, by omega, by rw [rv_zero]; exact h, World.grownBy.refl _ _⟩
  case round =>
    clear h
    obtain ⟨j, c, hj, rfl, rfl, hc, hrow, hgr⟩ := hrel
    by_cases hlt : (j : Int) < c
    · obtain ⟨m, rfl⟩ : ∃ m : Nat, c = m := ⟨c.toNat, by omega⟩
      have hm : m = l.length - 1 - j := by omega
      have h2 : 2 * j + 1 < l.length := by omega
      have hrl := rv_len l j
      have c1 := hrow.cell j (by omega)
      have c2 := hrow.cell m (by omega)
      rw [rv_get l j j (by omega), if_neg (by omega)] at c1
      rw [rv_get l j m (by omega), if_neg (by omega)] at c2
      have f1 := hrow.free j
      have f2 := hrow.free m
      have hp1 := (hrow.put j (by omega) (l.getD m 0)).put m (by rw [List.length_set]; omega) (l.getD j 0)
      have hp2 := (hrow.put m (by omega) (l.getD j 0)).put j (by rw [List.length_set]; omega) (l.getD m 0)
      have e1 := rv_step l j h2
      have e2 := rv_step' l j h2
      rw [← hm] at e1 e2
      rw [e1] at hp1
      rw [e2] at hp2
      have HP1 := Lib.hid hp1
      have HP2 := Lib.hid hp2
      have b1 : (0 : Int) ≤ (j : Int) := by omega
      have b2 : (j : Int) < (l.length : Int) := by omega
      have b3 : (0 : Int) ≤ (m : Int) := by omega
      have b4 : (m : Int) < (l.length : Int) := by omega
      have hjm : ¬ (j = m) := by omega
      have hmj : ¬ (m = j) := by omega
      have HC := Lib.hid hc
      clear hp1 hp2 e1 e2 hrow hrl hm hc
      generalize l.getD j 0 = u at c1 HP1 HP2
      generalize l.getD m 0 = v at c2 HP1 HP2
      go_wp2_with fail
      go_region
      all_goals
        go_wp2_with fail
        go_roundw
        case rel => exact ⟨j + 1, (m : Int) - 1, by omega, by go_num, by first | rfl | go_num, by have := HC.out; omega, by first | exact HP1.out | exact HP2.out, by first | exact grown_set (grown_set hgr _ _) _ _ | exact gr_dr (grown_set (grown_set hgr _ _) _ _)⟩
        case measure => ((simp [intOf]) <;> omega)
    · have hr := rv_all l j (by omega)
      rw [hr] at hrow
      have hd : decide ((j : Int) < c) = false := by simp; omega
      go_wp2_with fail
      refine bodyPost_end (v := .tuple #[]) (by simp [results, Try.results40, go_sem]) rfl ⟨rfl, hrow, hgr⟩

theorem rev_step {L : List Int} {m : Nat} (h : m < L.length) : (L.drop m).reverse = (L.drop (m + 1)).reverse ++ [L.getD m 0] := by
  rw [List.drop_eq_getElem_cons h, List.reverse_cons]
  simp [List.getD, List.getElem?_eq_getElem h]
theorem owns_e1 {w : World} {t : TypeId} {k B : Nat} (hk : k = w.heap.size) (hB : B ≤ k) : (w.alloc (.cells #[] t)).ownsRow B t 1 (.slice (some ⟨k, 0, none⟩) 0 0) 0 [] := by
  subst hk
  exact World.ownsRow_made w #[] 0 hB (by unfold maxLen; omega) rfl
theorem owns_app' {w' : World} {B : Nat} {v' : Value} {l : List Int} {k : Int} (ho : w'.ownsRow B 3 1 v' (l.length + 1) (ivs l ++ [.int .i64 k])) :
    w'.ownsRow B 3 1 v' (l ++ [k]).length (ivs (l ++ [k])) := by
  rw [iv_snoc, List.length_append]
  exact ho
theorem ivs_one (l : List Int) : ∀ u ∈ ivs l, u.oneCell' = true := by
  intro u hu
  simp only [ivs, List.mem_map] at hu
  obtain ⟨x, _, rfl⟩ := hu
  rfl
theorem Row.news {w : World} {g : Nat} {l : List Int} (h : Row w g l) : ∀ j u, (ivs l)[j]? = some u → w.cell? ((⟨g, 0, none⟩ : Addr).add j) = some u := by
  intro j u hu
  have hj : j < l.length := by
    have := (List.getElem?_eq_some_iff.1 hu).1
    simpa [ivs] using this
  rw [Addr.add_lit, Nat.zero_add, h.cell j hj]
  simp [ivs, List.getElem?_map, List.getElem?_eq_getElem hj] at hu
  simp [List.getD, List.getElem?_eq_getElem hj, hu]

/-- A list in a new row, and true. -/
def OwnW (w : World) (M : List Int) (e : Ending) (w' : World) : Prop := ∃ g cap, e = .returned (.tuple #[.slice (some ⟨g, 0, none⟩) M.length cap, .bool true]) ∧ w.heap.size ≤ g ∧ Row w' g M ∧ Below w.heap.size w w'

theorem iWordBack_out (a : Option Addr) (cap : Nat) (l : List Int) (hl : l.length ≤ 1048576) (hw : wordB l = false) (w : World) (h : Rd w a l) :
    Calls Try.prog 14 #[.slice a l.length cap] w fun e w' => e = .returned (.tuple #[.slice none 0 0, .bool false]) ∧ Below w.heap.size w w' := by
  have HR := Lib.hid h
  clear h
  go_enter Try.func14, Try.ntmps14
  go_wp2_with (go_at_call 39; ((with_reducible refine (isWord_any a cap l hl _ HR.out).mono ?_); rintro e w' ⟨rfl, rfl⟩))
  go_ret2
  exact ⟨rfl, by (repeat (first | (with_reducible exact Below.refl _ _) | (with_reducible refine bl_alloc ?_ ?_ _; focus (first | omega | (simp; done) | (simp; omega))) | (with_reducible refine bl_set ?_ ?_ _; focus (first | omega | (simp; done) | (simp; omega))) | (with_reducible refine Below.drew ?_) | (with_reducible refine below_drewN ?_ _) | (with_reducible refine below_step ?_ (by assumption))))⟩

theorem sWordBack_out (a : Option Addr) (cap : Nat) (l : List Int) (hl : l.length ≤ 1048576) (hw : wordB l = false) (w : World) (h : Rd w a l) :
    Calls Try.prog 12 #[.slice a l.length cap] w fun e w' => e = .returned (.tuple #[.slice (some ⟨w.heap.size, 0, none⟩) 0 0, .bool false]) ∧ Below w.heap.size w w' := by
  have HR := Lib.hid (h.alloc (.cells #[] 3))
  clear h
  go_enter Try.func12, Try.ntmps12
  go_wp2_with (go_at_call 38; ((with_reducible refine (l3Word_any a cap l hl _ HR.out).mono ?_); rintro e w' ⟨rfl, rfl⟩))
  go_ret2
  exact ⟨rfl, by (repeat (first | (with_reducible exact Below.refl _ _) | (with_reducible refine bl_alloc ?_ ?_ _; focus (first | omega | (simp; done) | (simp; omega))) | (with_reducible refine bl_set ?_ ?_ _; focus (first | omega | (simp; done) | (simp; omega))) | (with_reducible refine Below.drew ?_) | (with_reducible refine below_drewN ?_ _) | (with_reducible refine below_step ?_ (by assumption))))⟩

set_option maxHeartbeats 2000000 in
theorem iWordBack_in (g cap : Nat) (l M : List Int) (hM : M = l.reverse) (hl : l.length ≤ 1048576) (hw : wordB l = true) (w : World) (h : Row w g l) :
    Calls Try.prog 14 #[.slice (some ⟨g, 0, none⟩) l.length cap] w (OwnW w M) := by
  have hlm : M.length = l.length := by rw [hM, List.length_reverse]
  have HRW := Lib.hid h
  have hgl := h.lt
  have HM := Lib.hid hM
  clear h hM
  obtain ⟨i0, hi0, hz0, hz1, hz2⟩ := info_parts Try.info3
  go_enter Try.func14, Try.ntmps14
  go_wp2_with (first | (go_at_call 39; ((with_reducible refine (isWord_any _ cap l hl _ HRW.out.rd).mono ?_); rintro e w' ⟨rfl, rfl⟩)) | (at_builtin; refine wpList_append_own _ rfl _ _ 22 rfl w.heap.size 3 i0 (.int .i64 0) 1 8 Try.underlying22 hi0 hz0 hz1 hz2 rfl (by decide) _ _ _ rfl (owns_empty w 3) ⟨g, 0, none⟩ l.length cap (ivs l) rfl (by simp [ivs]) ((HRW.out.below ((Below.refl _ _).alloc (Nat.le_refl _) _)).news) (ivs_one l) (by unfold maxLen; omega) (by omega) ?_ ?_))
  · simp
  · intro v' w1 ho hg hn
    have hv : v' ≠ .slice none 0 0 := by first | exact hn | (intro e; have := (hn.1 e).1; cases this)
    have hb1 : Below w.heap.size w w1 := below_own (B := w.heap.size) (a := w) ((Below.refl _ _).alloc (Nat.le_refl _) _) (owns_empty w 3) hg (Nat.le_refl _) (by simp)
    have ho' : w1.ownsRow w.heap.size 3 1 v' l.length (ivs l) := by simpa using ho
    obtain ⟨g1, cap1, hv1, hg1, hr1⟩ := Row.of_owns ho' hv
    subst hv1
    clear hn hg ho ho' hv
    go_wp2_with fail
    refine (reverse_any g1 cap1 l hl _ hr1).mono ?_
    rintro e w2 ⟨rfl, hr2, hg2⟩
    have hb2 := below_mark hb1 hg2 hg1 (by have := hb1.size; omega)
    rw [← HM.out] at hr2
    clear hr1 hg2 hb1
    go_wp2_with fail
    go_ret2
    exact ⟨g1, cap1, by first | (rw [hlm]; done) | (rw [hlm]; rfl), hg1, hr2, hb2⟩

set_option maxHeartbeats 2000000 in
theorem sWordBack_in (g cap : Nat) (l M : List Int) (hM : M = l.reverse) (hl : l.length ≤ 1048576) (hw : wordB l = true) (w : World) (h : Row w g l) :
    Calls Try.prog 12 #[.slice (some ⟨g, 0, none⟩) l.length cap] w (OwnW w M) := by
  have HRW := Lib.hid h
  have hgl := h.lt
  have HM := Lib.hid hM
  clear h hM
  obtain ⟨i0, hi0, hz0, hz1, hz2⟩ := info_parts Try.info3
  go_enter Try.func12, Try.ntmps12
  go_wp2_with (go_at_call 38; ((with_reducible refine (l3Word_any _ cap l hl _ (HRW.out.rd.alloc _)).mono ?_); rintro e w' ⟨rfl, rfl⟩))
  go_loopw [4, 5] (fun v c wr => ∃ (j : Nat) (c0 : Int), j ≤ l.length ∧ c = .int .i64 c0 ∧ c0 = (j : Int) - 1 ∧ wr.ownsRow w.heap.size 3 1 v (l.drop j).reverse.length (ivs (l.drop j).reverse) ∧ v ≠ .slice none 0 0 ∧ Below w.heap.size w wr) (fun _ c _ => (intOf c + 1).toNat)
  case atStart => exact ⟨l.length, (l.length : Int) - 1, by omega, by first | rfl | go_num, rfl, by rw [List.drop_length]; exact owns_e1 rfl (Nat.le_refl _), by simp, by (repeat (first | (with_reducible exact Below.refl _ _) | (with_reducible refine bl_alloc ?_ ?_ _; focus (first | omega | (simp; done) | (simp; omega))) | (with_reducible refine bl_set ?_ ?_ _; focus (first | omega | (simp; done) | (simp; omega))) | (with_reducible refine Below.drew ?_) | (with_reducible refine below_drewN ?_ _) | (with_reducible refine below_step ?_ (by assumption))))⟩
  case round =>
    obtain ⟨j, c0, hj, rfl, hc0, hown, hvn, hb0⟩ := hrel
    by_cases hj0 : j = 0
    · subst hj0
      obtain rfl : c0 = -1 := by omega
      rw [List.drop_zero, ← HM.out] at hown
      obtain ⟨g2, cap2, hv2, hg2, hr2⟩ := Row.of_owns hown hvn
      subst hv2
      clear hown hvn hc0 hj
      go_wp2_with fail
      go_ret2
      exact ⟨g2, cap2, rfl, hg2, hr2, hb0⟩
    · obtain ⟨m, rfl⟩ : ∃ m, j = m + 1 := ⟨j - 1, by omega⟩
      obtain rfl : c0 = (m : Int) := by omega
      have hml : m < l.length := by omega
      have cm := (HRW.out.below hb0).cell m hml
      have b1 : (0 : Int) ≤ (m : Int) := by omega
      have b2 : (m : Int) < (l.length : Int) := by omega
      have hst := rev_step hml
      have hln : (l.drop (m + 1)).reverse.length ≤ 1048576 := by simp; omega
      generalize hD : (l.drop (m + 1)).reverse = D at hown hst hln
      have hsz := hb0.size
      have HV := Lib.hid hvn
      have HST := Lib.hid hst
      generalize l.getD m 0 = q at cm hst HST
      clear hvn hst hD hj0 hc0
      go_wp2_with (at_builtin; refine wpList_append_own _ rfl _ _ 22 rfl w.heap.size 3 i0 (.int .i64 0) 1 8 Try.underlying22 hi0 hz0 hz1 hz2 rfl (by decide) _ _ _ rfl (hown.alloc _) ⟨_, 0, none⟩ 1 1 [.int .i64 q] rfl rfl (new_one _ _ _) one_of (by unfold maxLen; omega) (by omega) ?_ ?_)
      · simp
        omega
      · intro v' w5 ho hg hn
        have hB5 : Below w.heap.size w w5 := below_own (B := w.heap.size) (a := w) (hb0.alloc (by omega) _) (hown.alloc _) hg (Nat.le_refl _) (by simp; omega)
        have HO := Lib.hid ho
        have HN := Lib.hid hn
        clear hn hg hown ho hb0
        go_wp2_with fail
        go_roundw
        case rel => exact ⟨m, (m : Int) - 1, by omega, by first | rfl | go_num, rfl, by rw [HST.out]; exact owns_app' HO.out, fun h => by have hnn := HN.out; have hvv := HV.out; simp_all, hB5⟩
        case measure => ((simp [intOf]) <;> omega)

end Go.Proofs.Ythaakghpaefbgaa
