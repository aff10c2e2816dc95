/- What a six is, as plain functions; contracts of the closures of LineSix and of the search with them. Each holds for every list, in whatever memory. -/
import Derived.Test.YtogmfadeedmmaaaBox
import Derived.Test.YtogmfadeedmmaaaLists
import Derived.Test.YtogmfadeedmmaaaMan
import Derived.Test.YtogmfadeedmmaaaToInt
namespace Go.Proofs.Ytogmfadeedmmaaa
open Go.RowKit
set_option linter.unusedSimpArgs false
set_option linter.unusedVariables false

theorem mt_all6 : ∀ i, i < 27 → ∀ j, j < 27 → mtB i j = mtB j i := by decide +kernel
/-- The line with number j of a list. -/
def ln (l : List Int) (j : Nat) : Nat := (l.getD j 0).toNat
/-- Is none of the first j lines of l met by the line k? -/
def skewTo (l : List Int) (k : Nat) : Nat → Bool
  | 0 => true
  | j + 1 => skewTo l k j && !mtB (ln l j) k
/-- Is number j of a list a line, greater than the one ahead of it, and skew to all ahead of it? -/
def goodAt (l : List Int) (j : Nat) : Bool := lineN (l.getD j 0) && ((j == 0 || decide (l.getD (j - 1) 0 < l.getD j 0)) && skewTo l (ln l j) j)
def goodTo (l : List Int) : Nat → Bool
  | 0 => true
  | j + 1 => goodTo l j && goodAt l j
def sixB (l : List Int) : Bool := (l.length == 6) && goodTo l l.length
theorem goodTo_le {l : List Int} {j : Nat} : ∀ n, j ≤ n → goodTo l n = true → goodTo l j = true
  | 0, hj, h => by obtain rfl : j = 0 := by omega
                   exact h
  | n + 1, hj, h => by
    by_cases e : j = n + 1
    · rw [e]; exact h
    · simp only [goodTo, Bool.and_eq_true] at h
      exact goodTo_le n (by omega) h.1
theorem goodTo_at {l : List Int} {n : Nat} (h : goodTo l n = true) (j : Nat) (hj : j < n) : goodAt l j = true := by
  have := goodTo_le (j := j + 1) n (by omega) h
  simp only [goodTo, Bool.and_eq_true] at this
  exact this.2
theorem goodAt_line {l : List Int} {j : Nat} (h : goodAt l j = true) : ln l j < 27 ∧ (ln l j : Int) = l.getD j 0 := by
  simp only [goodAt, Bool.and_eq_true] at h
  exact ⟨(lineN_nat h.1).1, (lineN_nat h.1).2⟩
theorem six_bad {l : List Int} {j : Nat} (hj : j < l.length) (h : goodAt l j = false) : sixB l = false := by
  cases hb : sixB l
  · rfl
  · simp only [sixB, Bool.and_eq_true] at hb
    rw [goodTo_at hb.2 j hj] at h
    cases h

/-- How many of the first j lines of l the line k meets. -/
def cntS (l : List Int) (k : Nat) : Nat → Nat
  | 0 => 0
  | j + 1 => cntS l k j + if mtB k (ln l j) then 1 else 0
theorem cntS_le (l : List Int) (k : Nat) : ∀ j, cntS l k j ≤ j
  | 0 => Nat.le_refl _
  | j + 1 => by have := cntS_le l k j; simp only [cntS]; split <;> omega
def fiveB (l : List Int) (k : Nat) : Bool := cntS l k 6 == 5

theorem six1_any (x k : Nat) (hx : x < 27) (hk : k < 27) (b : Nat) (w : World) (hc : w.cell? ⟨b, 0, none⟩ = some (.int .i64 (k : Int))) :
    Calls Try.prog 77 #[.int .i64 (x : Int), .pointer (some ⟨b, 0, none⟩)] w fun e w' => e = .returned (.bool (mtB x k)) ∧ Below w.heap.size w w' := by
  go_enter Try.func77, Try.ntmps77
  go_wp2_with (go_at_call 62; ((with_reducible refine (meets_any _ _ hx hk _).mono ?_); rintro e w' ⟨rfl, hb⟩; have hbz := hb.size; (try simp only [World.size_alloc, World.size_drew, World.size_setCell] at hbz); (try (have k0 := fun (o : Nat) => hb.cell (p := ⟨w.heap.size, o, none⟩) (by first | (simp; done) | (simp; omega) | omega))); (try (have k1 := fun (o : Nat) => hb.cell (p := ⟨w.heap.size + 1, o, none⟩) (by first | (simp; done) | (simp; omega) | omega))); (try (have k2 := fun (o : Nat) => hb.cell (p := ⟨w.heap.size + 1 + 1, o, none⟩) (by first | (simp; done) | (simp; omega) | omega))); (try (have k3 := fun (o : Nat) => hb.cell (p := ⟨w.heap.size + 1 + 1 + 1, o, none⟩) (by first | (simp; done) | (simp; omega) | omega))); (try (have k4 := fun (o : Nat) => hb.cell (p := ⟨w.heap.size + 1 + 1 + 1 + 1, o, none⟩) (by first | (simp; done) | (simp; omega) | omega))); (try (have k5 := fun (o : Nat) => hb.cell (p := ⟨w.heap.size + 1 + 1 + 1 + 1 + 1, o, none⟩) (by first | (simp; done) | (simp; omega) | omega))); (try (have f0 := fun (o : Nat) => hb.frozen (p := ⟨w.heap.size, o, none⟩) (by first | (simp; done) | (simp; omega) | omega))); (try (have f1 := fun (o : Nat) => hb.frozen (p := ⟨w.heap.size + 1, o, none⟩) (by first | (simp; done) | (simp; omega) | omega))); (try (have f2 := fun (o : Nat) => hb.frozen (p := ⟨w.heap.size + 1 + 1, o, none⟩) (by first | (simp; done) | (simp; omega) | omega))); (try (have f3 := fun (o : Nat) => hb.frozen (p := ⟨w.heap.size + 1 + 1 + 1, o, none⟩) (by first | (simp; done) | (simp; omega) | omega))); (try (have f4 := fun (o : Nat) => hb.frozen (p := ⟨w.heap.size + 1 + 1 + 1 + 1, o, none⟩) (by first | (simp; done) | (simp; omega) | omega))); (try (have f5 := fun (o : Nat) => hb.frozen (p := ⟨w.heap.size + 1 + 1 + 1 + 1 + 1, o, none⟩) (by first | (simp; done) | (simp; omega) | omega)))))
  go_ret
  exact ⟨rfl, by (repeat (first | (with_reducible exact Below.refl _ _) | (with_reducible refine bl_alloc ?_ ?_ _; focus (first | omega | (simp; done) | (simp; omega))) | (with_reducible refine bl_set ?_ ?_ _; focus (first | omega | (simp; done) | (simp; omega))) | (with_reducible refine Below.drew ?_) | (with_reducible refine below_drewN ?_ _) | (with_reducible refine below_step ?_ (by assumption))))⟩

set_option maxHeartbeats 1000000 in
theorem indexSix_any (a : Option Addr) (n cap : Nat) (l : List Int) (k : Nat) (hk : k < 27) (b : Nat) (hn : n ≤ l.length) (hl : l.length ≤ 6) (hg : ∀ i, i < n → lineN (l.getD i 0) = true) (w : World) (h : Rd w a l) (hbw : b < w.heap.size) (hc : w.cell? ⟨b, 0, none⟩ = some (.int .i64 (k : Int))) :
    Calls Try.prog 87 #[.slice a n cap, .func (.func 77) #[] #[.pointer (some ⟨b, 0, none⟩)]] w fun e w' => ∃ i : Int, e = .returned (.int .i64 i) ∧ decide (0 ≤ i) = !skewTo l k n ∧ Below w.heap.size w w' := by
  have HR := Lib.hid h
  have HC := Lib.hid hc
  have HG := Lib.hid hg
  clear h hc hg
  go_enter Try.func87, Try.ntmps87
  go_wp2_with fail
  go_loopw [8] (fun c wr => ∃ j : Nat, j ≤ n ∧ c = .int .i64 j ∧ skewTo l k j = true ∧ Below w.heap.size w wr) (fun c _ => n - (intOf c).toNat)
  case atStart => exact ⟨0, by omega, rfl, rfl, Below.refl _ _⟩
  case round =>
    obtain ⟨j, hj, rfl, hin, hb0⟩ := hrel
    by_cases hlt : j < n
    · rcases HR.out.below hb0 with h0 | ⟨b', off, rfl, hbl, hcc⟩
      · omega
      · have c0 := hcc j (by omega)
        obtain ⟨hx, hxe⟩ := lineN_nat (HG.out j hlt)
        rw [← hxe] at c0
        have b1 : (0 : Int) ≤ (j : Int) := by omega
        have b2 : (j : Int) < (n : Int) := by omega
        have hcr : wr.cell? ⟨b, 0, none⟩ = some (.int .i64 (k : Int)) := (hb0.cell (p := ⟨b, 0, none⟩) hbw).trans HC.out
        have K := Lib.hid (fun (W : World) (h : W.cell? ⟨b, 0, none⟩ = some (.int .i64 (k : Int))) => six1_any (l.getD j 0).toNat k hx hk b W h)
        have HCR := Lib.hid hcr
        have hst : skewTo l k (j + 1) = !mtB (l.getD j 0).toNat k := by simp [skewTo, hin, ln]
        have hsk : ∀ m, j + 1 ≤ m → skewTo l k (j + 1) = false → skewTo l k m = false := by
          intro m hm hf
          induction m with
          | zero => omega
          | succ m ih =>
            by_cases e : j + 1 = m + 1
            · rw [← e]; exact hf
            · simp only [skewTo, ih (by omega), Bool.false_and]
        have HST := Lib.hid hst
        have HSK := Lib.hid hsk
        generalize (l.getD j 0).toNat = x at c0 K HST
        clear hcc hin hxe hx hcr hst hsk
        go_wp2_with fail
        refine (K.out _ HCR.out).mono ?_
        rintro e w1 ⟨rfl, hb1⟩
        have hB1 := below_step hb0 hb1
        clear hb1
        cases hm : mtB x k
        · go_wp2_with fail
          go_roundw
          case rel => exact ⟨j + 1, by omega, by go_num, by rw [HST.out, hm]; rfl, hB1⟩
          case measure => ((simp [intOf]) <;> omega)
        · go_wp2_with fail
          go_ret
          exact ⟨j, rfl, by rw [HSK.out n (by omega) (by rw [HST.out, hm]; rfl)]; simp, hB1⟩
    · obtain rfl : j = n := by omega
      have HIN := Lib.hid hin
      clear hin
      go_wp2_with fail
      go_ret
      exact ⟨-1, rfl, by rw [HIN.out]; simp, hb0⟩

theorem containsSix_any (a : Option Addr) (n cap : Nat) (l : List Int) (k : Nat) (hk : k < 27) (b : Nat) (hn : n ≤ l.length) (hl : l.length ≤ 6) (hg : ∀ i, i < n → lineN (l.getD i 0) = true) (w : World) (h : Rd w a l) (hbw : b < w.heap.size) (hc : w.cell? ⟨b, 0, none⟩ = some (.int .i64 (k : Int))) :
    Calls Try.prog 76 #[.slice a n cap, .func (.func 77) #[] #[.pointer (some ⟨b, 0, none⟩)]] w fun e w' => e = .returned (.bool (!skewTo l k n)) ∧ Below w.heap.size w w' := by
  have K := Lib.hid (indexSix_any a n cap l k hk b hn hl hg w h hbw hc)
  clear hg h hc
  go_enter Try.func76, Try.ntmps76
  go_wp2_with fail
  refine K.out.mono ?_
  rintro e w1 ⟨i, rfl, hi, hb⟩
  have HI := Lib.hid hi
  clear hi
  go_wp2_with fail
  go_ret
  exact ⟨ret_bool HI.out, hb⟩

set_option maxHeartbeats 1000000 in
theorem six2_any (g cap : Nat) (l : List Int) (hl : l.length = 6) (hg : ∀ i, i < 6 → lineN (l.getD i 0) = true) (k : Nat) (hk : k < 27) (b : Nat) (w : World) (hbw : b < w.heap.size) (hrow : Row w g l) (hc : w.cell? ⟨b, 0, none⟩ = some (.slice (some ⟨g, 0, none⟩) l.length cap)) :
    Calls Try.prog 78 #[.int .i64 (k : Int), .pointer (some ⟨b, 0, none⟩)] w fun e w' => e = .returned (.bool (fiveB l k)) ∧ Below w.heap.size w w' := by
  have HR := Lib.hid hrow
  have HG := Lib.hid hg
  clear hrow hg
  rw [hl] at hc
  go_enter Try.func78, Try.ntmps78
  go_wp2_with fail
  go_loopw [4, 9] (fun nn c wr => ∃ j : Nat, j ≤ 6 ∧ c = .int .i64 j ∧ nn = .int .i64 (cntS l k j : Nat) ∧ Below w.heap.size w wr) (fun _ c _ => 6 - (intOf c).toNat)
  case atStart => exact ⟨0, by omega, rfl, rfl, Below.refl _ _⟩
  case round =>
    obtain ⟨j, hj, rfl, rfl, hb0⟩ := hrel
    have hle := cntS_le l k j
    by_cases hlt : j < 6
    · have c0 := (HR.out.below hb0).cell j (by omega)
      obtain ⟨hx, hxe⟩ := lineN_nat (HG.out j hlt)
      rw [← hxe] at c0
      have b1 : (0 : Int) ≤ (j : Int) := by omega
      have b2 : (j : Int) < (6 : Int) := by omega
      have K := Lib.hid (fun (W : World) => meets_any k (l.getD j 0).toNat hk hx W)
      have hst : cntS l k (j + 1) = cntS l k j + if mtB k (l.getD j 0).toNat then 1 else 0 := rfl
      have HST := Lib.hid hst
      generalize (l.getD j 0).toNat = x at c0 K HST
      clear hxe hx hst
      go_wp2_with fail
      refine (K.out _).mono ?_
      rintro e w1 ⟨rfl, hb1⟩
      have hB1 := below_step hb0 hb1
      clear hb1
      cases hm : mtB k x
      · go_wp2_with fail
        go_roundw
        case rel => exact ⟨j + 1, by omega, by go_num, by rw [HST.out, hm]; first | rfl | (simp; done), hB1⟩
        case measure => ((simp [intOf]) <;> omega)
      · go_wp2_with fail
        go_roundw
        case rel => exact ⟨j + 1, by omega, by go_num, by rw [HST.out, hm]; first | rfl | go_num | (simp; done), hB1⟩
        case measure => ((simp [intOf]) <;> omega)
    · obtain rfl : j = 6 := by omega
      have HF := Lib.hid (show fiveB l k = decide (cntS l k 6 = 5) by simp [fiveB, Bool.beq_eq_decide_eq])
      generalize cntS l k 6 = q at HF hle
      go_wp2_with fail
      go_ret
      exact ⟨ret_bool (by rw [HF.out, Bool.eq_iff_iff]; simp; omega), hb0⟩

end Go.Proofs.Ytogmfadeedmmaaa
