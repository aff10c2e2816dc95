/- The contract of LineSix in the program: the other six of a double six in a new row, or nil. It holds for every list, in whatever memory. -/
import Derived.Test.YtogmfadeedmmaaaSix
import Derived.Deep.RegionHeld3
namespace Go.Proofs.Ytogmfadeedmmaaa
open Go.RowKit
set_option linter.unusedSimpArgs false
set_option linter.unusedVariables false

theorem isLine_q (n : Int) (w : World) :
    Calls Try.prog 58 #[.int .i64 n] w fun e w' => e = .returned (.bool (inB n 0 26)) ∧ w' = w := (isLine_any n w).mono fun e w' h => ⟨h.1, h.2.symm⟩
theorem alloc_cell (w : World) (o : Obj) {b : Nat} (hb : b < w.heap.size) (i : Nat) : (w.alloc o).cell? ⟨b, i, none⟩ = w.cell? ⟨b, i, none⟩ := World.cell?_of_block (a := ⟨b, i, none⟩) (alloc_under w o b hb)

/-- A list of numbers in a new row, with its room. -/
def OwnLc (w : World) (l : List Int) (e : Ending) (w' : World) : Prop := ∃ g cap, e = .returned (.slice (some ⟨g, 0, none⟩) l.length cap) ∧ w.heap.size ≤ g ∧ Row w' g l ∧ Below w.heap.size w w' ∧ (l.length ≤ cap ∧ cap ≤ maxLen)
def OwnTc (w : World) (l : List Int) (e : Ending) (w' : World) : Prop := ∃ g cap, e = .returned (.tuple #[.slice (some ⟨g, 0, none⟩) l.length cap, .bool true]) ∧ w.heap.size ≤ g ∧ Row w' g l ∧ Below w.heap.size w w' ∧ (l.length ≤ cap ∧ cap ≤ maxLen)
theorem Row.of_owns_cap {w : World} {base : Nat} {v : Value} {l : List Int} (h : w.ownsRow base 3 1 v l.length (ivs l)) (hv : v ≠ .slice none 0 0) :
    ∃ g cap, v = .slice (some ⟨g, 0, none⟩) l.length cap ∧ base ≤ g ∧ Row w g l ∧ (l.length ≤ cap ∧ cap ≤ maxLen) := by
  rcases h.2 with ⟨h0, _⟩ | ⟨g, cap, cur, rfl, hb, hg, hnc, hcm, hcs, ht⟩
  · exact absurd h0 hv
  · exact ⟨g, cap, rfl, hb, ⟨cur, hg, by simpa using ht⟩, hnc, hcm⟩

set_option maxHeartbeats 1000000 in
theorem sixList_any (g cap : Nat) (l : List Int) (hl : l.length = 6) (hg : ∀ i, i < 6 → lineN (l.getD i 0) = true) (b : Nat) (w : World) (hbw : b < w.heap.size) (hrow : Row w g l) (hc : w.cell? ⟨b, 0, none⟩ = some (.slice (some ⟨g, 0, none⟩) l.length cap)) :
    Calls Try.prog 64 #[.func (.func 78) #[] #[.pointer (some ⟨b, 0, none⟩)]] w (OwnLc w (linesB (fiveB l) 27)) := by
  have HC := Lib.hid hc
  have HR := Lib.hid hrow
  have HG := Lib.hid hg
  clear hc hrow hg
  obtain ⟨i0, hi0, hz0, hz1, hz2⟩ := info_parts Try.info3
  go_enter Try.func64, Try.ntmps64
  go_wp2_with fail
  go_loopw [3, 6] (fun v c wr => ∃ k : Nat, k ≤ 27 ∧ c = .int .i64 k ∧ wr.ownsRow w.heap.size 3 1 v (linesB (fiveB l) k).length (ivs (linesB (fiveB l) k)) ∧ Below w.heap.size w wr ∧ v ≠ .slice none 0 0) (fun _ c _ => 27 - (intOf c).toNat)
  case atStart => exact ⟨0, by omega, rfl, owns_empty _ _, by (repeat (first | (with_reducible exact Below.refl _ _) | (with_reducible refine bl_alloc ?_ ?_ _; focus (first | omega | (simp; done) | (simp; omega))) | (with_reducible refine bl_set ?_ ?_ _; focus (first | omega | (simp; done) | (simp; omega))) | (with_reducible refine Below.drew ?_) | (with_reducible refine below_drewN ?_ _) | (with_reducible refine below_step ?_ (by assumption)))), by simp⟩
  case round =>
    obtain ⟨k, hk, rfl, hown, hb0, hv⟩ := hrel
    have HV := Lib.hid hv
    clear hv
    by_cases hlt : k < 27
    · have hln := linesB_len (fiveB l) k
      have hszr := hb0.size
      have hcr : wr.cell? ⟨b, 0, none⟩ = some (.slice (some ⟨g, 0, none⟩) l.length cap) := (hb0.cell (p := ⟨b, 0, none⟩) hbw).trans HC.out
      have K := Lib.hid (six2_any g cap l hl HG.out k hlt b wr (Nat.lt_of_lt_of_le hbw hszr) (HR.out.below hb0) hcr)
      clear hcr
      cases hm : fiveB l k
      · go_wp2_with (go_at_call 78; ((with_reducible refine (K.out).mono ?_); rintro e w' ⟨rfl, hb⟩; have hbz := hb.size; (try simp only [World.size_alloc, World.size_drew, World.size_setCell] at hbz); (try (have k0 := fun (o : Nat) => hb.cell (p := ⟨w.heap.size, o, none⟩) (by first | (simp; done) | (simp; omega) | omega))); (try (have k1 := fun (o : Nat) => hb.cell (p := ⟨w.heap.size + 1, o, none⟩) (by first | (simp; done) | (simp; omega) | omega))); (try (have k2 := fun (o : Nat) => hb.cell (p := ⟨w.heap.size + 1 + 1, o, none⟩) (by first | (simp; done) | (simp; omega) | omega))); (try (have k3 := fun (o : Nat) => hb.cell (p := ⟨w.heap.size + 1 + 1 + 1, o, none⟩) (by first | (simp; done) | (simp; omega) | omega))); (try (have k4 := fun (o : Nat) => hb.cell (p := ⟨w.heap.size + 1 + 1 + 1 + 1, o, none⟩) (by first | (simp; done) | (simp; omega) | omega))); (try (have k5 := fun (o : Nat) => hb.cell (p := ⟨w.heap.size + 1 + 1 + 1 + 1 + 1, o, none⟩) (by first | (simp; done) | (simp; omega) | omega))); (try (have f0 := fun (o : Nat) => hb.frozen (p := ⟨w.heap.size, o, none⟩) (by first | (simp; done) | (simp; omega) | omega))); (try (have f1 := fun (o : Nat) => hb.frozen (p := ⟨w.heap.size + 1, o, none⟩) (by first | (simp; done) | (simp; omega) | omega))); (try (have f2 := fun (o : Nat) => hb.frozen (p := ⟨w.heap.size + 1 + 1, o, none⟩) (by first | (simp; done) | (simp; omega) | omega))); (try (have f3 := fun (o : Nat) => hb.frozen (p := ⟨w.heap.size + 1 + 1 + 1, o, none⟩) (by first | (simp; done) | (simp; omega) | omega))); (try (have f4 := fun (o : Nat) => hb.frozen (p := ⟨w.heap.size + 1 + 1 + 1 + 1, o, none⟩) (by first | (simp; done) | (simp; omega) | omega))); (try (have f5 := fun (o : Nat) => hb.frozen (p := ⟨w.heap.size + 1 + 1 + 1 + 1 + 1, o, none⟩) (by first | (simp; done) | (simp; omega) | omega)))))
        go_roundw
        case rel => exact ⟨k + 1, by omega, by go_num, by rw [linesB_f hm]; exact owns_below hown hb, hb0.trans (hb.mono hb0.size), HV.out⟩
        case measure => simp [intOf]; omega
      · go_wp2_with (first | (go_at_call 78; ((with_reducible refine (K.out).mono ?_); rintro e w' ⟨rfl, hb⟩; have hbz := hb.size; (try simp only [World.size_alloc, World.size_drew, World.size_setCell] at hbz); (try (have k0 := fun (o : Nat) => hb.cell (p := ⟨w.heap.size, o, none⟩) (by first | (simp; done) | (simp; omega) | omega))); (try (have k1 := fun (o : Nat) => hb.cell (p := ⟨w.heap.size + 1, o, none⟩) (by first | (simp; done) | (simp; omega) | omega))); (try (have k2 := fun (o : Nat) => hb.cell (p := ⟨w.heap.size + 1 + 1, o, none⟩) (by first | (simp; done) | (simp; omega) | omega))); (try (have k3 := fun (o : Nat) => hb.cell (p := ⟨w.heap.size + 1 + 1 + 1, o, none⟩) (by first | (simp; done) | (simp; omega) | omega))); (try (have k4 := fun (o : Nat) => hb.cell (p := ⟨w.heap.size + 1 + 1 + 1 + 1, o, none⟩) (by first | (simp; done) | (simp; omega) | omega))); (try (have k5 := fun (o : Nat) => hb.cell (p := ⟨w.heap.size + 1 + 1 + 1 + 1 + 1, o, none⟩) (by first | (simp; done) | (simp; omega) | omega))); (try (have f0 := fun (o : Nat) => hb.frozen (p := ⟨w.heap.size, o, none⟩) (by first | (simp; done) | (simp; omega) | omega))); (try (have f1 := fun (o : Nat) => hb.frozen (p := ⟨w.heap.size + 1, o, none⟩) (by first | (simp; done) | (simp; omega) | omega))); (try (have f2 := fun (o : Nat) => hb.frozen (p := ⟨w.heap.size + 1 + 1, o, none⟩) (by first | (simp; done) | (simp; omega) | omega))); (try (have f3 := fun (o : Nat) => hb.frozen (p := ⟨w.heap.size + 1 + 1 + 1, o, none⟩) (by first | (simp; done) | (simp; omega) | omega))); (try (have f4 := fun (o : Nat) => hb.frozen (p := ⟨w.heap.size + 1 + 1 + 1 + 1, o, none⟩) (by first | (simp; done) | (simp; omega) | omega))); (try (have f5 := fun (o : Nat) => hb.frozen (p := ⟨w.heap.size + 1 + 1 + 1 + 1 + 1, o, none⟩) (by first | (simp; done) | (simp; omega) | omega))))) | (at_builtin; refine wpList_append_own _ rfl _ _ 38 rfl w.heap.size 3 i0 (.int .i64 0) 1 8 Try.underlying38 hi0 hz0 hz1 hz2 rfl (by decide) _ _ _ rfl ((owns_below hown hb).alloc _) ⟨_, 0, none⟩ 1 1 [.int .i64 (k : Int)] rfl rfl (new_one _ _ _) one_of (by unfold maxLen; omega) (by omega) ?_ ?_))
        · simp
          omega
        · intro v' w1 ho hg hn
          have hb1 := below_own (B := w.heap.size) (a := w) (by exact (hb0.trans (hb.mono hb0.size)).alloc (by omega) _) ((owns_below hown hb).alloc _) hg (Nat.le_refl _) (by simp; omega)
          have HN := Lib.hid hn
          clear hn hg hown
          go_wp2_with fail
          go_roundw
          case rel => exact ⟨k + 1, by omega, by go_num, by rw [linesB_t hm]; exact owns_app ho, hb1, fun h => by have hnn := HN.out; have hvv := HV.out; simp_all⟩
          case measure => simp [intOf]; omega
    · obtain rfl : k = 27 := by omega
      obtain ⟨g, cap, hg1, hg2, hg3, hcp⟩ := Row.of_owns_cap hown HV.out
      subst hg1
      go_wp2_with fail
      go_ret
      exact ⟨_, _, rfl, hg2, hg3, hb0, hcp⟩

def SixR (l : List Int) (w : World) (e : Ending) (w' : World) : Prop := (sixB l = true ∧ OwnT w (linesB (fiveB l) 27) e w') ∨ (sixB l = false ∧ e = .returned (.tuple #[.slice none 0 0, .bool false]) ∧ Below w.heap.size w w')

theorem iSix_len (g cap : Nat) (l : List Int) (hl : ¬ l.length = 6) (hl2 : l.length ≤ 1048576) (w : World) :
    Calls Try.prog 44 #[.slice (some ⟨g, 0, none⟩) l.length cap] w (SixR l w) := by
  have HX := Lib.hid (show sixB l = false by simp [sixB, hl])
  have hd : ((l.length : Int) != 6) = true := by simp; omega
  clear hl
  go_enter Try.func44, Try.ntmps44
  go_wp2_with fail
  go_ret2
  exact .inr ⟨HX.out, rfl, by (repeat (first | (with_reducible exact Below.refl _ _) | (with_reducible refine bl_alloc ?_ ?_ _; focus (first | omega | (simp; done) | (simp; omega))) | (with_reducible refine bl_set ?_ ?_ _; focus (first | omega | (simp; done) | (simp; omega))) | (with_reducible refine Below.drew ?_) | (with_reducible refine below_drewN ?_ _) | (with_reducible refine below_step ?_ (by assumption))))⟩

def SixRc (l : List Int) (w : World) (e : Ending) (w' : World) : Prop := (sixB l = true ∧ OwnTc w (linesB (fiveB l) 27) e w') ∨ (sixB l = false ∧ e = .returned (.tuple #[.slice none 0 0, .bool false]) ∧ Below w.heap.size w w')
set_option maxRecDepth 20000 in
set_option maxHeartbeats 8000000 in
theorem iSix_6c (g cap : Nat) (hcap : 6 ≤ cap) (hcm : cap ≤ maxLen) (l : List Int) (hl : l.length = 6) (w : World) (hrow : Row w g l) :
    Calls Try.prog 44 #[.slice (some ⟨g, 0, none⟩) 6 cap] w (SixRc l w) := by
  have hcm2 : (cap : Int) ≤ 9223372036854775807 := by unfold maxLen at hcm; omega
  have hcap2 : (6 : Int) ≤ (cap : Int) := by omega
  have hgl := hrow.lt
  have HR := Lib.hid hrow
  clear hrow hcm
  go_enter Try.func44, Try.ntmps44
  go_wp2_with fail
  go_loopw [11] (fun c wr => ∃ j : Nat, j ≤ 6 ∧ c = .int .i64 j ∧ goodTo l j = true ∧ Below (w.heap.size + 1) (w.alloc (.cells #[.slice (some ⟨g, 0, none⟩) 6 cap] 38)) wr) (fun c _ => 6 - (intOf c).toNat)
  case atStart => exact ⟨0, by omega, rfl, rfl, Below.refl _ _⟩
  case round =>
    obtain ⟨j, hj, rfl, hgood, hb0⟩ := hrel
    have hsz := hb0.size
    rw [World.size_alloc] at hsz
    have hwl : w.heap.size < wr.heap.size := by omega
    have hrow : Row wr g l := (HR.out.below ((Below.refl _ _).alloc (Nat.le_refl _) _)).below (hb0.mono (by simp))
    have hlc : wr.cell? ⟨w.heap.size, 0, none⟩ = some (.slice (some ⟨g, 0, none⟩) 6 cap) := (hb0.cell (p := ⟨w.heap.size, 0, none⟩) (by simp)).trans (by simp)
    by_cases hlt : j < 6
    · have cj := hrow.cell j (by omega)
      have b1 : (0 : Int) ≤ (j : Int) := by omega
      have b2 : (j : Int) < 6 := by omega
      cases hk : lineN (l.getD j 0)
      · have HX := Lib.hid (six_bad (show j < l.length by omega) (show goodAt l j = false by simp only [goodAt, hk, Bool.false_and]))
        have hk' : inB (l.getD j 0) 0 26 = false := hk
        generalize l.getD j 0 = q at cj hk'
        clear hgood hk hrow
        go_wp2_with fail
        go_quiet ((go_at_call 58; exact Calls.quiet_of_same (isLine_q _ _)))
        go_wp2_with fail
        go_ret2
        exact .inr ⟨HX.out, rfl, Below.trans (b := w.alloc (.cells #[.slice (some ⟨g, 0, none⟩) 6 cap] 38)) ((Below.refl _ _).alloc (Nat.le_refl _) _) ((below_drewN (hb0.alloc (by omega) _) _).mono (by omega))⟩

      · obtain ⟨hkk, hke⟩ := lineN_nat hk
        have hk' : inB ((l.getD j 0).toNat : Int) 0 26 = true := by rw [hke]; exact hk
        have hin : ∀ i, i < j → lineN (l.getD i 0) = true := fun i hi => by
          have := goodTo_at hgood i hi
          simp only [goodAt, Bool.and_eq_true] at this
          exact this.1
        by_cases hj0 : j = 0
        · subst hj0
          have GF := Lib.hid (show skewTo l (l.getD 0 0).toNat 0 = false → goodAt l 0 = false from fun h => by simp only [skewTo] at h; cases h)
          have GT := Lib.hid (show skewTo l (l.getD 0 0).toNat 0 = true → goodTo l (0 + 1) = true from fun h => by simp only [goodTo, goodAt, hk, skewTo, Bool.true_and, Bool.and_true, beq_self_eq_true, Bool.true_or])
          rw [← hke] at cj
          generalize (l.getD 0 0).toNat = kk at cj hkk hk' GF GT
          have ck : (wr.alloc (.cells #[.int .i64 (kk : Int)] 3)).cell? ⟨wr.heap.size, 0, none⟩ = some (.int .i64 (kk : Int)) := by simp
          have cl : (wr.alloc (.cells #[.int .i64 (kk : Int)] 3)).cell? ⟨w.heap.size, 0, none⟩ = some (.slice (some ⟨g, 0, none⟩) 6 cap) := (alloc_cell wr _ hwl 0).trans hlc
          have KC := Lib.hid (containsSix_any (some ⟨g, 0, none⟩) 0 cap l kk hkk wr.heap.size (by omega) (by omega) (fun i hi => by omega) ((wr.alloc (.cells #[.int .i64 (kk : Int)] 3)).drew) ((hrow.rd).alloc _) (by simp) ck)
          clear hk hke hin hrow hgood
          go_wp2_with fail
          refine wp_region_held_drew (S := (fun w' => w'.cell? ⟨wr.heap.size, 0, none⟩ = some (.int .i64 (kk : Int)) ∧ w'.cell? ⟨w.heap.size, 0, none⟩ = some (.slice (some ⟨g, 0, none⟩) 6 cap))) (by kernel_rfl) ⟨by exact ck, by exact cl⟩ (fun hHeld => ?_)
          refine take1 0 16 (.int .i64 (kk : Int)) rfl rfl (by kernel_rfl) (by kernel_rfl) (by kernel_rfl) (fun _ _ _ h => h) (by rfl) (fun W hW => by first | rfl | ((try dsimp only at hW); go_simp)) (by assumption) ?_
          simp only [List.set_cons_zero, List.set_cons_succ]
          refine wpAnyH_ready (rs := [1]) (by kernel_rfl) (by simp) ?_
          refine AllReadyH.cons rfl (fun K hK => ?_) AllReadyH.nil
          go_simp
          (go_at_call 58; ((with_reducible refine (isLine_any _ _).mono ?_); rintro e w' ⟨rfl, rfl⟩))
          (try go_wp2_with fail)
          refine hK.out _ _ (by assumption) (fun hHeld => ?_)
          clear hK K
          try simp only [Act.put, List.setIfInBounds_toArray, List.set_cons_zero, List.set_cons_succ]
          refine take1 2 18 (.bool false) rfl rfl (by kernel_rfl) (by kernel_rfl) (by kernel_rfl) (fun _ _ _ h => h) (by rfl) (fun W hW => by first | rfl | ((try dsimp only at hW); go_simp)) (by assumption) ?_
          simp only [List.set_cons_zero, List.set_cons_succ]
          refine take1 3 19 (.bool false) rfl rfl (by kernel_rfl) (by kernel_rfl) (by kernel_rfl) (fun _ _ _ h => h) (by rfl) (fun W hW => by first | rfl | ((try dsimp only at hW); go_simp)) (by assumption) ?_
          simp only [List.set_cons_zero, List.set_cons_succ]
          refine take1 4 20 (.int .i64 0) rfl rfl (by kernel_rfl) (by kernel_rfl) (by kernel_rfl) (fun _ _ _ h => h) (by rfl) (fun W hW => by first | rfl | ((try dsimp only at hW); go_simp)) (by assumption) ?_
          simp only [List.set_cons_zero, List.set_cons_succ]
          refine take1 5 21 (.bool false) rfl rfl (by kernel_rfl) (by kernel_rfl) (by kernel_rfl) (fun _ _ _ h => h) (by rfl) (fun W hW => by first | rfl | ((try dsimp only at hW); go_simp)) (by assumption) ?_
          simp only [List.set_cons_zero, List.set_cons_succ]
          refine take1 6 22 (.bool false) rfl rfl (by kernel_rfl) (by kernel_rfl) (by kernel_rfl) (fun _ _ _ h => h) (by rfl) (fun W hW => by first | rfl | ((try dsimp only at hW); go_simp)) (by assumption) ?_
          simp only [List.set_cons_zero, List.set_cons_succ]
          refine skip1 7 23 rfl rfl (by kernel_rfl) (by kernel_rfl) (by kernel_rfl) (fun _ _ _ h => h) (by rfl) (by assumption) ?_
          simp only [List.set_cons_zero, List.set_cons_succ]
          refine skip1 8 24 rfl rfl (by kernel_rfl) (by kernel_rfl) (by kernel_rfl) (fun _ _ _ h => h) (by rfl) (by assumption) ?_
          simp only [List.set_cons_zero, List.set_cons_succ]
          refine skip1 9 25 rfl rfl (by kernel_rfl) (by kernel_rfl) (by kernel_rfl) (fun _ _ _ h => h) (by rfl) (by assumption) ?_
          simp only [List.set_cons_zero, List.set_cons_succ]
          refine skip1 10 26 rfl rfl (by kernel_rfl) (by kernel_rfl) (by kernel_rfl) (fun _ _ _ h => h) (by rfl) (by assumption) ?_
          simp only [List.set_cons_zero, List.set_cons_succ]
          refine skip1 11 27 rfl rfl (by kernel_rfl) (by kernel_rfl) (by kernel_rfl) (fun _ _ _ h => h) (by rfl) (by assumption) ?_
          simp only [List.set_cons_zero, List.set_cons_succ]
          refine skip1 12 28 rfl rfl (by kernel_rfl) (by kernel_rfl) (by kernel_rfl) (fun _ _ _ h => h) (by rfl) (by assumption) ?_
          simp only [List.set_cons_zero, List.set_cons_succ]
          refine skip1 13 29 rfl rfl (by kernel_rfl) (by kernel_rfl) (by kernel_rfl) (fun _ _ _ h => h) (by rfl) (by assumption) ?_
          simp only [List.set_cons_zero, List.set_cons_succ]
          refine take1 14 30 (.bool false) rfl rfl (by kernel_rfl) (by kernel_rfl) (by kernel_rfl) (fun _ _ _ h => h) (by rfl) (fun W hW => by first | rfl | ((try dsimp only at hW); go_simp)) (by assumption) ?_
          simp only [List.set_cons_zero, List.set_cons_succ]
          refine take1 15 31 (.bool false) rfl rfl (by kernel_rfl) (by kernel_rfl) (by kernel_rfl) (fun _ _ _ h => h) (by rfl) (fun W hW => by first | rfl | ((try dsimp only at hW); go_simp)) (by assumption) ?_
          simp only [List.set_cons_zero, List.set_cons_succ]
          refine take1 16 32 (.bool false) rfl rfl (by kernel_rfl) (by kernel_rfl) (by kernel_rfl) (fun _ _ _ h => h) (by rfl) (fun W hW => by first | rfl | ((try dsimp only at hW); go_simp)) (by assumption) ?_
          simp only [List.set_cons_zero, List.set_cons_succ]
          refine take1 17 33 (.slice (some ⟨g, 0, none⟩) 6 cap) rfl rfl (by kernel_rfl) (by kernel_rfl) (by kernel_rfl) (fun _ _ _ h => h) (by rfl) (fun W hW => by first | rfl | ((try dsimp only at hW); go_simp)) (by assumption) ?_
          simp only [List.set_cons_zero, List.set_cons_succ]
          refine take1 18 34 (.int .i64 0) rfl rfl (by kernel_rfl) (by kernel_rfl) (by kernel_rfl) (fun _ _ _ h => h) (by rfl) (fun W hW => by first | rfl | ((try dsimp only at hW); go_simp)) (by assumption) ?_
          simp only [List.set_cons_zero, List.set_cons_succ]
          refine take1 19 35 (.slice (some ⟨g, 0, none⟩) 0 cap) rfl rfl (by kernel_rfl) (by kernel_rfl) (by kernel_rfl) (fun _ _ _ h => h) (by rfl) (fun W hW => by first | rfl | ((try dsimp only at hW); go_simp)) (by assumption) ?_
          simp only [List.set_cons_zero, List.set_cons_succ]
          refine take1 20 36 (.func (.func 77) #[] #[.pointer (some ⟨wr.heap.size, 0, none⟩)]) rfl rfl (by kernel_rfl) (by kernel_rfl) (by kernel_rfl) (fun _ _ _ h => h) (by rfl) (fun W hW => by first | rfl | ((try dsimp only at hW); go_simp)) (by assumption) ?_
          simp only [List.set_cons_zero, List.set_cons_succ]
          refine wpAnyH_ready (rs := [21]) (by kernel_rfl) (by simp) ?_
          refine AllReadyH.cons rfl (fun K hK => ?_) AllReadyH.nil
          go_simp
          (go_at_call 76; ((with_reducible refine (KC.out).mono ?_); rintro e w3 ⟨rfl, hb3⟩))
          (try go_wp2_with fail)
          refine hK.out _ _ ⟨by (show World.cell? _ _ = _); exact (hb3.cell (p := ⟨wr.heap.size, 0, none⟩) (by simp)).trans ck, by (show World.cell? _ _ = _); exact (hb3.cell (p := ⟨w.heap.size, 0, none⟩) (by simp; omega)).trans cl⟩ (fun hHeld => ?_)
          clear hK K
          try simp only [Act.put, List.setIfInBounds_toArray, List.set_cons_zero, List.set_cons_succ]
          refine take1 22 38 (.bool (!skewTo l kk 0)) rfl rfl (by kernel_rfl) (by kernel_rfl) (by kernel_rfl) (fun _ _ _ h => h) (by rfl) (fun W hW => by first | rfl | ((try dsimp only at hW); go_simp)) (by assumption) ?_
          simp only [List.set_cons_zero, List.set_cons_succ]
          refine wpAnyH_done (by kernel_rfl) ?_ _
          have hB3 : Below (w.heap.size + 1) (w.alloc (.cells #[.slice (some ⟨g, 0, none⟩) 6 cap] 38)) w3 := (Below.drew (hb0.alloc (by omega) _)).trans (hb3.mono (by simp; omega))
          have HB3 := Lib.hid hB3
          clear hb3 hB3 hb0
          cases hs : skewTo l kk 0
          · have HX := Lib.hid (six_bad (show 0 < l.length by omega) (GF.out hs))
            simp only [Bool.not_false, Bool.not_true]
            go_wp2_with fail
            go_ret2
            exact .inr ⟨HX.out, rfl, Below.trans (b := w.alloc (.cells #[.slice (some ⟨g, 0, none⟩) 6 cap] 38)) ((Below.refl _ _).alloc (Nat.le_refl _) _) (HB3.out.mono (by omega))⟩
          · have HX := Lib.hid (GT.out hs)
            simp only [Bool.not_false, Bool.not_true]
            go_wp2_with fail
            go_roundw
            case rel => exact ⟨0 + 1, by omega, by first | rfl | go_num, HX.out, HB3.out⟩
            case measure => ((simp [intOf]) <;> omega)

        · obtain ⟨m, rfl⟩ : ∃ m, j = m + 1 := ⟨j - 1, by omega⟩
          have cm0 := hrow.cell m (by omega)
          have b5 : (0 : Int) ≤ (m : Int) := by omega
          have b6 : (m : Int) < 6 := by omega
          by_cases hasc : l.getD m 0 < l.getD (m + 1) 0
          · have GF := Lib.hid (show skewTo l (l.getD (m + 1) 0).toNat (m + 1) = false → goodAt l (m + 1) = false from fun h => by simp only [goodAt, ln, h, Bool.and_false])
            have GT := Lib.hid (show skewTo l (l.getD (m + 1) 0).toNat (m + 1) = true → goodTo l (m + 1 + 1) = true from fun h => by
              rw [goodTo, hgood]
              simp only [goodAt, hk, ln, h, Nat.add_sub_cancel, decide_eq_true hasc, Bool.or_true, Bool.and_true])
            rw [← hke] at cj hasc
            generalize (l.getD (m + 1) 0).toNat = kk at cj hkk hk' GF GT hasc
            generalize l.getD m 0 = q at cm0 hasc
            have hlt3 : decide ((kk : Int) ≤ q) = false := by simp; omega
            have hlt4 : ¬ ((kk : Int) ≤ q) := by omega
            generalize hjm : m + 1 = j at *
            have b7 : (0 : Int) < (j : Int) := by omega
            have b8 : IntKind.i64.wrap ((j : Int) - 1) = (m : Int) := by rw [IntWalk.i64_in _ (by omega)]; omega
            have b9 : (j : Int) - 1 = (m : Int) := by omega
            have b10 : IntKind.i64.wrap (m : Int) = (m : Int) := IntWalk.i64_in _ (by omega)
            have b11 : 0 < j := by omega
            have b12 : (j : Int) ≤ (cap : Int) := by omega
            have ck : (wr.alloc (.cells #[.int .i64 (kk : Int)] 3)).cell? ⟨wr.heap.size, 0, none⟩ = some (.int .i64 (kk : Int)) := by simp
            have cl : (wr.alloc (.cells #[.int .i64 (kk : Int)] 3)).cell? ⟨w.heap.size, 0, none⟩ = some (.slice (some ⟨g, 0, none⟩) 6 cap) := (alloc_cell wr _ hwl 0).trans hlc
            have cm : (wr.alloc (.cells #[.int .i64 (kk : Int)] 3)).cell? ⟨g, m, none⟩ = some (.int .i64 q) := (alloc_cell wr _ (by omega) m).trans cm0
            have KC := Lib.hid (containsSix_any (some ⟨g, 0, none⟩) j cap l kk hkk wr.heap.size (by omega) (by omega) hin ((wr.alloc (.cells #[.int .i64 (kk : Int)] 3)).drew) ((hrow.rd).alloc _) (by simp) ck)
            have hjj : j < 6 := hlt
            clear hk hke hin hrow hgood hjm cm0
            go_wp2_with fail
            refine wp_region_held_drew (S := (fun w' => w'.cell? ⟨wr.heap.size, 0, none⟩ = some (.int .i64 (kk : Int)) ∧ w'.cell? ⟨w.heap.size, 0, none⟩ = some (.slice (some ⟨g, 0, none⟩) 6 cap) ∧ w'.cell? ⟨g, m, none⟩ = some (.int .i64 q))) (by kernel_rfl) ⟨by exact ck, by exact cl, by exact cm⟩ (fun hHeld => ?_)
            refine take1 0 16 (.int .i64 (kk : Int)) rfl rfl (by kernel_rfl) (by kernel_rfl) (by kernel_rfl) (fun _ _ _ h => h) (by rfl) (fun W hW => by first | rfl | ((try dsimp only at hW); go_simp)) (by assumption) ?_
            simp only [List.set_cons_zero, List.set_cons_succ]
            refine wpAnyH_ready (rs := [1]) (by kernel_rfl) (by simp) ?_
            refine AllReadyH.cons rfl (fun K hK => ?_) AllReadyH.nil
            go_simp
            (go_at_call 58; ((with_reducible refine (isLine_any _ _).mono ?_); rintro e w' ⟨rfl, rfl⟩))
            (try go_wp2_with fail)
            refine hK.out _ _ (by assumption) (fun hHeld => ?_)
            clear hK K
            try simp only [Act.put, List.setIfInBounds_toArray, List.set_cons_zero, List.set_cons_succ]
            refine take1 2 18 (.bool false) rfl rfl (by kernel_rfl) (by kernel_rfl) (by kernel_rfl) (fun _ _ _ h => h) (by rfl) (fun W hW => by first | rfl | ((try dsimp only at hW); go_simp)) (by assumption) ?_
            simp only [List.set_cons_zero, List.set_cons_succ]
            refine take1 3 19 (.bool false) rfl rfl (by kernel_rfl) (by kernel_rfl) (by kernel_rfl) (fun _ _ _ h => h) (by rfl) (fun W hW => by first | rfl | ((try dsimp only at hW); go_simp)) (by assumption) ?_
            simp only [List.set_cons_zero, List.set_cons_succ]
            refine take1 4 20 (.int .i64 (j : Int)) rfl rfl (by kernel_rfl) (by kernel_rfl) (by kernel_rfl) (fun _ _ _ h => h) (by rfl) (fun W hW => by first | rfl | ((try dsimp only at hW); go_simp)) (by assumption) ?_
            simp only [List.set_cons_zero, List.set_cons_succ]
            refine take1 5 21 (.bool true) rfl rfl (by kernel_rfl) (by kernel_rfl) (by kernel_rfl) (fun _ _ _ h => h) (by rfl) (fun W hW => by first | rfl | ((try dsimp only at hW); go_simp)) (by assumption) ?_
            simp only [List.set_cons_zero, List.set_cons_succ]
            refine take1 6 22 (.bool true) rfl rfl (by kernel_rfl) (by kernel_rfl) (by kernel_rfl) (fun _ _ _ h => h) (by rfl) (fun W hW => by first | rfl | ((try dsimp only at hW); go_simp)) (by assumption) ?_
            simp only [List.set_cons_zero, List.set_cons_succ]
            refine take1 7 23 (.slice (some ⟨g, 0, none⟩) 6 cap) rfl rfl (by kernel_rfl) (by kernel_rfl) (by kernel_rfl) (fun _ _ _ h => h) (by rfl) (fun W hW => by first | rfl | ((try dsimp only at hW); go_simp)) (by assumption) ?_
            simp only [List.set_cons_zero, List.set_cons_succ]
            refine take1 8 24 (.int .i64 (j : Int)) rfl rfl (by kernel_rfl) (by kernel_rfl) (by kernel_rfl) (fun _ _ _ h => h) (by rfl) (fun W hW => by first | rfl | ((try dsimp only at hW); go_simp)) (by assumption) ?_
            simp only [List.set_cons_zero, List.set_cons_succ]
            refine take1 9 25 (.int .i64 (m : Int)) rfl rfl (by kernel_rfl) (by kernel_rfl) (by kernel_rfl) (fun _ _ _ h => h) (by rfl) (fun W hW => by first | rfl | ((try dsimp only at hW); go_simp)) (by assumption) ?_
            simp only [List.set_cons_zero, List.set_cons_succ]
            refine take1 10 26 (.pointer (some ⟨g, m, none⟩)) rfl rfl (by kernel_rfl) (by kernel_rfl) (by kernel_rfl) (fun _ _ _ h => h) (by rfl) (fun W hW => by first | rfl | ((try dsimp only at hW); go_simp)) (by assumption) ?_
            simp only [List.set_cons_zero, List.set_cons_succ]
            refine take1 11 27 (.int .i64 q) rfl rfl (by kernel_rfl) (by kernel_rfl) (by kernel_rfl) (fun _ _ _ h => h) (by rfl) (fun W hW => by first | rfl | ((try dsimp only at hW); go_simp)) (by assumption) ?_
            simp only [List.set_cons_zero, List.set_cons_succ]
            refine take1 12 28 (.int .i64 (kk : Int)) rfl rfl (by kernel_rfl) (by kernel_rfl) (by kernel_rfl) (fun _ _ _ h => h) (by rfl) (fun W hW => by first | rfl | ((try dsimp only at hW); go_simp)) (by assumption) ?_
            simp only [List.set_cons_zero, List.set_cons_succ]
            refine take1 13 29 (.bool false) rfl rfl (by kernel_rfl) (by kernel_rfl) (by kernel_rfl) (fun _ _ _ h => h) (by rfl) (fun W hW => by first | rfl | ((try dsimp only at hW); go_simp)) (by assumption) ?_
            simp only [List.set_cons_zero, List.set_cons_succ]
            refine take1 14 30 (.bool false) rfl rfl (by kernel_rfl) (by kernel_rfl) (by kernel_rfl) (fun _ _ _ h => h) (by rfl) (fun W hW => by first | rfl | ((try dsimp only at hW); go_simp)) (by assumption) ?_
            simp only [List.set_cons_zero, List.set_cons_succ]
            refine take1 15 31 (.bool false) rfl rfl (by kernel_rfl) (by kernel_rfl) (by kernel_rfl) (fun _ _ _ h => h) (by rfl) (fun W hW => by first | rfl | ((try dsimp only at hW); go_simp)) (by assumption) ?_
            simp only [List.set_cons_zero, List.set_cons_succ]
            refine take1 16 32 (.bool false) rfl rfl (by kernel_rfl) (by kernel_rfl) (by kernel_rfl) (fun _ _ _ h => h) (by rfl) (fun W hW => by first | rfl | ((try dsimp only at hW); go_simp)) (by assumption) ?_
            simp only [List.set_cons_zero, List.set_cons_succ]
            refine take1 17 33 (.slice (some ⟨g, 0, none⟩) 6 cap) rfl rfl (by kernel_rfl) (by kernel_rfl) (by kernel_rfl) (fun _ _ _ h => h) (by rfl) (fun W hW => by first | rfl | ((try dsimp only at hW); go_simp)) (by assumption) ?_
            simp only [List.set_cons_zero, List.set_cons_succ]
            refine take1 18 34 (.int .i64 (j : Int)) rfl rfl (by kernel_rfl) (by kernel_rfl) (by kernel_rfl) (fun _ _ _ h => h) (by rfl) (fun W hW => by first | rfl | ((try dsimp only at hW); go_simp)) (by assumption) ?_
            simp only [List.set_cons_zero, List.set_cons_succ]
            refine take1 19 35 (.slice (some ⟨g, 0, none⟩) j cap) rfl rfl (by kernel_rfl) (by kernel_rfl) (by kernel_rfl) (fun _ _ _ h => h) (by rfl) (fun W hW => by first | rfl | ((try dsimp only at hW); go_simp)) (by assumption) ?_
            simp only [List.set_cons_zero, List.set_cons_succ]
            refine take1 20 36 (.func (.func 77) #[] #[.pointer (some ⟨wr.heap.size, 0, none⟩)]) rfl rfl (by kernel_rfl) (by kernel_rfl) (by kernel_rfl) (fun _ _ _ h => h) (by rfl) (fun W hW => by first | rfl | ((try dsimp only at hW); go_simp)) (by assumption) ?_
            simp only [List.set_cons_zero, List.set_cons_succ]
            refine wpAnyH_ready (rs := [21]) (by kernel_rfl) (by simp) ?_
            refine AllReadyH.cons rfl (fun K hK => ?_) AllReadyH.nil
            go_simp
            (go_at_call 76; ((with_reducible refine (KC.out).mono ?_); rintro e w3 ⟨rfl, hb3⟩))
            (try go_wp2_with fail)
            refine hK.out _ _ ⟨by (show World.cell? _ _ = _); exact (hb3.cell (p := ⟨wr.heap.size, 0, none⟩) (by simp)).trans ck, by (show World.cell? _ _ = _); exact (hb3.cell (p := ⟨w.heap.size, 0, none⟩) (by simp; omega)).trans cl, by (show World.cell? _ _ = _); exact (hb3.cell (p := ⟨g, m, none⟩) (by simp; omega)).trans cm⟩ (fun hHeld => ?_)
            clear hK K
            try simp only [Act.put, List.setIfInBounds_toArray, List.set_cons_zero, List.set_cons_succ]
            refine take1 22 38 (.bool (!skewTo l kk j)) rfl rfl (by kernel_rfl) (by kernel_rfl) (by kernel_rfl) (fun _ _ _ h => h) (by rfl) (fun W hW => by first | rfl | ((try dsimp only at hW); go_simp)) (by assumption) ?_
            simp only [List.set_cons_zero, List.set_cons_succ]
            refine wpAnyH_done (by kernel_rfl) ?_ _
            have hB3 : Below (w.heap.size + 1) (w.alloc (.cells #[.slice (some ⟨g, 0, none⟩) 6 cap] 38)) w3 := (Below.drew (hb0.alloc (by omega) _)).trans (hb3.mono (by simp; omega))
            have HB3 := Lib.hid hB3
            clear hb3 hB3 hb0
            cases hs : skewTo l kk j
            · have HX := Lib.hid (six_bad (show j < l.length by omega) (GF.out hs))
              simp only [Bool.not_false, Bool.not_true]
              go_wp2_with fail
              go_ret2
              exact .inr ⟨HX.out, rfl, Below.trans (b := w.alloc (.cells #[.slice (some ⟨g, 0, none⟩) 6 cap] 38)) ((Below.refl _ _).alloc (Nat.le_refl _) _) (HB3.out.mono (by omega))⟩
            · have HX := Lib.hid (GT.out hs)
              simp only [Bool.not_false, Bool.not_true]
              go_wp2_with fail
              go_roundw
              case rel => exact ⟨j + 1, by omega, by first | rfl | go_num, HX.out, HB3.out⟩
              case measure => ((simp [intOf]) <;> omega)

          · have HX := Lib.hid (six_bad (show m + 1 < l.length by omega) (show goodAt l (m + 1) = false by simp only [goodAt, Nat.add_sub_cancel, decide_eq_false hasc, Bool.or_false, show (m + 1 == 0) = false from rfl, Bool.false_and, Bool.and_false]))
            rw [← hke] at cj hasc
            generalize (l.getD (m + 1) 0).toNat = kk at cj hkk hk' hasc
            generalize l.getD m 0 = q at cm0 hasc
            generalize hjm : m + 1 = j at *
            have b7 : (0 : Int) < (j : Int) := by omega
            have b8 : IntKind.i64.wrap ((j : Int) - 1) = (m : Int) := by rw [IntWalk.i64_in _ (by omega)]; omega
            have b9 : (j : Int) - 1 = (m : Int) := by omega
            have b10 : IntKind.i64.wrap (m : Int) = (m : Int) := IntWalk.i64_in _ (by omega)
            have b11 : 0 < j := by omega
            have hd1 : decide ((0 : Int) < (j : Int)) = true := by simp; omega
            have hd2 : (kk : Int) ≤ q := by omega
            have hd3 : decide ((kk : Int) ≤ q) = true := by simp; omega
            have hgw : g < wr.heap.size := by omega
            have cm : (wr.alloc (.cells #[.int .i64 (kk : Int)] 3)).cell? ⟨g, m, none⟩ = some (.int .i64 q) := (alloc_cell wr _ hgw m).trans cm0
            have ck : (wr.alloc (.cells #[.int .i64 (kk : Int)] 3)).cell? ⟨wr.heap.size, 0, none⟩ = some (.int .i64 (kk : Int)) := by simp
            have cl : (wr.alloc (.cells #[.int .i64 (kk : Int)] 3)).cell? ⟨w.heap.size, 0, none⟩ = some (.slice (some ⟨g, 0, none⟩) 6 cap) := (alloc_cell wr _ hwl 0).trans hlc
            clear hk hke hin hrow hgood hjm hj0 hasc
            go_wp2_with fail
            go_quiet ((go_at_call 58; exact Calls.quiet_of_same (isLine_q _ _)))
            go_wp2_with fail
            go_ret2
            exact .inr ⟨HX.out, rfl, Below.trans (b := w.alloc (.cells #[.slice (some ⟨g, 0, none⟩) 6 cap] 38)) ((Below.refl _ _).alloc (Nat.le_refl _) _) ((below_drewN (hb0.alloc (by omega) _) _).mono (by omega))⟩

    · obtain rfl : j = 6 := by omega
      have hin : ∀ i, i < 6 → lineN (l.getD i 0) = true := fun i hi => by
        have := goodTo_at hgood i hi
        simp only [goodAt, Bool.and_eq_true] at this
        exact this.1
      have HX := Lib.hid (show sixB l = true by simp [sixB, hl, hgood])
      have K := Lib.hid (sixList_any g cap l hl hin w.heap.size wr hwl hrow (by rw [hl]; exact hlc))
      clear hgood hin hrow hlc
      go_wp2_with fail
      refine K.out.mono ?_
      rintro e w3 ⟨g3, cap3, rfl, hg3, hr3, hb3, hcp3⟩
      have HR3 := Lib.hid hr3
      have HB3 := Lib.hid (Below.trans (b := w.alloc (.cells #[.slice (some ⟨g, 0, none⟩) 6 cap] 38)) ((Below.refl _ _).alloc (Nat.le_refl _) _) ((hb0.mono (by omega)).trans (hb3.mono (by omega))) : Hid (Below w.heap.size w w3))
      clear hr3 hb3
      go_wp2_with fail
      go_ret2
      exact .inl ⟨HX.out, g3, cap3, rfl, by omega, HR3.out, HB3.out, hcp3⟩
theorem iSix_6 (g cap : Nat) (hcap : 6 ≤ cap) (hcm : cap ≤ maxLen) (l : List Int) (hl : l.length = 6) (w : World) (hrow : Row w g l) :
    Calls Try.prog 44 #[.slice (some ⟨g, 0, none⟩) 6 cap] w (SixR l w) :=
  (iSix_6c g cap hcap hcm l hl w hrow).mono fun e w' h => by
    rcases h with ⟨h, g, cap, h1, h2, h3, h4, _⟩ | h
    · exact .inl ⟨h, g, cap, h1, h2, h3, h4⟩
    · exact .inr h

end Go.Proofs.Ytogmfadeedmmaaa
