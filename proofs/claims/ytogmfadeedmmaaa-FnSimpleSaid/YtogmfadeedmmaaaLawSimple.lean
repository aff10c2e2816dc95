/- Simple roots have products 0 and 1: for every code the drawn root has with each simple root the product that the statement asks for. No condition. -/
import Derived.Test.YtogmfadeedmmaaaRoot
import Derived.Test.YtogmfadeedmmaaaCut
import Derived.Test.YtogmfadeedmmaaaDraw
import Derived.Test.YtogmfadeedmmaaaSr
import Derived.Test.YtogmfadeedmmaaaArg
import Derived.Test.YtogmfadeedmmaaaArg
namespace Go.Proofs.Ytogmfadeedmmaaa.lawSimple
open Go.ChangeShapes Go.WideShapes Go.ChangeAt Go.RowKit
set_option linter.unusedVariables false
set_option linter.unusedSimpArgs false

set_option maxRecDepth 20000 in
set_option maxHeartbeats 16000000 in
theorem walk (a0 : Option Addr) (n0 cap0 : Nat) (l0 : List Int) (w : World) (h0 : ArgRow .u8 w a0 n0 cap0 l0) :
    Calls Try.prog 3 #[.slice a0 n0 cap0] w fun e w' => e = .returned (.bool true) ∧ Below w.heap.size w w' := by
  by_cases hbig : 1048576 < n0
  · go_enter Try.func3, Try.ntmps3
    go_wp2
    go_ret
    exact ⟨rfl, by (repeat (first | (with_reducible exact Below.refl _ _) | (with_reducible refine bl_alloc ?_ ?_ _; focus (first | omega | (simp; done) | (simp; omega))) | (with_reducible refine bl_set ?_ ?_ _; focus (first | omega | (simp; done) | (simp; omega))) | (with_reducible refine Below.drew ?_) | (with_reducible refine below_drewN ?_ _) | (with_reducible refine below_step ?_ (by assumption))))⟩
  · go_enter Try.func3, Try.ntmps3
    go_wp2_with fail
    refine (drawRootSimple_any a0 n0 cap0 l0 _ h0).mono ?_
    rintro e wc ⟨x, rfl, ⟨hx0, hx1⟩, hb1⟩
    have hsz := hb1.size
    clear h0
    by_cases hr : 0 ≤ x ∧ x ≤ 5
    · obtain ⟨i, rfl⟩ : ∃ k : Nat, x = k := ⟨x.toNat, by omega⟩
      have hi : i < 6 := by omega
      clear hr
      have hn := fun (W : World) => ne_self (SR i) W
      go_wp2_with fail
      refine (iRootSimple_in i hi _).mono ?_
      rintro e w1 ⟨rfl, hb2⟩
      have hs2 := hb2.size
      go_wp2_with fail
      refine (sRootSimple_in i hi _).mono ?_
      rintro e w2 ⟨rfl, hb3⟩
      have hs3 := hb3.size
      simp only [World.size_alloc] at hs3
      have hc0 := fun (o : Nat) => hb3.cell (p := ⟨w1.heap.size, o, none⟩) (by simp)
      have hf0 := fun (o : Nat) => hb3.frozen (p := ⟨w1.heap.size, o, none⟩) (by simp)
      have hl0 := Nat.lt_of_succ_le hs3
      go_wp2_with fail
      clear hn
      generalize hBB : w1.heap.size = B1 at *
      go_loopw [8] (fun v wr => ∃ (k : Nat), k ≤ 6 ∧ v = .int .i64 k ∧ (wr.cell? ⟨B1, 0, none⟩ = some (.int .i64 (SR i).d) ∧ wr.cell? ⟨B1, 1, none⟩ = some (.int .i64 (SR i).a) ∧ wr.cell? ⟨B1, 2, none⟩ = some (.int .i64 (SR i).b) ∧ wr.cell? ⟨B1, 3, none⟩ = some (.int .i64 (SR i).c) ∧ wr.cell? ⟨B1, 4, none⟩ = some (.int .i64 (SR i).e) ∧ wr.cell? ⟨B1, 5, none⟩ = some (.int .i64 (SR i).f) ∧ wr.cell? ⟨B1, 6, none⟩ = some (.int .i64 (SR i).g)) ∧ w.heap.size ≤ B1 ∧ B1 < wr.heap.size ∧ Below w.heap.size w wr) (fun v _ => 6 - (intOf v).toNat)
      case atStart =>
        refine ⟨0, by omega, rfl, ?_, ?_, ?_, ?_⟩
        · refine ⟨?_, ?_, ?_, ?_, ?_, ?_, ?_⟩ <;> (first | (simp [go_sem, *]; done) | (simp (disch := (first | ((try dsimp only); omega) | (simp; done) | (simp; omega))) [go_sem, *, World.cell?_alloc_old, World.cell?_setCell_far]; done))
        · (first | (simp; done) | (simp; omega) | omega)
        · (first | (simp; done) | (simp; omega) | omega)
        · (repeat (first | (with_reducible exact Below.refl _ _) | (with_reducible refine bl_alloc ?_ ?_ _; focus (first | omega | (simp; done) | (simp; omega))) | (with_reducible refine bl_set ?_ ?_ _; focus (first | omega | (simp; done) | (simp; omega))) | (with_reducible refine Below.drew ?_) | (with_reducible refine below_drewN ?_ _) | (with_reducible refine below_step ?_ (by assumption))))
      case round =>
        obtain ⟨k, hk, rfl, hc, hB0, hB1, hb0⟩ := hrel
        have hsr := hb0.size
        clear hc0 hf0 hb2 hb3
        by_cases hlt : k < 6
        · have hqi := SR_ok i hi
          have hqk := SR_ok k hlt
          have hqn := SR_prod i k hi hlt
          trace_state
          obtain ⟨hc0, hc1, hc2, hc3, hc4, hc5, hc6⟩ := hc
          go_wp2_with fail
          refine (iRootSimple_in k hlt _).mono ?_
          rintro e w3 ⟨rfl, hb4⟩
          have hs4 := hb4.size
          have hc := fun (o : Nat) => hb4.cell (p := ⟨B1, o, none⟩) hB1
          have hf := fun (o : Nat) => hb4.frozen (p := ⟨B1, o, none⟩) hB1
          have hl4 := Nat.lt_of_lt_of_le hB1 hs4
          have hl5 := Nat.ne_of_lt hl4
          have hb0' := hb0.trans (hb4.mono hsr)
          obtain ⟨kk, hkk⟩ : ∃ kk : Nat, kk = k + 1 := ⟨_, rfl⟩
          rcases (by omega : i = 0 ∨ i = 1 ∨ i = 2 ∨ i = 3 ∨ i = 4 ∨ i = 5) with rfl | rfl | rfl | rfl | rfl | rfl
          all_goals rcases (by omega : k = 0 ∨ k = 1 ∨ k = 2 ∨ k = 3 ∨ k = 4 ∨ k = 5) with rfl | rfl | rfl | rfl | rfl | rfl
          all_goals as_aux_lemma =>
            first | rw [sv_0] at hqn | rw [sv_1] at hqn | rw [sv_2] at hqn | rw [sv_3] at hqn | rw [sv_4] at hqn | rw [sv_5] at hqn | rw [sv_6] at hqn | rw [sv_7] at hqn | rw [sv_8] at hqn | rw [sv_9] at hqn | rw [sv_10] at hqn | rw [sv_11] at hqn | rw [sv_12] at hqn | rw [sv_13] at hqn | rw [sv_14] at hqn | rw [sv_15] at hqn | rw [sv_16] at hqn | rw [sv_17] at hqn | rw [sv_18] at hqn | rw [sv_19] at hqn | rw [sv_20] at hqn | rw [sv_21] at hqn | rw [sv_22] at hqn | rw [sv_23] at hqn | rw [sv_24] at hqn | rw [sv_25] at hqn | rw [sv_26] at hqn | rw [sv_27] at hqn | rw [sv_28] at hqn | rw [sv_29] at hqn | rw [sv_30] at hqn | rw [sv_31] at hqn | rw [sv_32] at hqn | rw [sv_33] at hqn | rw [sv_34] at hqn | rw [sv_35] at hqn
            go_wp2_with (go_at_call 16; ((with_reducible refine (iProduct_any _ _ _ _ _ _ _ _ _ _ _ _ _ _ _).mono ?_); rintro e w' ⟨rfl, hb⟩; have hbz := hb.size; (try simp only [World.size_alloc, World.size_drew, World.size_setCell] at hbz); (try have hbl := Nat.lt_of_succ_le hbz); (try (have k0 := fun (o : Nat) => hb.cell (p := ⟨w.heap.size, o, none⟩) (by first | (simp; done) | (simp; omega) | omega))); (try (have k1 := fun (o : Nat) => hb.cell (p := ⟨w.heap.size + 1, o, none⟩) (by first | (simp; done) | (simp; omega) | omega))); (try (have k2 := fun (o : Nat) => hb.cell (p := ⟨w.heap.size + 1 + 1, o, none⟩) (by first | (simp; done) | (simp; omega) | omega))); (try (have k3 := fun (o : Nat) => hb.cell (p := ⟨w.heap.size + 1 + 1 + 1, o, none⟩) (by first | (simp; done) | (simp; omega) | omega))); (try (have k4 := fun (o : Nat) => hb.cell (p := ⟨w.heap.size + 1 + 1 + 1 + 1, o, none⟩) (by first | (simp; done) | (simp; omega) | omega))); (try (have k5 := fun (o : Nat) => hb.cell (p := ⟨w.heap.size + 1 + 1 + 1 + 1 + 1, o, none⟩) (by first | (simp; done) | (simp; omega) | omega))); (try (have f0 := fun (o : Nat) => hb.frozen (p := ⟨w.heap.size, o, none⟩) (by first | (simp; done) | (simp; omega) | omega))); (try (have f1 := fun (o : Nat) => hb.frozen (p := ⟨w.heap.size + 1, o, none⟩) (by first | (simp; done) | (simp; omega) | omega))); (try (have f2 := fun (o : Nat) => hb.frozen (p := ⟨w.heap.size + 1 + 1, o, none⟩) (by first | (simp; done) | (simp; omega) | omega))); (try (have f3 := fun (o : Nat) => hb.frozen (p := ⟨w.heap.size + 1 + 1 + 1, o, none⟩) (by first | (simp; done) | (simp; omega) | omega))); (try (have f4 := fun (o : Nat) => hb.frozen (p := ⟨w.heap.size + 1 + 1 + 1 + 1, o, none⟩) (by first | (simp; done) | (simp; omega) | omega))); (try (have f5 := fun (o : Nat) => hb.frozen (p := ⟨w.heap.size + 1 + 1 + 1 + 1 + 1, o, none⟩) (by first | (simp; done) | (simp; omega) | omega))); (try (have j1 := fun (o : Nat) => hb.cell (p := ⟨B1, o, none⟩) (by first | (simp; done) | (simp; omega) | omega))); (try (have g1 := fun (o : Nat) => hb.frozen (p := ⟨B1, o, none⟩) (by first | (simp; done) | (simp; omega) | omega))); (try (have j2 := fun (o : Nat) => hb.cell (p := ⟨B2, o, none⟩) (by first | (simp; done) | (simp; omega) | omega))); (try (have g2 := fun (o : Nat) => hb.frozen (p := ⟨B2, o, none⟩) (by first | (simp; done) | (simp; omega) | omega))); (try (have j0 := fun (o : Nat) => hb.cell (p := ⟨wc.heap.size, o, none⟩) (by first | (simp; done) | (simp; omega) | omega))); (try (have g0 := fun (o : Nat) => hb.frozen (p := ⟨wc.heap.size, o, none⟩) (by first | (simp; done) | (simp; omega) | omega))); obtain ⟨hbc, hbf⟩ := bcell hb))
            go_roundw
            case rel =>
              (repeat apply Exists.intro)
              refine ⟨?_, rfl⟩
              refine ⟨kk, ?_, by subst hkk; go_num, ?_, hB0, by (first | (simp; done) | (simp; omega) | omega), by (repeat (first | (with_reducible exact Below.refl _ _) | (with_reducible refine bl_alloc ?_ ?_ _; focus (first | omega | (simp; done) | (simp; omega))) | (with_reducible refine bl_set ?_ ?_ _; focus (first | omega | (simp; done) | (simp; omega))) | (with_reducible refine Below.drew ?_) | (with_reducible refine below_drewN ?_ _) | (with_reducible refine below_step ?_ (by assumption))))⟩
              · omega
              · refine ⟨?_, ?_, ?_, ?_, ?_, ?_, ?_⟩ <;> (first | (simp [go_sem, *]; done) | (simp (disch := (first | ((try dsimp only); omega) | (simp; done) | (simp; omega))) [go_sem, *, World.cell?_alloc_old, World.cell?_setCell_far]; done))
            case measure => simp [intOf]
        · obtain rfl : k = 6 := by omega
          have hrb := SR_root i hi
          go_wp2_with (go_at_call 17; ((with_reducible refine (iRootIn_any _ _ _ _ _ _ _ _).mono ?_); rintro e w' ⟨rfl, hb⟩; have hbz := hb.size; (try simp only [World.size_alloc, World.size_drew, World.size_setCell] at hbz); (try have hbl := Nat.lt_of_succ_le hbz); (try (have k0 := fun (o : Nat) => hb.cell (p := ⟨w.heap.size, o, none⟩) (by first | (simp; done) | (simp; omega) | omega))); (try (have k1 := fun (o : Nat) => hb.cell (p := ⟨w.heap.size + 1, o, none⟩) (by first | (simp; done) | (simp; omega) | omega))); (try (have k2 := fun (o : Nat) => hb.cell (p := ⟨w.heap.size + 1 + 1, o, none⟩) (by first | (simp; done) | (simp; omega) | omega))); (try (have k3 := fun (o : Nat) => hb.cell (p := ⟨w.heap.size + 1 + 1 + 1, o, none⟩) (by first | (simp; done) | (simp; omega) | omega))); (try (have k4 := fun (o : Nat) => hb.cell (p := ⟨w.heap.size + 1 + 1 + 1 + 1, o, none⟩) (by first | (simp; done) | (simp; omega) | omega))); (try (have k5 := fun (o : Nat) => hb.cell (p := ⟨w.heap.size + 1 + 1 + 1 + 1 + 1, o, none⟩) (by first | (simp; done) | (simp; omega) | omega))); (try (have f0 := fun (o : Nat) => hb.frozen (p := ⟨w.heap.size, o, none⟩) (by first | (simp; done) | (simp; omega) | omega))); (try (have f1 := fun (o : Nat) => hb.frozen (p := ⟨w.heap.size + 1, o, none⟩) (by first | (simp; done) | (simp; omega) | omega))); (try (have f2 := fun (o : Nat) => hb.frozen (p := ⟨w.heap.size + 1 + 1, o, none⟩) (by first | (simp; done) | (simp; omega) | omega))); (try (have f3 := fun (o : Nat) => hb.frozen (p := ⟨w.heap.size + 1 + 1 + 1, o, none⟩) (by first | (simp; done) | (simp; omega) | omega))); (try (have f4 := fun (o : Nat) => hb.frozen (p := ⟨w.heap.size + 1 + 1 + 1 + 1, o, none⟩) (by first | (simp; done) | (simp; omega) | omega))); (try (have f5 := fun (o : Nat) => hb.frozen (p := ⟨w.heap.size + 1 + 1 + 1 + 1 + 1, o, none⟩) (by first | (simp; done) | (simp; omega) | omega))); (try (have j1 := fun (o : Nat) => hb.cell (p := ⟨B1, o, none⟩) (by first | (simp; done) | (simp; omega) | omega))); (try (have g1 := fun (o : Nat) => hb.frozen (p := ⟨B1, o, none⟩) (by first | (simp; done) | (simp; omega) | omega))); (try (have j2 := fun (o : Nat) => hb.cell (p := ⟨B2, o, none⟩) (by first | (simp; done) | (simp; omega) | omega))); (try (have g2 := fun (o : Nat) => hb.frozen (p := ⟨B2, o, none⟩) (by first | (simp; done) | (simp; omega) | omega))); (try (have j0 := fun (o : Nat) => hb.cell (p := ⟨wc.heap.size, o, none⟩) (by first | (simp; done) | (simp; omega) | omega))); (try (have g0 := fun (o : Nat) => hb.frozen (p := ⟨wc.heap.size, o, none⟩) (by first | (simp; done) | (simp; omega) | omega))); obtain ⟨hbc, hbf⟩ := bcell hb))
          go_ret
          exact ⟨rfl, by (repeat (first | (with_reducible exact Below.refl _ _) | (with_reducible refine bl_alloc ?_ ?_ _; focus (first | omega | (simp; done) | (simp; omega))) | (with_reducible refine bl_set ?_ ?_ _; focus (first | omega | (simp; done) | (simp; omega))) | (with_reducible refine Below.drew ?_) | (with_reducible refine below_drewN ?_ _) | (with_reducible refine below_step ?_ (by assumption))))⟩
    · have hi : x < 0 ∨ 5 < x := by omega
      clear hr
      have hn := fun (W : World) => ne_self zeroC W
      have hq := fun (W : World) => eq_self zeroC W
      simp only [zeroC] at hn hq
      go_wp2_with (first | (go_at_call 14; ((with_reducible refine (iRootSimple_out _ hi _).mono ?_); rintro e w' ⟨rfl, hb⟩; have hbz := hb.size; (try simp only [World.size_alloc, World.size_drew, World.size_setCell] at hbz); (try have hbl := Nat.lt_of_succ_le hbz); (try (have k0 := fun (o : Nat) => hb.cell (p := ⟨w.heap.size, o, none⟩) (by first | (simp; done) | (simp; omega) | omega))); (try (have k1 := fun (o : Nat) => hb.cell (p := ⟨w.heap.size + 1, o, none⟩) (by first | (simp; done) | (simp; omega) | omega))); (try (have k2 := fun (o : Nat) => hb.cell (p := ⟨w.heap.size + 1 + 1, o, none⟩) (by first | (simp; done) | (simp; omega) | omega))); (try (have k3 := fun (o : Nat) => hb.cell (p := ⟨w.heap.size + 1 + 1 + 1, o, none⟩) (by first | (simp; done) | (simp; omega) | omega))); (try (have k4 := fun (o : Nat) => hb.cell (p := ⟨w.heap.size + 1 + 1 + 1 + 1, o, none⟩) (by first | (simp; done) | (simp; omega) | omega))); (try (have k5 := fun (o : Nat) => hb.cell (p := ⟨w.heap.size + 1 + 1 + 1 + 1 + 1, o, none⟩) (by first | (simp; done) | (simp; omega) | omega))); (try (have f0 := fun (o : Nat) => hb.frozen (p := ⟨w.heap.size, o, none⟩) (by first | (simp; done) | (simp; omega) | omega))); (try (have f1 := fun (o : Nat) => hb.frozen (p := ⟨w.heap.size + 1, o, none⟩) (by first | (simp; done) | (simp; omega) | omega))); (try (have f2 := fun (o : Nat) => hb.frozen (p := ⟨w.heap.size + 1 + 1, o, none⟩) (by first | (simp; done) | (simp; omega) | omega))); (try (have f3 := fun (o : Nat) => hb.frozen (p := ⟨w.heap.size + 1 + 1 + 1, o, none⟩) (by first | (simp; done) | (simp; omega) | omega))); (try (have f4 := fun (o : Nat) => hb.frozen (p := ⟨w.heap.size + 1 + 1 + 1 + 1, o, none⟩) (by first | (simp; done) | (simp; omega) | omega))); (try (have f5 := fun (o : Nat) => hb.frozen (p := ⟨w.heap.size + 1 + 1 + 1 + 1 + 1, o, none⟩) (by first | (simp; done) | (simp; omega) | omega))); (try (have j1 := fun (o : Nat) => hb.cell (p := ⟨B1, o, none⟩) (by first | (simp; done) | (simp; omega) | omega))); (try (have g1 := fun (o : Nat) => hb.frozen (p := ⟨B1, o, none⟩) (by first | (simp; done) | (simp; omega) | omega))); (try (have j2 := fun (o : Nat) => hb.cell (p := ⟨B2, o, none⟩) (by first | (simp; done) | (simp; omega) | omega))); (try (have g2 := fun (o : Nat) => hb.frozen (p := ⟨B2, o, none⟩) (by first | (simp; done) | (simp; omega) | omega))); (try (have j0 := fun (o : Nat) => hb.cell (p := ⟨wc.heap.size, o, none⟩) (by first | (simp; done) | (simp; omega) | omega))); (try (have g0 := fun (o : Nat) => hb.frozen (p := ⟨wc.heap.size, o, none⟩) (by first | (simp; done) | (simp; omega) | omega))); obtain ⟨hbc, hbf⟩ := bcell hb)) | (go_at_call 15; ((with_reducible refine (sRootSimple_out _ hi _).mono ?_); rintro e w' ⟨rfl, hb⟩; have hbz := hb.size; (try simp only [World.size_alloc, World.size_drew, World.size_setCell] at hbz); (try have hbl := Nat.lt_of_succ_le hbz); (try (have k0 := fun (o : Nat) => hb.cell (p := ⟨w.heap.size, o, none⟩) (by first | (simp; done) | (simp; omega) | omega))); (try (have k1 := fun (o : Nat) => hb.cell (p := ⟨w.heap.size + 1, o, none⟩) (by first | (simp; done) | (simp; omega) | omega))); (try (have k2 := fun (o : Nat) => hb.cell (p := ⟨w.heap.size + 1 + 1, o, none⟩) (by first | (simp; done) | (simp; omega) | omega))); (try (have k3 := fun (o : Nat) => hb.cell (p := ⟨w.heap.size + 1 + 1 + 1, o, none⟩) (by first | (simp; done) | (simp; omega) | omega))); (try (have k4 := fun (o : Nat) => hb.cell (p := ⟨w.heap.size + 1 + 1 + 1 + 1, o, none⟩) (by first | (simp; done) | (simp; omega) | omega))); (try (have k5 := fun (o : Nat) => hb.cell (p := ⟨w.heap.size + 1 + 1 + 1 + 1 + 1, o, none⟩) (by first | (simp; done) | (simp; omega) | omega))); (try (have f0 := fun (o : Nat) => hb.frozen (p := ⟨w.heap.size, o, none⟩) (by first | (simp; done) | (simp; omega) | omega))); (try (have f1 := fun (o : Nat) => hb.frozen (p := ⟨w.heap.size + 1, o, none⟩) (by first | (simp; done) | (simp; omega) | omega))); (try (have f2 := fun (o : Nat) => hb.frozen (p := ⟨w.heap.size + 1 + 1, o, none⟩) (by first | (simp; done) | (simp; omega) | omega))); (try (have f3 := fun (o : Nat) => hb.frozen (p := ⟨w.heap.size + 1 + 1 + 1, o, none⟩) (by first | (simp; done) | (simp; omega) | omega))); (try (have f4 := fun (o : Nat) => hb.frozen (p := ⟨w.heap.size + 1 + 1 + 1 + 1, o, none⟩) (by first | (simp; done) | (simp; omega) | omega))); (try (have f5 := fun (o : Nat) => hb.frozen (p := ⟨w.heap.size + 1 + 1 + 1 + 1 + 1, o, none⟩) (by first | (simp; done) | (simp; omega) | omega))); (try (have j1 := fun (o : Nat) => hb.cell (p := ⟨B1, o, none⟩) (by first | (simp; done) | (simp; omega) | omega))); (try (have g1 := fun (o : Nat) => hb.frozen (p := ⟨B1, o, none⟩) (by first | (simp; done) | (simp; omega) | omega))); (try (have j2 := fun (o : Nat) => hb.cell (p := ⟨B2, o, none⟩) (by first | (simp; done) | (simp; omega) | omega))); (try (have g2 := fun (o : Nat) => hb.frozen (p := ⟨B2, o, none⟩) (by first | (simp; done) | (simp; omega) | omega))); (try (have j0 := fun (o : Nat) => hb.cell (p := ⟨wc.heap.size, o, none⟩) (by first | (simp; done) | (simp; omega) | omega))); (try (have g0 := fun (o : Nat) => hb.frozen (p := ⟨wc.heap.size, o, none⟩) (by first | (simp; done) | (simp; omega) | omega))); obtain ⟨hbc, hbf⟩ := bcell hb)))
      go_ret
      exact ⟨rfl, by (repeat (first | (with_reducible exact Below.refl _ _) | (with_reducible refine bl_alloc ?_ ?_ _; focus (first | omega | (simp; done) | (simp; omega))) | (with_reducible refine bl_set ?_ ?_ _; focus (first | omega | (simp; done) | (simp; omega))) | (with_reducible refine Below.drew ?_) | (with_reducible refine below_drewN ?_ _) | (with_reducible refine below_step ?_ (by assumption))))⟩

set_option maxRecDepth 100000 in
theorem lifted (os : Os) (started : os.Started) (H : Type) (enc : TypeId × Value → H) :
    ReturnsInHanded {} Try.checked os 3 .any (Rows.fnSimpleSpec.pre6 enc Try.prog Try.f3 Rows.fnSimpleRow.domain false) (Rows.fnSimpleSpec.post enc Try.prog Try.f3 false true false false) := by
  refine returnsInHanded_of_change (C := Try.checked) own started (by kernel_rfl) Try.func3
    (ChangeSpec.witness6 (enc := enc) (C := Try.checked) false ⟨#[], #[.slice none 0 0], []⟩ 8 (by kernel_rfl) (by kernel_rfl) (by kernel_rfl) (by kernel_rfl)) ?_
  intro W base args ds gs before hval0 hW hcnd _
  have hval : ∀ (j : Nat) t v, Try.f3.params[j]? = some t → args[j]? = some v → Value.okWide Try.prog W .any base t v := hval0
  have hW' := hW
  obtain ⟨p, q, hA0, hV, rfl, hfz, hnd⟩ := hW
  have hA : DataW.TrodAll enc Try.prog W 0 (fun _ => true) true Try.f3.params.toList args.toList ds p := hA0
  rw [Try.params3] at hA hval
  obtain ⟨v0, vs0, d0, ds0, p0, q0, hargs, rfl, rfl, h0, r0⟩ := trodAll_cons hA
  obtain ⟨rfl, rfl, rfl⟩ := trodAll_nil r0
  obtain rfl : args = #[v0] := by cases args; simp_all
  obtain ⟨rfl, rfl⟩ := trodVars_none hV
  obtain ⟨a0, len0, cap0, rfl⟩ := okWide_slice Try.underlying22 (hval 0 22 v0 rfl rfl)
  have k0 := h0
  have lt0 : ∀ x ∈ p0, x.block < W.heap.size := by obtain ⟨m, hm⟩ := k0; exact DataW.trod_lt m _ _ _ hm
  obtain ⟨l0, w0⟩ : ∃ l, ArgRow .u8 W a0 len0 cap0 l := by
    obtain ⟨fuel, hf⟩ := h0
    rcases open_ints Try.underlying22 Try.underlying5 (by kernel_rfl) hf with ⟨hcs, _⟩ | ⟨x, l, c, zs, hcs, _, hl, hm, hz, _, hcell, hwz⟩
    · simp [Value.cells] at hcs
      obtain ⟨rfl, rfl, rfl⟩ := hcs
      exact ⟨[], rfl, ⟨Nat.le_refl _, by unfold maxLen; omega⟩, by simp, .inl rfl⟩
    · simp [Value.cells] at hcs
      obtain ⟨rfl, rfl, rfl⟩ := hcs
      exact ⟨_, argRow_of hl hm (by simpa using hz) hcell hwz⟩
  clear hA0 hval0
  refine (walk a0 len0 cap0 l0 W w0).mono fun e W' ⟨he, bel⟩ => ?_
  subst he
  exact ⟨_, rfl, _, _, _, [], _, [], hW', trodAll_mk1 (shut_bool Try.underlying4 _), (trodAll_cons_mk (Below.trod laidOut (by kernel_rfl) (of_decide_eq_true (by kernel_rfl)) k0 bel lt0) trodAll_mk0), rfl, bel.frame _, fun h => by cases h⟩

theorem over : Rows.fnSimpleRow.holds Try.pinned (OpenSpec.ofChange Rows.fnSimpleSpec) :=
  OpenClaim.holds_of_wide 3 Try.f3 rfl rfl rfl rfl rfl rfl rfl ⟨rfl, rfl, rfl, rfl, rfl⟩ rfl rfl rfl rfl rfl (by kernel_rfl) Try.func3 (by kernel_rfl)
    (of_decide_eq_true (by kernel_rfl)) (by unfold Func.isWrapper; first | (rw [if_pos (by decide +kernel)]; kernel_rfl) | (rw [if_neg (by decide +kernel)]; exact ⟨rfl, rfl⟩))
    (fun os started H enc _ => lifted os started H enc)

theorem proved : Rows.FnSimpleSaid := over
#print axioms proved
end Go.Proofs.Ytogmfadeedmmaaa.lawSimple
