/- Each line meets ten: for every code the drawn line's list has ten lines, each of which meets one other of them. No condition. -/
import Derived.Test.YtogmfadeedmmaaaLists
import Derived.Test.YtogmfadeedmmaaaMeeting
import Derived.Test.YtogmfadeedmmaaaDraw
import Derived.Test.YtogmfadeedmmaaaSame
import Derived.Test.YtogmfadeedmmaaaArg
import Derived.Test.YtogmfadeedmmaaaMan
import Derived.Test.YtogmfadeedmmaaaArg
namespace Go.Proofs.Ytogmfadeedmmaaa.lawMeeting
open Go.ChangeShapes Go.WideShapes Go.ChangeAt Go.RowKit
set_option linter.unusedVariables false
set_option linter.unusedSimpArgs false

set_option maxRecDepth 20000 in
set_option maxHeartbeats 16000000 in
theorem walk (a0 : Option Addr) (n0 cap0 : Nat) (l0 : List Int) (w : World) (h0 : ArgRow .u8 w a0 n0 cap0 l0) :
    Calls Try.prog 7 #[.slice a0 n0 cap0] w fun e w' => e = .returned (.bool true) ∧ Below w.heap.size w w' := by
  by_cases hbig : 1048576 < n0
  · go_enter Try.func7, Try.ntmps7
    go_wp2
    go_ret
    exact ⟨rfl, by (repeat (first | (with_reducible exact Below.refl _ _) | (with_reducible refine bl_alloc ?_ ?_ _; focus (first | omega | (simp; done) | (simp; omega))) | (with_reducible refine bl_set ?_ ?_ _; focus (first | omega | (simp; done) | (simp; omega))) | (with_reducible refine Below.drew ?_) | (with_reducible refine below_drewN ?_ _) | (with_reducible refine below_step ?_ (by assumption))))⟩
  · go_enter Try.func7, Try.ntmps7
    go_wp2_with fail
    refine (drawLineMeeting_any a0 n0 cap0 l0 _ h0).mono ?_
    rintro e wc ⟨x, rfl, ⟨hx0, hx1⟩, hb1⟩
    have hsz := hb1.size
    clear h0
    by_cases hr : 0 ≤ x ∧ x ≤ 26
    · obtain ⟨i, rfl⟩ : ∃ k : Nat, x = k := ⟨x.toNat, by omega⟩
      have hi : i < 27 := by omega
      clear hr
      have c1 := iMeeting_in i hi
      have c2 := sMeeting_in i hi
      have hlen := ml_len i hi
      have hval := ml_val i hi
      have hcnt := ml_cnt i hi
      generalize linesB (mtB i) 27 = L at c1 c2 hlen hval
      have HLEN := Lib.hid hlen
      have HVAL := Lib.hid hval
      have HCNT := Lib.hid hcnt
      have C1 := Lib.hid c1
      have C2 := Lib.hid c2
      clear hlen hval hcnt c1 c2
      go_wp2_with fail
      refine (C1.out _).mono ?_
      rintro e w1 ⟨ga, ca, rfl, hga, hra, hb2⟩
      go_wp2_with fail
      refine (C2.out _).mono ?_
      rintro e w2 ⟨gb, cb, rfl, hgb, hrb, hb3⟩
      have hra2 := hra.below hb3
      go_wp2_with fail
      refine (sameInts_same ga gb ca cb L (by have := HLEN.out; omega) _ hra2 hrb).mono ?_
      rintro e w3 ⟨rfl, hb4⟩
      have hra3 := hra2.below hb4
      go_wp2_with fail
      have hs2 := hb2.size
      have hs3 := hb3.size
      have hs4 := hb4.size
      clear hra hra2 hrb
      go_loopw [8] (fun c wr => ∃ x : Nat, x ≤ 10 ∧ c = .int .i64 x ∧ Row wr ga L ∧ Below w.heap.size w wr) (fun c _ => 10 - (intOf c).toNat)
      case atStart => exact ⟨0, by omega, rfl, hra3, by (repeat (first | (with_reducible exact Below.refl _ _) | (with_reducible refine bl_alloc ?_ ?_ _; focus (first | omega | (simp; done) | (simp; omega))) | (with_reducible refine bl_set ?_ ?_ _; focus (first | omega | (simp; done) | (simp; omega))) | (with_reducible refine Below.drew ?_) | (with_reducible refine below_drewN ?_ _) | (with_reducible refine below_step ?_ (by assumption))))⟩
      case round =>
        obtain ⟨x, hx, rfl, hrow, hb0⟩ := hrel
        clear hra3 hb2 hb3 hb4
        have hlen := HLEN.out
        have hLl : L.length ≤ 10 := by omega
        have hLg : 10 ≤ L.length := by omega
        clear hlen
        by_cases hlt : x < 10
        · obtain ⟨hm27, hmv, hmt, hinc⟩ := HVAL.out x hlt
          have b1 : (x : Int) < (L.length : Int) := by omega
          go_wp2_with fail
          go_loopw [9, 10] (fun nn c wr => ∃ y : Nat, y ≤ 10 ∧ c = .int .i64 y ∧ nn = .int .i64 (cntM i x y : Nat) ∧ Row wr ga L ∧ Below w.heap.size w wr) (fun _ c _ => 10 - (intOf c).toNat)
          case atStart => exact ⟨0, by omega, rfl, by rw [cnt_0]; rfl, hrow, hb0⟩
          case round =>
            obtain ⟨y, hy, rfl, rfl, hrow, hb0⟩ := hrel
            have hszr := hb0.size
            have hcl := cnt_le i x y
            have c1 := hrow.cell x (by omega)
            rw [hmv] at c1
            have hgl := hrow.lt
            by_cases hlty : y < 10
            · obtain ⟨hn27, hnv, _, _⟩ := HVAL.out y hlty
              have b2 : (y : Int) < (L.length : Int) := by omega
              have c2 := hrow.cell y (by omega)
              rw [hnv] at c2
              cases hm : mtB (ml i x) (ml i y)
              · go_wp2_with fail
                go_region_held3 (fun w' => w'.cell? ⟨ga, x, none⟩ = some (.int .i64 (ml i x : Nat)) ∧ w'.cell? ⟨ga, y, none⟩ = some (.int .i64 (ml i y : Nat))) ((refine ⟨?_, ?_⟩ <;> (first | (simp [go_sem, *]; done) | assumption | (rw [hbc _ _ (by first | omega | (simp; omega))]; first | assumption | (simp [go_sem, *]; done))))) ((go_at_call 23; ((with_reducible refine (iLineMeets_in (ml i x) (ml i y) hm27 hn27 _).mono ?_); rintro e w' ⟨rfl, hb⟩; have hbz := hb.size; (try simp only [World.size_alloc, World.size_drew, World.size_setCell] at hbz); (try have hbl := Nat.lt_of_succ_le hbz); (try (have k0 := fun (o : Nat) => hb.cell (p := ⟨w.heap.size, o, none⟩) (by first | (simp; done) | (simp; omega) | omega))); (try (have k1 := fun (o : Nat) => hb.cell (p := ⟨w.heap.size + 1, o, none⟩) (by first | (simp; done) | (simp; omega) | omega))); (try (have k2 := fun (o : Nat) => hb.cell (p := ⟨w.heap.size + 1 + 1, o, none⟩) (by first | (simp; done) | (simp; omega) | omega))); (try (have k3 := fun (o : Nat) => hb.cell (p := ⟨w.heap.size + 1 + 1 + 1, o, none⟩) (by first | (simp; done) | (simp; omega) | omega))); (try (have k4 := fun (o : Nat) => hb.cell (p := ⟨w.heap.size + 1 + 1 + 1 + 1, o, none⟩) (by first | (simp; done) | (simp; omega) | omega))); (try (have k5 := fun (o : Nat) => hb.cell (p := ⟨w.heap.size + 1 + 1 + 1 + 1 + 1, o, none⟩) (by first | (simp; done) | (simp; omega) | omega))); (try (have f0 := fun (o : Nat) => hb.frozen (p := ⟨w.heap.size, o, none⟩) (by first | (simp; done) | (simp; omega) | omega))); (try (have f1 := fun (o : Nat) => hb.frozen (p := ⟨w.heap.size + 1, o, none⟩) (by first | (simp; done) | (simp; omega) | omega))); (try (have f2 := fun (o : Nat) => hb.frozen (p := ⟨w.heap.size + 1 + 1, o, none⟩) (by first | (simp; done) | (simp; omega) | omega))); (try (have f3 := fun (o : Nat) => hb.frozen (p := ⟨w.heap.size + 1 + 1 + 1, o, none⟩) (by first | (simp; done) | (simp; omega) | omega))); (try (have f4 := fun (o : Nat) => hb.frozen (p := ⟨w.heap.size + 1 + 1 + 1 + 1, o, none⟩) (by first | (simp; done) | (simp; omega) | omega))); (try (have f5 := fun (o : Nat) => hb.frozen (p := ⟨w.heap.size + 1 + 1 + 1 + 1 + 1, o, none⟩) (by first | (simp; done) | (simp; omega) | omega))); (try (have j1 := fun (o : Nat) => hb.cell (p := ⟨B1, o, none⟩) (by first | (simp; done) | (simp; omega) | omega))); (try (have g1 := fun (o : Nat) => hb.frozen (p := ⟨B1, o, none⟩) (by first | (simp; done) | (simp; omega) | omega))); (try (have j2 := fun (o : Nat) => hb.cell (p := ⟨B2, o, none⟩) (by first | (simp; done) | (simp; omega) | omega))); (try (have g2 := fun (o : Nat) => hb.frozen (p := ⟨B2, o, none⟩) (by first | (simp; done) | (simp; omega) | omega))); (try (have j0 := fun (o : Nat) => hb.cell (p := ⟨wc.heap.size, o, none⟩) (by first | (simp; done) | (simp; omega) | omega))); (try (have g0 := fun (o : Nat) => hb.frozen (p := ⟨wc.heap.size, o, none⟩) (by first | (simp; done) | (simp; omega) | omega))); obtain ⟨hbc, hbf⟩ := bcell hb)))
                all_goals
                  go_wp2
                  go_roundw
                  case rel => exact ⟨y + 1, by omega, by go_num, by first | (rw [cnt_f hm]; done) | (rw [cnt_f hm]; go_num), hrow.below (by (repeat (first | (with_reducible exact Below.refl _ _) | (with_reducible refine bl_alloc ?_ ?_ _; focus (first | omega | (simp; done) | (simp; omega))) | (with_reducible refine bl_set ?_ ?_ _; focus (first | omega | (simp; done) | (simp; omega))) | (with_reducible refine Below.drew ?_) | (with_reducible refine below_drewN ?_ _) | (with_reducible refine below_step ?_ (by assumption))))), by (repeat (first | (with_reducible exact Below.refl _ _) | (with_reducible refine bl_alloc ?_ ?_ _; focus (first | omega | (simp; done) | (simp; omega))) | (with_reducible refine bl_set ?_ ?_ _; focus (first | omega | (simp; done) | (simp; omega))) | (with_reducible refine Below.drew ?_) | (with_reducible refine below_drewN ?_ _) | (with_reducible refine below_step ?_ (by assumption))))⟩
                  case measure => ((simp [intOf]) <;> omega)
              · go_wp2_with fail
                go_region_held3 (fun w' => w'.cell? ⟨ga, x, none⟩ = some (.int .i64 (ml i x : Nat)) ∧ w'.cell? ⟨ga, y, none⟩ = some (.int .i64 (ml i y : Nat))) ((refine ⟨?_, ?_⟩ <;> (first | (simp [go_sem, *]; done) | assumption | (rw [hbc _ _ (by first | omega | (simp; omega))]; first | assumption | (simp [go_sem, *]; done))))) ((go_at_call 23; ((with_reducible refine (iLineMeets_in (ml i x) (ml i y) hm27 hn27 _).mono ?_); rintro e w' ⟨rfl, hb⟩; have hbz := hb.size; (try simp only [World.size_alloc, World.size_drew, World.size_setCell] at hbz); (try have hbl := Nat.lt_of_succ_le hbz); (try (have k0 := fun (o : Nat) => hb.cell (p := ⟨w.heap.size, o, none⟩) (by first | (simp; done) | (simp; omega) | omega))); (try (have k1 := fun (o : Nat) => hb.cell (p := ⟨w.heap.size + 1, o, none⟩) (by first | (simp; done) | (simp; omega) | omega))); (try (have k2 := fun (o : Nat) => hb.cell (p := ⟨w.heap.size + 1 + 1, o, none⟩) (by first | (simp; done) | (simp; omega) | omega))); (try (have k3 := fun (o : Nat) => hb.cell (p := ⟨w.heap.size + 1 + 1 + 1, o, none⟩) (by first | (simp; done) | (simp; omega) | omega))); (try (have k4 := fun (o : Nat) => hb.cell (p := ⟨w.heap.size + 1 + 1 + 1 + 1, o, none⟩) (by first | (simp; done) | (simp; omega) | omega))); (try (have k5 := fun (o : Nat) => hb.cell (p := ⟨w.heap.size + 1 + 1 + 1 + 1 + 1, o, none⟩) (by first | (simp; done) | (simp; omega) | omega))); (try (have f0 := fun (o : Nat) => hb.frozen (p := ⟨w.heap.size, o, none⟩) (by first | (simp; done) | (simp; omega) | omega))); (try (have f1 := fun (o : Nat) => hb.frozen (p := ⟨w.heap.size + 1, o, none⟩) (by first | (simp; done) | (simp; omega) | omega))); (try (have f2 := fun (o : Nat) => hb.frozen (p := ⟨w.heap.size + 1 + 1, o, none⟩) (by first | (simp; done) | (simp; omega) | omega))); (try (have f3 := fun (o : Nat) => hb.frozen (p := ⟨w.heap.size + 1 + 1 + 1, o, none⟩) (by first | (simp; done) | (simp; omega) | omega))); (try (have f4 := fun (o : Nat) => hb.frozen (p := ⟨w.heap.size + 1 + 1 + 1 + 1, o, none⟩) (by first | (simp; done) | (simp; omega) | omega))); (try (have f5 := fun (o : Nat) => hb.frozen (p := ⟨w.heap.size + 1 + 1 + 1 + 1 + 1, o, none⟩) (by first | (simp; done) | (simp; omega) | omega))); (try (have j1 := fun (o : Nat) => hb.cell (p := ⟨B1, o, none⟩) (by first | (simp; done) | (simp; omega) | omega))); (try (have g1 := fun (o : Nat) => hb.frozen (p := ⟨B1, o, none⟩) (by first | (simp; done) | (simp; omega) | omega))); (try (have j2 := fun (o : Nat) => hb.cell (p := ⟨B2, o, none⟩) (by first | (simp; done) | (simp; omega) | omega))); (try (have g2 := fun (o : Nat) => hb.frozen (p := ⟨B2, o, none⟩) (by first | (simp; done) | (simp; omega) | omega))); (try (have j0 := fun (o : Nat) => hb.cell (p := ⟨wc.heap.size, o, none⟩) (by first | (simp; done) | (simp; omega) | omega))); (try (have g0 := fun (o : Nat) => hb.frozen (p := ⟨wc.heap.size, o, none⟩) (by first | (simp; done) | (simp; omega) | omega))); obtain ⟨hbc, hbf⟩ := bcell hb)))
                all_goals
                  go_wp2
                  go_roundw
                  case rel => exact ⟨y + 1, by omega, by go_num, by first | (rw [cnt_t hm]; done) | (rw [cnt_t hm]; go_num), hrow.below (by (repeat (first | (with_reducible exact Below.refl _ _) | (with_reducible refine bl_alloc ?_ ?_ _; focus (first | omega | (simp; done) | (simp; omega))) | (with_reducible refine bl_set ?_ ?_ _; focus (first | omega | (simp; done) | (simp; omega))) | (with_reducible refine Below.drew ?_) | (with_reducible refine below_drewN ?_ _) | (with_reducible refine below_step ?_ (by assumption))))), by (repeat (first | (with_reducible exact Below.refl _ _) | (with_reducible refine bl_alloc ?_ ?_ _; focus (first | omega | (simp; done) | (simp; omega))) | (with_reducible refine bl_set ?_ ?_ _; focus (first | omega | (simp; done) | (simp; omega))) | (with_reducible refine Below.drew ?_) | (with_reducible refine below_drewN ?_ _) | (with_reducible refine below_step ?_ (by assumption))))⟩
                  case measure => ((simp [intOf]) <;> omega)
            · obtain rfl : y = 10 := by omega
              have hc1 := HCNT.out x hlt
              by_cases hx0' : x = 0
              · subst hx0'
                have hc1' : ((cntM i 0 10 : Nat) : Int) = 1 := by rw [hc1]; rfl
                simp only [hc1']
                have hLn : ¬ (L = []) := by intro e; rw [e] at hLg; simp at hLg
                have hL0 : (0 : Int) < (L.length : Int) := by omega
                go_wp2_with fail
                refine wp_region_held_drew (S := (fun w' => w'.cell? ⟨ga, 0, none⟩ = some (.int .i64 (ml i 0 : Nat)))) (by kernel_rfl) (by exact c1) (fun hHeld => ?_)
                refine take1 0 70 (.int .i64 1) rfl rfl (by kernel_rfl) (by kernel_rfl) (by kernel_rfl) (fun _ _ _ h => h) (by rfl) (fun W hW => by first | rfl | ((try dsimp only at hW); go_simp)) (by assumption) ?_
                simp only [List.set_cons_zero, List.set_cons_succ]
                refine take1 1 71 (.bool false) rfl rfl (by kernel_rfl) (by kernel_rfl) (by kernel_rfl) (fun _ _ _ h => h) (by rfl) (fun W hW => by first | rfl | ((try dsimp only at hW); go_simp)) (by assumption) ?_
                simp only [List.set_cons_zero, List.set_cons_succ]
                refine take1 2 72 (.bool false) rfl rfl (by kernel_rfl) (by kernel_rfl) (by kernel_rfl) (fun _ _ _ h => h) (by rfl) (fun W hW => by first | rfl | ((try dsimp only at hW); go_simp)) (by assumption) ?_
                simp only [List.set_cons_zero, List.set_cons_succ]
                refine take1 3 73 (.int .i64 (i : Int)) rfl rfl (by kernel_rfl) (by kernel_rfl) (by kernel_rfl) (fun _ _ _ h => h) (by rfl) (fun W hW => by first | rfl | ((try dsimp only at hW); go_simp)) (by assumption) ?_
                simp only [List.set_cons_zero, List.set_cons_succ]
                refine take1 4 74 (.slice (some ⟨ga, 0, none⟩) L.length ca) rfl rfl (by kernel_rfl) (by kernel_rfl) (by kernel_rfl) (fun _ _ _ h => h) (by rfl) (fun W hW => by first | rfl | ((try dsimp only at hW); go_simp)) (by assumption) ?_
                simp only [List.set_cons_zero, List.set_cons_succ]
                refine take1 5 75 (.int .i64 0) rfl rfl (by kernel_rfl) (by kernel_rfl) (by kernel_rfl) (fun _ _ _ h => h) (by rfl) (fun W hW => by first | rfl | ((try dsimp only at hW); go_simp)) (by assumption) ?_
                simp only [List.set_cons_zero, List.set_cons_succ]
                refine take1 6 76 (.pointer (some ⟨ga, 0, none⟩)) rfl rfl (by kernel_rfl) (by kernel_rfl) (by kernel_rfl) (fun _ _ _ h => h) (by rfl) (fun W hW => by first | rfl | ((try dsimp only at hW); go_simp)) (by assumption) ?_
                simp only [List.set_cons_zero, List.set_cons_succ]
                refine take1 7 77 (.int .i64 (ml i 0 : Nat)) rfl rfl (by kernel_rfl) (by kernel_rfl) (by kernel_rfl) (fun _ _ _ h => h) (by rfl) (fun W hW => by first | rfl | ((try dsimp only at hW); go_simp)) (by assumption) ?_
                simp only [List.set_cons_zero, List.set_cons_succ]
                refine wpAnyH_ready (rs := [8]) (by kernel_rfl) (by simp) ?_
                refine AllReadyH.cons rfl (fun K hK => ?_) AllReadyH.nil
                go_simp
                (go_at_call 23; ((with_reducible refine (iLineMeets_in i (ml i 0) hi hm27 _).mono ?_); rintro e w' ⟨rfl, hb⟩; have hbz := hb.size; (try simp only [World.size_alloc, World.size_drew, World.size_setCell] at hbz); (try have hbl := Nat.lt_of_succ_le hbz); (try (have k0 := fun (o : Nat) => hb.cell (p := ⟨w.heap.size, o, none⟩) (by first | (simp; done) | (simp; omega) | omega))); (try (have k1 := fun (o : Nat) => hb.cell (p := ⟨w.heap.size + 1, o, none⟩) (by first | (simp; done) | (simp; omega) | omega))); (try (have k2 := fun (o : Nat) => hb.cell (p := ⟨w.heap.size + 1 + 1, o, none⟩) (by first | (simp; done) | (simp; omega) | omega))); (try (have k3 := fun (o : Nat) => hb.cell (p := ⟨w.heap.size + 1 + 1 + 1, o, none⟩) (by first | (simp; done) | (simp; omega) | omega))); (try (have k4 := fun (o : Nat) => hb.cell (p := ⟨w.heap.size + 1 + 1 + 1 + 1, o, none⟩) (by first | (simp; done) | (simp; omega) | omega))); (try (have k5 := fun (o : Nat) => hb.cell (p := ⟨w.heap.size + 1 + 1 + 1 + 1 + 1, o, none⟩) (by first | (simp; done) | (simp; omega) | omega))); (try (have f0 := fun (o : Nat) => hb.frozen (p := ⟨w.heap.size, o, none⟩) (by first | (simp; done) | (simp; omega) | omega))); (try (have f1 := fun (o : Nat) => hb.frozen (p := ⟨w.heap.size + 1, o, none⟩) (by first | (simp; done) | (simp; omega) | omega))); (try (have f2 := fun (o : Nat) => hb.frozen (p := ⟨w.heap.size + 1 + 1, o, none⟩) (by first | (simp; done) | (simp; omega) | omega))); (try (have f3 := fun (o : Nat) => hb.frozen (p := ⟨w.heap.size + 1 + 1 + 1, o, none⟩) (by first | (simp; done) | (simp; omega) | omega))); (try (have f4 := fun (o : Nat) => hb.frozen (p := ⟨w.heap.size + 1 + 1 + 1 + 1, o, none⟩) (by first | (simp; done) | (simp; omega) | omega))); (try (have f5 := fun (o : Nat) => hb.frozen (p := ⟨w.heap.size + 1 + 1 + 1 + 1 + 1, o, none⟩) (by first | (simp; done) | (simp; omega) | omega))); (try (have j1 := fun (o : Nat) => hb.cell (p := ⟨B1, o, none⟩) (by first | (simp; done) | (simp; omega) | omega))); (try (have g1 := fun (o : Nat) => hb.frozen (p := ⟨B1, o, none⟩) (by first | (simp; done) | (simp; omega) | omega))); (try (have j2 := fun (o : Nat) => hb.cell (p := ⟨B2, o, none⟩) (by first | (simp; done) | (simp; omega) | omega))); (try (have g2 := fun (o : Nat) => hb.frozen (p := ⟨B2, o, none⟩) (by first | (simp; done) | (simp; omega) | omega))); (try (have j0 := fun (o : Nat) => hb.cell (p := ⟨wc.heap.size, o, none⟩) (by first | (simp; done) | (simp; omega) | omega))); (try (have g0 := fun (o : Nat) => hb.frozen (p := ⟨wc.heap.size, o, none⟩) (by first | (simp; done) | (simp; omega) | omega))); obtain ⟨hbc, hbf⟩ := bcell hb))
                (try go_wp2_with fail)
                refine hK.out _ _ (by (show World.cell? _ _ = _); rw [hbc _ _ (by first | omega | (simp; omega))]; exact c1) (fun hHeld => ?_)
                clear hK K
                try simp only [Act.put, List.setIfInBounds_toArray, List.set_cons_zero, List.set_cons_succ]
                refine take1 9 79 (.bool false) rfl rfl (by kernel_rfl) (by kernel_rfl) (by kernel_rfl) (fun _ _ _ h => h) (by rfl) (fun W hW => by first | rfl | ((try dsimp only at hW); go_simp)) (by assumption) ?_
                simp only [List.set_cons_zero, List.set_cons_succ]
                refine take1 10 80 (.bool false) rfl rfl (by kernel_rfl) (by kernel_rfl) (by kernel_rfl) (fun _ _ _ h => h) (by rfl) (fun W hW => by first | rfl | ((try dsimp only at hW); go_simp)) (by assumption) ?_
                simp only [List.set_cons_zero, List.set_cons_succ]
                refine take1 11 81 (.bool false) rfl rfl (by kernel_rfl) (by kernel_rfl) (by kernel_rfl) (fun _ _ _ h => h) (by rfl) (fun W hW => by first | rfl | ((try dsimp only at hW); go_simp)) (by assumption) ?_
                simp only [List.set_cons_zero, List.set_cons_succ]
                refine take1 12 82 (.int .i64 0) rfl rfl (by kernel_rfl) (by kernel_rfl) (by kernel_rfl) (fun _ _ _ h => h) (by rfl) (fun W hW => by first | rfl | ((try dsimp only at hW); go_simp)) (by assumption) ?_
                simp only [List.set_cons_zero, List.set_cons_succ]
                refine take1 13 83 (.bool false) rfl rfl (by kernel_rfl) (by kernel_rfl) (by kernel_rfl) (fun _ _ _ h => h) (by rfl) (fun W hW => by first | rfl | ((try dsimp only at hW); go_simp)) (by assumption) ?_
                simp only [List.set_cons_zero, List.set_cons_succ]
                refine take1 14 84 (.bool false) rfl rfl (by kernel_rfl) (by kernel_rfl) (by kernel_rfl) (fun _ _ _ h => h) (by rfl) (fun W hW => by first | rfl | ((try dsimp only at hW); go_simp)) (by assumption) ?_
                simp only [List.set_cons_zero, List.set_cons_succ]
                refine skip1 15 85 rfl rfl (by kernel_rfl) (by kernel_rfl) (by kernel_rfl) (fun _ _ _ h => h) (by rfl) (by assumption) ?_
                simp only [List.set_cons_zero, List.set_cons_succ]
                refine skip1 16 86 rfl rfl (by kernel_rfl) (by kernel_rfl) (by kernel_rfl) (fun _ _ _ h => h) (by rfl) (by assumption) ?_
                simp only [List.set_cons_zero, List.set_cons_succ]
                refine skip1 17 87 rfl rfl (by kernel_rfl) (by kernel_rfl) (by kernel_rfl) (fun _ _ _ h => h) (by rfl) (by assumption) ?_
                simp only [List.set_cons_zero, List.set_cons_succ]
                refine skip1 18 88 rfl rfl (by kernel_rfl) (by kernel_rfl) (by kernel_rfl) (fun _ _ _ h => h) (by rfl) (by assumption) ?_
                simp only [List.set_cons_zero, List.set_cons_succ]
                refine skip1 19 89 rfl rfl (by kernel_rfl) (by kernel_rfl) (by kernel_rfl) (fun _ _ _ h => h) (by rfl) (by assumption) ?_
                simp only [List.set_cons_zero, List.set_cons_succ]
                refine skip1 20 90 rfl rfl (by kernel_rfl) (by kernel_rfl) (by kernel_rfl) (fun _ _ _ h => h) (by rfl) (by assumption) ?_
                simp only [List.set_cons_zero, List.set_cons_succ]
                refine skip1 21 91 rfl rfl (by kernel_rfl) (by kernel_rfl) (by kernel_rfl) (fun _ _ _ h => h) (by rfl) (by assumption) ?_
                simp only [List.set_cons_zero, List.set_cons_succ]
                refine skip1 22 92 rfl rfl (by kernel_rfl) (by kernel_rfl) (by kernel_rfl) (fun _ _ _ h => h) (by rfl) (by assumption) ?_
                simp only [List.set_cons_zero, List.set_cons_succ]
                refine skip1 23 93 rfl rfl (by kernel_rfl) (by kernel_rfl) (by kernel_rfl) (fun _ _ _ h => h) (by rfl) (by assumption) ?_
                simp only [List.set_cons_zero, List.set_cons_succ]
                refine skip1 24 94 rfl rfl (by kernel_rfl) (by kernel_rfl) (by kernel_rfl) (fun _ _ _ h => h) (by rfl) (by assumption) ?_
                simp only [List.set_cons_zero, List.set_cons_succ]
                refine take1 25 95 (.bool false) rfl rfl (by kernel_rfl) (by kernel_rfl) (by kernel_rfl) (fun _ _ _ h => h) (by rfl) (fun W hW => by first | rfl | ((try dsimp only at hW); go_simp)) (by assumption) ?_
                simp only [List.set_cons_zero, List.set_cons_succ]
                refine take1 26 96 (.bool false) rfl rfl (by kernel_rfl) (by kernel_rfl) (by kernel_rfl) (fun _ _ _ h => h) (by rfl) (fun W hW => by first | rfl | ((try dsimp only at hW); go_simp)) (by assumption) ?_
                simp only [List.set_cons_zero, List.set_cons_succ]
                refine wpAnyH_done (by kernel_rfl) ?_ _
                go_wp2_with fail
                go_roundw
                case rel => exact ⟨1, by omega, by first | rfl | go_num, hrow.below (by (repeat (first | (with_reducible exact Below.refl _ _) | (with_reducible refine bl_alloc ?_ ?_ _; focus (first | omega | (simp; done) | (simp; omega))) | (with_reducible refine bl_set ?_ ?_ _; focus (first | omega | (simp; done) | (simp; omega))) | (with_reducible refine Below.drew ?_) | (with_reducible refine below_drewN ?_ _) | (with_reducible refine below_step ?_ (by assumption))))), by (repeat (first | (with_reducible exact Below.refl _ _) | (with_reducible refine bl_alloc ?_ ?_ _; focus (first | omega | (simp; done) | (simp; omega))) | (with_reducible refine bl_set ?_ ?_ _; focus (first | omega | (simp; done) | (simp; omega))) | (with_reducible refine Below.drew ?_) | (with_reducible refine below_drewN ?_ _) | (with_reducible refine below_step ?_ (by assumption))))⟩
                case measure => ((simp [intOf]) <;> omega)
              · obtain ⟨z, hxz⟩ : ∃ z, x = z + 1 := ⟨x - 1, by omega⟩
                obtain ⟨hz27, hzv, _, _⟩ := HVAL.out z (by omega)
                have c3 := hrow.cell z (by omega)
                rw [hzv] at c3
                have b3 : (0 : Int) ≤ (x : Int) := by omega
                have b4 : (z : Int) < (L.length : Int) := by omega
                have b5 : (0 : Int) ≤ (z : Int) := by omega
                have b6 : (x : Int) - 1 = (z : Int) := by omega
                have b7 : (0 : Int) < (x : Int) := by omega
                have b8 : IntKind.i64.wrap ((x : Int) - 1) = (z : Int) := by rw [IntWalk.i64_in _ (by omega)]; omega
                have hc1' : ((cntM i x 10 : Nat) : Int) = 1 := by rw [hc1]; rfl
                simp only [hc1']
                have hlt2 : ((ml i z : Nat) : Int) < ((ml i x : Nat) : Int) := by
                  rcases hinc with h | h
                  · omega
                  · rw [show x - 1 = z by omega] at h; omega
                have b9 : 0 < x := by omega
                have b10 : IntKind.i64.wrap (z : Int) = (z : Int) := IntWalk.i64_in _ (by omega)
                have b11 : ml i z < ml i x := by omega
                have hd3 : decide ((0 : Int) < (x : Int)) = true := by simp; omega
                have hlt3 : decide (((ml i x : Nat) : Int) ≤ ((ml i z : Nat) : Int)) = false := by simp; omega
                clear hx0' hinc hxz
                go_wp2_with fail
                refine wp_region_held_drew (S := (fun w' => w'.cell? ⟨ga, x, none⟩ = some (.int .i64 (ml i x : Nat)) ∧ w'.cell? ⟨ga, z, none⟩ = some (.int .i64 (ml i z : Nat)))) (by kernel_rfl) ⟨by exact c1, by exact c3⟩ (fun hHeld => ?_)
                refine take1 0 70 (.int .i64 1) rfl rfl (by kernel_rfl) (by kernel_rfl) (by kernel_rfl) (fun _ _ _ h => h) (by rfl) (fun W hW => by first | rfl | ((try dsimp only at hW); go_simp)) (by assumption) ?_
                simp only [List.set_cons_zero, List.set_cons_succ]
                refine take1 1 71 (.bool false) rfl rfl (by kernel_rfl) (by kernel_rfl) (by kernel_rfl) (fun _ _ _ h => h) (by rfl) (fun W hW => by first | rfl | ((try dsimp only at hW); go_simp)) (by assumption) ?_
                simp only [List.set_cons_zero, List.set_cons_succ]
                refine take1 2 72 (.bool false) rfl rfl (by kernel_rfl) (by kernel_rfl) (by kernel_rfl) (fun _ _ _ h => h) (by rfl) (fun W hW => by first | rfl | ((try dsimp only at hW); go_simp)) (by assumption) ?_
                simp only [List.set_cons_zero, List.set_cons_succ]
                refine take1 3 73 (.int .i64 (i : Int)) rfl rfl (by kernel_rfl) (by kernel_rfl) (by kernel_rfl) (fun _ _ _ h => h) (by rfl) (fun W hW => by first | rfl | ((try dsimp only at hW); go_simp)) (by assumption) ?_
                simp only [List.set_cons_zero, List.set_cons_succ]
                refine take1 4 74 (.slice (some ⟨ga, 0, none⟩) L.length ca) rfl rfl (by kernel_rfl) (by kernel_rfl) (by kernel_rfl) (fun _ _ _ h => h) (by rfl) (fun W hW => by first | rfl | ((try dsimp only at hW); go_simp)) (by assumption) ?_
                simp only [List.set_cons_zero, List.set_cons_succ]
                refine take1 5 75 (.int .i64 (x : Int)) rfl rfl (by kernel_rfl) (by kernel_rfl) (by kernel_rfl) (fun _ _ _ h => h) (by rfl) (fun W hW => by first | rfl | ((try dsimp only at hW); go_simp)) (by assumption) ?_
                simp only [List.set_cons_zero, List.set_cons_succ]
                refine take1 6 76 (.pointer (some ⟨ga, x, none⟩)) rfl rfl (by kernel_rfl) (by kernel_rfl) (by kernel_rfl) (fun _ _ _ h => h) (by rfl) (fun W hW => by first | rfl | ((try dsimp only at hW); go_simp)) (by assumption) ?_
                simp only [List.set_cons_zero, List.set_cons_succ]
                refine take1 7 77 (.int .i64 (ml i x : Nat)) rfl rfl (by kernel_rfl) (by kernel_rfl) (by kernel_rfl) (fun _ _ _ h => h) (by rfl) (fun W hW => by first | rfl | ((try dsimp only at hW); go_simp)) (by assumption) ?_
                simp only [List.set_cons_zero, List.set_cons_succ]
                refine wpAnyH_ready (rs := [8]) (by kernel_rfl) (by simp) ?_
                refine AllReadyH.cons rfl (fun K hK => ?_) AllReadyH.nil
                go_simp
                (go_at_call 23; ((with_reducible refine (iLineMeets_in i (ml i x) hi hm27 _).mono ?_); rintro e w' ⟨rfl, hb⟩; have hbz := hb.size; (try simp only [World.size_alloc, World.size_drew, World.size_setCell] at hbz); (try have hbl := Nat.lt_of_succ_le hbz); (try (have k0 := fun (o : Nat) => hb.cell (p := ⟨w.heap.size, o, none⟩) (by first | (simp; done) | (simp; omega) | omega))); (try (have k1 := fun (o : Nat) => hb.cell (p := ⟨w.heap.size + 1, o, none⟩) (by first | (simp; done) | (simp; omega) | omega))); (try (have k2 := fun (o : Nat) => hb.cell (p := ⟨w.heap.size + 1 + 1, o, none⟩) (by first | (simp; done) | (simp; omega) | omega))); (try (have k3 := fun (o : Nat) => hb.cell (p := ⟨w.heap.size + 1 + 1 + 1, o, none⟩) (by first | (simp; done) | (simp; omega) | omega))); (try (have k4 := fun (o : Nat) => hb.cell (p := ⟨w.heap.size + 1 + 1 + 1 + 1, o, none⟩) (by first | (simp; done) | (simp; omega) | omega))); (try (have k5 := fun (o : Nat) => hb.cell (p := ⟨w.heap.size + 1 + 1 + 1 + 1 + 1, o, none⟩) (by first | (simp; done) | (simp; omega) | omega))); (try (have f0 := fun (o : Nat) => hb.frozen (p := ⟨w.heap.size, o, none⟩) (by first | (simp; done) | (simp; omega) | omega))); (try (have f1 := fun (o : Nat) => hb.frozen (p := ⟨w.heap.size + 1, o, none⟩) (by first | (simp; done) | (simp; omega) | omega))); (try (have f2 := fun (o : Nat) => hb.frozen (p := ⟨w.heap.size + 1 + 1, o, none⟩) (by first | (simp; done) | (simp; omega) | omega))); (try (have f3 := fun (o : Nat) => hb.frozen (p := ⟨w.heap.size + 1 + 1 + 1, o, none⟩) (by first | (simp; done) | (simp; omega) | omega))); (try (have f4 := fun (o : Nat) => hb.frozen (p := ⟨w.heap.size + 1 + 1 + 1 + 1, o, none⟩) (by first | (simp; done) | (simp; omega) | omega))); (try (have f5 := fun (o : Nat) => hb.frozen (p := ⟨w.heap.size + 1 + 1 + 1 + 1 + 1, o, none⟩) (by first | (simp; done) | (simp; omega) | omega))); (try (have j1 := fun (o : Nat) => hb.cell (p := ⟨B1, o, none⟩) (by first | (simp; done) | (simp; omega) | omega))); (try (have g1 := fun (o : Nat) => hb.frozen (p := ⟨B1, o, none⟩) (by first | (simp; done) | (simp; omega) | omega))); (try (have j2 := fun (o : Nat) => hb.cell (p := ⟨B2, o, none⟩) (by first | (simp; done) | (simp; omega) | omega))); (try (have g2 := fun (o : Nat) => hb.frozen (p := ⟨B2, o, none⟩) (by first | (simp; done) | (simp; omega) | omega))); (try (have j0 := fun (o : Nat) => hb.cell (p := ⟨wc.heap.size, o, none⟩) (by first | (simp; done) | (simp; omega) | omega))); (try (have g0 := fun (o : Nat) => hb.frozen (p := ⟨wc.heap.size, o, none⟩) (by first | (simp; done) | (simp; omega) | omega))); obtain ⟨hbc, hbf⟩ := bcell hb))
                (try go_wp2_with fail)
                refine hK.out _ _ ⟨by (show World.cell? _ _ = _); rw [hbc _ _ (by first | omega | (simp; omega))]; exact c1, by (show World.cell? _ _ = _); rw [hbc _ _ (by first | omega | (simp; omega))]; exact c3⟩ (fun hHeld => ?_)
                clear hK K
                try simp only [Act.put, List.setIfInBounds_toArray, List.set_cons_zero, List.set_cons_succ]
                refine take1 9 79 (.bool false) rfl rfl (by kernel_rfl) (by kernel_rfl) (by kernel_rfl) (fun _ _ _ h => h) (by rfl) (fun W hW => by first | rfl | ((try dsimp only at hW); go_simp)) (by assumption) ?_
                simp only [List.set_cons_zero, List.set_cons_succ]
                refine take1 10 80 (.bool false) rfl rfl (by kernel_rfl) (by kernel_rfl) (by kernel_rfl) (fun _ _ _ h => h) (by rfl) (fun W hW => by first | rfl | ((try dsimp only at hW); go_simp)) (by assumption) ?_
                simp only [List.set_cons_zero, List.set_cons_succ]
                refine take1 11 81 (.bool false) rfl rfl (by kernel_rfl) (by kernel_rfl) (by kernel_rfl) (fun _ _ _ h => h) (by rfl) (fun W hW => by first | rfl | ((try dsimp only at hW); go_simp)) (by assumption) ?_
                simp only [List.set_cons_zero, List.set_cons_succ]
                refine take1 12 82 (.int .i64 (x : Int)) rfl rfl (by kernel_rfl) (by kernel_rfl) (by kernel_rfl) (fun _ _ _ h => h) (by rfl) (fun W hW => by first | rfl | ((try dsimp only at hW); go_simp)) (by assumption) ?_
                simp only [List.set_cons_zero, List.set_cons_succ]
                refine take1 13 83 (.bool true) rfl rfl (by kernel_rfl) (by kernel_rfl) (by kernel_rfl) (fun _ _ _ h => h) (by rfl) (fun W hW => by first | rfl | ((try dsimp only at hW); go_simp)) (by assumption) ?_
                simp only [List.set_cons_zero, List.set_cons_succ]
                refine take1 14 84 (.bool true) rfl rfl (by kernel_rfl) (by kernel_rfl) (by kernel_rfl) (fun _ _ _ h => h) (by rfl) (fun W hW => by first | rfl | ((try dsimp only at hW); go_simp)) (by assumption) ?_
                simp only [List.set_cons_zero, List.set_cons_succ]
                refine take1 15 85 (.slice (some ⟨ga, 0, none⟩) L.length ca) rfl rfl (by kernel_rfl) (by kernel_rfl) (by kernel_rfl) (fun _ _ _ h => h) (by rfl) (fun W hW => by first | rfl | ((try dsimp only at hW); go_simp)) (by assumption) ?_
                simp only [List.set_cons_zero, List.set_cons_succ]
                refine take1 16 86 (.int .i64 (x : Int)) rfl rfl (by kernel_rfl) (by kernel_rfl) (by kernel_rfl) (fun _ _ _ h => h) (by rfl) (fun W hW => by first | rfl | ((try dsimp only at hW); go_simp)) (by assumption) ?_
                simp only [List.set_cons_zero, List.set_cons_succ]
                refine take1 17 87 (.pointer (some ⟨ga, x, none⟩)) rfl rfl (by kernel_rfl) (by kernel_rfl) (by kernel_rfl) (fun _ _ _ h => h) (by rfl) (fun W hW => by first | rfl | ((try dsimp only at hW); go_simp)) (by assumption) ?_
                simp only [List.set_cons_zero, List.set_cons_succ]
                refine take1 18 88 (.int .i64 (ml i x : Nat)) rfl rfl (by kernel_rfl) (by kernel_rfl) (by kernel_rfl) (fun _ _ _ h => h) (by rfl) (fun W hW => by first | rfl | ((try dsimp only at hW); go_simp)) (by assumption) ?_
                simp only [List.set_cons_zero, List.set_cons_succ]
                refine take1 19 89 (.slice (some ⟨ga, 0, none⟩) L.length ca) rfl rfl (by kernel_rfl) (by kernel_rfl) (by kernel_rfl) (fun _ _ _ h => h) (by rfl) (fun W hW => by first | rfl | ((try dsimp only at hW); go_simp)) (by assumption) ?_
                simp only [List.set_cons_zero, List.set_cons_succ]
                refine take1 20 90 (.int .i64 (x : Int)) rfl rfl (by kernel_rfl) (by kernel_rfl) (by kernel_rfl) (fun _ _ _ h => h) (by rfl) (fun W hW => by first | rfl | ((try dsimp only at hW); go_simp)) (by assumption) ?_
                simp only [List.set_cons_zero, List.set_cons_succ]
                refine take1 21 91 (.int .i64 (z : Int)) rfl rfl (by kernel_rfl) (by kernel_rfl) (by kernel_rfl) (fun _ _ _ h => h) (by rfl) (fun W hW => by first | rfl | ((try dsimp only at hW); go_simp)) (by assumption) ?_
                simp only [List.set_cons_zero, List.set_cons_succ]
                refine take1 22 92 (.pointer (some ⟨ga, z, none⟩)) rfl rfl (by kernel_rfl) (by kernel_rfl) (by kernel_rfl) (fun _ _ _ h => h) (by rfl) (fun W hW => by first | rfl | ((try dsimp only at hW); go_simp)) (by assumption) ?_
                simp only [List.set_cons_zero, List.set_cons_succ]
                refine take1 23 93 (.int .i64 (ml i z : Nat)) rfl rfl (by kernel_rfl) (by kernel_rfl) (by kernel_rfl) (fun _ _ _ h => h) (by rfl) (fun W hW => by first | rfl | ((try dsimp only at hW); go_simp)) (by assumption) ?_
                simp only [List.set_cons_zero, List.set_cons_succ]
                refine take1 24 94 (.bool false) rfl rfl (by kernel_rfl) (by kernel_rfl) (by kernel_rfl) (fun _ _ _ h => h) (by rfl) (fun W hW => by first | rfl | ((try dsimp only at hW); go_simp)) (by assumption) ?_
                simp only [List.set_cons_zero, List.set_cons_succ]
                refine take1 25 95 (.bool false) rfl rfl (by kernel_rfl) (by kernel_rfl) (by kernel_rfl) (fun _ _ _ h => h) (by rfl) (fun W hW => by first | rfl | ((try dsimp only at hW); go_simp)) (by assumption) ?_
                simp only [List.set_cons_zero, List.set_cons_succ]
                refine take1 26 96 (.bool false) rfl rfl (by kernel_rfl) (by kernel_rfl) (by kernel_rfl) (fun _ _ _ h => h) (by rfl) (fun W hW => by first | rfl | ((try dsimp only at hW); go_simp)) (by assumption) ?_
                simp only [List.set_cons_zero, List.set_cons_succ]
                refine wpAnyH_done (by kernel_rfl) ?_ _
                go_wp2_with fail
                go_roundw
                case rel => exact ⟨x + 1, by omega, by go_num, hrow.below (by (repeat (first | (with_reducible exact Below.refl _ _) | (with_reducible refine bl_alloc ?_ ?_ _; focus (first | omega | (simp; done) | (simp; omega))) | (with_reducible refine bl_set ?_ ?_ _; focus (first | omega | (simp; done) | (simp; omega))) | (with_reducible refine Below.drew ?_) | (with_reducible refine below_drewN ?_ _) | (with_reducible refine below_step ?_ (by assumption))))), by (repeat (first | (with_reducible exact Below.refl _ _) | (with_reducible refine bl_alloc ?_ ?_ _; focus (first | omega | (simp; done) | (simp; omega))) | (with_reducible refine bl_set ?_ ?_ _; focus (first | omega | (simp; done) | (simp; omega))) | (with_reducible refine Below.drew ?_) | (with_reducible refine below_drewN ?_ _) | (with_reducible refine below_step ?_ (by assumption))))⟩
                case measure => ((simp [intOf]) <;> omega)
        · obtain rfl : x = 10 := by omega
          have hl10 : L.length = 10 := by omega
          go_wp2_with fail
          go_ret
          exact ⟨rfl, hb0⟩
    · have hi : inB x 0 26 = false := by simp [inB]; omega
      clear hr
      go_wp2_with (first | (go_at_call 29; ((with_reducible refine (iMeeting_out _ hi _).mono ?_); rintro e w' ⟨rfl, hb⟩; have hbz := hb.size; (try simp only [World.size_alloc, World.size_drew, World.size_setCell] at hbz); (try have hbl := Nat.lt_of_succ_le hbz); (try (have k0 := fun (o : Nat) => hb.cell (p := ⟨w.heap.size, o, none⟩) (by first | (simp; done) | (simp; omega) | omega))); (try (have k1 := fun (o : Nat) => hb.cell (p := ⟨w.heap.size + 1, o, none⟩) (by first | (simp; done) | (simp; omega) | omega))); (try (have k2 := fun (o : Nat) => hb.cell (p := ⟨w.heap.size + 1 + 1, o, none⟩) (by first | (simp; done) | (simp; omega) | omega))); (try (have k3 := fun (o : Nat) => hb.cell (p := ⟨w.heap.size + 1 + 1 + 1, o, none⟩) (by first | (simp; done) | (simp; omega) | omega))); (try (have k4 := fun (o : Nat) => hb.cell (p := ⟨w.heap.size + 1 + 1 + 1 + 1, o, none⟩) (by first | (simp; done) | (simp; omega) | omega))); (try (have k5 := fun (o : Nat) => hb.cell (p := ⟨w.heap.size + 1 + 1 + 1 + 1 + 1, o, none⟩) (by first | (simp; done) | (simp; omega) | omega))); (try (have f0 := fun (o : Nat) => hb.frozen (p := ⟨w.heap.size, o, none⟩) (by first | (simp; done) | (simp; omega) | omega))); (try (have f1 := fun (o : Nat) => hb.frozen (p := ⟨w.heap.size + 1, o, none⟩) (by first | (simp; done) | (simp; omega) | omega))); (try (have f2 := fun (o : Nat) => hb.frozen (p := ⟨w.heap.size + 1 + 1, o, none⟩) (by first | (simp; done) | (simp; omega) | omega))); (try (have f3 := fun (o : Nat) => hb.frozen (p := ⟨w.heap.size + 1 + 1 + 1, o, none⟩) (by first | (simp; done) | (simp; omega) | omega))); (try (have f4 := fun (o : Nat) => hb.frozen (p := ⟨w.heap.size + 1 + 1 + 1 + 1, o, none⟩) (by first | (simp; done) | (simp; omega) | omega))); (try (have f5 := fun (o : Nat) => hb.frozen (p := ⟨w.heap.size + 1 + 1 + 1 + 1 + 1, o, none⟩) (by first | (simp; done) | (simp; omega) | omega))); (try (have j1 := fun (o : Nat) => hb.cell (p := ⟨B1, o, none⟩) (by first | (simp; done) | (simp; omega) | omega))); (try (have g1 := fun (o : Nat) => hb.frozen (p := ⟨B1, o, none⟩) (by first | (simp; done) | (simp; omega) | omega))); (try (have j2 := fun (o : Nat) => hb.cell (p := ⟨B2, o, none⟩) (by first | (simp; done) | (simp; omega) | omega))); (try (have g2 := fun (o : Nat) => hb.frozen (p := ⟨B2, o, none⟩) (by first | (simp; done) | (simp; omega) | omega))); (try (have j0 := fun (o : Nat) => hb.cell (p := ⟨wc.heap.size, o, none⟩) (by first | (simp; done) | (simp; omega) | omega))); (try (have g0 := fun (o : Nat) => hb.frozen (p := ⟨wc.heap.size, o, none⟩) (by first | (simp; done) | (simp; omega) | omega))); obtain ⟨hbc, hbf⟩ := bcell hb)) | (go_at_call 30; ((with_reducible refine (sMeeting_out _ hi _).mono ?_); rintro e w' ⟨rfl, hb⟩; have hbz := hb.size; (try simp only [World.size_alloc, World.size_drew, World.size_setCell] at hbz); (try have hbl := Nat.lt_of_succ_le hbz); (try (have k0 := fun (o : Nat) => hb.cell (p := ⟨w.heap.size, o, none⟩) (by first | (simp; done) | (simp; omega) | omega))); (try (have k1 := fun (o : Nat) => hb.cell (p := ⟨w.heap.size + 1, o, none⟩) (by first | (simp; done) | (simp; omega) | omega))); (try (have k2 := fun (o : Nat) => hb.cell (p := ⟨w.heap.size + 1 + 1, o, none⟩) (by first | (simp; done) | (simp; omega) | omega))); (try (have k3 := fun (o : Nat) => hb.cell (p := ⟨w.heap.size + 1 + 1 + 1, o, none⟩) (by first | (simp; done) | (simp; omega) | omega))); (try (have k4 := fun (o : Nat) => hb.cell (p := ⟨w.heap.size + 1 + 1 + 1 + 1, o, none⟩) (by first | (simp; done) | (simp; omega) | omega))); (try (have k5 := fun (o : Nat) => hb.cell (p := ⟨w.heap.size + 1 + 1 + 1 + 1 + 1, o, none⟩) (by first | (simp; done) | (simp; omega) | omega))); (try (have f0 := fun (o : Nat) => hb.frozen (p := ⟨w.heap.size, o, none⟩) (by first | (simp; done) | (simp; omega) | omega))); (try (have f1 := fun (o : Nat) => hb.frozen (p := ⟨w.heap.size + 1, o, none⟩) (by first | (simp; done) | (simp; omega) | omega))); (try (have f2 := fun (o : Nat) => hb.frozen (p := ⟨w.heap.size + 1 + 1, o, none⟩) (by first | (simp; done) | (simp; omega) | omega))); (try (have f3 := fun (o : Nat) => hb.frozen (p := ⟨w.heap.size + 1 + 1 + 1, o, none⟩) (by first | (simp; done) | (simp; omega) | omega))); (try (have f4 := fun (o : Nat) => hb.frozen (p := ⟨w.heap.size + 1 + 1 + 1 + 1, o, none⟩) (by first | (simp; done) | (simp; omega) | omega))); (try (have f5 := fun (o : Nat) => hb.frozen (p := ⟨w.heap.size + 1 + 1 + 1 + 1 + 1, o, none⟩) (by first | (simp; done) | (simp; omega) | omega))); (try (have j1 := fun (o : Nat) => hb.cell (p := ⟨B1, o, none⟩) (by first | (simp; done) | (simp; omega) | omega))); (try (have g1 := fun (o : Nat) => hb.frozen (p := ⟨B1, o, none⟩) (by first | (simp; done) | (simp; omega) | omega))); (try (have j2 := fun (o : Nat) => hb.cell (p := ⟨B2, o, none⟩) (by first | (simp; done) | (simp; omega) | omega))); (try (have g2 := fun (o : Nat) => hb.frozen (p := ⟨B2, o, none⟩) (by first | (simp; done) | (simp; omega) | omega))); (try (have j0 := fun (o : Nat) => hb.cell (p := ⟨wc.heap.size, o, none⟩) (by first | (simp; done) | (simp; omega) | omega))); (try (have g0 := fun (o : Nat) => hb.frozen (p := ⟨wc.heap.size, o, none⟩) (by first | (simp; done) | (simp; omega) | omega))); obtain ⟨hbc, hbf⟩ := bcell hb)) | (go_at_call 31; ((with_reducible refine (sameInts_nil _ _ _ _ _).mono ?_); rintro e w' ⟨rfl, hb⟩; have hbz := hb.size; (try simp only [World.size_alloc, World.size_drew, World.size_setCell] at hbz); (try have hbl := Nat.lt_of_succ_le hbz); (try (have k0 := fun (o : Nat) => hb.cell (p := ⟨w.heap.size, o, none⟩) (by first | (simp; done) | (simp; omega) | omega))); (try (have k1 := fun (o : Nat) => hb.cell (p := ⟨w.heap.size + 1, o, none⟩) (by first | (simp; done) | (simp; omega) | omega))); (try (have k2 := fun (o : Nat) => hb.cell (p := ⟨w.heap.size + 1 + 1, o, none⟩) (by first | (simp; done) | (simp; omega) | omega))); (try (have k3 := fun (o : Nat) => hb.cell (p := ⟨w.heap.size + 1 + 1 + 1, o, none⟩) (by first | (simp; done) | (simp; omega) | omega))); (try (have k4 := fun (o : Nat) => hb.cell (p := ⟨w.heap.size + 1 + 1 + 1 + 1, o, none⟩) (by first | (simp; done) | (simp; omega) | omega))); (try (have k5 := fun (o : Nat) => hb.cell (p := ⟨w.heap.size + 1 + 1 + 1 + 1 + 1, o, none⟩) (by first | (simp; done) | (simp; omega) | omega))); (try (have f0 := fun (o : Nat) => hb.frozen (p := ⟨w.heap.size, o, none⟩) (by first | (simp; done) | (simp; omega) | omega))); (try (have f1 := fun (o : Nat) => hb.frozen (p := ⟨w.heap.size + 1, o, none⟩) (by first | (simp; done) | (simp; omega) | omega))); (try (have f2 := fun (o : Nat) => hb.frozen (p := ⟨w.heap.size + 1 + 1, o, none⟩) (by first | (simp; done) | (simp; omega) | omega))); (try (have f3 := fun (o : Nat) => hb.frozen (p := ⟨w.heap.size + 1 + 1 + 1, o, none⟩) (by first | (simp; done) | (simp; omega) | omega))); (try (have f4 := fun (o : Nat) => hb.frozen (p := ⟨w.heap.size + 1 + 1 + 1 + 1, o, none⟩) (by first | (simp; done) | (simp; omega) | omega))); (try (have f5 := fun (o : Nat) => hb.frozen (p := ⟨w.heap.size + 1 + 1 + 1 + 1 + 1, o, none⟩) (by first | (simp; done) | (simp; omega) | omega))); (try (have j1 := fun (o : Nat) => hb.cell (p := ⟨B1, o, none⟩) (by first | (simp; done) | (simp; omega) | omega))); (try (have g1 := fun (o : Nat) => hb.frozen (p := ⟨B1, o, none⟩) (by first | (simp; done) | (simp; omega) | omega))); (try (have j2 := fun (o : Nat) => hb.cell (p := ⟨B2, o, none⟩) (by first | (simp; done) | (simp; omega) | omega))); (try (have g2 := fun (o : Nat) => hb.frozen (p := ⟨B2, o, none⟩) (by first | (simp; done) | (simp; omega) | omega))); (try (have j0 := fun (o : Nat) => hb.cell (p := ⟨wc.heap.size, o, none⟩) (by first | (simp; done) | (simp; omega) | omega))); (try (have g0 := fun (o : Nat) => hb.frozen (p := ⟨wc.heap.size, o, none⟩) (by first | (simp; done) | (simp; omega) | omega))); obtain ⟨hbc, hbf⟩ := bcell hb)))
      go_ret
      exact ⟨rfl, by (repeat (first | (with_reducible exact Below.refl _ _) | (with_reducible refine bl_alloc ?_ ?_ _; focus (first | omega | (simp; done) | (simp; omega))) | (with_reducible refine bl_set ?_ ?_ _; focus (first | omega | (simp; done) | (simp; omega))) | (with_reducible refine Below.drew ?_) | (with_reducible refine below_drewN ?_ _) | (with_reducible refine below_step ?_ (by assumption))))⟩

set_option maxRecDepth 100000 in
theorem lifted (os : Os) (started : os.Started) (H : Type) (enc : TypeId × Value → H) :
    ReturnsInHanded {} Try.checked os 7 .any (Rows.fnMeetingSpec.pre6 enc Try.prog Try.f7 Rows.fnMeetingRow.domain false) (Rows.fnMeetingSpec.post enc Try.prog Try.f7 false true false false) := by
  refine returnsInHanded_of_change (C := Try.checked) own started (by kernel_rfl) Try.func7
    (ChangeSpec.witness6 (enc := enc) (C := Try.checked) false ⟨#[], #[.slice none 0 0], []⟩ 8 (by kernel_rfl) (by kernel_rfl) (by kernel_rfl) (by kernel_rfl)) ?_
  intro W base args ds gs before hval0 hW hcnd _
  have hval : ∀ (j : Nat) t v, Try.f7.params[j]? = some t → args[j]? = some v → Value.okWide Try.prog W .any base t v := hval0
  have hW' := hW
  obtain ⟨p, q, hA0, hV, rfl, hfz, hnd⟩ := hW
  have hA : DataW.TrodAll enc Try.prog W 0 (fun _ => true) true Try.f7.params.toList args.toList ds p := hA0
  rw [Try.params7] at hA hval
  obtain ⟨v0, vs0, d0, ds0, p0, q0, hargs, rfl, rfl, h0, r0⟩ := trodAll_cons hA
  obtain ⟨rfl, rfl, rfl⟩ := trodAll_nil r0
  obtain rfl : args = #[v0] := by cases args; simp_all
  obtain ⟨rfl, rfl⟩ := trodVars_none hV
  obtain ⟨a0, len0, cap0, rfl⟩ := okWide_slice Try.underlying22 (hval 0 22 v0 rfl rfl)
  have k0 := h0
  have lt0 : ∀ x ∈ p0, x.block < W.heap.size := by obtain ⟨m, hm⟩ := k0; exact DataW.trod_lt m _ _ _ hm
  obtain ⟨l0, w0⟩ : ∃ l, ArgRow .u8 W a0 len0 cap0 l := by
    obtain ⟨fuel, hf⟩ := h0
    rcases open_ints Try.underlying22 Try.underlying5 (by kernel_rfl) hf with ⟨hcs, _⟩ | ⟨x, l, c, zs, hcs, _, hl, hm, hz, _, hcell, hwz⟩
    · simp [Value.cells] at hcs
      obtain ⟨rfl, rfl, rfl⟩ := hcs
      exact ⟨[], rfl, ⟨Nat.le_refl _, by unfold maxLen; omega⟩, by simp, .inl rfl⟩
    · simp [Value.cells] at hcs
      obtain ⟨rfl, rfl, rfl⟩ := hcs
      exact ⟨_, argRow_of hl hm (by simpa using hz) hcell hwz⟩
  clear hA0 hval0
  refine (walk a0 len0 cap0 l0 W w0).mono fun e W' ⟨he, bel⟩ => ?_
  subst he
  exact ⟨_, rfl, _, _, _, [], _, [], hW', trodAll_mk1 (shut_bool Try.underlying4 _), (trodAll_cons_mk (Below.trod laidOut (by kernel_rfl) (of_decide_eq_true (by kernel_rfl)) k0 bel lt0) trodAll_mk0), rfl, bel.frame _, fun h => by cases h⟩

theorem over : Rows.fnMeetingRow.holds Try.pinned (OpenSpec.ofChange Rows.fnMeetingSpec) :=
  OpenClaim.holds_of_wide 7 Try.f7 rfl rfl rfl rfl rfl rfl rfl ⟨rfl, rfl, rfl, rfl, rfl⟩ rfl rfl rfl rfl rfl (by kernel_rfl) Try.func7 (by kernel_rfl)
    (of_decide_eq_true (by kernel_rfl)) (by unfold Func.isWrapper; first | (rw [if_pos (by decide +kernel)]; kernel_rfl) | (rw [if_neg (by decide +kernel)]; exact ⟨rfl, rfl⟩))
    (fun os started H enc _ => lifted os started H enc)

theorem proved : Rows.FnMeetingSaid := over
#print axioms proved
end Go.Proofs.Ytogmfadeedmmaaa.lawMeeting
