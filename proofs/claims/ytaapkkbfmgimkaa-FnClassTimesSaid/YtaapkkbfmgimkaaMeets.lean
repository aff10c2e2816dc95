/- Contracts of the tests whether two lines meet, and of the search for a line class. Each holds for all arguments, in whatever memory. -/
import Derived.Test.YtaapkkbfmgimkaaLine
import Derived.Test.YtaapkkbfmgimkaaLineS
import Derived.Test.YtaapkkbfmgimkaaEq
import Derived.Deep.RegionHeld3
import Derived.Lib.Hide
namespace Go.Proofs.Ytaapkkbfmgimkaa
open Go.RowKit
set_option linter.unusedSimpArgs false
set_option linter.unusedVariables false

/-- The first line class from k on, of n of them, that is x: its index, or -1. -/
def findL (x : Cls) : Nat → Nat → Int
  | 0, _ => -1
  | n + 1, k => if eqB (LC k) x then (k : Int) else findL x n (k + 1)
def CL (x : Cls) : Int := findL x 27 0

set_option maxHeartbeats 1000000 in
theorem iClassLine_any (xd xa xb xc xe xf xg : Int) (w : World) :
    Calls Try.prog 27 #[.agg #[.int .i64 xd, .int .i64 xa, .int .i64 xb, .int .i64 xc, .int .i64 xe, .int .i64 xf, .int .i64 xg]] w fun e w' => e = .returned (.int .i64 (CL ⟨xd, xa, xb, xc, xe, xf, xg⟩)) ∧ Below w.heap.size w w' := by
  go_enter Try.func27, Try.ntmps27
  go_wp2_with fail
  go_loopw [4] (fun i wr => ∃ k : Nat, k ≤ 27 ∧ i = .int .i64 k ∧ CL ⟨xd, xa, xb, xc, xe, xf, xg⟩ = findL ⟨xd, xa, xb, xc, xe, xf, xg⟩ (27 - k) k ∧ Below (w.heap.size + 1) (w.alloc (.cells #[.int .i64 xd, .int .i64 xa, .int .i64 xb, .int .i64 xc, .int .i64 xe, .int .i64 xf, .int .i64 xg] 25)) wr) (fun i _ => 27 - (intOf i).toNat)
  case atStart => exact ⟨0, by omega, rfl, rfl, Below.refl _ _⟩
  case round =>
    obtain ⟨k, hk, rfl, hcl, hb0⟩ := hrel
    have kc := fun (o : Nat) => hb0.cell (p := ⟨w.heap.size, o, none⟩) (by simp)
    have hsz := hb0.size
    rw [World.size_alloc] at hsz
    by_cases hlt : k < 27
    · have he := fun (W : World) => eq_class (LC k).d (LC k).a (LC k).b (LC k).c (LC k).e (LC k).f (LC k).g xd xa xb xc xe xf xg W
      cases hq : eqB ⟨(LC k).d, (LC k).a, (LC k).b, (LC k).c, (LC k).e, (LC k).f, (LC k).g⟩ ⟨xd, xa, xb, xc, xe, xf, xg⟩
      · have HCL := Lib.hid (show CL ⟨xd, xa, xb, xc, xe, xf, xg⟩ = findL ⟨xd, xa, xb, xc, xe, xf, xg⟩ (27 - (k + 1)) (k + 1) by
          rw [hcl, show 27 - k = (27 - (k + 1)) + 1 by omega]; simp only [findL]; rw [if_neg (by rw [show eqB (LC k) ⟨xd, xa, xb, xc, xe, xf, xg⟩ = false from hq]; simp)])
        clear hcl
        go_wp2_with fail
        go_region_held3 (fun w' => w'.cell? ⟨w.heap.size, 0, none⟩ = some (.int .i64 xd) ∧ w'.cell? ⟨w.heap.size, 1, none⟩ = some (.int .i64 xa) ∧ w'.cell? ⟨w.heap.size, 2, none⟩ = some (.int .i64 xb) ∧ w'.cell? ⟨w.heap.size, 3, none⟩ = some (.int .i64 xc) ∧ w'.cell? ⟨w.heap.size, 4, none⟩ = some (.int .i64 xe) ∧ w'.cell? ⟨w.heap.size, 5, none⟩ = some (.int .i64 xf) ∧ w'.cell? ⟨w.heap.size, 6, none⟩ = some (.int .i64 xg)) (go_keep) (first | (go_at_call 47; ((with_reducible refine (lineClass_any _ hlt _).mono ?_); rintro e w' ⟨rfl, hb⟩; have hbz := hb.size; (try simp only [World.size_alloc, World.size_drew, World.size_setCell] at hbz); (try (have k0 := fun (o : Nat) => hb.cell (p := ⟨w.heap.size, o, none⟩) (by first | (simp; done) | (simp; omega) | omega))); (try (have k1 := fun (o : Nat) => hb.cell (p := ⟨w.heap.size + 1, o, none⟩) (by first | (simp; done) | (simp; omega) | omega))); (try (have k2 := fun (o : Nat) => hb.cell (p := ⟨w.heap.size + 1 + 1, o, none⟩) (by first | (simp; done) | (simp; omega) | omega))); (try (have k3 := fun (o : Nat) => hb.cell (p := ⟨w.heap.size + 1 + 1 + 1, o, none⟩) (by first | (simp; done) | (simp; omega) | omega))); (try (have k4 := fun (o : Nat) => hb.cell (p := ⟨w.heap.size + 1 + 1 + 1 + 1, o, none⟩) (by first | (simp; done) | (simp; omega) | omega))); (try (have k5 := fun (o : Nat) => hb.cell (p := ⟨w.heap.size + 1 + 1 + 1 + 1 + 1, o, none⟩) (by first | (simp; done) | (simp; omega) | omega))); (try (have f0 := fun (o : Nat) => hb.frozen (p := ⟨w.heap.size, o, none⟩) (by first | (simp; done) | (simp; omega) | omega))); (try (have f1 := fun (o : Nat) => hb.frozen (p := ⟨w.heap.size + 1, o, none⟩) (by first | (simp; done) | (simp; omega) | omega))); (try (have f2 := fun (o : Nat) => hb.frozen (p := ⟨w.heap.size + 1 + 1, o, none⟩) (by first | (simp; done) | (simp; omega) | omega))); (try (have f3 := fun (o : Nat) => hb.frozen (p := ⟨w.heap.size + 1 + 1 + 1, o, none⟩) (by first | (simp; done) | (simp; omega) | omega))); (try (have f4 := fun (o : Nat) => hb.frozen (p := ⟨w.heap.size + 1 + 1 + 1 + 1, o, none⟩) (by first | (simp; done) | (simp; omega) | omega))); (try (have f5 := fun (o : Nat) => hb.frozen (p := ⟨w.heap.size + 1 + 1 + 1 + 1 + 1, o, none⟩) (by first | (simp; done) | (simp; omega) | omega))))))
        go_wp2_with fail
        go_roundw
        case rel => exact ⟨k + 1, by omega, by go_num, HCL.out, Below.trans hb0.drew (hb.mono (by first | (simp; omega) | omega))⟩
        case measure => simp [intOf]; omega
      · have HCL := Lib.hid (show CL ⟨xd, xa, xb, xc, xe, xf, xg⟩ = (k : Int) by
          rw [hcl, show 27 - k = (27 - (k + 1)) + 1 by omega]; simp only [findL]; rw [if_pos (by rw [show eqB (LC k) ⟨xd, xa, xb, xc, xe, xf, xg⟩ = true from hq])])
        clear hcl
        go_wp2_with fail
        go_region_held3 (fun w' => w'.cell? ⟨w.heap.size, 0, none⟩ = some (.int .i64 xd) ∧ w'.cell? ⟨w.heap.size, 1, none⟩ = some (.int .i64 xa) ∧ w'.cell? ⟨w.heap.size, 2, none⟩ = some (.int .i64 xb) ∧ w'.cell? ⟨w.heap.size, 3, none⟩ = some (.int .i64 xc) ∧ w'.cell? ⟨w.heap.size, 4, none⟩ = some (.int .i64 xe) ∧ w'.cell? ⟨w.heap.size, 5, none⟩ = some (.int .i64 xf) ∧ w'.cell? ⟨w.heap.size, 6, none⟩ = some (.int .i64 xg)) (go_keep) (first | (go_at_call 47; ((with_reducible refine (lineClass_any _ hlt _).mono ?_); rintro e w' ⟨rfl, hb⟩; have hbz := hb.size; (try simp only [World.size_alloc, World.size_drew, World.size_setCell] at hbz); (try (have k0 := fun (o : Nat) => hb.cell (p := ⟨w.heap.size, o, none⟩) (by first | (simp; done) | (simp; omega) | omega))); (try (have k1 := fun (o : Nat) => hb.cell (p := ⟨w.heap.size + 1, o, none⟩) (by first | (simp; done) | (simp; omega) | omega))); (try (have k2 := fun (o : Nat) => hb.cell (p := ⟨w.heap.size + 1 + 1, o, none⟩) (by first | (simp; done) | (simp; omega) | omega))); (try (have k3 := fun (o : Nat) => hb.cell (p := ⟨w.heap.size + 1 + 1 + 1, o, none⟩) (by first | (simp; done) | (simp; omega) | omega))); (try (have k4 := fun (o : Nat) => hb.cell (p := ⟨w.heap.size + 1 + 1 + 1 + 1, o, none⟩) (by first | (simp; done) | (simp; omega) | omega))); (try (have k5 := fun (o : Nat) => hb.cell (p := ⟨w.heap.size + 1 + 1 + 1 + 1 + 1, o, none⟩) (by first | (simp; done) | (simp; omega) | omega))); (try (have f0 := fun (o : Nat) => hb.frozen (p := ⟨w.heap.size, o, none⟩) (by first | (simp; done) | (simp; omega) | omega))); (try (have f1 := fun (o : Nat) => hb.frozen (p := ⟨w.heap.size + 1, o, none⟩) (by first | (simp; done) | (simp; omega) | omega))); (try (have f2 := fun (o : Nat) => hb.frozen (p := ⟨w.heap.size + 1 + 1, o, none⟩) (by first | (simp; done) | (simp; omega) | omega))); (try (have f3 := fun (o : Nat) => hb.frozen (p := ⟨w.heap.size + 1 + 1 + 1, o, none⟩) (by first | (simp; done) | (simp; omega) | omega))); (try (have f4 := fun (o : Nat) => hb.frozen (p := ⟨w.heap.size + 1 + 1 + 1 + 1, o, none⟩) (by first | (simp; done) | (simp; omega) | omega))); (try (have f5 := fun (o : Nat) => hb.frozen (p := ⟨w.heap.size + 1 + 1 + 1 + 1 + 1, o, none⟩) (by first | (simp; done) | (simp; omega) | omega))))))
        go_wp2_with fail
        go_ret
        exact ⟨ret_int HCL.out.symm, Below.trans (b := w.alloc (.cells #[.int .i64 xd, .int .i64 xa, .int .i64 xb, .int .i64 xc, .int .i64 xe, .int .i64 xf, .int .i64 xg] 25)) (by (repeat (first | (with_reducible exact Below.refl _ _) | (with_reducible refine bl_alloc ?_ ?_ _; focus (first | omega | (simp; done) | (simp; omega))) | (with_reducible refine bl_set ?_ ?_ _; focus (first | omega | (simp; done) | (simp; omega))) | (with_reducible refine Below.drew ?_) | (with_reducible refine below_drewN ?_ _) | (with_reducible refine below_step ?_ (by assumption))))) (Below.trans (hb0.mono (by omega)).drew (hb.mono (by first | (simp; omega) | omega)))⟩
    · obtain rfl : k = 27 := by omega
      have HCL := Lib.hid (show CL ⟨xd, xa, xb, xc, xe, xf, xg⟩ = -1 by rw [hcl]; rfl)
      clear hcl
      go_wp2_with fail
      go_ret
      exact ⟨ret_int HCL.out.symm, Below.trans (b := w.alloc (.cells #[.int .i64 xd, .int .i64 xa, .int .i64 xb, .int .i64 xc, .int .i64 xe, .int .i64 xf, .int .i64 xg] 25)) (by (repeat (first | (with_reducible exact Below.refl _ _) | (with_reducible refine bl_alloc ?_ ?_ _; focus (first | omega | (simp; done) | (simp; omega))) | (with_reducible refine bl_set ?_ ?_ _; focus (first | omega | (simp; done) | (simp; omega))) | (with_reducible refine Below.drew ?_) | (with_reducible refine below_drewN ?_ _) | (with_reducible refine below_step ?_ (by assumption))))) (hb0.mono (by omega))⟩

set_option maxHeartbeats 1000000 in
theorem sClassLine_any (xd xa xb xc xe xf xg : Int) (w : World) :
    Calls Try.prog 28 #[.agg #[.int .i64 xd, .int .i64 xa, .int .i64 xb, .int .i64 xc, .int .i64 xe, .int .i64 xf, .int .i64 xg]] w fun e w' => e = .returned (.int .i64 (CL ⟨xd, xa, xb, xc, xe, xf, xg⟩)) ∧ Below w.heap.size w w' := by
  go_enter Try.func28, Try.ntmps28
  go_wp2_with fail
  go_loopw [3] (fun i wr => ∃ k : Nat, k ≤ 27 ∧ i = .int .i64 k ∧ CL ⟨xd, xa, xb, xc, xe, xf, xg⟩ = findL ⟨xd, xa, xb, xc, xe, xf, xg⟩ (27 - k) k ∧ Below (w.heap.size + 1) (w.alloc (.cells #[.int .i64 xd, .int .i64 xa, .int .i64 xb, .int .i64 xc, .int .i64 xe, .int .i64 xf, .int .i64 xg] 25)) wr) (fun i _ => 27 - (intOf i).toNat)
  case atStart => exact ⟨0, by omega, rfl, rfl, Below.refl _ _⟩
  case round =>
    obtain ⟨k, hk, rfl, hcl, hb0⟩ := hrel
    have kc := fun (o : Nat) => hb0.cell (p := ⟨w.heap.size, o, none⟩) (by simp)
    have hsz := hb0.size
    rw [World.size_alloc] at hsz
    by_cases hlt : k < 27
    · have he := fun (W : World) => eq_class (LC k).d (LC k).a (LC k).b (LC k).c (LC k).e (LC k).f (LC k).g xd xa xb xc xe xf xg W
      cases hq : eqB ⟨(LC k).d, (LC k).a, (LC k).b, (LC k).c, (LC k).e, (LC k).f, (LC k).g⟩ ⟨xd, xa, xb, xc, xe, xf, xg⟩
      · have HCL := Lib.hid (show CL ⟨xd, xa, xb, xc, xe, xf, xg⟩ = findL ⟨xd, xa, xb, xc, xe, xf, xg⟩ (27 - (k + 1)) (k + 1) by
          rw [hcl, show 27 - k = (27 - (k + 1)) + 1 by omega]; simp only [findL]; rw [if_neg (by rw [show eqB (LC k) ⟨xd, xa, xb, xc, xe, xf, xg⟩ = false from hq]; simp)])
        clear hcl
        go_wp2_with fail
        go_region_held3 (fun w' => w'.cell? ⟨w.heap.size, 0, none⟩ = some (.int .i64 xd) ∧ w'.cell? ⟨w.heap.size, 1, none⟩ = some (.int .i64 xa) ∧ w'.cell? ⟨w.heap.size, 2, none⟩ = some (.int .i64 xb) ∧ w'.cell? ⟨w.heap.size, 3, none⟩ = some (.int .i64 xc) ∧ w'.cell? ⟨w.heap.size, 4, none⟩ = some (.int .i64 xe) ∧ w'.cell? ⟨w.heap.size, 5, none⟩ = some (.int .i64 xf) ∧ w'.cell? ⟨w.heap.size, 6, none⟩ = some (.int .i64 xg)) (go_keep) (first | (go_at_call 48; ((with_reducible refine (l1Of_any _ hlt _).mono ?_); rintro e w' ⟨rfl, hb⟩; have hbz := hb.size; (try simp only [World.size_alloc, World.size_drew, World.size_setCell] at hbz); (try (have k0 := fun (o : Nat) => hb.cell (p := ⟨w.heap.size, o, none⟩) (by first | (simp; done) | (simp; omega) | omega))); (try (have k1 := fun (o : Nat) => hb.cell (p := ⟨w.heap.size + 1, o, none⟩) (by first | (simp; done) | (simp; omega) | omega))); (try (have k2 := fun (o : Nat) => hb.cell (p := ⟨w.heap.size + 1 + 1, o, none⟩) (by first | (simp; done) | (simp; omega) | omega))); (try (have k3 := fun (o : Nat) => hb.cell (p := ⟨w.heap.size + 1 + 1 + 1, o, none⟩) (by first | (simp; done) | (simp; omega) | omega))); (try (have k4 := fun (o : Nat) => hb.cell (p := ⟨w.heap.size + 1 + 1 + 1 + 1, o, none⟩) (by first | (simp; done) | (simp; omega) | omega))); (try (have k5 := fun (o : Nat) => hb.cell (p := ⟨w.heap.size + 1 + 1 + 1 + 1 + 1, o, none⟩) (by first | (simp; done) | (simp; omega) | omega))); (try (have f0 := fun (o : Nat) => hb.frozen (p := ⟨w.heap.size, o, none⟩) (by first | (simp; done) | (simp; omega) | omega))); (try (have f1 := fun (o : Nat) => hb.frozen (p := ⟨w.heap.size + 1, o, none⟩) (by first | (simp; done) | (simp; omega) | omega))); (try (have f2 := fun (o : Nat) => hb.frozen (p := ⟨w.heap.size + 1 + 1, o, none⟩) (by first | (simp; done) | (simp; omega) | omega))); (try (have f3 := fun (o : Nat) => hb.frozen (p := ⟨w.heap.size + 1 + 1 + 1, o, none⟩) (by first | (simp; done) | (simp; omega) | omega))); (try (have f4 := fun (o : Nat) => hb.frozen (p := ⟨w.heap.size + 1 + 1 + 1 + 1, o, none⟩) (by first | (simp; done) | (simp; omega) | omega))); (try (have f5 := fun (o : Nat) => hb.frozen (p := ⟨w.heap.size + 1 + 1 + 1 + 1 + 1, o, none⟩) (by first | (simp; done) | (simp; omega) | omega))))))
        go_wp2_with fail
        go_roundw
        case rel => exact ⟨k + 1, by omega, by go_num, HCL.out, Below.trans hb0.drew (hb.mono (by first | (simp; omega) | omega))⟩
        case measure => simp [intOf]; omega
      · have HCL := Lib.hid (show CL ⟨xd, xa, xb, xc, xe, xf, xg⟩ = (k : Int) by
          rw [hcl, show 27 - k = (27 - (k + 1)) + 1 by omega]; simp only [findL]; rw [if_pos (by rw [show eqB (LC k) ⟨xd, xa, xb, xc, xe, xf, xg⟩ = true from hq])])
        clear hcl
        go_wp2_with fail
        go_region_held3 (fun w' => w'.cell? ⟨w.heap.size, 0, none⟩ = some (.int .i64 xd) ∧ w'.cell? ⟨w.heap.size, 1, none⟩ = some (.int .i64 xa) ∧ w'.cell? ⟨w.heap.size, 2, none⟩ = some (.int .i64 xb) ∧ w'.cell? ⟨w.heap.size, 3, none⟩ = some (.int .i64 xc) ∧ w'.cell? ⟨w.heap.size, 4, none⟩ = some (.int .i64 xe) ∧ w'.cell? ⟨w.heap.size, 5, none⟩ = some (.int .i64 xf) ∧ w'.cell? ⟨w.heap.size, 6, none⟩ = some (.int .i64 xg)) (go_keep) (first | (go_at_call 48; ((with_reducible refine (l1Of_any _ hlt _).mono ?_); rintro e w' ⟨rfl, hb⟩; have hbz := hb.size; (try simp only [World.size_alloc, World.size_drew, World.size_setCell] at hbz); (try (have k0 := fun (o : Nat) => hb.cell (p := ⟨w.heap.size, o, none⟩) (by first | (simp; done) | (simp; omega) | omega))); (try (have k1 := fun (o : Nat) => hb.cell (p := ⟨w.heap.size + 1, o, none⟩) (by first | (simp; done) | (simp; omega) | omega))); (try (have k2 := fun (o : Nat) => hb.cell (p := ⟨w.heap.size + 1 + 1, o, none⟩) (by first | (simp; done) | (simp; omega) | omega))); (try (have k3 := fun (o : Nat) => hb.cell (p := ⟨w.heap.size + 1 + 1 + 1, o, none⟩) (by first | (simp; done) | (simp; omega) | omega))); (try (have k4 := fun (o : Nat) => hb.cell (p := ⟨w.heap.size + 1 + 1 + 1 + 1, o, none⟩) (by first | (simp; done) | (simp; omega) | omega))); (try (have k5 := fun (o : Nat) => hb.cell (p := ⟨w.heap.size + 1 + 1 + 1 + 1 + 1, o, none⟩) (by first | (simp; done) | (simp; omega) | omega))); (try (have f0 := fun (o : Nat) => hb.frozen (p := ⟨w.heap.size, o, none⟩) (by first | (simp; done) | (simp; omega) | omega))); (try (have f1 := fun (o : Nat) => hb.frozen (p := ⟨w.heap.size + 1, o, none⟩) (by first | (simp; done) | (simp; omega) | omega))); (try (have f2 := fun (o : Nat) => hb.frozen (p := ⟨w.heap.size + 1 + 1, o, none⟩) (by first | (simp; done) | (simp; omega) | omega))); (try (have f3 := fun (o : Nat) => hb.frozen (p := ⟨w.heap.size + 1 + 1 + 1, o, none⟩) (by first | (simp; done) | (simp; omega) | omega))); (try (have f4 := fun (o : Nat) => hb.frozen (p := ⟨w.heap.size + 1 + 1 + 1 + 1, o, none⟩) (by first | (simp; done) | (simp; omega) | omega))); (try (have f5 := fun (o : Nat) => hb.frozen (p := ⟨w.heap.size + 1 + 1 + 1 + 1 + 1, o, none⟩) (by first | (simp; done) | (simp; omega) | omega))))))
        go_wp2_with fail
        go_ret
        exact ⟨ret_int HCL.out.symm, Below.trans (b := w.alloc (.cells #[.int .i64 xd, .int .i64 xa, .int .i64 xb, .int .i64 xc, .int .i64 xe, .int .i64 xf, .int .i64 xg] 25)) (by (repeat (first | (with_reducible exact Below.refl _ _) | (with_reducible refine bl_alloc ?_ ?_ _; focus (first | omega | (simp; done) | (simp; omega))) | (with_reducible refine bl_set ?_ ?_ _; focus (first | omega | (simp; done) | (simp; omega))) | (with_reducible refine Below.drew ?_) | (with_reducible refine below_drewN ?_ _) | (with_reducible refine below_step ?_ (by assumption))))) (Below.trans (hb0.mono (by omega)).drew (hb.mono (by first | (simp; omega) | omega)))⟩
    · obtain rfl : k = 27 := by omega
      have HCL := Lib.hid (show CL ⟨xd, xa, xb, xc, xe, xf, xg⟩ = -1 by rw [hcl]; rfl)
      clear hcl
      go_wp2_with fail
      go_ret
      exact ⟨ret_int HCL.out.symm, Below.trans (b := w.alloc (.cells #[.int .i64 xd, .int .i64 xa, .int .i64 xb, .int .i64 xc, .int .i64 xe, .int .i64 xf, .int .i64 xg] 25)) (by (repeat (first | (with_reducible exact Below.refl _ _) | (with_reducible refine bl_alloc ?_ ?_ _; focus (first | omega | (simp; done) | (simp; omega))) | (with_reducible refine bl_set ?_ ?_ _; focus (first | omega | (simp; done) | (simp; omega))) | (with_reducible refine Below.drew ?_) | (with_reducible refine below_drewN ?_ _) | (with_reducible refine below_step ?_ (by assumption))))) (hb0.mono (by omega))⟩

end Go.Proofs.Ytaapkkbfmgimkaa
