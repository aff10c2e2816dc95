/- Contracts of LineMeets in the program and in the reference. Each holds for all arguments, in whatever memory. -/
import Derived.Test.YtogmfadeedmmaaaMeets
namespace Go.Proofs.Ytogmfadeedmmaaa
open Go.RowKit
set_option linter.unusedSimpArgs false
set_option linter.unusedVariables false

theorem in27 (i : Nat) (h : i < 27) : inB (i : Int) 0 26 = true := by simp [inB]; omega

theorem iLineMeets_in (i k : Nat) (hi : i < 27) (hk : k < 27) (w : World) :
    Calls Try.prog 23 #[.int .i64 (i : Int), .int .i64 (k : Int)] w fun e w' => e = .returned (.bool (mtB i k)) ∧ Below w.heap.size w w' := by
  have h1 := in27 i hi
  have h2 := in27 k hk
  go_enter Try.func23, Try.ntmps23
  go_wp2_with (first | (go_at_call 58; ((with_reducible refine (isLine_any _ _).mono ?_); rintro e w' ⟨rfl, rfl⟩)) | (go_at_call 62; ((with_reducible refine (meets_any _ _ hi hk _).mono ?_); rintro e w' ⟨rfl, hb⟩; have hbz := hb.size; (try simp only [World.size_alloc, World.size_drew, World.size_setCell] at hbz); (try (have k0 := fun (o : Nat) => hb.cell (p := ⟨w.heap.size, o, none⟩) (by first | (simp; done) | (simp; omega) | omega))); (try (have k1 := fun (o : Nat) => hb.cell (p := ⟨w.heap.size + 1, o, none⟩) (by first | (simp; done) | (simp; omega) | omega))); (try (have k2 := fun (o : Nat) => hb.cell (p := ⟨w.heap.size + 1 + 1, o, none⟩) (by first | (simp; done) | (simp; omega) | omega))); (try (have k3 := fun (o : Nat) => hb.cell (p := ⟨w.heap.size + 1 + 1 + 1, o, none⟩) (by first | (simp; done) | (simp; omega) | omega))); (try (have k4 := fun (o : Nat) => hb.cell (p := ⟨w.heap.size + 1 + 1 + 1 + 1, o, none⟩) (by first | (simp; done) | (simp; omega) | omega))); (try (have k5 := fun (o : Nat) => hb.cell (p := ⟨w.heap.size + 1 + 1 + 1 + 1 + 1, o, none⟩) (by first | (simp; done) | (simp; omega) | omega))); (try (have f0 := fun (o : Nat) => hb.frozen (p := ⟨w.heap.size, o, none⟩) (by first | (simp; done) | (simp; omega) | omega))); (try (have f1 := fun (o : Nat) => hb.frozen (p := ⟨w.heap.size + 1, o, none⟩) (by first | (simp; done) | (simp; omega) | omega))); (try (have f2 := fun (o : Nat) => hb.frozen (p := ⟨w.heap.size + 1 + 1, o, none⟩) (by first | (simp; done) | (simp; omega) | omega))); (try (have f3 := fun (o : Nat) => hb.frozen (p := ⟨w.heap.size + 1 + 1 + 1, o, none⟩) (by first | (simp; done) | (simp; omega) | omega))); (try (have f4 := fun (o : Nat) => hb.frozen (p := ⟨w.heap.size + 1 + 1 + 1 + 1, o, none⟩) (by first | (simp; done) | (simp; omega) | omega))); (try (have f5 := fun (o : Nat) => hb.frozen (p := ⟨w.heap.size + 1 + 1 + 1 + 1 + 1, o, none⟩) (by first | (simp; done) | (simp; omega) | omega))))))
  go_ret
  exact ⟨rfl, by (repeat (first | (with_reducible exact Below.refl _ _) | (with_reducible refine bl_alloc ?_ ?_ _; focus (first | omega | (simp; done) | (simp; omega))) | (with_reducible refine bl_set ?_ ?_ _; focus (first | omega | (simp; done) | (simp; omega))) | (with_reducible refine Below.drew ?_) | (with_reducible refine below_drewN ?_ _) | (with_reducible refine below_step ?_ (by assumption))))⟩

theorem sLineMeets_in (i k : Nat) (hi : i < 27) (hk : k < 27) (w : World) :
    Calls Try.prog 24 #[.int .i64 (i : Int), .int .i64 (k : Int)] w fun e w' => e = .returned (.bool (mtB i k)) ∧ Below w.heap.size w w' := by
  have h1 := in27 i hi
  have h2 := in27 k hk
  go_enter Try.func24, Try.ntmps24
  go_wp2_with (first | (go_at_call 52; ((with_reducible refine (l6In_any _ _ _ _).mono ?_); rintro e w' ⟨rfl, rfl⟩)) | (go_at_call 63; ((with_reducible refine (l2Meets_any _ _ hi hk _).mono ?_); rintro e w' ⟨rfl, hb⟩; have hbz := hb.size; (try simp only [World.size_alloc, World.size_drew, World.size_setCell] at hbz); (try (have k0 := fun (o : Nat) => hb.cell (p := ⟨w.heap.size, o, none⟩) (by first | (simp; done) | (simp; omega) | omega))); (try (have k1 := fun (o : Nat) => hb.cell (p := ⟨w.heap.size + 1, o, none⟩) (by first | (simp; done) | (simp; omega) | omega))); (try (have k2 := fun (o : Nat) => hb.cell (p := ⟨w.heap.size + 1 + 1, o, none⟩) (by first | (simp; done) | (simp; omega) | omega))); (try (have k3 := fun (o : Nat) => hb.cell (p := ⟨w.heap.size + 1 + 1 + 1, o, none⟩) (by first | (simp; done) | (simp; omega) | omega))); (try (have k4 := fun (o : Nat) => hb.cell (p := ⟨w.heap.size + 1 + 1 + 1 + 1, o, none⟩) (by first | (simp; done) | (simp; omega) | omega))); (try (have k5 := fun (o : Nat) => hb.cell (p := ⟨w.heap.size + 1 + 1 + 1 + 1 + 1, o, none⟩) (by first | (simp; done) | (simp; omega) | omega))); (try (have f0 := fun (o : Nat) => hb.frozen (p := ⟨w.heap.size, o, none⟩) (by first | (simp; done) | (simp; omega) | omega))); (try (have f1 := fun (o : Nat) => hb.frozen (p := ⟨w.heap.size + 1, o, none⟩) (by first | (simp; done) | (simp; omega) | omega))); (try (have f2 := fun (o : Nat) => hb.frozen (p := ⟨w.heap.size + 1 + 1, o, none⟩) (by first | (simp; done) | (simp; omega) | omega))); (try (have f3 := fun (o : Nat) => hb.frozen (p := ⟨w.heap.size + 1 + 1 + 1, o, none⟩) (by first | (simp; done) | (simp; omega) | omega))); (try (have f4 := fun (o : Nat) => hb.frozen (p := ⟨w.heap.size + 1 + 1 + 1 + 1, o, none⟩) (by first | (simp; done) | (simp; omega) | omega))); (try (have f5 := fun (o : Nat) => hb.frozen (p := ⟨w.heap.size + 1 + 1 + 1 + 1 + 1, o, none⟩) (by first | (simp; done) | (simp; omega) | omega))))))
  go_ret
  exact ⟨rfl, by (repeat (first | (with_reducible exact Below.refl _ _) | (with_reducible refine bl_alloc ?_ ?_ _; focus (first | omega | (simp; done) | (simp; omega))) | (with_reducible refine bl_set ?_ ?_ _; focus (first | omega | (simp; done) | (simp; omega))) | (with_reducible refine Below.drew ?_) | (with_reducible refine below_drewN ?_ _) | (with_reducible refine below_step ?_ (by assumption))))⟩

theorem iLineMeets_out (i k : Int) (h : ¬ ((0 ≤ i ∧ i ≤ 26) ∧ (0 ≤ k ∧ k ≤ 26))) (w : World) :
    Calls Try.prog 23 #[.int .i64 i, .int .i64 k] w fun e w' => e = .returned (.bool false) ∧ Below w.heap.size w w' := by
  cases h1 : inB i 0 26
  · clear h
    go_enter Try.func23, Try.ntmps23
    go_wp2_with (go_at_call 58; ((with_reducible refine (isLine_any _ _).mono ?_); rintro e w' ⟨rfl, rfl⟩))
    go_ret
    exact ⟨rfl, by (repeat (first | (with_reducible exact Below.refl _ _) | (with_reducible refine bl_alloc ?_ ?_ _; focus (first | omega | (simp; done) | (simp; omega))) | (with_reducible refine bl_set ?_ ?_ _; focus (first | omega | (simp; done) | (simp; omega))) | (with_reducible refine Below.drew ?_) | (with_reducible refine below_drewN ?_ _) | (with_reducible refine below_step ?_ (by assumption))))⟩
  · have h2 : inB k 0 26 = false := by simp [inB] at h1 ⊢; omega
    clear h
    go_enter Try.func23, Try.ntmps23
    go_wp2_with (go_at_call 58; ((with_reducible refine (isLine_any _ _).mono ?_); rintro e w' ⟨rfl, rfl⟩))
    go_ret
    exact ⟨rfl, by (repeat (first | (with_reducible exact Below.refl _ _) | (with_reducible refine bl_alloc ?_ ?_ _; focus (first | omega | (simp; done) | (simp; omega))) | (with_reducible refine bl_set ?_ ?_ _; focus (first | omega | (simp; done) | (simp; omega))) | (with_reducible refine Below.drew ?_) | (with_reducible refine below_drewN ?_ _) | (with_reducible refine below_step ?_ (by assumption))))⟩

theorem sLineMeets_out (i k : Int) (h : ¬ ((0 ≤ i ∧ i ≤ 26) ∧ (0 ≤ k ∧ k ≤ 26))) (w : World) :
    Calls Try.prog 24 #[.int .i64 i, .int .i64 k] w fun e w' => e = .returned (.bool false) ∧ Below w.heap.size w w' := by
  cases h1 : inB i 0 26
  · clear h
    go_enter Try.func24, Try.ntmps24
    go_wp2_with (go_at_call 52; ((with_reducible refine (l6In_any _ _ _ _).mono ?_); rintro e w' ⟨rfl, rfl⟩))
    go_ret
    exact ⟨rfl, by (repeat (first | (with_reducible exact Below.refl _ _) | (with_reducible refine bl_alloc ?_ ?_ _; focus (first | omega | (simp; done) | (simp; omega))) | (with_reducible refine bl_set ?_ ?_ _; focus (first | omega | (simp; done) | (simp; omega))) | (with_reducible refine Below.drew ?_) | (with_reducible refine below_drewN ?_ _) | (with_reducible refine below_step ?_ (by assumption))))⟩
  · have h2 : inB k 0 26 = false := by simp [inB] at h1 ⊢; omega
    clear h
    go_enter Try.func24, Try.ntmps24
    go_wp2_with (go_at_call 52; ((with_reducible refine (l6In_any _ _ _ _).mono ?_); rintro e w' ⟨rfl, rfl⟩))
    go_ret
    exact ⟨rfl, by (repeat (first | (with_reducible exact Below.refl _ _) | (with_reducible refine bl_alloc ?_ ?_ _; focus (first | omega | (simp; done) | (simp; omega))) | (with_reducible refine bl_set ?_ ?_ _; focus (first | omega | (simp; done) | (simp; omega))) | (with_reducible refine Below.drew ?_) | (with_reducible refine below_drewN ?_ _) | (with_reducible refine below_step ?_ (by assumption))))⟩

end Go.Proofs.Ytogmfadeedmmaaa
