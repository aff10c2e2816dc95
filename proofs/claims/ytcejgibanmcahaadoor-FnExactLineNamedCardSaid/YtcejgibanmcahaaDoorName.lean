/- Contracts of the names of lines in the program and in the reference: for each index its name. Each holds in whatever memory. -/
import Derived.Test.YtcejgibanmcahaaDoorLine
import Derived.Test.YtcejgibanmcahaaDoorLineS
import Derived.Laws.BytesString
import Derived.Lib.Hide
namespace Go.Proofs.YtcejgibanmcahaaDoor
open Go.RowKit
set_option linter.unusedSimpArgs false
set_option linter.unusedVariables false
attribute [local go_sem] idx_0 idx_1 idx_2 idx_3 idx_4 idx_5

theorem itoa_1 (w : World) : Calls Tryd.prog 22 #[.int .i64 1] w fun e w' => e = .returned (.string ⟨#[49]⟩) ∧ Below w.heap.size w w' := by
  go_enter Tryd.func22, Tryd.ntmps22
  go_wp2
  go_ret
  exact ⟨rfl, by (repeat (first | (with_reducible exact Below.refl _ _) | (with_reducible refine bl_alloc ?_ ?_ _; focus (first | omega | (simp; done) | (simp; omega))) | (with_reducible refine bl_set ?_ ?_ _; focus (first | omega | (simp; done) | (simp; omega))) | (with_reducible refine Below.drew ?_) | (with_reducible refine below_drewN ?_ _) | (with_reducible refine below_step ?_ (by assumption))))⟩

theorem itoa_2 (w : World) : Calls Tryd.prog 22 #[.int .i64 2] w fun e w' => e = .returned (.string ⟨#[50]⟩) ∧ Below w.heap.size w w' := by
  go_enter Tryd.func22, Tryd.ntmps22
  go_wp2
  go_ret
  exact ⟨rfl, by (repeat (first | (with_reducible exact Below.refl _ _) | (with_reducible refine bl_alloc ?_ ?_ _; focus (first | omega | (simp; done) | (simp; omega))) | (with_reducible refine bl_set ?_ ?_ _; focus (first | omega | (simp; done) | (simp; omega))) | (with_reducible refine Below.drew ?_) | (with_reducible refine below_drewN ?_ _) | (with_reducible refine below_step ?_ (by assumption))))⟩

theorem itoa_3 (w : World) : Calls Tryd.prog 22 #[.int .i64 3] w fun e w' => e = .returned (.string ⟨#[51]⟩) ∧ Below w.heap.size w w' := by
  go_enter Tryd.func22, Tryd.ntmps22
  go_wp2
  go_ret
  exact ⟨rfl, by (repeat (first | (with_reducible exact Below.refl _ _) | (with_reducible refine bl_alloc ?_ ?_ _; focus (first | omega | (simp; done) | (simp; omega))) | (with_reducible refine bl_set ?_ ?_ _; focus (first | omega | (simp; done) | (simp; omega))) | (with_reducible refine Below.drew ?_) | (with_reducible refine below_drewN ?_ _) | (with_reducible refine below_step ?_ (by assumption))))⟩

theorem itoa_4 (w : World) : Calls Tryd.prog 22 #[.int .i64 4] w fun e w' => e = .returned (.string ⟨#[52]⟩) ∧ Below w.heap.size w w' := by
  go_enter Tryd.func22, Tryd.ntmps22
  go_wp2
  go_ret
  exact ⟨rfl, by (repeat (first | (with_reducible exact Below.refl _ _) | (with_reducible refine bl_alloc ?_ ?_ _; focus (first | omega | (simp; done) | (simp; omega))) | (with_reducible refine bl_set ?_ ?_ _; focus (first | omega | (simp; done) | (simp; omega))) | (with_reducible refine Below.drew ?_) | (with_reducible refine below_drewN ?_ _) | (with_reducible refine below_step ?_ (by assumption))))⟩

theorem itoa_5 (w : World) : Calls Tryd.prog 22 #[.int .i64 5] w fun e w' => e = .returned (.string ⟨#[53]⟩) ∧ Below w.heap.size w w' := by
  go_enter Tryd.func22, Tryd.ntmps22
  go_wp2
  go_ret
  exact ⟨rfl, by (repeat (first | (with_reducible exact Below.refl _ _) | (with_reducible refine bl_alloc ?_ ?_ _; focus (first | omega | (simp; done) | (simp; omega))) | (with_reducible refine bl_set ?_ ?_ _; focus (first | omega | (simp; done) | (simp; omega))) | (with_reducible refine Below.drew ?_) | (with_reducible refine below_drewN ?_ _) | (with_reducible refine below_step ?_ (by assumption))))⟩

theorem itoa_6 (w : World) : Calls Tryd.prog 22 #[.int .i64 6] w fun e w' => e = .returned (.string ⟨#[54]⟩) ∧ Below w.heap.size w w' := by
  go_enter Tryd.func22, Tryd.ntmps22
  go_wp2
  go_ret
  exact ⟨rfl, by (repeat (first | (with_reducible exact Below.refl _ _) | (with_reducible refine bl_alloc ?_ ?_ _; focus (first | omega | (simp; done) | (simp; omega))) | (with_reducible refine bl_set ?_ ?_ _; focus (first | omega | (simp; done) | (simp; omega))) | (with_reducible refine Below.drew ?_) | (with_reducible refine below_drewN ?_ _) | (with_reducible refine below_step ?_ (by assumption))))⟩

theorem new_cells (w : World) (v : Value) (t : TypeId) : ∀ j u, [v][j]? = some u → (w.alloc (.cells #[v] t)).cell? ((⟨w.heap.size, 0, none⟩ : Addr).add j) = some u := by
  intro j u hj
  match j, hj with
  | 0, hj => simp at hj; subst hj; simp [Addr.add]
/-- One byte as a text. -/
theorem conv1 (w : World) (n : Int) (s : ByteArray) (hs : ByteArray.empty.push (UInt8.ofNat n.toNat) = s) :
    (convert 24 9 (.slice (some ⟨w.heap.size, 0, none⟩) 1 1)).run Tryd.prog (w.alloc (.cells #[.int .u8 n] 5)) = .ok (.string s) (w.alloc (.cells #[.int .u8 n] 5)) := by
  have h := run_bytesToString (P := Tryd.prog) (w.alloc (.cells #[.int .u8 n] 5)) ⟨w.heap.size, 0, none⟩ 1 1 [n] (by
    have := run_loadCells_list (P := Tryd.prog) (w.alloc (.cells #[.int .u8 n] 5)) ⟨w.heap.size, 0, none⟩ [.int .u8 n] (new_cells _ _ _)
    simpa using this)
  subst hs
  unfold convert
  simp [Sem.run_bind, run_underlying Tryd.underlying24, run_underlying Tryd.underlying9, run_underlying Tryd.underlying5, Result.andThen, h]

theorem dec_1 (w : World) : Calls Tryd.prog 18 #[.int .i64 1] w fun e w' => e = .returned (.string ⟨#[49]⟩) ∧ Below w.heap.size w w' := by
  have hcv := conv1 w 49 ⟨#[49]⟩ (by decide)
  go_enter Tryd.func18, Tryd.ntmps18
  go_wp2
  go_ret
  exact ⟨rfl, by (repeat (first | (with_reducible exact Below.refl _ _) | (with_reducible refine bl_alloc ?_ ?_ _; focus (first | omega | (simp; done) | (simp; omega))) | (with_reducible refine bl_set ?_ ?_ _; focus (first | omega | (simp; done) | (simp; omega))) | (with_reducible refine Below.drew ?_) | (with_reducible refine below_drewN ?_ _) | (with_reducible refine below_step ?_ (by assumption))))⟩

theorem dec_2 (w : World) : Calls Tryd.prog 18 #[.int .i64 2] w fun e w' => e = .returned (.string ⟨#[50]⟩) ∧ Below w.heap.size w w' := by
  have hcv := conv1 w 50 ⟨#[50]⟩ (by decide)
  go_enter Tryd.func18, Tryd.ntmps18
  go_wp2
  go_ret
  exact ⟨rfl, by (repeat (first | (with_reducible exact Below.refl _ _) | (with_reducible refine bl_alloc ?_ ?_ _; focus (first | omega | (simp; done) | (simp; omega))) | (with_reducible refine bl_set ?_ ?_ _; focus (first | omega | (simp; done) | (simp; omega))) | (with_reducible refine Below.drew ?_) | (with_reducible refine below_drewN ?_ _) | (with_reducible refine below_step ?_ (by assumption))))⟩

theorem dec_3 (w : World) : Calls Tryd.prog 18 #[.int .i64 3] w fun e w' => e = .returned (.string ⟨#[51]⟩) ∧ Below w.heap.size w w' := by
  have hcv := conv1 w 51 ⟨#[51]⟩ (by decide)
  go_enter Tryd.func18, Tryd.ntmps18
  go_wp2
  go_ret
  exact ⟨rfl, by (repeat (first | (with_reducible exact Below.refl _ _) | (with_reducible refine bl_alloc ?_ ?_ _; focus (first | omega | (simp; done) | (simp; omega))) | (with_reducible refine bl_set ?_ ?_ _; focus (first | omega | (simp; done) | (simp; omega))) | (with_reducible refine Below.drew ?_) | (with_reducible refine below_drewN ?_ _) | (with_reducible refine below_step ?_ (by assumption))))⟩

theorem dec_4 (w : World) : Calls Tryd.prog 18 #[.int .i64 4] w fun e w' => e = .returned (.string ⟨#[52]⟩) ∧ Below w.heap.size w w' := by
  have hcv := conv1 w 52 ⟨#[52]⟩ (by decide)
  go_enter Tryd.func18, Tryd.ntmps18
  go_wp2
  go_ret
  exact ⟨rfl, by (repeat (first | (with_reducible exact Below.refl _ _) | (with_reducible refine bl_alloc ?_ ?_ _; focus (first | omega | (simp; done) | (simp; omega))) | (with_reducible refine bl_set ?_ ?_ _; focus (first | omega | (simp; done) | (simp; omega))) | (with_reducible refine Below.drew ?_) | (with_reducible refine below_drewN ?_ _) | (with_reducible refine below_step ?_ (by assumption))))⟩

theorem dec_5 (w : World) : Calls Tryd.prog 18 #[.int .i64 5] w fun e w' => e = .returned (.string ⟨#[53]⟩) ∧ Below w.heap.size w w' := by
  have hcv := conv1 w 53 ⟨#[53]⟩ (by decide)
  go_enter Tryd.func18, Tryd.ntmps18
  go_wp2
  go_ret
  exact ⟨rfl, by (repeat (first | (with_reducible exact Below.refl _ _) | (with_reducible refine bl_alloc ?_ ?_ _; focus (first | omega | (simp; done) | (simp; omega))) | (with_reducible refine bl_set ?_ ?_ _; focus (first | omega | (simp; done) | (simp; omega))) | (with_reducible refine Below.drew ?_) | (with_reducible refine below_drewN ?_ _) | (with_reducible refine below_step ?_ (by assumption))))⟩

theorem dec_6 (w : World) : Calls Tryd.prog 18 #[.int .i64 6] w fun e w' => e = .returned (.string ⟨#[54]⟩) ∧ Below w.heap.size w w' := by
  have hcv := conv1 w 54 ⟨#[54]⟩ (by decide)
  go_enter Tryd.func18, Tryd.ntmps18
  go_wp2
  go_ret
  exact ⟨rfl, by (repeat (first | (with_reducible exact Below.refl _ _) | (with_reducible refine bl_alloc ?_ ?_ _; focus (first | omega | (simp; done) | (simp; omega))) | (with_reducible refine bl_set ?_ ?_ _; focus (first | omega | (simp; done) | (simp; omega))) | (with_reducible refine Below.drew ?_) | (with_reducible refine below_drewN ?_ _) | (with_reducible refine below_step ?_ (by assumption))))⟩

/-- The name of a line, as bytes. -/
def NM : Nat → ByteArray
  | 0 => ⟨#[97, 49]⟩
  | 1 => ⟨#[97, 50]⟩
  | 2 => ⟨#[97, 51]⟩
  | 3 => ⟨#[97, 52]⟩
  | 4 => ⟨#[97, 53]⟩
  | 5 => ⟨#[97, 54]⟩
  | 6 => ⟨#[99, 49, 50]⟩
  | 7 => ⟨#[99, 49, 51]⟩
  | 8 => ⟨#[99, 49, 52]⟩
  | 9 => ⟨#[99, 49, 53]⟩
  | 10 => ⟨#[99, 49, 54]⟩
  | 11 => ⟨#[99, 50, 51]⟩
  | 12 => ⟨#[99, 50, 52]⟩
  | 13 => ⟨#[99, 50, 53]⟩
  | 14 => ⟨#[99, 50, 54]⟩
  | 15 => ⟨#[99, 51, 52]⟩
  | 16 => ⟨#[99, 51, 53]⟩
  | 17 => ⟨#[99, 51, 54]⟩
  | 18 => ⟨#[99, 52, 53]⟩
  | 19 => ⟨#[99, 52, 54]⟩
  | 20 => ⟨#[99, 53, 54]⟩
  | 21 => ⟨#[98, 49]⟩
  | 22 => ⟨#[98, 50]⟩
  | 23 => ⟨#[98, 51]⟩
  | 24 => ⟨#[98, 52]⟩
  | 25 => ⟨#[98, 53]⟩
  | _ => ⟨#[98, 54]⟩

theorem iName_0 (w : World) : Calls Tryd.prog 13 #[.int .i64 0] w fun e w' => e = .returned (.string (NM 0)) ∧ Below w.heap.size w w' := by
  go_enter Tryd.func13, Tryd.ntmps13
  go_wp2_with (go_at_call 22; ((with_reducible refine (itoa_1 _).mono ?_); rintro e w' ⟨rfl, hb⟩))
  go_ret
  exact ⟨rfl, by (repeat (first | (with_reducible exact Below.refl _ _) | (with_reducible refine bl_alloc ?_ ?_ _; focus (first | omega | (simp; done) | (simp; omega))) | (with_reducible refine bl_set ?_ ?_ _; focus (first | omega | (simp; done) | (simp; omega))) | (with_reducible refine Below.drew ?_) | (with_reducible refine below_drewN ?_ _) | (with_reducible refine below_step ?_ (by assumption))))⟩

theorem iName_1 (w : World) : Calls Tryd.prog 13 #[.int .i64 1] w fun e w' => e = .returned (.string (NM 1)) ∧ Below w.heap.size w w' := by
  go_enter Tryd.func13, Tryd.ntmps13
  go_wp2_with (go_at_call 22; ((with_reducible refine (itoa_2 _).mono ?_); rintro e w' ⟨rfl, hb⟩))
  go_ret
  exact ⟨rfl, by (repeat (first | (with_reducible exact Below.refl _ _) | (with_reducible refine bl_alloc ?_ ?_ _; focus (first | omega | (simp; done) | (simp; omega))) | (with_reducible refine bl_set ?_ ?_ _; focus (first | omega | (simp; done) | (simp; omega))) | (with_reducible refine Below.drew ?_) | (with_reducible refine below_drewN ?_ _) | (with_reducible refine below_step ?_ (by assumption))))⟩

theorem iName_2 (w : World) : Calls Tryd.prog 13 #[.int .i64 2] w fun e w' => e = .returned (.string (NM 2)) ∧ Below w.heap.size w w' := by
  go_enter Tryd.func13, Tryd.ntmps13
  go_wp2_with (go_at_call 22; ((with_reducible refine (itoa_3 _).mono ?_); rintro e w' ⟨rfl, hb⟩))
  go_ret
  exact ⟨rfl, by (repeat (first | (with_reducible exact Below.refl _ _) | (with_reducible refine bl_alloc ?_ ?_ _; focus (first | omega | (simp; done) | (simp; omega))) | (with_reducible refine bl_set ?_ ?_ _; focus (first | omega | (simp; done) | (simp; omega))) | (with_reducible refine Below.drew ?_) | (with_reducible refine below_drewN ?_ _) | (with_reducible refine below_step ?_ (by assumption))))⟩

theorem iName_3 (w : World) : Calls Tryd.prog 13 #[.int .i64 3] w fun e w' => e = .returned (.string (NM 3)) ∧ Below w.heap.size w w' := by
  go_enter Tryd.func13, Tryd.ntmps13
  go_wp2_with (go_at_call 22; ((with_reducible refine (itoa_4 _).mono ?_); rintro e w' ⟨rfl, hb⟩))
  go_ret
  exact ⟨rfl, by (repeat (first | (with_reducible exact Below.refl _ _) | (with_reducible refine bl_alloc ?_ ?_ _; focus (first | omega | (simp; done) | (simp; omega))) | (with_reducible refine bl_set ?_ ?_ _; focus (first | omega | (simp; done) | (simp; omega))) | (with_reducible refine Below.drew ?_) | (with_reducible refine below_drewN ?_ _) | (with_reducible refine below_step ?_ (by assumption))))⟩

theorem iName_4 (w : World) : Calls Tryd.prog 13 #[.int .i64 4] w fun e w' => e = .returned (.string (NM 4)) ∧ Below w.heap.size w w' := by
  go_enter Tryd.func13, Tryd.ntmps13
  go_wp2_with (go_at_call 22; ((with_reducible refine (itoa_5 _).mono ?_); rintro e w' ⟨rfl, hb⟩))
  go_ret
  exact ⟨rfl, by (repeat (first | (with_reducible exact Below.refl _ _) | (with_reducible refine bl_alloc ?_ ?_ _; focus (first | omega | (simp; done) | (simp; omega))) | (with_reducible refine bl_set ?_ ?_ _; focus (first | omega | (simp; done) | (simp; omega))) | (with_reducible refine Below.drew ?_) | (with_reducible refine below_drewN ?_ _) | (with_reducible refine below_step ?_ (by assumption))))⟩

theorem iName_5 (w : World) : Calls Tryd.prog 13 #[.int .i64 5] w fun e w' => e = .returned (.string (NM 5)) ∧ Below w.heap.size w w' := by
  go_enter Tryd.func13, Tryd.ntmps13
  go_wp2_with (go_at_call 22; ((with_reducible refine (itoa_6 _).mono ?_); rintro e w' ⟨rfl, hb⟩))
  go_ret
  exact ⟨rfl, by (repeat (first | (with_reducible exact Below.refl _ _) | (with_reducible refine bl_alloc ?_ ?_ _; focus (first | omega | (simp; done) | (simp; omega))) | (with_reducible refine bl_set ?_ ?_ _; focus (first | omega | (simp; done) | (simp; omega))) | (with_reducible refine Below.drew ?_) | (with_reducible refine below_drewN ?_ _) | (with_reducible refine below_step ?_ (by assumption))))⟩

theorem iName_6 (w : World) : Calls Tryd.prog 13 #[.int .i64 6] w fun e w' => e = .returned (.string (NM 6)) ∧ Below w.heap.size w w' := by
  go_enter Tryd.func13, Tryd.ntmps13
  go_wp2_with (first | (go_at_call 23; ((with_reducible refine (pairAt_0 _).mono ?_); rintro e w' ⟨rfl, rfl⟩)) | (go_at_call 22; ((with_reducible refine (itoa_1 _).mono ?_); rintro e w' ⟨rfl, hb⟩)) | (go_at_call 22; ((with_reducible refine (itoa_2 _).mono ?_); rintro e w' ⟨rfl, hb⟩)))
  go_ret
  exact ⟨rfl, by (repeat (first | (with_reducible exact Below.refl _ _) | (with_reducible refine bl_alloc ?_ ?_ _; focus (first | omega | (simp; done) | (simp; omega))) | (with_reducible refine bl_set ?_ ?_ _; focus (first | omega | (simp; done) | (simp; omega))) | (with_reducible refine Below.drew ?_) | (with_reducible refine below_drewN ?_ _) | (with_reducible refine below_step ?_ (by assumption))))⟩

theorem iName_7 (w : World) : Calls Tryd.prog 13 #[.int .i64 7] w fun e w' => e = .returned (.string (NM 7)) ∧ Below w.heap.size w w' := by
  go_enter Tryd.func13, Tryd.ntmps13
  go_wp2_with (first | (go_at_call 23; ((with_reducible refine (pairAt_1 _).mono ?_); rintro e w' ⟨rfl, rfl⟩)) | (go_at_call 22; ((with_reducible refine (itoa_1 _).mono ?_); rintro e w' ⟨rfl, hb⟩)) | (go_at_call 22; ((with_reducible refine (itoa_3 _).mono ?_); rintro e w' ⟨rfl, hb⟩)))
  go_ret
  exact ⟨rfl, by (repeat (first | (with_reducible exact Below.refl _ _) | (with_reducible refine bl_alloc ?_ ?_ _; focus (first | omega | (simp; done) | (simp; omega))) | (with_reducible refine bl_set ?_ ?_ _; focus (first | omega | (simp; done) | (simp; omega))) | (with_reducible refine Below.drew ?_) | (with_reducible refine below_drewN ?_ _) | (with_reducible refine below_step ?_ (by assumption))))⟩

theorem iName_8 (w : World) : Calls Tryd.prog 13 #[.int .i64 8] w fun e w' => e = .returned (.string (NM 8)) ∧ Below w.heap.size w w' := by
  go_enter Tryd.func13, Tryd.ntmps13
  go_wp2_with (first | (go_at_call 23; ((with_reducible refine (pairAt_2 _).mono ?_); rintro e w' ⟨rfl, rfl⟩)) | (go_at_call 22; ((with_reducible refine (itoa_1 _).mono ?_); rintro e w' ⟨rfl, hb⟩)) | (go_at_call 22; ((with_reducible refine (itoa_4 _).mono ?_); rintro e w' ⟨rfl, hb⟩)))
  go_ret
  exact ⟨rfl, by (repeat (first | (with_reducible exact Below.refl _ _) | (with_reducible refine bl_alloc ?_ ?_ _; focus (first | omega | (simp; done) | (simp; omega))) | (with_reducible refine bl_set ?_ ?_ _; focus (first | omega | (simp; done) | (simp; omega))) | (with_reducible refine Below.drew ?_) | (with_reducible refine below_drewN ?_ _) | (with_reducible refine below_step ?_ (by assumption))))⟩

theorem iName_9 (w : World) : Calls Tryd.prog 13 #[.int .i64 9] w fun e w' => e = .returned (.string (NM 9)) ∧ Below w.heap.size w w' := by
  go_enter Tryd.func13, Tryd.ntmps13
  go_wp2_with (first | (go_at_call 23; ((with_reducible refine (pairAt_3 _).mono ?_); rintro e w' ⟨rfl, rfl⟩)) | (go_at_call 22; ((with_reducible refine (itoa_1 _).mono ?_); rintro e w' ⟨rfl, hb⟩)) | (go_at_call 22; ((with_reducible refine (itoa_5 _).mono ?_); rintro e w' ⟨rfl, hb⟩)))
  go_ret
  exact ⟨rfl, by (repeat (first | (with_reducible exact Below.refl _ _) | (with_reducible refine bl_alloc ?_ ?_ _; focus (first | omega | (simp; done) | (simp; omega))) | (with_reducible refine bl_set ?_ ?_ _; focus (first | omega | (simp; done) | (simp; omega))) | (with_reducible refine Below.drew ?_) | (with_reducible refine below_drewN ?_ _) | (with_reducible refine below_step ?_ (by assumption))))⟩

theorem iName_10 (w : World) : Calls Tryd.prog 13 #[.int .i64 10] w fun e w' => e = .returned (.string (NM 10)) ∧ Below w.heap.size w w' := by
  go_enter Tryd.func13, Tryd.ntmps13
  go_wp2_with (first | (go_at_call 23; ((with_reducible refine (pairAt_4 _).mono ?_); rintro e w' ⟨rfl, rfl⟩)) | (go_at_call 22; ((with_reducible refine (itoa_1 _).mono ?_); rintro e w' ⟨rfl, hb⟩)) | (go_at_call 22; ((with_reducible refine (itoa_6 _).mono ?_); rintro e w' ⟨rfl, hb⟩)))
  go_ret
  exact ⟨rfl, by (repeat (first | (with_reducible exact Below.refl _ _) | (with_reducible refine bl_alloc ?_ ?_ _; focus (first | omega | (simp; done) | (simp; omega))) | (with_reducible refine bl_set ?_ ?_ _; focus (first | omega | (simp; done) | (simp; omega))) | (with_reducible refine Below.drew ?_) | (with_reducible refine below_drewN ?_ _) | (with_reducible refine below_step ?_ (by assumption))))⟩

theorem iName_11 (w : World) : Calls Tryd.prog 13 #[.int .i64 11] w fun e w' => e = .returned (.string (NM 11)) ∧ Below w.heap.size w w' := by
  go_enter Tryd.func13, Tryd.ntmps13
  go_wp2_with (first | (go_at_call 23; ((with_reducible refine (pairAt_5 _).mono ?_); rintro e w' ⟨rfl, rfl⟩)) | (go_at_call 22; ((with_reducible refine (itoa_2 _).mono ?_); rintro e w' ⟨rfl, hb⟩)) | (go_at_call 22; ((with_reducible refine (itoa_3 _).mono ?_); rintro e w' ⟨rfl, hb⟩)))
  go_ret
  exact ⟨rfl, by (repeat (first | (with_reducible exact Below.refl _ _) | (with_reducible refine bl_alloc ?_ ?_ _; focus (first | omega | (simp; done) | (simp; omega))) | (with_reducible refine bl_set ?_ ?_ _; focus (first | omega | (simp; done) | (simp; omega))) | (with_reducible refine Below.drew ?_) | (with_reducible refine below_drewN ?_ _) | (with_reducible refine below_step ?_ (by assumption))))⟩

theorem iName_12 (w : World) : Calls Tryd.prog 13 #[.int .i64 12] w fun e w' => e = .returned (.string (NM 12)) ∧ Below w.heap.size w w' := by
  go_enter Tryd.func13, Tryd.ntmps13
  go_wp2_with (first | (go_at_call 23; ((with_reducible refine (pairAt_6 _).mono ?_); rintro e w' ⟨rfl, rfl⟩)) | (go_at_call 22; ((with_reducible refine (itoa_2 _).mono ?_); rintro e w' ⟨rfl, hb⟩)) | (go_at_call 22; ((with_reducible refine (itoa_4 _).mono ?_); rintro e w' ⟨rfl, hb⟩)))
  go_ret
  exact ⟨rfl, by (repeat (first | (with_reducible exact Below.refl _ _) | (with_reducible refine bl_alloc ?_ ?_ _; focus (first | omega | (simp; done) | (simp; omega))) | (with_reducible refine bl_set ?_ ?_ _; focus (first | omega | (simp; done) | (simp; omega))) | (with_reducible refine Below.drew ?_) | (with_reducible refine below_drewN ?_ _) | (with_reducible refine below_step ?_ (by assumption))))⟩

theorem iName_13 (w : World) : Calls Tryd.prog 13 #[.int .i64 13] w fun e w' => e = .returned (.string (NM 13)) ∧ Below w.heap.size w w' := by
  go_enter Tryd.func13, Tryd.ntmps13
  go_wp2_with (first | (go_at_call 23; ((with_reducible refine (pairAt_7 _).mono ?_); rintro e w' ⟨rfl, rfl⟩)) | (go_at_call 22; ((with_reducible refine (itoa_2 _).mono ?_); rintro e w' ⟨rfl, hb⟩)) | (go_at_call 22; ((with_reducible refine (itoa_5 _).mono ?_); rintro e w' ⟨rfl, hb⟩)))
  go_ret
  exact ⟨rfl, by (repeat (first | (with_reducible exact Below.refl _ _) | (with_reducible refine bl_alloc ?_ ?_ _; focus (first | omega | (simp; done) | (simp; omega))) | (with_reducible refine bl_set ?_ ?_ _; focus (first | omega | (simp; done) | (simp; omega))) | (with_reducible refine Below.drew ?_) | (with_reducible refine below_drewN ?_ _) | (with_reducible refine below_step ?_ (by assumption))))⟩

theorem iName_14 (w : World) : Calls Tryd.prog 13 #[.int .i64 14] w fun e w' => e = .returned (.string (NM 14)) ∧ Below w.heap.size w w' := by
  go_enter Tryd.func13, Tryd.ntmps13
  go_wp2_with (first | (go_at_call 23; ((with_reducible refine (pairAt_8 _).mono ?_); rintro e w' ⟨rfl, rfl⟩)) | (go_at_call 22; ((with_reducible refine (itoa_2 _).mono ?_); rintro e w' ⟨rfl, hb⟩)) | (go_at_call 22; ((with_reducible refine (itoa_6 _).mono ?_); rintro e w' ⟨rfl, hb⟩)))
  go_ret
  exact ⟨rfl, by (repeat (first | (with_reducible exact Below.refl _ _) | (with_reducible refine bl_alloc ?_ ?_ _; focus (first | omega | (simp; done) | (simp; omega))) | (with_reducible refine bl_set ?_ ?_ _; focus (first | omega | (simp; done) | (simp; omega))) | (with_reducible refine Below.drew ?_) | (with_reducible refine below_drewN ?_ _) | (with_reducible refine below_step ?_ (by assumption))))⟩

theorem iName_15 (w : World) : Calls Tryd.prog 13 #[.int .i64 15] w fun e w' => e = .returned (.string (NM 15)) ∧ Below w.heap.size w w' := by
  go_enter Tryd.func13, Tryd.ntmps13
  go_wp2_with (first | (go_at_call 23; ((with_reducible refine (pairAt_9 _).mono ?_); rintro e w' ⟨rfl, rfl⟩)) | (go_at_call 22; ((with_reducible refine (itoa_3 _).mono ?_); rintro e w' ⟨rfl, hb⟩)) | (go_at_call 22; ((with_reducible refine (itoa_4 _).mono ?_); rintro e w' ⟨rfl, hb⟩)))
  go_ret
  exact ⟨rfl, by (repeat (first | (with_reducible exact Below.refl _ _) | (with_reducible refine bl_alloc ?_ ?_ _; focus (first | omega | (simp; done) | (simp; omega))) | (with_reducible refine bl_set ?_ ?_ _; focus (first | omega | (simp; done) | (simp; omega))) | (with_reducible refine Below.drew ?_) | (with_reducible refine below_drewN ?_ _) | (with_reducible refine below_step ?_ (by assumption))))⟩

theorem iName_16 (w : World) : Calls Tryd.prog 13 #[.int .i64 16] w fun e w' => e = .returned (.string (NM 16)) ∧ Below w.heap.size w w' := by
  go_enter Tryd.func13, Tryd.ntmps13
  go_wp2_with (first | (go_at_call 23; ((with_reducible refine (pairAt_10 _).mono ?_); rintro e w' ⟨rfl, rfl⟩)) | (go_at_call 22; ((with_reducible refine (itoa_3 _).mono ?_); rintro e w' ⟨rfl, hb⟩)) | (go_at_call 22; ((with_reducible refine (itoa_5 _).mono ?_); rintro e w' ⟨rfl, hb⟩)))
  go_ret
  exact ⟨rfl, by (repeat (first | (with_reducible exact Below.refl _ _) | (with_reducible refine bl_alloc ?_ ?_ _; focus (first | omega | (simp; done) | (simp; omega))) | (with_reducible refine bl_set ?_ ?_ _; focus (first | omega | (simp; done) | (simp; omega))) | (with_reducible refine Below.drew ?_) | (with_reducible refine below_drewN ?_ _) | (with_reducible refine below_step ?_ (by assumption))))⟩

theorem iName_17 (w : World) : Calls Tryd.prog 13 #[.int .i64 17] w fun e w' => e = .returned (.string (NM 17)) ∧ Below w.heap.size w w' := by
  go_enter Tryd.func13, Tryd.ntmps13
  go_wp2_with (first | (go_at_call 23; ((with_reducible refine (pairAt_11 _).mono ?_); rintro e w' ⟨rfl, rfl⟩)) | (go_at_call 22; ((with_reducible refine (itoa_3 _).mono ?_); rintro e w' ⟨rfl, hb⟩)) | (go_at_call 22; ((with_reducible refine (itoa_6 _).mono ?_); rintro e w' ⟨rfl, hb⟩)))
  go_ret
  exact ⟨rfl, by (repeat (first | (with_reducible exact Below.refl _ _) | (with_reducible refine bl_alloc ?_ ?_ _; focus (first | omega | (simp; done) | (simp; omega))) | (with_reducible refine bl_set ?_ ?_ _; focus (first | omega | (simp; done) | (simp; omega))) | (with_reducible refine Below.drew ?_) | (with_reducible refine below_drewN ?_ _) | (with_reducible refine below_step ?_ (by assumption))))⟩

theorem iName_18 (w : World) : Calls Tryd.prog 13 #[.int .i64 18] w fun e w' => e = .returned (.string (NM 18)) ∧ Below w.heap.size w w' := by
  go_enter Tryd.func13, Tryd.ntmps13
  go_wp2_with (first | (go_at_call 23; ((with_reducible refine (pairAt_12 _).mono ?_); rintro e w' ⟨rfl, rfl⟩)) | (go_at_call 22; ((with_reducible refine (itoa_4 _).mono ?_); rintro e w' ⟨rfl, hb⟩)) | (go_at_call 22; ((with_reducible refine (itoa_5 _).mono ?_); rintro e w' ⟨rfl, hb⟩)))
  go_ret
  exact ⟨rfl, by (repeat (first | (with_reducible exact Below.refl _ _) | (with_reducible refine bl_alloc ?_ ?_ _; focus (first | omega | (simp; done) | (simp; omega))) | (with_reducible refine bl_set ?_ ?_ _; focus (first | omega | (simp; done) | (simp; omega))) | (with_reducible refine Below.drew ?_) | (with_reducible refine below_drewN ?_ _) | (with_reducible refine below_step ?_ (by assumption))))⟩

theorem iName_19 (w : World) : Calls Tryd.prog 13 #[.int .i64 19] w fun e w' => e = .returned (.string (NM 19)) ∧ Below w.heap.size w w' := by
  go_enter Tryd.func13, Tryd.ntmps13
  go_wp2_with (first | (go_at_call 23; ((with_reducible refine (pairAt_13 _).mono ?_); rintro e w' ⟨rfl, rfl⟩)) | (go_at_call 22; ((with_reducible refine (itoa_4 _).mono ?_); rintro e w' ⟨rfl, hb⟩)) | (go_at_call 22; ((with_reducible refine (itoa_6 _).mono ?_); rintro e w' ⟨rfl, hb⟩)))
  go_ret
  exact ⟨rfl, by (repeat (first | (with_reducible exact Below.refl _ _) | (with_reducible refine bl_alloc ?_ ?_ _; focus (first | omega | (simp; done) | (simp; omega))) | (with_reducible refine bl_set ?_ ?_ _; focus (first | omega | (simp; done) | (simp; omega))) | (with_reducible refine Below.drew ?_) | (with_reducible refine below_drewN ?_ _) | (with_reducible refine below_step ?_ (by assumption))))⟩

theorem iName_20 (w : World) : Calls Tryd.prog 13 #[.int .i64 20] w fun e w' => e = .returned (.string (NM 20)) ∧ Below w.heap.size w w' := by
  go_enter Tryd.func13, Tryd.ntmps13
  go_wp2_with (first | (go_at_call 23; ((with_reducible refine (pairAt_14 _).mono ?_); rintro e w' ⟨rfl, rfl⟩)) | (go_at_call 22; ((with_reducible refine (itoa_5 _).mono ?_); rintro e w' ⟨rfl, hb⟩)) | (go_at_call 22; ((with_reducible refine (itoa_6 _).mono ?_); rintro e w' ⟨rfl, hb⟩)))
  go_ret
  exact ⟨rfl, by (repeat (first | (with_reducible exact Below.refl _ _) | (with_reducible refine bl_alloc ?_ ?_ _; focus (first | omega | (simp; done) | (simp; omega))) | (with_reducible refine bl_set ?_ ?_ _; focus (first | omega | (simp; done) | (simp; omega))) | (with_reducible refine Below.drew ?_) | (with_reducible refine below_drewN ?_ _) | (with_reducible refine below_step ?_ (by assumption))))⟩

theorem iName_21 (w : World) : Calls Tryd.prog 13 #[.int .i64 21] w fun e w' => e = .returned (.string (NM 21)) ∧ Below w.heap.size w w' := by
  go_enter Tryd.func13, Tryd.ntmps13
  go_wp2_with (go_at_call 22; ((with_reducible refine (itoa_1 _).mono ?_); rintro e w' ⟨rfl, hb⟩))
  go_ret
  exact ⟨rfl, by (repeat (first | (with_reducible exact Below.refl _ _) | (with_reducible refine bl_alloc ?_ ?_ _; focus (first | omega | (simp; done) | (simp; omega))) | (with_reducible refine bl_set ?_ ?_ _; focus (first | omega | (simp; done) | (simp; omega))) | (with_reducible refine Below.drew ?_) | (with_reducible refine below_drewN ?_ _) | (with_reducible refine below_step ?_ (by assumption))))⟩

theorem iName_22 (w : World) : Calls Tryd.prog 13 #[.int .i64 22] w fun e w' => e = .returned (.string (NM 22)) ∧ Below w.heap.size w w' := by
  go_enter Tryd.func13, Tryd.ntmps13
  go_wp2_with (go_at_call 22; ((with_reducible refine (itoa_2 _).mono ?_); rintro e w' ⟨rfl, hb⟩))
  go_ret
  exact ⟨rfl, by (repeat (first | (with_reducible exact Below.refl _ _) | (with_reducible refine bl_alloc ?_ ?_ _; focus (first | omega | (simp; done) | (simp; omega))) | (with_reducible refine bl_set ?_ ?_ _; focus (first | omega | (simp; done) | (simp; omega))) | (with_reducible refine Below.drew ?_) | (with_reducible refine below_drewN ?_ _) | (with_reducible refine below_step ?_ (by assumption))))⟩

theorem iName_23 (w : World) : Calls Tryd.prog 13 #[.int .i64 23] w fun e w' => e = .returned (.string (NM 23)) ∧ Below w.heap.size w w' := by
  go_enter Tryd.func13, Tryd.ntmps13
  go_wp2_with (go_at_call 22; ((with_reducible refine (itoa_3 _).mono ?_); rintro e w' ⟨rfl, hb⟩))
  go_ret
  exact ⟨rfl, by (repeat (first | (with_reducible exact Below.refl _ _) | (with_reducible refine bl_alloc ?_ ?_ _; focus (first | omega | (simp; done) | (simp; omega))) | (with_reducible refine bl_set ?_ ?_ _; focus (first | omega | (simp; done) | (simp; omega))) | (with_reducible refine Below.drew ?_) | (with_reducible refine below_drewN ?_ _) | (with_reducible refine below_step ?_ (by assumption))))⟩

theorem iName_24 (w : World) : Calls Tryd.prog 13 #[.int .i64 24] w fun e w' => e = .returned (.string (NM 24)) ∧ Below w.heap.size w w' := by
  go_enter Tryd.func13, Tryd.ntmps13
  go_wp2_with (go_at_call 22; ((with_reducible refine (itoa_4 _).mono ?_); rintro e w' ⟨rfl, hb⟩))
  go_ret
  exact ⟨rfl, by (repeat (first | (with_reducible exact Below.refl _ _) | (with_reducible refine bl_alloc ?_ ?_ _; focus (first | omega | (simp; done) | (simp; omega))) | (with_reducible refine bl_set ?_ ?_ _; focus (first | omega | (simp; done) | (simp; omega))) | (with_reducible refine Below.drew ?_) | (with_reducible refine below_drewN ?_ _) | (with_reducible refine below_step ?_ (by assumption))))⟩

theorem iName_25 (w : World) : Calls Tryd.prog 13 #[.int .i64 25] w fun e w' => e = .returned (.string (NM 25)) ∧ Below w.heap.size w w' := by
  go_enter Tryd.func13, Tryd.ntmps13
  go_wp2_with (go_at_call 22; ((with_reducible refine (itoa_5 _).mono ?_); rintro e w' ⟨rfl, hb⟩))
  go_ret
  exact ⟨rfl, by (repeat (first | (with_reducible exact Below.refl _ _) | (with_reducible refine bl_alloc ?_ ?_ _; focus (first | omega | (simp; done) | (simp; omega))) | (with_reducible refine bl_set ?_ ?_ _; focus (first | omega | (simp; done) | (simp; omega))) | (with_reducible refine Below.drew ?_) | (with_reducible refine below_drewN ?_ _) | (with_reducible refine below_step ?_ (by assumption))))⟩

theorem iName_26 (w : World) : Calls Tryd.prog 13 #[.int .i64 26] w fun e w' => e = .returned (.string (NM 26)) ∧ Below w.heap.size w w' := by
  go_enter Tryd.func13, Tryd.ntmps13
  go_wp2_with (go_at_call 22; ((with_reducible refine (itoa_6 _).mono ?_); rintro e w' ⟨rfl, hb⟩))
  go_ret
  exact ⟨rfl, by (repeat (first | (with_reducible exact Below.refl _ _) | (with_reducible refine bl_alloc ?_ ?_ _; focus (first | omega | (simp; done) | (simp; omega))) | (with_reducible refine bl_set ?_ ?_ _; focus (first | omega | (simp; done) | (simp; omega))) | (with_reducible refine Below.drew ?_) | (with_reducible refine below_drewN ?_ _) | (with_reducible refine below_step ?_ (by assumption))))⟩

theorem lineName_any : ∀ (k : Nat) (hk : k < 27) (w : World),
    Calls Tryd.prog 13 #[.int .i64 (k : Int)] w fun e w' => e = .returned (.string (NM k)) ∧ Below w.heap.size w w'
  | 0, _, w => iName_0 w
  | 1, _, w => iName_1 w
  | 2, _, w => iName_2 w
  | 3, _, w => iName_3 w
  | 4, _, w => iName_4 w
  | 5, _, w => iName_5 w
  | 6, _, w => iName_6 w
  | 7, _, w => iName_7 w
  | 8, _, w => iName_8 w
  | 9, _, w => iName_9 w
  | 10, _, w => iName_10 w
  | 11, _, w => iName_11 w
  | 12, _, w => iName_12 w
  | 13, _, w => iName_13 w
  | 14, _, w => iName_14 w
  | 15, _, w => iName_15 w
  | 16, _, w => iName_16 w
  | 17, _, w => iName_17 w
  | 18, _, w => iName_18 w
  | 19, _, w => iName_19 w
  | 20, _, w => iName_20 w
  | 21, _, w => iName_21 w
  | 22, _, w => iName_22 w
  | 23, _, w => iName_23 w
  | 24, _, w => iName_24 w
  | 25, _, w => iName_25 w
  | 26, _, w => iName_26 w
  | _ + 27, hk, _ => absurd hk (by omega)

theorem sName_0 (w : World) : Calls Tryd.prog 11 #[.int .i64 0] w fun e w' => e = .returned (.string (NM 0)) ∧ Below w.heap.size w w' := by
  have h := (by decide : inB 0 0 26 = true)
  go_enter Tryd.func11, Tryd.ntmps11
  go_wp2_with (first | (go_at_call 17; ((with_reducible refine (l6In_any _ _ _ _).mono ?_); rintro e w' ⟨rfl, rfl⟩)) | (go_at_call 18; ((with_reducible refine (dec_1 _).mono ?_); rintro e w' ⟨rfl, hb⟩)))
  go_ret
  exact ⟨rfl, by (repeat (first | (with_reducible exact Below.refl _ _) | (with_reducible refine bl_alloc ?_ ?_ _; focus (first | omega | (simp; done) | (simp; omega))) | (with_reducible refine bl_set ?_ ?_ _; focus (first | omega | (simp; done) | (simp; omega))) | (with_reducible refine Below.drew ?_) | (with_reducible refine below_drewN ?_ _) | (with_reducible refine below_step ?_ (by assumption))))⟩

theorem sName_1 (w : World) : Calls Tryd.prog 11 #[.int .i64 1] w fun e w' => e = .returned (.string (NM 1)) ∧ Below w.heap.size w w' := by
  have h := (by decide : inB 1 0 26 = true)
  go_enter Tryd.func11, Tryd.ntmps11
  go_wp2_with (first | (go_at_call 17; ((with_reducible refine (l6In_any _ _ _ _).mono ?_); rintro e w' ⟨rfl, rfl⟩)) | (go_at_call 18; ((with_reducible refine (dec_2 _).mono ?_); rintro e w' ⟨rfl, hb⟩)))
  go_ret
  exact ⟨rfl, by (repeat (first | (with_reducible exact Below.refl _ _) | (with_reducible refine bl_alloc ?_ ?_ _; focus (first | omega | (simp; done) | (simp; omega))) | (with_reducible refine bl_set ?_ ?_ _; focus (first | omega | (simp; done) | (simp; omega))) | (with_reducible refine Below.drew ?_) | (with_reducible refine below_drewN ?_ _) | (with_reducible refine below_step ?_ (by assumption))))⟩

theorem sName_2 (w : World) : Calls Tryd.prog 11 #[.int .i64 2] w fun e w' => e = .returned (.string (NM 2)) ∧ Below w.heap.size w w' := by
  have h := (by decide : inB 2 0 26 = true)
  go_enter Tryd.func11, Tryd.ntmps11
  go_wp2_with (first | (go_at_call 17; ((with_reducible refine (l6In_any _ _ _ _).mono ?_); rintro e w' ⟨rfl, rfl⟩)) | (go_at_call 18; ((with_reducible refine (dec_3 _).mono ?_); rintro e w' ⟨rfl, hb⟩)))
  go_ret
  exact ⟨rfl, by (repeat (first | (with_reducible exact Below.refl _ _) | (with_reducible refine bl_alloc ?_ ?_ _; focus (first | omega | (simp; done) | (simp; omega))) | (with_reducible refine bl_set ?_ ?_ _; focus (first | omega | (simp; done) | (simp; omega))) | (with_reducible refine Below.drew ?_) | (with_reducible refine below_drewN ?_ _) | (with_reducible refine below_step ?_ (by assumption))))⟩

theorem sName_3 (w : World) : Calls Tryd.prog 11 #[.int .i64 3] w fun e w' => e = .returned (.string (NM 3)) ∧ Below w.heap.size w w' := by
  have h := (by decide : inB 3 0 26 = true)
  go_enter Tryd.func11, Tryd.ntmps11
  go_wp2_with (first | (go_at_call 17; ((with_reducible refine (l6In_any _ _ _ _).mono ?_); rintro e w' ⟨rfl, rfl⟩)) | (go_at_call 18; ((with_reducible refine (dec_4 _).mono ?_); rintro e w' ⟨rfl, hb⟩)))
  go_ret
  exact ⟨rfl, by (repeat (first | (with_reducible exact Below.refl _ _) | (with_reducible refine bl_alloc ?_ ?_ _; focus (first | omega | (simp; done) | (simp; omega))) | (with_reducible refine bl_set ?_ ?_ _; focus (first | omega | (simp; done) | (simp; omega))) | (with_reducible refine Below.drew ?_) | (with_reducible refine below_drewN ?_ _) | (with_reducible refine below_step ?_ (by assumption))))⟩

theorem sName_4 (w : World) : Calls Tryd.prog 11 #[.int .i64 4] w fun e w' => e = .returned (.string (NM 4)) ∧ Below w.heap.size w w' := by
  have h := (by decide : inB 4 0 26 = true)
  go_enter Tryd.func11, Tryd.ntmps11
  go_wp2_with (first | (go_at_call 17; ((with_reducible refine (l6In_any _ _ _ _).mono ?_); rintro e w' ⟨rfl, rfl⟩)) | (go_at_call 18; ((with_reducible refine (dec_5 _).mono ?_); rintro e w' ⟨rfl, hb⟩)))
  go_ret
  exact ⟨rfl, by (repeat (first | (with_reducible exact Below.refl _ _) | (with_reducible refine bl_alloc ?_ ?_ _; focus (first | omega | (simp; done) | (simp; omega))) | (with_reducible refine bl_set ?_ ?_ _; focus (first | omega | (simp; done) | (simp; omega))) | (with_reducible refine Below.drew ?_) | (with_reducible refine below_drewN ?_ _) | (with_reducible refine below_step ?_ (by assumption))))⟩

theorem sName_5 (w : World) : Calls Tryd.prog 11 #[.int .i64 5] w fun e w' => e = .returned (.string (NM 5)) ∧ Below w.heap.size w w' := by
  have h := (by decide : inB 5 0 26 = true)
  go_enter Tryd.func11, Tryd.ntmps11
  go_wp2_with (first | (go_at_call 17; ((with_reducible refine (l6In_any _ _ _ _).mono ?_); rintro e w' ⟨rfl, rfl⟩)) | (go_at_call 18; ((with_reducible refine (dec_6 _).mono ?_); rintro e w' ⟨rfl, hb⟩)))
  go_ret
  exact ⟨rfl, by (repeat (first | (with_reducible exact Below.refl _ _) | (with_reducible refine bl_alloc ?_ ?_ _; focus (first | omega | (simp; done) | (simp; omega))) | (with_reducible refine bl_set ?_ ?_ _; focus (first | omega | (simp; done) | (simp; omega))) | (with_reducible refine Below.drew ?_) | (with_reducible refine below_drewN ?_ _) | (with_reducible refine below_step ?_ (by assumption))))⟩

set_option maxHeartbeats 2000000 in
theorem sName_6 (w : World) : Calls Tryd.prog 11 #[.int .i64 6] w fun e w' => e = .returned (.string (NM 6)) ∧ Below w.heap.size w w' := by
  have h := (by decide : inB 6 0 26 = true)
  have K := fun W : World => l1Of_6 W
  simp only [LC] at K
  have HK := Lib.hid K
  clear K
  go_enter Tryd.func11, Tryd.ntmps11
  go_wp2_with (first | (go_at_call 17; ((with_reducible refine (l6In_any _ _ _ _).mono ?_); rintro e w' ⟨rfl, rfl⟩)))
  refine (HK.out _).mono ?_
  rintro e wc ⟨rfl, hb1⟩
  have hsz := hb1.size
  go_wp2_with fail
  refine wp_loop_rounds 7 ?_
  rw [rounds_succ]
  go_wp2_with (first | (go_at_call 18; ((with_reducible refine (dec_1 _).mono ?_); rintro e w' ⟨rfl, hb⟩; have hbz := hb.size; (try simp only [World.size_alloc, World.size_drew, World.size_setCell] at hbz); have j0 := fun (o : Nat) => hb.cell (p := ⟨wc.heap.size, o, none⟩) (by first | (simp; done) | (simp; omega) | omega))) | (go_at_call 18; ((with_reducible refine (dec_2 _).mono ?_); rintro e w' ⟨rfl, hb⟩; have hbz := hb.size; (try simp only [World.size_alloc, World.size_drew, World.size_setCell] at hbz); have j0 := fun (o : Nat) => hb.cell (p := ⟨wc.heap.size, o, none⟩) (by first | (simp; done) | (simp; omega) | omega))))
  rw [rounds_succ]
  go_wp2_with (first | (go_at_call 18; ((with_reducible refine (dec_1 _).mono ?_); rintro e w' ⟨rfl, hb⟩; have hbz := hb.size; (try simp only [World.size_alloc, World.size_drew, World.size_setCell] at hbz); have j0 := fun (o : Nat) => hb.cell (p := ⟨wc.heap.size, o, none⟩) (by first | (simp; done) | (simp; omega) | omega))) | (go_at_call 18; ((with_reducible refine (dec_2 _).mono ?_); rintro e w' ⟨rfl, hb⟩; have hbz := hb.size; (try simp only [World.size_alloc, World.size_drew, World.size_setCell] at hbz); have j0 := fun (o : Nat) => hb.cell (p := ⟨wc.heap.size, o, none⟩) (by first | (simp; done) | (simp; omega) | omega))))
  rw [rounds_succ]
  go_wp2_with (first | (go_at_call 18; ((with_reducible refine (dec_1 _).mono ?_); rintro e w' ⟨rfl, hb⟩; have hbz := hb.size; (try simp only [World.size_alloc, World.size_drew, World.size_setCell] at hbz); have j0 := fun (o : Nat) => hb.cell (p := ⟨wc.heap.size, o, none⟩) (by first | (simp; done) | (simp; omega) | omega))) | (go_at_call 18; ((with_reducible refine (dec_2 _).mono ?_); rintro e w' ⟨rfl, hb⟩; have hbz := hb.size; (try simp only [World.size_alloc, World.size_drew, World.size_setCell] at hbz); have j0 := fun (o : Nat) => hb.cell (p := ⟨wc.heap.size, o, none⟩) (by first | (simp; done) | (simp; omega) | omega))))
  rw [rounds_succ]
  go_wp2_with (first | (go_at_call 18; ((with_reducible refine (dec_1 _).mono ?_); rintro e w' ⟨rfl, hb⟩; have hbz := hb.size; (try simp only [World.size_alloc, World.size_drew, World.size_setCell] at hbz); have j0 := fun (o : Nat) => hb.cell (p := ⟨wc.heap.size, o, none⟩) (by first | (simp; done) | (simp; omega) | omega))) | (go_at_call 18; ((with_reducible refine (dec_2 _).mono ?_); rintro e w' ⟨rfl, hb⟩; have hbz := hb.size; (try simp only [World.size_alloc, World.size_drew, World.size_setCell] at hbz); have j0 := fun (o : Nat) => hb.cell (p := ⟨wc.heap.size, o, none⟩) (by first | (simp; done) | (simp; omega) | omega))))
  rw [rounds_succ]
  go_wp2_with (first | (go_at_call 18; ((with_reducible refine (dec_1 _).mono ?_); rintro e w' ⟨rfl, hb⟩; have hbz := hb.size; (try simp only [World.size_alloc, World.size_drew, World.size_setCell] at hbz); have j0 := fun (o : Nat) => hb.cell (p := ⟨wc.heap.size, o, none⟩) (by first | (simp; done) | (simp; omega) | omega))) | (go_at_call 18; ((with_reducible refine (dec_2 _).mono ?_); rintro e w' ⟨rfl, hb⟩; have hbz := hb.size; (try simp only [World.size_alloc, World.size_drew, World.size_setCell] at hbz); have j0 := fun (o : Nat) => hb.cell (p := ⟨wc.heap.size, o, none⟩) (by first | (simp; done) | (simp; omega) | omega))))
  rw [rounds_succ]
  go_wp2_with (first | (go_at_call 18; ((with_reducible refine (dec_1 _).mono ?_); rintro e w' ⟨rfl, hb⟩; have hbz := hb.size; (try simp only [World.size_alloc, World.size_drew, World.size_setCell] at hbz); have j0 := fun (o : Nat) => hb.cell (p := ⟨wc.heap.size, o, none⟩) (by first | (simp; done) | (simp; omega) | omega))) | (go_at_call 18; ((with_reducible refine (dec_2 _).mono ?_); rintro e w' ⟨rfl, hb⟩; have hbz := hb.size; (try simp only [World.size_alloc, World.size_drew, World.size_setCell] at hbz); have j0 := fun (o : Nat) => hb.cell (p := ⟨wc.heap.size, o, none⟩) (by first | (simp; done) | (simp; omega) | omega))))
  rw [rounds_succ]
  go_wp2
  go_ret
  exact ⟨rfl, by (repeat (first | (with_reducible exact Below.refl _ _) | (with_reducible refine bl_alloc ?_ ?_ _; focus (first | omega | (simp; done) | (simp; omega))) | (with_reducible refine bl_set ?_ ?_ _; focus (first | omega | (simp; done) | (simp; omega))) | (with_reducible refine Below.drew ?_) | (with_reducible refine below_drewN ?_ _) | (with_reducible refine below_step ?_ (by assumption))))⟩

set_option maxHeartbeats 2000000 in
theorem sName_7 (w : World) : Calls Tryd.prog 11 #[.int .i64 7] w fun e w' => e = .returned (.string (NM 7)) ∧ Below w.heap.size w w' := by
  have h := (by decide : inB 7 0 26 = true)
  have K := fun W : World => l1Of_7 W
  simp only [LC] at K
  have HK := Lib.hid K
  clear K
  go_enter Tryd.func11, Tryd.ntmps11
  go_wp2_with (first | (go_at_call 17; ((with_reducible refine (l6In_any _ _ _ _).mono ?_); rintro e w' ⟨rfl, rfl⟩)))
  refine (HK.out _).mono ?_
  rintro e wc ⟨rfl, hb1⟩
  have hsz := hb1.size
  go_wp2_with fail
  refine wp_loop_rounds 7 ?_
  rw [rounds_succ]
  go_wp2_with (first | (go_at_call 18; ((with_reducible refine (dec_1 _).mono ?_); rintro e w' ⟨rfl, hb⟩; have hbz := hb.size; (try simp only [World.size_alloc, World.size_drew, World.size_setCell] at hbz); have j0 := fun (o : Nat) => hb.cell (p := ⟨wc.heap.size, o, none⟩) (by first | (simp; done) | (simp; omega) | omega))) | (go_at_call 18; ((with_reducible refine (dec_3 _).mono ?_); rintro e w' ⟨rfl, hb⟩; have hbz := hb.size; (try simp only [World.size_alloc, World.size_drew, World.size_setCell] at hbz); have j0 := fun (o : Nat) => hb.cell (p := ⟨wc.heap.size, o, none⟩) (by first | (simp; done) | (simp; omega) | omega))))
  rw [rounds_succ]
  go_wp2_with (first | (go_at_call 18; ((with_reducible refine (dec_1 _).mono ?_); rintro e w' ⟨rfl, hb⟩; have hbz := hb.size; (try simp only [World.size_alloc, World.size_drew, World.size_setCell] at hbz); have j0 := fun (o : Nat) => hb.cell (p := ⟨wc.heap.size, o, none⟩) (by first | (simp; done) | (simp; omega) | omega))) | (go_at_call 18; ((with_reducible refine (dec_3 _).mono ?_); rintro e w' ⟨rfl, hb⟩; have hbz := hb.size; (try simp only [World.size_alloc, World.size_drew, World.size_setCell] at hbz); have j0 := fun (o : Nat) => hb.cell (p := ⟨wc.heap.size, o, none⟩) (by first | (simp; done) | (simp; omega) | omega))))
  rw [rounds_succ]
  go_wp2_with (first | (go_at_call 18; ((with_reducible refine (dec_1 _).mono ?_); rintro e w' ⟨rfl, hb⟩; have hbz := hb.size; (try simp only [World.size_alloc, World.size_drew, World.size_setCell] at hbz); have j0 := fun (o : Nat) => hb.cell (p := ⟨wc.heap.size, o, none⟩) (by first | (simp; done) | (simp; omega) | omega))) | (go_at_call 18; ((with_reducible refine (dec_3 _).mono ?_); rintro e w' ⟨rfl, hb⟩; have hbz := hb.size; (try simp only [World.size_alloc, World.size_drew, World.size_setCell] at hbz); have j0 := fun (o : Nat) => hb.cell (p := ⟨wc.heap.size, o, none⟩) (by first | (simp; done) | (simp; omega) | omega))))
  rw [rounds_succ]
  go_wp2_with (first | (go_at_call 18; ((with_reducible refine (dec_1 _).mono ?_); rintro e w' ⟨rfl, hb⟩; have hbz := hb.size; (try simp only [World.size_alloc, World.size_drew, World.size_setCell] at hbz); have j0 := fun (o : Nat) => hb.cell (p := ⟨wc.heap.size, o, none⟩) (by first | (simp; done) | (simp; omega) | omega))) | (go_at_call 18; ((with_reducible refine (dec_3 _).mono ?_); rintro e w' ⟨rfl, hb⟩; have hbz := hb.size; (try simp only [World.size_alloc, World.size_drew, World.size_setCell] at hbz); have j0 := fun (o : Nat) => hb.cell (p := ⟨wc.heap.size, o, none⟩) (by first | (simp; done) | (simp; omega) | omega))))
  rw [rounds_succ]
  go_wp2_with (first | (go_at_call 18; ((with_reducible refine (dec_1 _).mono ?_); rintro e w' ⟨rfl, hb⟩; have hbz := hb.size; (try simp only [World.size_alloc, World.size_drew, World.size_setCell] at hbz); have j0 := fun (o : Nat) => hb.cell (p := ⟨wc.heap.size, o, none⟩) (by first | (simp; done) | (simp; omega) | omega))) | (go_at_call 18; ((with_reducible refine (dec_3 _).mono ?_); rintro e w' ⟨rfl, hb⟩; have hbz := hb.size; (try simp only [World.size_alloc, World.size_drew, World.size_setCell] at hbz); have j0 := fun (o : Nat) => hb.cell (p := ⟨wc.heap.size, o, none⟩) (by first | (simp; done) | (simp; omega) | omega))))
  rw [rounds_succ]
  go_wp2_with (first | (go_at_call 18; ((with_reducible refine (dec_1 _).mono ?_); rintro e w' ⟨rfl, hb⟩; have hbz := hb.size; (try simp only [World.size_alloc, World.size_drew, World.size_setCell] at hbz); have j0 := fun (o : Nat) => hb.cell (p := ⟨wc.heap.size, o, none⟩) (by first | (simp; done) | (simp; omega) | omega))) | (go_at_call 18; ((with_reducible refine (dec_3 _).mono ?_); rintro e w' ⟨rfl, hb⟩; have hbz := hb.size; (try simp only [World.size_alloc, World.size_drew, World.size_setCell] at hbz); have j0 := fun (o : Nat) => hb.cell (p := ⟨wc.heap.size, o, none⟩) (by first | (simp; done) | (simp; omega) | omega))))
  rw [rounds_succ]
  go_wp2
  go_ret
  exact ⟨rfl, by (repeat (first | (with_reducible exact Below.refl _ _) | (with_reducible refine bl_alloc ?_ ?_ _; focus (first | omega | (simp; done) | (simp; omega))) | (with_reducible refine bl_set ?_ ?_ _; focus (first | omega | (simp; done) | (simp; omega))) | (with_reducible refine Below.drew ?_) | (with_reducible refine below_drewN ?_ _) | (with_reducible refine below_step ?_ (by assumption))))⟩

set_option maxHeartbeats 2000000 in
theorem sName_8 (w : World) : Calls Tryd.prog 11 #[.int .i64 8] w fun e w' => e = .returned (.string (NM 8)) ∧ Below w.heap.size w w' := by
  have h := (by decide : inB 8 0 26 = true)
  have K := fun W : World => l1Of_8 W
  simp only [LC] at K
  have HK := Lib.hid K
  clear K
  go_enter Tryd.func11, Tryd.ntmps11
  go_wp2_with (first | (go_at_call 17; ((with_reducible refine (l6In_any _ _ _ _).mono ?_); rintro e w' ⟨rfl, rfl⟩)))
  refine (HK.out _).mono ?_
  rintro e wc ⟨rfl, hb1⟩
  have hsz := hb1.size
  go_wp2_with fail
  refine wp_loop_rounds 7 ?_
  rw [rounds_succ]
  go_wp2_with (first | (go_at_call 18; ((with_reducible refine (dec_1 _).mono ?_); rintro e w' ⟨rfl, hb⟩; have hbz := hb.size; (try simp only [World.size_alloc, World.size_drew, World.size_setCell] at hbz); have j0 := fun (o : Nat) => hb.cell (p := ⟨wc.heap.size, o, none⟩) (by first | (simp; done) | (simp; omega) | omega))) | (go_at_call 18; ((with_reducible refine (dec_4 _).mono ?_); rintro e w' ⟨rfl, hb⟩; have hbz := hb.size; (try simp only [World.size_alloc, World.size_drew, World.size_setCell] at hbz); have j0 := fun (o : Nat) => hb.cell (p := ⟨wc.heap.size, o, none⟩) (by first | (simp; done) | (simp; omega) | omega))))
  rw [rounds_succ]
  go_wp2_with (first | (go_at_call 18; ((with_reducible refine (dec_1 _).mono ?_); rintro e w' ⟨rfl, hb⟩; have hbz := hb.size; (try simp only [World.size_alloc, World.size_drew, World.size_setCell] at hbz); have j0 := fun (o : Nat) => hb.cell (p := ⟨wc.heap.size, o, none⟩) (by first | (simp; done) | (simp; omega) | omega))) | (go_at_call 18; ((with_reducible refine (dec_4 _).mono ?_); rintro e w' ⟨rfl, hb⟩; have hbz := hb.size; (try simp only [World.size_alloc, World.size_drew, World.size_setCell] at hbz); have j0 := fun (o : Nat) => hb.cell (p := ⟨wc.heap.size, o, none⟩) (by first | (simp; done) | (simp; omega) | omega))))
  rw [rounds_succ]
  go_wp2_with (first | (go_at_call 18; ((with_reducible refine (dec_1 _).mono ?_); rintro e w' ⟨rfl, hb⟩; have hbz := hb.size; (try simp only [World.size_alloc, World.size_drew, World.size_setCell] at hbz); have j0 := fun (o : Nat) => hb.cell (p := ⟨wc.heap.size, o, none⟩) (by first | (simp; done) | (simp; omega) | omega))) | (go_at_call 18; ((with_reducible refine (dec_4 _).mono ?_); rintro e w' ⟨rfl, hb⟩; have hbz := hb.size; (try simp only [World.size_alloc, World.size_drew, World.size_setCell] at hbz); have j0 := fun (o : Nat) => hb.cell (p := ⟨wc.heap.size, o, none⟩) (by first | (simp; done) | (simp; omega) | omega))))
  rw [rounds_succ]
  go_wp2_with (first | (go_at_call 18; ((with_reducible refine (dec_1 _).mono ?_); rintro e w' ⟨rfl, hb⟩; have hbz := hb.size; (try simp only [World.size_alloc, World.size_drew, World.size_setCell] at hbz); have j0 := fun (o : Nat) => hb.cell (p := ⟨wc.heap.size, o, none⟩) (by first | (simp; done) | (simp; omega) | omega))) | (go_at_call 18; ((with_reducible refine (dec_4 _).mono ?_); rintro e w' ⟨rfl, hb⟩; have hbz := hb.size; (try simp only [World.size_alloc, World.size_drew, World.size_setCell] at hbz); have j0 := fun (o : Nat) => hb.cell (p := ⟨wc.heap.size, o, none⟩) (by first | (simp; done) | (simp; omega) | omega))))
  rw [rounds_succ]
  go_wp2_with (first | (go_at_call 18; ((with_reducible refine (dec_1 _).mono ?_); rintro e w' ⟨rfl, hb⟩; have hbz := hb.size; (try simp only [World.size_alloc, World.size_drew, World.size_setCell] at hbz); have j0 := fun (o : Nat) => hb.cell (p := ⟨wc.heap.size, o, none⟩) (by first | (simp; done) | (simp; omega) | omega))) | (go_at_call 18; ((with_reducible refine (dec_4 _).mono ?_); rintro e w' ⟨rfl, hb⟩; have hbz := hb.size; (try simp only [World.size_alloc, World.size_drew, World.size_setCell] at hbz); have j0 := fun (o : Nat) => hb.cell (p := ⟨wc.heap.size, o, none⟩) (by first | (simp; done) | (simp; omega) | omega))))
  rw [rounds_succ]
  go_wp2_with (first | (go_at_call 18; ((with_reducible refine (dec_1 _).mono ?_); rintro e w' ⟨rfl, hb⟩; have hbz := hb.size; (try simp only [World.size_alloc, World.size_drew, World.size_setCell] at hbz); have j0 := fun (o : Nat) => hb.cell (p := ⟨wc.heap.size, o, none⟩) (by first | (simp; done) | (simp; omega) | omega))) | (go_at_call 18; ((with_reducible refine (dec_4 _).mono ?_); rintro e w' ⟨rfl, hb⟩; have hbz := hb.size; (try simp only [World.size_alloc, World.size_drew, World.size_setCell] at hbz); have j0 := fun (o : Nat) => hb.cell (p := ⟨wc.heap.size, o, none⟩) (by first | (simp; done) | (simp; omega) | omega))))
  rw [rounds_succ]
  go_wp2
  go_ret
  exact ⟨rfl, by (repeat (first | (with_reducible exact Below.refl _ _) | (with_reducible refine bl_alloc ?_ ?_ _; focus (first | omega | (simp; done) | (simp; omega))) | (with_reducible refine bl_set ?_ ?_ _; focus (first | omega | (simp; done) | (simp; omega))) | (with_reducible refine Below.drew ?_) | (with_reducible refine below_drewN ?_ _) | (with_reducible refine below_step ?_ (by assumption))))⟩

set_option maxHeartbeats 2000000 in
theorem sName_9 (w : World) : Calls Tryd.prog 11 #[.int .i64 9] w fun e w' => e = .returned (.string (NM 9)) ∧ Below w.heap.size w w' := by
  have h := (by decide : inB 9 0 26 = true)
  have K := fun W : World => l1Of_9 W
  simp only [LC] at K
  have HK := Lib.hid K
  clear K
  go_enter Tryd.func11, Tryd.ntmps11
  go_wp2_with (first | (go_at_call 17; ((with_reducible refine (l6In_any _ _ _ _).mono ?_); rintro e w' ⟨rfl, rfl⟩)))
  refine (HK.out _).mono ?_
  rintro e wc ⟨rfl, hb1⟩
  have hsz := hb1.size
  go_wp2_with fail
  refine wp_loop_rounds 7 ?_
  rw [rounds_succ]
  go_wp2_with (first | (go_at_call 18; ((with_reducible refine (dec_1 _).mono ?_); rintro e w' ⟨rfl, hb⟩; have hbz := hb.size; (try simp only [World.size_alloc, World.size_drew, World.size_setCell] at hbz); have j0 := fun (o : Nat) => hb.cell (p := ⟨wc.heap.size, o, none⟩) (by first | (simp; done) | (simp; omega) | omega))) | (go_at_call 18; ((with_reducible refine (dec_5 _).mono ?_); rintro e w' ⟨rfl, hb⟩; have hbz := hb.size; (try simp only [World.size_alloc, World.size_drew, World.size_setCell] at hbz); have j0 := fun (o : Nat) => hb.cell (p := ⟨wc.heap.size, o, none⟩) (by first | (simp; done) | (simp; omega) | omega))))
  rw [rounds_succ]
  go_wp2_with (first | (go_at_call 18; ((with_reducible refine (dec_1 _).mono ?_); rintro e w' ⟨rfl, hb⟩; have hbz := hb.size; (try simp only [World.size_alloc, World.size_drew, World.size_setCell] at hbz); have j0 := fun (o : Nat) => hb.cell (p := ⟨wc.heap.size, o, none⟩) (by first | (simp; done) | (simp; omega) | omega))) | (go_at_call 18; ((with_reducible refine (dec_5 _).mono ?_); rintro e w' ⟨rfl, hb⟩; have hbz := hb.size; (try simp only [World.size_alloc, World.size_drew, World.size_setCell] at hbz); have j0 := fun (o : Nat) => hb.cell (p := ⟨wc.heap.size, o, none⟩) (by first | (simp; done) | (simp; omega) | omega))))
  rw [rounds_succ]
  go_wp2_with (first | (go_at_call 18; ((with_reducible refine (dec_1 _).mono ?_); rintro e w' ⟨rfl, hb⟩; have hbz := hb.size; (try simp only [World.size_alloc, World.size_drew, World.size_setCell] at hbz); have j0 := fun (o : Nat) => hb.cell (p := ⟨wc.heap.size, o, none⟩) (by first | (simp; done) | (simp; omega) | omega))) | (go_at_call 18; ((with_reducible refine (dec_5 _).mono ?_); rintro e w' ⟨rfl, hb⟩; have hbz := hb.size; (try simp only [World.size_alloc, World.size_drew, World.size_setCell] at hbz); have j0 := fun (o : Nat) => hb.cell (p := ⟨wc.heap.size, o, none⟩) (by first | (simp; done) | (simp; omega) | omega))))
  rw [rounds_succ]
  go_wp2_with (first | (go_at_call 18; ((with_reducible refine (dec_1 _).mono ?_); rintro e w' ⟨rfl, hb⟩; have hbz := hb.size; (try simp only [World.size_alloc, World.size_drew, World.size_setCell] at hbz); have j0 := fun (o : Nat) => hb.cell (p := ⟨wc.heap.size, o, none⟩) (by first | (simp; done) | (simp; omega) | omega))) | (go_at_call 18; ((with_reducible refine (dec_5 _).mono ?_); rintro e w' ⟨rfl, hb⟩; have hbz := hb.size; (try simp only [World.size_alloc, World.size_drew, World.size_setCell] at hbz); have j0 := fun (o : Nat) => hb.cell (p := ⟨wc.heap.size, o, none⟩) (by first | (simp; done) | (simp; omega) | omega))))
  rw [rounds_succ]
  go_wp2_with (first | (go_at_call 18; ((with_reducible refine (dec_1 _).mono ?_); rintro e w' ⟨rfl, hb⟩; have hbz := hb.size; (try simp only [World.size_alloc, World.size_drew, World.size_setCell] at hbz); have j0 := fun (o : Nat) => hb.cell (p := ⟨wc.heap.size, o, none⟩) (by first | (simp; done) | (simp; omega) | omega))) | (go_at_call 18; ((with_reducible refine (dec_5 _).mono ?_); rintro e w' ⟨rfl, hb⟩; have hbz := hb.size; (try simp only [World.size_alloc, World.size_drew, World.size_setCell] at hbz); have j0 := fun (o : Nat) => hb.cell (p := ⟨wc.heap.size, o, none⟩) (by first | (simp; done) | (simp; omega) | omega))))
  rw [rounds_succ]
  go_wp2_with (first | (go_at_call 18; ((with_reducible refine (dec_1 _).mono ?_); rintro e w' ⟨rfl, hb⟩; have hbz := hb.size; (try simp only [World.size_alloc, World.size_drew, World.size_setCell] at hbz); have j0 := fun (o : Nat) => hb.cell (p := ⟨wc.heap.size, o, none⟩) (by first | (simp; done) | (simp; omega) | omega))) | (go_at_call 18; ((with_reducible refine (dec_5 _).mono ?_); rintro e w' ⟨rfl, hb⟩; have hbz := hb.size; (try simp only [World.size_alloc, World.size_drew, World.size_setCell] at hbz); have j0 := fun (o : Nat) => hb.cell (p := ⟨wc.heap.size, o, none⟩) (by first | (simp; done) | (simp; omega) | omega))))
  rw [rounds_succ]
  go_wp2
  go_ret
  exact ⟨rfl, by (repeat (first | (with_reducible exact Below.refl _ _) | (with_reducible refine bl_alloc ?_ ?_ _; focus (first | omega | (simp; done) | (simp; omega))) | (with_reducible refine bl_set ?_ ?_ _; focus (first | omega | (simp; done) | (simp; omega))) | (with_reducible refine Below.drew ?_) | (with_reducible refine below_drewN ?_ _) | (with_reducible refine below_step ?_ (by assumption))))⟩

set_option maxHeartbeats 2000000 in
theorem sName_10 (w : World) : Calls Tryd.prog 11 #[.int .i64 10] w fun e w' => e = .returned (.string (NM 10)) ∧ Below w.heap.size w w' := by
  have h := (by decide : inB 10 0 26 = true)
  have K := fun W : World => l1Of_10 W
  simp only [LC] at K
  have HK := Lib.hid K
  clear K
  go_enter Tryd.func11, Tryd.ntmps11
  go_wp2_with (first | (go_at_call 17; ((with_reducible refine (l6In_any _ _ _ _).mono ?_); rintro e w' ⟨rfl, rfl⟩)))
  refine (HK.out _).mono ?_
  rintro e wc ⟨rfl, hb1⟩
  have hsz := hb1.size
  go_wp2_with fail
  refine wp_loop_rounds 7 ?_
  rw [rounds_succ]
  go_wp2_with (first | (go_at_call 18; ((with_reducible refine (dec_1 _).mono ?_); rintro e w' ⟨rfl, hb⟩; have hbz := hb.size; (try simp only [World.size_alloc, World.size_drew, World.size_setCell] at hbz); have j0 := fun (o : Nat) => hb.cell (p := ⟨wc.heap.size, o, none⟩) (by first | (simp; done) | (simp; omega) | omega))) | (go_at_call 18; ((with_reducible refine (dec_6 _).mono ?_); rintro e w' ⟨rfl, hb⟩; have hbz := hb.size; (try simp only [World.size_alloc, World.size_drew, World.size_setCell] at hbz); have j0 := fun (o : Nat) => hb.cell (p := ⟨wc.heap.size, o, none⟩) (by first | (simp; done) | (simp; omega) | omega))))
  rw [rounds_succ]
  go_wp2_with (first | (go_at_call 18; ((with_reducible refine (dec_1 _).mono ?_); rintro e w' ⟨rfl, hb⟩; have hbz := hb.size; (try simp only [World.size_alloc, World.size_drew, World.size_setCell] at hbz); have j0 := fun (o : Nat) => hb.cell (p := ⟨wc.heap.size, o, none⟩) (by first | (simp; done) | (simp; omega) | omega))) | (go_at_call 18; ((with_reducible refine (dec_6 _).mono ?_); rintro e w' ⟨rfl, hb⟩; have hbz := hb.size; (try simp only [World.size_alloc, World.size_drew, World.size_setCell] at hbz); have j0 := fun (o : Nat) => hb.cell (p := ⟨wc.heap.size, o, none⟩) (by first | (simp; done) | (simp; omega) | omega))))
  rw [rounds_succ]
  go_wp2_with (first | (go_at_call 18; ((with_reducible refine (dec_1 _).mono ?_); rintro e w' ⟨rfl, hb⟩; have hbz := hb.size; (try simp only [World.size_alloc, World.size_drew, World.size_setCell] at hbz); have j0 := fun (o : Nat) => hb.cell (p := ⟨wc.heap.size, o, none⟩) (by first | (simp; done) | (simp; omega) | omega))) | (go_at_call 18; ((with_reducible refine (dec_6 _).mono ?_); rintro e w' ⟨rfl, hb⟩; have hbz := hb.size; (try simp only [World.size_alloc, World.size_drew, World.size_setCell] at hbz); have j0 := fun (o : Nat) => hb.cell (p := ⟨wc.heap.size, o, none⟩) (by first | (simp; done) | (simp; omega) | omega))))
  rw [rounds_succ]
  go_wp2_with (first | (go_at_call 18; ((with_reducible refine (dec_1 _).mono ?_); rintro e w' ⟨rfl, hb⟩; have hbz := hb.size; (try simp only [World.size_alloc, World.size_drew, World.size_setCell] at hbz); have j0 := fun (o : Nat) => hb.cell (p := ⟨wc.heap.size, o, none⟩) (by first | (simp; done) | (simp; omega) | omega))) | (go_at_call 18; ((with_reducible refine (dec_6 _).mono ?_); rintro e w' ⟨rfl, hb⟩; have hbz := hb.size; (try simp only [World.size_alloc, World.size_drew, World.size_setCell] at hbz); have j0 := fun (o : Nat) => hb.cell (p := ⟨wc.heap.size, o, none⟩) (by first | (simp; done) | (simp; omega) | omega))))
  rw [rounds_succ]
  go_wp2_with (first | (go_at_call 18; ((with_reducible refine (dec_1 _).mono ?_); rintro e w' ⟨rfl, hb⟩; have hbz := hb.size; (try simp only [World.size_alloc, World.size_drew, World.size_setCell] at hbz); have j0 := fun (o : Nat) => hb.cell (p := ⟨wc.heap.size, o, none⟩) (by first | (simp; done) | (simp; omega) | omega))) | (go_at_call 18; ((with_reducible refine (dec_6 _).mono ?_); rintro e w' ⟨rfl, hb⟩; have hbz := hb.size; (try simp only [World.size_alloc, World.size_drew, World.size_setCell] at hbz); have j0 := fun (o : Nat) => hb.cell (p := ⟨wc.heap.size, o, none⟩) (by first | (simp; done) | (simp; omega) | omega))))
  rw [rounds_succ]
  go_wp2_with (first | (go_at_call 18; ((with_reducible refine (dec_1 _).mono ?_); rintro e w' ⟨rfl, hb⟩; have hbz := hb.size; (try simp only [World.size_alloc, World.size_drew, World.size_setCell] at hbz); have j0 := fun (o : Nat) => hb.cell (p := ⟨wc.heap.size, o, none⟩) (by first | (simp; done) | (simp; omega) | omega))) | (go_at_call 18; ((with_reducible refine (dec_6 _).mono ?_); rintro e w' ⟨rfl, hb⟩; have hbz := hb.size; (try simp only [World.size_alloc, World.size_drew, World.size_setCell] at hbz); have j0 := fun (o : Nat) => hb.cell (p := ⟨wc.heap.size, o, none⟩) (by first | (simp; done) | (simp; omega) | omega))))
  rw [rounds_succ]
  go_wp2
  go_ret
  exact ⟨rfl, by (repeat (first | (with_reducible exact Below.refl _ _) | (with_reducible refine bl_alloc ?_ ?_ _; focus (first | omega | (simp; done) | (simp; omega))) | (with_reducible refine bl_set ?_ ?_ _; focus (first | omega | (simp; done) | (simp; omega))) | (with_reducible refine Below.drew ?_) | (with_reducible refine below_drewN ?_ _) | (with_reducible refine below_step ?_ (by assumption))))⟩

set_option maxHeartbeats 2000000 in
theorem sName_11 (w : World) : Calls Tryd.prog 11 #[.int .i64 11] w fun e w' => e = .returned (.string (NM 11)) ∧ Below w.heap.size w w' := by
  have h := (by decide : inB 11 0 26 = true)
  have K := fun W : World => l1Of_11 W
  simp only [LC] at K
  have HK := Lib.hid K
  clear K
  go_enter Tryd.func11, Tryd.ntmps11
  go_wp2_with (first | (go_at_call 17; ((with_reducible refine (l6In_any _ _ _ _).mono ?_); rintro e w' ⟨rfl, rfl⟩)))
  refine (HK.out _).mono ?_
  rintro e wc ⟨rfl, hb1⟩
  have hsz := hb1.size
  go_wp2_with fail
  refine wp_loop_rounds 7 ?_
  rw [rounds_succ]
  go_wp2_with (first | (go_at_call 18; ((with_reducible refine (dec_2 _).mono ?_); rintro e w' ⟨rfl, hb⟩; have hbz := hb.size; (try simp only [World.size_alloc, World.size_drew, World.size_setCell] at hbz); have j0 := fun (o : Nat) => hb.cell (p := ⟨wc.heap.size, o, none⟩) (by first | (simp; done) | (simp; omega) | omega))) | (go_at_call 18; ((with_reducible refine (dec_3 _).mono ?_); rintro e w' ⟨rfl, hb⟩; have hbz := hb.size; (try simp only [World.size_alloc, World.size_drew, World.size_setCell] at hbz); have j0 := fun (o : Nat) => hb.cell (p := ⟨wc.heap.size, o, none⟩) (by first | (simp; done) | (simp; omega) | omega))))
  rw [rounds_succ]
  go_wp2_with (first | (go_at_call 18; ((with_reducible refine (dec_2 _).mono ?_); rintro e w' ⟨rfl, hb⟩; have hbz := hb.size; (try simp only [World.size_alloc, World.size_drew, World.size_setCell] at hbz); have j0 := fun (o : Nat) => hb.cell (p := ⟨wc.heap.size, o, none⟩) (by first | (simp; done) | (simp; omega) | omega))) | (go_at_call 18; ((with_reducible refine (dec_3 _).mono ?_); rintro e w' ⟨rfl, hb⟩; have hbz := hb.size; (try simp only [World.size_alloc, World.size_drew, World.size_setCell] at hbz); have j0 := fun (o : Nat) => hb.cell (p := ⟨wc.heap.size, o, none⟩) (by first | (simp; done) | (simp; omega) | omega))))
  rw [rounds_succ]
  go_wp2_with (first | (go_at_call 18; ((with_reducible refine (dec_2 _).mono ?_); rintro e w' ⟨rfl, hb⟩; have hbz := hb.size; (try simp only [World.size_alloc, World.size_drew, World.size_setCell] at hbz); have j0 := fun (o : Nat) => hb.cell (p := ⟨wc.heap.size, o, none⟩) (by first | (simp; done) | (simp; omega) | omega))) | (go_at_call 18; ((with_reducible refine (dec_3 _).mono ?_); rintro e w' ⟨rfl, hb⟩; have hbz := hb.size; (try simp only [World.size_alloc, World.size_drew, World.size_setCell] at hbz); have j0 := fun (o : Nat) => hb.cell (p := ⟨wc.heap.size, o, none⟩) (by first | (simp; done) | (simp; omega) | omega))))
  rw [rounds_succ]
  go_wp2_with (first | (go_at_call 18; ((with_reducible refine (dec_2 _).mono ?_); rintro e w' ⟨rfl, hb⟩; have hbz := hb.size; (try simp only [World.size_alloc, World.size_drew, World.size_setCell] at hbz); have j0 := fun (o : Nat) => hb.cell (p := ⟨wc.heap.size, o, none⟩) (by first | (simp; done) | (simp; omega) | omega))) | (go_at_call 18; ((with_reducible refine (dec_3 _).mono ?_); rintro e w' ⟨rfl, hb⟩; have hbz := hb.size; (try simp only [World.size_alloc, World.size_drew, World.size_setCell] at hbz); have j0 := fun (o : Nat) => hb.cell (p := ⟨wc.heap.size, o, none⟩) (by first | (simp; done) | (simp; omega) | omega))))
  rw [rounds_succ]
  go_wp2_with (first | (go_at_call 18; ((with_reducible refine (dec_2 _).mono ?_); rintro e w' ⟨rfl, hb⟩; have hbz := hb.size; (try simp only [World.size_alloc, World.size_drew, World.size_setCell] at hbz); have j0 := fun (o : Nat) => hb.cell (p := ⟨wc.heap.size, o, none⟩) (by first | (simp; done) | (simp; omega) | omega))) | (go_at_call 18; ((with_reducible refine (dec_3 _).mono ?_); rintro e w' ⟨rfl, hb⟩; have hbz := hb.size; (try simp only [World.size_alloc, World.size_drew, World.size_setCell] at hbz); have j0 := fun (o : Nat) => hb.cell (p := ⟨wc.heap.size, o, none⟩) (by first | (simp; done) | (simp; omega) | omega))))
  rw [rounds_succ]
  go_wp2_with (first | (go_at_call 18; ((with_reducible refine (dec_2 _).mono ?_); rintro e w' ⟨rfl, hb⟩; have hbz := hb.size; (try simp only [World.size_alloc, World.size_drew, World.size_setCell] at hbz); have j0 := fun (o : Nat) => hb.cell (p := ⟨wc.heap.size, o, none⟩) (by first | (simp; done) | (simp; omega) | omega))) | (go_at_call 18; ((with_reducible refine (dec_3 _).mono ?_); rintro e w' ⟨rfl, hb⟩; have hbz := hb.size; (try simp only [World.size_alloc, World.size_drew, World.size_setCell] at hbz); have j0 := fun (o : Nat) => hb.cell (p := ⟨wc.heap.size, o, none⟩) (by first | (simp; done) | (simp; omega) | omega))))
  rw [rounds_succ]
  go_wp2
  go_ret
  exact ⟨rfl, by (repeat (first | (with_reducible exact Below.refl _ _) | (with_reducible refine bl_alloc ?_ ?_ _; focus (first | omega | (simp; done) | (simp; omega))) | (with_reducible refine bl_set ?_ ?_ _; focus (first | omega | (simp; done) | (simp; omega))) | (with_reducible refine Below.drew ?_) | (with_reducible refine below_drewN ?_ _) | (with_reducible refine below_step ?_ (by assumption))))⟩

set_option maxHeartbeats 2000000 in
theorem sName_12 (w : World) : Calls Tryd.prog 11 #[.int .i64 12] w fun e w' => e = .returned (.string (NM 12)) ∧ Below w.heap.size w w' := by
  have h := (by decide : inB 12 0 26 = true)
  have K := fun W : World => l1Of_12 W
  simp only [LC] at K
  have HK := Lib.hid K
  clear K
  go_enter Tryd.func11, Tryd.ntmps11
  go_wp2_with (first | (go_at_call 17; ((with_reducible refine (l6In_any _ _ _ _).mono ?_); rintro e w' ⟨rfl, rfl⟩)))
  refine (HK.out _).mono ?_
  rintro e wc ⟨rfl, hb1⟩
  have hsz := hb1.size
  go_wp2_with fail
  refine wp_loop_rounds 7 ?_
  rw [rounds_succ]
  go_wp2_with (first | (go_at_call 18; ((with_reducible refine (dec_2 _).mono ?_); rintro e w' ⟨rfl, hb⟩; have hbz := hb.size; (try simp only [World.size_alloc, World.size_drew, World.size_setCell] at hbz); have j0 := fun (o : Nat) => hb.cell (p := ⟨wc.heap.size, o, none⟩) (by first | (simp; done) | (simp; omega) | omega))) | (go_at_call 18; ((with_reducible refine (dec_4 _).mono ?_); rintro e w' ⟨rfl, hb⟩; have hbz := hb.size; (try simp only [World.size_alloc, World.size_drew, World.size_setCell] at hbz); have j0 := fun (o : Nat) => hb.cell (p := ⟨wc.heap.size, o, none⟩) (by first | (simp; done) | (simp; omega) | omega))))
  rw [rounds_succ]
  go_wp2_with (first | (go_at_call 18; ((with_reducible refine (dec_2 _).mono ?_); rintro e w' ⟨rfl, hb⟩; have hbz := hb.size; (try simp only [World.size_alloc, World.size_drew, World.size_setCell] at hbz); have j0 := fun (o : Nat) => hb.cell (p := ⟨wc.heap.size, o, none⟩) (by first | (simp; done) | (simp; omega) | omega))) | (go_at_call 18; ((with_reducible refine (dec_4 _).mono ?_); rintro e w' ⟨rfl, hb⟩; have hbz := hb.size; (try simp only [World.size_alloc, World.size_drew, World.size_setCell] at hbz); have j0 := fun (o : Nat) => hb.cell (p := ⟨wc.heap.size, o, none⟩) (by first | (simp; done) | (simp; omega) | omega))))
  rw [rounds_succ]
  go_wp2_with (first | (go_at_call 18; ((with_reducible refine (dec_2 _).mono ?_); rintro e w' ⟨rfl, hb⟩; have hbz := hb.size; (try simp only [World.size_alloc, World.size_drew, World.size_setCell] at hbz); have j0 := fun (o : Nat) => hb.cell (p := ⟨wc.heap.size, o, none⟩) (by first | (simp; done) | (simp; omega) | omega))) | (go_at_call 18; ((with_reducible refine (dec_4 _).mono ?_); rintro e w' ⟨rfl, hb⟩; have hbz := hb.size; (try simp only [World.size_alloc, World.size_drew, World.size_setCell] at hbz); have j0 := fun (o : Nat) => hb.cell (p := ⟨wc.heap.size, o, none⟩) (by first | (simp; done) | (simp; omega) | omega))))
  rw [rounds_succ]
  go_wp2_with (first | (go_at_call 18; ((with_reducible refine (dec_2 _).mono ?_); rintro e w' ⟨rfl, hb⟩; have hbz := hb.size; (try simp only [World.size_alloc, World.size_drew, World.size_setCell] at hbz); have j0 := fun (o : Nat) => hb.cell (p := ⟨wc.heap.size, o, none⟩) (by first | (simp; done) | (simp; omega) | omega))) | (go_at_call 18; ((with_reducible refine (dec_4 _).mono ?_); rintro e w' ⟨rfl, hb⟩; have hbz := hb.size; (try simp only [World.size_alloc, World.size_drew, World.size_setCell] at hbz); have j0 := fun (o : Nat) => hb.cell (p := ⟨wc.heap.size, o, none⟩) (by first | (simp; done) | (simp; omega) | omega))))
  rw [rounds_succ]
  go_wp2_with (first | (go_at_call 18; ((with_reducible refine (dec_2 _).mono ?_); rintro e w' ⟨rfl, hb⟩; have hbz := hb.size; (try simp only [World.size_alloc, World.size_drew, World.size_setCell] at hbz); have j0 := fun (o : Nat) => hb.cell (p := ⟨wc.heap.size, o, none⟩) (by first | (simp; done) | (simp; omega) | omega))) | (go_at_call 18; ((with_reducible refine (dec_4 _).mono ?_); rintro e w' ⟨rfl, hb⟩; have hbz := hb.size; (try simp only [World.size_alloc, World.size_drew, World.size_setCell] at hbz); have j0 := fun (o : Nat) => hb.cell (p := ⟨wc.heap.size, o, none⟩) (by first | (simp; done) | (simp; omega) | omega))))
  rw [rounds_succ]
  go_wp2_with (first | (go_at_call 18; ((with_reducible refine (dec_2 _).mono ?_); rintro e w' ⟨rfl, hb⟩; have hbz := hb.size; (try simp only [World.size_alloc, World.size_drew, World.size_setCell] at hbz); have j0 := fun (o : Nat) => hb.cell (p := ⟨wc.heap.size, o, none⟩) (by first | (simp; done) | (simp; omega) | omega))) | (go_at_call 18; ((with_reducible refine (dec_4 _).mono ?_); rintro e w' ⟨rfl, hb⟩; have hbz := hb.size; (try simp only [World.size_alloc, World.size_drew, World.size_setCell] at hbz); have j0 := fun (o : Nat) => hb.cell (p := ⟨wc.heap.size, o, none⟩) (by first | (simp; done) | (simp; omega) | omega))))
  rw [rounds_succ]
  go_wp2
  go_ret
  exact ⟨rfl, by (repeat (first | (with_reducible exact Below.refl _ _) | (with_reducible refine bl_alloc ?_ ?_ _; focus (first | omega | (simp; done) | (simp; omega))) | (with_reducible refine bl_set ?_ ?_ _; focus (first | omega | (simp; done) | (simp; omega))) | (with_reducible refine Below.drew ?_) | (with_reducible refine below_drewN ?_ _) | (with_reducible refine below_step ?_ (by assumption))))⟩

set_option maxHeartbeats 2000000 in
theorem sName_13 (w : World) : Calls Tryd.prog 11 #[.int .i64 13] w fun e w' => e = .returned (.string (NM 13)) ∧ Below w.heap.size w w' := by
  have h := (by decide : inB 13 0 26 = true)
  have K := fun W : World => l1Of_13 W
  simp only [LC] at K
  have HK := Lib.hid K
  clear K
  go_enter Tryd.func11, Tryd.ntmps11
  go_wp2_with (first | (go_at_call 17; ((with_reducible refine (l6In_any _ _ _ _).mono ?_); rintro e w' ⟨rfl, rfl⟩)))
  refine (HK.out _).mono ?_
  rintro e wc ⟨rfl, hb1⟩
  have hsz := hb1.size
  go_wp2_with fail
  refine wp_loop_rounds 7 ?_
  rw [rounds_succ]
  go_wp2_with (first | (go_at_call 18; ((with_reducible refine (dec_2 _).mono ?_); rintro e w' ⟨rfl, hb⟩; have hbz := hb.size; (try simp only [World.size_alloc, World.size_drew, World.size_setCell] at hbz); have j0 := fun (o : Nat) => hb.cell (p := ⟨wc.heap.size, o, none⟩) (by first | (simp; done) | (simp; omega) | omega))) | (go_at_call 18; ((with_reducible refine (dec_5 _).mono ?_); rintro e w' ⟨rfl, hb⟩; have hbz := hb.size; (try simp only [World.size_alloc, World.size_drew, World.size_setCell] at hbz); have j0 := fun (o : Nat) => hb.cell (p := ⟨wc.heap.size, o, none⟩) (by first | (simp; done) | (simp; omega) | omega))))
  rw [rounds_succ]
  go_wp2_with (first | (go_at_call 18; ((with_reducible refine (dec_2 _).mono ?_); rintro e w' ⟨rfl, hb⟩; have hbz := hb.size; (try simp only [World.size_alloc, World.size_drew, World.size_setCell] at hbz); have j0 := fun (o : Nat) => hb.cell (p := ⟨wc.heap.size, o, none⟩) (by first | (simp; done) | (simp; omega) | omega))) | (go_at_call 18; ((with_reducible refine (dec_5 _).mono ?_); rintro e w' ⟨rfl, hb⟩; have hbz := hb.size; (try simp only [World.size_alloc, World.size_drew, World.size_setCell] at hbz); have j0 := fun (o : Nat) => hb.cell (p := ⟨wc.heap.size, o, none⟩) (by first | (simp; done) | (simp; omega) | omega))))
  rw [rounds_succ]
  go_wp2_with (first | (go_at_call 18; ((with_reducible refine (dec_2 _).mono ?_); rintro e w' ⟨rfl, hb⟩; have hbz := hb.size; (try simp only [World.size_alloc, World.size_drew, World.size_setCell] at hbz); have j0 := fun (o : Nat) => hb.cell (p := ⟨wc.heap.size, o, none⟩) (by first | (simp; done) | (simp; omega) | omega))) | (go_at_call 18; ((with_reducible refine (dec_5 _).mono ?_); rintro e w' ⟨rfl, hb⟩; have hbz := hb.size; (try simp only [World.size_alloc, World.size_drew, World.size_setCell] at hbz); have j0 := fun (o : Nat) => hb.cell (p := ⟨wc.heap.size, o, none⟩) (by first | (simp; done) | (simp; omega) | omega))))
  rw [rounds_succ]
  go_wp2_with (first | (go_at_call 18; ((with_reducible refine (dec_2 _).mono ?_); rintro e w' ⟨rfl, hb⟩; have hbz := hb.size; (try simp only [World.size_alloc, World.size_drew, World.size_setCell] at hbz); have j0 := fun (o : Nat) => hb.cell (p := ⟨wc.heap.size, o, none⟩) (by first | (simp; done) | (simp; omega) | omega))) | (go_at_call 18; ((with_reducible refine (dec_5 _).mono ?_); rintro e w' ⟨rfl, hb⟩; have hbz := hb.size; (try simp only [World.size_alloc, World.size_drew, World.size_setCell] at hbz); have j0 := fun (o : Nat) => hb.cell (p := ⟨wc.heap.size, o, none⟩) (by first | (simp; done) | (simp; omega) | omega))))
  rw [rounds_succ]
  go_wp2_with (first | (go_at_call 18; ((with_reducible refine (dec_2 _).mono ?_); rintro e w' ⟨rfl, hb⟩; have hbz := hb.size; (try simp only [World.size_alloc, World.size_drew, World.size_setCell] at hbz); have j0 := fun (o : Nat) => hb.cell (p := ⟨wc.heap.size, o, none⟩) (by first | (simp; done) | (simp; omega) | omega))) | (go_at_call 18; ((with_reducible refine (dec_5 _).mono ?_); rintro e w' ⟨rfl, hb⟩; have hbz := hb.size; (try simp only [World.size_alloc, World.size_drew, World.size_setCell] at hbz); have j0 := fun (o : Nat) => hb.cell (p := ⟨wc.heap.size, o, none⟩) (by first | (simp; done) | (simp; omega) | omega))))
  rw [rounds_succ]
  go_wp2_with (first | (go_at_call 18; ((with_reducible refine (dec_2 _).mono ?_); rintro e w' ⟨rfl, hb⟩; have hbz := hb.size; (try simp only [World.size_alloc, World.size_drew, World.size_setCell] at hbz); have j0 := fun (o : Nat) => hb.cell (p := ⟨wc.heap.size, o, none⟩) (by first | (simp; done) | (simp; omega) | omega))) | (go_at_call 18; ((with_reducible refine (dec_5 _).mono ?_); rintro e w' ⟨rfl, hb⟩; have hbz := hb.size; (try simp only [World.size_alloc, World.size_drew, World.size_setCell] at hbz); have j0 := fun (o : Nat) => hb.cell (p := ⟨wc.heap.size, o, none⟩) (by first | (simp; done) | (simp; omega) | omega))))
  rw [rounds_succ]
  go_wp2
  go_ret
  exact ⟨rfl, by (repeat (first | (with_reducible exact Below.refl _ _) | (with_reducible refine bl_alloc ?_ ?_ _; focus (first | omega | (simp; done) | (simp; omega))) | (with_reducible refine bl_set ?_ ?_ _; focus (first | omega | (simp; done) | (simp; omega))) | (with_reducible refine Below.drew ?_) | (with_reducible refine below_drewN ?_ _) | (with_reducible refine below_step ?_ (by assumption))))⟩

set_option maxHeartbeats 2000000 in
theorem sName_14 (w : World) : Calls Tryd.prog 11 #[.int .i64 14] w fun e w' => e = .returned (.string (NM 14)) ∧ Below w.heap.size w w' := by
  have h := (by decide : inB 14 0 26 = true)
  have K := fun W : World => l1Of_14 W
  simp only [LC] at K
  have HK := Lib.hid K
  clear K
  go_enter Tryd.func11, Tryd.ntmps11
  go_wp2_with (first | (go_at_call 17; ((with_reducible refine (l6In_any _ _ _ _).mono ?_); rintro e w' ⟨rfl, rfl⟩)))
  refine (HK.out _).mono ?_
  rintro e wc ⟨rfl, hb1⟩
  have hsz := hb1.size
  go_wp2_with fail
  refine wp_loop_rounds 7 ?_
  rw [rounds_succ]
  go_wp2_with (first | (go_at_call 18; ((with_reducible refine (dec_2 _).mono ?_); rintro e w' ⟨rfl, hb⟩; have hbz := hb.size; (try simp only [World.size_alloc, World.size_drew, World.size_setCell] at hbz); have j0 := fun (o : Nat) => hb.cell (p := ⟨wc.heap.size, o, none⟩) (by first | (simp; done) | (simp; omega) | omega))) | (go_at_call 18; ((with_reducible refine (dec_6 _).mono ?_); rintro e w' ⟨rfl, hb⟩; have hbz := hb.size; (try simp only [World.size_alloc, World.size_drew, World.size_setCell] at hbz); have j0 := fun (o : Nat) => hb.cell (p := ⟨wc.heap.size, o, none⟩) (by first | (simp; done) | (simp; omega) | omega))))
  rw [rounds_succ]
  go_wp2_with (first | (go_at_call 18; ((with_reducible refine (dec_2 _).mono ?_); rintro e w' ⟨rfl, hb⟩; have hbz := hb.size; (try simp only [World.size_alloc, World.size_drew, World.size_setCell] at hbz); have j0 := fun (o : Nat) => hb.cell (p := ⟨wc.heap.size, o, none⟩) (by first | (simp; done) | (simp; omega) | omega))) | (go_at_call 18; ((with_reducible refine (dec_6 _).mono ?_); rintro e w' ⟨rfl, hb⟩; have hbz := hb.size; (try simp only [World.size_alloc, World.size_drew, World.size_setCell] at hbz); have j0 := fun (o : Nat) => hb.cell (p := ⟨wc.heap.size, o, none⟩) (by first | (simp; done) | (simp; omega) | omega))))
  rw [rounds_succ]
  go_wp2_with (first | (go_at_call 18; ((with_reducible refine (dec_2 _).mono ?_); rintro e w' ⟨rfl, hb⟩; have hbz := hb.size; (try simp only [World.size_alloc, World.size_drew, World.size_setCell] at hbz); have j0 := fun (o : Nat) => hb.cell (p := ⟨wc.heap.size, o, none⟩) (by first | (simp; done) | (simp; omega) | omega))) | (go_at_call 18; ((with_reducible refine (dec_6 _).mono ?_); rintro e w' ⟨rfl, hb⟩; have hbz := hb.size; (try simp only [World.size_alloc, World.size_drew, World.size_setCell] at hbz); have j0 := fun (o : Nat) => hb.cell (p := ⟨wc.heap.size, o, none⟩) (by first | (simp; done) | (simp; omega) | omega))))
  rw [rounds_succ]
  go_wp2_with (first | (go_at_call 18; ((with_reducible refine (dec_2 _).mono ?_); rintro e w' ⟨rfl, hb⟩; have hbz := hb.size; (try simp only [World.size_alloc, World.size_drew, World.size_setCell] at hbz); have j0 := fun (o : Nat) => hb.cell (p := ⟨wc.heap.size, o, none⟩) (by first | (simp; done) | (simp; omega) | omega))) | (go_at_call 18; ((with_reducible refine (dec_6 _).mono ?_); rintro e w' ⟨rfl, hb⟩; have hbz := hb.size; (try simp only [World.size_alloc, World.size_drew, World.size_setCell] at hbz); have j0 := fun (o : Nat) => hb.cell (p := ⟨wc.heap.size, o, none⟩) (by first | (simp; done) | (simp; omega) | omega))))
  rw [rounds_succ]
  go_wp2_with (first | (go_at_call 18; ((with_reducible refine (dec_2 _).mono ?_); rintro e w' ⟨rfl, hb⟩; have hbz := hb.size; (try simp only [World.size_alloc, World.size_drew, World.size_setCell] at hbz); have j0 := fun (o : Nat) => hb.cell (p := ⟨wc.heap.size, o, none⟩) (by first | (simp; done) | (simp; omega) | omega))) | (go_at_call 18; ((with_reducible refine (dec_6 _).mono ?_); rintro e w' ⟨rfl, hb⟩; have hbz := hb.size; (try simp only [World.size_alloc, World.size_drew, World.size_setCell] at hbz); have j0 := fun (o : Nat) => hb.cell (p := ⟨wc.heap.size, o, none⟩) (by first | (simp; done) | (simp; omega) | omega))))
  rw [rounds_succ]
  go_wp2_with (first | (go_at_call 18; ((with_reducible refine (dec_2 _).mono ?_); rintro e w' ⟨rfl, hb⟩; have hbz := hb.size; (try simp only [World.size_alloc, World.size_drew, World.size_setCell] at hbz); have j0 := fun (o : Nat) => hb.cell (p := ⟨wc.heap.size, o, none⟩) (by first | (simp; done) | (simp; omega) | omega))) | (go_at_call 18; ((with_reducible refine (dec_6 _).mono ?_); rintro e w' ⟨rfl, hb⟩; have hbz := hb.size; (try simp only [World.size_alloc, World.size_drew, World.size_setCell] at hbz); have j0 := fun (o : Nat) => hb.cell (p := ⟨wc.heap.size, o, none⟩) (by first | (simp; done) | (simp; omega) | omega))))
  rw [rounds_succ]
  go_wp2
  go_ret
  exact ⟨rfl, by (repeat (first | (with_reducible exact Below.refl _ _) | (with_reducible refine bl_alloc ?_ ?_ _; focus (first | omega | (simp; done) | (simp; omega))) | (with_reducible refine bl_set ?_ ?_ _; focus (first | omega | (simp; done) | (simp; omega))) | (with_reducible refine Below.drew ?_) | (with_reducible refine below_drewN ?_ _) | (with_reducible refine below_step ?_ (by assumption))))⟩

set_option maxHeartbeats 2000000 in
theorem sName_15 (w : World) : Calls Tryd.prog 11 #[.int .i64 15] w fun e w' => e = .returned (.string (NM 15)) ∧ Below w.heap.size w w' := by
  have h := (by decide : inB 15 0 26 = true)
  have K := fun W : World => l1Of_15 W
  simp only [LC] at K
  have HK := Lib.hid K
  clear K
  go_enter Tryd.func11, Tryd.ntmps11
  go_wp2_with (first | (go_at_call 17; ((with_reducible refine (l6In_any _ _ _ _).mono ?_); rintro e w' ⟨rfl, rfl⟩)))
  refine (HK.out _).mono ?_
  rintro e wc ⟨rfl, hb1⟩
  have hsz := hb1.size
  go_wp2_with fail
  refine wp_loop_rounds 7 ?_
  rw [rounds_succ]
  go_wp2_with (first | (go_at_call 18; ((with_reducible refine (dec_3 _).mono ?_); rintro e w' ⟨rfl, hb⟩; have hbz := hb.size; (try simp only [World.size_alloc, World.size_drew, World.size_setCell] at hbz); have j0 := fun (o : Nat) => hb.cell (p := ⟨wc.heap.size, o, none⟩) (by first | (simp; done) | (simp; omega) | omega))) | (go_at_call 18; ((with_reducible refine (dec_4 _).mono ?_); rintro e w' ⟨rfl, hb⟩; have hbz := hb.size; (try simp only [World.size_alloc, World.size_drew, World.size_setCell] at hbz); have j0 := fun (o : Nat) => hb.cell (p := ⟨wc.heap.size, o, none⟩) (by first | (simp; done) | (simp; omega) | omega))))
  rw [rounds_succ]
  go_wp2_with (first | (go_at_call 18; ((with_reducible refine (dec_3 _).mono ?_); rintro e w' ⟨rfl, hb⟩; have hbz := hb.size; (try simp only [World.size_alloc, World.size_drew, World.size_setCell] at hbz); have j0 := fun (o : Nat) => hb.cell (p := ⟨wc.heap.size, o, none⟩) (by first | (simp; done) | (simp; omega) | omega))) | (go_at_call 18; ((with_reducible refine (dec_4 _).mono ?_); rintro e w' ⟨rfl, hb⟩; have hbz := hb.size; (try simp only [World.size_alloc, World.size_drew, World.size_setCell] at hbz); have j0 := fun (o : Nat) => hb.cell (p := ⟨wc.heap.size, o, none⟩) (by first | (simp; done) | (simp; omega) | omega))))
  rw [rounds_succ]
  go_wp2_with (first | (go_at_call 18; ((with_reducible refine (dec_3 _).mono ?_); rintro e w' ⟨rfl, hb⟩; have hbz := hb.size; (try simp only [World.size_alloc, World.size_drew, World.size_setCell] at hbz); have j0 := fun (o : Nat) => hb.cell (p := ⟨wc.heap.size, o, none⟩) (by first | (simp; done) | (simp; omega) | omega))) | (go_at_call 18; ((with_reducible refine (dec_4 _).mono ?_); rintro e w' ⟨rfl, hb⟩; have hbz := hb.size; (try simp only [World.size_alloc, World.size_drew, World.size_setCell] at hbz); have j0 := fun (o : Nat) => hb.cell (p := ⟨wc.heap.size, o, none⟩) (by first | (simp; done) | (simp; omega) | omega))))
  rw [rounds_succ]
  go_wp2_with (first | (go_at_call 18; ((with_reducible refine (dec_3 _).mono ?_); rintro e w' ⟨rfl, hb⟩; have hbz := hb.size; (try simp only [World.size_alloc, World.size_drew, World.size_setCell] at hbz); have j0 := fun (o : Nat) => hb.cell (p := ⟨wc.heap.size, o, none⟩) (by first | (simp; done) | (simp; omega) | omega))) | (go_at_call 18; ((with_reducible refine (dec_4 _).mono ?_); rintro e w' ⟨rfl, hb⟩; have hbz := hb.size; (try simp only [World.size_alloc, World.size_drew, World.size_setCell] at hbz); have j0 := fun (o : Nat) => hb.cell (p := ⟨wc.heap.size, o, none⟩) (by first | (simp; done) | (simp; omega) | omega))))
  rw [rounds_succ]
  go_wp2_with (first | (go_at_call 18; ((with_reducible refine (dec_3 _).mono ?_); rintro e w' ⟨rfl, hb⟩; have hbz := hb.size; (try simp only [World.size_alloc, World.size_drew, World.size_setCell] at hbz); have j0 := fun (o : Nat) => hb.cell (p := ⟨wc.heap.size, o, none⟩) (by first | (simp; done) | (simp; omega) | omega))) | (go_at_call 18; ((with_reducible refine (dec_4 _).mono ?_); rintro e w' ⟨rfl, hb⟩; have hbz := hb.size; (try simp only [World.size_alloc, World.size_drew, World.size_setCell] at hbz); have j0 := fun (o : Nat) => hb.cell (p := ⟨wc.heap.size, o, none⟩) (by first | (simp; done) | (simp; omega) | omega))))
  rw [rounds_succ]
  go_wp2_with (first | (go_at_call 18; ((with_reducible refine (dec_3 _).mono ?_); rintro e w' ⟨rfl, hb⟩; have hbz := hb.size; (try simp only [World.size_alloc, World.size_drew, World.size_setCell] at hbz); have j0 := fun (o : Nat) => hb.cell (p := ⟨wc.heap.size, o, none⟩) (by first | (simp; done) | (simp; omega) | omega))) | (go_at_call 18; ((with_reducible refine (dec_4 _).mono ?_); rintro e w' ⟨rfl, hb⟩; have hbz := hb.size; (try simp only [World.size_alloc, World.size_drew, World.size_setCell] at hbz); have j0 := fun (o : Nat) => hb.cell (p := ⟨wc.heap.size, o, none⟩) (by first | (simp; done) | (simp; omega) | omega))))
  rw [rounds_succ]
  go_wp2
  go_ret
  exact ⟨rfl, by (repeat (first | (with_reducible exact Below.refl _ _) | (with_reducible refine bl_alloc ?_ ?_ _; focus (first | omega | (simp; done) | (simp; omega))) | (with_reducible refine bl_set ?_ ?_ _; focus (first | omega | (simp; done) | (simp; omega))) | (with_reducible refine Below.drew ?_) | (with_reducible refine below_drewN ?_ _) | (with_reducible refine below_step ?_ (by assumption))))⟩

set_option maxHeartbeats 2000000 in
theorem sName_16 (w : World) : Calls Tryd.prog 11 #[.int .i64 16] w fun e w' => e = .returned (.string (NM 16)) ∧ Below w.heap.size w w' := by
  have h := (by decide : inB 16 0 26 = true)
  have K := fun W : World => l1Of_16 W
  simp only [LC] at K
  have HK := Lib.hid K
  clear K
  go_enter Tryd.func11, Tryd.ntmps11
  go_wp2_with (first | (go_at_call 17; ((with_reducible refine (l6In_any _ _ _ _).mono ?_); rintro e w' ⟨rfl, rfl⟩)))
  refine (HK.out _).mono ?_
  rintro e wc ⟨rfl, hb1⟩
  have hsz := hb1.size
  go_wp2_with fail
  refine wp_loop_rounds 7 ?_
  rw [rounds_succ]
  go_wp2_with (first | (go_at_call 18; ((with_reducible refine (dec_3 _).mono ?_); rintro e w' ⟨rfl, hb⟩; have hbz := hb.size; (try simp only [World.size_alloc, World.size_drew, World.size_setCell] at hbz); have j0 := fun (o : Nat) => hb.cell (p := ⟨wc.heap.size, o, none⟩) (by first | (simp; done) | (simp; omega) | omega))) | (go_at_call 18; ((with_reducible refine (dec_5 _).mono ?_); rintro e w' ⟨rfl, hb⟩; have hbz := hb.size; (try simp only [World.size_alloc, World.size_drew, World.size_setCell] at hbz); have j0 := fun (o : Nat) => hb.cell (p := ⟨wc.heap.size, o, none⟩) (by first | (simp; done) | (simp; omega) | omega))))
  rw [rounds_succ]
  go_wp2_with (first | (go_at_call 18; ((with_reducible refine (dec_3 _).mono ?_); rintro e w' ⟨rfl, hb⟩; have hbz := hb.size; (try simp only [World.size_alloc, World.size_drew, World.size_setCell] at hbz); have j0 := fun (o : Nat) => hb.cell (p := ⟨wc.heap.size, o, none⟩) (by first | (simp; done) | (simp; omega) | omega))) | (go_at_call 18; ((with_reducible refine (dec_5 _).mono ?_); rintro e w' ⟨rfl, hb⟩; have hbz := hb.size; (try simp only [World.size_alloc, World.size_drew, World.size_setCell] at hbz); have j0 := fun (o : Nat) => hb.cell (p := ⟨wc.heap.size, o, none⟩) (by first | (simp; done) | (simp; omega) | omega))))
  rw [rounds_succ]
  go_wp2_with (first | (go_at_call 18; ((with_reducible refine (dec_3 _).mono ?_); rintro e w' ⟨rfl, hb⟩; have hbz := hb.size; (try simp only [World.size_alloc, World.size_drew, World.size_setCell] at hbz); have j0 := fun (o : Nat) => hb.cell (p := ⟨wc.heap.size, o, none⟩) (by first | (simp; done) | (simp; omega) | omega))) | (go_at_call 18; ((with_reducible refine (dec_5 _).mono ?_); rintro e w' ⟨rfl, hb⟩; have hbz := hb.size; (try simp only [World.size_alloc, World.size_drew, World.size_setCell] at hbz); have j0 := fun (o : Nat) => hb.cell (p := ⟨wc.heap.size, o, none⟩) (by first | (simp; done) | (simp; omega) | omega))))
  rw [rounds_succ]
  go_wp2_with (first | (go_at_call 18; ((with_reducible refine (dec_3 _).mono ?_); rintro e w' ⟨rfl, hb⟩; have hbz := hb.size; (try simp only [World.size_alloc, World.size_drew, World.size_setCell] at hbz); have j0 := fun (o : Nat) => hb.cell (p := ⟨wc.heap.size, o, none⟩) (by first | (simp; done) | (simp; omega) | omega))) | (go_at_call 18; ((with_reducible refine (dec_5 _).mono ?_); rintro e w' ⟨rfl, hb⟩; have hbz := hb.size; (try simp only [World.size_alloc, World.size_drew, World.size_setCell] at hbz); have j0 := fun (o : Nat) => hb.cell (p := ⟨wc.heap.size, o, none⟩) (by first | (simp; done) | (simp; omega) | omega))))
  rw [rounds_succ]
  go_wp2_with (first | (go_at_call 18; ((with_reducible refine (dec_3 _).mono ?_); rintro e w' ⟨rfl, hb⟩; have hbz := hb.size; (try simp only [World.size_alloc, World.size_drew, World.size_setCell] at hbz); have j0 := fun (o : Nat) => hb.cell (p := ⟨wc.heap.size, o, none⟩) (by first | (simp; done) | (simp; omega) | omega))) | (go_at_call 18; ((with_reducible refine (dec_5 _).mono ?_); rintro e w' ⟨rfl, hb⟩; have hbz := hb.size; (try simp only [World.size_alloc, World.size_drew, World.size_setCell] at hbz); have j0 := fun (o : Nat) => hb.cell (p := ⟨wc.heap.size, o, none⟩) (by first | (simp; done) | (simp; omega) | omega))))
  rw [rounds_succ]
  go_wp2_with (first | (go_at_call 18; ((with_reducible refine (dec_3 _).mono ?_); rintro e w' ⟨rfl, hb⟩; have hbz := hb.size; (try simp only [World.size_alloc, World.size_drew, World.size_setCell] at hbz); have j0 := fun (o : Nat) => hb.cell (p := ⟨wc.heap.size, o, none⟩) (by first | (simp; done) | (simp; omega) | omega))) | (go_at_call 18; ((with_reducible refine (dec_5 _).mono ?_); rintro e w' ⟨rfl, hb⟩; have hbz := hb.size; (try simp only [World.size_alloc, World.size_drew, World.size_setCell] at hbz); have j0 := fun (o : Nat) => hb.cell (p := ⟨wc.heap.size, o, none⟩) (by first | (simp; done) | (simp; omega) | omega))))
  rw [rounds_succ]
  go_wp2
  go_ret
  exact ⟨rfl, by (repeat (first | (with_reducible exact Below.refl _ _) | (with_reducible refine bl_alloc ?_ ?_ _; focus (first | omega | (simp; done) | (simp; omega))) | (with_reducible refine bl_set ?_ ?_ _; focus (first | omega | (simp; done) | (simp; omega))) | (with_reducible refine Below.drew ?_) | (with_reducible refine below_drewN ?_ _) | (with_reducible refine below_step ?_ (by assumption))))⟩

set_option maxHeartbeats 2000000 in
theorem sName_17 (w : World) : Calls Tryd.prog 11 #[.int .i64 17] w fun e w' => e = .returned (.string (NM 17)) ∧ Below w.heap.size w w' := by
  have h := (by decide : inB 17 0 26 = true)
  have K := fun W : World => l1Of_17 W
  simp only [LC] at K
  have HK := Lib.hid K
  clear K
  go_enter Tryd.func11, Tryd.ntmps11
  go_wp2_with (first | (go_at_call 17; ((with_reducible refine (l6In_any _ _ _ _).mono ?_); rintro e w' ⟨rfl, rfl⟩)))
  refine (HK.out _).mono ?_
  rintro e wc ⟨rfl, hb1⟩
  have hsz := hb1.size
  go_wp2_with fail
  refine wp_loop_rounds 7 ?_
  rw [rounds_succ]
  go_wp2_with (first | (go_at_call 18; ((with_reducible refine (dec_3 _).mono ?_); rintro e w' ⟨rfl, hb⟩; have hbz := hb.size; (try simp only [World.size_alloc, World.size_drew, World.size_setCell] at hbz); have j0 := fun (o : Nat) => hb.cell (p := ⟨wc.heap.size, o, none⟩) (by first | (simp; done) | (simp; omega) | omega))) | (go_at_call 18; ((with_reducible refine (dec_6 _).mono ?_); rintro e w' ⟨rfl, hb⟩; have hbz := hb.size; (try simp only [World.size_alloc, World.size_drew, World.size_setCell] at hbz); have j0 := fun (o : Nat) => hb.cell (p := ⟨wc.heap.size, o, none⟩) (by first | (simp; done) | (simp; omega) | omega))))
  rw [rounds_succ]
  go_wp2_with (first | (go_at_call 18; ((with_reducible refine (dec_3 _).mono ?_); rintro e w' ⟨rfl, hb⟩; have hbz := hb.size; (try simp only [World.size_alloc, World.size_drew, World.size_setCell] at hbz); have j0 := fun (o : Nat) => hb.cell (p := ⟨wc.heap.size, o, none⟩) (by first | (simp; done) | (simp; omega) | omega))) | (go_at_call 18; ((with_reducible refine (dec_6 _).mono ?_); rintro e w' ⟨rfl, hb⟩; have hbz := hb.size; (try simp only [World.size_alloc, World.size_drew, World.size_setCell] at hbz); have j0 := fun (o : Nat) => hb.cell (p := ⟨wc.heap.size, o, none⟩) (by first | (simp; done) | (simp; omega) | omega))))
  rw [rounds_succ]
  go_wp2_with (first | (go_at_call 18; ((with_reducible refine (dec_3 _).mono ?_); rintro e w' ⟨rfl, hb⟩; have hbz := hb.size; (try simp only [World.size_alloc, World.size_drew, World.size_setCell] at hbz); have j0 := fun (o : Nat) => hb.cell (p := ⟨wc.heap.size, o, none⟩) (by first | (simp; done) | (simp; omega) | omega))) | (go_at_call 18; ((with_reducible refine (dec_6 _).mono ?_); rintro e w' ⟨rfl, hb⟩; have hbz := hb.size; (try simp only [World.size_alloc, World.size_drew, World.size_setCell] at hbz); have j0 := fun (o : Nat) => hb.cell (p := ⟨wc.heap.size, o, none⟩) (by first | (simp; done) | (simp; omega) | omega))))
  rw [rounds_succ]
  go_wp2_with (first | (go_at_call 18; ((with_reducible refine (dec_3 _).mono ?_); rintro e w' ⟨rfl, hb⟩; have hbz := hb.size; (try simp only [World.size_alloc, World.size_drew, World.size_setCell] at hbz); have j0 := fun (o : Nat) => hb.cell (p := ⟨wc.heap.size, o, none⟩) (by first | (simp; done) | (simp; omega) | omega))) | (go_at_call 18; ((with_reducible refine (dec_6 _).mono ?_); rintro e w' ⟨rfl, hb⟩; have hbz := hb.size; (try simp only [World.size_alloc, World.size_drew, World.size_setCell] at hbz); have j0 := fun (o : Nat) => hb.cell (p := ⟨wc.heap.size, o, none⟩) (by first | (simp; done) | (simp; omega) | omega))))
  rw [rounds_succ]
  go_wp2_with (first | (go_at_call 18; ((with_reducible refine (dec_3 _).mono ?_); rintro e w' ⟨rfl, hb⟩; have hbz := hb.size; (try simp only [World.size_alloc, World.size_drew, World.size_setCell] at hbz); have j0 := fun (o : Nat) => hb.cell (p := ⟨wc.heap.size, o, none⟩) (by first | (simp; done) | (simp; omega) | omega))) | (go_at_call 18; ((with_reducible refine (dec_6 _).mono ?_); rintro e w' ⟨rfl, hb⟩; have hbz := hb.size; (try simp only [World.size_alloc, World.size_drew, World.size_setCell] at hbz); have j0 := fun (o : Nat) => hb.cell (p := ⟨wc.heap.size, o, none⟩) (by first | (simp; done) | (simp; omega) | omega))))
  rw [rounds_succ]
  go_wp2_with (first | (go_at_call 18; ((with_reducible refine (dec_3 _).mono ?_); rintro e w' ⟨rfl, hb⟩; have hbz := hb.size; (try simp only [World.size_alloc, World.size_drew, World.size_setCell] at hbz); have j0 := fun (o : Nat) => hb.cell (p := ⟨wc.heap.size, o, none⟩) (by first | (simp; done) | (simp; omega) | omega))) | (go_at_call 18; ((with_reducible refine (dec_6 _).mono ?_); rintro e w' ⟨rfl, hb⟩; have hbz := hb.size; (try simp only [World.size_alloc, World.size_drew, World.size_setCell] at hbz); have j0 := fun (o : Nat) => hb.cell (p := ⟨wc.heap.size, o, none⟩) (by first | (simp; done) | (simp; omega) | omega))))
  rw [rounds_succ]
  go_wp2
  go_ret
  exact ⟨rfl, by (repeat (first | (with_reducible exact Below.refl _ _) | (with_reducible refine bl_alloc ?_ ?_ _; focus (first | omega | (simp; done) | (simp; omega))) | (with_reducible refine bl_set ?_ ?_ _; focus (first | omega | (simp; done) | (simp; omega))) | (with_reducible refine Below.drew ?_) | (with_reducible refine below_drewN ?_ _) | (with_reducible refine below_step ?_ (by assumption))))⟩

set_option maxHeartbeats 2000000 in
theorem sName_18 (w : World) : Calls Tryd.prog 11 #[.int .i64 18] w fun e w' => e = .returned (.string (NM 18)) ∧ Below w.heap.size w w' := by
  have h := (by decide : inB 18 0 26 = true)
  have K := fun W : World => l1Of_18 W
  simp only [LC] at K
  have HK := Lib.hid K
  clear K
  go_enter Tryd.func11, Tryd.ntmps11
  go_wp2_with (first | (go_at_call 17; ((with_reducible refine (l6In_any _ _ _ _).mono ?_); rintro e w' ⟨rfl, rfl⟩)))
  refine (HK.out _).mono ?_
  rintro e wc ⟨rfl, hb1⟩
  have hsz := hb1.size
  go_wp2_with fail
  refine wp_loop_rounds 7 ?_
  rw [rounds_succ]
  go_wp2_with (first | (go_at_call 18; ((with_reducible refine (dec_4 _).mono ?_); rintro e w' ⟨rfl, hb⟩; have hbz := hb.size; (try simp only [World.size_alloc, World.size_drew, World.size_setCell] at hbz); have j0 := fun (o : Nat) => hb.cell (p := ⟨wc.heap.size, o, none⟩) (by first | (simp; done) | (simp; omega) | omega))) | (go_at_call 18; ((with_reducible refine (dec_5 _).mono ?_); rintro e w' ⟨rfl, hb⟩; have hbz := hb.size; (try simp only [World.size_alloc, World.size_drew, World.size_setCell] at hbz); have j0 := fun (o : Nat) => hb.cell (p := ⟨wc.heap.size, o, none⟩) (by first | (simp; done) | (simp; omega) | omega))))
  rw [rounds_succ]
  go_wp2_with (first | (go_at_call 18; ((with_reducible refine (dec_4 _).mono ?_); rintro e w' ⟨rfl, hb⟩; have hbz := hb.size; (try simp only [World.size_alloc, World.size_drew, World.size_setCell] at hbz); have j0 := fun (o : Nat) => hb.cell (p := ⟨wc.heap.size, o, none⟩) (by first | (simp; done) | (simp; omega) | omega))) | (go_at_call 18; ((with_reducible refine (dec_5 _).mono ?_); rintro e w' ⟨rfl, hb⟩; have hbz := hb.size; (try simp only [World.size_alloc, World.size_drew, World.size_setCell] at hbz); have j0 := fun (o : Nat) => hb.cell (p := ⟨wc.heap.size, o, none⟩) (by first | (simp; done) | (simp; omega) | omega))))
  rw [rounds_succ]
  go_wp2_with (first | (go_at_call 18; ((with_reducible refine (dec_4 _).mono ?_); rintro e w' ⟨rfl, hb⟩; have hbz := hb.size; (try simp only [World.size_alloc, World.size_drew, World.size_setCell] at hbz); have j0 := fun (o : Nat) => hb.cell (p := ⟨wc.heap.size, o, none⟩) (by first | (simp; done) | (simp; omega) | omega))) | (go_at_call 18; ((with_reducible refine (dec_5 _).mono ?_); rintro e w' ⟨rfl, hb⟩; have hbz := hb.size; (try simp only [World.size_alloc, World.size_drew, World.size_setCell] at hbz); have j0 := fun (o : Nat) => hb.cell (p := ⟨wc.heap.size, o, none⟩) (by first | (simp; done) | (simp; omega) | omega))))
  rw [rounds_succ]
  go_wp2_with (first | (go_at_call 18; ((with_reducible refine (dec_4 _).mono ?_); rintro e w' ⟨rfl, hb⟩; have hbz := hb.size; (try simp only [World.size_alloc, World.size_drew, World.size_setCell] at hbz); have j0 := fun (o : Nat) => hb.cell (p := ⟨wc.heap.size, o, none⟩) (by first | (simp; done) | (simp; omega) | omega))) | (go_at_call 18; ((with_reducible refine (dec_5 _).mono ?_); rintro e w' ⟨rfl, hb⟩; have hbz := hb.size; (try simp only [World.size_alloc, World.size_drew, World.size_setCell] at hbz); have j0 := fun (o : Nat) => hb.cell (p := ⟨wc.heap.size, o, none⟩) (by first | (simp; done) | (simp; omega) | omega))))
  rw [rounds_succ]
  go_wp2_with (first | (go_at_call 18; ((with_reducible refine (dec_4 _).mono ?_); rintro e w' ⟨rfl, hb⟩; have hbz := hb.size; (try simp only [World.size_alloc, World.size_drew, World.size_setCell] at hbz); have j0 := fun (o : Nat) => hb.cell (p := ⟨wc.heap.size, o, none⟩) (by first | (simp; done) | (simp; omega) | omega))) | (go_at_call 18; ((with_reducible refine (dec_5 _).mono ?_); rintro e w' ⟨rfl, hb⟩; have hbz := hb.size; (try simp only [World.size_alloc, World.size_drew, World.size_setCell] at hbz); have j0 := fun (o : Nat) => hb.cell (p := ⟨wc.heap.size, o, none⟩) (by first | (simp; done) | (simp; omega) | omega))))
  rw [rounds_succ]
  go_wp2_with (first | (go_at_call 18; ((with_reducible refine (dec_4 _).mono ?_); rintro e w' ⟨rfl, hb⟩; have hbz := hb.size; (try simp only [World.size_alloc, World.size_drew, World.size_setCell] at hbz); have j0 := fun (o : Nat) => hb.cell (p := ⟨wc.heap.size, o, none⟩) (by first | (simp; done) | (simp; omega) | omega))) | (go_at_call 18; ((with_reducible refine (dec_5 _).mono ?_); rintro e w' ⟨rfl, hb⟩; have hbz := hb.size; (try simp only [World.size_alloc, World.size_drew, World.size_setCell] at hbz); have j0 := fun (o : Nat) => hb.cell (p := ⟨wc.heap.size, o, none⟩) (by first | (simp; done) | (simp; omega) | omega))))
  rw [rounds_succ]
  go_wp2
  go_ret
  exact ⟨rfl, by (repeat (first | (with_reducible exact Below.refl _ _) | (with_reducible refine bl_alloc ?_ ?_ _; focus (first | omega | (simp; done) | (simp; omega))) | (with_reducible refine bl_set ?_ ?_ _; focus (first | omega | (simp; done) | (simp; omega))) | (with_reducible refine Below.drew ?_) | (with_reducible refine below_drewN ?_ _) | (with_reducible refine below_step ?_ (by assumption))))⟩

set_option maxHeartbeats 2000000 in
theorem sName_19 (w : World) : Calls Tryd.prog 11 #[.int .i64 19] w fun e w' => e = .returned (.string (NM 19)) ∧ Below w.heap.size w w' := by
  have h := (by decide : inB 19 0 26 = true)
  have K := fun W : World => l1Of_19 W
  simp only [LC] at K
  have HK := Lib.hid K
  clear K
  go_enter Tryd.func11, Tryd.ntmps11
  go_wp2_with (first | (go_at_call 17; ((with_reducible refine (l6In_any _ _ _ _).mono ?_); rintro e w' ⟨rfl, rfl⟩)))
  refine (HK.out _).mono ?_
  rintro e wc ⟨rfl, hb1⟩
  have hsz := hb1.size
  go_wp2_with fail
  refine wp_loop_rounds 7 ?_
  rw [rounds_succ]
  go_wp2_with (first | (go_at_call 18; ((with_reducible refine (dec_4 _).mono ?_); rintro e w' ⟨rfl, hb⟩; have hbz := hb.size; (try simp only [World.size_alloc, World.size_drew, World.size_setCell] at hbz); have j0 := fun (o : Nat) => hb.cell (p := ⟨wc.heap.size, o, none⟩) (by first | (simp; done) | (simp; omega) | omega))) | (go_at_call 18; ((with_reducible refine (dec_6 _).mono ?_); rintro e w' ⟨rfl, hb⟩; have hbz := hb.size; (try simp only [World.size_alloc, World.size_drew, World.size_setCell] at hbz); have j0 := fun (o : Nat) => hb.cell (p := ⟨wc.heap.size, o, none⟩) (by first | (simp; done) | (simp; omega) | omega))))
  rw [rounds_succ]
  go_wp2_with (first | (go_at_call 18; ((with_reducible refine (dec_4 _).mono ?_); rintro e w' ⟨rfl, hb⟩; have hbz := hb.size; (try simp only [World.size_alloc, World.size_drew, World.size_setCell] at hbz); have j0 := fun (o : Nat) => hb.cell (p := ⟨wc.heap.size, o, none⟩) (by first | (simp; done) | (simp; omega) | omega))) | (go_at_call 18; ((with_reducible refine (dec_6 _).mono ?_); rintro e w' ⟨rfl, hb⟩; have hbz := hb.size; (try simp only [World.size_alloc, World.size_drew, World.size_setCell] at hbz); have j0 := fun (o : Nat) => hb.cell (p := ⟨wc.heap.size, o, none⟩) (by first | (simp; done) | (simp; omega) | omega))))
  rw [rounds_succ]
  go_wp2_with (first | (go_at_call 18; ((with_reducible refine (dec_4 _).mono ?_); rintro e w' ⟨rfl, hb⟩; have hbz := hb.size; (try simp only [World.size_alloc, World.size_drew, World.size_setCell] at hbz); have j0 := fun (o : Nat) => hb.cell (p := ⟨wc.heap.size, o, none⟩) (by first | (simp; done) | (simp; omega) | omega))) | (go_at_call 18; ((with_reducible refine (dec_6 _).mono ?_); rintro e w' ⟨rfl, hb⟩; have hbz := hb.size; (try simp only [World.size_alloc, World.size_drew, World.size_setCell] at hbz); have j0 := fun (o : Nat) => hb.cell (p := ⟨wc.heap.size, o, none⟩) (by first | (simp; done) | (simp; omega) | omega))))
  rw [rounds_succ]
  go_wp2_with (first | (go_at_call 18; ((with_reducible refine (dec_4 _).mono ?_); rintro e w' ⟨rfl, hb⟩; have hbz := hb.size; (try simp only [World.size_alloc, World.size_drew, World.size_setCell] at hbz); have j0 := fun (o : Nat) => hb.cell (p := ⟨wc.heap.size, o, none⟩) (by first | (simp; done) | (simp; omega) | omega))) | (go_at_call 18; ((with_reducible refine (dec_6 _).mono ?_); rintro e w' ⟨rfl, hb⟩; have hbz := hb.size; (try simp only [World.size_alloc, World.size_drew, World.size_setCell] at hbz); have j0 := fun (o : Nat) => hb.cell (p := ⟨wc.heap.size, o, none⟩) (by first | (simp; done) | (simp; omega) | omega))))
  rw [rounds_succ]
  go_wp2_with (first | (go_at_call 18; ((with_reducible refine (dec_4 _).mono ?_); rintro e w' ⟨rfl, hb⟩; have hbz := hb.size; (try simp only [World.size_alloc, World.size_drew, World.size_setCell] at hbz); have j0 := fun (o : Nat) => hb.cell (p := ⟨wc.heap.size, o, none⟩) (by first | (simp; done) | (simp; omega) | omega))) | (go_at_call 18; ((with_reducible refine (dec_6 _).mono ?_); rintro e w' ⟨rfl, hb⟩; have hbz := hb.size; (try simp only [World.size_alloc, World.size_drew, World.size_setCell] at hbz); have j0 := fun (o : Nat) => hb.cell (p := ⟨wc.heap.size, o, none⟩) (by first | (simp; done) | (simp; omega) | omega))))
  rw [rounds_succ]
  go_wp2_with (first | (go_at_call 18; ((with_reducible refine (dec_4 _).mono ?_); rintro e w' ⟨rfl, hb⟩; have hbz := hb.size; (try simp only [World.size_alloc, World.size_drew, World.size_setCell] at hbz); have j0 := fun (o : Nat) => hb.cell (p := ⟨wc.heap.size, o, none⟩) (by first | (simp; done) | (simp; omega) | omega))) | (go_at_call 18; ((with_reducible refine (dec_6 _).mono ?_); rintro e w' ⟨rfl, hb⟩; have hbz := hb.size; (try simp only [World.size_alloc, World.size_drew, World.size_setCell] at hbz); have j0 := fun (o : Nat) => hb.cell (p := ⟨wc.heap.size, o, none⟩) (by first | (simp; done) | (simp; omega) | omega))))
  rw [rounds_succ]
  go_wp2
  go_ret
  exact ⟨rfl, by (repeat (first | (with_reducible exact Below.refl _ _) | (with_reducible refine bl_alloc ?_ ?_ _; focus (first | omega | (simp; done) | (simp; omega))) | (with_reducible refine bl_set ?_ ?_ _; focus (first | omega | (simp; done) | (simp; omega))) | (with_reducible refine Below.drew ?_) | (with_reducible refine below_drewN ?_ _) | (with_reducible refine below_step ?_ (by assumption))))⟩

set_option maxHeartbeats 2000000 in
theorem sName_20 (w : World) : Calls Tryd.prog 11 #[.int .i64 20] w fun e w' => e = .returned (.string (NM 20)) ∧ Below w.heap.size w w' := by
  have h := (by decide : inB 20 0 26 = true)
  have K := fun W : World => l1Of_20 W
  simp only [LC] at K
  have HK := Lib.hid K
  clear K
  go_enter Tryd.func11, Tryd.ntmps11
  go_wp2_with (first | (go_at_call 17; ((with_reducible refine (l6In_any _ _ _ _).mono ?_); rintro e w' ⟨rfl, rfl⟩)))
  refine (HK.out _).mono ?_
  rintro e wc ⟨rfl, hb1⟩
  have hsz := hb1.size
  go_wp2_with fail
  refine wp_loop_rounds 7 ?_
  rw [rounds_succ]
  go_wp2_with (first | (go_at_call 18; ((with_reducible refine (dec_5 _).mono ?_); rintro e w' ⟨rfl, hb⟩; have hbz := hb.size; (try simp only [World.size_alloc, World.size_drew, World.size_setCell] at hbz); have j0 := fun (o : Nat) => hb.cell (p := ⟨wc.heap.size, o, none⟩) (by first | (simp; done) | (simp; omega) | omega))) | (go_at_call 18; ((with_reducible refine (dec_6 _).mono ?_); rintro e w' ⟨rfl, hb⟩; have hbz := hb.size; (try simp only [World.size_alloc, World.size_drew, World.size_setCell] at hbz); have j0 := fun (o : Nat) => hb.cell (p := ⟨wc.heap.size, o, none⟩) (by first | (simp; done) | (simp; omega) | omega))))
  rw [rounds_succ]
  go_wp2_with (first | (go_at_call 18; ((with_reducible refine (dec_5 _).mono ?_); rintro e w' ⟨rfl, hb⟩; have hbz := hb.size; (try simp only [World.size_alloc, World.size_drew, World.size_setCell] at hbz); have j0 := fun (o : Nat) => hb.cell (p := ⟨wc.heap.size, o, none⟩) (by first | (simp; done) | (simp; omega) | omega))) | (go_at_call 18; ((with_reducible refine (dec_6 _).mono ?_); rintro e w' ⟨rfl, hb⟩; have hbz := hb.size; (try simp only [World.size_alloc, World.size_drew, World.size_setCell] at hbz); have j0 := fun (o : Nat) => hb.cell (p := ⟨wc.heap.size, o, none⟩) (by first | (simp; done) | (simp; omega) | omega))))
  rw [rounds_succ]
  go_wp2_with (first | (go_at_call 18; ((with_reducible refine (dec_5 _).mono ?_); rintro e w' ⟨rfl, hb⟩; have hbz := hb.size; (try simp only [World.size_alloc, World.size_drew, World.size_setCell] at hbz); have j0 := fun (o : Nat) => hb.cell (p := ⟨wc.heap.size, o, none⟩) (by first | (simp; done) | (simp; omega) | omega))) | (go_at_call 18; ((with_reducible refine (dec_6 _).mono ?_); rintro e w' ⟨rfl, hb⟩; have hbz := hb.size; (try simp only [World.size_alloc, World.size_drew, World.size_setCell] at hbz); have j0 := fun (o : Nat) => hb.cell (p := ⟨wc.heap.size, o, none⟩) (by first | (simp; done) | (simp; omega) | omega))))
  rw [rounds_succ]
  go_wp2_with (first | (go_at_call 18; ((with_reducible refine (dec_5 _).mono ?_); rintro e w' ⟨rfl, hb⟩; have hbz := hb.size; (try simp only [World.size_alloc, World.size_drew, World.size_setCell] at hbz); have j0 := fun (o : Nat) => hb.cell (p := ⟨wc.heap.size, o, none⟩) (by first | (simp; done) | (simp; omega) | omega))) | (go_at_call 18; ((with_reducible refine (dec_6 _).mono ?_); rintro e w' ⟨rfl, hb⟩; have hbz := hb.size; (try simp only [World.size_alloc, World.size_drew, World.size_setCell] at hbz); have j0 := fun (o : Nat) => hb.cell (p := ⟨wc.heap.size, o, none⟩) (by first | (simp; done) | (simp; omega) | omega))))
  rw [rounds_succ]
  go_wp2_with (first | (go_at_call 18; ((with_reducible refine (dec_5 _).mono ?_); rintro e w' ⟨rfl, hb⟩; have hbz := hb.size; (try simp only [World.size_alloc, World.size_drew, World.size_setCell] at hbz); have j0 := fun (o : Nat) => hb.cell (p := ⟨wc.heap.size, o, none⟩) (by first | (simp; done) | (simp; omega) | omega))) | (go_at_call 18; ((with_reducible refine (dec_6 _).mono ?_); rintro e w' ⟨rfl, hb⟩; have hbz := hb.size; (try simp only [World.size_alloc, World.size_drew, World.size_setCell] at hbz); have j0 := fun (o : Nat) => hb.cell (p := ⟨wc.heap.size, o, none⟩) (by first | (simp; done) | (simp; omega) | omega))))
  rw [rounds_succ]
  go_wp2_with (first | (go_at_call 18; ((with_reducible refine (dec_5 _).mono ?_); rintro e w' ⟨rfl, hb⟩; have hbz := hb.size; (try simp only [World.size_alloc, World.size_drew, World.size_setCell] at hbz); have j0 := fun (o : Nat) => hb.cell (p := ⟨wc.heap.size, o, none⟩) (by first | (simp; done) | (simp; omega) | omega))) | (go_at_call 18; ((with_reducible refine (dec_6 _).mono ?_); rintro e w' ⟨rfl, hb⟩; have hbz := hb.size; (try simp only [World.size_alloc, World.size_drew, World.size_setCell] at hbz); have j0 := fun (o : Nat) => hb.cell (p := ⟨wc.heap.size, o, none⟩) (by first | (simp; done) | (simp; omega) | omega))))
  rw [rounds_succ]
  go_wp2
  go_ret
  exact ⟨rfl, by (repeat (first | (with_reducible exact Below.refl _ _) | (with_reducible refine bl_alloc ?_ ?_ _; focus (first | omega | (simp; done) | (simp; omega))) | (with_reducible refine bl_set ?_ ?_ _; focus (first | omega | (simp; done) | (simp; omega))) | (with_reducible refine Below.drew ?_) | (with_reducible refine below_drewN ?_ _) | (with_reducible refine below_step ?_ (by assumption))))⟩

theorem sName_21 (w : World) : Calls Tryd.prog 11 #[.int .i64 21] w fun e w' => e = .returned (.string (NM 21)) ∧ Below w.heap.size w w' := by
  have h := (by decide : inB 21 0 26 = true)
  go_enter Tryd.func11, Tryd.ntmps11
  go_wp2_with (first | (go_at_call 17; ((with_reducible refine (l6In_any _ _ _ _).mono ?_); rintro e w' ⟨rfl, rfl⟩)) | (go_at_call 18; ((with_reducible refine (dec_1 _).mono ?_); rintro e w' ⟨rfl, hb⟩)))
  go_ret
  exact ⟨rfl, by (repeat (first | (with_reducible exact Below.refl _ _) | (with_reducible refine bl_alloc ?_ ?_ _; focus (first | omega | (simp; done) | (simp; omega))) | (with_reducible refine bl_set ?_ ?_ _; focus (first | omega | (simp; done) | (simp; omega))) | (with_reducible refine Below.drew ?_) | (with_reducible refine below_drewN ?_ _) | (with_reducible refine below_step ?_ (by assumption))))⟩

theorem sName_22 (w : World) : Calls Tryd.prog 11 #[.int .i64 22] w fun e w' => e = .returned (.string (NM 22)) ∧ Below w.heap.size w w' := by
  have h := (by decide : inB 22 0 26 = true)
  go_enter Tryd.func11, Tryd.ntmps11
  go_wp2_with (first | (go_at_call 17; ((with_reducible refine (l6In_any _ _ _ _).mono ?_); rintro e w' ⟨rfl, rfl⟩)) | (go_at_call 18; ((with_reducible refine (dec_2 _).mono ?_); rintro e w' ⟨rfl, hb⟩)))
  go_ret
  exact ⟨rfl, by (repeat (first | (with_reducible exact Below.refl _ _) | (with_reducible refine bl_alloc ?_ ?_ _; focus (first | omega | (simp; done) | (simp; omega))) | (with_reducible refine bl_set ?_ ?_ _; focus (first | omega | (simp; done) | (simp; omega))) | (with_reducible refine Below.drew ?_) | (with_reducible refine below_drewN ?_ _) | (with_reducible refine below_step ?_ (by assumption))))⟩

theorem sName_23 (w : World) : Calls Tryd.prog 11 #[.int .i64 23] w fun e w' => e = .returned (.string (NM 23)) ∧ Below w.heap.size w w' := by
  have h := (by decide : inB 23 0 26 = true)
  go_enter Tryd.func11, Tryd.ntmps11
  go_wp2_with (first | (go_at_call 17; ((with_reducible refine (l6In_any _ _ _ _).mono ?_); rintro e w' ⟨rfl, rfl⟩)) | (go_at_call 18; ((with_reducible refine (dec_3 _).mono ?_); rintro e w' ⟨rfl, hb⟩)))
  go_ret
  exact ⟨rfl, by (repeat (first | (with_reducible exact Below.refl _ _) | (with_reducible refine bl_alloc ?_ ?_ _; focus (first | omega | (simp; done) | (simp; omega))) | (with_reducible refine bl_set ?_ ?_ _; focus (first | omega | (simp; done) | (simp; omega))) | (with_reducible refine Below.drew ?_) | (with_reducible refine below_drewN ?_ _) | (with_reducible refine below_step ?_ (by assumption))))⟩

theorem sName_24 (w : World) : Calls Tryd.prog 11 #[.int .i64 24] w fun e w' => e = .returned (.string (NM 24)) ∧ Below w.heap.size w w' := by
  have h := (by decide : inB 24 0 26 = true)
  go_enter Tryd.func11, Tryd.ntmps11
  go_wp2_with (first | (go_at_call 17; ((with_reducible refine (l6In_any _ _ _ _).mono ?_); rintro e w' ⟨rfl, rfl⟩)) | (go_at_call 18; ((with_reducible refine (dec_4 _).mono ?_); rintro e w' ⟨rfl, hb⟩)))
  go_ret
  exact ⟨rfl, by (repeat (first | (with_reducible exact Below.refl _ _) | (with_reducible refine bl_alloc ?_ ?_ _; focus (first | omega | (simp; done) | (simp; omega))) | (with_reducible refine bl_set ?_ ?_ _; focus (first | omega | (simp; done) | (simp; omega))) | (with_reducible refine Below.drew ?_) | (with_reducible refine below_drewN ?_ _) | (with_reducible refine below_step ?_ (by assumption))))⟩

theorem sName_25 (w : World) : Calls Tryd.prog 11 #[.int .i64 25] w fun e w' => e = .returned (.string (NM 25)) ∧ Below w.heap.size w w' := by
  have h := (by decide : inB 25 0 26 = true)
  go_enter Tryd.func11, Tryd.ntmps11
  go_wp2_with (first | (go_at_call 17; ((with_reducible refine (l6In_any _ _ _ _).mono ?_); rintro e w' ⟨rfl, rfl⟩)) | (go_at_call 18; ((with_reducible refine (dec_5 _).mono ?_); rintro e w' ⟨rfl, hb⟩)))
  go_ret
  exact ⟨rfl, by (repeat (first | (with_reducible exact Below.refl _ _) | (with_reducible refine bl_alloc ?_ ?_ _; focus (first | omega | (simp; done) | (simp; omega))) | (with_reducible refine bl_set ?_ ?_ _; focus (first | omega | (simp; done) | (simp; omega))) | (with_reducible refine Below.drew ?_) | (with_reducible refine below_drewN ?_ _) | (with_reducible refine below_step ?_ (by assumption))))⟩

theorem sName_26 (w : World) : Calls Tryd.prog 11 #[.int .i64 26] w fun e w' => e = .returned (.string (NM 26)) ∧ Below w.heap.size w w' := by
  have h := (by decide : inB 26 0 26 = true)
  go_enter Tryd.func11, Tryd.ntmps11
  go_wp2_with (first | (go_at_call 17; ((with_reducible refine (l6In_any _ _ _ _).mono ?_); rintro e w' ⟨rfl, rfl⟩)) | (go_at_call 18; ((with_reducible refine (dec_6 _).mono ?_); rintro e w' ⟨rfl, hb⟩)))
  go_ret
  exact ⟨rfl, by (repeat (first | (with_reducible exact Below.refl _ _) | (with_reducible refine bl_alloc ?_ ?_ _; focus (first | omega | (simp; done) | (simp; omega))) | (with_reducible refine bl_set ?_ ?_ _; focus (first | omega | (simp; done) | (simp; omega))) | (with_reducible refine Below.drew ?_) | (with_reducible refine below_drewN ?_ _) | (with_reducible refine below_step ?_ (by assumption))))⟩

theorem sLineName_in : ∀ (k : Nat) (hk : k < 27) (w : World),
    Calls Tryd.prog 11 #[.int .i64 (k : Int)] w fun e w' => e = .returned (.string (NM k)) ∧ Below w.heap.size w w'
  | 0, _, w => sName_0 w
  | 1, _, w => sName_1 w
  | 2, _, w => sName_2 w
  | 3, _, w => sName_3 w
  | 4, _, w => sName_4 w
  | 5, _, w => sName_5 w
  | 6, _, w => sName_6 w
  | 7, _, w => sName_7 w
  | 8, _, w => sName_8 w
  | 9, _, w => sName_9 w
  | 10, _, w => sName_10 w
  | 11, _, w => sName_11 w
  | 12, _, w => sName_12 w
  | 13, _, w => sName_13 w
  | 14, _, w => sName_14 w
  | 15, _, w => sName_15 w
  | 16, _, w => sName_16 w
  | 17, _, w => sName_17 w
  | 18, _, w => sName_18 w
  | 19, _, w => sName_19 w
  | 20, _, w => sName_20 w
  | 21, _, w => sName_21 w
  | 22, _, w => sName_22 w
  | 23, _, w => sName_23 w
  | 24, _, w => sName_24 w
  | 25, _, w => sName_25 w
  | 26, _, w => sName_26 w
  | _ + 27, hk, _ => absurd hk (by omega)

end Go.Proofs.YtcejgibanmcahaaDoor
