/- Contracts of LineCommon in the program and in the reference. Each holds for all arguments, in whatever memory. -/
import Derived.Test.YtogmfadeedmmaaaLists
namespace Go.Proofs.Ytogmfadeedmmaaa
open Go.RowKit
set_option linter.unusedSimpArgs false
set_option linter.unusedVariables false

def cmB (i l x : Nat) : Bool := mtB i x && mtB l x

theorem mt_symm : ∀ i, i < 27 → ∀ j, j < 27 → mtB i j = mtB j i := by decide +kernel

theorem commonSo_any (i l k : Nat) (hi : i < 27) (hl : l < 27) (hk : k < 27) (b d : Nat) (w : World) (hb : b < w.heap.size) (hd : d < w.heap.size) (hc : w.cell? ⟨b, 0, none⟩ = some (.int .i64 (i : Int))) (he : w.cell? ⟨d, 0, none⟩ = some (.int .i64 (l : Int))) :
    Calls Try.prog 65 #[.int .i64 (k : Int), .pointer (some ⟨b, 0, none⟩), .pointer (some ⟨d, 0, none⟩)] w fun e w' => e = .returned (.bool (cmB i l k)) ∧ Below w.heap.size w w' := by
  have HE := Lib.hid he
  cases hm : mtB i k
  · go_enter Try.func65, Try.ntmps65
    go_wp2_with (first | (go_at_call 62; ((with_reducible refine (meets_any _ _ hi hk _).mono ?_); rintro e w' ⟨rfl, hb⟩; have hbz := hb.size; (try simp only [World.size_alloc, World.size_drew, World.size_setCell] at hbz); (try (have k0 := fun (o : Nat) => hb.cell (p := ⟨w.heap.size, o, none⟩) (by first | (simp; done) | (simp; omega) | omega))); (try (have k1 := fun (o : Nat) => hb.cell (p := ⟨w.heap.size + 1, o, none⟩) (by first | (simp; done) | (simp; omega) | omega))); (try (have k2 := fun (o : Nat) => hb.cell (p := ⟨w.heap.size + 1 + 1, o, none⟩) (by first | (simp; done) | (simp; omega) | omega))); (try (have k3 := fun (o : Nat) => hb.cell (p := ⟨w.heap.size + 1 + 1 + 1, o, none⟩) (by first | (simp; done) | (simp; omega) | omega))); (try (have k4 := fun (o : Nat) => hb.cell (p := ⟨w.heap.size + 1 + 1 + 1 + 1, o, none⟩) (by first | (simp; done) | (simp; omega) | omega))); (try (have k5 := fun (o : Nat) => hb.cell (p := ⟨w.heap.size + 1 + 1 + 1 + 1 + 1, o, none⟩) (by first | (simp; done) | (simp; omega) | omega))); (try (have f0 := fun (o : Nat) => hb.frozen (p := ⟨w.heap.size, o, none⟩) (by first | (simp; done) | (simp; omega) | omega))); (try (have f1 := fun (o : Nat) => hb.frozen (p := ⟨w.heap.size + 1, o, none⟩) (by first | (simp; done) | (simp; omega) | omega))); (try (have f2 := fun (o : Nat) => hb.frozen (p := ⟨w.heap.size + 1 + 1, o, none⟩) (by first | (simp; done) | (simp; omega) | omega))); (try (have f3 := fun (o : Nat) => hb.frozen (p := ⟨w.heap.size + 1 + 1 + 1, o, none⟩) (by first | (simp; done) | (simp; omega) | omega))); (try (have f4 := fun (o : Nat) => hb.frozen (p := ⟨w.heap.size + 1 + 1 + 1 + 1, o, none⟩) (by first | (simp; done) | (simp; omega) | omega))); (try (have f5 := fun (o : Nat) => hb.frozen (p := ⟨w.heap.size + 1 + 1 + 1 + 1 + 1, o, none⟩) (by first | (simp; done) | (simp; omega) | omega))))) | (go_at_call 62; ((with_reducible refine (meets_any _ _ hl hk _).mono ?_); rintro e w' ⟨rfl, hb⟩; have hbz := hb.size; (try simp only [World.size_alloc, World.size_drew, World.size_setCell] at hbz); (try (have k0 := fun (o : Nat) => hb.cell (p := ⟨w.heap.size, o, none⟩) (by first | (simp; done) | (simp; omega) | omega))); (try (have k1 := fun (o : Nat) => hb.cell (p := ⟨w.heap.size + 1, o, none⟩) (by first | (simp; done) | (simp; omega) | omega))); (try (have k2 := fun (o : Nat) => hb.cell (p := ⟨w.heap.size + 1 + 1, o, none⟩) (by first | (simp; done) | (simp; omega) | omega))); (try (have k3 := fun (o : Nat) => hb.cell (p := ⟨w.heap.size + 1 + 1 + 1, o, none⟩) (by first | (simp; done) | (simp; omega) | omega))); (try (have k4 := fun (o : Nat) => hb.cell (p := ⟨w.heap.size + 1 + 1 + 1 + 1, o, none⟩) (by first | (simp; done) | (simp; omega) | omega))); (try (have k5 := fun (o : Nat) => hb.cell (p := ⟨w.heap.size + 1 + 1 + 1 + 1 + 1, o, none⟩) (by first | (simp; done) | (simp; omega) | omega))); (try (have f0 := fun (o : Nat) => hb.frozen (p := ⟨w.heap.size, o, none⟩) (by first | (simp; done) | (simp; omega) | omega))); (try (have f1 := fun (o : Nat) => hb.frozen (p := ⟨w.heap.size + 1, o, none⟩) (by first | (simp; done) | (simp; omega) | omega))); (try (have f2 := fun (o : Nat) => hb.frozen (p := ⟨w.heap.size + 1 + 1, o, none⟩) (by first | (simp; done) | (simp; omega) | omega))); (try (have f3 := fun (o : Nat) => hb.frozen (p := ⟨w.heap.size + 1 + 1 + 1, o, none⟩) (by first | (simp; done) | (simp; omega) | omega))); (try (have f4 := fun (o : Nat) => hb.frozen (p := ⟨w.heap.size + 1 + 1 + 1 + 1, o, none⟩) (by first | (simp; done) | (simp; omega) | omega))); (try (have f5 := fun (o : Nat) => hb.frozen (p := ⟨w.heap.size + 1 + 1 + 1 + 1 + 1, o, none⟩) (by first | (simp; done) | (simp; omega) | omega))))))
    go_ret
    exact ⟨ret_bool (by simp [cmB, hm]), by (repeat (first | (with_reducible exact Below.refl _ _) | (with_reducible refine bl_alloc ?_ ?_ _; focus (first | omega | (simp; done) | (simp; omega))) | (with_reducible refine bl_set ?_ ?_ _; focus (first | omega | (simp; done) | (simp; omega))) | (with_reducible refine Below.drew ?_) | (with_reducible refine below_drewN ?_ _) | (with_reducible refine below_step ?_ (by assumption))))⟩
  · go_enter Try.func65, Try.ntmps65
    go_wp2_with fail
    refine (meets_any i k hi hk _).mono ?_
    rintro e w1 ⟨rfl, hb1⟩
    have he1 : w1.cell? ⟨d, 0, none⟩ = some (.int .i64 (l : Int)) := (hb1.cell (p := ⟨d, 0, none⟩) hd).trans HE.out
    go_wp2_with (go_at_call 62; ((with_reducible refine (meets_any _ _ hl hk _).mono ?_); rintro e w' ⟨rfl, hb⟩; have hbz := hb.size; (try simp only [World.size_alloc, World.size_drew, World.size_setCell] at hbz); (try (have k0 := fun (o : Nat) => hb.cell (p := ⟨w.heap.size, o, none⟩) (by first | (simp; done) | (simp; omega) | omega))); (try (have k1 := fun (o : Nat) => hb.cell (p := ⟨w.heap.size + 1, o, none⟩) (by first | (simp; done) | (simp; omega) | omega))); (try (have k2 := fun (o : Nat) => hb.cell (p := ⟨w.heap.size + 1 + 1, o, none⟩) (by first | (simp; done) | (simp; omega) | omega))); (try (have k3 := fun (o : Nat) => hb.cell (p := ⟨w.heap.size + 1 + 1 + 1, o, none⟩) (by first | (simp; done) | (simp; omega) | omega))); (try (have k4 := fun (o : Nat) => hb.cell (p := ⟨w.heap.size + 1 + 1 + 1 + 1, o, none⟩) (by first | (simp; done) | (simp; omega) | omega))); (try (have k5 := fun (o : Nat) => hb.cell (p := ⟨w.heap.size + 1 + 1 + 1 + 1 + 1, o, none⟩) (by first | (simp; done) | (simp; omega) | omega))); (try (have f0 := fun (o : Nat) => hb.frozen (p := ⟨w.heap.size, o, none⟩) (by first | (simp; done) | (simp; omega) | omega))); (try (have f1 := fun (o : Nat) => hb.frozen (p := ⟨w.heap.size + 1, o, none⟩) (by first | (simp; done) | (simp; omega) | omega))); (try (have f2 := fun (o : Nat) => hb.frozen (p := ⟨w.heap.size + 1 + 1, o, none⟩) (by first | (simp; done) | (simp; omega) | omega))); (try (have f3 := fun (o : Nat) => hb.frozen (p := ⟨w.heap.size + 1 + 1 + 1, o, none⟩) (by first | (simp; done) | (simp; omega) | omega))); (try (have f4 := fun (o : Nat) => hb.frozen (p := ⟨w.heap.size + 1 + 1 + 1 + 1, o, none⟩) (by first | (simp; done) | (simp; omega) | omega))); (try (have f5 := fun (o : Nat) => hb.frozen (p := ⟨w.heap.size + 1 + 1 + 1 + 1 + 1, o, none⟩) (by first | (simp; done) | (simp; omega) | omega)))))
    go_ret
    exact ⟨ret_bool (by simp [cmB, hm]), by (repeat (first | (with_reducible exact Below.refl _ _) | (with_reducible refine bl_alloc ?_ ?_ _; focus (first | omega | (simp; done) | (simp; omega))) | (with_reducible refine bl_set ?_ ?_ _; focus (first | omega | (simp; done) | (simp; omega))) | (with_reducible refine Below.drew ?_) | (with_reducible refine below_drewN ?_ _) | (with_reducible refine below_step ?_ (by assumption))))⟩

set_option maxHeartbeats 1000000 in
theorem commonList_any (i l : Nat) (hi : i < 27) (hl : l < 27) (b d : Nat) (w : World) (hbw : b < w.heap.size) (hdw : d < w.heap.size) (hc : w.cell? ⟨b, 0, none⟩ = some (.int .i64 (i : Int))) (hd : w.cell? ⟨d, 0, none⟩ = some (.int .i64 (l : Int))) :
    Calls Try.prog 64 #[.func (.func 65) #[] #[.pointer (some ⟨b, 0, none⟩), .pointer (some ⟨d, 0, none⟩)]] w (OwnL w (linesB (cmB i l) 27)) := by
  have HC := Lib.hid hc
  have HD := Lib.hid hd
  clear hc hd
  obtain ⟨i0, hi0, hz0, hz1, hz2⟩ := info_parts Try.info3
  go_enter Try.func64, Try.ntmps64
  go_wp2_with fail
  go_loopw [3, 6] (fun v c wr => ∃ k : Nat, k ≤ 27 ∧ c = .int .i64 k ∧ wr.ownsRow w.heap.size 3 1 v (linesB (cmB i l) k).length (ivs (linesB (cmB i l) k)) ∧ Below w.heap.size w wr ∧ v ≠ .slice none 0 0) (fun _ c _ => 27 - (intOf c).toNat)
  case atStart => exact ⟨0, by omega, rfl, owns_empty _ _, by (repeat (first | (with_reducible exact Below.refl _ _) | (with_reducible refine bl_alloc ?_ ?_ _; focus (first | omega | (simp; done) | (simp; omega))) | (with_reducible refine bl_set ?_ ?_ _; focus (first | omega | (simp; done) | (simp; omega))) | (with_reducible refine Below.drew ?_) | (with_reducible refine below_drewN ?_ _) | (with_reducible refine below_step ?_ (by assumption)))), by simp⟩
  case round =>
    obtain ⟨k, hk, rfl, hown, hb0, hv⟩ := hrel
    have HV := Lib.hid hv
    clear hv
    by_cases hlt : k < 27
    · have hln := linesB_len (cmB i l) k
      have hszr := hb0.size
      have hcr : wr.cell? ⟨b, 0, none⟩ = some (.int .i64 (i : Int)) := (hb0.cell (p := ⟨b, 0, none⟩) hbw).trans HC.out
      have hdr : wr.cell? ⟨d, 0, none⟩ = some (.int .i64 (l : Int)) := (hb0.cell (p := ⟨d, 0, none⟩) hdw).trans HD.out
      have HCR := Lib.hid hcr
      have HDR := Lib.hid hdr
      clear hcr hdr
      cases hm : cmB i l k
      · go_wp2_with (go_at_call 65; ((with_reducible refine (commonSo_any i l k hi hl hlt b d _ (Nat.lt_of_lt_of_le hbw hszr) (Nat.lt_of_lt_of_le hdw hszr) HCR.out HDR.out).mono ?_); rintro e w' ⟨rfl, hb⟩; have hbz := hb.size; (try simp only [World.size_alloc, World.size_drew, World.size_setCell] at hbz); (try (have k0 := fun (o : Nat) => hb.cell (p := ⟨w.heap.size, o, none⟩) (by first | (simp; done) | (simp; omega) | omega))); (try (have k1 := fun (o : Nat) => hb.cell (p := ⟨w.heap.size + 1, o, none⟩) (by first | (simp; done) | (simp; omega) | omega))); (try (have k2 := fun (o : Nat) => hb.cell (p := ⟨w.heap.size + 1 + 1, o, none⟩) (by first | (simp; done) | (simp; omega) | omega))); (try (have k3 := fun (o : Nat) => hb.cell (p := ⟨w.heap.size + 1 + 1 + 1, o, none⟩) (by first | (simp; done) | (simp; omega) | omega))); (try (have k4 := fun (o : Nat) => hb.cell (p := ⟨w.heap.size + 1 + 1 + 1 + 1, o, none⟩) (by first | (simp; done) | (simp; omega) | omega))); (try (have k5 := fun (o : Nat) => hb.cell (p := ⟨w.heap.size + 1 + 1 + 1 + 1 + 1, o, none⟩) (by first | (simp; done) | (simp; omega) | omega))); (try (have f0 := fun (o : Nat) => hb.frozen (p := ⟨w.heap.size, o, none⟩) (by first | (simp; done) | (simp; omega) | omega))); (try (have f1 := fun (o : Nat) => hb.frozen (p := ⟨w.heap.size + 1, o, none⟩) (by first | (simp; done) | (simp; omega) | omega))); (try (have f2 := fun (o : Nat) => hb.frozen (p := ⟨w.heap.size + 1 + 1, o, none⟩) (by first | (simp; done) | (simp; omega) | omega))); (try (have f3 := fun (o : Nat) => hb.frozen (p := ⟨w.heap.size + 1 + 1 + 1, o, none⟩) (by first | (simp; done) | (simp; omega) | omega))); (try (have f4 := fun (o : Nat) => hb.frozen (p := ⟨w.heap.size + 1 + 1 + 1 + 1, o, none⟩) (by first | (simp; done) | (simp; omega) | omega))); (try (have f5 := fun (o : Nat) => hb.frozen (p := ⟨w.heap.size + 1 + 1 + 1 + 1 + 1, o, none⟩) (by first | (simp; done) | (simp; omega) | omega)))))
        go_roundw
        case rel => exact ⟨k + 1, by omega, by go_num, by rw [linesB_f hm]; exact owns_below hown hb, hb0.trans (hb.mono hb0.size), HV.out⟩
        case measure => simp [intOf]; omega
      · go_wp2_with (first | (go_at_call 65; ((with_reducible refine (commonSo_any i l k hi hl hlt b d _ (Nat.lt_of_lt_of_le hbw hszr) (Nat.lt_of_lt_of_le hdw hszr) HCR.out HDR.out).mono ?_); rintro e w' ⟨rfl, hb⟩; have hbz := hb.size; (try simp only [World.size_alloc, World.size_drew, World.size_setCell] at hbz); (try (have k0 := fun (o : Nat) => hb.cell (p := ⟨w.heap.size, o, none⟩) (by first | (simp; done) | (simp; omega) | omega))); (try (have k1 := fun (o : Nat) => hb.cell (p := ⟨w.heap.size + 1, o, none⟩) (by first | (simp; done) | (simp; omega) | omega))); (try (have k2 := fun (o : Nat) => hb.cell (p := ⟨w.heap.size + 1 + 1, o, none⟩) (by first | (simp; done) | (simp; omega) | omega))); (try (have k3 := fun (o : Nat) => hb.cell (p := ⟨w.heap.size + 1 + 1 + 1, o, none⟩) (by first | (simp; done) | (simp; omega) | omega))); (try (have k4 := fun (o : Nat) => hb.cell (p := ⟨w.heap.size + 1 + 1 + 1 + 1, o, none⟩) (by first | (simp; done) | (simp; omega) | omega))); (try (have k5 := fun (o : Nat) => hb.cell (p := ⟨w.heap.size + 1 + 1 + 1 + 1 + 1, o, none⟩) (by first | (simp; done) | (simp; omega) | omega))); (try (have f0 := fun (o : Nat) => hb.frozen (p := ⟨w.heap.size, o, none⟩) (by first | (simp; done) | (simp; omega) | omega))); (try (have f1 := fun (o : Nat) => hb.frozen (p := ⟨w.heap.size + 1, o, none⟩) (by first | (simp; done) | (simp; omega) | omega))); (try (have f2 := fun (o : Nat) => hb.frozen (p := ⟨w.heap.size + 1 + 1, o, none⟩) (by first | (simp; done) | (simp; omega) | omega))); (try (have f3 := fun (o : Nat) => hb.frozen (p := ⟨w.heap.size + 1 + 1 + 1, o, none⟩) (by first | (simp; done) | (simp; omega) | omega))); (try (have f4 := fun (o : Nat) => hb.frozen (p := ⟨w.heap.size + 1 + 1 + 1 + 1, o, none⟩) (by first | (simp; done) | (simp; omega) | omega))); (try (have f5 := fun (o : Nat) => hb.frozen (p := ⟨w.heap.size + 1 + 1 + 1 + 1 + 1, o, none⟩) (by first | (simp; done) | (simp; omega) | omega))))) | (at_builtin; refine wpList_append_own _ rfl _ _ 38 rfl w.heap.size 3 i0 (.int .i64 0) 1 8 Try.underlying38 hi0 hz0 hz1 hz2 rfl (by decide) _ _ _ rfl ((owns_below hown hb).alloc _) ⟨_, 0, none⟩ 1 1 [.int .i64 (k : Int)] rfl rfl (new_one _ _ _) one_of (by unfold maxLen; omega) (by omega) ?_ ?_))
        · simp
          omega
        · intro v' w1 ho hg hn
          have hb1 := below_own (B := w.heap.size) (a := w) (by exact (hb0.trans (hb.mono hb0.size)).alloc (by omega) _) ((owns_below hown hb).alloc _) hg (Nat.le_refl _) (by simp; omega)
          have HN := Lib.hid hn
          clear hn hg hown
          go_wp2_with fail
          go_roundw
          case rel => exact ⟨k + 1, by omega, by go_num, by rw [linesB_t hm]; exact owns_app ho, hb1, fun h => by have hnn := HN.out; have hvv := HV.out; simp_all⟩
          case measure => simp [intOf]; omega
    · obtain rfl : k = 27 := by omega
      obtain ⟨g, cap, hg1, hg2, hg3⟩ := Row.of_owns hown HV.out
      subst hg1
      go_wp2_with fail
      go_ret
      exact ⟨_, _, rfl, hg2, hg3, hb0⟩

theorem iCommon_in (i l : Nat) (hi : i < 27) (hl : l < 27) (hne : i ≠ l) (w : World) :
    Calls Try.prog 26 #[.int .i64 (i : Int), .int .i64 (l : Int)] w fun e w' => e = .returned (.tuple #[.int .i64 ((linesB (cmB i l) 27).length : Int), .bool true]) ∧ Below w.heap.size w w' := by
  have h1 := in27 i hi
  have h2 := in27 l hl
  have h3 : ((i : Int) == (l : Int)) = false := by simp; omega
  have hmf : ∀ (fn : Fn) (first cap : Array Value) (w : World), (Instr.makeFunc fn first cap).run Try.prog w = .ok (.func fn first cap) w := fun _ _ _ _ => rfl
  clear hne
  go_enter Try.func26, Try.ntmps26
  go_wp2_with (first | (go_at_call 58; ((with_reducible refine (isLine_any _ _).mono ?_); rintro e w' ⟨rfl, rfl⟩)))
  refine (commonList_any i l hi hl w.heap.size (w.heap.size + 1) _ (by simp; omega) (by simp) (by simp [go_sem]) (by simp [go_sem])).mono ?_
  rintro e w' ⟨g, cap, rfl, hg1, hg2, hb⟩
  go_wp2_with fail
  go_ret2
  exact ⟨rfl, by (repeat (first | (with_reducible exact Below.refl _ _) | (with_reducible refine bl_alloc ?_ ?_ _; focus (first | omega | (simp; done) | (simp; omega))) | (with_reducible refine bl_set ?_ ?_ _; focus (first | omega | (simp; done) | (simp; omega))) | (with_reducible refine Below.drew ?_) | (with_reducible refine below_drewN ?_ _) | (with_reducible refine below_step ?_ (by assumption))))⟩

set_option maxHeartbeats 1000000 in
theorem sCommon_in (i l : Nat) (hi : i < 27) (hl : l < 27) (hne : i ≠ l) (w : World) :
    Calls Try.prog 27 #[.int .i64 (i : Int), .int .i64 (l : Int)] w fun e w' => e = .returned (.tuple #[.int .i64 ((linesB (cmB i l) 27).length : Int), .bool true]) ∧ Below w.heap.size w w' := by
  have h1 := in27 i hi
  have h2 := in27 l hl
  have h3 : ((i : Int) == (l : Int)) = false := by simp; omega
  clear hne
  go_enter Try.func27, Try.ntmps27
  go_wp2_with (first | (go_at_call 52; ((with_reducible refine (l6In_any _ _ _ _).mono ?_); rintro e w' ⟨rfl, rfl⟩)))
  go_loopw [6, 7] (fun n c wr => ∃ k : Nat, k ≤ 27 ∧ c = .int .i64 k ∧ n = .int .i64 ((linesB (cmB i l) k).length : Int) ∧ Below w.heap.size w wr) (fun _ c _ => 27 - (intOf c).toNat)
  case atStart => exact ⟨0, by omega, rfl, rfl, Below.refl _ _⟩
  case round =>
    obtain ⟨k, hk, rfl, rfl, hb0⟩ := hrel
    by_cases hlt : k < 27
    · have hln := linesB_len (cmB i l) k
      have s1 := Lib.hid (mt_symm k hlt i hi)
      have s2 := Lib.hid (mt_symm k hlt l hl)
      cases hm : mtB k i
      · have HT := Lib.hid (show (linesB (cmB i l) (k + 1)) = linesB (cmB i l) k from linesB_f (by simp [cmB, ← s1.out, hm]))
        go_wp2_with (first | (go_at_call 63; ((with_reducible refine (l2Meets_any _ _ hlt hi _).mono ?_); rintro e w' ⟨rfl, hb⟩; have hbz := hb.size; (try simp only [World.size_alloc, World.size_drew, World.size_setCell] at hbz); (try (have k0 := fun (o : Nat) => hb.cell (p := ⟨w.heap.size, o, none⟩) (by first | (simp; done) | (simp; omega) | omega))); (try (have k1 := fun (o : Nat) => hb.cell (p := ⟨w.heap.size + 1, o, none⟩) (by first | (simp; done) | (simp; omega) | omega))); (try (have k2 := fun (o : Nat) => hb.cell (p := ⟨w.heap.size + 1 + 1, o, none⟩) (by first | (simp; done) | (simp; omega) | omega))); (try (have k3 := fun (o : Nat) => hb.cell (p := ⟨w.heap.size + 1 + 1 + 1, o, none⟩) (by first | (simp; done) | (simp; omega) | omega))); (try (have k4 := fun (o : Nat) => hb.cell (p := ⟨w.heap.size + 1 + 1 + 1 + 1, o, none⟩) (by first | (simp; done) | (simp; omega) | omega))); (try (have k5 := fun (o : Nat) => hb.cell (p := ⟨w.heap.size + 1 + 1 + 1 + 1 + 1, o, none⟩) (by first | (simp; done) | (simp; omega) | omega))); (try (have f0 := fun (o : Nat) => hb.frozen (p := ⟨w.heap.size, o, none⟩) (by first | (simp; done) | (simp; omega) | omega))); (try (have f1 := fun (o : Nat) => hb.frozen (p := ⟨w.heap.size + 1, o, none⟩) (by first | (simp; done) | (simp; omega) | omega))); (try (have f2 := fun (o : Nat) => hb.frozen (p := ⟨w.heap.size + 1 + 1, o, none⟩) (by first | (simp; done) | (simp; omega) | omega))); (try (have f3 := fun (o : Nat) => hb.frozen (p := ⟨w.heap.size + 1 + 1 + 1, o, none⟩) (by first | (simp; done) | (simp; omega) | omega))); (try (have f4 := fun (o : Nat) => hb.frozen (p := ⟨w.heap.size + 1 + 1 + 1 + 1, o, none⟩) (by first | (simp; done) | (simp; omega) | omega))); (try (have f5 := fun (o : Nat) => hb.frozen (p := ⟨w.heap.size + 1 + 1 + 1 + 1 + 1, o, none⟩) (by first | (simp; done) | (simp; omega) | omega))))))
        go_roundw
        case rel => exact ⟨k + 1, by omega, by go_num, by rw [HT.out], hb0.trans (hb.mono hb0.size)⟩
        case measure => simp [intOf]; omega
      · cases hm2 : mtB k l
        · have HT := Lib.hid (show (linesB (cmB i l) (k + 1)) = linesB (cmB i l) k from linesB_f (by simp [cmB, ← s2.out, hm2]))
          go_wp2_with fail
          refine (l2Meets_any k i hlt hi _).mono ?_
          rintro e w1 ⟨rfl, hb1⟩
          go_wp2_with fail
          refine (l2Meets_any k l hlt hl _).mono ?_
          rintro e w2 ⟨rfl, hb2⟩
          go_wp2_with fail
          go_roundw
          case rel => exact ⟨k + 1, by omega, by go_num, by rw [HT.out], below_step (below_step hb0 hb1) hb2⟩
          case measure => simp [intOf]; omega
        · have HT := Lib.hid (show (linesB (cmB i l) (k + 1)) = linesB (cmB i l) k ++ [(k : Int)] from linesB_t (by simp [cmB, ← s1.out, ← s2.out, hm, hm2]))
          go_wp2_with fail
          refine (l2Meets_any k i hlt hi _).mono ?_
          rintro e w1 ⟨rfl, hb1⟩
          go_wp2_with fail
          refine (l2Meets_any k l hlt hl _).mono ?_
          rintro e w2 ⟨rfl, hb2⟩
          go_wp2_with fail
          go_roundw
          case rel => exact ⟨k + 1, by omega, by go_num, by rw [HT.out, List.length_append]; go_num, below_step (below_step hb0 hb1) hb2⟩
          case measure => simp [intOf]; omega
    · obtain rfl : k = 27 := by omega
      go_wp2_with fail
      go_ret2
      exact ⟨rfl, hb0⟩

theorem iCommon_out (i l : Int) (h : ¬ (inB i 0 26 = true ∧ inB l 0 26 = true ∧ i ≠ l)) (w : World) :
    Calls Try.prog 26 #[.int .i64 i, .int .i64 l] w fun e w' => e = .returned (.tuple #[.int .i64 0, .bool false]) ∧ Below w.heap.size w w' := by
  cases h1 : inB i 0 26
  · clear h
    go_enter Try.func26, Try.ntmps26
    go_wp2_with (go_at_call 58; ((with_reducible refine (isLine_any _ _).mono ?_); rintro e w' ⟨rfl, rfl⟩))
    go_ret2
    exact ⟨rfl, by (repeat (first | (with_reducible exact Below.refl _ _) | (with_reducible refine bl_alloc ?_ ?_ _; focus (first | omega | (simp; done) | (simp; omega))) | (with_reducible refine bl_set ?_ ?_ _; focus (first | omega | (simp; done) | (simp; omega))) | (with_reducible refine Below.drew ?_) | (with_reducible refine below_drewN ?_ _) | (with_reducible refine below_step ?_ (by assumption))))⟩
  · cases h2 : inB l 0 26
    · clear h
      go_enter Try.func26, Try.ntmps26
      go_wp2_with (go_at_call 58; ((with_reducible refine (isLine_any _ _).mono ?_); rintro e w' ⟨rfl, rfl⟩))
      go_ret2
      exact ⟨rfl, by (repeat (first | (with_reducible exact Below.refl _ _) | (with_reducible refine bl_alloc ?_ ?_ _; focus (first | omega | (simp; done) | (simp; omega))) | (with_reducible refine bl_set ?_ ?_ _; focus (first | omega | (simp; done) | (simp; omega))) | (with_reducible refine Below.drew ?_) | (with_reducible refine below_drewN ?_ _) | (with_reducible refine below_step ?_ (by assumption))))⟩
    · obtain rfl : i = l := Decidable.byContradiction fun hn => h ⟨h1, h2, hn⟩
      clear h h2
      go_enter Try.func26, Try.ntmps26
      go_wp2_with (go_at_call 58; ((with_reducible refine (isLine_any _ _).mono ?_); rintro e w' ⟨rfl, rfl⟩))
      go_ret2
      exact ⟨rfl, by (repeat (first | (with_reducible exact Below.refl _ _) | (with_reducible refine bl_alloc ?_ ?_ _; focus (first | omega | (simp; done) | (simp; omega))) | (with_reducible refine bl_set ?_ ?_ _; focus (first | omega | (simp; done) | (simp; omega))) | (with_reducible refine Below.drew ?_) | (with_reducible refine below_drewN ?_ _) | (with_reducible refine below_step ?_ (by assumption))))⟩

theorem sCommon_out (i l : Int) (h : ¬ (inB i 0 26 = true ∧ inB l 0 26 = true ∧ i ≠ l)) (w : World) :
    Calls Try.prog 27 #[.int .i64 i, .int .i64 l] w fun e w' => e = .returned (.tuple #[.int .i64 0, .bool false]) ∧ Below w.heap.size w w' := by
  cases h1 : inB i 0 26
  · clear h
    go_enter Try.func27, Try.ntmps27
    go_wp2_with (go_at_call 52; ((with_reducible refine (l6In_any _ _ _ _).mono ?_); rintro e w' ⟨rfl, rfl⟩))
    go_ret2
    exact ⟨rfl, by (repeat (first | (with_reducible exact Below.refl _ _) | (with_reducible refine bl_alloc ?_ ?_ _; focus (first | omega | (simp; done) | (simp; omega))) | (with_reducible refine bl_set ?_ ?_ _; focus (first | omega | (simp; done) | (simp; omega))) | (with_reducible refine Below.drew ?_) | (with_reducible refine below_drewN ?_ _) | (with_reducible refine below_step ?_ (by assumption))))⟩
  · cases h2 : inB l 0 26
    · clear h
      go_enter Try.func27, Try.ntmps27
      go_wp2_with (go_at_call 52; ((with_reducible refine (l6In_any _ _ _ _).mono ?_); rintro e w' ⟨rfl, rfl⟩))
      go_ret2
      exact ⟨rfl, by (repeat (first | (with_reducible exact Below.refl _ _) | (with_reducible refine bl_alloc ?_ ?_ _; focus (first | omega | (simp; done) | (simp; omega))) | (with_reducible refine bl_set ?_ ?_ _; focus (first | omega | (simp; done) | (simp; omega))) | (with_reducible refine Below.drew ?_) | (with_reducible refine below_drewN ?_ _) | (with_reducible refine below_step ?_ (by assumption))))⟩
    · obtain rfl : i = l := Decidable.byContradiction fun hn => h ⟨h1, h2, hn⟩
      clear h h2
      go_enter Try.func27, Try.ntmps27
      go_wp2_with (go_at_call 52; ((with_reducible refine (l6In_any _ _ _ _).mono ?_); rintro e w' ⟨rfl, rfl⟩))
      go_ret2
      exact ⟨rfl, by (repeat (first | (with_reducible exact Below.refl _ _) | (with_reducible refine bl_alloc ?_ ?_ _; focus (first | omega | (simp; done) | (simp; omega))) | (with_reducible refine bl_set ?_ ?_ _; focus (first | omega | (simp; done) | (simp; omega))) | (with_reducible refine Below.drew ?_) | (with_reducible refine below_drewN ?_ _) | (with_reducible refine below_step ?_ (by assumption))))⟩

end Go.Proofs.Ytogmfadeedmmaaa
