/- The lists of lines for which something is so, as numbers; an owned row behind calls that only make new blocks. No condition. -/
import Derived.Test.YtogmfadeedmmaaaLineMeets
import Derived.Test.YtogmfadeedmmaaaSlices
import Derived.Deep.DeepCutAuto
import Derived.Deep.RegionHeld3
namespace Go.Proofs.Ytogmfadeedmmaaa
open Go.RowKit
set_option linter.unusedSimpArgs false
set_option linter.unusedVariables false

def linesB (p : Nat → Bool) (k : Nat) : List Int := ((List.range k).filter p).map (fun n : Nat => (n : Int))

theorem linesB_t {p : Nat → Bool} {k : Nat} (h : p k = true) : linesB p (k + 1) = linesB p k ++ [(k : Int)] := by
  simp [linesB, List.range_succ, List.filter_append, h]
theorem linesB_f {p : Nat → Bool} {k : Nat} (h : p k = false) : linesB p (k + 1) = linesB p k := by
  simp [linesB, List.range_succ, List.filter_append, h]
theorem linesB_len (p : Nat → Bool) (k : Nat) : (linesB p k).length ≤ k := by
  have := List.length_filter_le p (List.range k)
  simpa [linesB] using this
theorem iv_snoc (l : List Int) (k : Int) : ivs (l ++ [k]) = ivs l ++ [.int .i64 k] := by simp [ivs]

theorem owns_below {w w' : World} {base : Nat} {e : TypeId} {size : Nat} {v : Value} {n : Nat} {xs : List Value} (h : w.ownsRow base e size v n xs) (hb : Below w.heap.size w w') : w'.ownsRow base e size v n xs :=
  h.kept (row := none) ⟨hb.os, hb.tape, hb.output, hb.size, fun k hk _ => hb.block k hk⟩ (by cases v.ownBlock <;> simp)

/-- An append to what the call owns. -/
theorem below_own {B : Nat} {a w w' : World} {base : Nat} {e : TypeId} {size : Nat} {v : Value} {n : Nat} {xs : List Value} (h : Below B a w) (ho : w.ownsRow base e size v n xs) (hg : w.grownBy w' v.ownBlock) (hB : B ≤ base) (hBw : B ≤ w.heap.size) : Below B a w' :=
  h.grown hg hBw (fun k hk => Nat.le_trans hB (ho.lt k hk).1)

theorem new_one (w : World) (v : Value) (t : TypeId) : ∀ j u, [v][j]? = some u → (w.alloc (.cells #[v] t)).cell? ((⟨w.heap.size, 0, none⟩ : Addr).add j) = some u := by
  intro j u hj
  match j, hj with
  | 0, hj => simp at hj; subst hj; simp [Addr.add]

theorem one_of {k : IntKind} {n : Int} : ∀ u ∈ [Value.int k n], u.oneCell' = true := by
  intro u hu
  simp at hu
  subst hu
  rfl

/-- A list of numbers in a new row. -/
def OwnL (w : World) (l : List Int) (e : Ending) (w' : World) : Prop := ∃ g cap, e = .returned (.slice (some ⟨g, 0, none⟩) l.length cap) ∧ w.heap.size ≤ g ∧ Row w' g l ∧ Below w.heap.size w w'
def OwnT (w : World) (l : List Int) (e : Ending) (w' : World) : Prop := ∃ g cap, e = .returned (.tuple #[.slice (some ⟨g, 0, none⟩) l.length cap, .bool true]) ∧ w.heap.size ≤ g ∧ Row w' g l ∧ Below w.heap.size w w'

theorem owns_empty (w : World) (t : TypeId) : (w.alloc (.cells #[] t)).ownsRow w.heap.size t 1 (.slice (some ⟨w.heap.size, 0, none⟩) 0 0) 0 [] :=
  World.ownsRow_made w #[] 0 (Nat.le_refl _) (by unfold maxLen; omega) rfl

theorem owns_app {w0 w' : World} {v' : Value} {l : List Int} {k : Int} (ho : w'.ownsRow w0.heap.size 3 1 v' (l.length + 1) (ivs l ++ [.int .i64 k])) :
    w'.ownsRow w0.heap.size 3 1 v' (l ++ [k]).length (ivs (l ++ [k])) := by
  rw [iv_snoc, List.length_append]
  exact ho

set_option maxHeartbeats 1000000 in
theorem sMeeting_in (i : Nat) (hi : i < 27) (w : World) :
    Calls Try.prog 30 #[.int .i64 (i : Int)] w (OwnT w (linesB (mtB i) 27)) := by
  have h1 := in27 i hi
  obtain ⟨i0, hi0, hz0, hz1, hz2⟩ := info_parts Try.info3
  go_enter Try.func30, Try.ntmps30
  go_wp2_with (go_at_call 52; ((with_reducible refine (l6In_any _ _ _ _).mono ?_); rintro e w' ⟨rfl, rfl⟩))
  go_loopw [4, 5] (fun v c wr => ∃ k : Nat, k ≤ 27 ∧ c = .int .i64 k ∧ wr.ownsRow w.heap.size 3 1 v (linesB (mtB i) k).length (ivs (linesB (mtB i) k)) ∧ Below w.heap.size w wr ∧ v ≠ .slice none 0 0) (fun _ c _ => 27 - (intOf c).toNat)
  case atStart => exact ⟨0, by omega, rfl, owns_empty _ _, by (repeat (first | (with_reducible exact Below.refl _ _) | (with_reducible refine bl_alloc ?_ ?_ _; focus (first | omega | (simp; done) | (simp; omega))) | (with_reducible refine bl_set ?_ ?_ _; focus (first | omega | (simp; done) | (simp; omega))) | (with_reducible refine Below.drew ?_) | (with_reducible refine below_drewN ?_ _) | (with_reducible refine below_step ?_ (by assumption)))), by simp⟩
  case round =>
    obtain ⟨k, hk, rfl, hown, hb0, hv⟩ := hrel
    have HV := Lib.hid hv
    clear hv
    by_cases hlt : k < 27
    · have hln := linesB_len (mtB i) k
      have hszr := hb0.size
      cases hm : mtB i k
      · go_wp2_with (go_at_call 63; ((with_reducible refine (l2Meets_any _ _ hi hlt _).mono ?_); rintro e w' ⟨rfl, hb⟩; have hbz := hb.size; (try simp only [World.size_alloc, World.size_drew, World.size_setCell] at hbz); (try (have k0 := fun (o : Nat) => hb.cell (p := ⟨w.heap.size, o, none⟩) (by first | (simp; done) | (simp; omega) | omega))); (try (have k1 := fun (o : Nat) => hb.cell (p := ⟨w.heap.size + 1, o, none⟩) (by first | (simp; done) | (simp; omega) | omega))); (try (have k2 := fun (o : Nat) => hb.cell (p := ⟨w.heap.size + 1 + 1, o, none⟩) (by first | (simp; done) | (simp; omega) | omega))); (try (have k3 := fun (o : Nat) => hb.cell (p := ⟨w.heap.size + 1 + 1 + 1, o, none⟩) (by first | (simp; done) | (simp; omega) | omega))); (try (have k4 := fun (o : Nat) => hb.cell (p := ⟨w.heap.size + 1 + 1 + 1 + 1, o, none⟩) (by first | (simp; done) | (simp; omega) | omega))); (try (have k5 := fun (o : Nat) => hb.cell (p := ⟨w.heap.size + 1 + 1 + 1 + 1 + 1, o, none⟩) (by first | (simp; done) | (simp; omega) | omega))); (try (have f0 := fun (o : Nat) => hb.frozen (p := ⟨w.heap.size, o, none⟩) (by first | (simp; done) | (simp; omega) | omega))); (try (have f1 := fun (o : Nat) => hb.frozen (p := ⟨w.heap.size + 1, o, none⟩) (by first | (simp; done) | (simp; omega) | omega))); (try (have f2 := fun (o : Nat) => hb.frozen (p := ⟨w.heap.size + 1 + 1, o, none⟩) (by first | (simp; done) | (simp; omega) | omega))); (try (have f3 := fun (o : Nat) => hb.frozen (p := ⟨w.heap.size + 1 + 1 + 1, o, none⟩) (by first | (simp; done) | (simp; omega) | omega))); (try (have f4 := fun (o : Nat) => hb.frozen (p := ⟨w.heap.size + 1 + 1 + 1 + 1, o, none⟩) (by first | (simp; done) | (simp; omega) | omega))); (try (have f5 := fun (o : Nat) => hb.frozen (p := ⟨w.heap.size + 1 + 1 + 1 + 1 + 1, o, none⟩) (by first | (simp; done) | (simp; omega) | omega)))))
        go_roundw
        case rel => exact ⟨k + 1, by omega, by go_num, by rw [linesB_f hm]; exact owns_below hown hb, hb0.trans (hb.mono hb0.size), HV.out⟩
        case measure => simp [intOf]; omega
      · go_wp2_with (first | (go_at_call 63; ((with_reducible refine (l2Meets_any _ _ hi hlt _).mono ?_); rintro e w' ⟨rfl, hb⟩; have hbz := hb.size; (try simp only [World.size_alloc, World.size_drew, World.size_setCell] at hbz); (try (have k0 := fun (o : Nat) => hb.cell (p := ⟨w.heap.size, o, none⟩) (by first | (simp; done) | (simp; omega) | omega))); (try (have k1 := fun (o : Nat) => hb.cell (p := ⟨w.heap.size + 1, o, none⟩) (by first | (simp; done) | (simp; omega) | omega))); (try (have k2 := fun (o : Nat) => hb.cell (p := ⟨w.heap.size + 1 + 1, o, none⟩) (by first | (simp; done) | (simp; omega) | omega))); (try (have k3 := fun (o : Nat) => hb.cell (p := ⟨w.heap.size + 1 + 1 + 1, o, none⟩) (by first | (simp; done) | (simp; omega) | omega))); (try (have k4 := fun (o : Nat) => hb.cell (p := ⟨w.heap.size + 1 + 1 + 1 + 1, o, none⟩) (by first | (simp; done) | (simp; omega) | omega))); (try (have k5 := fun (o : Nat) => hb.cell (p := ⟨w.heap.size + 1 + 1 + 1 + 1 + 1, o, none⟩) (by first | (simp; done) | (simp; omega) | omega))); (try (have f0 := fun (o : Nat) => hb.frozen (p := ⟨w.heap.size, o, none⟩) (by first | (simp; done) | (simp; omega) | omega))); (try (have f1 := fun (o : Nat) => hb.frozen (p := ⟨w.heap.size + 1, o, none⟩) (by first | (simp; done) | (simp; omega) | omega))); (try (have f2 := fun (o : Nat) => hb.frozen (p := ⟨w.heap.size + 1 + 1, o, none⟩) (by first | (simp; done) | (simp; omega) | omega))); (try (have f3 := fun (o : Nat) => hb.frozen (p := ⟨w.heap.size + 1 + 1 + 1, o, none⟩) (by first | (simp; done) | (simp; omega) | omega))); (try (have f4 := fun (o : Nat) => hb.frozen (p := ⟨w.heap.size + 1 + 1 + 1 + 1, o, none⟩) (by first | (simp; done) | (simp; omega) | omega))); (try (have f5 := fun (o : Nat) => hb.frozen (p := ⟨w.heap.size + 1 + 1 + 1 + 1 + 1, o, none⟩) (by first | (simp; done) | (simp; omega) | omega))))) | (at_builtin; refine wpList_append_own _ rfl _ _ 38 rfl w.heap.size 3 i0 (.int .i64 0) 1 8 Try.underlying38 hi0 hz0 hz1 hz2 rfl (by decide) _ _ _ rfl ((owns_below hown hb).alloc _) ⟨_, 0, none⟩ 1 1 [.int .i64 (k : Int)] rfl rfl (new_one _ _ _) one_of (by unfold maxLen; omega) (by omega) ?_ ?_))
        · simp
          omega
        · intro v' w1 ho hg hn
          have hb1 := below_own (B := w.heap.size) (a := w) (by exact (hb0.trans (hb.mono hb0.size)).alloc (by omega) _) ((owns_below hown hb).alloc _) hg (Nat.le_refl _) (by simp; omega)
          have HN := Lib.hid hn
          clear hn hg hown
          go_wp2_with fail
          go_roundw
          case rel => exact ⟨k + 1, by omega, by go_num, by rw [linesB_t hm]; exact owns_app ho, hb1, fun h => by have hnn := HN.out; have hvv := HV.out; simp_all⟩
          case measure => simp [intOf]; omega
    · obtain rfl : k = 27 := by omega
      obtain ⟨g, cap, hg1, hg2, hg3⟩ := Row.of_owns hown HV.out
      subst hg1
      go_wp2_with fail
      go_ret2
      exact ⟨_, _, rfl, hg2, hg3, hb0⟩

end Go.Proofs.Ytogmfadeedmmaaa
