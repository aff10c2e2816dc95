/- LinePlanes of the program: the planes with a line, each in a new row, in a new row of rows. It holds for every line index, in whatever memory. -/
import Derived.Test.YtogmfadeedmmaaaPlS
namespace Go.Proofs.Ytogmfadeedmmaaa
open Go.RowKit
set_option linter.unusedSimpArgs false
set_option linter.unusedVariables false

theorem qi_end {i : Nat} {L : List (List Int)} (e : L = qI i ++ qK i 27) : L = qI (i + 1) := by rw [e, qI_s]
theorem qk_no {i k : Nat} {L : List (List Int)} (e : L = qI i ++ qK i k) (hp : mtB i k = false) : L = qI i ++ qK i (k + 1) := by rw [e, qK_m hp]
theorem qk_lt {i k : Nat} {L : List (List Int)} (e : L = qI i ++ qK i k) (hp : ¬ (k : Int) < thC i k) : L = qI i ++ qK i (k + 1) := by rw [e, qK_f hp]
theorem qk_yes {i k : Nat} {xs : List Sv} {x : Sv} (e : lls xs = qI i ++ qK i k) (h : i < k) (hp : mtB i k = true) (ht : (k : Int) < thC i k) (hx : x.l = [(i : Int), (k : Int), thC i k]) : lls (xs ++ [x]) = qI i ++ qK i (k + 1) := by
  rw [lls_snoc, e, qK_t h hp ht, hx, List.append_assoc]

set_option maxRecDepth 20000 in
set_option maxHeartbeats 16000000 in
theorem planes_any (w : World) :
    Calls Try.prog 71 #[] w (OwnLL w (qI 27)) := by
  obtain ⟨i0, hi0, hz0, hz1, hz2⟩ := info_parts Try.infoS
  go_enter Try.func71, Try.ntmps71
  go_wp2_with fail
  go_loopw [1, 6] (fun v c wr => ∃ (i : Nat) (xs : List Sv), i ≤ 27 ∧ c = .int .i64 i ∧ OwnS wr w.heap.size v xs ∧ lls xs = qI i ∧ xs.length ≤ i * 27 ∧ Below w.heap.size w wr) (fun _ c _ => 27 - (intOf c).toNat)
  case atStart => exact ⟨0, [], by omega, rfl, OwnS.start w, rfl, by simp, by (repeat (first | (with_reducible exact Below.refl _ _) | (with_reducible refine bl_alloc ?_ ?_ _; focus (first | omega | (simp; done) | (simp; omega))) | (with_reducible refine bl_set ?_ ?_ _; focus (first | omega | (simp; done) | (simp; omega))) | (with_reducible refine Below.drew ?_) | (with_reducible refine below_drewN ?_ _) | (with_reducible refine below_step ?_ (by assumption))))⟩
  case round =>
    obtain ⟨i, xs, hi, rfl, hown, hll, hlen, hb0⟩ := hrel
    by_cases hlt : i < 27
    · have hdi : decide ((i : Int) < 27) = true := by simp; omega
      have H0 := Lib.hid hown
      have HL := Lib.hid hll
      clear hown hll
      go_wp2_with fail
      go_loopw [1, 3] (fun v c wr => ∃ (k : Nat) (xs : List Sv), i < k ∧ k ≤ 27 ∧ c = .int .i64 k ∧ OwnS wr w.heap.size v xs ∧ lls xs = qI i ++ qK i k ∧ xs.length ≤ i * 27 + k ∧ Below w.heap.size w wr) (fun _ c _ => 27 - (intOf c).toNat)
      case atStart => exact ⟨i + 1, xs, by omega, by omega, by go_num, H0.out, by rw [qK_0, List.append_nil]; exact HL.out, by omega, hb0⟩
      case round =>
        clear hb0 H0 HL hlen
        obtain ⟨k, xs, hik, hk, rfl, hown, hll, hlen, hb0⟩ := hrel
        by_cases hltk : k < 27
        · have hdk : decide ((k : Int) < 27) = true := by simp; omega
          have H0 := Lib.hid hown
          have HL := Lib.hid hll
          have HB := Lib.hid hb0
          clear hown hll hb0
          cases hm : mtB i k
          · have HM := Lib.hid hm
            go_wp2_with (first | (go_at_call 62; ((with_reducible refine (meets_any _ _ (by assumption) (by assumption) _).mono ?_); rintro e w' ⟨rfl, hb⟩; replace H0 := Lib.hid (H0.out.below hb); replace HB := Lib.hid (below_step HB.out hb); clear hb)) | fail)
            go_roundw
            case rel => (first | (exact ⟨k + 1, xs, by omega, by omega, by go_num, H0.out, qk_no HL.out HM.out, by (first | omega | (simp; omega)), HB.out⟩) | ((repeat apply Exists.intro); (refine ⟨?_, rfl⟩); exact ⟨k + 1, xs, by omega, by omega, by go_num, H0.out, qk_no HL.out HM.out, by (first | omega | (simp; omega)), HB.out⟩))
            case measure => ((simp [intOf]) <;> omega)
          · have HM := Lib.hid hm
            by_cases ht : (k : Int) < thC i k
            · have HT := Lib.hid ht
              have K := Lib.hid (fun W => third_any i k hlt hltk W)
              have HY := Lib.hid (fun (xs : List Sv) (x : Sv) (e : lls xs = qI i ++ qK i k) (hx : x.l = [(i : Int), (k : Int), thC i k]) => qk_yes e hik HM.out HT.out hx)
              have hdt : decide ((k : Int) < thC i k) = true := decide_eq_true ht
              generalize thC i k = t at K HY hdt ht
              clear ht
              go_wp2_with (first | (go_at_call 62; ((with_reducible refine (meets_any _ _ (by assumption) (by assumption) _).mono ?_); rintro e w' ⟨rfl, hb⟩; replace H0 := Lib.hid (H0.out.below hb); replace HB := Lib.hid (below_step HB.out hb); clear hb)) | (go_at_call 73; ((with_reducible refine (K.out _).mono ?_); rintro e w' ⟨rfl, hb⟩; replace H0 := Lib.hid (H0.out.below hb); replace HB := Lib.hid (below_step HB.out hb); clear hb)) | (at_builtin; refine wpList_append_own _ rfl _ _ 45 rfl w.heap.size 38 i0 (.slice none 0 0) 1 24 Try.underlying45 hi0 hz0 hz1 hz2 rfl (by decide) _ _ _ rfl ((H0.out.alloc _).alloc _).1 ⟨_, 0, none⟩ 1 1 [_] rfl rfl (new_two _ _ _ _) one_of_slice (by unfold maxLen; omega) (by omega) ?_ ?_) | fail)
              · have hz := HB.out.size
                simp
                omega
              · intro v' w1 ho hg hn
                have HB1 := Lib.hid (below_push HB.out H0.out HB.out.size _ _ hg)
                have H1 := Lib.hid (push3 H0.out HB.out.size _ ho hg hn)
                clear hn hg ho
                go_wp2_with fail
                go_roundw
                case rel => (first | (exact ⟨k + 1, (xs ++ [⟨_, 3, [(i : Int), (k : Int), t]⟩]), by omega, by omega, by go_num, H1.out, HY.out _ _ HL.out rfl, by (first | omega | (simp; omega)), HB1.out⟩) | ((repeat apply Exists.intro); (refine ⟨?_, rfl⟩); exact ⟨k + 1, (xs ++ [⟨_, 3, [(i : Int), (k : Int), t]⟩]), by omega, by omega, by go_num, H1.out, HY.out _ _ HL.out rfl, by (first | omega | (simp; omega)), HB1.out⟩))
                case measure => ((simp [intOf]) <;> omega)
            · have HT := Lib.hid ht
              have K := Lib.hid (fun W => third_any i k hlt hltk W)
              have hdt : decide ((k : Int) < thC i k) = false := decide_eq_false ht
              generalize thC i k = t at K hdt ht
              clear ht
              go_wp2_with (first | (go_at_call 62; ((with_reducible refine (meets_any _ _ (by assumption) (by assumption) _).mono ?_); rintro e w' ⟨rfl, hb⟩; replace H0 := Lib.hid (H0.out.below hb); replace HB := Lib.hid (below_step HB.out hb); clear hb)) | (go_at_call 73; ((with_reducible refine (K.out _).mono ?_); rintro e w' ⟨rfl, hb⟩; replace H0 := Lib.hid (H0.out.below hb); replace HB := Lib.hid (below_step HB.out hb); clear hb)) | fail)
              go_roundw
              case rel => exact ⟨k + 1, xs, by omega, by omega, by go_num, H0.out, qk_lt HL.out (by have := HT.out; omega), by (first | omega | (simp; omega)), HB.out⟩
              case measure => ((simp [intOf]) <;> omega)
        · obtain rfl : k = 27 := by omega
          have H0 := Lib.hid hown
          have HL := Lib.hid (qi_end hll)
          clear hown hll
          go_wp2_with fail
          go_roundw
          case rel => (first | (exact ⟨i + 1, xs, by omega, by go_num, H0.out, HL.out, by (first | omega | (simp; omega)), hb0⟩) | ((repeat apply Exists.intro); (refine ⟨?_, rfl⟩); exact ⟨i + 1, xs, by omega, by go_num, H0.out, HL.out, by (first | omega | (simp; omega)), hb0⟩))
          case measure => ((simp [intOf]) <;> omega)
    · obtain rfl : i = 27 := by omega
      obtain ⟨g, cap, rfl, hg, hrs, hea⟩ := hown.row
      go_wp2_with fail
      go_ret
      exact ⟨_, _, xs, rfl, hll, hg, hrs, hea, hb0⟩

end Go.Proofs.Ytogmfadeedmmaaa
