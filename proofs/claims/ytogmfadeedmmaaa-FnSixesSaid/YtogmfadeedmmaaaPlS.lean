/- LinePlanes of the reference: the planes with a line, each in a new row, in a new row of rows. It holds for every line index, in whatever memory. -/
import Derived.Test.YtogmfadeedmmaaaPln
import Derived.Test.YtogmfadeedmmaaaRR
namespace Go.Proofs.Ytogmfadeedmmaaa
open Go.RowKit
set_option linter.unusedSimpArgs false
set_option linter.unusedVariables false

theorem OwnS.alloc {w : World} {B : Nat} {v : Value} {xs : List Sv} (h : OwnS w B v xs) (o : Obj) : OwnS (w.alloc o) B v xs := h.below ((Below.refl _ _).alloc (Nat.le_refl _) o)
theorem push3 {W w1 : World} {B : Nat} {v v' : Value} {xs : List Sv} {a b c : Int} (h : OwnS W B v xs) (hB : B ≤ W.heap.size) (o : Obj)
    (ho : w1.ownsRow B 38 1 v' (xs.length + 1) (svs xs ++ [.slice (some ⟨W.heap.size, 0, none⟩) 3 3])) (hg : ((W.alloc (.cells #[.int .i64 a, .int .i64 b, .int .i64 c] 3)).alloc o).grownBy w1 v.ownBlock) (hn : ¬ v' = .slice none 0 0) :
    OwnS w1 B v' (xs ++ [⟨W.heap.size, 3, [a, b, c]⟩]) :=
  ((h.alloc _).alloc _).push ⟨W.heap.size, 3, [a, b, c]⟩ hB ((row3 W a b c).below ((Below.refl _ _).alloc (Nat.le_refl _) o)) (fun y hy => h.2.1.lt y hy) ho hg hn
theorem new_two (W : World) (o : Obj) (v : Value) (t : TypeId) : ∀ j u, [v][j]? = some u → ((W.alloc o).alloc (.cells #[v] t)).cell? ((⟨W.heap.size + 1, 0, none⟩ : Addr).add j) = some u := by
  have h := new_one (W.alloc o) v t
  rw [World.size_alloc] at h
  exact h
theorem below_push {B : Nat} {a w w' : World} {v : Value} {xs : List Sv} (hb : Below B a w) (h : OwnS w B v xs) (hB : B ≤ w.heap.size) (o p : Obj) (hg : ((w.alloc o).alloc p).grownBy w' v.ownBlock) : Below B a w' :=
  below_own ((hb.alloc hB o).alloc (by simp; omega) p) ((h.alloc o).alloc p).1 hg (Nat.le_refl _) (by simp; omega)
theorem rj_end {p : Nat → Nat → Nat → Bool} {i j : Nat} (h : i < j) {L : List (List Int)} (e : L = rI p i ++ rJ p i j ++ rK p i j 27) : L = rI p i ++ rJ p i (j + 1) := by
  rw [e, rJ_s h, List.append_assoc]
theorem ri_end {p : Nat → Nat → Nat → Bool} {i : Nat} {L : List (List Int)} (e : L = rI p i ++ rJ p i 27) : L = rI p (i + 1) := by
  rw [e, rI_s]
theorem rk_no {p : Nat → Nat → Nat → Bool} {i j k : Nat} {L : List (List Int)} (e : L = rI p i ++ rJ p i j ++ rK p i j k) (hp : p i j k = false) : L = rI p i ++ rJ p i j ++ rK p i j (k + 1) := by
  rw [e, rK_f hp]
theorem rk_yes {p : Nat → Nat → Nat → Bool} {i j k : Nat} {xs : List Sv} {x : Sv} (e : lls xs = rI p i ++ rJ p i j ++ rK p i j k) (h : j < k) (hp : p i j k = true) (hx : x.l = [(i : Int), (j : Int), (k : Int)]) : lls (xs ++ [x]) = rI p i ++ rJ p i j ++ rK p i j (k + 1) := by
  rw [lls_snoc, e, rK_t h hp, hx, List.append_assoc]

theorem has_cases (n : Int) (i j k : Nat) (hij : i < j) (hjk : j < k) : (hasB n i j k = false ∧ decide (n < 0) = false ∧ (n == (i : Int)) = false ∧ (n == (j : Int)) = false ∧ (n == (k : Int)) = false) ∨
    (hasB n i j k = true ∧ (decide (n < 0) = true ∨ (decide (n < 0) = false ∧ (n == (i : Int)) = true) ∨ (decide (n < 0) = false ∧ (n == (i : Int)) = false ∧ (n == (j : Int)) = true) ∨ (decide (n < 0) = false ∧ (n == (i : Int)) = false ∧ (n == (j : Int)) = false ∧ (n == (k : Int)) = true))) := by
  by_cases h0 : n < 0
  · exact .inr ⟨by simp [hasB, h0], .inl (by simp [h0])⟩
  by_cases h1 : n = i
  · exact .inr ⟨by simp [hasB, h1], .inr (.inl ⟨by simp [h0], by simp [h1]⟩)⟩
  by_cases h2 : n = j
  · exact .inr ⟨by simp [hasB, h2], .inr (.inr (.inl ⟨by simp [h0], by simpa using h1, by simp [h2]⟩))⟩
  by_cases h3 : n = k
  · exact .inr ⟨by simp [hasB, h3], .inr (.inr (.inr ⟨by simp [h0], by simpa using h1, by simpa using h2, by simp [h3]⟩))⟩
  exact .inl ⟨by simp [hasB, h0, h1, h2, h3], by simp [h0], by simpa using h1, by simpa using h2, by simpa using h3⟩

theorem sPlanes_out (n : Int) (hn : inB n (-1) 26 = false) (w : World) :
    Calls Try.prog 38 #[.int .i64 n] w fun e w' => (∃ g, e = .returned (.tuple #[.slice (some ⟨g, 0, none⟩) 0 0, .bool false])) ∧ Below w.heap.size w w' := by
  go_enter Try.func38, Try.ntmps38
  go_wp2_with (first | (go_at_call 52; ((with_reducible refine (l6In_any _ _ _ _).mono ?_); rintro e w' ⟨rfl, rfl⟩)))
  go_ret2
  exact ⟨⟨_, rfl⟩, by (repeat (first | (with_reducible exact Below.refl _ _) | (with_reducible refine bl_alloc ?_ ?_ _; focus (first | omega | (simp; done) | (simp; omega))) | (with_reducible refine bl_set ?_ ?_ _; focus (first | omega | (simp; done) | (simp; omega))) | (with_reducible refine Below.drew ?_) | (with_reducible refine below_drewN ?_ _) | (with_reducible refine below_step ?_ (by assumption))))⟩

set_option maxRecDepth 20000 in
set_option maxHeartbeats 16000000 in
theorem sPlanes_in (n : Int) (hn : inB n (-1) 26 = true) (w : World) :
    Calls Try.prog 38 #[.int .i64 n] w (OwnLT w (rI (hm3 n) 27)) := by
  have HN := Lib.hid hn
  obtain ⟨i0, hi0, hz0, hz1, hz2⟩ := info_parts Try.infoS
  go_enter Try.func38, Try.ntmps38
  go_wp2_with (first | (go_at_call 52; ((with_reducible refine (l6In_any _ _ _ _).mono ?_); rintro e w' ⟨rfl, rfl⟩)))
  clear hn
  go_loopw [4, 5] (fun v c wr => ∃ (i : Nat) (xs : List Sv), i ≤ 27 ∧ c = .int .i64 i ∧ OwnS wr w.heap.size v xs ∧ lls xs = rI (hm3 n) i ∧ xs.length ≤ i * 729 ∧ Below w.heap.size w wr) (fun _ c _ => 27 - (intOf c).toNat)
  case atStart => exact ⟨0, [], by omega, rfl, OwnS.start w, rfl, by simp, by (repeat (first | (with_reducible exact Below.refl _ _) | (with_reducible refine bl_alloc ?_ ?_ _; focus (first | omega | (simp; done) | (simp; omega))) | (with_reducible refine bl_set ?_ ?_ _; focus (first | omega | (simp; done) | (simp; omega))) | (with_reducible refine Below.drew ?_) | (with_reducible refine below_drewN ?_ _) | (with_reducible refine below_step ?_ (by assumption))))⟩
  case round =>
    obtain ⟨i, xs, hi, rfl, hown, hll, hlen, hb0⟩ := hrel
    by_cases hlt : i < 27
    · have hdi : decide ((i : Int) < 27) = true := by simp; omega
      have H0 := Lib.hid hown
      have HL := Lib.hid hll
      clear hown hll
      go_wp2_with fail
      go_loopw [4, 6] (fun v c wr => ∃ (j : Nat) (xs : List Sv), i < j ∧ j ≤ 27 ∧ c = .int .i64 j ∧ OwnS wr w.heap.size v xs ∧ lls xs = rI (hm3 n) i ++ rJ (hm3 n) i j ∧ xs.length ≤ i * 729 + j * 27 ∧ Below w.heap.size w wr) (fun _ c _ => 27 - (intOf c).toNat)
      case atStart => exact ⟨i + 1, xs, by omega, by omega, by go_num, H0.out, by rw [rJ_0, List.append_nil]; exact HL.out, by omega, hb0⟩
      case round =>
        clear hb0 H0 HL hlen
        obtain ⟨j, xs, hij, hj, rfl, hown, hll, hlen, hb0⟩ := hrel
        by_cases hltj : j < 27
        · have hdj : decide ((j : Int) < 27) = true := by simp; omega
          have H0 := Lib.hid hown
          have HL := Lib.hid hll
          clear hown hll
          go_wp2_with fail
          go_loopw [4, 7] (fun v c wr => ∃ (k : Nat) (xs : List Sv), j < k ∧ k ≤ 27 ∧ c = .int .i64 k ∧ OwnS wr w.heap.size v xs ∧ lls xs = rI (hm3 n) i ++ rJ (hm3 n) i j ++ rK (hm3 n) i j k ∧ xs.length ≤ i * 729 + j * 27 + k ∧ Below w.heap.size w wr) (fun _ c _ => 27 - (intOf c).toNat)
          case atStart => exact ⟨j + 1, xs, by omega, by omega, by go_num, H0.out, by rw [rK_0, List.append_nil]; exact HL.out, by omega, hb0⟩
          case round =>
            clear hb0 H0 HL hlen
            obtain ⟨k, xs, hjk, hk, rfl, hown, hll, hlen, hb0⟩ := hrel
            by_cases hltk : k < 27
            · have hdk : decide ((k : Int) < 27) = true := by simp; omega
              have H0 := Lib.hid hown
              have HL := Lib.hid hll
              have HB := Lib.hid hb0
              clear hown hll hb0
              have hc := has_cases n i j k hij hjk
              rcases hc with ⟨hf, d0, e1, e2, e3⟩ | ⟨ht, hc⟩
              · have HF := Lib.hid (show hm3 n i j k = false by rw [hm3, hf, Bool.false_and])
                clear hf
                go_wp2_with fail
                go_roundw
                case rel => (first | (exact ⟨k + 1, xs, by omega, by omega, by go_num, H0.out, rk_no HL.out HF.out, by (first | omega | (simp; omega)), HB.out⟩) | ((repeat apply Exists.intro); (refine ⟨?_, rfl⟩); exact ⟨k + 1, xs, by omega, by omega, by go_num, H0.out, rk_no HL.out HF.out, by (first | omega | (simp; omega)), HB.out⟩))
                case measure => ((simp [intOf]) <;> omega)
              · have HH := Lib.hid ht
                clear ht
                cases hm1 : mtB i j
                · have HF := Lib.hid (show hm3 n i j k = false by simp only [hm3, mt3, hm1, Bool.false_and, Bool.and_false])
                  rcases hc with d0 | ⟨d0, e1⟩ | ⟨d0, e1, e2⟩ | ⟨d0, e1, e2, e3⟩
                  all_goals as_aux_lemma =>
                    go_wp2_with (first | (go_at_call 63; ((with_reducible refine (l2Meets_any _ _ (by assumption) (by assumption) _).mono ?_); rintro e w' ⟨rfl, hb⟩; replace H0 := Lib.hid (H0.out.below hb); replace HB := Lib.hid (below_step HB.out hb); clear hb)) | fail)
                    go_roundw
                    case rel => (first | (exact ⟨k + 1, xs, by omega, by omega, by go_num, H0.out, rk_no HL.out HF.out, by (first | omega | (simp; omega)), HB.out⟩) | ((repeat apply Exists.intro); (refine ⟨?_, rfl⟩); exact ⟨k + 1, xs, by omega, by omega, by go_num, H0.out, rk_no HL.out HF.out, by (first | omega | (simp; omega)), HB.out⟩))
                    case measure => ((simp [intOf]) <;> omega)
                · cases hm2 : mtB i k
                  · have HF := Lib.hid (show hm3 n i j k = false by simp only [hm3, mt3, hm1, hm2, Bool.false_and, Bool.and_false, Bool.true_and])
                    rcases hc with d0 | ⟨d0, e1⟩ | ⟨d0, e1, e2⟩ | ⟨d0, e1, e2, e3⟩
                    all_goals as_aux_lemma =>
                      go_wp2_with (first | (go_at_call 63; ((with_reducible refine (l2Meets_any _ _ (by assumption) (by assumption) _).mono ?_); rintro e w' ⟨rfl, hb⟩; replace H0 := Lib.hid (H0.out.below hb); replace HB := Lib.hid (below_step HB.out hb); clear hb)) | fail)
                      go_roundw
                      case rel => (first | (exact ⟨k + 1, xs, by omega, by omega, by go_num, H0.out, rk_no HL.out HF.out, by (first | omega | (simp; omega)), HB.out⟩) | ((repeat apply Exists.intro); (refine ⟨?_, rfl⟩); exact ⟨k + 1, xs, by omega, by omega, by go_num, H0.out, rk_no HL.out HF.out, by (first | omega | (simp; omega)), HB.out⟩))
                      case measure => ((simp [intOf]) <;> omega)
                  · cases hm4 : mtB j k
                    · have HF := Lib.hid (show hm3 n i j k = false by simp only [hm3, mt3, hm1, hm2, hm4, Bool.false_and, Bool.and_false, Bool.true_and])
                      rcases hc with d0 | ⟨d0, e1⟩ | ⟨d0, e1, e2⟩ | ⟨d0, e1, e2, e3⟩
                      all_goals as_aux_lemma =>
                        go_wp2_with (first | (go_at_call 63; ((with_reducible refine (l2Meets_any _ _ (by assumption) (by assumption) _).mono ?_); rintro e w' ⟨rfl, hb⟩; replace H0 := Lib.hid (H0.out.below hb); replace HB := Lib.hid (below_step HB.out hb); clear hb)) | fail)
                        go_roundw
                        case rel => (first | (exact ⟨k + 1, xs, by omega, by omega, by go_num, H0.out, rk_no HL.out HF.out, by (first | omega | (simp; omega)), HB.out⟩) | ((repeat apply Exists.intro); (refine ⟨?_, rfl⟩); exact ⟨k + 1, xs, by omega, by omega, by go_num, H0.out, rk_no HL.out HF.out, by (first | omega | (simp; omega)), HB.out⟩))
                        case measure => ((simp [intOf]) <;> omega)
                    · have HF := Lib.hid (show hm3 n i j k = true by simp only [hm3, HH.out, mt3, hm1, hm2, hm4, Bool.and_self])
                      rcases hc with d0 | ⟨d0, e1⟩ | ⟨d0, e1, e2⟩ | ⟨d0, e1, e2, e3⟩
                      all_goals as_aux_lemma =>
                        go_wp2_with (first | (go_at_call 63; ((with_reducible refine (l2Meets_any _ _ (by assumption) (by assumption) _).mono ?_); rintro e w' ⟨rfl, hb⟩; replace H0 := Lib.hid (H0.out.below hb); replace HB := Lib.hid (below_step HB.out hb); clear hb)) | (at_builtin; refine wpList_append_own _ rfl _ _ 45 rfl w.heap.size 38 i0 (.slice none 0 0) 1 24 Try.underlying45 hi0 hz0 hz1 hz2 rfl (by decide) _ _ _ rfl ((H0.out.alloc _).alloc _).1 ⟨_, 0, none⟩ 1 1 [_] rfl rfl (new_two _ _ _ _) one_of_slice (by unfold maxLen; omega) (by omega) ?_ ?_) | fail)
                        · have hz := HB.out.size
                          simp
                          omega
                        · intro v' w1 ho hg hn
                          have HB1 := Lib.hid (below_push HB.out H0.out HB.out.size _ _ hg)
                          have H1 := Lib.hid (push3 H0.out HB.out.size _ ho hg hn)
                          clear hn hg ho
                          go_wp2_with fail
                          go_roundw
                          case rel => (first | (exact ⟨k + 1, (xs ++ [⟨_, 3, [(i : Int), (j : Int), (k : Int)]⟩]), by omega, by omega, by go_num, H1.out, rk_yes HL.out hjk HF.out rfl, by (first | omega | (simp; omega)), HB1.out⟩) | ((repeat apply Exists.intro); (refine ⟨?_, rfl⟩); exact ⟨k + 1, (xs ++ [⟨_, 3, [(i : Int), (j : Int), (k : Int)]⟩]), by omega, by omega, by go_num, H1.out, rk_yes HL.out hjk HF.out rfl, by (first | omega | (simp; omega)), HB1.out⟩))
                          case measure => ((simp [intOf]) <;> omega)
            · obtain rfl : k = 27 := by omega
              have H0 := Lib.hid hown
              have HL := Lib.hid (rj_end hij hll)
              clear hown hll
              go_wp2_with fail
              go_roundw
              case rel => (first | (exact ⟨j + 1, xs, by omega, by omega, by go_num, H0.out, HL.out, by (first | omega | (simp; omega)), hb0⟩) | ((repeat apply Exists.intro); (refine ⟨?_, rfl⟩); exact ⟨j + 1, xs, by omega, by omega, by go_num, H0.out, HL.out, by (first | omega | (simp; omega)), hb0⟩))
              case measure => ((simp [intOf]) <;> omega)
        · obtain rfl : j = 27 := by omega
          have H0 := Lib.hid hown
          have HL := Lib.hid (ri_end hll)
          clear hown hll
          go_wp2_with fail
          go_roundw
          case rel => (first | (exact ⟨i + 1, xs, by omega, by go_num, H0.out, HL.out, by (first | omega | (simp; omega)), hb0⟩) | ((repeat apply Exists.intro); (refine ⟨?_, rfl⟩); exact ⟨i + 1, xs, by omega, by go_num, H0.out, HL.out, by (first | omega | (simp; omega)), hb0⟩))
          case measure => ((simp [intOf]) <;> omega)
    · obtain rfl : i = 27 := by omega
      obtain ⟨g, cap, rfl, hg, hrs, hea⟩ := hown.row
      go_wp2_with fail
      go_ret2
      exact ⟨_, _, xs, rfl, hll, hg, hrs, hea, hb0⟩

end Go.Proofs.Ytogmfadeedmmaaa
