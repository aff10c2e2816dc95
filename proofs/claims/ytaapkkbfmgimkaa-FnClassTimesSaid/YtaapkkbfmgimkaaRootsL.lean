/- The contract of the reference's list of roots: 72 classes, each the difference of two line classes. It holds in whatever memory. -/
import Derived.Test.YtaapkkbfmgimkaaPut
import Derived.Test.YtaapkkbfmgimkaaLineS
namespace Go.Proofs.Ytaapkkbfmgimkaa
open Go.RowKit
set_option linter.unusedSimpArgs false
set_option linter.unusedVariables false
attribute [local go_sem] idx_0 idx_1 idx_2 idx_3 idx_4 idx_5

theorem cls_ex (x : Cls) : ∃ yd ya yb yc ye yf yg : Int, x = ⟨yd, ya, yb, yc, ye, yf, yg⟩ := by cases x; exact ⟨_, _, _, _, _, _, _, rfl⟩
theorem mem_step {l : List Cls} {j : Nat} (hj : j < l.length) (x : Cls) : (x ∈ l.take (j + 1)) ↔ (x ∈ l.take j ∨ x = l.getD j zeroC) := by
  have e : l.getD j zeroC = l[j] := by simp [List.getD, List.getElem?_eq_getElem hj]
  rw [e, List.take_succ_eq_append_getElem hj, List.mem_append, List.mem_singleton]
theorem eqB_eq' {x y : Cls} (h : eqB x y = true) : x = y := by
  cases x; cases y
  simp only [eqB, eqM, Bool.and_eq_true, beq_iff_eq] at h
  obtain ⟨h0, h1, h2, h3, h4, h5, h6⟩ := h
  simp only [Cls.mk.injEq]
  exact ⟨h0, h1, h2, h3, h4, h5, h6⟩
theorem eqB_ne' {x y : Cls} (h : eqB x y = false) : x ≠ y := by
  intro e
  subst e
  simp [eqB, eqM] at h
theorem dec_t {p : Prop} [Decidable p] (h : p) : decide p = true := by simp [h]
theorem dec_f {p : Prop} [Decidable p] (h : ¬ p) : decide p = false := by simp [h]

set_option maxHeartbeats 4000000 in
theorem l3Roots_any (w : World) :
    Calls Try.prog 50 #[] w (OwnC w (allS 27)) := by
  go_enter Try.func50, Try.ntmps50
  go_wp2_with fail
  go_loopw [1, 2] (fun v c wr => ∃ (i g cap : Nat) (l : List Cls), i ≤ 27 ∧ c = .int .i64 i ∧ v = .slice (some ⟨g, 0, none⟩) l.length cap ∧ l.Perm (allS i) ∧ l.length ≤ cap ∧ cap ≤ maxLen ∧ CRow wr g l ∧ Below w.heap.size w wr) (fun _ c _ => 27 - (intOf c).toNat)
  case atStart => exact ⟨0, w.heap.size, 0, [], by omega, rfl, rfl, List.Perm.refl _, by simp, by unfold maxLen; omega, ⟨#[], alloc_at _ _ _ rfl, rfl⟩, by (repeat (first | (with_reducible exact Below.refl _ _) | (with_reducible refine bl_alloc ?_ ?_ _; focus (first | omega | (simp; done) | (simp; omega))) | (with_reducible refine bl_set ?_ ?_ _; focus (first | omega | (simp; done) | (simp; omega))) | (with_reducible refine Below.drew ?_) | (with_reducible refine below_drewN ?_ _) | (with_reducible refine below_step ?_ (by assumption))))⟩
  case round =>
    obtain ⟨i, g, cap, l, hi, rfl, rfl, hp, hn, hc, hrow, hb0⟩ := hrel
    by_cases hlt : i < 27
    · have hd9 : decide ((i : Int) < 27) = true := by simp; omega
      go_wp2_with fail
      go_loopw [1, 3] (fun v c wr => ∃ (k g cap : Nat) (l : List Cls), k ≤ 27 ∧ c = .int .i64 k ∧ v = .slice (some ⟨g, 0, none⟩) l.length cap ∧ l.Perm (rowS i (allS i) k) ∧ l.length ≤ cap ∧ cap ≤ maxLen ∧ CRow wr g l ∧ Below w.heap.size w wr) (fun _ c _ => 27 - (intOf c).toNat)
      case atStart => exact ⟨0, g, cap, l, by omega, rfl, rfl, hp, hn, hc, hrow, hb0⟩
      case round =>
        clear hrow hp hn hc hb0
        obtain ⟨k, g, cap, l, hk, rfl, rfl, hp, hn, hc, hrow, hb0⟩ := hrel
        by_cases hlk : k < 27
        · have hd13 : decide ((k : Int) < 27) = true := by simp; omega
          have hll : l.length ≤ 1000 := by
            have h1 := hp.length_eq
            have h2 := rowS_len i (allS i) k
            have h3 := allS_len i
            omega
          obtain ⟨yd, ya, yb, yc, ye, yf, yg, hy⟩ := cls_ex (difC i k)
          have K3 : ∀ W : World, Calls Try.prog 46 #[.agg #[.int .i64 (LC i).d, .int .i64 (LC i).a, .int .i64 (LC i).b, .int .i64 (LC i).c, .int .i64 (LC i).e, .int .i64 (LC i).f, .int .i64 (LC i).g], .int .i64 (-1), .agg #[.int .i64 (LC k).d, .int .i64 (LC k).a, .int .i64 (LC k).b, .int .i64 (LC k).c, .int .i64 (LC k).e, .int .i64 (LC k).f, .int .i64 (LC k).g]] W fun e w' => e = .returned (.agg #[.int .i64 yd, .int .i64 ya, .int .i64 yb, .int .i64 yc, .int .i64 ye, .int .i64 yf, .int .i64 yg]) ∧ Below W.heap.size W w' := fun W => by
            have h := l1Sum_any (LC i).d (LC i).a (LC i).b (LC i).c (LC i).e (LC i).f (LC i).g (-1) (LC k).d (LC k).a (LC k).b (LC k).c (LC k).e (LC k).f (LC k).g W
            rw [show sumC ⟨(LC i).d, (LC i).a, (LC i).b, (LC i).c, (LC i).e, (LC i).f, (LC i).g⟩ (-1) ⟨(LC k).d, (LC k).a, (LC k).b, (LC k).c, (LC k).e, (LC k).f, (LC k).g⟩ = ⟨yd, ya, yb, yc, ye, yf, yg⟩ from hy] at h
            exact h
          have HP := Lib.hid hp
          have HY := Lib.hid hy
          have HK := Lib.hid K3
          clear hp hy K3
          go_wp2_with fail
          refine (l1Of_any i hlt _).mono ?_
          rintro e wa ⟨rfl, hba⟩
          go_wp2_with fail
          refine (l1Of_any k hlk _).mono ?_
          rintro e wb ⟨rfl, hbb⟩
          go_wp2_with fail
          refine (HK.out _).mono ?_
          rintro e wc ⟨rfl, hbc⟩
          have hB0 : Below w.heap.size w wc := below_step (below_step (below_step hb0 hba) hbb) hbc
          have hr0 : CRow wc g l := ((hrow.below hba).below hbb).below hbc
          have hs0 := hB0.size
          clear hba hbb hbc hb0 hrow
          go_wp2_with fail
          refine (l1Product_any yd ya yb yc ye yf yg yd ya yb yc ye yf yg _).mono ?_
          rintro e wd ⟨rfl, hbd⟩
          have hB1 : Below w.heap.size w wd := below_step (hB0.alloc (by omega) _) hbd
          have hr1 : CRow wd g l := (hr0.below ((Below.refl _ _).alloc (Nat.le_refl _) _)).below hbd
          have kb : ∀ o : Nat, wd.cell? ⟨wc.heap.size, o, none⟩ = (#[.int .i64 yd, .int .i64 ya, .int .i64 yb, .int .i64 yc, .int .i64 ye, .int .i64 yf, .int .i64 yg] : Array Value)[o]? := fun o => (hbd.cell (p := ⟨wc.heap.size, o, none⟩) (by simp)).trans (cell_of_row _ _ _ _ _ (0, 0) (alloc_at wc _ _ rfl))
          have hs1 := hbd.size
          rw [World.size_alloc] at hs1
          clear hr0 hB0 hbd
          by_cases hq : prodC ⟨yd, ya, yb, yc, ye, yf, yg⟩ ⟨yd, ya, yb, yc, ye, yf, yg⟩ = -2
          · have hq2 : (prodC ⟨yd, ya, yb, yc, ye, yf, yg⟩ ⟨yd, ya, yb, yc, ye, yf, yg⟩ != -2) = false := by simpa using hq
            have HQ := Lib.hid hq
            clear hq
            go_wp2_with fail
            go_loopw [5, 6] (fun kn c wr => ∃ j : Nat, j ≤ l.length ∧ c = .int .i64 j ∧ kn = .bool (decide (⟨yd, ya, yb, yc, ye, yf, yg⟩ ∈ l.take j)) ∧ Below wd.heap.size wd wr) (fun _ c _ => l.length - (intOf c).toNat)
            case atStart => exact ⟨0, by omega, rfl, by simp, Below.refl _ _⟩
            case round =>
              obtain ⟨j, hj, rfl, rfl, hb2⟩ := hrel
              have hr2 := hr1.below hb2
              have k2 : ∀ o : Nat, wr.cell? ⟨wc.heap.size, o, none⟩ = (#[.int .i64 yd, .int .i64 ya, .int .i64 yb, .int .i64 yc, .int .i64 ye, .int .i64 yf, .int .i64 yg] : Array Value)[o]? := fun o => (hb2.cell (p := ⟨wc.heap.size, o, none⟩) (by show wc.heap.size < wd.heap.size; omega)).trans (kb o)
              have hB2 : Below w.heap.size w wr := below_step hB1 hb2
              by_cases hlj : j < l.length
              · have b1 : (0 : Int) ≤ (j : Int) := by omega
                have b2 : (j : Int) < (l.length : Int) := by omega
                have hm := mem_step hlj ⟨yd, ya, yb, yc, ye, yf, yg⟩
                have c0 := hr2.cell j 0 hlj (by omega)
                have c1 := hr2.cell j 1 hlj (by omega)
                have c2 := hr2.cell j 2 hlj (by omega)
                have c3 := hr2.cell j 3 hlj (by omega)
                have c4 := hr2.cell j 4 hlj (by omega)
                have c5 := hr2.cell j 5 hlj (by omega)
                have c6 := hr2.cell j 6 hlj (by omega)
                generalize l.getD j zeroC = z at c0 c1 c2 c3 c4 c5 c6 hm
                obtain ⟨zd, za, zb, zc, ze, zf, zg⟩ := z
                simp only [cells7, List.getElem?_cons_zero, List.getElem?_cons_succ, Nat.add_zero] at c0 c1 c2 c3 c4 c5 c6
                have he := fun (W : World) => eq_class zd za zb zc ze zf zg yd ya yb yc ye yf yg W
                have HM := Lib.hid hm
                clear hm
                by_cases hmem : ⟨yd, ya, yb, yc, ye, yf, yg⟩ ∈ l.take j
                · have hd1 := dec_t hmem
                  have HE := Lib.hid hmem
                  clear hmem
                  go_wp2_with fail
                  go_quiet (fail)
                  go_wp2_with fail
                  go_roundw
                  case rel => exact ⟨j + 1, by omega, by go_num, congrArg Value.bool (dec_t (HM.out.2 (.inl HE.out))).symm, by first | exact hb2 | exact below_drewN hb2 _ | exact hb2.drew | trace_state⟩
                  case measure => simp [intOf]; omega
                · have hd1 := dec_f hmem
                  have HE := Lib.hid hmem
                  clear hmem
                  cases hzy : eqB ⟨zd, za, zb, zc, ze, zf, zg⟩ ⟨yd, ya, yb, yc, ye, yf, yg⟩
                  · go_wp2_with fail
                    go_quiet (fail)
                    go_wp2_with fail
                    go_roundw
                    case rel => exact ⟨j + 1, by omega, by go_num, congrArg Value.bool (dec_f (fun h => by rcases HM.out.1 h with h | h; exact HE.out h; exact eqB_ne' hzy h.symm)).symm, by first | exact hb2 | exact below_drewN hb2 _ | exact hb2.drew⟩
                    case measure => simp [intOf]; omega
                  · go_wp2_with fail
                    go_quiet (fail)
                    go_wp2_with fail
                    go_roundw
                    case rel => exact ⟨j + 1, by omega, by go_num, congrArg Value.bool (dec_t (HM.out.2 (.inr (eqB_eq' hzy).symm))).symm, by first | exact hb2 | exact below_drewN hb2 _ | exact hb2.drew⟩
                    case measure => simp [intOf]; omega
              · obtain rfl : j = l.length := by omega
                by_cases hmem : ⟨yd, ya, yb, yc, ye, yf, yg⟩ ∈ l.take l.length
                · have hd1 := dec_t hmem
                  have HE := Lib.hid hmem
                  clear hmem
                  rw [hd1]
                  go_wp2_with fail
                  go_roundw
                  case rel =>
                    first
                      | exact ⟨k + 1, g, cap, l, by omega, by go_num, rfl, by (show l.Perm (stepS (rowS i (allS i) k) (difC i k))); rw [HY.out, stepS, if_pos HQ.out, if_pos (HP.out.mem_iff.1 (by have h := HE.out; rwa [List.take_length] at h))]; exact HP.out, hn, hc, hr2, hB2⟩
                      | ((repeat apply Exists.intro); (refine ⟨?_, rfl⟩); exact ⟨k + 1, g, cap, l, by omega, by go_num, rfl, by (show l.Perm (stepS (rowS i (allS i) k) (difC i k))); rw [HY.out, stepS, if_pos HQ.out, if_pos (HP.out.mem_iff.1 (by have h := HE.out; rwa [List.take_length] at h))]; exact HP.out, hn, hc, hr2, hB2⟩)
                  case measure => simp [intOf]; omega
                · have hd1 := dec_f hmem
                  have HE := Lib.hid hmem
                  clear hmem
                  rw [hd1]
                  go_wp2_with fail
                  refine (l3Put_perm g cap l hn hc hll yd ya yb yc ye yf yg _ hr2).mono ?_
                  rintro e wp ⟨g2, cap2, l2, rfl, hp2, hn2, hc2, hrow2, hb3⟩
                  have hB3 := below_step hB2 hb3
                  go_wp2_with fail
                  go_roundw
                  case rel =>
                    first
                      | exact ⟨k + 1, g2, cap2, l2, by omega, by go_num, rfl, by (show l2.Perm (stepS (rowS i (allS i) k) (difC i k))); rw [HY.out, stepS, if_pos HQ.out, if_neg (fun h => HE.out (by rw [List.take_length]; exact HP.out.mem_iff.2 h))]; exact hp2.trans (HP.out.cons _), hn2, hc2, hrow2, hB3⟩
                      | ((repeat apply Exists.intro); (refine ⟨?_, rfl⟩); exact ⟨k + 1, g2, cap2, l2, by omega, by go_num, rfl, by (show l2.Perm (stepS (rowS i (allS i) k) (difC i k))); rw [HY.out, stepS, if_pos HQ.out, if_neg (fun h => HE.out (by rw [List.take_length]; exact HP.out.mem_iff.2 h))]; exact hp2.trans (HP.out.cons _), hn2, hc2, hrow2, hB3⟩)
                  case measure => simp [intOf]; omega
          · have hq2 : (prodC ⟨yd, ya, yb, yc, ye, yf, yg⟩ ⟨yd, ya, yb, yc, ye, yf, yg⟩ != -2) = true := by simpa using hq
            have HQ := Lib.hid hq
            clear hq
            go_wp2_with fail
            go_roundw
            case rel =>
              first
                | exact ⟨k + 1, g, cap, l, by omega, by go_num, rfl, by (show l.Perm (stepS (rowS i (allS i) k) (difC i k))); rw [HY.out, stepS, if_neg HQ.out]; exact HP.out, hn, hc, hr1, hB1⟩
                | ((repeat apply Exists.intro); (refine ⟨?_, rfl⟩); exact ⟨k + 1, g, cap, l, by omega, by go_num, rfl, by (show l.Perm (stepS (rowS i (allS i) k) (difC i k))); rw [HY.out, stepS, if_neg HQ.out]; exact HP.out, hn, hc, hr1, hB1⟩)
            case measure => simp [intOf]; omega
        · obtain rfl : k = 27 := by omega
          go_wp2_with fail
          go_roundw
          case rel => exact ⟨i + 1, g, cap, l, by omega, by go_num, rfl, hp, hn, hc, hrow, hb0⟩
          case measure => simp [intOf]; omega
    · obtain rfl : i = 27 := by omega
      go_wp2_with fail
      go_ret
      exact ⟨g, cap, l, rfl, hp, hn, hc, hrow, hb0⟩

end Go.Proofs.Ytaapkkbfmgimkaa
