/- The contracts of LineSixes in the program and in the reference: the sixes that have a line, each in a row of its own, in a new row of rows. Each holds for every line index, in whatever memory. -/
import Derived.Test.YtogmfadeedmmaaaSkew
import Derived.Test.YtogmfadeedmmaaaPlJ
namespace Go.Proofs.Ytogmfadeedmmaaa
open Go.RowKit
set_option linter.unusedSimpArgs false
set_option linter.unusedVariables false

theorem skew_all (n : Int) : ∀ m, SkewK n m
  | 0 => skewK_0 n
  | m + 1 => skewK_s n m (skew_all n m)
theorem grow_all_k : ∀ m, GrowK m
  | 0 => growK_0
  | m + 1 => growK_s m (grow_all_k m)
theorem sxB_def (n : Int) : (grow 6 []).filter (hasN n) = sxB n := by
  rw [grow_all]
  rfl
theorem GrB.blw {w w' : World} {b B : Nat} {a : World} {row : Option Nat} (h : GrB w w' b row) (hb : Below B a w) (hB : B ≤ w.heap.size) (h1 : B ≤ b) (h2 : ∀ k, row = some k → B ≤ k) : Below B a w' :=
  hb.trans ⟨h.os, h.tape, h.output, h.size, fun k hk => h.block k (by omega) (by omega) (fun e => by have := h2 k e.symm; omega)⟩

/-- What LineSixes returns, with the room of each six. -/
def OwnLC (w : World) (L : List (List Int)) (e : Ending) (w' : World) : Prop := ∃ g cap xs, e = .returned (.tuple #[.slice (some ⟨g, 0, none⟩) xs.length cap, .bool true]) ∧ lls xs = L ∧ w.heap.size ≤ g ∧ RowS w' g xs ∧ Each w' w.heap.size xs ∧ Below w.heap.size w w' ∧ Caps xs
theorem iSixes_out (n : Int) (hn : inB n 0 26 = false) (w : World) :
    Calls Try.prog 47 #[.int .i64 n] w fun e w' => e = .returned (.tuple #[.slice none 0 0, .bool false]) ∧ Below w.heap.size w w' := by
  go_enter Try.func47, Try.ntmps47
  go_wp2_with (first | (go_at_call 58; ((with_reducible refine (isLine_any _ _).mono ?_); rintro e w' ⟨rfl, rfl⟩)))
  go_ret2
  exact ⟨rfl, by (repeat (first | (with_reducible exact Below.refl _ _) | (with_reducible refine bl_alloc ?_ ?_ _; focus (first | omega | (simp; done) | (simp; omega))) | (with_reducible refine bl_set ?_ ?_ _; focus (first | omega | (simp; done) | (simp; omega))) | (with_reducible refine Below.drew ?_) | (with_reducible refine below_drewN ?_ _) | (with_reducible refine below_step ?_ (by assumption))))⟩

set_option maxRecDepth 20000 in
set_option maxHeartbeats 16000000 in
theorem iSixes_cap (n : Int) (hn : inB n 0 26 = true) (w : World) :
    Calls Try.prog 47 #[.int .i64 n] w (OwnLC w (sxB n)) := by
  have K := Lib.hid (skew_all n 6 w.heap.size w.heap.size (w.heap.size + 1 + 1) 0 none [] (.slice (some ⟨w.heap.size + 1, 0, none⟩) 0 0) [] (((w.alloc (.cells #[.int .i64 n] 3)).alloc (.cells #[] 38)).alloc (.cells #[.slice (some ⟨w.heap.size + 1, 0, none⟩) 0 0] 45)) rfl (fun i hi => absurd hi (by simp)) (.inl ⟨rfl, rfl, rfl⟩)
    ((alloc_under _ _ _ (by simp; omega)).trans ((alloc_under _ _ _ (by simp)).trans (alloc_at _ _ _ rfl))) (alloc_at _ _ _ (by simp)) ⟨owns_below (owns_e1 (w := w.alloc (.cells #[.int .i64 n] 3)) (t := 38) (k := w.heap.size + 1) (by simp) (by omega)) ((Below.refl _ _).alloc (Nat.le_refl _) _), Each.nil _ _, by simp⟩ (by simp; omega) (by rw [grow_all, sixes_len]; simp))
  have hmf : ∀ (fn : Fn) (first cap : Array Value) (w : World), (Instr.makeFunc fn first cap).run Try.prog w = .ok (.func fn first cap) w := fun _ _ _ _ => rfl
  go_enter Try.func47, Try.ntmps47
  go_wp2_with (first | (go_at_call 58; ((with_reducible refine (isLine_any _ _).mono ?_); rintro e w' ⟨rfl, rfl⟩)))
  refine K.out.mono ?_
  rintro e w1 ⟨rfl, v', ys, hys, hbx, how, hgb, _, hcp⟩
  rw [sxB_def] at hys
  have hB : Below w.heap.size w w1 := hgb.blw (by (repeat (first | (with_reducible exact Below.refl _ _) | (with_reducible refine bl_alloc ?_ ?_ _; focus (first | omega | (simp; done) | (simp; omega))) | (with_reducible refine bl_set ?_ ?_ _; focus (first | omega | (simp; done) | (simp; omega))) | (with_reducible refine Below.drew ?_) | (with_reducible refine below_drewN ?_ _) | (with_reducible refine below_step ?_ (by assumption))))) (by simp; omega) (by omega) (fun k hk => by simp [Value.ownBlock] at hk; omega)
  simp only [List.nil_append] at how
  obtain ⟨g, cap, rfl, hg, hrs, hea⟩ := how.row
  have c := hbx.c
  clear K hbx how hgb
  have HRS := Lib.hid hrs
  have HEA := Lib.hid hea
  have HYS := Lib.hid hys
  clear hrs hea hys
  go_wp2_with fail
  go_ret2
  exact ⟨g, cap, ys, rfl, HYS.out, hg, HRS.out, HEA.out, hB, hcp⟩
theorem iSixes_in (n : Int) (hn : inB n 0 26 = true) (w : World) : Calls Try.prog 47 #[.int .i64 n] w (OwnLT w (sxB n)) :=
  (iSixes_cap n hn w).mono fun e w' h => by
    obtain ⟨g, cap, xs, h1, h2, h3, h4, h5, h6, _⟩ := h
    exact ⟨g, cap, xs, h1, h2, h3, h4, h5, h6⟩

/-- Those of the first j slices that have the line n. -/
def fs (n : Int) (ps : List Sv) (j : Nat) : List Sv := (ps.take j).filter (fun x => hasN n x.l)
theorem fs_t {n : Int} {ps : List Sv} {j : Nat} {x : Sv} (hx : ps[j]? = some x) (hp : hasN n x.l = true) : fs n ps (j + 1) = fs n ps j ++ [x] := by
  obtain ⟨hj, rfl⟩ := List.getElem?_eq_some_iff.1 hx
  rw [fs, fs, List.take_succ_eq_append_getElem hj, List.filter_append, List.filter_cons, if_pos hp, List.filter_nil]
theorem fs_f {n : Int} {ps : List Sv} {j : Nat} {x : Sv} (hx : ps[j]? = some x) (hp : hasN n x.l = false) : fs n ps (j + 1) = fs n ps j := by
  obtain ⟨hj, rfl⟩ := List.getElem?_eq_some_iff.1 hx
  rw [fs, fs, List.take_succ_eq_append_getElem hj, List.filter_append, List.filter_cons, if_neg (by rw [hp]; simp), List.filter_nil, List.append_nil]
theorem fs_len (n : Int) (ps : List Sv) (j : Nat) : (fs n ps j).length ≤ ps.length := by
  have := List.length_filter_le (fun x : Sv => hasN n x.l) (ps.take j)
  have : (ps.take j).length = min j ps.length := List.length_take
  unfold fs
  omega
theorem fs_all (n : Int) (ps : List Sv) : lls (fs n ps ps.length) = (lls ps).filter (hasN n) := by
  simp [fs, lls, List.filter_map, Function.comp_def]
theorem fs_sub (n : Int) (ps : List Sv) (j : Nat) : (fs n ps j).Sublist ps := List.filter_sublist.trans (List.take_sublist j ps)
/-- One slice, so many times as the line n stands among the first k of its numbers. -/
def rp (n : Int) (x : Sv) (k : Nat) : List Sv := List.replicate ((x.l.take k).count n) x
theorem rp_0 (n : Int) (x : Sv) : rp n x 0 = [] := by simp [rp]
theorem rp_t {n : Int} {x : Sv} {k : Nat} (hk : k < x.l.length) (h : x.l.getD k 0 = n) : rp n x (k + 1) = rp n x k ++ [x] := by
  have e : x.l[k] = n := by simpa [List.getD, List.getElem?_eq_getElem hk] using h
  simp [rp, List.take_succ_eq_append_getElem hk, List.count_append, e, List.replicate_succ']
theorem rp_f {n : Int} {x : Sv} {k : Nat} (hk : k < x.l.length) (h : x.l.getD k 0 ≠ n) : rp n x (k + 1) = rp n x k := by
  have e : x.l[k] ≠ n := by simpa [List.getD, List.getElem?_eq_getElem hk] using h
  have e2 : (x.l[k] == n) = false := beq_eq_false_iff_ne.2 e
  simp only [rp, List.take_succ_eq_append_getElem hk, List.count_append, List.count_singleton, e2]
  rfl
theorem nodup_count (n : Int) : ∀ l : List Int, l.Nodup → l.count n ≤ 1
  | [], _ => by simp
  | a :: l, h => by
    rw [List.nodup_cons] at h
    rw [List.count_cons]
    by_cases e : a = n
    · subst e
      rw [List.count_eq_zero.2 h.1]
      simp
    · rw [if_neg (by simpa using e)]
      exact nodup_count n l h.2
theorem rp_len {n : Int} {x : Sv} (h : x.l.Nodup) (k : Nat) : (rp n x k).length ≤ 1 := by
  have h1 := nodup_count n x.l h
  have h2 : (x.l.take k).count n ≤ x.l.count n := (List.take_sublist k x.l).count_le n
  simp [rp]
  omega
theorem rp_end {n : Int} {ps : List Sv} {j : Nat} {x : Sv} (hx : ps[j]? = some x) (h : x.l.Nodup) (h6 : x.l.length = 6) : fs n ps j ++ rp n x 6 = fs n ps (j + 1) := by
  have ht : x.l.take 6 = x.l := List.take_of_length_le (Nat.le_of_eq h6)
  cases hc : hasN n x.l
  · have h0 : x.l.count n = 0 := by
      rw [List.count_eq_zero]
      intro hm
      rw [hasN, List.contains_iff_mem.2 hm] at hc
      cases hc
    rw [fs_f hx hc, rp, ht, h0]
    simp
  · have h1 : x.l.count n = 1 := by
      have := nodup_count n x.l h
      have := List.count_pos_iff.2 (List.contains_iff_mem.1 (by rw [← hc]; rfl : x.l.contains n = true))
      omega
    rw [fs_t hx hc, rp, ht, h1]
    rfl

theorem sSixes_out (n : Int) (hn : inB n 0 26 = false) (w : World) :
    Calls Try.prog 48 #[.int .i64 n] w fun e w' => (∃ g, e = .returned (.tuple #[.slice (some ⟨g, 0, none⟩) 0 0, .bool false])) ∧ Below w.heap.size w w' := by
  go_enter Try.func48, Try.ntmps48
  go_wp2_with (first | (go_at_call 52; ((with_reducible refine (l6In_any _ _ _ _).mono ?_); rintro e w' ⟨rfl, rfl⟩)))
  go_ret2
  exact ⟨⟨_, rfl⟩, by (repeat (first | (with_reducible exact Below.refl _ _) | (with_reducible refine bl_alloc ?_ ?_ _; focus (first | omega | (simp; done) | (simp; omega))) | (with_reducible refine bl_set ?_ ?_ _; focus (first | omega | (simp; done) | (simp; omega))) | (with_reducible refine Below.drew ?_) | (with_reducible refine below_drewN ?_ _) | (with_reducible refine below_step ?_ (by assumption))))⟩

set_option maxRecDepth 20000 in
set_option maxHeartbeats 16000000 in
theorem sSixes_cap (n : Int) (hn : inB n 0 26 = true) (w : World) :
    Calls Try.prog 48 #[.int .i64 n] w (OwnLC w (sxB n)) := by
  obtain ⟨i0, hi0, hz0, hz1, hz2⟩ := info_parts Try.infoS
  have K := Lib.hid (grow_all_k 6 (w.heap.size + 1) (w.heap.size + 1) 0 [] (.slice (some ⟨w.heap.size + 1 + 1, 0, none⟩) 0 0) [] (((w.alloc (.cells #[] 38)).alloc (.cells #[] 3)).alloc (.cells #[] 38)) rfl (fun i hi => absurd hi (by simp))
    ⟨#[], (alloc_under _ _ _ (by simp)).trans (alloc_at _ _ _ (by simp)), rfl⟩ ⟨owns_e1 (w := (w.alloc (.cells #[] 38)).alloc (.cells #[] 3)) (t := 38) (k := w.heap.size + 1 + 1) (by simp) (by omega), Each.nil _ _, by simp⟩ (by simp) (fun h => by simp at h) (by rw [grow_all, sixes_len]; simp))
  go_enter Try.func48, Try.ntmps48
  go_wp2_with (first | (go_at_call 52; ((with_reducible refine (l6In_any _ _ _ _).mono ?_); rintro e w' ⟨rfl, rfl⟩)) | fail)
  refine K.out.mono ?_
  rintro e w1 ⟨v1, rfl, ps, hps, hop, hgr, _, hcp⟩
  rw [grow_all] at hps
  simp only [List.nil_append] at hop
  clear K
  have hb1 : Below (w.heap.size + 1) ((w.alloc (.cells #[] 38)).alloc (.cells #[] 3)) w1 := (((Below.refl _ _).alloc (by simp) (.cells #[] 38))).grown hgr (by simp) (fun k hk => by simp [Value.ownBlock] at hk; omega)
  obtain ⟨g, cap, rfl, hg, hrs, hea⟩ := hop.row
  have hB : Below w.heap.size w w1 := (show Below w.heap.size w ((w.alloc (.cells #[] 38)).alloc (.cells #[] 3)) by (repeat (first | (with_reducible exact Below.refl _ _) | (with_reducible refine bl_alloc ?_ ?_ _; focus (first | omega | (simp; done) | (simp; omega))) | (with_reducible refine bl_set ?_ ?_ _; focus (first | omega | (simp; done) | (simp; omega))) | (with_reducible refine Below.drew ?_) | (with_reducible refine below_drewN ?_ _) | (with_reducible refine below_step ?_ (by assumption))))).trans (hb1.mono (by omega))
  have hs1 : Side w1 w.heap.size g (.slice (some ⟨w.heap.size, 0, none⟩) 0 0) [] := by
    refine ⟨World.ownsRow.kept (owns_below (owns_below (owns_empty w 38) ((Below.refl _ _).alloc (Nat.le_refl _) _)) ((Below.refl _ _).alloc (Nat.le_refl _) _)) hgr (.inr ?_), ?_, by simp⟩
    · simp [Value.ownBlock]
      omega
    · simp [Value.ownBlock]
      omega
  have hpl : ps.length = 72 := by rw [← lls_len, hps, sixes_len]
  have HS := Lib.hid hs1
  have HRS := Lib.hid hrs
  have HE : Hid (Each w1 w.heap.size ps) := Lib.hid (hea.le (by omega))
  have HB := Lib.hid hB
  have H6 := Lib.hid (ll_all hps sixes_6)
  have HN := Lib.hid (ll_all hps sixes_one)
  have HP := Lib.hid (show (lls ps).filter (hasN n) = sxB n by rw [hps]; rfl)
  have hpm : ps.length ≤ 72 := by omega
  have HCP := Lib.hid hcp
  clear hcp hs1 hrs hea hB hps hop hgr hb1 hpl
  go_wp2_with fail
  go_loopw [4, 6] (fun a c wr => ∃ (va : Value) (j : Nat), va = a ∧ j ≤ ps.length ∧ c = .int .i64 j ∧ Side wr w.heap.size g va (fs n ps j) ∧ RowS wr g ps ∧ Each wr w.heap.size ps ∧ Below w.heap.size w wr) (fun _ c _ => ps.length - (intOf c).toNat)
  case atStart => exact ⟨_, 0, rfl, by omega, rfl, HS.out, HRS.out, HE.out, HB.out⟩
  case round =>
    clear HS HRS HE HB
    obtain ⟨va, j, rfl, hj, rfl, hs, hr, he, hb0⟩ := hrel
    by_cases hlt : j < ps.length
    · obtain ⟨x, hx⟩ : ∃ x, ps[j]? = some x := ⟨ps[j], List.getElem?_eq_getElem hlt⟩
      have hmem : x ∈ ps := List.mem_of_getElem? hx
      have hx6 := H6.out x hmem
      have hln := fs_len n ps j
      have hrl := rp_len (n := n) (HN.out x hmem)
      have b1 : (0 : Int) ≤ (j : Int) := by omega
      have b2 : (j : Int) < (ps.length : Int) := by omega
      have HX6 := Lib.hid hx6
      have HX := Lib.hid hx
      have HM := Lib.hid hmem
      have HRL := Lib.hid hrl
      have HEND := Lib.hid (rp_end (n := n) hx (HN.out x hmem) hx6)
      have H0 := Lib.hid hs
      have HR := Lib.hid hr
      have HE := Lib.hid he
      have HB := Lib.hid hb0
      clear hs hr he hb0 hx hmem hx6 hrl
      go_wp2_with fail
      go_loopw [4, 7] (fun a c wr => ∃ (va : Value) (k : Nat), va = a ∧ k ≤ 6 ∧ c = .int .i64 k ∧ Side wr w.heap.size g va (fs n ps j ++ rp n x k) ∧ RowS wr g ps ∧ Each wr w.heap.size ps ∧ Below w.heap.size w wr) (fun _ c _ => 6 - (intOf c).toNat)
      case atStart => exact ⟨_, 0, rfl, by omega, rfl, by rw [rp_0, List.append_nil]; exact H0.out, HR.out, HE.out, HB.out⟩
      case round =>
        clear H0 HR HE HB
        obtain ⟨va, k, rfl, hk, rfl, hs, hr, he, hb0⟩ := hrel
        have hszr := hb0.size
        have hgl := hr.lt
        by_cases hkt : k < 6
        · have hdk : decide ((k : Int) < 6) = true := decide_eq_true (by omega)
          have c0 := hr.cell j x HX.out
          rw [HX6.out] at c0
          have ck := ((he.1 x HM.out).2).cell k (by rw [HX6.out]; omega)
          have b3 : (0 : Int) ≤ (k : Int) := by omega
          have b4 : (k : Int) < 6 := by omega
          have hll : (fs n ps j ++ rp n x k).length ≤ 73 := by
            have := HRL.out k
            rw [List.length_append]
            omega
          have H0 := Lib.hid hs
          have HR := Lib.hid hr
          have HE := Lib.hid he
          have HB := Lib.hid hb0
          have KT := Lib.hid (fun h => rp_t (n := n) (x := x) (k := k) (by rw [HX6.out]; omega) h)
          have KF := Lib.hid (fun h => rp_f (n := n) (x := x) (k := k) (by rw [HX6.out]; omega) h)
          clear hs hr he hb0
          by_cases hq : x.l.getD k 0 = n
          · have HT := Lib.hid (KT.out hq)
            have hqb : (x.l.getD k 0 == n) = true := by simpa using hq
            have H1 := Lib.hid hq
            clear hq
            generalize x.l.getD k 0 = q at ck hqb
            generalize hys : fs n ps j ++ rp n x k = ys at H0 hll
            have HYS := Lib.hid hys
            clear hys KT KF
            go_wp2_with (first | (at_builtin; (refine wpList_append_own_at _ rfl _ _ 45 rfl w.heap.size 38 i0 (.slice none 0 0) 1 24 Try.underlying45 hi0 hz0 hz1 hz2 rfl (by decide) _ _ _ rfl (H0.out.alloc _).1 ⟨_, 0, none⟩ 1 1 [_] rfl rfl (new_one _ _ _) one_of_slice (by unfold maxLen; omega) (by omega) ?_ ?_)) | fail)
            · simp
              omega
            · intro v' w2 ho hg2 hn2 hat
              have ho2 : w2.ownsRow w.heap.size 38 1 v' (ys.length + 1) (svs ys ++ [.slice (some ⟨x.g, 0, none⟩) x.l.length x.cap]) := by rw [HX6.out]; exact ho
              have hs' := Lib.hid (H0.out.push hgl ho2 hat hn2)
              have he' := Lib.hid (H0.out.each HE.out _ hg2)
              have hr' := Lib.hid (H0.out.rows HR.out _ hg2)
              have hb' := Lib.hid (Side.blw HB.out H0.out HB.out.size _ hg2)
              clear ho hg2 hn2 hat ho2
              go_wp2_with fail
              go_roundw
              case rel =>
                have hst : Side w2 w.heap.size g v' (fs n ps j ++ rp n x (k + 1)) := by rw [HT.out, ← List.append_assoc, HYS.out]; exact hs'.out
                first
                  | exact ⟨v', k + 1, rfl, by omega, by go_num, hst, hr'.out, he'.out, hb'.out⟩
                  | ((repeat apply Exists.intro); (refine ⟨?_, rfl⟩); exact ⟨v', k + 1, rfl, by omega, by go_num, hst, hr'.out, he'.out, hb'.out⟩)
              case measure => ((simp [intOf]) <;> omega)
          · have HT := Lib.hid (KF.out hq)
            have hqb : (x.l.getD k 0 == n) = false := by simpa using hq
            clear hq KT KF
            generalize x.l.getD k 0 = q at ck hqb
            go_wp2_with fail
            go_roundw
            case rel =>
              have hst : Side wr w.heap.size g va (fs n ps j ++ rp n x (k + 1)) := by rw [HT.out]; exact H0.out
              first
                | exact ⟨va, k + 1, rfl, by omega, by go_num, hst, HR.out, HE.out, HB.out⟩
                | ((repeat apply Exists.intro); (refine ⟨?_, rfl⟩); exact ⟨va, k + 1, rfl, by omega, by go_num, hst, HR.out, HE.out, HB.out⟩)
            case measure => ((simp [intOf]) <;> omega)
        · obtain rfl : k = 6 := by omega
          have H0 := Lib.hid hs
          have HR := Lib.hid hr
          have HE := Lib.hid he
          have HB := Lib.hid hb0
          clear hs hr he hb0
          go_wp2_with fail
          go_roundw
          case rel =>
            have hst : Side wr w.heap.size g va (fs n ps (j + 1)) := by rw [← HEND.out]; exact H0.out
            first
              | exact ⟨va, j + 1, rfl, by omega, by go_num, hst, HR.out, HE.out, HB.out⟩
              | ((repeat apply Exists.intro); (refine ⟨?_, rfl⟩); exact ⟨va, j + 1, rfl, by omega, by go_num, hst, HR.out, HE.out, HB.out⟩)
          case measure => ((simp [intOf]) <;> omega)
    · obtain rfl : j = ps.length := by omega
      rcases hs.1.2 with ⟨h0, _⟩ | ⟨g', cap', cur, rfl, hbg, hg', hnc, hcm, hcs, ht⟩
      · exact absurd h0 hs.2.2
      have he2 := he.sub (fs_sub n ps ps.length)
      have HF := Lib.hid (fs_all n ps)
      have HT := Lib.hid ht
      have HC := Lib.hid (show Caps (fs n ps ps.length) from fun y hy => HCP.out y ((fs_sub n ps ps.length).subset hy))
      generalize fs n ps ps.length = xs at he2 HF HT HC
      clear ht
      go_wp2_with fail
      go_ret2
      exact ⟨g', cap', xs, rfl, by rw [HF.out]; exact HP.out, hbg, ⟨cur, hg', by simpa using HT.out⟩, he2, hb0, HC.out⟩
theorem sSixes_in (n : Int) (hn : inB n 0 26 = true) (w : World) : Calls Try.prog 48 #[.int .i64 n] w (OwnLT w (sxB n)) :=
  (sSixes_cap n hn w).mono fun e w' h => by
    obtain ⟨g, cap, xs, h1, h2, h3, h4, h5, h6, _⟩ := h
    exact ⟨g, cap, xs, h1, h2, h3, h4, h5, h6⟩

end Go.Proofs.Ytogmfadeedmmaaa
