/- LinePlanes of the program: those of all planes that have a line. It holds for every line index, in whatever memory. -/
import Derived.Test.YtogmfadeedmmaaaPlI
import Derived.Test.YtogmfadeedmmaaaHas
import Derived.Maps.AppendAt
namespace Go.Proofs.Ytogmfadeedmmaaa
open Go.RowKit
set_option linter.unusedSimpArgs false
set_option linter.unusedVariables false

/-- Those of the first j slices that have the line n. -/
def fl (n : Int) (ps : List Sv) (j : Nat) : List Sv := (ps.take j).filter (fun x => hasL n x.l)
theorem fl_t {n : Int} {ps : List Sv} {j : Nat} {x : Sv} (hx : ps[j]? = some x) (hp : hasL n x.l = true) : fl n ps (j + 1) = fl n ps j ++ [x] := by
  obtain ⟨hj, rfl⟩ := List.getElem?_eq_some_iff.1 hx
  rw [fl, fl, List.take_succ_eq_append_getElem hj, List.filter_append, List.filter_cons, if_pos hp, List.filter_nil]
theorem fl_f {n : Int} {ps : List Sv} {j : Nat} {x : Sv} (hx : ps[j]? = some x) (hp : hasL n x.l = false) : fl n ps (j + 1) = fl n ps j := by
  obtain ⟨hj, rfl⟩ := List.getElem?_eq_some_iff.1 hx
  rw [fl, fl, List.take_succ_eq_append_getElem hj, List.filter_append, List.filter_cons, if_neg (by rw [hp]; simp), List.filter_nil, List.append_nil]
theorem fl_len (n : Int) (ps : List Sv) (j : Nat) : (fl n ps j).length ≤ ps.length := by
  have := List.length_filter_le (fun x : Sv => hasL n x.l) (ps.take j)
  have : (ps.take j).length = min j ps.length := List.length_take
  unfold fl
  omega
theorem fl_all (n : Int) (ps : List Sv) : lls (fl n ps ps.length) = (lls ps).filter (hasL n) := by
  simp [fl, lls, List.filter_map, Function.comp_def]
theorem Each.sub {w : World} {B : Nat} {xs ys : List Sv} (h : Each w B ys) (hs : xs.Sublist ys) : Each w B xs := ⟨fun x hx => h.1 x (hs.subset hx), h.2.sublist hs⟩
theorem fl_sub (n : Int) (ps : List Sv) (j : Nat) : (fl n ps j).Sublist ps := List.filter_sublist.trans (List.take_sublist j ps)
theorem RowS.grown {w w' : World} {g : Nat} {xs : List Sv} (h : RowS w g xs) {row : Option Nat} (hg : w.grownBy w' row) (hne : row ≠ some g) : RowS w' g xs := h.kept (hg.block g h.lt (fun e => hne e.symm))
theorem sv_len {L : List (List Int)} {ps : List Sv} (h : lls ps = L) {m : Nat} (hL : ∀ l ∈ L, l.length ≤ m) : ∀ x ∈ ps, x.l.length ≤ m := fun x hx => hL _ (by rw [← h]; exact List.mem_map_of_mem hx)

/-- A row of slices that is built beside another one, g: its own block is not g. -/
def Side (w : World) (B g : Nat) (v : Value) (xs : List Sv) : Prop := w.ownsRow B 38 1 v xs.length (svs xs) ∧ v.ownBlock ≠ some g ∧ v ≠ .slice none 0 0
theorem Side.below {w w' : World} {B g : Nat} {v : Value} {xs : List Sv} (h : Side w B g v xs) (hb : Below w.heap.size w w') : Side w' B g v xs := ⟨owns_below h.1 hb, h.2⟩
theorem Side.alloc {w : World} {B g : Nat} {v : Value} {xs : List Sv} (h : Side w B g v xs) (o : Obj) : Side (w.alloc o) B g v xs := h.below ((Below.refl _ _).alloc (Nat.le_refl _) o)
theorem Side.push {w w' : World} {B g : Nat} {v v' : Value} {xs : List Sv} {x : Sv} (h : Side w B g v xs) (hg : g < w.heap.size) (ho : w'.ownsRow B 38 1 v' (xs.length + 1) (svs xs ++ [.slice (some ⟨x.g, 0, none⟩) x.l.length x.cap]))
    (hat : v'.ownBlock = v.ownBlock ∨ v'.ownBlock = some (w.heap.size + 1)) (hn : ¬ v' = .slice none 0 0) : Side w' B g v' (xs ++ [x]) := by
  refine ⟨by rw [svs_snoc, List.length_append]; exact ho, ?_, hn⟩
  rcases hat with e | e
  · rw [e]; exact h.2.1
  · rw [e]
    simp
    omega
theorem Side.each {w w' : World} {B B2 g : Nat} {v : Value} {xs ps : List Sv} (h : Side w B g v xs) (he : Each w B2 ps) (o : Obj) (hg : (w.alloc o).grownBy w' v.ownBlock) : Each w' B2 ps :=
  (he.below ((Below.refl _ _).alloc (Nat.le_refl _) o)).grown (h.alloc o).1 hg
theorem Side.rows {w w' : World} {B g : Nat} {v : Value} {xs ps : List Sv} (h : Side w B g v xs) (he : RowS w g ps) (o : Obj) (hg : (w.alloc o).grownBy w' v.ownBlock) : RowS w' g ps :=
  (he.below ((Below.refl _ _).alloc (Nat.le_refl _) o)).grown hg h.2.1
theorem Side.blw {B g : Nat} {a w w' : World} {v : Value} {xs : List Sv} (hb : Below B a w) (h : Side w B g v xs) (hB : B ≤ w.heap.size) (o : Obj) (hg : (w.alloc o).grownBy w' v.ownBlock) : Below B a w' :=
  below_own (hb.alloc hB o) (h.alloc o).1 hg (Nat.le_refl _) (by simp; omega)

theorem iPlanes_out (n : Int) (hn : inB n (-1) 26 = false) (w : World) :
    Calls Try.prog 37 #[.int .i64 n] w fun e w' => e = .returned (.tuple #[.slice none 0 0, .bool false]) ∧ Below w.heap.size w w' := by
  by_cases h : n < -1
  · have hd : decide (n < -1) = true := decide_eq_true h
    clear hn h
    go_enter Try.func37, Try.ntmps37
    go_wp2_with fail
    go_ret2
    exact ⟨rfl, by (repeat (first | (with_reducible exact Below.refl _ _) | (with_reducible refine bl_alloc ?_ ?_ _; focus (first | omega | (simp; done) | (simp; omega))) | (with_reducible refine bl_set ?_ ?_ _; focus (first | omega | (simp; done) | (simp; omega))) | (with_reducible refine Below.drew ?_) | (with_reducible refine below_drewN ?_ _) | (with_reducible refine below_step ?_ (by assumption))))⟩
  · have hd : decide (n < -1) = false := decide_eq_false h
    have hd2 : decide (27 ≤ n) = true := by
      simp only [inB, Bool.and_eq_false_iff, decide_eq_false_iff_not] at hn
      simp
      omega
    clear hn h
    go_enter Try.func37, Try.ntmps37
    go_wp2_with fail
    go_ret2
    exact ⟨rfl, by (repeat (first | (with_reducible exact Below.refl _ _) | (with_reducible refine bl_alloc ?_ ?_ _; focus (first | omega | (simp; done) | (simp; omega))) | (with_reducible refine bl_set ?_ ?_ _; focus (first | omega | (simp; done) | (simp; omega))) | (with_reducible refine Below.drew ?_) | (with_reducible refine below_drewN ?_ _) | (with_reducible refine below_step ?_ (by assumption))))⟩

set_option maxRecDepth 20000 in
set_option maxHeartbeats 16000000 in
theorem iPlanes_in (n : Int) (hn : inB n (-1) 26 = true) (w : World) :
    Calls Try.prog 37 #[.int .i64 n] w (OwnLT w (plB n)) := by
  obtain ⟨i0, hi0, hz0, hz1, hz2⟩ := info_parts Try.infoS
  have hd1 : decide (n < -1) = false := by
    simp [inB] at hn
    simp
    omega
  have hd2 : decide (27 ≤ n) = false := by
    simp [inB] at hn
    simp
    omega
  have HQ := Lib.hid (show ∀ l ∈ qI 27, l.length ≤ 3 by decide +kernel)
  have HK := Lib.hid (show (qI 27).length = 45 by decide +kernel)
  have KP := fun W => planes_any W
  have HP := Lib.hid (show plB n = (qI 27).filter (hasL n) from rfl)
  generalize plB n = P at HP
  generalize qI 27 = Q at KP HQ HP HK
  clear hn
  go_enter Try.func37, Try.ntmps37
  go_wp2_with fail
  refine (KP _).mono ?_
  rintro e w1 ⟨g, cap, ps, rfl, hL, hg, hrs, hea, hb1⟩
  have hB : Below w.heap.size w w1 := Below.trans (b := w.alloc (.cells #[] 38)) ((Below.refl _ _).alloc (Nat.le_refl _) _) (hb1.mono (by simp))
  have hs1 : Side w1 w.heap.size g (.slice (some ⟨w.heap.size, 0, none⟩) 0 0) [] := ⟨owns_below (owns_empty w 38) hb1, by simp [Value.ownBlock]; simp at hg; omega, by simp⟩
  have HL := Lib.hid (sv_len hL HQ.out)
  have HE : Hid (Each w1 w.heap.size ps) := Lib.hid (hea.le (by simp))
  have HPS := Lib.hid (show P = (lls ps).filter (hasL n) by rw [hL]; exact HP.out)
  have hpl : ps.length = 45 := by rw [← lls_len, hL]; exact HK.out
  have hgB : w.heap.size ≤ g := by simp at hg; omega
  clear hb1 KP HQ HP hg hea hL HK
  have HR := Lib.hid hrs
  clear hrs
  go_wp2_with fail
  go_loopw [4, 16] (fun v c wr => ∃ j : Nat, j ≤ ps.length ∧ c = .int .i64 j ∧ Side wr w.heap.size g v (fl n ps j) ∧ RowS wr g ps ∧ Each wr w.heap.size ps ∧ Below w.heap.size w wr) (fun _ c _ => ps.length - (intOf c).toNat)
  case atStart => exact ⟨0, by omega, rfl, hs1, HR.out, HE.out, hB⟩
  case round =>
    clear hs1 HE hB HR
    obtain ⟨j, hj, rfl, hs, hr, he, hb0⟩ := hrel
    by_cases hlt : j < ps.length
    · obtain ⟨x, hx⟩ : ∃ x, ps[j]? = some x := ⟨ps[j], List.getElem?_eq_getElem hlt⟩
      have hmem : x ∈ ps := List.mem_of_getElem? hx
      have c0 := hr.cell j x hx
      have hxl := HL.out x hmem
      have hrow := (he.1 x hmem).2
      have hgl := hr.lt
      have hln := fl_len n ps j
      have b1 : (0 : Int) ≤ (j : Int) := by omega
      have b2 : (j : Int) < (ps.length : Int) := by omega
      have H0 := Lib.hid hs
      have HR := Lib.hid hr
      have HE := Lib.hid he
      have HB := Lib.hid hb0
      have HRW := Lib.hid hrow
      have HX := Lib.hid hx
      have FT := Lib.hid (fun h => fl_t (n := n) (ps := ps) (j := j) (x := x) hx h)
      have FF := Lib.hid (fun h => fl_f (n := n) (ps := ps) (j := j) (x := x) hx h)
      clear hs hr he hb0 hrow hx hmem
      by_cases h0 : n < 0
      · have hd0 : decide (n < 0) = true := decide_eq_true h0
        have HT := Lib.hid (show hasL n x.l = true by simp [hasL, h0])
        clear h0
        go_wp2_with (first | (at_builtin; (refine wpList_append_own_at _ rfl _ _ 45 rfl w.heap.size 38 i0 (.slice none 0 0) 1 24 Try.underlying45 hi0 hz0 hz1 hz2 rfl (by decide) _ _ _ rfl (H0.out.alloc _).1 ⟨_, 0, none⟩ 1 1 [_] rfl rfl (new_one _ _ _) one_of_slice (by unfold maxLen; omega) (by omega) ?_ ?_)) | fail)
        · have hz := HB.out.size
          simp
          omega
        · intro v' w1 ho hg hn hat
          have hs' := Lib.hid (H0.out.push hgl ho hat hn)
          have he' := Lib.hid (H0.out.each HE.out _ hg)
          have hr' := Lib.hid (H0.out.rows HR.out _ hg)
          have hb' := Lib.hid (Side.blw HB.out H0.out HB.out.size _ hg)
          clear ho hg hn hat
          go_wp2_with fail
          go_roundw
          case rel => exact ⟨j + 1, by omega, by go_num, by rw [FT.out HT.out]; exact hs'.out, hr'.out, he'.out, hb'.out⟩
          case measure => ((simp [intOf]) <;> omega)
      · have hd0 : decide (n < 0) = false := decide_eq_false h0
        have KC := Lib.hid (fun W (h : Row W x.g x.l) => contains_any x.g x.cap x.l n (by omega) W h)
        cases hc : x.l.contains n
        · have HT := Lib.hid (show hasL n x.l = false by rw [hasL, hd0, hc]; rfl)
          rw [hc] at KC
          clear hc h0
          go_wp2_with (first | (go_at_call 72; ((with_reducible refine (KC.out _ HRW.out).mono ?_); rintro e w' ⟨rfl, rfl⟩)) | fail)
          go_roundw
          case rel => exact ⟨j + 1, by omega, by go_num, by rw [FF.out HT.out]; exact H0.out, HR.out, HE.out, HB.out⟩
          case measure => ((simp [intOf]) <;> omega)
        · have HT := Lib.hid (show hasL n x.l = true by rw [hasL, hd0, hc]; rfl)
          rw [hc] at KC
          clear hc h0
          go_wp2_with (first | (go_at_call 72; ((with_reducible refine (KC.out _ HRW.out).mono ?_); rintro e w' ⟨rfl, rfl⟩)) | (at_builtin; (refine wpList_append_own_at _ rfl _ _ 45 rfl w.heap.size 38 i0 (.slice none 0 0) 1 24 Try.underlying45 hi0 hz0 hz1 hz2 rfl (by decide) _ _ _ rfl (H0.out.alloc _).1 ⟨_, 0, none⟩ 1 1 [_] rfl rfl (new_one _ _ _) one_of_slice (by unfold maxLen; omega) (by omega) ?_ ?_)) | fail)
          · have hz := HB.out.size
            simp
            omega
          · intro v' w1 ho hg hn hat
            have hs' := Lib.hid (H0.out.push hgl ho hat hn)
            have he' := Lib.hid (H0.out.each HE.out _ hg)
            have hr' := Lib.hid (H0.out.rows HR.out _ hg)
            have hb' := Lib.hid (Side.blw HB.out H0.out HB.out.size _ hg)
            clear ho hg hn hat
            go_wp2_with fail
            go_roundw
            case rel => exact ⟨j + 1, by omega, by go_num, by rw [FT.out HT.out]; exact hs'.out, hr'.out, he'.out, hb'.out⟩
            case measure => ((simp [intOf]) <;> omega)
    · obtain rfl : j = ps.length := by omega
      rcases hs.1.2 with ⟨h0, _⟩ | ⟨g', cap', cur, rfl, hbg, hg, hnc, hcm, hcs, ht⟩
      · exact absurd h0 hs.2.2
      have he2 := he.sub (fl_sub n ps ps.length)
      have hln := fl_len n ps ps.length
      have HF := Lib.hid (fl_all n ps)
      have HT := Lib.hid ht
      generalize fl n ps ps.length = xs at he2 HF HT
      clear ht
      go_wp2_with fail
      go_ret2
      exact ⟨g', cap', xs, rfl, by rw [HF.out]; exact HPS.out.symm, hbg, ⟨cur, hg, by simpa using HT.out⟩, he2, hb0⟩

end Go.Proofs.Ytogmfadeedmmaaa
