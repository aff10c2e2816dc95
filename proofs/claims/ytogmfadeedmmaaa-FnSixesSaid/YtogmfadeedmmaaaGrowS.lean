/- The contract of l2Grow in the reference: a row of rows grows by all sixes that begin with a list. It holds for every list of lines, in whatever memory. -/
import Derived.Test.YtogmfadeedmmaaaGrow
import Derived.Test.YtogmfadeedmmaaaRR
import Derived.Maps.AppendAt
namespace Go.Proofs.Ytogmfadeedmmaaa
open Go.RowKit
set_option linter.unusedSimpArgs false
set_option linter.unusedVariables false

/-- A row's block is the old one or a new one. -/
def FreshOr (N : Nat) (v v' : Value) : Prop := v'.ownBlock = v.ownBlock ∨ ∃ k, v'.ownBlock = some k ∧ N ≤ k
theorem FreshOr.trans {N M : Nat} {v v' v'' : Value} (h : FreshOr N v v') (k : FreshOr M v' v'') (hNM : N ≤ M) : FreshOr N v v'' := by
  rcases k with e | ⟨q, e, hq⟩
  · rcases h with d | ⟨q, d, hq⟩
    · exact .inl (e.trans d)
    · exact .inr ⟨q, e.trans d, hq⟩
  · exact .inr ⟨q, e, by omega⟩
theorem grown_next {a b c : World} {v v' : Value} (h : a.grownBy b v.ownBlock) (hv : FreshOr a.heap.size v v') (k : b.grownBy c v'.ownBlock) : a.grownBy c v.ownBlock :=
  ⟨k.os.trans h.os, k.tape.trans h.tape, k.output.trans h.output, Nat.le_trans h.size k.size, fun i hi hne => (k.block i (Nat.lt_of_lt_of_le hi h.size) (by
    rcases hv with e | ⟨q, e, hq⟩
    · rw [e]; exact hne
    · rw [e]; simp; omega)).trans (h.block i hi hne)⟩
theorem grown_blw {a b c : World} {row : Option Nat} (h : a.grownBy b row) (hb : Below b.heap.size b c) : a.grownBy c row :=
  ⟨hb.os.trans h.os, hb.tape.trans h.tape, hb.output.trans h.output, Nat.le_trans h.size hb.size, fun i hi hne => (hb.block i (Nat.lt_of_lt_of_le hi h.size)).trans (h.block i hi hne)⟩
theorem grown_refl (a : World) (row : Option Nat) : a.grownBy a row := ⟨rfl, rfl, rfl, Nat.le_refl _, fun _ _ _ => rfl⟩
theorem Row.grew {w w' : World} {g B : Nat} {l : List Int} {v : Value} {xs : List Sv} (hr : Row w g l) (ho : OwnS w B v xs) (hg : w.grownBy w' v.ownBlock) : Row w' g l :=
  hr.kept (hg.block g hr.lt (fun e => own_not_row ho.1 hr e.symm))
theorem Row.news {w : World} {g : Nat} {l : List Int} (h : Row w g l) : ∀ j u, (ivs l)[j]? = some u → w.cell? ((⟨g, 0, none⟩ : Addr).add j) = some u := by
  intro j u hu
  rw [Addr.add_lit, Nat.zero_add]
  have hj : j < l.length := by
    have := (List.getElem?_eq_some_iff.1 hu).1
    simpa [ivs] using this
  rw [h.cell j hj]
  simpa [ivs, List.getD, List.getElem?_eq_getElem hj] using hu
theorem ivs_one (l : List Int) : ∀ u ∈ ivs l, u.oneCell' = true := by
  intro u hu
  simp only [ivs, List.mem_map] at hu
  obtain ⟨x, _, rfl⟩ := hu
  rfl
theorem ivs_len (l : List Int) : (ivs l).length = l.length := by simp [ivs]

/-- The slices' room. -/
def Caps (ys : List Sv) : Prop := ∀ y ∈ ys, y.l.length ≤ y.cap ∧ y.cap ≤ maxLen
theorem Caps.nil : Caps [] := fun y hy => absurd hy (by simp)
theorem Caps.app {xs ys : List Sv} (h : Caps xs) (k : Caps ys) : Caps (xs ++ ys) := fun y hy => by
  rcases List.mem_append.1 hy with hy | hy
  · exact h y hy
  · exact k y hy
theorem owns_cap {w : World} {base g n m cap size : Nat} {e : TypeId} {xs : List Value} (h : w.ownsRow base e size (.slice (some ⟨g, 0, none⟩) n cap) m xs) : n ≤ cap ∧ cap ≤ maxLen := by
  rcases h.2 with ⟨h0, _⟩ | ⟨g', cap', cur, he, _, _, h1, h2, _⟩
  · cases h0
  · simp at he
    omega
/-- A row of rows has grown by L since w. -/
def GrSt (w wr : World) (B : Nat) (v v' : Value) (xs : List Sv) (L : List (List Int)) : Prop := ∃ ys : List Sv, lls ys = L ∧ OwnS wr B v' (xs ++ ys) ∧ w.grownBy wr v.ownBlock ∧ FreshOr w.heap.size v v' ∧ Caps ys
theorem GrSt.start {w : World} {B : Nat} {v : Value} {xs : List Sv} (h : OwnS w B v xs) : GrSt w w B v v xs [] := ⟨[], rfl, by rw [List.append_nil]; exact h, grown_refl _ _, .inl rfl, Caps.nil⟩
theorem GrSt.below {w wr w' : World} {B : Nat} {v v' : Value} {xs : List Sv} {L : List (List Int)} (h : GrSt w wr B v v' xs L) (hb : Below wr.heap.size wr w') : GrSt w w' B v v' xs L := by
  obtain ⟨ys, h1, h2, h3, h4⟩ := h
  exact ⟨ys, h1, h2.below hb, grown_blw h3 hb, h4⟩
theorem GrSt.next {w wr w' : World} {B : Nat} {v v' v'' : Value} {xs ys : List Sv} {L M : List (List Int)} (h1 : lls ys = L) (h3 : w.grownBy wr v.ownBlock) (h4 : FreshOr w.heap.size v v') (h6 : Caps ys) (k : GrSt wr w' B v' v'' (xs ++ ys) M) : GrSt w w' B v v'' xs (L ++ M) := by
  obtain ⟨zs, k1, k2, k3, k4, k5⟩ := k
  exact ⟨ys ++ zs, by rw [← h1, ← k1]; simp [lls], by rw [← List.append_assoc]; exact k2, grown_next h3 h4 k3, h4.trans k4 h3.size, h6.app k5⟩
theorem GrSt.size {w wr : World} {B : Nat} {v v' : Value} {xs : List Sv} {L : List (List Int)} (h : GrSt w wr B v v' xs L) : w.heap.size ≤ wr.heap.size := by
  obtain ⟨ys, h1, h2, h3, h4⟩ := h
  exact h3.size
theorem GrSt.row {w wr : World} {B g : Nat} {v v' : Value} {xs : List Sv} {L : List (List Int)} {l : List Int} (h : GrSt w wr B v v' xs L) (ho : OwnS w B v xs) (hr : Row w g l) : Row wr g l := by
  obtain ⟨ys, h1, h2, h3, h4⟩ := h
  exact hr.grew ho h3

/-- What l2Grow returns. -/
def GrowR (w : World) (B : Nat) (v : Value) (xs : List Sv) (L : List (List Int)) (e : Ending) (w' : World) : Prop := ∃ v', e = .returned v' ∧ GrSt w w' B v v' xs L

set_option maxRecDepth 20000 in
set_option maxHeartbeats 4000000 in
theorem l2Grow_six (B g cap : Nat) (l : List Int) (v : Value) (xs : List Sv) (w : World) (hl : l.length = 6) (hr : Row w g l) (ho : OwnS w B v xs) (hB : B ≤ g) (hlt : ∀ y ∈ xs, y.g < g) (hcp : 6 ≤ cap ∧ cap ≤ maxLen) (hn : xs.length + 1 ≤ 1000) :
    Calls Try.prog 82 #[.slice (some ⟨g, 0, none⟩) l.length cap, v] w (GrowR w B v xs (grow 0 l)) := by
  obtain ⟨i0, hi0, hz0, hz1, hz2⟩ := info_parts Try.infoS
  have hgl := hr.lt
  have HR := Lib.hid hr
  have HO := Lib.hid ho
  have HLT := Lib.hid hlt
  have HL := Lib.hid hl
  clear hr ho hlt
  rw [hl]
  go_enter Try.func82, Try.ntmps82
  go_wp2_with (first | (at_builtin; (refine wpList_append_own_at _ rfl _ _ 45 rfl B 38 i0 (.slice none 0 0) 1 24 Try.underlying45 hi0 hz0 hz1 hz2 rfl (by decide) v xs.length (svs xs) rfl (owns_below HO.out.1 ((Below.refl _ _).alloc (Nat.le_refl _) _)) ⟨_, 0, none⟩ 1 1 [_] rfl rfl (new_one _ _ _) one_of_slice (by unfold maxLen; omega) (by omega) ?_ ?_)) | fail)
  · simp
    omega
  · intro v' w1 hown hg hn hat
    go_wp2_with fail
    go_ret
    have hb : Below w.heap.size w (w.alloc (.cells #[.slice (some ⟨g, 0, none⟩) 6 cap] 38)) := (Below.refl _ _).alloc (Nat.le_refl _) _
    refine ⟨v', rfl, [⟨g, cap, l⟩], rfl, ?_, grown_next (v' := v) (grown_blw (grown_refl w _) hb) (.inl rfl) hg, ?_, fun y hy => by simp at hy; subst hy; show l.length ≤ cap ∧ cap ≤ maxLen; have := HL.out; omega⟩
    · refine (HO.out.below hb).push ⟨g, cap, l⟩ hB (HR.out.below hb) HLT.out (by rw [Sv.v, HL.out]; exact hown) hg hn
    · rcases hat with e | e
      · exact .inl e
      · exact .inr ⟨_, e, by first | omega | (simp; omega)⟩

theorem good_snoc {l : List Int} {k : Nat} (h : ∀ i, i < l.length → lineN (l.getD i 0) = true) (hk : k < 27) : ∀ i, i < (l ++ [(k : Int)]).length → lineN ((l ++ [(k : Int)]).getD i 0) = true := by
  intro i hi
  simp only [List.length_append, List.length_cons, List.length_nil] at hi
  by_cases e : i = l.length
  · subst e
    simp [List.getD, lineN, inB]
    omega
  · have hi' : i < l.length := by omega
    have := h i hi'
    simpa [List.getD, List.getElem?_append_left hi'] using this
theorem row_new {w w' : World} {v' : Value} {l : List Int} {k : Int} {b : Nat} (ho : w'.ownsRow b 3 1 v' (l.length + 1) (ivs l ++ [.int .i64 k])) (hn : ¬ v' = .slice none 0 0) : ∃ g cap, v' = .slice (some ⟨g, 0, none⟩) (l ++ [k]).length cap ∧ b ≤ g ∧ Row w' g (l ++ [k]) := by
  refine Row.of_owns ?_ hn
  rw [iv_snoc, List.length_append]
  simpa using ho

/-- What l2Grow keeps for lists that lack m lines. -/
def GrowK (m : Nat) : Prop := ∀ (B g cap : Nat) (l : List Int) (v : Value) (xs : List Sv) (w : World), l.length + m = 6 → (∀ i, i < l.length → lineN (l.getD i 0) = true) → Row w g l → OwnS w B v xs → B ≤ w.heap.size → (l.length = 6 → B ≤ g ∧ (∀ y ∈ xs, y.g < g) ∧ (6 ≤ cap ∧ cap ≤ maxLen)) → xs.length + (grow m l).length ≤ 1000 →
    Calls Try.prog 82 #[.slice (some ⟨g, 0, none⟩) l.length cap, v] w (GrowR w B v xs (grow m l))
theorem growK_0 : GrowK 0 := fun B g cap l v xs w hl _ hr ho _ hlt hn => l2Grow_six B g cap l v xs w (by omega) hr ho (hlt (by omega)).1 (hlt (by omega)).2.1 (hlt (by omega)).2.2 (by simpa [grow] using hn)

set_option maxRecDepth 20000 in
set_option maxHeartbeats 16000000 in
theorem growK_s (m : Nat) (ih : GrowK m) : GrowK (m + 1) := by
  intro B g cap l v xs w hl hg hr ho hB hlt hn
  obtain ⟨i0, hi0, hz0, hz1, hz2⟩ := info_parts Try.info3
  have hfr := frm_le hg
  have HF := Lib.hid (show ∃ f, f = frm l from ⟨_, rfl⟩)
  have HN := Lib.hid (fun k (hk : k ≤ 27) => Nat.le_trans (Nat.add_le_add_left (gK_le (m := m) (l := l) hk) xs.length) hn)
  have HR := Lib.hid hr
  have HO := Lib.hid ho
  have HG := Lib.hid hg
  have HGS := Lib.hid (grow_s m l)
  have ht : ((l.length : Int) == 6) = false := by
    rw [beq_eq_false_iff_ne]
    omega
  have IH := Lib.hid ih
  clear hr ho hlt ih hn hg
  by_cases h0 : l.length = 0
  · have hd : decide ((0 : Int) < (l.length : Int)) = false := decide_eq_false (by omega)
    have hd2 : decide (0 < l.length) = false := decide_eq_false (by omega)
    have hst0 : (0 : Int) = (frm l : Nat) := by simp [frm, h0]
    have hst := Lib.hid hst0
    clear h0 hst0
    go_enter Try.func82, Try.ntmps82
    go_wp2_with fail
    go_loopw [1, 6] (fun a c wr => ∃ (vv : Value) (k : Nat), vv = a ∧ frm l ≤ k ∧ k ≤ 27 ∧ c = .int .i64 k ∧ GrSt w wr B v vv xs (gK m l k)) (fun _ c _ => 27 - (intOf c).toNat)
    case atStart => exact ⟨v, frm l, rfl, Nat.le_refl _, hfr, by first | rfl | (rw [← hst.out]; done) | (rw [← hst.out]; go_num), by rw [gK_0]; exact GrSt.start HO.out⟩
    case round =>
      clear hst
      obtain ⟨vv, k, rfl, hfk, hk, rfl, hgs⟩ := hrel
      by_cases hlk : k < 27
      · have hdk : decide ((k : Int) < 27) = true := by simp; omega
        have H0 := Lib.hid hgs
        clear hgs
        go_wp2_with fail
        go_loopw [7, 8] (fun ok c wr => ∃ i : Nat, i ≤ l.length ∧ c = .int .i64 i ∧ ok = .bool (skewTo l k i) ∧ GrSt w wr B v vv xs (gK m l k)) (fun _ c _ => l.length - (intOf c).toNat)
        case atStart => exact ⟨0, by omega, rfl, rfl, H0.out.below (by (repeat (first | (with_reducible exact Below.refl _ _) | (with_reducible refine bl_alloc ?_ ?_ _; focus (first | omega | (simp; done) | (simp; omega))) | (with_reducible refine bl_set ?_ ?_ _; focus (first | omega | (simp; done) | (simp; omega))) | (with_reducible refine Below.drew ?_) | (with_reducible refine below_drewN ?_ _) | (with_reducible refine below_step ?_ (by assumption)))))⟩
        case round =>
          clear H0
          obtain ⟨i, hi, rfl, rfl, hgs⟩ := hrel
          have H0 := Lib.hid hgs
          clear hgs
          by_cases hli : i < l.length
          · have hdi : decide ((i : Int) < (l.length : Int)) = true := by simp; omega
            have hlx := lineN_nat (HG.out i hli)
            have ci := (H0.out.row HO.out HR.out).cell i hli
            rw [← hlx.2] at ci
            have hlx1 := hlx.1
            have b14 : (0 : Int) ≤ (i : Int) := by omega
            have b15 : (i : Int) < (l.length : Int) := by omega
            have HST := Lib.hid (show skewTo l k (i + 1) = (skewTo l k i && !mtB (l.getD i 0).toNat k) from rfl)
            have HSY := Lib.hid (mt_all6 k hlk _ hlx.1)
            have K := Lib.hid (fun W : World => l2Meets_any k _ hlk hlx.1 W)
            generalize (l.getD i 0).toNat = y at ci hlx1 HST HSY K
            clear hlx
            cases hs : skewTo l k i
            · have HS := Lib.hid hs
              go_wp2_with fail
              go_roundw
              case rel => first | exact ⟨i + 1, by omega, by go_num, by rw [HST.out, HS.out]; rfl, H0.out⟩ | ((repeat apply Exists.intro); (refine ⟨?_, rfl⟩); exact ⟨i + 1, by omega, by go_num, by rw [HST.out, HS.out]; rfl, H0.out⟩)
              case measure => ((simp [intOf]) <;> omega)
            · have HS := Lib.hid hs
              cases hm : mtB y k
              all_goals
                have HM := Lib.hid hm
                go_wp2_with fail
                refine (K.out _).mono ?_
                rintro e w2 ⟨rfl, hb⟩
                have H1 := Lib.hid (H0.out.below hb)
                rw [HSY.out, HM.out]
                clear hb
                go_wp2_with fail
                go_roundw
                case rel => first | exact ⟨i + 1, by omega, by go_num, by rw [HST.out, HS.out, HM.out]; rfl, H1.out⟩ | ((repeat apply Exists.intro); (refine ⟨?_, rfl⟩); exact ⟨i + 1, by omega, by go_num, by rw [HST.out, HS.out, HM.out]; rfl, H1.out⟩)
                case measure => ((simp [intOf]) <;> omega)
          · obtain rfl : i = l.length := by omega
            cases hs : skewTo l k l.length
            · have HS := Lib.hid hs
              go_wp2_with fail
              go_roundw
              case rel => first | exact ⟨vv, k + 1, rfl, by omega, by omega, by go_num, by rw [gK_f HS.out]; exact H0.out⟩ | ((repeat apply Exists.intro); (refine ⟨?_, rfl⟩); exact ⟨vv, k + 1, rfl, by omega, by omega, by go_num, by rw [gK_f HS.out]; exact H0.out⟩)
              case measure => ((simp [intOf]) <;> omega)
            · have HS := Lib.hid hs
              obtain ⟨ys, hys, hoy, hgy, hfy, hcy⟩ := H0.out
              have HRW := Lib.hid ((H0.out.row HO.out HR.out).below ((Below.refl _ _).alloc (Nat.le_refl _) (.cells #[] 3)))
              have HYS := Lib.hid hys
              have HOY := Lib.hid hoy
              have HGY := Lib.hid hgy
              have HFY := Lib.hid hfy
              have HCY := Lib.hid hcy
              have hll : l.length ≤ 5 := by omega
              clear hys hoy hgy hfy hcy H0 hs
              go_wp2_with (first | (at_builtin; (refine wpList_append_own _ rfl _ _ 38 rfl wr.heap.size 3 i0 (.int .i64 0) 1 8 Try.underlying38 hi0 hz0 hz1 hz2 rfl (by decide) _ 0 [] rfl (owns_empty wr _) ⟨g, 0, none⟩ l.length cap (ivs l) rfl (by rw [ivs_len, Nat.mul_one]) HRW.out.news (ivs_one l) (by unfold maxLen; omega) (by omega) (by simp) ?_)) | fail)
              intro v1 w1 ho1 hg1 hn1
              have HO1 : Hid (w1.ownsRow wr.heap.size 3 1 v1 l.length (ivs l)) := Lib.hid (by simpa using ho1)
              have hb1 : Below wr.heap.size wr w1 := below_own ((Below.refl _ _).alloc (Nat.le_refl _) _) (owns_empty wr _) hg1 (Nat.le_refl _) (by simp)
              have HB1 := Lib.hid hb1
              have hzA := hb1.size
              clear ho1 hg1 hn1 hb1
              go_wp2_with (first | (at_builtin; (refine wpList_append_own _ rfl _ _ 38 rfl wr.heap.size 3 i0 (.int .i64 0) 1 8 Try.underlying38 hi0 hz0 hz1 hz2 rfl (by decide) v1 l.length (ivs l) rfl (owns_below HO1.out ((Below.refl _ _).alloc (Nat.le_refl _) _)) ⟨_, 0, none⟩ 1 1 [.int .i64 (k : Int)] rfl rfl (new_one _ _ _) one_of (by unfold maxLen; omega) (by omega) (by simp; omega) ?_)) | fail)
              intro v2 w2 ho2 hg2 hn2
              have hnn : ¬ v2 = .slice none 0 0 := by
                intro e
                first
                  | exact hn2 e
                  | exact absurd (hn2.1 e).2 (by decide)
              have hb2 : Below wr.heap.size wr w2 := below_own (HB1.out.alloc HB1.out.size _) (owns_below HO1.out ((Below.refl _ _).alloc (Nat.le_refl _) _)) hg2 (Nat.le_refl _) (by simp; omega)
              obtain ⟨g2, cap2, rfl, hgg, hr2⟩ := row_new (w := w2) ho2 hnn
              have hcp2 := owns_cap ho2
              have e1 : (l ++ [(k : Int)]).length = l.length + 1 := by simp
              have hkt := gK_t (m := m) hfk HS.out
              have hzB := hb2.size
              have hlen : (xs ++ ys).length + (grow m (l ++ [(k : Int)])).length ≤ 1000 := by
                have h1 := HN.out (k + 1) (by omega)
                rw [hkt, List.length_append, ← HYS.out, lls_len] at h1
                rw [List.length_append]
                omega
              have K := IH.out B g2 cap2 (l ++ [(k : Int)]) vv (xs ++ ys) w2 (by rw [e1]; omega) (good_snoc HG.out hlk) hr2 (HOY.out.below hb2) (by have := HGY.out.size; omega) (fun h6 => ⟨by have := HGY.out.size; omega, fun y hy => Nat.lt_of_lt_of_le (HOY.out.2.1.lt y hy) hgg, by omega⟩) hlen
              rw [e1] at K
              have HK := Lib.hid K
              have HKT := Lib.hid hkt
              have HG2 := Lib.hid (grown_blw HGY.out hb2)
              rw [e1]
              clear K hcp2 ho2 hg2 hn2 hnn hb2 hr2 e1 hkt hlen hgg
              go_wp2_with fail
              refine HK.out.mono ?_
              rintro e w3 ⟨v3, rfl, hst3⟩
              have H3 := Lib.hid (GrSt.next HYS.out HG2.out HFY.out HCY.out hst3)
              clear hst3 HK
              go_wp2_with fail
              go_roundw
              case rel => first | exact ⟨v3, k + 1, rfl, by omega, by omega, by go_num, by rw [HKT.out]; exact H3.out⟩ | ((repeat apply Exists.intro); (refine ⟨?_, rfl⟩); exact ⟨v3, k + 1, rfl, by omega, by omega, by go_num, by rw [HKT.out]; exact H3.out⟩)
              case measure => ((simp [intOf]) <;> omega)
      · obtain rfl : k = 27 := by omega
        go_wp2_with fail
        go_ret
        exact ⟨_, rfl, by rw [HGS.out]; exact hgs⟩
  · obtain ⟨p, hp⟩ : ∃ p, l.length = p + 1 := ⟨l.length - 1, by omega⟩
    have hd : decide ((0 : Int) < (l.length : Int)) = true := decide_eq_true (by omega)
    have hd2 : decide (0 < l.length) = true := decide_eq_true (by omega)
    have hln := lineN_nat (HG.out p (by omega))
    have hst0 : ((ln l p : Nat) : Int) + 1 = (frm l : Nat) := by simp [frm, hp]
    have cp := HR.out.cell p (by omega)
    rw [← hln.2] at cp
    have hx := hln.1
    have b8 : IntKind.i64.wrap ((l.length : Int) - 1) = (p : Int) := by rw [IntWalk.i64_in _ (by omega)]; omega
    have b9 : (l.length : Int) - 1 = (p : Int) := by omega
    have b10 : IntKind.i64.wrap (p : Int) = (p : Int) := IntWalk.i64_in _ (by omega)
    have b12 : (0 : Int) ≤ (p : Int) := by omega
    have b13 : (p : Int) < (l.length : Int) := by omega
    clear hln hp h0
    rw [show ln l p = (l.getD p 0).toNat from rfl] at hst0
    have hst := Lib.hid hst0
    clear hst0
    generalize (l.getD p 0).toNat = x at cp hx hst
    go_enter Try.func82, Try.ntmps82
    go_wp2_with fail
    go_loopw [1, 6] (fun a c wr => ∃ (vv : Value) (k : Nat), vv = a ∧ frm l ≤ k ∧ k ≤ 27 ∧ c = .int .i64 k ∧ GrSt w wr B v vv xs (gK m l k)) (fun _ c _ => 27 - (intOf c).toNat)
    case atStart => exact ⟨v, frm l, rfl, Nat.le_refl _, hfr, by first | rfl | (rw [← hst.out]; done) | (rw [← hst.out]; go_num), by rw [gK_0]; exact GrSt.start HO.out⟩
    case round =>
      clear hst
      obtain ⟨vv, k, rfl, hfk, hk, rfl, hgs⟩ := hrel
      by_cases hlk : k < 27
      · have hdk : decide ((k : Int) < 27) = true := by simp; omega
        have H0 := Lib.hid hgs
        clear hgs
        go_wp2_with fail
        go_loopw [7, 8] (fun ok c wr => ∃ i : Nat, i ≤ l.length ∧ c = .int .i64 i ∧ ok = .bool (skewTo l k i) ∧ GrSt w wr B v vv xs (gK m l k)) (fun _ c _ => l.length - (intOf c).toNat)
        case atStart => exact ⟨0, by omega, rfl, rfl, H0.out.below (by (repeat (first | (with_reducible exact Below.refl _ _) | (with_reducible refine bl_alloc ?_ ?_ _; focus (first | omega | (simp; done) | (simp; omega))) | (with_reducible refine bl_set ?_ ?_ _; focus (first | omega | (simp; done) | (simp; omega))) | (with_reducible refine Below.drew ?_) | (with_reducible refine below_drewN ?_ _) | (with_reducible refine below_step ?_ (by assumption)))))⟩
        case round =>
          clear H0
          obtain ⟨i, hi, rfl, rfl, hgs⟩ := hrel
          have H0 := Lib.hid hgs
          clear hgs
          by_cases hli : i < l.length
          · have hdi : decide ((i : Int) < (l.length : Int)) = true := by simp; omega
            have hlx := lineN_nat (HG.out i hli)
            have ci := (H0.out.row HO.out HR.out).cell i hli
            rw [← hlx.2] at ci
            have hlx1 := hlx.1
            have b14 : (0 : Int) ≤ (i : Int) := by omega
            have b15 : (i : Int) < (l.length : Int) := by omega
            have HST := Lib.hid (show skewTo l k (i + 1) = (skewTo l k i && !mtB (l.getD i 0).toNat k) from rfl)
            have HSY := Lib.hid (mt_all6 k hlk _ hlx.1)
            have K := Lib.hid (fun W : World => l2Meets_any k _ hlk hlx.1 W)
            generalize (l.getD i 0).toNat = y at ci hlx1 HST HSY K
            clear hlx
            cases hs : skewTo l k i
            · have HS := Lib.hid hs
              go_wp2_with fail
              go_roundw
              case rel => first | exact ⟨i + 1, by omega, by go_num, by rw [HST.out, HS.out]; rfl, H0.out⟩ | ((repeat apply Exists.intro); (refine ⟨?_, rfl⟩); exact ⟨i + 1, by omega, by go_num, by rw [HST.out, HS.out]; rfl, H0.out⟩)
              case measure => ((simp [intOf]) <;> omega)
            · have HS := Lib.hid hs
              cases hm : mtB y k
              all_goals
                have HM := Lib.hid hm
                go_wp2_with fail
                refine (K.out _).mono ?_
                rintro e w2 ⟨rfl, hb⟩
                have H1 := Lib.hid (H0.out.below hb)
                rw [HSY.out, HM.out]
                clear hb
                go_wp2_with fail
                go_roundw
                case rel => first | exact ⟨i + 1, by omega, by go_num, by rw [HST.out, HS.out, HM.out]; rfl, H1.out⟩ | ((repeat apply Exists.intro); (refine ⟨?_, rfl⟩); exact ⟨i + 1, by omega, by go_num, by rw [HST.out, HS.out, HM.out]; rfl, H1.out⟩)
                case measure => ((simp [intOf]) <;> omega)
          · obtain rfl : i = l.length := by omega
            cases hs : skewTo l k l.length
            · have HS := Lib.hid hs
              go_wp2_with fail
              go_roundw
              case rel => first | exact ⟨vv, k + 1, rfl, by omega, by omega, by go_num, by rw [gK_f HS.out]; exact H0.out⟩ | ((repeat apply Exists.intro); (refine ⟨?_, rfl⟩); exact ⟨vv, k + 1, rfl, by omega, by omega, by go_num, by rw [gK_f HS.out]; exact H0.out⟩)
              case measure => ((simp [intOf]) <;> omega)
            · have HS := Lib.hid hs
              obtain ⟨ys, hys, hoy, hgy, hfy, hcy⟩ := H0.out
              have HRW := Lib.hid ((H0.out.row HO.out HR.out).below ((Below.refl _ _).alloc (Nat.le_refl _) (.cells #[] 3)))
              have HYS := Lib.hid hys
              have HOY := Lib.hid hoy
              have HGY := Lib.hid hgy
              have HFY := Lib.hid hfy
              have HCY := Lib.hid hcy
              have hll : l.length ≤ 5 := by omega
              clear hys hoy hgy hfy hcy H0 hs
              go_wp2_with (first | (at_builtin; (refine wpList_append_own _ rfl _ _ 38 rfl wr.heap.size 3 i0 (.int .i64 0) 1 8 Try.underlying38 hi0 hz0 hz1 hz2 rfl (by decide) _ 0 [] rfl (owns_empty wr _) ⟨g, 0, none⟩ l.length cap (ivs l) rfl (by rw [ivs_len, Nat.mul_one]) HRW.out.news (ivs_one l) (by unfold maxLen; omega) (by omega) (by simp) ?_)) | fail)
              intro v1 w1 ho1 hg1 hn1
              have HO1 : Hid (w1.ownsRow wr.heap.size 3 1 v1 l.length (ivs l)) := Lib.hid (by simpa using ho1)
              have hb1 : Below wr.heap.size wr w1 := below_own ((Below.refl _ _).alloc (Nat.le_refl _) _) (owns_empty wr _) hg1 (Nat.le_refl _) (by simp)
              have HB1 := Lib.hid hb1
              have hzA := hb1.size
              clear ho1 hg1 hn1 hb1
              go_wp2_with (first | (at_builtin; (refine wpList_append_own _ rfl _ _ 38 rfl wr.heap.size 3 i0 (.int .i64 0) 1 8 Try.underlying38 hi0 hz0 hz1 hz2 rfl (by decide) v1 l.length (ivs l) rfl (owns_below HO1.out ((Below.refl _ _).alloc (Nat.le_refl _) _)) ⟨_, 0, none⟩ 1 1 [.int .i64 (k : Int)] rfl rfl (new_one _ _ _) one_of (by unfold maxLen; omega) (by omega) (by simp; omega) ?_)) | fail)
              intro v2 w2 ho2 hg2 hn2
              have hnn : ¬ v2 = .slice none 0 0 := by
                intro e
                first
                  | exact hn2 e
                  | exact absurd (hn2.1 e).2 (by decide)
              have hb2 : Below wr.heap.size wr w2 := below_own (HB1.out.alloc HB1.out.size _) (owns_below HO1.out ((Below.refl _ _).alloc (Nat.le_refl _) _)) hg2 (Nat.le_refl _) (by simp; omega)
              obtain ⟨g2, cap2, rfl, hgg, hr2⟩ := row_new (w := w2) ho2 hnn
              have hcp2 := owns_cap ho2
              have e1 : (l ++ [(k : Int)]).length = l.length + 1 := by simp
              have hkt := gK_t (m := m) hfk HS.out
              have hzB := hb2.size
              have hlen : (xs ++ ys).length + (grow m (l ++ [(k : Int)])).length ≤ 1000 := by
                have h1 := HN.out (k + 1) (by omega)
                rw [hkt, List.length_append, ← HYS.out, lls_len] at h1
                rw [List.length_append]
                omega
              have K := IH.out B g2 cap2 (l ++ [(k : Int)]) vv (xs ++ ys) w2 (by rw [e1]; omega) (good_snoc HG.out hlk) hr2 (HOY.out.below hb2) (by have := HGY.out.size; omega) (fun h6 => ⟨by have := HGY.out.size; omega, fun y hy => Nat.lt_of_lt_of_le (HOY.out.2.1.lt y hy) hgg, by omega⟩) hlen
              rw [e1] at K
              have HK := Lib.hid K
              have HKT := Lib.hid hkt
              have HG2 := Lib.hid (grown_blw HGY.out hb2)
              rw [e1]
              clear K hcp2 ho2 hg2 hn2 hnn hb2 hr2 e1 hkt hlen hgg
              go_wp2_with fail
              refine HK.out.mono ?_
              rintro e w3 ⟨v3, rfl, hst3⟩
              have H3 := Lib.hid (GrSt.next HYS.out HG2.out HFY.out HCY.out hst3)
              clear hst3 HK
              go_wp2_with fail
              go_roundw
              case rel => first | exact ⟨v3, k + 1, rfl, by omega, by omega, by go_num, by rw [HKT.out]; exact H3.out⟩ | ((repeat apply Exists.intro); (refine ⟨?_, rfl⟩); exact ⟨v3, k + 1, rfl, by omega, by omega, by go_num, by rw [HKT.out]; exact H3.out⟩)
              case measure => ((simp [intOf]) <;> omega)
      · obtain rfl : k = 27 := by omega
        go_wp2_with fail
        go_ret
        exact ⟨_, rfl, by rw [HGS.out]; exact hgs⟩

end Go.Proofs.Ytogmfadeedmmaaa
