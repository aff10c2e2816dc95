/- The contract of eachSkew in the program: all sixes that begin with a list are told to the closure of LineSixes, and those that have the line lie in the box. It holds for every list of lines, in whatever memory. -/
import Derived.Test.YtogmfadeedmmaaaTell
namespace Go.Proofs.Ytogmfadeedmmaaa
open Go.RowKit
set_option linter.unusedSimpArgs false
set_option linter.unusedVariables false

/-- A list that is nil or lies in a block from its beginning on. -/
def SixV (w : World) (a : Option Addr) (cap : Nat) (l : List Int) : Prop := (a = none ∧ l = [] ∧ cap = 0) ∨ ∃ g, a = some ⟨g, 0, none⟩ ∧ Row w g l
theorem SixV.rd {w : World} {a : Option Addr} {cap : Nat} {l : List Int} (h : SixV w a cap l) : Rd w a l := by
  rcases h with ⟨_, rfl, _⟩ | ⟨g, rfl, hr⟩
  · exact .inl rfl
  · exact hr.rd
theorem SixV.below {w w' : World} {a : Option Addr} {cap : Nat} {l : List Int} (h : SixV w a cap l) (hb : Below w.heap.size w w') : SixV w' a cap l := by
  rcases h with h | ⟨g, rfl, hr⟩
  · exact .inl h
  · exact .inr ⟨g, rfl, hr.below hb⟩
theorem SixV.grew {w w' : World} {B b : Nat} {a : Option Addr} {cap : Nat} {l : List Int} {v : Value} {xs : List Sv} {L : List (List Int)} (h : SixV w a cap l) (hs : SkSt w w' B b v xs L) (ho : OwnS w B v xs) (hb : BoxS w b v) : SixV w' a cap l := by
  rcases h with h | ⟨g, rfl, hr⟩
  · exact .inl h
  · exact .inr ⟨g, rfl, hs.row ho hb hr⟩
theorem SixV.none {w : World} {a : Option Addr} {cap : Nat} {l : List Int} (h : SixV w a cap l) : a = none → l.length = 0 ∧ cap = 0 := by
  rintro rfl
  rcases h with ⟨_, rfl, rfl⟩ | ⟨g, e, _⟩
  · exact ⟨rfl, rfl⟩
  · cases e
theorem SixV.news {w : World} {a : Option Addr} {cap : Nat} {l : List Int} (h : SixV w a cap l) : ∀ ad, a = some ad → ∀ j u, (ivs l)[j]? = some u → w.cell? (ad.add j) = some u := by
  rintro ad rfl
  rcases h with ⟨e, _, _⟩ | ⟨g, e, hr⟩
  · cases e
  · obtain rfl : ad = ⟨g, 0, Option.none⟩ := by simpa using e
    exact hr.news
/-- An append to an owned row of what may be nil, at a step of a region that draws. -/
theorem step_ownA {P : Program} {w : World} {ops : Array Oper} {o : Oper} {a : Act} {K : Act → World → Prop} {Q : Exit → Act → World → Prop} {E : Prop} (hgd : o.guard = none) (s x : Operand) (t : TypeId)
    (ho : o.op = .call { callee := .builtin .append, args := #[s, x], argTypes := #[t, t] })
    (base : Nat) (e : TypeId) (i : TypeInfo) (z : Value) (size bytes : Nat) (ht : P.underlying t = some (.slice e)) (hi : P.info? e = some i) (hz : i.zero = some z)
    (hsize : i.size = size) (hby : i.bytes = bytes) (hzs : z.cells.size = size) (hsz : 0 < size)
    (v : Value) (n : Nat) (xs : List Value) (hs : a.eval s = v) (hown : w.ownsRow base e size v n xs)
    (ao : Option Addr) (m c : Nat) (news : List Value) (hx : a.eval x = .slice ao m c) (hl : news.length = m * size) (hnone : ao = none → m = 0 ∧ c = 0) (hnews : ∀ ad, ao = some ad → ∀ j u, news[j]? = some u → w.cell? (ad.add j) = some u) (h1 : ∀ u ∈ news, u.oneCell' = true)
    (h63 : n + m ≤ maxLen) (hbytes : (n + m) * bytes ≤ 140737488355328) (hbase : base ≤ w.heap.size)
    (h : ∀ v' w', w'.ownsRow base e size v' (n + m) (xs ++ news) → w.grownBy w' v.ownBlock → (v' = .slice none 0 0 ↔ v = .slice none 0 0 ∧ m = 0) → K (a.put o.dst v') w') :
    if Region.wanted o (yielded ops a.tmps) = true then Oper.wp P o a w K Q else E := by
  have hw : Region.wanted o (yielded ops a.tmps) = true := by simp [Region.wanted, hgd]
  rw [if_pos hw]
  cases ao with
  | some ad => exact wp_append_own w s x t ho base e i z size bytes ht hi hz hsize hby hzs hsz v n xs hs hown ad m c news hx hl (hnews ad rfl) h1 h63 hbytes hbase h
  | none =>
    obtain ⟨rfl, rfl⟩ := hnone rfl
    have hnews : news = [] := List.eq_nil_of_length_eq_zero (by simpa using hl)
    subst hnews
    have hrun := run_append_owned_none (P := P) w base t o.type e i size ht hi v n xs hown
    unfold Oper.wp
    simp [execOp, ho, resolve, invoke, builtin, hs, hx, hrun, Result.andThen]
    exact h v w (by simpa using hown) (grown_refl w _) (by simp)
theorem owns_e1 {w : World} {t : TypeId} {k B : Nat} (hk : k = w.heap.size) (hB : B ≤ k) : (w.alloc (.cells #[] t)).ownsRow B t 1 (.slice (some ⟨k, 0, none⟩) 0 0) 0 [] := by
  subst hk
  exact World.ownsRow_made w #[] 0 hB (by unfold maxLen; omega) rfl
/-- The number in a box. -/
def boxK (c : Value) (w : World) : Nat := match c with
  | .pointer (some a) => (match w.cell? a with
    | some (.int _ k) => k.toNat
    | _ => 0)
  | _ => 0
theorem boxK_eq {w : World} {b : Nat} {k : Int} (h : BoxI w b k) : boxK (.pointer (some ⟨b, 0, none⟩)) w = k.toNat := by
  simp [boxK, h.c]
theorem box_newI (w : World) (k : Nat) {n : Int} (h : n = (k : Int)) : BoxI (w.alloc (.cells #[.int .i64 n] 3)) w.heap.size k := by
  rw [h]
  exact alloc_at w _ _ rfl
def hasN (n : Int) (l : List Int) : Bool := l.contains n

/-- What eachSkew keeps for lists that lack m lines. -/
def SkewK (n : Int) (m : Nat) : Prop := ∀ (B b1 b2 cap : Nat) (a : Option Addr) (l : List Int) (v : Value) (xs : List Sv) (w : World), l.length + m = 6 → (∀ i, i < l.length → lineN (l.getD i 0) = true) → SixV w a cap l → BoxI w b1 n → BoxS w b2 v → OwnS w B v xs → B ≤ w.heap.size → xs.length + (grow m l).length ≤ 1000 →
    Calls Try.prog 80 #[.slice a l.length cap, .func (.func 81) #[] #[.pointer (some ⟨b1, 0, none⟩), .pointer (some ⟨b2, 0, none⟩)]] w fun e w' => e = .returned (.tuple #[]) ∧ SkSt w w' B b2 v xs ((grow m l).filter (hasN n))

set_option maxRecDepth 20000 in
set_option maxHeartbeats 4000000 in
theorem skewK_0 (n : Int) : SkewK n 0 := by
  intro B b1 b2 cap a l v xs w hl hg hs h1 h2 ho hB hn
  have hl6 : l.length = 6 := by omega
  rcases hs with ⟨_, rfl, _⟩ | ⟨g, rfl, hr⟩
  · simp at hl6
  have K := Lib.hid (tell_any n g cap b1 b2 B l v xs w hl6 hr h1 h2 ho hB (by simpa [grow] using hn))
  clear hr h1 h2 ho hg hn
  rw [hl6] at K
  rw [hl6]
  clear hl hl6
  go_enter Try.func80, Try.ntmps80
  go_wp2_with (first | (go_at_call 81; ((with_reducible refine (K.out).mono ?_); rintro e w' ⟨rfl, hs⟩)) | fail)
  have HS := Lib.hid hs
  clear hs
  go_wp2_with fail
  refine bodyPost_ret (results_none rfl _ _ _) rfl ?_
  exact ⟨rfl, HS.out⟩

/-- THE STEP: a list that lacks one line more. -/
theorem sk_row {w w1 : World} {v' : Value} {l : List Int} {k : Int} (ho : w1.ownsRow w.heap.size 3 1 v' (0 + l.length + 1) (([] ++ ivs l) ++ [.int .i64 k])) (hn : v' = .slice none 0 0 ↔ False ∧ (1 : Nat) = 0) : ∃ g cap, v' = .slice (some ⟨g, 0, none⟩) (l.length + 1) cap ∧ w.heap.size ≤ g ∧ Row w1 g (l ++ [k]) := by
  obtain ⟨g, cap, e, h1, h2⟩ := row_new (w := w) (w' := w1) (l := l) (k := k) (b := w.heap.size) (v' := v') (by simpa using ho) (fun e => (hn.1 e).1)
  exact ⟨g, cap, by rw [e]; simp, h1, h2⟩

set_option maxRecDepth 20000 in
set_option maxHeartbeats 16000000 in
theorem skewK_s (n : Int) (m : Nat) (ih : SkewK n m) : SkewK n (m + 1) := by
  intro B b1 b2 cap a l v xs w hl hg hsv h1 h2 ho hB hn
  obtain ⟨i0, hi0, hz0, hz1, hz2⟩ := info_parts Try.info3
  have hfr := frm_le hg
  have HN := Lib.hid (fun k (hk : k ≤ 27) => Nat.le_trans (Nat.add_le_add_left (gK_le (m := m) (l := l) hk) xs.length) hn)
  have HV := Lib.hid hsv
  have HO := Lib.hid ho
  have HG := Lib.hid hg
  have HX1 := Lib.hid h1
  have HX2 := Lib.hid h2
  have HGS := Lib.hid (grow_s m l)
  have ht : ((l.length : Int) == 6) = false := by
    rw [beq_eq_false_iff_ne]
    omega
  have IH := Lib.hid ih
  clear hsv ho ih hn hg h1 h2
  by_cases h0 : l.length = 0
  · have hd : decide ((0 : Int) < (l.length : Int)) = false := decide_eq_false (by omega)
    have hd2 : decide (0 < l.length) = false := decide_eq_false (by omega)
    have hst0 : (0 : Int) = (frm l : Nat) := by simp [frm, h0]
    have hst := Lib.hid hst0
    clear h0 hst0
    go_enter Try.func80, Try.ntmps80
    go_wp2_with fail
    go_loopw [5] (fun c wr => ∃ k kb : Nat, frm l ≤ k ∧ k ≤ 27 ∧ c = .pointer (some ⟨kb, 0, none⟩) ∧ w.heap.size ≤ kb ∧ BoxI wr kb k ∧ SkSt w wr B b2 v xs ((gK m l k).filter (hasN n))) (fun c wr => 27 - boxK c wr)
    case atStart => exact ⟨frm l, w.heap.size, Nat.le_refl _, hfr, rfl, Nat.le_refl _, box_newI w _ (by first | rfl | (rw [← hst.out]; done) | (rw [← hst.out]; go_num)), by rw [gK_0]; exact (SkSt.start HO.out HX2.out).below (by (repeat (first | (with_reducible exact Below.refl _ _) | (with_reducible refine bl_alloc ?_ ?_ _; focus (first | omega | (simp; done) | (simp; omega))) | (with_reducible refine bl_set ?_ ?_ _; focus (first | omega | (simp; done) | (simp; omega))) | (with_reducible refine Below.drew ?_) | (with_reducible refine below_drewN ?_ _) | (with_reducible refine below_step ?_ (by assumption)))))⟩
    case round =>
      clear hst
      obtain ⟨k, kb, hfk, hk, rfl, hwk, hbox, hss⟩ := hrel
      have kc := hbox.c
      have kf := hbox.f
      have H0 := Lib.hid hss
      have HBX := Lib.hid hbox
      have hkb := hbox.lt
      have hw0 := hss.size
      clear hss hbox
      by_cases hlk : k < 27
      · have hdk : decide ((k : Int) < 27) = true := decide_eq_true (by omega)
        have HV0 := Lib.hid (HV.out.grew H0.out HO.out HX2.out)
        have K := Lib.hid (containsSk_any a l.length cap l k hlk kb (Nat.le_refl _) (by omega) HG.out wr HV0.out.rd hkb kc)
        cases hs : skewTo l k l.length
        · have HS := Lib.hid (show (gK m l (k + 1)).filter (hasN n) = (gK m l k).filter (hasN n) by rw [gK_f hs])
          rw [hs] at K
          clear hs
          go_wp2_with fail
          refine K.out.mono ?_
          rintro e w1 ⟨rfl, hb⟩
          have H1 := Lib.hid (H0.out.below hb)
          have hz1 := hb.size
          have kc1 := (hb.cell (p := ⟨kb, 0, none⟩) hkb).trans kc
          clear hb K
          go_wp2_with fail
          go_roundw
          case rel =>
            first
              | (refine ⟨k + 1, w1.heap.size, by omega, by omega, rfl, ?_, ?_, ?_⟩; (first | omega | (simp; omega)); exact box_newI w1 _ (by omega); exact ((by rw [HS.out]; exact H1.out : SkSt w w1 B b2 v xs ((gK m l (k + 1)).filter (hasN n)))).below (by (repeat (first | (with_reducible exact Below.refl _ _) | (with_reducible refine bl_alloc ?_ ?_ _; focus (first | omega | (simp; done) | (simp; omega))) | (with_reducible refine bl_set ?_ ?_ _; focus (first | omega | (simp; done) | (simp; omega))) | (with_reducible refine Below.drew ?_) | (with_reducible refine below_drewN ?_ _) | (with_reducible refine below_step ?_ (by assumption))))))
              | ((repeat apply Exists.intro); refine ⟨?_, rfl⟩; refine ⟨k + 1, w1.heap.size, by omega, by omega, rfl, ?_, ?_, ?_⟩; (first | omega | (simp; omega)); exact box_newI w1 _ (by omega); exact ((by rw [HS.out]; exact H1.out : SkSt w w1 B b2 v xs ((gK m l (k + 1)).filter (hasN n)))).below (by (repeat (first | (with_reducible exact Below.refl _ _) | (with_reducible refine bl_alloc ?_ ?_ _; focus (first | omega | (simp; done) | (simp; omega))) | (with_reducible refine bl_set ?_ ?_ _; focus (first | omega | (simp; done) | (simp; omega))) | (with_reducible refine Below.drew ?_) | (with_reducible refine below_drewN ?_ _) | (with_reducible refine below_step ?_ (by assumption))))))
          case measure => (rw [boxK_eq (box_newI w1 (k + 1) (by omega)), boxK_eq HBX.out]; omega)
        · have HS := Lib.hid hs
          have HKT := Lib.hid (gK_t (m := m) hfk hs)
          rw [hs] at K
          clear hs
          go_wp2_with fail
          refine K.out.mono ?_
          rintro e w1 ⟨rfl, hb⟩
          obtain ⟨v1, ys, hys, hbs, how, hgb, hfo, hcp⟩ := H0.out.below hb
          have hzA := hb.size
          have kc1 := (hb.cell (p := ⟨kb, 0, none⟩) hkb).trans kc
          have hkb1 : kb < w1.heap.size := by omega
          have HBX1 := Lib.hid (HBX.out.below hb)
          have HV1 := Lib.hid (HV0.out.below hb)
          have HYS := Lib.hid hys
          have HBS := Lib.hid hbs
          have HOW := Lib.hid how
          have HGB := Lib.hid hgb
          have HFO := Lib.hid hfo
          have HCP := Lib.hid hcp
          have HK : Hid (∀ (g2 cap2 : Nat) (w3 : World), w1.heap.size ≤ g2 → Row w3 g2 (l ++ [(k : Int)]) → Below w1.heap.size w1 w3 → Calls Try.prog 80 #[.slice (some ⟨g2, 0, none⟩) (l.length + 1) cap2, .func (.func 81) #[] #[.pointer (some ⟨b1, 0, none⟩), .pointer (some ⟨b2, 0, none⟩)]] w3 fun e w' => e = .returned (.tuple #[]) ∧ w'.cell? ⟨kb, 0, none⟩ = some (.int .i64 (k : Int)) ∧ BoxI w' kb k ∧ SkSt w w' B b2 v xs ((gK m l (k + 1)).filter (hasN n))) := Lib.hid (fun g2 cap2 w3 hgg hr2 hb3 => by
            have e1 : (l ++ [(k : Int)]).length = l.length + 1 := by simp
            have hlen : (xs ++ ys).length + (grow m (l ++ [(k : Int)])).length ≤ 1000 := by
              have h1 := HN.out (k + 1) (by omega)
              have h3 : ys.length ≤ (gK m l k).length := by rw [← lls_len, HYS.out]; exact List.length_filter_le _ _
              rw [HKT.out, List.length_append] at h1
              rw [List.length_append]
              omega
            have k1 := IH.out B b1 b2 cap2 (some ⟨g2, 0, none⟩) (l ++ [(k : Int)]) v1 (xs ++ ys) w3 (by rw [e1]; omega) (good_snoc HG.out hlk) (.inr ⟨g2, rfl, hr2⟩) ((HX1.out.kept ((HGB.out.below hb3).block b1 HX1.out.lt (fun e => HX2.out.ne_i HX1.out e.symm) (fun e => HX1.out.ne_own HO.out e.symm)))) (HBS.out.below hb3) (HOW.out.below hb3) (by have := hb3.size; omega) hlen
            rw [e1] at k1
            refine k1.mono ?_
            rintro e w' ⟨rfl, hs'⟩
            have hbx := hs'.boxI (HOW.out.below hb3) (HBS.out.below hb3) (HBX1.out.below hb3)
            refine ⟨rfl, hbx.c, hbx, ?_⟩
            have := SkSt.next HYS.out (HGB.out.below hb3) HFO.out HCP.out hs'
            rw [HKT.out, List.filter_append]
            exact this)
          clear hys hbs how hgb hfo hcp hb
          go_wp2_with fail
          go_region_held3 (fun w' => w'.cell? ⟨kb, 0, none⟩ = some (.int .i64 (k : Int))) ((first | assumption | (simp [*, World.cell?_alloc_some]; done))) ((first
            | (refine step_ownA rfl (.tmp 31) (.tmp 32) 38 rfl w1.heap.size 3 i0 (.int .i64 0) 1 8 Try.underlying38 hi0 hz0 hz1 hz2 rfl (by decide) (.slice (some ⟨w1.heap.size, 0, none⟩) 0 0) 0 [] rfl (owns_empty w1.drew 3) a l.length cap (ivs l) rfl (by rw [ivs_len, Nat.mul_one]) (HV1.out).none (SixV.news ((HV1.out).below (w' := (w1.drew.alloc (.cells #[] 3))) (by (repeat (first | (with_reducible exact Below.refl _ _) | (with_reducible refine bl_alloc ?_ ?_ _; focus (first | omega | (simp; done) | (simp; omega))) | (with_reducible refine bl_set ?_ ?_ _; focus (first | omega | (simp; done) | (simp; omega))) | (with_reducible refine Below.drew ?_) | (with_reducible refine below_drewN ?_ _) | (with_reducible refine below_step ?_ (by assumption))))))) (ivs_one l) (by unfold maxLen; omega) (by omega) (by first | omega | (simp; done) | (simp; omega)) ?_; intro v2 w2 hown2 hgrow2 hnil2; have hb2 : Below w1.heap.size w1 w2 := below_own (w := (w1.drew.alloc (.cells #[] 3))) (by (repeat (first | (with_reducible exact Below.refl _ _) | (with_reducible refine bl_alloc ?_ ?_ _; focus (first | omega | (simp; done) | (simp; omega))) | (with_reducible refine bl_set ?_ ?_ _; focus (first | omega | (simp; done) | (simp; omega))) | (with_reducible refine Below.drew ?_) | (with_reducible refine below_drewN ?_ _) | (with_reducible refine below_step ?_ (by assumption))))) (owns_empty w1.drew 3) hgrow2 (Nat.le_refl _) (by first | omega | (simp; done) | (simp; omega)); have hb2z := hb2.size; have sc2 := (hb2.cell (p := ⟨kb, 0, none⟩) hkb1).trans kc1)
            | (refine step_ownA rfl (.tmp 31) (.tmp 32) 38 rfl w1.heap.size 3 i0 (.int .i64 0) 1 8 Try.underlying38 hi0 hz0 hz1 hz2 rfl (by decide) (.slice (some ⟨w1.heap.size, 0, none⟩) 0 0) 0 [] rfl (owns_below (owns_empty w1.drew 3) ((Below.refl _ _).alloc (Nat.le_refl _) (.cells #[.int .i64 (k : Int)] 3))) a l.length cap (ivs l) rfl (by rw [ivs_len, Nat.mul_one]) (HV1.out).none (SixV.news ((HV1.out).below (w' := ((w1.drew.alloc (.cells #[] 3)).alloc (.cells #[.int .i64 (k : Int)] 3))) (by (repeat (first | (with_reducible exact Below.refl _ _) | (with_reducible refine bl_alloc ?_ ?_ _; focus (first | omega | (simp; done) | (simp; omega))) | (with_reducible refine bl_set ?_ ?_ _; focus (first | omega | (simp; done) | (simp; omega))) | (with_reducible refine Below.drew ?_) | (with_reducible refine below_drewN ?_ _) | (with_reducible refine below_step ?_ (by assumption))))))) (ivs_one l) (by unfold maxLen; omega) (by omega) (by first | omega | (simp; done) | (simp; omega)) ?_; intro v2 w2 hown2 hgrow2 hnil2; have hb2 : Below w1.heap.size w1 w2 := below_own (w := ((w1.drew.alloc (.cells #[] 3)).alloc (.cells #[.int .i64 (k : Int)] 3))) (by (repeat (first | (with_reducible exact Below.refl _ _) | (with_reducible refine bl_alloc ?_ ?_ _; focus (first | omega | (simp; done) | (simp; omega))) | (with_reducible refine bl_set ?_ ?_ _; focus (first | omega | (simp; done) | (simp; omega))) | (with_reducible refine Below.drew ?_) | (with_reducible refine below_drewN ?_ _) | (with_reducible refine below_step ?_ (by assumption))))) (owns_below (owns_empty w1.drew 3) ((Below.refl _ _).alloc (Nat.le_refl _) (.cells #[.int .i64 (k : Int)] 3))) hgrow2 (Nat.le_refl _) (by first | omega | (simp; done) | (simp; omega)); have hb2z := hb2.size; have sc2 := (hb2.cell (p := ⟨kb, 0, none⟩) hkb1).trans kc1)
            | (refine step_ownA rfl (.tmp 31) (.tmp 32) 38 rfl w1.heap.size 3 i0 (.int .i64 0) 1 8 Try.underlying38 hi0 hz0 hz1 hz2 rfl (by decide) (.slice (some ⟨w1.heap.size + 1, 0, none⟩) 0 0) 0 [] rfl (owns_e1 (w := w1.drew.alloc (.cells #[.int .i64 (k : Int)] 3)) (t := 3) (k := w1.heap.size + 1) (B := w1.heap.size) (by simp) (by omega)) a l.length cap (ivs l) rfl (by rw [ivs_len, Nat.mul_one]) (HV1.out).none (SixV.news ((HV1.out).below (w' := ((w1.drew.alloc (.cells #[.int .i64 (k : Int)] 3)).alloc (.cells #[] 3))) (by (repeat (first | (with_reducible exact Below.refl _ _) | (with_reducible refine bl_alloc ?_ ?_ _; focus (first | omega | (simp; done) | (simp; omega))) | (with_reducible refine bl_set ?_ ?_ _; focus (first | omega | (simp; done) | (simp; omega))) | (with_reducible refine Below.drew ?_) | (with_reducible refine below_drewN ?_ _) | (with_reducible refine below_step ?_ (by assumption))))))) (ivs_one l) (by unfold maxLen; omega) (by omega) (by first | omega | (simp; done) | (simp; omega)) ?_; intro v2 w2 hown2 hgrow2 hnil2; have hb2 : Below w1.heap.size w1 w2 := below_own (w := ((w1.drew.alloc (.cells #[.int .i64 (k : Int)] 3)).alloc (.cells #[] 3))) (by (repeat (first | (with_reducible exact Below.refl _ _) | (with_reducible refine bl_alloc ?_ ?_ _; focus (first | omega | (simp; done) | (simp; omega))) | (with_reducible refine bl_set ?_ ?_ _; focus (first | omega | (simp; done) | (simp; omega))) | (with_reducible refine Below.drew ?_) | (with_reducible refine below_drewN ?_ _) | (with_reducible refine below_step ?_ (by assumption))))) (owns_e1 (w := w1.drew.alloc (.cells #[.int .i64 (k : Int)] 3)) (t := 3) (k := w1.heap.size + 1) (B := w1.heap.size) (by simp) (by omega)) hgrow2 (Nat.le_refl _) (by first | omega | (simp; done) | (simp; omega)); have hb2z := hb2.size; have sc2 := (hb2.cell (p := ⟨kb, 0, none⟩) hkb1).trans kc1)
            | (refine step_ownA rfl (.tmp 33) (.tmp 35) 38 rfl w1.heap.size 3 i0 (.int .i64 0) 1 8 Try.underlying38 hi0 hz0 hz1 hz2 rfl (by decide) v2 (0 + l.length) ([] ++ ivs l) rfl (owns_below hown2 ((Below.refl _ _).alloc (Nat.le_refl _) (.cells #[.int .i64 (k : Int)] 3))) (some ⟨w2.heap.size, 0, none⟩) 1 1 [.int .i64 (k : Int)] rfl rfl (by intro h; cases h) (fun ad e => by cases e; exact new_one _ _ _) one_of (by unfold maxLen; omega) (by omega) (by first | omega | (simp; done) | (simp; omega)) ?_; intro v3 w3 hown3 hgrow3 hnil3; have hb3 : Below w1.heap.size w1 w3 := below_own (w := (w2.alloc (.cells #[.int .i64 (k : Int)] 3))) (hb2.alloc hb2.size _) (owns_below hown2 ((Below.refl _ _).alloc (Nat.le_refl _) (.cells #[.int .i64 (k : Int)] 3))) hgrow3 (Nat.le_refl _) (by first | omega | (simp; omega)); have hb3z := hb3.size; have sc3 := (hb3.cell (p := ⟨kb, 0, none⟩) hkb1).trans kc1)
            | (refine step_ownA rfl (.tmp 33) (.tmp 35) 38 rfl w1.heap.size 3 i0 (.int .i64 0) 1 8 Try.underlying38 hi0 hz0 hz1 hz2 rfl (by decide) v2 (0 + l.length) ([] ++ ivs l) rfl hown2 (some ⟨w1.heap.size + 1, 0, none⟩) 1 1 [.int .i64 (k : Int)] rfl rfl (by intro h; cases h) (fun ad e => by cases e; exact World.news_of_block (cs := #[.int .i64 (k : Int)]) (t := 3) (fr := (0, 0)) ((hgrow2.block (w1.heap.size + 1) (by simp) (by simp [Value.ownBlock])).trans (alloc_at _ _ _ (by simp)))) one_of (by unfold maxLen; omega) (by omega) (by first | omega | (simp; done) | (simp; omega)) ?_; intro v3 w3 hown3 hgrow3 hnil3; have hb3 : Below w1.heap.size w1 w3 := below_own (w := w2) hb2 hown2 hgrow3 (Nat.le_refl _) (by first | omega | (simp; omega)); have hb3z := hb3.size; have sc3 := (hb3.cell (p := ⟨kb, 0, none⟩) hkb1).trans kc1)
            | (refine step_ownA rfl (.tmp 33) (.tmp 35) 38 rfl w1.heap.size 3 i0 (.int .i64 0) 1 8 Try.underlying38 hi0 hz0 hz1 hz2 rfl (by decide) v2 (0 + l.length) ([] ++ ivs l) rfl hown2 (some ⟨w1.heap.size, 0, none⟩) 1 1 [.int .i64 (k : Int)] rfl rfl (by intro h; cases h) (fun ad e => by cases e; exact World.news_of_block (cs := #[.int .i64 (k : Int)]) (t := 3) (fr := (0, 0)) ((hgrow2.block w1.heap.size (by simp; try omega) (by simp [Value.ownBlock])).trans ((alloc_under _ _ _ (by simp)).trans (alloc_at _ _ _ (by simp))))) one_of (by unfold maxLen; omega) (by omega) (by first | omega | (simp; done) | (simp; omega)) ?_; intro v3 w3 hown3 hgrow3 hnil3; have hb3 : Below w1.heap.size w1 w3 := below_own (w := w2) hb2 hown2 hgrow3 (Nat.le_refl _) (by first | omega | (simp; omega)); have hb3z := hb3.size; have sc3 := (hb3.cell (p := ⟨kb, 0, none⟩) hkb1).trans kc1)
            | (go_at_call 80; obtain ⟨g2, cap2, rfl, hgg, hr2⟩ := sk_row hown3 (by simpa using hnil3); ((with_reducible refine (HK.out g2 cap2 w3 hgg hr2 hb3).mono ?_); rintro e w4 ⟨rfl, hs4⟩; have sc4 := hs4.1; have HS4 := Lib.hid hs4.2))
            | fail))
          all_goals
            have H4 := Lib.hid HS4.out.2
            have HB4 := Lib.hid HS4.out.1
            have hz4 := HS4.out.2.size
            go_wp2_with fail
            go_roundw
            case rel =>
              first
                | (refine ⟨k + 1, w4.heap.size, by omega, by omega, rfl, ?_, ?_, ?_⟩; (first | omega | (simp; omega)); exact box_newI w4 _ (by omega); exact (H4.out).below (by (repeat (first | (with_reducible exact Below.refl _ _) | (with_reducible refine bl_alloc ?_ ?_ _; focus (first | omega | (simp; done) | (simp; omega))) | (with_reducible refine bl_set ?_ ?_ _; focus (first | omega | (simp; done) | (simp; omega))) | (with_reducible refine Below.drew ?_) | (with_reducible refine below_drewN ?_ _) | (with_reducible refine below_step ?_ (by assumption))))))
                | ((repeat apply Exists.intro); refine ⟨?_, rfl⟩; refine ⟨k + 1, w4.heap.size, by omega, by omega, rfl, ?_, ?_, ?_⟩; (first | omega | (simp; omega)); exact box_newI w4 _ (by omega); exact (H4.out).below (by (repeat (first | (with_reducible exact Below.refl _ _) | (with_reducible refine bl_alloc ?_ ?_ _; focus (first | omega | (simp; done) | (simp; omega))) | (with_reducible refine bl_set ?_ ?_ _; focus (first | omega | (simp; done) | (simp; omega))) | (with_reducible refine Below.drew ?_) | (with_reducible refine below_drewN ?_ _) | (with_reducible refine below_step ?_ (by assumption))))))
            case measure => (rw [boxK_eq (box_newI w4 (k + 1) (by omega)), boxK_eq HBX.out]; omega)
      · obtain rfl : k = 27 := by omega
        go_wp2_with fail
        go_end0
        exact ⟨rfl, by rw [HGS.out]; exact H0.out⟩
  · obtain ⟨g, rfl, hr⟩ : ∃ g, a = some ⟨g, 0, none⟩ ∧ Row w g l := by
      rcases HV.out with ⟨_, e, _⟩ | h
      · exact absurd (by rw [e]; rfl) h0
      · exact h
    obtain ⟨p, hp⟩ : ∃ p, l.length = p + 1 := ⟨l.length - 1, by omega⟩
    have hd : decide ((0 : Int) < (l.length : Int)) = true := decide_eq_true (by omega)
    have hd2 : decide (0 < l.length) = true := decide_eq_true (by omega)
    have hln := lineN_nat (HG.out p (by omega))
    have hst0 : ((ln l p : Nat) : Int) + 1 = (frm l : Nat) := by simp [frm, hp]
    have cp := hr.cell p (by omega)
    rw [← hln.2] at cp
    have hx := hln.1
    have b8 : IntKind.i64.wrap ((l.length : Int) - 1) = (p : Int) := by rw [IntWalk.i64_in _ (by omega)]; omega
    have b9 : (l.length : Int) - 1 = (p : Int) := by omega
    have b10 : IntKind.i64.wrap (p : Int) = (p : Int) := IntWalk.i64_in _ (by omega)
    have b12 : (0 : Int) ≤ (p : Int) := by omega
    have b13 : (p : Int) < (l.length : Int) := by omega
    clear hln hp h0 hr
    rw [show ln l p = (l.getD p 0).toNat from rfl] at hst0
    have hst := Lib.hid hst0
    clear hst0
    generalize (l.getD p 0).toNat = x at cp hx hst
    go_enter Try.func80, Try.ntmps80
    go_wp2_with fail
    go_loopw [5] (fun c wr => ∃ k kb : Nat, frm l ≤ k ∧ k ≤ 27 ∧ c = .pointer (some ⟨kb, 0, none⟩) ∧ w.heap.size ≤ kb ∧ BoxI wr kb k ∧ SkSt w wr B b2 v xs ((gK m l k).filter (hasN n))) (fun c wr => 27 - boxK c wr)
    case atStart => exact ⟨frm l, w.heap.size, Nat.le_refl _, hfr, rfl, Nat.le_refl _, box_newI w _ (by first | rfl | (rw [← hst.out]; done) | (rw [← hst.out]; go_num)), by rw [gK_0]; exact (SkSt.start HO.out HX2.out).below (by (repeat (first | (with_reducible exact Below.refl _ _) | (with_reducible refine bl_alloc ?_ ?_ _; focus (first | omega | (simp; done) | (simp; omega))) | (with_reducible refine bl_set ?_ ?_ _; focus (first | omega | (simp; done) | (simp; omega))) | (with_reducible refine Below.drew ?_) | (with_reducible refine below_drewN ?_ _) | (with_reducible refine below_step ?_ (by assumption)))))⟩
    case round =>
      clear hst
      obtain ⟨k, kb, hfk, hk, rfl, hwk, hbox, hss⟩ := hrel
      have kc := hbox.c
      have kf := hbox.f
      have H0 := Lib.hid hss
      have HBX := Lib.hid hbox
      have hkb := hbox.lt
      have hw0 := hss.size
      clear hss hbox
      by_cases hlk : k < 27
      · have hdk : decide ((k : Int) < 27) = true := decide_eq_true (by omega)
        have HV0 := Lib.hid (HV.out.grew H0.out HO.out HX2.out)
        have K := Lib.hid (containsSk_any (some ⟨g, 0, none⟩) l.length cap l k hlk kb (Nat.le_refl _) (by omega) HG.out wr HV0.out.rd hkb kc)
        cases hs : skewTo l k l.length
        · have HS := Lib.hid (show (gK m l (k + 1)).filter (hasN n) = (gK m l k).filter (hasN n) by rw [gK_f hs])
          rw [hs] at K
          clear hs
          go_wp2_with fail
          refine K.out.mono ?_
          rintro e w1 ⟨rfl, hb⟩
          have H1 := Lib.hid (H0.out.below hb)
          have hz1 := hb.size
          have kc1 := (hb.cell (p := ⟨kb, 0, none⟩) hkb).trans kc
          clear hb K
          go_wp2_with fail
          go_roundw
          case rel =>
            first
              | (refine ⟨k + 1, w1.heap.size, by omega, by omega, rfl, ?_, ?_, ?_⟩; (first | omega | (simp; omega)); exact box_newI w1 _ (by omega); exact ((by rw [HS.out]; exact H1.out : SkSt w w1 B b2 v xs ((gK m l (k + 1)).filter (hasN n)))).below (by (repeat (first | (with_reducible exact Below.refl _ _) | (with_reducible refine bl_alloc ?_ ?_ _; focus (first | omega | (simp; done) | (simp; omega))) | (with_reducible refine bl_set ?_ ?_ _; focus (first | omega | (simp; done) | (simp; omega))) | (with_reducible refine Below.drew ?_) | (with_reducible refine below_drewN ?_ _) | (with_reducible refine below_step ?_ (by assumption))))))
              | ((repeat apply Exists.intro); refine ⟨?_, rfl⟩; refine ⟨k + 1, w1.heap.size, by omega, by omega, rfl, ?_, ?_, ?_⟩; (first | omega | (simp; omega)); exact box_newI w1 _ (by omega); exact ((by rw [HS.out]; exact H1.out : SkSt w w1 B b2 v xs ((gK m l (k + 1)).filter (hasN n)))).below (by (repeat (first | (with_reducible exact Below.refl _ _) | (with_reducible refine bl_alloc ?_ ?_ _; focus (first | omega | (simp; done) | (simp; omega))) | (with_reducible refine bl_set ?_ ?_ _; focus (first | omega | (simp; done) | (simp; omega))) | (with_reducible refine Below.drew ?_) | (with_reducible refine below_drewN ?_ _) | (with_reducible refine below_step ?_ (by assumption))))))
          case measure => (rw [boxK_eq (box_newI w1 (k + 1) (by omega)), boxK_eq HBX.out]; omega)
        · have HS := Lib.hid hs
          have HKT := Lib.hid (gK_t (m := m) hfk hs)
          rw [hs] at K
          clear hs
          go_wp2_with fail
          refine K.out.mono ?_
          rintro e w1 ⟨rfl, hb⟩
          obtain ⟨v1, ys, hys, hbs, how, hgb, hfo, hcp⟩ := H0.out.below hb
          have hzA := hb.size
          have kc1 := (hb.cell (p := ⟨kb, 0, none⟩) hkb).trans kc
          have hkb1 : kb < w1.heap.size := by omega
          have HBX1 := Lib.hid (HBX.out.below hb)
          have HV1 := Lib.hid (HV0.out.below hb)
          have HYS := Lib.hid hys
          have HBS := Lib.hid hbs
          have HOW := Lib.hid how
          have HGB := Lib.hid hgb
          have HFO := Lib.hid hfo
          have HCP := Lib.hid hcp
          have HK : Hid (∀ (g2 cap2 : Nat) (w3 : World), w1.heap.size ≤ g2 → Row w3 g2 (l ++ [(k : Int)]) → Below w1.heap.size w1 w3 → Calls Try.prog 80 #[.slice (some ⟨g2, 0, none⟩) (l.length + 1) cap2, .func (.func 81) #[] #[.pointer (some ⟨b1, 0, none⟩), .pointer (some ⟨b2, 0, none⟩)]] w3 fun e w' => e = .returned (.tuple #[]) ∧ w'.cell? ⟨kb, 0, none⟩ = some (.int .i64 (k : Int)) ∧ BoxI w' kb k ∧ SkSt w w' B b2 v xs ((gK m l (k + 1)).filter (hasN n))) := Lib.hid (fun g2 cap2 w3 hgg hr2 hb3 => by
            have e1 : (l ++ [(k : Int)]).length = l.length + 1 := by simp
            have hlen : (xs ++ ys).length + (grow m (l ++ [(k : Int)])).length ≤ 1000 := by
              have h1 := HN.out (k + 1) (by omega)
              have h3 : ys.length ≤ (gK m l k).length := by rw [← lls_len, HYS.out]; exact List.length_filter_le _ _
              rw [HKT.out, List.length_append] at h1
              rw [List.length_append]
              omega
            have k1 := IH.out B b1 b2 cap2 (some ⟨g2, 0, none⟩) (l ++ [(k : Int)]) v1 (xs ++ ys) w3 (by rw [e1]; omega) (good_snoc HG.out hlk) (.inr ⟨g2, rfl, hr2⟩) ((HX1.out.kept ((HGB.out.below hb3).block b1 HX1.out.lt (fun e => HX2.out.ne_i HX1.out e.symm) (fun e => HX1.out.ne_own HO.out e.symm)))) (HBS.out.below hb3) (HOW.out.below hb3) (by have := hb3.size; omega) hlen
            rw [e1] at k1
            refine k1.mono ?_
            rintro e w' ⟨rfl, hs'⟩
            have hbx := hs'.boxI (HOW.out.below hb3) (HBS.out.below hb3) (HBX1.out.below hb3)
            refine ⟨rfl, hbx.c, hbx, ?_⟩
            have := SkSt.next HYS.out (HGB.out.below hb3) HFO.out HCP.out hs'
            rw [HKT.out, List.filter_append]
            exact this)
          clear hys hbs how hgb hfo hcp hb
          go_wp2_with fail
          go_region_held3 (fun w' => w'.cell? ⟨kb, 0, none⟩ = some (.int .i64 (k : Int))) ((first | assumption | (simp [*, World.cell?_alloc_some]; done))) ((first
            | (refine step_ownA rfl (.tmp 31) (.tmp 32) 38 rfl w1.heap.size 3 i0 (.int .i64 0) 1 8 Try.underlying38 hi0 hz0 hz1 hz2 rfl (by decide) (.slice (some ⟨w1.heap.size, 0, none⟩) 0 0) 0 [] rfl (owns_empty w1.drew 3) (some ⟨g, 0, none⟩) l.length cap (ivs l) rfl (by rw [ivs_len, Nat.mul_one]) (HV1.out).none (SixV.news ((HV1.out).below (w' := (w1.drew.alloc (.cells #[] 3))) (by (repeat (first | (with_reducible exact Below.refl _ _) | (with_reducible refine bl_alloc ?_ ?_ _; focus (first | omega | (simp; done) | (simp; omega))) | (with_reducible refine bl_set ?_ ?_ _; focus (first | omega | (simp; done) | (simp; omega))) | (with_reducible refine Below.drew ?_) | (with_reducible refine below_drewN ?_ _) | (with_reducible refine below_step ?_ (by assumption))))))) (ivs_one l) (by unfold maxLen; omega) (by omega) (by first | omega | (simp; done) | (simp; omega)) ?_; intro v2 w2 hown2 hgrow2 hnil2; have hb2 : Below w1.heap.size w1 w2 := below_own (w := (w1.drew.alloc (.cells #[] 3))) (by (repeat (first | (with_reducible exact Below.refl _ _) | (with_reducible refine bl_alloc ?_ ?_ _; focus (first | omega | (simp; done) | (simp; omega))) | (with_reducible refine bl_set ?_ ?_ _; focus (first | omega | (simp; done) | (simp; omega))) | (with_reducible refine Below.drew ?_) | (with_reducible refine below_drewN ?_ _) | (with_reducible refine below_step ?_ (by assumption))))) (owns_empty w1.drew 3) hgrow2 (Nat.le_refl _) (by first | omega | (simp; done) | (simp; omega)); have hb2z := hb2.size; have sc2 := (hb2.cell (p := ⟨kb, 0, none⟩) hkb1).trans kc1)
            | (refine step_ownA rfl (.tmp 31) (.tmp 32) 38 rfl w1.heap.size 3 i0 (.int .i64 0) 1 8 Try.underlying38 hi0 hz0 hz1 hz2 rfl (by decide) (.slice (some ⟨w1.heap.size, 0, none⟩) 0 0) 0 [] rfl (owns_below (owns_empty w1.drew 3) ((Below.refl _ _).alloc (Nat.le_refl _) (.cells #[.int .i64 (k : Int)] 3))) (some ⟨g, 0, none⟩) l.length cap (ivs l) rfl (by rw [ivs_len, Nat.mul_one]) (HV1.out).none (SixV.news ((HV1.out).below (w' := ((w1.drew.alloc (.cells #[] 3)).alloc (.cells #[.int .i64 (k : Int)] 3))) (by (repeat (first | (with_reducible exact Below.refl _ _) | (with_reducible refine bl_alloc ?_ ?_ _; focus (first | omega | (simp; done) | (simp; omega))) | (with_reducible refine bl_set ?_ ?_ _; focus (first | omega | (simp; done) | (simp; omega))) | (with_reducible refine Below.drew ?_) | (with_reducible refine below_drewN ?_ _) | (with_reducible refine below_step ?_ (by assumption))))))) (ivs_one l) (by unfold maxLen; omega) (by omega) (by first | omega | (simp; done) | (simp; omega)) ?_; intro v2 w2 hown2 hgrow2 hnil2; have hb2 : Below w1.heap.size w1 w2 := below_own (w := ((w1.drew.alloc (.cells #[] 3)).alloc (.cells #[.int .i64 (k : Int)] 3))) (by (repeat (first | (with_reducible exact Below.refl _ _) | (with_reducible refine bl_alloc ?_ ?_ _; focus (first | omega | (simp; done) | (simp; omega))) | (with_reducible refine bl_set ?_ ?_ _; focus (first | omega | (simp; done) | (simp; omega))) | (with_reducible refine Below.drew ?_) | (with_reducible refine below_drewN ?_ _) | (with_reducible refine below_step ?_ (by assumption))))) (owns_below (owns_empty w1.drew 3) ((Below.refl _ _).alloc (Nat.le_refl _) (.cells #[.int .i64 (k : Int)] 3))) hgrow2 (Nat.le_refl _) (by first | omega | (simp; done) | (simp; omega)); have hb2z := hb2.size; have sc2 := (hb2.cell (p := ⟨kb, 0, none⟩) hkb1).trans kc1)
            | (refine step_ownA rfl (.tmp 31) (.tmp 32) 38 rfl w1.heap.size 3 i0 (.int .i64 0) 1 8 Try.underlying38 hi0 hz0 hz1 hz2 rfl (by decide) (.slice (some ⟨w1.heap.size + 1, 0, none⟩) 0 0) 0 [] rfl (owns_e1 (w := w1.drew.alloc (.cells #[.int .i64 (k : Int)] 3)) (t := 3) (k := w1.heap.size + 1) (B := w1.heap.size) (by simp) (by omega)) (some ⟨g, 0, none⟩) l.length cap (ivs l) rfl (by rw [ivs_len, Nat.mul_one]) (HV1.out).none (SixV.news ((HV1.out).below (w' := ((w1.drew.alloc (.cells #[.int .i64 (k : Int)] 3)).alloc (.cells #[] 3))) (by (repeat (first | (with_reducible exact Below.refl _ _) | (with_reducible refine bl_alloc ?_ ?_ _; focus (first | omega | (simp; done) | (simp; omega))) | (with_reducible refine bl_set ?_ ?_ _; focus (first | omega | (simp; done) | (simp; omega))) | (with_reducible refine Below.drew ?_) | (with_reducible refine below_drewN ?_ _) | (with_reducible refine below_step ?_ (by assumption))))))) (ivs_one l) (by unfold maxLen; omega) (by omega) (by first | omega | (simp; done) | (simp; omega)) ?_; intro v2 w2 hown2 hgrow2 hnil2; have hb2 : Below w1.heap.size w1 w2 := below_own (w := ((w1.drew.alloc (.cells #[.int .i64 (k : Int)] 3)).alloc (.cells #[] 3))) (by (repeat (first | (with_reducible exact Below.refl _ _) | (with_reducible refine bl_alloc ?_ ?_ _; focus (first | omega | (simp; done) | (simp; omega))) | (with_reducible refine bl_set ?_ ?_ _; focus (first | omega | (simp; done) | (simp; omega))) | (with_reducible refine Below.drew ?_) | (with_reducible refine below_drewN ?_ _) | (with_reducible refine below_step ?_ (by assumption))))) (owns_e1 (w := w1.drew.alloc (.cells #[.int .i64 (k : Int)] 3)) (t := 3) (k := w1.heap.size + 1) (B := w1.heap.size) (by simp) (by omega)) hgrow2 (Nat.le_refl _) (by first | omega | (simp; done) | (simp; omega)); have hb2z := hb2.size; have sc2 := (hb2.cell (p := ⟨kb, 0, none⟩) hkb1).trans kc1)
            | (refine step_ownA rfl (.tmp 33) (.tmp 35) 38 rfl w1.heap.size 3 i0 (.int .i64 0) 1 8 Try.underlying38 hi0 hz0 hz1 hz2 rfl (by decide) v2 (0 + l.length) ([] ++ ivs l) rfl (owns_below hown2 ((Below.refl _ _).alloc (Nat.le_refl _) (.cells #[.int .i64 (k : Int)] 3))) (some ⟨w2.heap.size, 0, none⟩) 1 1 [.int .i64 (k : Int)] rfl rfl (by intro h; cases h) (fun ad e => by cases e; exact new_one _ _ _) one_of (by unfold maxLen; omega) (by omega) (by first | omega | (simp; done) | (simp; omega)) ?_; intro v3 w3 hown3 hgrow3 hnil3; have hb3 : Below w1.heap.size w1 w3 := below_own (w := (w2.alloc (.cells #[.int .i64 (k : Int)] 3))) (hb2.alloc hb2.size _) (owns_below hown2 ((Below.refl _ _).alloc (Nat.le_refl _) (.cells #[.int .i64 (k : Int)] 3))) hgrow3 (Nat.le_refl _) (by first | omega | (simp; omega)); have hb3z := hb3.size; have sc3 := (hb3.cell (p := ⟨kb, 0, none⟩) hkb1).trans kc1)
            | (refine step_ownA rfl (.tmp 33) (.tmp 35) 38 rfl w1.heap.size 3 i0 (.int .i64 0) 1 8 Try.underlying38 hi0 hz0 hz1 hz2 rfl (by decide) v2 (0 + l.length) ([] ++ ivs l) rfl hown2 (some ⟨w1.heap.size + 1, 0, none⟩) 1 1 [.int .i64 (k : Int)] rfl rfl (by intro h; cases h) (fun ad e => by cases e; exact World.news_of_block (cs := #[.int .i64 (k : Int)]) (t := 3) (fr := (0, 0)) ((hgrow2.block (w1.heap.size + 1) (by simp) (by simp [Value.ownBlock])).trans (alloc_at _ _ _ (by simp)))) one_of (by unfold maxLen; omega) (by omega) (by first | omega | (simp; done) | (simp; omega)) ?_; intro v3 w3 hown3 hgrow3 hnil3; have hb3 : Below w1.heap.size w1 w3 := below_own (w := w2) hb2 hown2 hgrow3 (Nat.le_refl _) (by first | omega | (simp; omega)); have hb3z := hb3.size; have sc3 := (hb3.cell (p := ⟨kb, 0, none⟩) hkb1).trans kc1)
            | (refine step_ownA rfl (.tmp 33) (.tmp 35) 38 rfl w1.heap.size 3 i0 (.int .i64 0) 1 8 Try.underlying38 hi0 hz0 hz1 hz2 rfl (by decide) v2 (0 + l.length) ([] ++ ivs l) rfl hown2 (some ⟨w1.heap.size, 0, none⟩) 1 1 [.int .i64 (k : Int)] rfl rfl (by intro h; cases h) (fun ad e => by cases e; exact World.news_of_block (cs := #[.int .i64 (k : Int)]) (t := 3) (fr := (0, 0)) ((hgrow2.block w1.heap.size (by simp; try omega) (by simp [Value.ownBlock])).trans ((alloc_under _ _ _ (by simp)).trans (alloc_at _ _ _ (by simp))))) one_of (by unfold maxLen; omega) (by omega) (by first | omega | (simp; done) | (simp; omega)) ?_; intro v3 w3 hown3 hgrow3 hnil3; have hb3 : Below w1.heap.size w1 w3 := below_own (w := w2) hb2 hown2 hgrow3 (Nat.le_refl _) (by first | omega | (simp; omega)); have hb3z := hb3.size; have sc3 := (hb3.cell (p := ⟨kb, 0, none⟩) hkb1).trans kc1)
            | (go_at_call 80; obtain ⟨g2, cap2, rfl, hgg, hr2⟩ := sk_row hown3 (by simpa using hnil3); ((with_reducible refine (HK.out g2 cap2 w3 hgg hr2 hb3).mono ?_); rintro e w4 ⟨rfl, hs4⟩; have sc4 := hs4.1; have HS4 := Lib.hid hs4.2))
            | fail))
          all_goals
            have H4 := Lib.hid HS4.out.2
            have HB4 := Lib.hid HS4.out.1
            have hz4 := HS4.out.2.size
            go_wp2_with fail
            go_roundw
            case rel =>
              first
                | (refine ⟨k + 1, w4.heap.size, by omega, by omega, rfl, ?_, ?_, ?_⟩; (first | omega | (simp; omega)); exact box_newI w4 _ (by omega); exact (H4.out).below (by (repeat (first | (with_reducible exact Below.refl _ _) | (with_reducible refine bl_alloc ?_ ?_ _; focus (first | omega | (simp; done) | (simp; omega))) | (with_reducible refine bl_set ?_ ?_ _; focus (first | omega | (simp; done) | (simp; omega))) | (with_reducible refine Below.drew ?_) | (with_reducible refine below_drewN ?_ _) | (with_reducible refine below_step ?_ (by assumption))))))
                | ((repeat apply Exists.intro); refine ⟨?_, rfl⟩; refine ⟨k + 1, w4.heap.size, by omega, by omega, rfl, ?_, ?_, ?_⟩; (first | omega | (simp; omega)); exact box_newI w4 _ (by omega); exact (H4.out).below (by (repeat (first | (with_reducible exact Below.refl _ _) | (with_reducible refine bl_alloc ?_ ?_ _; focus (first | omega | (simp; done) | (simp; omega))) | (with_reducible refine bl_set ?_ ?_ _; focus (first | omega | (simp; done) | (simp; omega))) | (with_reducible refine Below.drew ?_) | (with_reducible refine below_drewN ?_ _) | (with_reducible refine below_step ?_ (by assumption))))))
            case measure => (rw [boxK_eq (box_newI w4 (k + 1) (by omega)), boxK_eq HBX.out]; omega)
      · obtain rfl : k = 27 := by omega
        go_wp2_with fail
        go_end0
        exact ⟨rfl, by rw [HGS.out]; exact H0.out⟩

end Go.Proofs.Ytogmfadeedmmaaa
