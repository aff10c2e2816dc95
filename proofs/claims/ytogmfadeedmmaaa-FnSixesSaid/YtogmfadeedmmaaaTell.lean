/- The contract of the closure of LineSixes: a six that has the line is copied to the row of rows in the box. It holds in whatever memory. -/
import Derived.Test.YtogmfadeedmmaaaEach
import Derived.Deep.AppendLies
import Derived.Deep.RegionLaw
namespace Go.Proofs.Ytogmfadeedmmaaa
open Go.RowKit
set_option linter.unusedSimpArgs false
set_option linter.unusedVariables false

theorem SkSt.skip {w w' : World} {B b : Nat} {v : Value} {xs : List Sv} (h : OwnS w B v xs) (hb : BoxS w b v) (hw : Below w.heap.size w w') : SkSt w w' B b v xs [] := (SkSt.start h hb).below hw

/-- Behind the copy of a six: what the rest of the closure wants. -/
def One (w w1 : World) (g1 c1 b2 B : Nat) (v : Value) (xs : List Sv) (l : List Int) : Prop :=
  w1.cell? ⟨b2, 0, none⟩ = some v ∧ w1.frozen? ⟨b2, 0, none⟩ = false ∧ (∀ o, (w1.alloc o).cell? ⟨b2, 0, none⟩ = some v) ∧ (∀ o, (w1.alloc o).frozen? ⟨b2, 0, none⟩ = false) ∧ (∀ o, OwnS (w1.alloc o) B v xs) ∧ w.heap.size ≤ w1.heap.size ∧ Below w.heap.size w w1 ∧ w.heap.size ≤ g1 ∧ Row w1 g1 l ∧ (6 ≤ c1 ∧ c1 ≤ maxLen)
theorem tell_one {w w1 : World} {g1 c1 b2 B : Nat} {v : Value} {xs : List Sv} {l : List Int} (hx : BoxS w b2 v) (ho : OwnS w B v xs) (hl : l.length = 6)
    (ho1 : w1.ownsRow w.heap.size 3 1 (.slice (some ⟨g1, 0, none⟩) 6 c1) 6 (ivs l)) (hg1 : (w.drew.alloc (.cells #[] 3)).grownBy w1 (some w.heap.size)) (hor : (Value.slice (some ⟨w.heap.size, 0, none⟩) 0 0).ownBlock = some g1 ∨ g1 = (w.drew.alloc (.cells #[] 3)).heap.size) : One w w1 g1 c1 b2 B v xs l := by
  have hb : Below w.heap.size w w1 := below_own (w := w.drew.alloc (.cells #[] 3)) (by (repeat (first | (with_reducible exact Below.refl _ _) | (with_reducible refine bl_alloc ?_ ?_ _; focus (first | omega | (simp; done) | (simp; omega))) | (with_reducible refine bl_set ?_ ?_ _; focus (first | omega | (simp; done) | (simp; omega))) | (with_reducible refine Below.drew ?_) | (with_reducible refine below_drewN ?_ _) | (with_reducible refine below_step ?_ (by assumption))))) (owns_empty w.drew 3) (v := .slice (some ⟨w.heap.size, 0, none⟩) 0 0) hg1 (Nat.le_refl _) (by simp)
  have h1 := hx.below hb
  have hg : w.heap.size ≤ g1 := by
    rcases hor with e | e
    · simp [Value.ownBlock] at e
      omega
    · simp at e
      omega
  have ha := fun o => (Below.refl (B := w1.heap.size) (w := w1)).alloc (Nat.le_refl _) o
  have hcp : 6 ≤ c1 ∧ c1 ≤ maxLen := by
    rcases ho1.2 with ⟨h0, _⟩ | ⟨g', cap', cur, he, hbb, hgg, hnc, hcm, hcs, htt⟩
    · cases h0
    · simp at he
      omega
  have hr : Row w1 g1 l := by
    rw [← hl] at ho1
    obtain ⟨g, cap, e, _, hr⟩ := Row.of_owns ho1 (by simp)
    simp at e
    rw [e.1]
    exact hr
  exact ⟨h1.c, h1.f, fun o => (h1.below (ha o)).c, fun o => (h1.below (ha o)).f, fun o => (ho.below hb).below (ha o), hb.size, hb, hg, hr, hcp⟩
def Two (w w2 : World) (g1 c1 g2 c2 b2 B : Nat) (v : Value) (xs : List Sv) (l : List Int) : Prop :=
  w2.cell? ⟨b2, 0, none⟩ = some v ∧ w2.frozen? ⟨b2, 0, none⟩ = false ∧ SkSt w (w2.setCell ⟨b2, 0, none⟩ (.slice (some ⟨g2, 0, none⟩) (xs.length + 1) c2)) B b2 v xs [l]
theorem tell_two {w w1 w2 : World} {g1 c1 g2 c2 b2 B : Nat} {v : Value} {xs : List Sv} {l : List Int} {o : Obj} (hx : BoxS w b2 v) (ho : OwnS w B v xs) (hB : B ≤ w.heap.size) (hl : l.length = 6) (h1 : One w w1 g1 c1 b2 B v xs l)
    (ho2 : w2.ownsRow B 38 1 (.slice (some ⟨g2, 0, none⟩) (xs.length + 1) c2) (xs.length + 1) (svs xs ++ [.slice (some ⟨g1, 0, none⟩) 6 c1])) (hg2 : (w1.alloc o).grownBy w2 v.ownBlock) (hor : v.ownBlock = some g2 ∨ g2 = (w1.alloc o).heap.size) : Two w w2 g1 c1 g2 c2 b2 B v xs l := by
  obtain ⟨_, _, _, _, hon, hsz, hb, hg1, hr1, hcp⟩ := h1
  have ha := (Below.refl (B := w1.heap.size) (w := w1)).alloc (Nat.le_refl _) o
  have hx1 : BoxS (w1.alloc o) b2 v := (hx.below hb).below ha
  have hx2 : BoxS w2 b2 v := hx1.kept (hg2.block b2 hx1.lt (fun e => hx1.ne_own (hon o) e.symm))
  have hr2 : Row (w1.alloc o) g1 l := hr1.below ha
  have ho3 : OwnS w2 B (.slice (some ⟨g2, 0, none⟩) (xs.length + 1) c2) (xs ++ [⟨g1, c1, l⟩]) :=
    (hon o).push ⟨g1, c1, l⟩ (by show B ≤ g1; omega) hr2 (fun y hy => Nat.lt_of_lt_of_le (ho.2.1.lt y hy) hg1) (by rw [Sv.v, hl]; exact ho2) hg2 (by simp)
  have hgb : GrB w (w1.alloc o) b2 v.ownBlock := ((GrB.refl w b2 _).below hb).below ha
  have hgr : GrB w w2 b2 v.ownBlock := hgb.grown (v' := v) (.inl rfl) hg2
  refine ⟨hx2.c, hx2.f, _, [⟨g1, c1, l⟩], rfl, hx2.put, ?_, hgr.set _ (.inl rfl), ?_, fun y hy => by simp at hy; subst hy; show l.length ≤ c1 ∧ c1 ≤ maxLen; omega⟩
  · obtain ⟨h1, h2, h3⟩ := ho3
    have hk : ∀ i, i ≠ b2 → (w2.setCell ⟨b2, 0, none⟩ (.slice (some ⟨g2, 0, none⟩) (xs.length + 1) c2)).heap[i]? = w2.heap[i]? := fun i hi => Below.heap_setCell w2 _ _ i hi
    refine ⟨?_, ⟨fun x hx => ⟨(h2.1 x hx).1, ((h2.1 x hx).2).kept (hk _ (fun e => hx2.ne_row (h2.1 x hx).2 e.symm))⟩, h2.2⟩, h3⟩
    obtain ⟨q1, q2⟩ := h1
    refine ⟨q1, ?_⟩
    rcases q2 with q2 | ⟨g, cap, cur, he, h3', h4, h5⟩
    · exact .inl q2
    · refine .inr ⟨g, cap, cur, he, h3', (hk g (fun e => ?_)).trans h4, h5⟩
      exact hx2.ne_own (B := B) (xs := xs ++ [⟨g1, c1, l⟩]) ⟨⟨q1, .inr ⟨g, cap, cur, he, h3', h4, h5⟩⟩, h2, h3⟩ (by rw [he]; simp [Value.ownBlock, e])
  · rcases hor with e | e
    · exact .inl (by rw [e]; rfl)
    · exact .inr ⟨g2, rfl, by simp at e; omega⟩

set_option maxRecDepth 20000 in
set_option maxHeartbeats 8000000 in
theorem tell_any (n : Int) (g cap b1 b2 B : Nat) (l : List Int) (v : Value) (xs : List Sv) (w : World) (hl : l.length = 6) (hr : Row w g l) (h1 : BoxI w b1 n) (h2 : BoxS w b2 v) (ho : OwnS w B v xs) (hB : B ≤ w.heap.size) (hn : xs.length + 1 ≤ 1000) :
    Calls Try.prog 81 #[.slice (some ⟨g, 0, none⟩) l.length cap, .pointer (some ⟨b1, 0, none⟩), .pointer (some ⟨b2, 0, none⟩)] w fun e w' => e = .returned (.tuple #[]) ∧ SkSt w w' B b2 v xs ([l].filter (fun l => l.contains n)) := by
  obtain ⟨i0, hi0, hz0, hz1, hz2⟩ := info_parts Try.info3
  obtain ⟨j0, hj0, hk0, hk1, hk2⟩ := info_parts Try.infoS
  have K := Lib.hid (contains_any g cap l n (by omega) w hr)
  have k1 := h1.c
  have k2 := h2.c
  have f2 := h2.f
  have k3 := fun o : Obj => (h2.below ((Below.refl (B := w.heap.size) (w := w)).alloc (Nat.le_refl _) o)).c
  have HR := Lib.hid hr
  have HO := Lib.hid ho
  have HX := Lib.hid h2
  have HL := Lib.hid hl
  clear hr ho h1 h2
  rw [hl] at K
  rw [hl]
  cases hc : l.contains n
  · have HF := Lib.hid (show [l].filter (fun l => l.contains n) = [] by simp only [List.filter_cons, hc]; rfl)
    rw [hc] at K
    clear hc
    go_enter Try.func81, Try.ntmps81
    go_wp2_with (first | (go_at_call 72; ((with_reducible refine (K.out).mono ?_); rintro e w' ⟨rfl, rfl⟩)) | fail)
    go_end0
    exact ⟨rfl, by rw [HF.out]; exact SkSt.skip HO.out HX.out (by (repeat (first | (with_reducible exact Below.refl _ _) | (with_reducible refine bl_alloc ?_ ?_ _; focus (first | omega | (simp; done) | (simp; omega))) | (with_reducible refine bl_set ?_ ?_ _; focus (first | omega | (simp; done) | (simp; omega))) | (with_reducible refine Below.drew ?_) | (with_reducible refine below_drewN ?_ _) | (with_reducible refine below_step ?_ (by assumption)))))⟩
  · have HF := Lib.hid (show [l].filter (fun l => l.contains n) = [l] by simp only [List.filter_cons, hc]; rfl)
    rw [hc] at K
    clear hc
    go_enter Try.func81, Try.ntmps81
    go_wp2_with (first | (go_at_call 72; ((with_reducible refine (K.out).mono ?_); rintro e w' ⟨rfl, rfl⟩)) | fail)
    go_region_law (first
      | (refine step_append_lies _ rfl (.tmp 8) (.tmp 9) 38 rfl w.heap.size 3 i0 (.int .i64 0) 1 8 Try.underlying38 hi0 hz0 hz1 hz2 rfl (by decide) (.slice (some ⟨w.heap.size, 0, none⟩) 0 0) 0 [] rfl (owns_empty w.drew _) ⟨g, 0, none⟩ 6 cap (ivs l) rfl (by rw [ivs_len, HL.out]) (HR.out.below ((Below.refl _ _).alloc (Nat.le_refl _) (.cells #[] 3))).news (ivs_one l) (by decide) (by unfold maxLen; omega) (by omega) (by simp) _ rfl ?_; intro g1 c1 w1 ho1 hg1 hor1 hlt1; have HG1 := Lib.hid (tell_one (v := v) HX.out HO.out HL.out ho1 hg1 hor1); have k1a := HG1.out.1; have f1a := HG1.out.2.1; have k1b := HG1.out.2.2.1; have f1b := HG1.out.2.2.2.1; clear ho1 hg1 hor1 hlt1)
      | (refine step_append_lies _ rfl (.tmp 7) (.tmp 11) 45 rfl B 38 j0 (.slice none 0 0) 1 24 Try.underlying45 hj0 hk0 hk1 hk2 rfl (by decide) v xs.length (svs xs) rfl (HG1.out.2.2.2.2.1 _).1 ⟨w1.heap.size, 0, none⟩ 1 1 [_] rfl rfl (new_one _ _ _) one_of_slice (by decide) (by unfold maxLen; omega) (by omega) (by have := HG1.out.2.2.2.2.2.1; simp; omega) _ rfl ?_; intro g2 c2 w2 ho2 hg2 hor2 hlt2; have HG2 := Lib.hid (tell_two HX.out HO.out hB HL.out HG1.out ho2 hg2 hor2); have k2a := HG2.out.1; have f2a := HG2.out.2.1; clear ho2 hg2 hor2 hlt2)
      | fail)
    all_goals
      have HS := HG2.out.2.2
      clear HG2 HG1
      go_wp2_with fail
      go_end0
      exact ⟨rfl, by rw [HF.out]; exact HS⟩


end Go.Proofs.Ytogmfadeedmmaaa
