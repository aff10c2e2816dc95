/- The drawing of a six: it is a list of six numbers in memory that can be read. It holds for every code. -/
import Derived.Test.YtogmfadeedmmaaaDraw
import Derived.Test.YtogmfadeedmmaaaSixs
import Derived.Test.YtogmfadeedmmaaaSixG
import Derived.Deep.AppendLies
import Derived.Deep.RegionLaw
namespace Go.Proofs.Ytogmfadeedmmaaa
open Go.RowKit
set_option linter.unusedSimpArgs false
set_option linter.unusedVariables false

/-- What DrawLineSix returns. -/
def DrewSix (w : World) (e : Ending) (w' : World) : Prop := ∃ (g cap : Nat) (L : List Int), e = .returned (.slice (some ⟨g, 0, none⟩) 6 cap) ∧ L.length = 6 ∧ 6 ≤ cap ∧ cap ≤ maxLen ∧ Row w' g L ∧ Below w.heap.size w w'
theorem Row.take {w : World} {g : Nat} {l : List Int} (h : Row w g l) (k : Nat) : Row w g (l.take k) := by
  obtain ⟨cur, hc, ht⟩ := h
  refine ⟨cur, hc, ?_⟩
  have e : (l.take k).length = min k l.length := List.length_take
  rw [e, ← List.take_take, ht]
  simp [ivs, List.map_take]
theorem owns_one {w : World} {t : TypeId} {v : Value} {B : Nat} (hB : B ≤ w.heap.size) : (w.alloc (.cells #[v] t)).ownsRow B t 1 (.slice (some ⟨w.heap.size, 0, none⟩) 1 1) 1 [v] :=
  ⟨rfl, .inr ⟨w.heap.size, 1, #[v], rfl, hB, heap_alloc_new w _, Nat.le_refl _, by unfold maxLen; omega, rfl, rfl⟩⟩
theorem RowS.ne_rd {w : World} {g R : Nat} {xs : List Sv} {a : Option Addr} {n cap p : Nat} {l' : List Int} (h : RowS w g xs) (h' : RdAt w R a n cap l' p) : g ≠ R := by
  rintro rfl
  obtain ⟨cur, hc, _⟩ := h
  have := hc.symm.trans h'.1
  simp at this
theorem Row.ne_rdr {w : World} {g R : Nat} {l : List Int} {a : Option Addr} {n cap p : Nat} {l' : List Int} (h : Row w g l) (h' : RdAt w R a n cap l' p) : g ≠ R := by
  rintro rfl
  obtain ⟨cur, hc, _⟩ := h
  have := hc.symm.trans h'.1
  simp at this

theorem Row.pick {w w' : World} {g R : Nat} {l : List Int} {a : Option Addr} {n cap p : Nat} {l' : List Int} (h : Row w g l) (h' : RdAt w R a n cap l' p) (hg : w.grownBy w' (some R)) : Row w' g l :=
  h.kept (hg.block g h.lt (fun e => h.ne_rdr h' (Option.some.inj e)))
theorem RowS.pick {w w' : World} {g R : Nat} {xs : List Sv} {a : Option Addr} {n cap p : Nat} {l' : List Int} (h : RowS w g xs) (h' : RdAt w R a n cap l' p) (hg : w.grownBy w' (some R)) : RowS w' g xs :=
  h.kept (hg.block g h.lt (fun e => h.ne_rd h' (Option.some.inj e)))

set_option maxRecDepth 20000 in
set_option maxHeartbeats 8000000 in
theorem drawLineSix_any (a : Option Addr) (n cap : Nat) (l : List Int) (w : World) (h : ArgRow .u8 w a n cap l) :
    Calls Try.prog 43 #[.slice a n cap] w (DrewSix w) := by
  obtain ⟨i0, hi0, hz0, hz1, hz2⟩ := info_parts Try.info3
  go_enter Try.func43, Try.ntmps43
  go_wp2_with fail
  refine (l6Open_any a n cap l _ h).mono ?_
  rintro e w1 ⟨n', cap', l', rfl, hr1, hb1⟩
  clear h
  go_wp2_with fail
  refine (pick_any _ a n' cap' l' 0 27 (by omega) (by omega) (by omega) _ hr1).mono ?_
  rintro e w2 ⟨x, rfl, hx0, hx1, hr2, hg2⟩
  have hB2 : Below w.heap.size w w2 := hb1.grown hg2 hb1.size (fun k hk => by cases hk; omega)
  have HIN := Lib.hid (show inB x 0 26 = true by simp [inB]; omega)
  have h16 : (sxB x).length = 16 := by
    have := sxB_16 x.toNat (by omega)
    rwa [show ((x.toNat : Nat) : Int) = x by omega] at this
  clear hb1 hr1 hg2 hx0 hx1
  go_wp2_with fail
  refine (sSixes_cap x HIN.out _).mono ?_
  rintro e w3 ⟨gs, cs, xs, rfl, hL, hgs, hrs, hes, hb3, hcp⟩
  have hxl : xs.length = 16 := by rw [← lls_len, hL]; exact h16
  have HX6 := Lib.hid (ll_all hL (sxB_6 x))
  have hr3 := hr2.below hb3
  have hB3 := below_step hB2 hb3
  have HCP := Lib.hid hcp
  have HRS := Lib.hid hrs
  have HES := Lib.hid hes
  have hz3 := hB3.size
  clear HIN hL h16 hgs hrs hes hb3 hcp hr2 hB2
  go_wp2_with fail
  refine (pick_any _ a n' cap' l' 1 8 (by omega) (by omega) (by omega) _ hr3).mono ?_
  rintro e w4 ⟨y, rfl, hy0, hy1, hr4, hg4⟩
  have hB4 : Below w.heap.size w w4 := hB3.grown hg4 hB3.size (fun k hk => by cases hk; omega)
  by_cases hy : y = 0
  · subst hy
    clear HRS HES hr3 hg4 hB3 hxl
    go_wp2_with fail
    refine (pick_any _ a n' cap' l' 2 21 (by omega) (by omega) (by omega) _ hr4).mono ?_
    rintro e w5 ⟨z, rfl, hz0', hz1', hr5, hg5⟩
    have hB5 : Below w.heap.size w w5 := hB4.grown hg5 hB4.size (fun k hk => by cases hk; omega)
    clear hr4 hg5 hB4
    go_wp2_with fail
    go_ret
    exact ⟨w5.heap.size, 6, [0, 1, 2, 3, 4, 6 + z], rfl, rfl, by omega, by unfold maxLen; omega, ⟨_, heap_alloc_new w5 _, rfl⟩, hB5.alloc hB5.size _⟩
  · have hyf : (y == 0) = false := by simpa using hy
    have HRS4 := Lib.hid (HRS.out.pick hr3 hg4)
    clear hy
    go_wp2_with fail
    refine (pick_any _ a n' cap' l' 2 16 (by omega) (by omega) (by omega) _ hr4).mono ?_
    rintro e w5 ⟨z, rfl, hz0', hz1', hr5, hg5⟩
    have hB5 : Below w.heap.size w w5 := hB4.grown hg5 hB4.size (fun k hk => by cases hk; omega)
    obtain ⟨j, rfl⟩ : ∃ j : Nat, z = j := ⟨z.toNat, by omega⟩
    obtain ⟨s, hs⟩ : ∃ s, xs[j]? = some s := ⟨xs[j]'(by omega), List.getElem?_eq_getElem (by omega)⟩
    have hm := List.mem_of_getElem? hs
    have hs6 := HX6.out s hm
    obtain ⟨hc1, hc2⟩ := HCP.out s hm
    rw [hs6] at hc1
    have c0 := (HRS4.out.pick hr4 hg5).cell j s hs
    rw [hs6] at c0
    have hrow5 := (((HES.out.1 s hm).2).pick hr3 hg4).pick hr4 hg5
    have b2 : (j : Int) < 16 := by omega
    have HS6 := Lib.hid hs6
    have HR5 := Lib.hid hrow5
    have hcm : (s.cap : Int) ≤ 9223372036854775807 := by unfold maxLen at hc2; omega
    have hc5 : (5 : Int) ≤ (s.cap : Int) := by omega
    generalize s.g = g at c0 HR5
    generalize s.cap = sc at c0 hc1 hc2 hcm hc5
    generalize s.l = L at HS6 HR5
    clear hs hm hs6 hrow5 HRS HES HRS4 HX6 HCP hr3 hr4 hg4 hg5 hB3 hB4 hxl hz0' hz1'
    go_wp2_with fail
    refine (pick_any _ a n' cap' l' 3 12 (by omega) (by omega) (by omega) _ hr5).mono ?_
    rintro e w6 ⟨u, rfl, hu0, hu1, hr6, hg6⟩
    have hB6 : Below w.heap.size w w6 := hB5.grown hg6 hB5.size (fun k hk => by cases hk; omega)
    have HR6 := Lib.hid (HR5.out.pick hr5 hg6)
    have hr := HR6.out
    have c5 := hr.cell 5 (by rw [HS6.out]; omega)
    clear hr hr5 hr6 hg6 hB5 HR5 c0
    by_cases hu : u = 0
    · subst hu
      go_wp2_with fail
      go_region_law (first
        | go_loud (refine step_append_lies _ rfl (.tmp 39) (.tmp 41) 38 rfl w6.heap.size 3 i0 (.int .i64 0) 1 8 Try.underlying38 hi0 hz0 hz1 hz2 rfl (by decide) (.slice (some ⟨w6.heap.size, 0, none⟩) 1 1) 1 [.int .i64 (L.getD 5 0)] rfl (owns_one (w := w6.drew) (Nat.le_refl _)) ⟨g, 0, none⟩ 5 sc (ivs (L.take 5)) rfl (by rw [ivs_len, List.length_take, HS6.out]; rfl) ((HR6.out.take 5).below ((Below.refl _ _).alloc (Nat.le_refl _) (.cells #[.int .i64 (L.getD 5 0)] 3))).news (ivs_one _) (by decide) (by unfold maxLen; omega) (by omega) (by simp) _ rfl ?_; intro g1 c1 w7 ho1 hg1 hor1 hlt1)
        | fail)
      all_goals
        have hb7 : Below w6.heap.size w6 w7 := below_own (w := w6.drew.alloc (.cells #[.int .i64 (L.getD 5 0)] 3)) (by (repeat (first | (with_reducible exact Below.refl _ _) | (with_reducible refine bl_alloc ?_ ?_ _; focus (first | omega | (simp; done) | (simp; omega))) | (with_reducible refine bl_set ?_ ?_ _; focus (first | omega | (simp; done) | (simp; omega))) | (with_reducible refine Below.drew ?_) | (with_reducible refine below_drewN ?_ _) | (with_reducible refine below_step ?_ (by assumption))))) (owns_one (w := w6.drew) (Nat.le_refl _)) (v := .slice (some ⟨w6.heap.size, 0, none⟩) 1 1) hg1 (Nat.le_refl _) (by simp)
        have hcp := owns_cap ho1
        have hrow : Row w7 g1 (L.getD 5 0 :: L.take 5) := by
          have h6 : (L.getD 5 0 :: L.take 5).length = 6 := by simp [HS6.out]
          have ho2 : w7.ownsRow w6.heap.size 3 1 (.slice (some ⟨g1, 0, none⟩) 6 c1) (L.getD 5 0 :: L.take 5).length (ivs (L.getD 5 0 :: L.take 5)) := by
            rw [h6]
            exact ho1
          obtain ⟨g', cap', e, _, hr⟩ := Row.of_owns ho2 (by simp)
          simp at e
          rw [e.1]
          exact hr
        have HB7 := Lib.hid (below_step hB6 hb7)
        clear ho1 hg1 hor1 hlt1 hb7
        go_wp2_with fail
        go_ret
        exact ⟨g1, c1, _, rfl, by simp [HS6.out], by omega, hcp.2, hrow, HB7.out⟩
    · have huf : (u == 0) = false := by simpa using hu
      clear hu
      go_wp2_with fail
      go_ret
      exact ⟨g, sc, L, rfl, HS6.out, hc1, hc2, HR6.out, hB6⟩

end Go.Proofs.Ytogmfadeedmmaaa
