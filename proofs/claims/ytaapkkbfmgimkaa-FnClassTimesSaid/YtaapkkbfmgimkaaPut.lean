/- Contracts of the reference's order of classes, of its insertion, and of its list of roots. Each holds in whatever memory. -/
import Derived.Test.YtaapkkbfmgimkaaCRow
import Derived.Test.YtaapkkbfmgimkaaEq
import Derived.Deep.DeepCutAuto
import Derived.Deep.DrawnRows
import Derived.Deep.AppendLies
import Derived.Deep.RegionHeld3
namespace Go.Proofs.Ytaapkkbfmgimkaa
open Go.RowKit
set_option linter.unusedSimpArgs false
set_option linter.unusedVariables false
attribute [local go_sem] idx_0 idx_1 idx_2 idx_3 idx_4 idx_5

def SomeB (w : World) (e : Ending) (w' : World) : Prop := ∃ b, e = .returned (.bool b) ∧ Below w.heap.size w w'

set_option maxHeartbeats 4000000 in
theorem l3Less_some (xd xa xb xc xe xf xg yd ya yb yc ye yf yg : Int) (w : World) :
    Calls Try.prog 55 #[.agg #[.int .i64 xd, .int .i64 xa, .int .i64 xb, .int .i64 xc, .int .i64 xe, .int .i64 xf, .int .i64 xg], .agg #[.int .i64 yd, .int .i64 ya, .int .i64 yb, .int .i64 yc, .int .i64 ye, .int .i64 yf, .int .i64 yg]] w (SomeB w) := by
  go_enter Try.func55, Try.ntmps55
  go_wp2
  · go_ret
    exact ⟨_, rfl, by (repeat (first | (with_reducible exact Below.refl _ _) | (with_reducible refine bl_alloc ?_ ?_ _; focus (first | omega | (simp; done) | (simp; omega))) | (with_reducible refine bl_set ?_ ?_ _; focus (first | omega | (simp; done) | (simp; omega))) | (with_reducible refine Below.drew ?_) | (with_reducible refine below_drewN ?_ _) | (with_reducible refine below_step ?_ (by assumption))))⟩
  refine wp_loop_rounds 7 ?_
  rw [rounds_succ]
  go_wp2
  go_quiet (fail)
  go_wp2
  · go_quiet (fail)
    go_wp2
    go_ret
    exact ⟨_, rfl, by (repeat (first | (with_reducible exact Below.refl _ _) | (with_reducible refine bl_alloc ?_ ?_ _; focus (first | omega | (simp; done) | (simp; omega))) | (with_reducible refine bl_set ?_ ?_ _; focus (first | omega | (simp; done) | (simp; omega))) | (with_reducible refine Below.drew ?_) | (with_reducible refine below_drewN ?_ _) | (with_reducible refine below_step ?_ (by assumption))))⟩
  rw [rounds_succ]
  go_wp2
  go_quiet (fail)
  go_wp2
  · go_quiet (fail)
    go_wp2
    go_ret
    exact ⟨_, rfl, by (repeat (first | (with_reducible exact Below.refl _ _) | (with_reducible refine bl_alloc ?_ ?_ _; focus (first | omega | (simp; done) | (simp; omega))) | (with_reducible refine bl_set ?_ ?_ _; focus (first | omega | (simp; done) | (simp; omega))) | (with_reducible refine Below.drew ?_) | (with_reducible refine below_drewN ?_ _) | (with_reducible refine below_step ?_ (by assumption))))⟩
  rw [rounds_succ]
  go_wp2
  go_quiet (fail)
  go_wp2
  · go_quiet (fail)
    go_wp2
    go_ret
    exact ⟨_, rfl, by (repeat (first | (with_reducible exact Below.refl _ _) | (with_reducible refine bl_alloc ?_ ?_ _; focus (first | omega | (simp; done) | (simp; omega))) | (with_reducible refine bl_set ?_ ?_ _; focus (first | omega | (simp; done) | (simp; omega))) | (with_reducible refine Below.drew ?_) | (with_reducible refine below_drewN ?_ _) | (with_reducible refine below_step ?_ (by assumption))))⟩
  rw [rounds_succ]
  go_wp2
  go_quiet (fail)
  go_wp2
  · go_quiet (fail)
    go_wp2
    go_ret
    exact ⟨_, rfl, by (repeat (first | (with_reducible exact Below.refl _ _) | (with_reducible refine bl_alloc ?_ ?_ _; focus (first | omega | (simp; done) | (simp; omega))) | (with_reducible refine bl_set ?_ ?_ _; focus (first | omega | (simp; done) | (simp; omega))) | (with_reducible refine Below.drew ?_) | (with_reducible refine below_drewN ?_ _) | (with_reducible refine below_step ?_ (by assumption))))⟩
  rw [rounds_succ]
  go_wp2
  go_quiet (fail)
  go_wp2
  · go_quiet (fail)
    go_wp2
    go_ret
    exact ⟨_, rfl, by (repeat (first | (with_reducible exact Below.refl _ _) | (with_reducible refine bl_alloc ?_ ?_ _; focus (first | omega | (simp; done) | (simp; omega))) | (with_reducible refine bl_set ?_ ?_ _; focus (first | omega | (simp; done) | (simp; omega))) | (with_reducible refine Below.drew ?_) | (with_reducible refine below_drewN ?_ _) | (with_reducible refine below_step ?_ (by assumption))))⟩
  rw [rounds_succ]
  go_wp2
  go_quiet (fail)
  go_wp2
  · go_quiet (fail)
    go_wp2
    go_ret
    exact ⟨_, rfl, by (repeat (first | (with_reducible exact Below.refl _ _) | (with_reducible refine bl_alloc ?_ ?_ _; focus (first | omega | (simp; done) | (simp; omega))) | (with_reducible refine bl_set ?_ ?_ _; focus (first | omega | (simp; done) | (simp; omega))) | (with_reducible refine Below.drew ?_) | (with_reducible refine below_drewN ?_ _) | (with_reducible refine below_step ?_ (by assumption))))⟩
  rw [rounds_succ]
  go_wp2
  go_ret
  exact ⟨_, rfl, by (repeat (first | (with_reducible exact Below.refl _ _) | (with_reducible refine bl_alloc ?_ ?_ _; focus (first | omega | (simp; done) | (simp; omega))) | (with_reducible refine bl_set ?_ ?_ _; focus (first | omega | (simp; done) | (simp; omega))) | (with_reducible refine Below.drew ?_) | (with_reducible refine below_drewN ?_ _) | (with_reducible refine below_step ?_ (by assumption))))⟩

theorem Try.infoC : (Try.prog.info? 25).map (fun i => (i.zero, i.size, i.bytes)) = some (some (.agg #[.int .i64 0, .int .i64 0, .int .i64 0, .int .i64 0, .int .i64 0, .int .i64 0, .int .i64 0]), 7, 56) := by kernel_rfl

theorem step_own {P : Program} {w : World} {ops : Array Oper} {o : Oper} {a : Act} {K : Act → World → Prop} {Q : Exit → Act → World → Prop} {E : Prop} (hgd : o.guard = none) (s x : Operand) (t : TypeId)
    (ho : o.op = .call { callee := .builtin .append, args := #[s, x], argTypes := #[t, t] })
    (base : Nat) (e : TypeId) (i : TypeInfo) (z : Value) (size bytes : Nat) (ht : P.underlying t = some (.slice e)) (hi : P.info? e = some i) (hz : i.zero = some z)
    (hsize : i.size = size) (hby : i.bytes = bytes) (hzs : z.cells.size = size) (hsz : 0 < size)
    (v : Value) (n : Nat) (xs : List Value) (hs : a.eval s = v) (hown : w.ownsRow base e size v n xs)
    (ad : Addr) (m c : Nat) (news : List Value) (hx : a.eval x = .slice (some ad) m c) (hl : news.length = m * size) (hnews : ∀ j u, news[j]? = some u → w.cell? (ad.add j) = some u) (h1 : ∀ u ∈ news, u.oneCell' = true)
    (h63 : n + m ≤ maxLen) (hbytes : (n + m) * bytes ≤ 140737488355328) (hbase : base ≤ w.heap.size)
    (h : ∀ v' w', w'.ownsRow base e size v' (n + m) (xs ++ news) → w.grownBy w' v.ownBlock → (v' = .slice none 0 0 ↔ v = .slice none 0 0 ∧ m = 0) → K (a.put o.dst v') w') :
    if Region.wanted o (yielded ops a.tmps) = true then Oper.wp P o a w K Q else E := by
  have hw : Region.wanted o (yielded ops a.tmps) = true := by simp [Region.wanted, hgd]
  rw [if_pos hw]
  exact wp_append_own w s x t ho base e i z size bytes ht hi hz hsize hby hzs hsz v n xs hs hown ad m c news hx hl hnews h1 h63 hbytes hbase h
/-- All that lay in a lies in w as it was. -/
def Old (a w : World) : Prop := a.grownBy w none
theorem Old.refl (a : World) : Old a a := ⟨rfl, rfl, rfl, Nat.le_refl _, fun _ _ _ => rfl⟩
theorem Old.drewN {a w : World} (h : Old a w) (k : Nat) : Old a (w.drewN k) := ⟨h.os, h.tape, h.output, h.size, h.block⟩
theorem Old.drew {a w : World} (h : Old a w) : Old a w.drew := ⟨h.os, h.tape, h.output, h.size, h.block⟩
theorem Old.alloc {a w : World} (h : Old a w) (o : Obj) : Old a (w.alloc o) := ⟨h.os, h.tape, h.output, by have := h.size; simp; omega, fun i hi hne => (alloc_under w o i (Nat.lt_of_lt_of_le hi h.size)).trans (h.block i hi hne)⟩
theorem Old.grown {a w w' : World} {row : Option Nat} (h : Old a w) (hg : w.grownBy w' row) (hr : ∀ k, row = some k → a.heap.size ≤ k) : Old a w' :=
  ⟨hg.os.trans h.os, hg.tape.trans h.tape, hg.output.trans h.output, Nat.le_trans h.size hg.size, fun i hi hne => (hg.block i (Nat.lt_of_lt_of_le hi h.size) (fun e => by have := hr i e.symm; omega)).trans (h.block i hi hne)⟩
theorem Old.cell {a w : World} (h : Old a w) {b o : Nat} (hb : b < a.heap.size) : w.cell? ⟨b, o, none⟩ = a.cell? ⟨b, o, none⟩ := World.cell?_of_block (h.block b hb (by simp))
theorem Old.below {a w : World} (h : Old a w) : Below a.heap.size a w := (Below.refl _ _).grown h (Nat.le_refl _) (fun k hk => by cases hk)
theorem step_ownO {P : Program} {w : World} {ops : Array Oper} {o : Oper} {a : Act} {K : Act → World → Prop} {Q : Exit → Act → World → Prop} {E : Prop} (W : World) (hold : Old W w) (hgd : o.guard = none) (s x : Operand) (t : TypeId)
    (ho : o.op = .call { callee := .builtin .append, args := #[s, x], argTypes := #[t, t] })
    (e : TypeId) (i : TypeInfo) (z : Value) (size bytes : Nat) (ht : P.underlying t = some (.slice e)) (hi : P.info? e = some i) (hz : i.zero = some z)
    (hsize : i.size = size) (hby : i.bytes = bytes) (hzs : z.cells.size = size) (hsz : 0 < size)
    (v : Value) (n : Nat) (xs : List Value) (hs : a.eval s = v) (hown : w.ownsRow W.heap.size e size v n xs)
    (ad : Addr) (m c : Nat) (news : List Value) (hx : a.eval x = .slice (some ad) m c) (hl : news.length = m * size) (hnews : ∀ j u, news[j]? = some u → w.cell? (ad.add j) = some u) (h1 : ∀ u ∈ news, u.oneCell' = true)
    (h63 : n + m ≤ maxLen) (hbytes : (n + m) * bytes ≤ 140737488355328)
    (h : ∀ v' w', w'.ownsRow W.heap.size e size v' (n + m) (xs ++ news) → w.grownBy w' v.ownBlock → (v' = .slice none 0 0 ↔ v = .slice none 0 0 ∧ m = 0) → Old W w' → K (a.put o.dst v') w') :
    if Region.wanted o (yielded ops a.tmps) = true then Oper.wp P o a w K Q else E :=
  step_own hgd s x t ho W.heap.size e i z size bytes ht hi hz hsize hby hzs hsz v n xs hs hown ad m c news hx hl hnews h1 h63 hbytes hold.size fun v' w' h2 h3 h4 => h v' w' h2 h3 h4 (hold.grown h3 (fun k hk => (hown.lt k hk).1))
theorem owns_drew {w : World} {base : Nat} {e : TypeId} {size : Nat} {v : Value} {n : Nat} {xs : List Value} (h : w.ownsRow base e size v n xs) : w.drew.ownsRow base e size v n xs := h
theorem owns_e7 {w : World} {t : TypeId} {k B : Nat} (hk : k = w.heap.size) (hB : B ≤ k) : (w.alloc (.cells #[] t)).ownsRow B t 7 (.slice (some ⟨k, 0, none⟩) 0 0) 0 [] := by
  subst hk
  exact World.ownsRow_made w #[] 0 hB (by unfold maxLen; omega) rfl
theorem owns_le {w : World} {base base' : Nat} {e : TypeId} {size : Nat} {v : Value} {n : Nat} {xs : List Value} (h : w.ownsRow base e size v n xs) (hb : base' ≤ base) : w.ownsRow base' e size v n xs := by
  obtain ⟨h1, h2⟩ := h
  refine ⟨h1, ?_⟩
  rcases h2 with h2 | ⟨g, cap, cur, rfl, h3, h4⟩
  · exact .inl h2
  · exact .inr ⟨g, cap, cur, rfl, by omega, h4⟩
theorem CRow.news_take {w : World} {g : Nat} {l : List Cls} (h : CRow w g l) (k : Nat) : ∀ j u, (cvs (l.take k))[j]? = some u → w.cell? ((⟨g, 0, none⟩ : Addr).add j) = some u := by
  intro j u hu
  rw [cvs_take, List.getElem?_take] at hu
  split at hu
  · rw [Addr.add_lit, Nat.zero_add]
    exact h.at _ _ hu
  · cases hu
theorem CRow.news_drop {w : World} {g : Nat} {l : List Cls} (h : CRow w g l) (k : Nat) : ∀ j u, (cvs (l.drop k))[j]? = some u → w.cell? ((⟨g, k * 7, none⟩ : Addr).add j) = some u := by
  intro j u hu
  rw [cvs_drop, List.getElem?_drop] at hu
  rw [Addr.add_lit]
  exact h.at _ _ hu

theorem ret_slice {a : Option Addr} {n m cap : Nat} (h : n = m) : Ending.returned (.slice a n cap) = .returned (.slice a m cap) := by rw [h]
theorem CRow.news_if {w : World} {g : Nat} {l : List Cls} (h : CRow w g l) (k cap : Nat) (hc : l.length ≤ cap) : ∀ j u, (cvs (l.drop k))[j]? = some u → w.cell? ((if cap = k then (⟨g, 0, none⟩ : Addr) else ⟨g, k * 7, none⟩).add j) = some u := by
  intro j u hu
  split
  · rw [List.drop_eq_nil_of_le (by omega)] at hu
    simp [cvs] at hu
  · exact h.news_drop k j u hu

/-- A list of classes in a new row, a permutation of L. -/
def OwnC (w : World) (L : List Cls) (e : Ending) (w' : World) : Prop := ∃ (g cap : Nat) (l : List Cls), e = .returned (.slice (some ⟨g, 0, none⟩) l.length cap) ∧ l.Perm L ∧ l.length ≤ cap ∧ cap ≤ maxLen ∧ CRow w' g l ∧ Below w.heap.size w w'

set_option maxHeartbeats 4000000 in
theorem l3Put_perm (g cap : Nat) (l : List Cls) (hn : l.length ≤ cap) (hc : cap ≤ maxLen) (hl : l.length ≤ 1000) (xd xa xb xc xe xf xg : Int) (w : World) (h : CRow w g l) :
    Calls Try.prog 54 #[.slice (some ⟨g, 0, none⟩) l.length cap, .agg #[.int .i64 xd, .int .i64 xa, .int .i64 xb, .int .i64 xc, .int .i64 xe, .int .i64 xf, .int .i64 xg]] w (OwnC w (⟨xd, xa, xb, xc, xe, xf, xg⟩ :: l)) := by
  have hgl := h.lt
  have hcm : cap ≤ 9223372036854775807 := by unfold maxLen at hc; omega
  go_enter Try.func54, Try.ntmps54
  go_wp2_with fail
  go_loopw [5] (fun c wr => ∃ k : Nat, k ≤ l.length ∧ c = .int .i64 k ∧ Below (w.heap.size + 1) (w.alloc (.cells #[.int .i64 xd, .int .i64 xa, .int .i64 xb, .int .i64 xc, .int .i64 xe, .int .i64 xf, .int .i64 xg] 25)) wr) (fun c _ => l.length - (intOf c).toNat)
  case atStart => exact ⟨0, by omega, rfl, Below.refl _ _⟩
  case round =>
    obtain ⟨k, hk, rfl, hb0⟩ := hrel
    have hbz0 := hb0.size
    rw [World.size_alloc] at hbz0
    have hrow : CRow wr g l := (h.below ((Below.refl _ _).alloc (Nat.le_refl _) _)).below (hb0.mono (by simp))
    have kc := fun (o : Nat) => hb0.cell (p := ⟨w.heap.size, o, none⟩) (by simp)
    by_cases hlt : k < l.length
    · have b1 : (0 : Int) ≤ (k : Int) := by omega
      have b2 : (k : Int) < (l.length : Int) := by omega
      have c0 := hrow.cell k 0 hlt (by omega)
      have c1 := hrow.cell k 1 hlt (by omega)
      have c2 := hrow.cell k 2 hlt (by omega)
      have c3 := hrow.cell k 3 hlt (by omega)
      have c4 := hrow.cell k 4 hlt (by omega)
      have c5 := hrow.cell k 5 hlt (by omega)
      have c6 := hrow.cell k 6 hlt (by omega)
      generalize l.getD k zeroC = y at c0 c1 c2 c3 c4 c5 c6
      obtain ⟨yd, ya, yb, yc, ye, yf, yg⟩ := y
      simp only [cells7, List.getElem?_cons_zero, List.getElem?_cons_succ, Nat.add_zero] at c0 c1 c2 c3 c4 c5 c6
      go_wp2_with fail
      go_region_held3 (fun w' => w'.cell? ⟨w.heap.size, 0, none⟩ = some (.int .i64 xd) ∧ w'.cell? ⟨w.heap.size, 1, none⟩ = some (.int .i64 xa) ∧ w'.cell? ⟨w.heap.size, 2, none⟩ = some (.int .i64 xb) ∧ w'.cell? ⟨w.heap.size, 3, none⟩ = some (.int .i64 xc) ∧ w'.cell? ⟨w.heap.size, 4, none⟩ = some (.int .i64 xe) ∧ w'.cell? ⟨w.heap.size, 5, none⟩ = some (.int .i64 xf) ∧ w'.cell? ⟨w.heap.size, 6, none⟩ = some (.int .i64 xg) ∧ w'.cell? ⟨g, k * 7, none⟩ = some (.int .i64 yd) ∧ w'.cell? ⟨g, k * 7 + 1, none⟩ = some (.int .i64 ya) ∧ w'.cell? ⟨g, k * 7 + 2, none⟩ = some (.int .i64 yb) ∧ w'.cell? ⟨g, k * 7 + 3, none⟩ = some (.int .i64 yc) ∧ w'.cell? ⟨g, k * 7 + 4, none⟩ = some (.int .i64 ye) ∧ w'.cell? ⟨g, k * 7 + 5, none⟩ = some (.int .i64 yf) ∧ w'.cell? ⟨g, k * 7 + 6, none⟩ = some (.int .i64 yg)) (((repeat' apply And.intro) <;> (first | assumption | (simp only [World.cell?_drew]; assumption) | (rw [hbc _ _ (by first | omega | (simp; omega))]; first | assumption | (simp [go_sem, *]; done)) | (simp [go_sem, *]; done)))) ((go_at_call 55; ((with_reducible refine (l3Less_some yd ya yb yc ye yf yg xd xa xb xc xe xf xg _).mono ?_); rintro e wq ⟨b, rfl, hb⟩; obtain ⟨hbc, hbf⟩ := bcell hb)))
      have hbq : Below (w.heap.size + 1) (w.alloc (.cells #[.int .i64 xd, .int .i64 xa, .int .i64 xb, .int .i64 xc, .int .i64 xe, .int .i64 xf, .int .i64 xg] 25)) wq := (hb0.trans (by (repeat (first | (with_reducible exact Below.refl _ _) | (with_reducible refine bl_alloc ?_ ?_ _; focus (first | omega | (simp; done) | (simp; omega))) | (with_reducible refine bl_set ?_ ?_ _; focus (first | omega | (simp; done) | (simp; omega))) | (with_reducible refine Below.drew ?_) | (with_reducible refine below_drewN ?_ _) | (with_reducible refine below_step ?_ (by assumption)))))).trans (hb.mono (by simp; omega))
      cases b
      · have kq : ∀ o : Nat, wq.cell? ⟨w.heap.size, o, none⟩ = (#[.int .i64 xd, .int .i64 xa, .int .i64 xb, .int .i64 xc, .int .i64 xe, .int .i64 xf, .int .i64 xg] : Array Value)[o]? := fun o => (hbq.cell (p := ⟨w.heap.size, o, none⟩) (by simp)).trans (cell_of_row _ _ _ _ _ (0, 0) (alloc_at w _ _ rfl))
        have hrq : CRow wq g l := (h.below ((Below.refl _ _).alloc (Nat.le_refl _) _)).below (hbq.mono (by simp))
        have hgq : g < wq.heap.size := hrq.lt
        have hsq := hbq.size
        rw [World.size_alloc] at hsq
        have BQ := Lib.hid kq
        have HQ := Lib.hid hbq
        obtain ⟨i0, hi0, hz0, hz1, hz2⟩ := info_parts Try.infoC
        have hkm : k ≤ l.length := by omega
        have b3 : (k : Int) ≤ (cap : Int) := by omega
        have b4 : (k : Int) ≤ (l.length : Int) := by omega
        clear kc hb0 kq hbq hb hbc hbf c0 c1 c2 c3 c4 c5 c6
        go_wp2_with fail
        go_region_held3 (fun w' => Old wq w' ∧ (∀ o : Nat, w'.cell? ⟨w.heap.size, o, none⟩ = (#[.int .i64 xd, .int .i64 xa, .int .i64 xb, .int .i64 xc, .int .i64 xe, .int .i64 xf, .int .i64 xg] : Array Value)[o]?)) (((refine (fun h => ⟨h, fun o => (Old.cell h (by omega)).trans (BQ.out o)⟩) ?_); first | exact ((Old.refl _).drewN _).drew | exact (Old.refl _).drew | assumption | exact Old.alloc (show Old _ _ ∧ _ from by assumption).1 _)) ((have hq := (show Old _ _ ∧ _ from by assumption).1; first
          | (refine step_ownO wq hq ?_ (.tmp 20) (.tmp 23) 51 ?_ 25 i0 _ 7 56 Try.underlying51 hi0 hz0 hz1 hz2 rfl (by decide) (.slice (some ⟨wq.heap.size, 0, none⟩) 0 0) 0 [] ?_ ?_ ⟨g, 0, none⟩ k cap (cvs (l.take k)) ?_ ?_ ?_ (cvs_one _) ?_ ?_ ?_; (next => rfl); (next => rfl); (next => rfl); (next => first | exact owns_e7 (by first | rfl | (simp; done)) (by first | exact Nat.le_refl _ | (simp; done) | omega) | exact (owns_e7 (by first | rfl | (simp; done)) (by first | exact Nat.le_refl _ | (simp; done) | omega)).alloc _); (next => first | rfl | (show Value.slice _ _ _ = Value.slice _ _ _; congr 1; split <;> rfl)); (next => first | rfl | (rw [cvs_len]; simp; omega) | (rw [cvs_len]; simp; done)); (next => exact (hrq.kept (hq.block g hgq (by simp))).news_take k); (next => unfold maxLen; omega); (next => omega); intro v1 w1 hown1 hgrow1 hnil1 hold1)
          | (refine step_ownO wq hq ?_ (.tmp 20) (.tmp 23) 51 ?_ 25 i0 _ 7 56 Try.underlying51 hi0 hz0 hz1 hz2 rfl (by decide) (.slice (some ⟨wq.heap.size + 1, 0, none⟩) 0 0) 0 [] ?_ ?_ ⟨g, 0, none⟩ k cap (cvs (l.take k)) ?_ ?_ ?_ (cvs_one _) ?_ ?_ ?_; (next => rfl); (next => rfl); (next => rfl); (next => exact owns_e7 (by first | rfl | (simp; done)) (by first | exact Nat.le_refl _ | (simp; done) | omega)); (next => first | rfl | (show Value.slice _ _ _ = Value.slice _ _ _; congr 1; split <;> rfl)); (next => first | rfl | (rw [cvs_len]; simp; omega) | (rw [cvs_len]; simp; done)); (next => exact (hrq.kept (hq.block g hgq (by simp))).news_take k); (next => unfold maxLen; omega); (next => omega); intro v1 w1 hown1 hgrow1 hnil1 hold1)
          | (refine step_ownO wq hq ?_ (.tmp 24) (.tmp 26) 51 ?_ 25 i0 _ 7 56 Try.underlying51 hi0 hz0 hz1 hz2 rfl (by decide) v1 (0 + k) ([] ++ cvs (l.take k)) ?_ ?_ ⟨w1.heap.size, 0, none⟩ 1 1 (cells7 ⟨xd, xa, xb, xc, xe, xf, xg⟩) ?_ ?_ ?_ (by intro u hu; simp only [cells7, List.mem_cons, List.not_mem_nil, or_false] at hu; rcases hu with rfl | rfl | rfl | rfl | rfl | rfl | rfl <;> rfl) ?_ ?_ ?_; (next => rfl); (next => rfl); (next => rfl); (next => exact hown1.alloc _); (next => first | rfl | (show Value.slice _ _ _ = Value.slice _ _ _; congr 1; split <;> rfl)); (next => first | rfl | (rw [cvs_len]; simp; omega) | (rw [cvs_len]; simp; done)); (next => exact World.news_of_block (cs := #[.int .i64 xd, .int .i64 xa, .int .i64 xb, .int .i64 xc, .int .i64 xe, .int .i64 xf, .int .i64 xg]) (t := 25) (fr := (0, 0)) (alloc_at _ _ _ rfl)); (next => unfold maxLen; omega); (next => omega); intro v2 w2 hown2 hgrow2 hnil2 hold2)
          | (refine step_ownO wq hq ?_ (.tmp 24) (.tmp 26) 51 ?_ 25 i0 _ 7 56 Try.underlying51 hi0 hz0 hz1 hz2 rfl (by decide) v1 (0 + k) ([] ++ cvs (l.take k)) ?_ ?_ ⟨wq.heap.size + 1, 0, none⟩ 1 1 (cells7 ⟨xd, xa, xb, xc, xe, xf, xg⟩) ?_ ?_ ?_ (by intro u hu; simp only [cells7, List.mem_cons, List.not_mem_nil, or_false] at hu; rcases hu with rfl | rfl | rfl | rfl | rfl | rfl | rfl <;> rfl) ?_ ?_ ?_; (next => rfl); (next => rfl); (next => rfl); (next => exact hown1); (next => first | rfl | (show Value.slice _ _ _ = Value.slice _ _ _; congr 1; split <;> rfl)); (next => first | rfl | (rw [cvs_len]; simp; omega) | (rw [cvs_len]; simp; done)); (next => exact World.news_of_block (cs := #[.int .i64 xd, .int .i64 xa, .int .i64 xb, .int .i64 xc, .int .i64 xe, .int .i64 xf, .int .i64 xg]) (t := 25) (fr := (0, 0)) ((hgrow1.block (wq.heap.size + 1) (by simp) (by simp [Value.ownBlock])).trans (alloc_at _ _ _ (by simp)))); (next => unfold maxLen; omega); (next => omega); intro v2 w2 hown2 hgrow2 hnil2 hold2)
          | (refine step_ownO wq hq ?_ (.tmp 24) (.tmp 26) 51 ?_ 25 i0 _ 7 56 Try.underlying51 hi0 hz0 hz1 hz2 rfl (by decide) v1 (0 + k) ([] ++ cvs (l.take k)) ?_ ?_ ⟨wq.heap.size, 0, none⟩ 1 1 (cells7 ⟨xd, xa, xb, xc, xe, xf, xg⟩) ?_ ?_ ?_ (by intro u hu; simp only [cells7, List.mem_cons, List.not_mem_nil, or_false] at hu; rcases hu with rfl | rfl | rfl | rfl | rfl | rfl | rfl <;> rfl) ?_ ?_ ?_; (next => rfl); (next => rfl); (next => rfl); (next => exact hown1); (next => first | rfl | (show Value.slice _ _ _ = Value.slice _ _ _; congr 1; split <;> rfl)); (next => first | rfl | (rw [cvs_len]; simp; omega) | (rw [cvs_len]; simp; done)); (next => exact World.news_of_block (cs := #[.int .i64 xd, .int .i64 xa, .int .i64 xb, .int .i64 xc, .int .i64 xe, .int .i64 xf, .int .i64 xg]) (t := 25) (fr := (0, 0)) ((hgrow1.block wq.heap.size (by simp; try omega) (by simp [Value.ownBlock])).trans ((alloc_under _ _ _ (by simp)).trans (alloc_at _ _ _ (by simp))))); (next => unfold maxLen; omega); (next => omega); intro v2 w2 hown2 hgrow2 hnil2 hold2)
          | (refine step_ownO wq hq ?_ (.tmp 27) (.tmp 30) 51 ?_ 25 i0 _ 7 56 Try.underlying51 hi0 hz0 hz1 hz2 rfl (by decide) v2 (0 + k + 1) (([] ++ cvs (l.take k)) ++ (cells7 ⟨xd, xa, xb, xc, xe, xf, xg⟩)) ?_ ?_ (if cap = k then (⟨g, 0, none⟩ : Addr) else ⟨g, k * 7, none⟩) (l.length - k) (cap - k) (cvs (l.drop k)) ?_ ?_ ?_ (cvs_one _) ?_ ?_ ?_; (next => rfl); (next => rfl); (next => rfl); (next => exact hown2); (next => first | rfl | (show Value.slice _ _ _ = Value.slice _ _ _; congr 1; split <;> rfl)); (next => first | rfl | (rw [cvs_len]; simp; omega) | (rw [cvs_len]; simp; done)); (next => exact (hrq.kept (hq.block g hgq (by simp))).news_if k cap hn); (next => unfold maxLen; omega); (next => omega); intro v3 w3 hown3 hgrow3 hnil3 hold3)
          | fail))
        all_goals
          have hne3 : v3 ≠ .slice none 0 0 := fun h => by
            have q3 := (hnil3.1 h).1
            have q2 := (hnil2.1 q3).1
            have q1 := (hnil1.1 q2).1
            cases q1
          rw [show ([] ++ cvs (l.take k) ++ cells7 ⟨xd, xa, xb, xc, xe, xf, xg⟩) ++ cvs (l.drop k) = cvs (l.take k ++ ⟨xd, xa, xb, xc, xe, xf, xg⟩ :: l.drop k) by simp [cvs_app, cvs], show 0 + k + 1 + (l.length - k) = (l.take k ++ ⟨xd, xa, xb, xc, xe, xf, xg⟩ :: l.drop k).length by simp; omega] at hown3
          obtain ⟨g3, cap3, hv3, hg3, hn3, hc3, hr3⟩ := CRow.of_owns hown3 hne3
          subst hv3
          have HR3 := Lib.hid hr3
          have HO3 := Lib.hid hold3
          clear hown1 hown2 hown3 hgrow1 hgrow2 hgrow3 hnil1 hnil2 hnil3 hold1 hold2 hold3 hr3 hne3
          go_wp2_with fail
          all_goals
            go_ret
            exact ⟨g3, cap3, l.take k ++ ⟨xd, xa, xb, xc, xe, xf, xg⟩ :: l.drop k, ret_slice (by simp; omega), List.perm_middle.trans (by rw [List.take_append_drop]), hn3, hc3, HR3.out, Below.trans (b := w.alloc (.cells #[.int .i64 xd, .int .i64 xa, .int .i64 xb, .int .i64 xc, .int .i64 xe, .int .i64 xf, .int .i64 xg] 25)) (by (repeat (first | (with_reducible exact Below.refl _ _) | (with_reducible refine bl_alloc ?_ ?_ _; focus (first | omega | (simp; done) | (simp; omega))) | (with_reducible refine bl_set ?_ ?_ _; focus (first | omega | (simp; done) | (simp; omega))) | (with_reducible refine Below.drew ?_) | (with_reducible refine below_drewN ?_ _) | (with_reducible refine below_step ?_ (by assumption))))) ((HQ.out.mono (by omega)).trans (HO3.out.below.mono (by omega))) ⟩
      · go_wp2_with fail
        go_roundw
        case rel => exact ⟨k + 1, by omega, by go_num, hbq⟩
        case measure => simp [intOf]; omega
    · have hd : decide ((k : Int) < (l.length : Int)) = false := by simp; omega
      have b1 : (0 : Int) ≤ (k : Int) := by omega
      have b2 : (k : Int) ≤ (cap : Int) := by omega
      have b3 : (k : Int) ≤ (l.length : Int) := by omega
      obtain ⟨i0, hi0, hz0, hz1, hz2⟩ := info_parts Try.infoC
      have hgr : g < wr.heap.size := hrow.lt
      have hkm : k ≤ l.length := by omega
      have kb : ∀ o : Nat, wr.cell? ⟨w.heap.size, o, none⟩ = (#[.int .i64 xd, .int .i64 xa, .int .i64 xb, .int .i64 xc, .int .i64 xe, .int .i64 xf, .int .i64 xg] : Array Value)[o]? := fun o => (kc o).trans (cell_of_row _ _ _ _ _ (0, 0) (alloc_at w _ _ rfl))
      have BOX := Lib.hid kb
      have HB := Lib.hid hb0
      clear kc kb hb0
      go_wp2_with fail
      go_quiet (fail)
      go_wp2_with fail
      go_region_held3 (fun w' => Old wr w' ∧ (∀ o : Nat, w'.cell? ⟨w.heap.size, o, none⟩ = (#[.int .i64 xd, .int .i64 xa, .int .i64 xb, .int .i64 xc, .int .i64 xe, .int .i64 xf, .int .i64 xg] : Array Value)[o]?)) (((refine (fun h => ⟨h, fun o => (Old.cell h (by omega)).trans (BOX.out o)⟩) ?_); first | exact ((Old.refl _).drewN _).drew | exact (Old.refl _).drew | assumption | exact Old.alloc (show Old _ _ ∧ _ from by assumption).1 _)) ((have hq := (show Old _ _ ∧ _ from by assumption).1; first
        | (refine step_ownO wr hq ?_ (.tmp 20) (.tmp 23) 51 ?_ 25 i0 _ 7 56 Try.underlying51 hi0 hz0 hz1 hz2 rfl (by decide) (.slice (some ⟨wr.heap.size, 0, none⟩) 0 0) 0 [] ?_ ?_ ⟨g, 0, none⟩ k cap (cvs (l.take k)) ?_ ?_ ?_ (cvs_one _) ?_ ?_ ?_; (next => rfl); (next => rfl); (next => rfl); (next => first | exact owns_e7 (by first | rfl | (simp; done)) (by first | exact Nat.le_refl _ | (simp; done) | omega) | exact (owns_e7 (by first | rfl | (simp; done)) (by first | exact Nat.le_refl _ | (simp; done) | omega)).alloc _); (next => first | rfl | (show Value.slice _ _ _ = Value.slice _ _ _; congr 1; split <;> rfl)); (next => first | rfl | (rw [cvs_len]; simp; omega) | (rw [cvs_len]; simp; done)); (next => exact (hrow.kept (hq.block g hgr (by simp))).news_take k); (next => unfold maxLen; omega); (next => omega); intro v1 w1 hown1 hgrow1 hnil1 hold1)
        | (refine step_ownO wr hq ?_ (.tmp 20) (.tmp 23) 51 ?_ 25 i0 _ 7 56 Try.underlying51 hi0 hz0 hz1 hz2 rfl (by decide) (.slice (some ⟨wr.heap.size + 1, 0, none⟩) 0 0) 0 [] ?_ ?_ ⟨g, 0, none⟩ k cap (cvs (l.take k)) ?_ ?_ ?_ (cvs_one _) ?_ ?_ ?_; (next => rfl); (next => rfl); (next => rfl); (next => exact owns_e7 (by first | rfl | (simp; done)) (by first | exact Nat.le_refl _ | (simp; done) | omega)); (next => first | rfl | (show Value.slice _ _ _ = Value.slice _ _ _; congr 1; split <;> rfl)); (next => first | rfl | (rw [cvs_len]; simp; omega) | (rw [cvs_len]; simp; done)); (next => exact (hrow.kept (hq.block g hgr (by simp))).news_take k); (next => unfold maxLen; omega); (next => omega); intro v1 w1 hown1 hgrow1 hnil1 hold1)
        | (refine step_ownO wr hq ?_ (.tmp 24) (.tmp 26) 51 ?_ 25 i0 _ 7 56 Try.underlying51 hi0 hz0 hz1 hz2 rfl (by decide) v1 (0 + k) ([] ++ cvs (l.take k)) ?_ ?_ ⟨w1.heap.size, 0, none⟩ 1 1 (cells7 ⟨xd, xa, xb, xc, xe, xf, xg⟩) ?_ ?_ ?_ (by intro u hu; simp only [cells7, List.mem_cons, List.not_mem_nil, or_false] at hu; rcases hu with rfl | rfl | rfl | rfl | rfl | rfl | rfl <;> rfl) ?_ ?_ ?_; (next => rfl); (next => rfl); (next => rfl); (next => exact hown1.alloc _); (next => first | rfl | (show Value.slice _ _ _ = Value.slice _ _ _; congr 1; split <;> rfl)); (next => first | rfl | (rw [cvs_len]; simp; omega) | (rw [cvs_len]; simp; done)); (next => exact World.news_of_block (cs := #[.int .i64 xd, .int .i64 xa, .int .i64 xb, .int .i64 xc, .int .i64 xe, .int .i64 xf, .int .i64 xg]) (t := 25) (fr := (0, 0)) (alloc_at _ _ _ rfl)); (next => unfold maxLen; omega); (next => omega); intro v2 w2 hown2 hgrow2 hnil2 hold2)
        | (refine step_ownO wr hq ?_ (.tmp 24) (.tmp 26) 51 ?_ 25 i0 _ 7 56 Try.underlying51 hi0 hz0 hz1 hz2 rfl (by decide) v1 (0 + k) ([] ++ cvs (l.take k)) ?_ ?_ ⟨wr.heap.size + 1, 0, none⟩ 1 1 (cells7 ⟨xd, xa, xb, xc, xe, xf, xg⟩) ?_ ?_ ?_ (by intro u hu; simp only [cells7, List.mem_cons, List.not_mem_nil, or_false] at hu; rcases hu with rfl | rfl | rfl | rfl | rfl | rfl | rfl <;> rfl) ?_ ?_ ?_; (next => rfl); (next => rfl); (next => rfl); (next => exact hown1); (next => first | rfl | (show Value.slice _ _ _ = Value.slice _ _ _; congr 1; split <;> rfl)); (next => first | rfl | (rw [cvs_len]; simp; omega) | (rw [cvs_len]; simp; done)); (next => exact World.news_of_block (cs := #[.int .i64 xd, .int .i64 xa, .int .i64 xb, .int .i64 xc, .int .i64 xe, .int .i64 xf, .int .i64 xg]) (t := 25) (fr := (0, 0)) ((hgrow1.block (wr.heap.size + 1) (by simp) (by simp [Value.ownBlock])).trans (alloc_at _ _ _ (by simp)))); (next => unfold maxLen; omega); (next => omega); intro v2 w2 hown2 hgrow2 hnil2 hold2)
        | (refine step_ownO wr hq ?_ (.tmp 24) (.tmp 26) 51 ?_ 25 i0 _ 7 56 Try.underlying51 hi0 hz0 hz1 hz2 rfl (by decide) v1 (0 + k) ([] ++ cvs (l.take k)) ?_ ?_ ⟨wr.heap.size, 0, none⟩ 1 1 (cells7 ⟨xd, xa, xb, xc, xe, xf, xg⟩) ?_ ?_ ?_ (by intro u hu; simp only [cells7, List.mem_cons, List.not_mem_nil, or_false] at hu; rcases hu with rfl | rfl | rfl | rfl | rfl | rfl | rfl <;> rfl) ?_ ?_ ?_; (next => rfl); (next => rfl); (next => rfl); (next => exact hown1); (next => first | rfl | (show Value.slice _ _ _ = Value.slice _ _ _; congr 1; split <;> rfl)); (next => first | rfl | (rw [cvs_len]; simp; omega) | (rw [cvs_len]; simp; done)); (next => exact World.news_of_block (cs := #[.int .i64 xd, .int .i64 xa, .int .i64 xb, .int .i64 xc, .int .i64 xe, .int .i64 xf, .int .i64 xg]) (t := 25) (fr := (0, 0)) ((hgrow1.block wr.heap.size (by simp; try omega) (by simp [Value.ownBlock])).trans ((alloc_under _ _ _ (by simp)).trans (alloc_at _ _ _ (by simp))))); (next => unfold maxLen; omega); (next => omega); intro v2 w2 hown2 hgrow2 hnil2 hold2)
        | (refine step_ownO wr hq ?_ (.tmp 27) (.tmp 30) 51 ?_ 25 i0 _ 7 56 Try.underlying51 hi0 hz0 hz1 hz2 rfl (by decide) v2 (0 + k + 1) (([] ++ cvs (l.take k)) ++ (cells7 ⟨xd, xa, xb, xc, xe, xf, xg⟩)) ?_ ?_ (if cap = k then (⟨g, 0, none⟩ : Addr) else ⟨g, k * 7, none⟩) (l.length - k) (cap - k) (cvs (l.drop k)) ?_ ?_ ?_ (cvs_one _) ?_ ?_ ?_; (next => rfl); (next => rfl); (next => rfl); (next => exact hown2); (next => first | rfl | (show Value.slice _ _ _ = Value.slice _ _ _; congr 1; split <;> rfl)); (next => first | rfl | (rw [cvs_len]; simp; omega) | (rw [cvs_len]; simp; done)); (next => exact (hrow.kept (hq.block g hgr (by simp))).news_if k cap hn); (next => unfold maxLen; omega); (next => omega); intro v3 w3 hown3 hgrow3 hnil3 hold3)
        | fail))
      all_goals
        have hne3 : v3 ≠ .slice none 0 0 := fun h => by
          have q3 := (hnil3.1 h).1
          have q2 := (hnil2.1 q3).1
          have q1 := (hnil1.1 q2).1
          cases q1
        rw [show ([] ++ cvs (l.take k) ++ cells7 ⟨xd, xa, xb, xc, xe, xf, xg⟩) ++ cvs (l.drop k) = cvs (l.take k ++ ⟨xd, xa, xb, xc, xe, xf, xg⟩ :: l.drop k) by simp [cvs_app, cvs], show 0 + k + 1 + (l.length - k) = (l.take k ++ ⟨xd, xa, xb, xc, xe, xf, xg⟩ :: l.drop k).length by simp; omega] at hown3
        obtain ⟨g3, cap3, hv3, hg3, hn3, hc3, hr3⟩ := CRow.of_owns hown3 hne3
        subst hv3
        have HR3 := Lib.hid hr3
        have HO3 := Lib.hid hold3
        clear hown1 hown2 hown3 hgrow1 hgrow2 hgrow3 hnil1 hnil2 hnil3 hold1 hold2 hold3 hr3 hne3
        go_wp2_with fail
        all_goals
          go_ret
          exact ⟨g3, cap3, l.take k ++ ⟨xd, xa, xb, xc, xe, xf, xg⟩ :: l.drop k, ret_slice (by simp; omega), List.perm_middle.trans (by rw [List.take_append_drop]), hn3, hc3, HR3.out, Below.trans (b := w.alloc (.cells #[.int .i64 xd, .int .i64 xa, .int .i64 xb, .int .i64 xc, .int .i64 xe, .int .i64 xf, .int .i64 xg] 25)) (by (repeat (first | (with_reducible exact Below.refl _ _) | (with_reducible refine bl_alloc ?_ ?_ _; focus (first | omega | (simp; done) | (simp; omega))) | (with_reducible refine bl_set ?_ ?_ _; focus (first | omega | (simp; done) | (simp; omega))) | (with_reducible refine Below.drew ?_) | (with_reducible refine below_drewN ?_ _) | (with_reducible refine below_step ?_ (by assumption))))) ((HB.out.mono (by omega)).trans (HO3.out.below.mono (by omega))) ⟩

end Go.Proofs.Ytaapkkbfmgimkaa
