/- Contracts of the reference's drawing of classes: for every code the drawn class has numbers from -3 to 1001. -/
import Derived.Test.YtaapkkbfmgimkaaRootsL
import Derived.Test.YtaapkkbfmgimkaaDraw
namespace Go.Proofs.Ytaapkkbfmgimkaa
open Go.RowKit
set_option linter.unusedSimpArgs false
set_option linter.unusedVariables false
attribute [local go_sem] idx_0 idx_1 idx_2 idx_3 idx_4 idx_5

/-- A class that is drawn: its numbers lie from -3 to 1001; the reader goes on at most twelve places. -/
def Classed (R : Nat) (a : Option Addr) (n cap : Nat) (l : List Int) (p : Nat) (w : World) (e : Ending) (w' : World) : Prop :=
  ∃ (xd xa xb xc xe xf xg : Int) (p' : Nat), e = .returned (.agg #[.int .i64 xd, .int .i64 xa, .int .i64 xb, .int .i64 xc, .int .i64 xe, .int .i64 xf, .int .i64 xg]) ∧ smallC ⟨xd, xa, xb, xc, xe, xf, xg⟩ = true ∧ p' ≤ p + 12 ∧ RdAt w' R a n cap l p' ∧ w.grownBy w' (some R)

/-- Block B holds a class. -/
def ClsAt (w : World) (B : Nat) (x : Cls) : Prop := w.heap[B]? = some (.cells (cells7 x).toArray 25 (0, 0))
theorem ClsAt.c {w : World} {B : Nat} {x : Cls} (h : ClsAt w B x) (i : Nat) (hi : i < 7) : w.cell? ⟨B, i, none⟩ = (cells7 x)[i]? := by
  rw [cell_of_row w B i _ _ (0, 0) h]
  simp
theorem ClsAt.f {w : World} {B : Nat} {x : Cls} (h : ClsAt w B x) (i : Nat) : w.frozen? ⟨B, i, none⟩ = false := by
  have h' : w.heap[B]? = some (.cells (cells7 x).toArray 25 (0, 0)) := h
  simp [World.frozen?, h']
theorem ClsAt.lt {w : World} {B : Nat} {x : Cls} (h : ClsAt w B x) : B < w.heap.size := (Array.getElem?_eq_some_iff.1 h).1
theorem ClsAt.kept {w w' : World} {B : Nat} {x : Cls} {row : Option Nat} (h : ClsAt w B x) (hg : w.grownBy w' row) (hne : some B ≠ row) : ClsAt w' B x :=
  (hg.block B h.lt hne).trans h
theorem ClsAt.put {w : World} {B : Nat} {x : Cls} (h : ClsAt w B x) (i : Nat) (n : Int) (y : Cls) (he : (cells7 x).set i (.int .i64 n) = cells7 y) : ClsAt (w.setCell ⟨B, i, none⟩ (.int .i64 n)) B y := by
  have h' : w.heap[B]? = some (.cells (cells7 x).toArray 25 (0, 0)) := h
  show (w.setCell ⟨B, i, none⟩ (.int .i64 n)).heap[B]? = _
  simp [World.setCell, Array.getElem?_modify, h', he]

theorem gr_set {a w : World} {row : Option Nat} {B i : Nat} {v : Value} (h : a.grownBy w row) (hB : a.heap.size ≤ B) : a.grownBy (w.setCell ⟨B, i, none⟩ v) row :=
  ⟨h.os, h.tape, h.output, by simpa [World.setCell] using h.size, fun k hk hne => (Below.heap_setCell w ⟨B, i, none⟩ v k (by show k ≠ B; omega)).trans (h.block k hk hne)⟩
theorem rd_set {w : World} {R : Nat} {a : Option Addr} {n cap : Nat} {l : List Int} {p B i : Nat} {v : Value} (h : RdAt w R a n cap l p) (hB : B ≠ R) (hA : ∀ x, 0 < n → a = some x → x.block ≠ B) : RdAt (w.setCell ⟨B, i, none⟩ v) R a n cap l p := by
  obtain ⟨h1, ⟨g1, g2, g3, g4⟩, h3, h4⟩ := h
  refine ⟨(Below.heap_setCell w ⟨B, i, none⟩ v R (Ne.symm hB)).trans h1, ⟨g1, g2, g3, ?_⟩, h3, h4⟩
  by_cases hn0 : n = 0
  · exact .inl hn0
  rcases g4 with g4 | ⟨b, off, ha, hb, hc⟩
  · exact .inl g4
  · refine .inr ⟨b, off, ha, by simpa [World.setCell] using hb, fun j hj => ?_⟩
    rw [World.cell?_setCell_other _ _ _ _ (by intro e; have := hA _ (by omega) ha; simp at e; exact this e.1.symm)]
    exact hc j hj

theorem LC_small : ∀ j, j < 27 → smallC (LC j) = true := by decide +kernel

theorem CRow.ne_rd {w : World} {g R : Nat} {l : List Cls} {a : Option Addr} {n cap p : Nat} {l' : List Int} (h : CRow w g l) (h' : RdAt w R a n cap l' p) : g ≠ R := by
  rintro rfl
  obtain ⟨cur, hc, _⟩ := h
  have := hc.symm.trans h'.1
  simp at this
theorem RdAt.arg {w : World} {R : Nat} {a : Option Addr} {n cap p : Nat} {l : List Int} (h : RdAt w R a n cap l p) : ∀ x, 0 < n → a = some x → x.block < w.heap.size := by
  intro x hn hx
  rcases h.2.1.2.2.2 with h4 | ⟨b, off, ha, hbl, hc⟩
  · omega
  · rw [ha] at hx
    cases hx
    exact hbl
theorem gr_alloc {a w : World} {row : Option Nat} (h : a.grownBy w row) (o : Obj) : a.grownBy (w.alloc o) row :=
  ⟨h.os, h.tape, h.output, by have := h.size; simp; omega, fun i hi hne => (alloc_under w o i (Nat.lt_of_lt_of_le hi h.size)).trans (h.block i hi hne)⟩
theorem gr_refl (a : World) (row : Option Nat) : a.grownBy a row := ⟨rfl, rfl, rfl, Nat.le_refl _, fun _ _ _ => rfl⟩
theorem ClsAt.alloc {w : World} {B : Nat} {x : Cls} (h : ClsAt w B x) (o : Obj) : ClsAt (w.alloc o) B x := (alloc_under w o B h.lt).trans h
theorem ClsAt.set {w : World} {B B' i : Nat} {x : Cls} {v : Value} (h : ClsAt w B x) (hne : B' ≠ B) : ClsAt (w.setCell ⟨B', i, none⟩ v) B x := (Below.heap_setCell w ⟨B', i, none⟩ v B (Ne.symm hne)).trans h
theorem RdAt.alloc {w : World} {R : Nat} {a : Option Addr} {n cap : Nat} {l : List Int} {p : Nat} (h : RdAt w R a n cap l p) (o : Obj) : RdAt (w.alloc o) R a n cap l p := h.below ((Below.refl _ _).alloc (Nat.le_refl _) _)

set_option maxHeartbeats 8000000 in
theorem l91Class_any (R : Nat) (a : Option Addr) (n cap : Nat) (l : List Int) (p : Nat) (hp : p ≤ 90000) (w : World) (h : RdAt w R a n cap l p) :
    Calls Try.prog 33 #[.pointer (some ⟨R, 0, none⟩)] w (Classed R a n cap l p w) := by
  have hA := h.arg
  have hRl := h.lt
  go_enter Try.func33, Try.ntmps33
  go_wp2_with fail
  refine (pick_any R a n cap l p 5 (by omega) (by omega) (by omega) _ (h.alloc _)).mono ?_
  rintro e w1 ⟨x, rfl, hx0, hx1, hr1, hg1⟩
  have hgw : w.grownBy w1 (some R) := grown_trans (gr_alloc (gr_refl _ _) _) hg1
  have hz : ClsAt w1 w.heap.size ⟨0, 0, 0, 0, 0, 0, 0⟩ := ClsAt.kept (w := w.alloc (.cells #[.int .i64 0, .int .i64 0, .int .i64 0, .int .i64 0, .int .i64 0, .int .i64 0, .int .i64 0] 25)) (alloc_at _ _ _ rfl) hg1 (by simp; omega)
  have hs1 := hg1.size
  rw [World.size_alloc] at hs1
  clear hg1
  by_cases hx : x = 0
  · subst hx
    go_wp2_with fail
    refine (pick_any R a n cap l (p + 1) 9 (by omega) (by omega) (by omega) _ hr1).mono ?_
    rintro e w2 ⟨x2, rfl, hy0, hy1, hr2, hg2⟩
    have hz2 := hz.kept hg2 (by simp; omega)
    have hgw2 := grown_trans hgw hg2
    have hs2 := hg2.size
    clear hr1 hg2 hz hgw
    go_wp2_with fail
    go_loopw [4] (fun c wr => ∃ (k : Nat) (z : Cls), k ≤ 6 ∧ c = .int .i64 k ∧ ClsAt wr w2.heap.size z ∧ smallC z = true ∧ RdAt wr R a n cap l (p + 2 + k) ∧ w.grownBy wr (some R) ∧ ClsAt wr w.heap.size ⟨0, 0, 0, 0, 0, 0, 0⟩) (fun c _ => 6 - (intOf c).toNat)
    case atStart => exact ⟨0, ⟨x2 - 2, 0, 0, 0, 0, 0, 0⟩, by omega, rfl, alloc_at _ _ _ rfl, by simp [smallC, smallN, inB]; omega, hr2.alloc _, gr_alloc hgw2 _, hz2.alloc _⟩
    case round =>
      clear hr2 hgw2 hz2
      obtain ⟨k, ⟨zd, za, zb, zc, ze, zf, zg⟩, hk, rfl, hc, hsm, hr3, hg3, hz3⟩ := hrel
      by_cases hk6 : k < 6
      · go_wp2_with fail
        refine (pick_any R a n cap l (p + 2 + k) 5 (by omega) (by omega) (by omega) _ hr3).mono ?_
        rintro e w4 ⟨v, rfl, hv0, hv1, hr4, hg4⟩
        have hc4 := hc.kept hg4 (by simp; omega)
        have hz4 := hz3.kept hg4 (by simp; omega)
        have hgw4 := grown_trans hg3 hg4
        clear hc hz3 hg3 hr3 hg4
        have c1 := hc4.c 1 (by omega)
        have c2 := hc4.c 2 (by omega)
        have c3 := hc4.c 3 (by omega)
        have c4 := hc4.c 4 (by omega)
        have c5 := hc4.c 5 (by omega)
        have c6 := hc4.c 6 (by omega)
        have f1 := hc4.f 1
        have f2 := hc4.f 2
        have f3 := hc4.f 3
        have f4 := hc4.f 4
        have f5 := hc4.f 5
        have f6 := hc4.f 6
        simp only [cells7, List.getElem?_cons_zero, List.getElem?_cons_succ] at c1 c2 c3 c4 c5 c6
        have HS := Lib.hid hsm
        clear hsm
        have hkk : k = 0 ∨ k = 1 ∨ k = 2 ∨ k = 3 ∨ k = 4 ∨ k = 5 := by omega
        rcases hkk with rfl | rfl | rfl | rfl | rfl | rfl
        · go_wp2_with fail
          go_roundw
          case rel => exact ⟨1, ⟨zd, v - 1, zb, zc, ze, zf, zg⟩, by omega, by first | rfl | go_num, hc4.put 1 _ _ (by simp [cells7]), by have h := HS.out; simp [smallC, smallN, inB] at h ⊢; omega, rd_set hr4 (by omega) (fun x hn hx => by have := hA x hn hx; omega), gr_set hgw4 (by omega), hz4.set (by omega)⟩
          case measure => simp [intOf]
        · go_wp2_with fail
          go_roundw
          case rel => exact ⟨2, ⟨zd, za, v - 1, zc, ze, zf, zg⟩, by omega, by first | rfl | go_num, hc4.put 2 _ _ (by simp [cells7]), by have h := HS.out; simp [smallC, smallN, inB] at h ⊢; omega, rd_set hr4 (by omega) (fun x hn hx => by have := hA x hn hx; omega), gr_set hgw4 (by omega), hz4.set (by omega)⟩
          case measure => simp [intOf]
        · go_wp2_with fail
          go_roundw
          case rel => exact ⟨3, ⟨zd, za, zb, v - 1, ze, zf, zg⟩, by omega, by first | rfl | go_num, hc4.put 3 _ _ (by simp [cells7]), by have h := HS.out; simp [smallC, smallN, inB] at h ⊢; omega, rd_set hr4 (by omega) (fun x hn hx => by have := hA x hn hx; omega), gr_set hgw4 (by omega), hz4.set (by omega)⟩
          case measure => simp [intOf]
        · go_wp2_with fail
          go_roundw
          case rel => exact ⟨4, ⟨zd, za, zb, zc, v - 1, zf, zg⟩, by omega, by first | rfl | go_num, hc4.put 4 _ _ (by simp [cells7]), by have h := HS.out; simp [smallC, smallN, inB] at h ⊢; omega, rd_set hr4 (by omega) (fun x hn hx => by have := hA x hn hx; omega), gr_set hgw4 (by omega), hz4.set (by omega)⟩
          case measure => simp [intOf]
        · go_wp2_with fail
          go_roundw
          case rel => exact ⟨5, ⟨zd, za, zb, zc, ze, v - 1, zg⟩, by omega, by first | rfl | go_num, hc4.put 5 _ _ (by simp [cells7]), by have h := HS.out; simp [smallC, smallN, inB] at h ⊢; omega, rd_set hr4 (by omega) (fun x hn hx => by have := hA x hn hx; omega), gr_set hgw4 (by omega), hz4.set (by omega)⟩
          case measure => simp [intOf]
        · go_wp2_with fail
          go_roundw
          case rel => exact ⟨6, ⟨zd, za, zb, zc, ze, zf, v - 1⟩, by omega, by first | rfl | go_num, hc4.put 6 _ _ (by simp [cells7]), by have h := HS.out; simp [smallC, smallN, inB] at h ⊢; omega, rd_set hr4 (by omega) (fun x hn hx => by have := hA x hn hx; omega), gr_set hgw4 (by omega), hz4.set (by omega)⟩
          case measure => simp [intOf]
      · obtain rfl : k = 6 := by omega
        go_wp2_with fail
        refine (pick_any R a n cap l (p + 2 + 6) 12 (by omega) (by omega) (by omega) _ hr3).mono ?_
        rintro e w4 ⟨v, rfl, hv0, hv1, hr4, hg4⟩
        have hc4 := hc.kept hg4 (by simp; omega)
        have hz4 := hz3.kept hg4 (by simp; omega)
        have hgw4 := grown_trans hg3 hg4
        clear hc hz3 hg3 hr3 hg4
        have HS := Lib.hid hsm
        clear hsm
        by_cases hv : v = 0
        · subst hv
          go_wp2_with fail
          refine (pick_any R a n cap l (p + 2 + 6 + 1) 6 (by omega) (by omega) (by omega) _ hr4).mono ?_
          rintro e w5 ⟨u, rfl, hu0, hu1, hr5, hg5⟩
          have hc5 := hc4.kept hg5 (by simp; omega)
          have hz5 := hz4.kept hg5 (by simp; omega)
          have hgw5 := grown_trans hgw4 hg5
          clear hc4 hz4 hgw4 hr4 hg5
          have c0 := hc5.c 0 (by omega)
          have f0 := hc5.f 0
          have d0 := hz5.c 0 (by omega)
          have g0 := hz5.f 0
          have c1 := hc5.c 1 (by omega)
          have f1 := hc5.f 1
          have d1 := hz5.c 1 (by omega)
          have g1 := hz5.f 1
          have c2 := hc5.c 2 (by omega)
          have f2 := hc5.f 2
          have d2 := hz5.c 2 (by omega)
          have g2 := hz5.f 2
          have c3 := hc5.c 3 (by omega)
          have f3 := hc5.f 3
          have d3 := hz5.c 3 (by omega)
          have g3 := hz5.f 3
          have c4 := hc5.c 4 (by omega)
          have f4 := hc5.f 4
          have d4 := hz5.c 4 (by omega)
          have g4 := hz5.f 4
          have c5 := hc5.c 5 (by omega)
          have f5 := hc5.f 5
          have d5 := hz5.c 5 (by omega)
          have g5 := hz5.f 5
          have c6 := hc5.c 6 (by omega)
          have f6 := hc5.f 6
          have d6 := hz5.c 6 (by omega)
          have g6 := hz5.f 6
          simp only [cells7, List.getElem?_cons_zero, List.getElem?_cons_succ] at c0 c1 c2 c3 c4 c5 c6 d0 d1 d2 d3 d4 d5 d6
          have hne1 : ¬ (w2.heap.size = w.heap.size) := by omega
          have hne2 : ¬ (w.heap.size = w2.heap.size) := by omega
          have huu : u = 0 ∨ u = 1 ∨ u = 2 ∨ u = 3 ∨ u = 4 ∨ u = 5 := by omega
          rcases huu with rfl | rfl | rfl | rfl | rfl | rfl
          · go_wp2_with fail
            refine bodyPost_ret (v := .agg #[.int .i64 (zd), .int .i64 (1001), .int .i64 (zb), .int .i64 (zc), .int .i64 (ze), .int .i64 (zf), .int .i64 (zg)]) (by simp [results, Try.results33, go_sem, *]) rfl ⟨zd, 1001, zb, zc, ze, zf, zg, (p + 2 + 6 + 1 + 1), rfl, by have h := HS.out; simp [smallC, smallN, inB] at h ⊢; omega, by omega, by (repeat (with_reducible refine rd_set ?_ (by omega) (fun x hn hx => by have := hA x hn hx; omega))); exact hr5, by (repeat (with_reducible refine gr_set ?_ (by omega))); exact hgw5⟩
          · go_wp2_with fail
            refine bodyPost_ret (v := .agg #[.int .i64 (zd), .int .i64 (za), .int .i64 (1001), .int .i64 (zc), .int .i64 (ze), .int .i64 (zf), .int .i64 (zg)]) (by simp [results, Try.results33, go_sem, *]) rfl ⟨zd, za, 1001, zc, ze, zf, zg, (p + 2 + 6 + 1 + 1), rfl, by have h := HS.out; simp [smallC, smallN, inB] at h ⊢; omega, by omega, by (repeat (with_reducible refine rd_set ?_ (by omega) (fun x hn hx => by have := hA x hn hx; omega))); exact hr5, by (repeat (with_reducible refine gr_set ?_ (by omega))); exact hgw5⟩
          · go_wp2_with fail
            refine bodyPost_ret (v := .agg #[.int .i64 (zd), .int .i64 (za), .int .i64 (zb), .int .i64 (1001), .int .i64 (ze), .int .i64 (zf), .int .i64 (zg)]) (by simp [results, Try.results33, go_sem, *]) rfl ⟨zd, za, zb, 1001, ze, zf, zg, (p + 2 + 6 + 1 + 1), rfl, by have h := HS.out; simp [smallC, smallN, inB] at h ⊢; omega, by omega, by (repeat (with_reducible refine rd_set ?_ (by omega) (fun x hn hx => by have := hA x hn hx; omega))); exact hr5, by (repeat (with_reducible refine gr_set ?_ (by omega))); exact hgw5⟩
          · go_wp2_with fail
            refine bodyPost_ret (v := .agg #[.int .i64 (zd), .int .i64 (za), .int .i64 (zb), .int .i64 (zc), .int .i64 (1001), .int .i64 (zf), .int .i64 (zg)]) (by simp [results, Try.results33, go_sem, *]) rfl ⟨zd, za, zb, zc, 1001, zf, zg, (p + 2 + 6 + 1 + 1), rfl, by have h := HS.out; simp [smallC, smallN, inB] at h ⊢; omega, by omega, by (repeat (with_reducible refine rd_set ?_ (by omega) (fun x hn hx => by have := hA x hn hx; omega))); exact hr5, by (repeat (with_reducible refine gr_set ?_ (by omega))); exact hgw5⟩
          · go_wp2_with fail
            refine bodyPost_ret (v := .agg #[.int .i64 (zd), .int .i64 (za), .int .i64 (zb), .int .i64 (zc), .int .i64 (ze), .int .i64 (1001), .int .i64 (zg)]) (by simp [results, Try.results33, go_sem, *]) rfl ⟨zd, za, zb, zc, ze, 1001, zg, (p + 2 + 6 + 1 + 1), rfl, by have h := HS.out; simp [smallC, smallN, inB] at h ⊢; omega, by omega, by (repeat (with_reducible refine rd_set ?_ (by omega) (fun x hn hx => by have := hA x hn hx; omega))); exact hr5, by (repeat (with_reducible refine gr_set ?_ (by omega))); exact hgw5⟩
          · go_wp2_with fail
            refine bodyPost_ret (v := .agg #[.int .i64 (zd), .int .i64 (za), .int .i64 (zb), .int .i64 (zc), .int .i64 (ze), .int .i64 (zf), .int .i64 (1001)]) (by simp [results, Try.results33, go_sem, *]) rfl ⟨zd, za, zb, zc, ze, zf, 1001, (p + 2 + 6 + 1 + 1), rfl, by have h := HS.out; simp [smallC, smallN, inB] at h ⊢; omega, by omega, by (repeat (with_reducible refine rd_set ?_ (by omega) (fun x hn hx => by have := hA x hn hx; omega))); exact hr5, by (repeat (with_reducible refine gr_set ?_ (by omega))); exact hgw5⟩
        · have hv2 : (v == 0) = false := by simpa using hv
          clear hv
          have c0 := hc4.c 0 (by omega)
          have f0 := hc4.f 0
          have d0 := hz4.c 0 (by omega)
          have g0 := hz4.f 0
          have c1 := hc4.c 1 (by omega)
          have f1 := hc4.f 1
          have d1 := hz4.c 1 (by omega)
          have g1 := hz4.f 1
          have c2 := hc4.c 2 (by omega)
          have f2 := hc4.f 2
          have d2 := hz4.c 2 (by omega)
          have g2 := hz4.f 2
          have c3 := hc4.c 3 (by omega)
          have f3 := hc4.f 3
          have d3 := hz4.c 3 (by omega)
          have g3 := hz4.f 3
          have c4 := hc4.c 4 (by omega)
          have f4 := hc4.f 4
          have d4 := hz4.c 4 (by omega)
          have g4 := hz4.f 4
          have c5 := hc4.c 5 (by omega)
          have f5 := hc4.f 5
          have d5 := hz4.c 5 (by omega)
          have g5 := hz4.f 5
          have c6 := hc4.c 6 (by omega)
          have f6 := hc4.f 6
          have d6 := hz4.c 6 (by omega)
          have g6 := hz4.f 6
          simp only [cells7, List.getElem?_cons_zero, List.getElem?_cons_succ] at c0 c1 c2 c3 c4 c5 c6 d0 d1 d2 d3 d4 d5 d6
          have hne1 : ¬ (w2.heap.size = w.heap.size) := by omega
          have hne2 : ¬ (w.heap.size = w2.heap.size) := by omega
          go_wp2_with fail
          refine bodyPost_ret (v := .agg #[.int .i64 (zd), .int .i64 (za), .int .i64 (zb), .int .i64 (zc), .int .i64 (ze), .int .i64 (zf), .int .i64 (zg)]) (by simp [results, Try.results33, go_sem, *]) rfl ⟨zd, za, zb, zc, ze, zf, zg, (p + 2 + 6 + 1), rfl, by have h := HS.out; simp [smallC, smallN, inB] at h ⊢; omega, by omega, by (repeat (with_reducible refine rd_set ?_ (by omega) (fun x hn hx => by have := hA x hn hx; omega))); exact hr4, by (repeat (with_reducible refine gr_set ?_ (by omega))); exact hgw4⟩
  · by_cases hx1' : x = 1
    · subst hx1'
      clear hx
      go_wp2_with fail
      refine (l3Roots_any _).mono ?_
      rintro e w2 ⟨g, cap2, l2, rfl, hp2, hn2, hc2, hrow2, hb2⟩
      have hr2 := hr1.below hb2
      have hz2 : ClsAt w2 w.heap.size ⟨0, 0, 0, 0, 0, 0, 0⟩ := (hb2.block _ hz.lt).trans hz
      have hgw2 := grown_below hgw hb2
      have hs2 := hb2.size
      have hl2 : l2.length = 72 := hp2.length_eq.trans allS_72
      clear hr1 hgw hz
      go_wp2_with fail
      refine (pick_any R a n cap l (p + 1) 72 (by omega) (by omega) (by omega) _ hr2).mono ?_
      rintro e w3 ⟨v, rfl, hv0, hv1, hr3, hg3⟩
      have hz3 := hz2.kept hg3 (by simp; omega)
      have hgw3 := grown_trans hgw2 hg3
      have hrow3 := hrow2.grown hg3 (hrow2.ne_rd hr2)
      clear hz2 hgw2 hr2 hrow2 hg3 hb2
      obtain ⟨j, rfl⟩ : ∃ j : Nat, v = j := ⟨v.toNat, by omega⟩
      have hj : j < l2.length := by omega
      have hsm : smallC (l2.getD j zeroC) = true := by
        have h1 : l2.getD j zeroC ∈ l2 := by
          rw [List.getD_eq_getElem?_getD, List.getElem?_eq_getElem hj]
          exact List.getElem_mem hj
        exact List.all_eq_true.1 allS_small _ (hp2.mem_iff.1 h1)
      have c0 := hrow3.cell j 0 hj (by omega)
      have c1 := hrow3.cell j 1 hj (by omega)
      have c2 := hrow3.cell j 2 hj (by omega)
      have c3 := hrow3.cell j 3 hj (by omega)
      have c4 := hrow3.cell j 4 hj (by omega)
      have c5 := hrow3.cell j 5 hj (by omega)
      have c6 := hrow3.cell j 6 hj (by omega)
      generalize l2.getD j zeroC = z at c0 c1 c2 c3 c4 c5 c6 hsm
      obtain ⟨zd, za, zb, zc, ze, zf, zg⟩ := z
      simp only [cells7, List.getElem?_cons_zero, List.getElem?_cons_succ, Nat.add_zero] at c0 c1 c2 c3 c4 c5 c6
      have b2 : (j : Int) < (l2.length : Int) := by omega
      have HS := Lib.hid hsm
      clear hsm
      have d0 := hz3.c 0 (by omega)
      have g0 := hz3.f 0
      have d1 := hz3.c 1 (by omega)
      have g1 := hz3.f 1
      have d2 := hz3.c 2 (by omega)
      have g2 := hz3.f 2
      have d3 := hz3.c 3 (by omega)
      have g3 := hz3.f 3
      have d4 := hz3.c 4 (by omega)
      have g4 := hz3.f 4
      have d5 := hz3.c 5 (by omega)
      have g5 := hz3.f 5
      have d6 := hz3.c 6 (by omega)
      have g6 := hz3.f 6
      simp only [cells7, List.getElem?_cons_zero, List.getElem?_cons_succ] at d0 d1 d2 d3 d4 d5 d6
      go_wp2_with fail
      refine bodyPost_ret (v := .agg #[.int .i64 (zd), .int .i64 (za), .int .i64 (zb), .int .i64 (zc), .int .i64 (ze), .int .i64 (zf), .int .i64 (zg)]) (by simp [results, Try.results33, go_sem, *]) rfl ⟨zd, za, zb, zc, ze, zf, zg, (p + 2), rfl, by have h := HS.out; simp [smallC, smallN, inB] at h ⊢; omega, by omega, by (repeat (with_reducible refine rd_set ?_ (by omega) (fun x hn hx => by have := hA x hn hx; omega))); exact hr3, by (repeat (with_reducible refine gr_set ?_ (by omega))); exact hgw3⟩
    · have hx2 : (x == 0) = false := by simpa using hx
      have hx3 : (x == 1) = false := by simpa using hx1'
      clear hx hx1'
      go_wp2_with fail
      refine (pick_any R a n cap l (p + 1) 27 (by omega) (by omega) (by omega) _ hr1).mono ?_
      rintro e w2 ⟨v, rfl, hv0, hv1, hr2, hg2⟩
      have hz2 := hz.kept hg2 (by simp; omega)
      have hgw2 := grown_trans hgw hg2
      clear hr1 hgw hz hg2
      obtain ⟨j, rfl⟩ : ∃ j : Nat, v = j := ⟨v.toNat, by omega⟩
      have hj : j < 27 := by omega
      go_wp2_with fail
      refine (l1Of_any j hj _).mono ?_
      rintro e w3 ⟨rfl, hb3⟩
      have hr3 := hr2.below hb3
      have hz3 : ClsAt w3 w.heap.size ⟨0, 0, 0, 0, 0, 0, 0⟩ := (hb3.block _ hz2.lt).trans hz2
      have hgw3 := grown_below hgw2 hb3
      clear hr2 hgw2 hz2 hb3
      have hsm : smallC (LC j) = true := LC_small j hj
      have HS := Lib.hid hsm
      clear hsm
      generalize LC j = z at HS
      obtain ⟨zd, za, zb, zc, ze, zf, zg⟩ := z
      have d0 := hz3.c 0 (by omega)
      have g0 := hz3.f 0
      have d1 := hz3.c 1 (by omega)
      have g1 := hz3.f 1
      have d2 := hz3.c 2 (by omega)
      have g2 := hz3.f 2
      have d3 := hz3.c 3 (by omega)
      have g3 := hz3.f 3
      have d4 := hz3.c 4 (by omega)
      have g4 := hz3.f 4
      have d5 := hz3.c 5 (by omega)
      have g5 := hz3.f 5
      have d6 := hz3.c 6 (by omega)
      have g6 := hz3.f 6
      simp only [cells7, List.getElem?_cons_zero, List.getElem?_cons_succ] at d0 d1 d2 d3 d4 d5 d6
      go_wp2_with fail
      refine bodyPost_ret (v := .agg #[.int .i64 (zd), .int .i64 (za), .int .i64 (zb), .int .i64 (zc), .int .i64 (ze), .int .i64 (zf), .int .i64 (zg)]) (by simp [results, Try.results33, go_sem, *]) rfl ⟨zd, za, zb, zc, ze, zf, zg, (p + 2), rfl, by have h := HS.out; simp [smallC, smallN, inB] at h ⊢; omega, by omega, by (repeat (with_reducible refine rd_set ?_ (by omega) (fun x hn hx => by have := hA x hn hx; omega))); exact hr3, by (repeat (with_reducible refine gr_set ?_ (by omega))); exact hgw3⟩

end Go.Proofs.Ytaapkkbfmgimkaa
