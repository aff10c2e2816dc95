/- Contracts of the reference's drawing of one class, of two classes, and of a class and a number. Each holds for every code. -/
import Derived.Test.YtaapkkbfmgimkaaDrawC
import Derived.Deep.RegionHeld3
namespace Go.Proofs.Ytaapkkbfmgimkaa
open Go.RowKit
set_option linter.unusedSimpArgs false
set_option linter.unusedVariables false
attribute [local go_sem] idx_0 idx_1 idx_2 idx_3 idx_4 idx_5

theorem ArgRow.alloc {k : IntKind} {w : World} {a : Option Addr} {n cap : Nat} {l : List Int} (h : ArgRow k w a n cap l) (o : Obj) : ArgRow k (w.alloc o) a n cap l := h.below ((Below.refl _ _).alloc (Nat.le_refl _) _)
theorem RdAt.drew {w : World} {R : Nat} {a : Option Addr} {n cap : Nat} {l : List Int} {p : Nat} (h : RdAt w R a n cap l p) : RdAt w.drew R a n cap l p := h
theorem tdiv_bd {v : Int} (h0 : 0 ≤ v) (h1 : v < 20) : 0 ≤ v.tdiv 19 ∧ v.tdiv 19 ≤ 1 := by rw [Int.tdiv_eq_ediv_of_nonneg h0]; omega
theorem times_eq {u v : Int} (hu0 : 0 ≤ u) (hu1 : u < 21) (h0 : 0 ≤ v) (h1 : v < 20) : IntKind.i64.wrap (IntKind.i64.wrap (u - 10) + IntKind.i64.wrap (IntKind.i64.wrap (v.tdiv 19) * 995)) = u - 10 + v.tdiv 19 * 995 := by
  have ht := tdiv_bd h0 h1
  generalize v.tdiv 19 = q at ht
  rw [IntWalk.i64_in (u - 10) (by omega), IntWalk.i64_in q (by omega), IntWalk.i64_in (q * 995) (by omega), IntWalk.i64_in _ (by omega)]
theorem cell_drew (w : World) (a : Addr) : w.drew.cell? a = w.cell? a := rfl
theorem cls_after {w2 w3 : World} {R B : Nat} {x : Cls} {o : Obj} (h : ClsAt w2 B x) (hg : ((w2.alloc o).drew).grownBy w3 (some R)) (hne : B ≠ R) : ClsAt w3 B x :=
  ClsAt.kept (w := (w2.alloc o).drew) (h.alloc o) hg (fun e => hne (Option.some.inj e))
theorem box_after {xd xa xb xc xe xf xg : Int} {w2 w3 : World} {R : Nat} (hg : ((w2.alloc (.cells #[.int .i64 xd, .int .i64 xa, .int .i64 xb, .int .i64 xc, .int .i64 xe, .int .i64 xf, .int .i64 xg] 25)).drew).grownBy w3 (some R)) (hR : R < w2.heap.size) : ∀ o : Nat, w3.cell? ⟨w2.heap.size, o, none⟩ = (#[.int .i64 xd, .int .i64 xa, .int .i64 xb, .int .i64 xc, .int .i64 xe, .int .i64 xf, .int .i64 xg] : Array Value)[o]? := fun o =>
  (World.cell?_of_block (a := ⟨w2.heap.size, o, none⟩) (hg.block w2.heap.size (by simp) (fun e => by have := Option.some.inj e; omega))).trans (cell_of_row _ _ _ _ _ (0, 0) (alloc_at w2 _ _ rfl))
theorem below_after {w w2 w3 : World} {R : Nat} {o : Obj} (hB : Below w.heap.size w w2) (hg : ((w2.alloc o).drew).grownBy w3 (some R)) (hR : w.heap.size ≤ R) : Below w.heap.size w w3 :=
  Below.grown (w := (w2.alloc o).drew) (Below.drew (hB.alloc hB.size o)) hg (by have := hB.size; simp; omega) (fun k hk => by cases hk; exact hR)
def DrewC (w : World) (e : Ending) (w' : World) : Prop := ∃ (xd xa xb xc xe xf xg : Int), e = .returned (.agg #[.int .i64 xd, .int .i64 xa, .int .i64 xb, .int .i64 xc, .int .i64 xe, .int .i64 xf, .int .i64 xg]) ∧ smallC ⟨xd, xa, xb, xc, xe, xf, xg⟩ = true ∧ Below w.heap.size w w'
def DrewCC (w : World) (e : Ending) (w' : World) : Prop := ∃ (xd xa xb xc xe xf xg yd ya yb yc ye yf yg : Int), e = .returned (.tuple #[.agg #[.int .i64 xd, .int .i64 xa, .int .i64 xb, .int .i64 xc, .int .i64 xe, .int .i64 xf, .int .i64 xg], .agg #[.int .i64 yd, .int .i64 ya, .int .i64 yb, .int .i64 yc, .int .i64 ye, .int .i64 yf, .int .i64 yg]]) ∧ smallC ⟨xd, xa, xb, xc, xe, xf, xg⟩ = true ∧ smallC ⟨yd, ya, yb, yc, ye, yf, yg⟩ = true ∧ Below w.heap.size w w'
def DrewCN (w : World) (e : Ending) (w' : World) : Prop := ∃ (xd xa xb xc xe xf xg n : Int), e = .returned (.tuple #[.agg #[.int .i64 xd, .int .i64 xa, .int .i64 xb, .int .i64 xc, .int .i64 xe, .int .i64 xf, .int .i64 xg], .int .i64 n]) ∧ smallC ⟨xd, xa, xb, xc, xe, xf, xg⟩ = true ∧ (-1000000 ≤ n ∧ n ≤ 1000000) ∧ Below w.heap.size w w'

set_option maxHeartbeats 4000000 in
theorem drawClassValid_any (a : Option Addr) (n cap : Nat) (l : List Int) (w : World) (h : ArgRow .u8 w a n cap l) :
    Calls Try.prog 11 #[.slice a n cap] w (DrewC w) := by
  go_enter Try.func11, Try.ntmps11
  go_wp2_with fail
  refine (l6Open_any a n cap l _ (h.below ((Below.refl _ _).alloc (Nat.le_refl _) _))).mono ?_
  rintro e w1 ⟨n', cap', l', rfl, hr1, hb1⟩
  have hb1' : Below w.heap.size w w1 := ((Below.refl _ _).alloc (Nat.le_refl _) _).trans (hb1.mono (by simp))
  simp only [World.size_alloc] at hr1
  have hz1 : ClsAt w1 w.heap.size ⟨0, 0, 0, 0, 0, 0, 0⟩ := (hb1.block _ (by simp)).trans (alloc_at w (.cells #[.int .i64 0, .int .i64 0, .int .i64 0, .int .i64 0, .int .i64 0, .int .i64 0, .int .i64 0] 25) _ rfl)
  go_wp2_with fail
  refine (l91Class_any (w.heap.size + 1) a n' cap' l' 0 (by omega) _ hr1).mono ?_
  rintro e w2 ⟨xd, xa, xb, xc, xe, xf, xg, p', rfl, hsm, hp', hr2, hg2⟩
  have hz2 := hz1.kept hg2 (by simp)
  have HS := Lib.hid hsm
  have hB : Below w.heap.size w w2 := hb1'.grown hg2 hb1'.size (fun k hk => by cases hk; simp)
  clear hsm hz1 hg2 hb1 hb1' hr1 hr2
  have d0 := hz2.c 0 (by omega)
  have g0 := hz2.f 0
  have d1 := hz2.c 1 (by omega)
  have g1 := hz2.f 1
  have d2 := hz2.c 2 (by omega)
  have g2 := hz2.f 2
  have d3 := hz2.c 3 (by omega)
  have g3 := hz2.f 3
  have d4 := hz2.c 4 (by omega)
  have g4 := hz2.f 4
  have d5 := hz2.c 5 (by omega)
  have g5 := hz2.f 5
  have d6 := hz2.c 6 (by omega)
  have g6 := hz2.f 6
  simp only [cells7, List.getElem?_cons_zero, List.getElem?_cons_succ] at d0 d1 d2 d3 d4 d5 d6
  clear hz2
  go_wp2_with fail
  refine bodyPost_ret (v := .agg #[.int .i64 xd, .int .i64 xa, .int .i64 xb, .int .i64 xc, .int .i64 xe, .int .i64 xf, .int .i64 xg]) (by simp [results, Try.results11, go_sem, *]) rfl ⟨xd, xa, xb, xc, xe, xf, xg, rfl, HS.out, ?_⟩
  (repeat (first | (with_reducible exact Below.refl _ _) | (with_reducible refine bl_alloc ?_ ?_ _; focus (first | omega | (simp; done) | (simp; omega))) | (with_reducible refine bl_set ?_ ?_ _; focus (first | omega | (simp; done) | (simp; omega))) | (with_reducible refine Below.drew ?_) | (with_reducible refine below_drewN ?_ _) | (with_reducible refine below_step ?_ (by assumption))))

set_option maxHeartbeats 4000000 in
theorem drawClassDegree_any (a : Option Addr) (n cap : Nat) (l : List Int) (w : World) (h : ArgRow .u8 w a n cap l) :
    Calls Try.prog 16 #[.slice a n cap] w (DrewC w) := by
  go_enter Try.func16, Try.ntmps16
  go_wp2_with fail
  refine (l6Open_any a n cap l _ (h.below ((Below.refl _ _).alloc (Nat.le_refl _) _))).mono ?_
  rintro e w1 ⟨n', cap', l', rfl, hr1, hb1⟩
  have hb1' : Below w.heap.size w w1 := ((Below.refl _ _).alloc (Nat.le_refl _) _).trans (hb1.mono (by simp))
  simp only [World.size_alloc] at hr1
  have hz1 : ClsAt w1 w.heap.size ⟨0, 0, 0, 0, 0, 0, 0⟩ := (hb1.block _ (by simp)).trans (alloc_at w (.cells #[.int .i64 0, .int .i64 0, .int .i64 0, .int .i64 0, .int .i64 0, .int .i64 0, .int .i64 0] 25) _ rfl)
  go_wp2_with fail
  refine (l91Class_any (w.heap.size + 1) a n' cap' l' 0 (by omega) _ hr1).mono ?_
  rintro e w2 ⟨xd, xa, xb, xc, xe, xf, xg, p', rfl, hsm, hp', hr2, hg2⟩
  have hz2 := hz1.kept hg2 (by simp)
  have HS := Lib.hid hsm
  have hB : Below w.heap.size w w2 := hb1'.grown hg2 hb1'.size (fun k hk => by cases hk; simp)
  clear hsm hz1 hg2 hb1 hb1' hr1 hr2
  have d0 := hz2.c 0 (by omega)
  have g0 := hz2.f 0
  have d1 := hz2.c 1 (by omega)
  have g1 := hz2.f 1
  have d2 := hz2.c 2 (by omega)
  have g2 := hz2.f 2
  have d3 := hz2.c 3 (by omega)
  have g3 := hz2.f 3
  have d4 := hz2.c 4 (by omega)
  have g4 := hz2.f 4
  have d5 := hz2.c 5 (by omega)
  have g5 := hz2.f 5
  have d6 := hz2.c 6 (by omega)
  have g6 := hz2.f 6
  simp only [cells7, List.getElem?_cons_zero, List.getElem?_cons_succ] at d0 d1 d2 d3 d4 d5 d6
  clear hz2
  go_wp2_with fail
  refine bodyPost_ret (v := .agg #[.int .i64 xd, .int .i64 xa, .int .i64 xb, .int .i64 xc, .int .i64 xe, .int .i64 xf, .int .i64 xg]) (by simp [results, Try.results16, go_sem, *]) rfl ⟨xd, xa, xb, xc, xe, xf, xg, rfl, HS.out, ?_⟩
  (repeat (first | (with_reducible exact Below.refl _ _) | (with_reducible refine bl_alloc ?_ ?_ _; focus (first | omega | (simp; done) | (simp; omega))) | (with_reducible refine bl_set ?_ ?_ _; focus (first | omega | (simp; done) | (simp; omega))) | (with_reducible refine Below.drew ?_) | (with_reducible refine below_drewN ?_ _) | (with_reducible refine below_step ?_ (by assumption))))

set_option maxHeartbeats 4000000 in
theorem drawClassGenus_any (a : Option Addr) (n cap : Nat) (l : List Int) (w : World) (h : ArgRow .u8 w a n cap l) :
    Calls Try.prog 31 #[.slice a n cap] w (DrewC w) := by
  go_enter Try.func31, Try.ntmps31
  go_wp2_with fail
  refine (l6Open_any a n cap l _ (h.below ((Below.refl _ _).alloc (Nat.le_refl _) _))).mono ?_
  rintro e w1 ⟨n', cap', l', rfl, hr1, hb1⟩
  have hb1' : Below w.heap.size w w1 := ((Below.refl _ _).alloc (Nat.le_refl _) _).trans (hb1.mono (by simp))
  simp only [World.size_alloc] at hr1
  have hz1 : ClsAt w1 w.heap.size ⟨0, 0, 0, 0, 0, 0, 0⟩ := (hb1.block _ (by simp)).trans (alloc_at w (.cells #[.int .i64 0, .int .i64 0, .int .i64 0, .int .i64 0, .int .i64 0, .int .i64 0, .int .i64 0] 25) _ rfl)
  go_wp2_with fail
  refine (l91Class_any (w.heap.size + 1) a n' cap' l' 0 (by omega) _ hr1).mono ?_
  rintro e w2 ⟨xd, xa, xb, xc, xe, xf, xg, p', rfl, hsm, hp', hr2, hg2⟩
  have hz2 := hz1.kept hg2 (by simp)
  have HS := Lib.hid hsm
  have hB : Below w.heap.size w w2 := hb1'.grown hg2 hb1'.size (fun k hk => by cases hk; simp)
  clear hsm hz1 hg2 hb1 hb1' hr1 hr2
  have d0 := hz2.c 0 (by omega)
  have g0 := hz2.f 0
  have d1 := hz2.c 1 (by omega)
  have g1 := hz2.f 1
  have d2 := hz2.c 2 (by omega)
  have g2 := hz2.f 2
  have d3 := hz2.c 3 (by omega)
  have g3 := hz2.f 3
  have d4 := hz2.c 4 (by omega)
  have g4 := hz2.f 4
  have d5 := hz2.c 5 (by omega)
  have g5 := hz2.f 5
  have d6 := hz2.c 6 (by omega)
  have g6 := hz2.f 6
  simp only [cells7, List.getElem?_cons_zero, List.getElem?_cons_succ] at d0 d1 d2 d3 d4 d5 d6
  clear hz2
  go_wp2_with fail
  refine bodyPost_ret (v := .agg #[.int .i64 xd, .int .i64 xa, .int .i64 xb, .int .i64 xc, .int .i64 xe, .int .i64 xf, .int .i64 xg]) (by simp [results, Try.results31, go_sem, *]) rfl ⟨xd, xa, xb, xc, xe, xf, xg, rfl, HS.out, ?_⟩
  (repeat (first | (with_reducible exact Below.refl _ _) | (with_reducible refine bl_alloc ?_ ?_ _; focus (first | omega | (simp; done) | (simp; omega))) | (with_reducible refine bl_set ?_ ?_ _; focus (first | omega | (simp; done) | (simp; omega))) | (with_reducible refine Below.drew ?_) | (with_reducible refine below_drewN ?_ _) | (with_reducible refine below_step ?_ (by assumption))))

set_option maxHeartbeats 4000000 in
theorem drawClassLine_any (a : Option Addr) (n cap : Nat) (l : List Int) (w : World) (h : ArgRow .u8 w a n cap l) :
    Calls Try.prog 26 #[.slice a n cap] w (DrewC w) := by
  go_enter Try.func26, Try.ntmps26
  go_wp2_with fail
  refine (l6Open_any a n cap l _ (h.below ((Below.refl _ _).alloc (Nat.le_refl _) _))).mono ?_
  rintro e w1 ⟨n', cap', l', rfl, hr1, hb1⟩
  have hb1' : Below w.heap.size w w1 := ((Below.refl _ _).alloc (Nat.le_refl _) _).trans (hb1.mono (by simp))
  simp only [World.size_alloc] at hr1
  have hz1 : ClsAt w1 w.heap.size ⟨0, 0, 0, 0, 0, 0, 0⟩ := (hb1.block _ (by simp)).trans (alloc_at w (.cells #[.int .i64 0, .int .i64 0, .int .i64 0, .int .i64 0, .int .i64 0, .int .i64 0, .int .i64 0] 25) _ rfl)
  go_wp2_with fail
  refine (l91Class_any (w.heap.size + 1) a n' cap' l' 0 (by omega) _ hr1).mono ?_
  rintro e w2 ⟨xd, xa, xb, xc, xe, xf, xg, p', rfl, hsm, hp', hr2, hg2⟩
  have hz2 := hz1.kept hg2 (by simp)
  have HS := Lib.hid hsm
  have hB : Below w.heap.size w w2 := hb1'.grown hg2 hb1'.size (fun k hk => by cases hk; simp)
  clear hsm hz1 hg2 hb1 hb1' hr1 hr2
  have d0 := hz2.c 0 (by omega)
  have g0 := hz2.f 0
  have d1 := hz2.c 1 (by omega)
  have g1 := hz2.f 1
  have d2 := hz2.c 2 (by omega)
  have g2 := hz2.f 2
  have d3 := hz2.c 3 (by omega)
  have g3 := hz2.f 3
  have d4 := hz2.c 4 (by omega)
  have g4 := hz2.f 4
  have d5 := hz2.c 5 (by omega)
  have g5 := hz2.f 5
  have d6 := hz2.c 6 (by omega)
  have g6 := hz2.f 6
  simp only [cells7, List.getElem?_cons_zero, List.getElem?_cons_succ] at d0 d1 d2 d3 d4 d5 d6
  clear hz2
  go_wp2_with fail
  refine bodyPost_ret (v := .agg #[.int .i64 xd, .int .i64 xa, .int .i64 xb, .int .i64 xc, .int .i64 xe, .int .i64 xf, .int .i64 xg]) (by simp [results, Try.results26, go_sem, *]) rfl ⟨xd, xa, xb, xc, xe, xf, xg, rfl, HS.out, ?_⟩
  (repeat (first | (with_reducible exact Below.refl _ _) | (with_reducible refine bl_alloc ?_ ?_ _; focus (first | omega | (simp; done) | (simp; omega))) | (with_reducible refine bl_set ?_ ?_ _; focus (first | omega | (simp; done) | (simp; omega))) | (with_reducible refine Below.drew ?_) | (with_reducible refine below_drewN ?_ _) | (with_reducible refine below_step ?_ (by assumption))))

set_option maxHeartbeats 8000000 in
theorem l91Two_any (a : Option Addr) (n cap : Nat) (l : List Int) (w : World) (h : ArgRow .u8 w a n cap l) :
    Calls Try.prog 42 #[.slice a n cap] w (DrewCC w) := by
  go_enter Try.func42, Try.ntmps42
  go_wp2_with fail
  refine (l6Open_any a n cap l _ ((h.alloc _).alloc _)).mono ?_
  rintro e w1 ⟨n', cap', l', rfl, hr1, hb1⟩
  have hb1' : Below w.heap.size w w1 := by
    refine Below.trans (b := ((w.alloc (.cells #[.int .i64 0, .int .i64 0, .int .i64 0, .int .i64 0, .int .i64 0, .int .i64 0, .int .i64 0] 25)).alloc (.cells #[.int .i64 0, .int .i64 0, .int .i64 0, .int .i64 0, .int .i64 0, .int .i64 0, .int .i64 0] 25))) (by (repeat (first | (with_reducible exact Below.refl _ _) | (with_reducible refine bl_alloc ?_ ?_ _; focus (first | omega | (simp; done) | (simp; omega))) | (with_reducible refine bl_set ?_ ?_ _; focus (first | omega | (simp; done) | (simp; omega))) | (with_reducible refine Below.drew ?_) | (with_reducible refine below_drewN ?_ _) | (with_reducible refine below_step ?_ (by assumption))))) (hb1.mono ?_)
    simp; omega
  simp only [World.size_alloc] at hr1
  have hz1 : ClsAt w1 w.heap.size ⟨0, 0, 0, 0, 0, 0, 0⟩ := (hb1.block w.heap.size (by simp; omega)).trans ((alloc_under _ _ _ (by simp)).trans (alloc_at w (.cells #[.int .i64 0, .int .i64 0, .int .i64 0, .int .i64 0, .int .i64 0, .int .i64 0, .int .i64 0] 25) _ rfl))
  have hq1 : ClsAt w1 (w.heap.size + 1) ⟨0, 0, 0, 0, 0, 0, 0⟩ := (hb1.block (w.heap.size + 1) (by simp)).trans (alloc_at _ (.cells #[.int .i64 0, .int .i64 0, .int .i64 0, .int .i64 0, .int .i64 0, .int .i64 0, .int .i64 0] 25) _ (by simp))
  go_wp2_with fail
  refine (l91Class_any (w.heap.size + 1 + 1) a n' cap' l' 0 (by omega) _ hr1).mono ?_
  rintro e w2 ⟨xd, xa, xb, xc, xe, xf, xg, p', rfl, hsm, hp', hr2, hg2⟩
  have hz2 := hz1.kept hg2 (by simp; try omega)
  have hq2 := hq1.kept hg2 (by simp; try omega)
  have HS := Lib.hid hsm
  have hB : Below w.heap.size w w2 := hb1'.grown hg2 hb1'.size (fun k hk => by cases hk; omega)
  have hs2 := hB.size
  have hlr := hr2.lt
  have hlz := hz2.lt
  clear hsm hz1 hg2 hb1 hb1' hr1 hq1
  have kA : ∀ o : Nat, (w2.alloc (.cells #[.int .i64 xd, .int .i64 xa, .int .i64 xb, .int .i64 xc, .int .i64 xe, .int .i64 xf, .int .i64 xg] 25)).cell? ⟨w2.heap.size, o, none⟩ = (#[.int .i64 xd, .int .i64 xa, .int .i64 xb, .int .i64 xc, .int .i64 xe, .int .i64 xf, .int .i64 xg] : Array Value)[o]? := fun o => cell_of_row _ _ _ _ _ (0, 0) (alloc_at w2 _ _ rfl)
  have KA := Lib.hid kA
  clear kA
  go_wp2_with fail
  go_region_held3 (fun w' => (∀ o : Nat, w'.cell? ⟨w2.heap.size, o, none⟩ = (#[.int .i64 xd, .int .i64 xa, .int .i64 xb, .int .i64 xc, .int .i64 xe, .int .i64 xf, .int .i64 xg] : Array Value)[o]?)) ((intro o; (repeat (rw [World.cell?_setCell_far _ _ _ _ (by (try dsimp only); omega)])); (try rw [cell_drew]); first | (with_reducible exact KB.out o) | (with_reducible exact KA.out o))) ((go_at_call 33; ((with_reducible refine (l91Class_any (w.heap.size + 1 + 1) a n' cap' l' p' (by omega) ((w2.alloc (.cells #[.int .i64 xd, .int .i64 xa, .int .i64 xb, .int .i64 xc, .int .i64 xe, .int .i64 xf, .int .i64 xg] 25)).drew) (RdAt.drew (hr2.alloc _))).mono ?_); rintro e w3 ⟨yd, ya, yb, yc, ye, yf, yg, p'', rfl, hsm3, hp3, hr3, hg3⟩; have hz3 := cls_after hz2 hg3 (by omega); have hq3 := cls_after hq2 hg3 (by omega); have KB := Lib.hid (box_after hg3 hlr); have HS3 := Lib.hid hsm3; have hB3 := below_after hB hg3 (by omega); clear hsm3 hg3; have d0 := hz3.c 0 (by omega); have g0 := hz3.f 0; have d1 := hz3.c 1 (by omega); have g1 := hz3.f 1; have d2 := hz3.c 2 (by omega); have g2 := hz3.f 2; have d3 := hz3.c 3 (by omega); have g3 := hz3.f 3; have d4 := hz3.c 4 (by omega); have g4 := hz3.f 4; have d5 := hz3.c 5 (by omega); have g5 := hz3.f 5; have d6 := hz3.c 6 (by omega); have g6 := hz3.f 6; simp only [cells7, List.getElem?_cons_zero, List.getElem?_cons_succ] at d0 d1 d2 d3 d4 d5 d6; have u0 := hq3.c 0 (by omega); have v0 := hq3.f 0; have u1 := hq3.c 1 (by omega); have v1 := hq3.f 1; have u2 := hq3.c 2 (by omega); have v2 := hq3.f 2; have u3 := hq3.c 3 (by omega); have v3 := hq3.f 3; have u4 := hq3.c 4 (by omega); have v4 := hq3.f 4; have u5 := hq3.c 5 (by omega); have v5 := hq3.f 5; have u6 := hq3.c 6 (by omega); have v6 := hq3.f 6; simp only [cells7, List.getElem?_cons_zero, List.getElem?_cons_succ] at u0 u1 u2 u3 u4 u5 u6; clear hz3 hq3)))
  all_goals
    go_wp2_with fail
    refine bodyPost_ret (v := .tuple #[.agg #[.int .i64 xd, .int .i64 xa, .int .i64 xb, .int .i64 xc, .int .i64 xe, .int .i64 xf, .int .i64 xg], .agg #[.int .i64 yd, .int .i64 ya, .int .i64 yb, .int .i64 yc, .int .i64 ye, .int .i64 yf, .int .i64 yg]]) (by simp [results, Try.results42, go_sem, *]) rfl ⟨xd, xa, xb, xc, xe, xf, xg, yd, ya, yb, yc, ye, yf, yg, rfl, HS.out, HS3.out, ?_⟩
    (repeat (first | (with_reducible exact Below.refl _ _) | (with_reducible refine bl_alloc ?_ ?_ _; focus (first | omega | (simp; done) | (simp; omega))) | (with_reducible refine bl_set ?_ ?_ _; focus (first | omega | (simp; done) | (simp; omega))) | (with_reducible refine Below.drew ?_) | (with_reducible refine below_drewN ?_ _) | (with_reducible refine below_step ?_ (by assumption))))

set_option maxHeartbeats 4000000 in
theorem drawClassAdd_any (a : Option Addr) (n cap : Nat) (l : List Int) (w : World) (h : ArgRow .u8 w a n cap l) :
    Calls Try.prog 24 #[.slice a n cap] w (DrewCC w) := by
  go_enter Try.func24, Try.ntmps24
  go_wp2_with fail
  refine (l91Two_any a n cap l _ ((h.alloc _).alloc _)).mono ?_
  rintro e w1 ⟨xd, xa, xb, xc, xe, xf, xg, yd, ya, yb, yc, ye, yf, yg, rfl, hsx, hsy, hb1⟩
  have hz1 : ClsAt w1 w.heap.size ⟨0, 0, 0, 0, 0, 0, 0⟩ := (hb1.block w.heap.size (by simp; omega)).trans ((alloc_under _ _ _ (by simp)).trans (alloc_at w (.cells #[.int .i64 0, .int .i64 0, .int .i64 0, .int .i64 0, .int .i64 0, .int .i64 0, .int .i64 0] 25) _ rfl))
  have hq1 : ClsAt w1 (w.heap.size + 1) ⟨0, 0, 0, 0, 0, 0, 0⟩ := (hb1.block (w.heap.size + 1) (by simp)).trans (alloc_at _ (.cells #[.int .i64 0, .int .i64 0, .int .i64 0, .int .i64 0, .int .i64 0, .int .i64 0, .int .i64 0] 25) _ (by simp))
  have hB : Below w.heap.size w w1 := by
    refine Below.trans (b := (w.alloc (.cells #[.int .i64 0, .int .i64 0, .int .i64 0, .int .i64 0, .int .i64 0, .int .i64 0, .int .i64 0] 25)).alloc (.cells #[.int .i64 0, .int .i64 0, .int .i64 0, .int .i64 0, .int .i64 0, .int .i64 0, .int .i64 0] 25)) (by (repeat (first | (with_reducible exact Below.refl _ _) | (with_reducible refine bl_alloc ?_ ?_ _; focus (first | omega | (simp; done) | (simp; omega))) | (with_reducible refine bl_set ?_ ?_ _; focus (first | omega | (simp; done) | (simp; omega))) | (with_reducible refine Below.drew ?_) | (with_reducible refine below_drewN ?_ _) | (with_reducible refine below_step ?_ (by assumption))))) (hb1.mono ?_)
    simp; omega
  have HX := Lib.hid hsx
  have HY := Lib.hid hsy
  clear hb1 hsx hsy
  have d0 := hz1.c 0 (by omega)
  have g0 := hz1.f 0
  have d1 := hz1.c 1 (by omega)
  have g1 := hz1.f 1
  have d2 := hz1.c 2 (by omega)
  have g2 := hz1.f 2
  have d3 := hz1.c 3 (by omega)
  have g3 := hz1.f 3
  have d4 := hz1.c 4 (by omega)
  have g4 := hz1.f 4
  have d5 := hz1.c 5 (by omega)
  have g5 := hz1.f 5
  have d6 := hz1.c 6 (by omega)
  have g6 := hz1.f 6
  simp only [cells7, List.getElem?_cons_zero, List.getElem?_cons_succ] at d0 d1 d2 d3 d4 d5 d6
  have u0 := hq1.c 0 (by omega)
  have v0 := hq1.f 0
  have u1 := hq1.c 1 (by omega)
  have v1 := hq1.f 1
  have u2 := hq1.c 2 (by omega)
  have v2 := hq1.f 2
  have u3 := hq1.c 3 (by omega)
  have v3 := hq1.f 3
  have u4 := hq1.c 4 (by omega)
  have v4 := hq1.f 4
  have u5 := hq1.c 5 (by omega)
  have v5 := hq1.f 5
  have u6 := hq1.c 6 (by omega)
  have v6 := hq1.f 6
  simp only [cells7, List.getElem?_cons_zero, List.getElem?_cons_succ] at u0 u1 u2 u3 u4 u5 u6
  clear hz1 hq1
  go_wp2_with fail
  refine bodyPost_ret (v := .tuple #[.agg #[.int .i64 xd, .int .i64 xa, .int .i64 xb, .int .i64 xc, .int .i64 xe, .int .i64 xf, .int .i64 xg], .agg #[.int .i64 yd, .int .i64 ya, .int .i64 yb, .int .i64 yc, .int .i64 ye, .int .i64 yf, .int .i64 yg]]) (by simp [results, Try.results24, go_sem, *]) rfl ⟨xd, xa, xb, xc, xe, xf, xg, yd, ya, yb, yc, ye, yf, yg, rfl, HX.out, HY.out, ?_⟩
  (repeat (first | (with_reducible exact Below.refl _ _) | (with_reducible refine bl_alloc ?_ ?_ _; focus (first | omega | (simp; done) | (simp; omega))) | (with_reducible refine bl_set ?_ ?_ _; focus (first | omega | (simp; done) | (simp; omega))) | (with_reducible refine Below.drew ?_) | (with_reducible refine below_drewN ?_ _) | (with_reducible refine below_step ?_ (by assumption))))

set_option maxHeartbeats 4000000 in
theorem drawClassProduct_any (a : Option Addr) (n cap : Nat) (l : List Int) (w : World) (h : ArgRow .u8 w a n cap l) :
    Calls Try.prog 20 #[.slice a n cap] w (DrewCC w) := by
  go_enter Try.func20, Try.ntmps20
  go_wp2_with fail
  refine (l91Two_any a n cap l _ ((h.alloc _).alloc _)).mono ?_
  rintro e w1 ⟨xd, xa, xb, xc, xe, xf, xg, yd, ya, yb, yc, ye, yf, yg, rfl, hsx, hsy, hb1⟩
  have hz1 : ClsAt w1 w.heap.size ⟨0, 0, 0, 0, 0, 0, 0⟩ := (hb1.block w.heap.size (by simp; omega)).trans ((alloc_under _ _ _ (by simp)).trans (alloc_at w (.cells #[.int .i64 0, .int .i64 0, .int .i64 0, .int .i64 0, .int .i64 0, .int .i64 0, .int .i64 0] 25) _ rfl))
  have hq1 : ClsAt w1 (w.heap.size + 1) ⟨0, 0, 0, 0, 0, 0, 0⟩ := (hb1.block (w.heap.size + 1) (by simp)).trans (alloc_at _ (.cells #[.int .i64 0, .int .i64 0, .int .i64 0, .int .i64 0, .int .i64 0, .int .i64 0, .int .i64 0] 25) _ (by simp))
  have hB : Below w.heap.size w w1 := by
    refine Below.trans (b := (w.alloc (.cells #[.int .i64 0, .int .i64 0, .int .i64 0, .int .i64 0, .int .i64 0, .int .i64 0, .int .i64 0] 25)).alloc (.cells #[.int .i64 0, .int .i64 0, .int .i64 0, .int .i64 0, .int .i64 0, .int .i64 0, .int .i64 0] 25)) (by (repeat (first | (with_reducible exact Below.refl _ _) | (with_reducible refine bl_alloc ?_ ?_ _; focus (first | omega | (simp; done) | (simp; omega))) | (with_reducible refine bl_set ?_ ?_ _; focus (first | omega | (simp; done) | (simp; omega))) | (with_reducible refine Below.drew ?_) | (with_reducible refine below_drewN ?_ _) | (with_reducible refine below_step ?_ (by assumption))))) (hb1.mono ?_)
    simp; omega
  have HX := Lib.hid hsx
  have HY := Lib.hid hsy
  clear hb1 hsx hsy
  have d0 := hz1.c 0 (by omega)
  have g0 := hz1.f 0
  have d1 := hz1.c 1 (by omega)
  have g1 := hz1.f 1
  have d2 := hz1.c 2 (by omega)
  have g2 := hz1.f 2
  have d3 := hz1.c 3 (by omega)
  have g3 := hz1.f 3
  have d4 := hz1.c 4 (by omega)
  have g4 := hz1.f 4
  have d5 := hz1.c 5 (by omega)
  have g5 := hz1.f 5
  have d6 := hz1.c 6 (by omega)
  have g6 := hz1.f 6
  simp only [cells7, List.getElem?_cons_zero, List.getElem?_cons_succ] at d0 d1 d2 d3 d4 d5 d6
  have u0 := hq1.c 0 (by omega)
  have v0 := hq1.f 0
  have u1 := hq1.c 1 (by omega)
  have v1 := hq1.f 1
  have u2 := hq1.c 2 (by omega)
  have v2 := hq1.f 2
  have u3 := hq1.c 3 (by omega)
  have v3 := hq1.f 3
  have u4 := hq1.c 4 (by omega)
  have v4 := hq1.f 4
  have u5 := hq1.c 5 (by omega)
  have v5 := hq1.f 5
  have u6 := hq1.c 6 (by omega)
  have v6 := hq1.f 6
  simp only [cells7, List.getElem?_cons_zero, List.getElem?_cons_succ] at u0 u1 u2 u3 u4 u5 u6
  clear hz1 hq1
  go_wp2_with fail
  refine bodyPost_ret (v := .tuple #[.agg #[.int .i64 xd, .int .i64 xa, .int .i64 xb, .int .i64 xc, .int .i64 xe, .int .i64 xf, .int .i64 xg], .agg #[.int .i64 yd, .int .i64 ya, .int .i64 yb, .int .i64 yc, .int .i64 ye, .int .i64 yf, .int .i64 yg]]) (by simp [results, Try.results20, go_sem, *]) rfl ⟨xd, xa, xb, xc, xe, xf, xg, yd, ya, yb, yc, ye, yf, yg, rfl, HX.out, HY.out, ?_⟩
  (repeat (first | (with_reducible exact Below.refl _ _) | (with_reducible refine bl_alloc ?_ ?_ _; focus (first | omega | (simp; done) | (simp; omega))) | (with_reducible refine bl_set ?_ ?_ _; focus (first | omega | (simp; done) | (simp; omega))) | (with_reducible refine Below.drew ?_) | (with_reducible refine below_drewN ?_ _) | (with_reducible refine below_step ?_ (by assumption))))

set_option maxHeartbeats 8000000 in
theorem drawClassTimes_any (a : Option Addr) (n cap : Nat) (l : List Int) (w : World) (h : ArgRow .u8 w a n cap l) :
    Calls Try.prog 22 #[.slice a n cap] w (DrewCN w) := by
  go_enter Try.func22, Try.ntmps22
  go_wp2_with fail
  refine (l6Open_any a n cap l _ (h.alloc _)).mono ?_
  rintro e w1 ⟨n', cap', l', rfl, hr1, hb1⟩
  have hb1' : Below w.heap.size w w1 := by
    refine Below.trans (b := (w.alloc (.cells #[.int .i64 0, .int .i64 0, .int .i64 0, .int .i64 0, .int .i64 0, .int .i64 0, .int .i64 0] 25))) (by (repeat (first | (with_reducible exact Below.refl _ _) | (with_reducible refine bl_alloc ?_ ?_ _; focus (first | omega | (simp; done) | (simp; omega))) | (with_reducible refine bl_set ?_ ?_ _; focus (first | omega | (simp; done) | (simp; omega))) | (with_reducible refine Below.drew ?_) | (with_reducible refine below_drewN ?_ _) | (with_reducible refine below_step ?_ (by assumption))))) (hb1.mono ?_)
    simp
  simp only [World.size_alloc] at hr1
  have hz1 : ClsAt w1 w.heap.size ⟨0, 0, 0, 0, 0, 0, 0⟩ := (hb1.block w.heap.size (by simp)).trans (alloc_at w (.cells #[.int .i64 0, .int .i64 0, .int .i64 0, .int .i64 0, .int .i64 0, .int .i64 0, .int .i64 0] 25) _ rfl)
  go_wp2_with fail
  refine (l91Class_any (w.heap.size + 1) a n' cap' l' 0 (by omega) _ hr1).mono ?_
  rintro e w2 ⟨xd, xa, xb, xc, xe, xf, xg, p', rfl, hsm, hp', hr2, hg2⟩
  have hz2 := hz1.kept hg2 (by simp; try omega)
  have HS := Lib.hid hsm
  have hB : Below w.heap.size w w2 := hb1'.grown hg2 hb1'.size (fun k hk => by cases hk; omega)
  have hs2 := hB.size
  have hlr := hr2.lt
  have hlz := hz2.lt
  clear hsm hz1 hg2 hb1 hb1' hr1
  have kA : ∀ o : Nat, (w2.alloc (.cells #[.int .i64 xd, .int .i64 xa, .int .i64 xb, .int .i64 xc, .int .i64 xe, .int .i64 xf, .int .i64 xg] 25)).cell? ⟨w2.heap.size, o, none⟩ = (#[.int .i64 xd, .int .i64 xa, .int .i64 xb, .int .i64 xc, .int .i64 xe, .int .i64 xf, .int .i64 xg] : Array Value)[o]? := fun o => cell_of_row _ _ _ _ _ (0, 0) (alloc_at w2 _ _ rfl)
  have KA := Lib.hid kA
  clear kA
  go_wp2_with fail
  go_region_held3 (fun w' => (∀ o : Nat, w'.cell? ⟨w2.heap.size, o, none⟩ = (#[.int .i64 xd, .int .i64 xa, .int .i64 xb, .int .i64 xc, .int .i64 xe, .int .i64 xf, .int .i64 xg] : Array Value)[o]?)) ((intro o; (repeat (rw [World.cell?_setCell_far _ _ _ _ (by (try dsimp only); omega)])); (try rw [cell_drew]); first | (with_reducible exact KC.out o) | (with_reducible exact KB.out o) | (with_reducible exact KA.out o))) ((first | (go_at_call 44; ((with_reducible refine (pick_any (w.heap.size + 1) a n' cap' l' p' 21 (by omega) (by omega) (by omega) ((w2.alloc (.cells #[.int .i64 xd, .int .i64 xa, .int .i64 xb, .int .i64 xc, .int .i64 xe, .int .i64 xf, .int .i64 xg] 25)).drew) (RdAt.drew (hr2.alloc _))).mono ?_); rintro e w3 ⟨u, rfl, hu0, hu1, hr3, hg3⟩; have hz3 := cls_after hz2 hg3 (by omega); have KB := Lib.hid (box_after hg3 hlr); have hB3 := below_after hB hg3 (by omega); have hsz3 := hg3.size; simp only [World.size_drew, World.size_alloc] at hsz3; clear hg3)) | (go_at_call 44; ((with_reducible refine (pick_any (w.heap.size + 1) a n' cap' l' (p' + 1) 20 (by omega) (by omega) (by omega) w3 hr3).mono ?_); rintro e w4 ⟨v, rfl, hv0, hv1, hr4, hg4⟩; have hz4 := hz3.kept hg4 (fun e => by have := Option.some.inj e; omega); have KC := Lib.hid (fun (o : Nat) => (World.grownBy.cell_far hg4 ⟨w2.heap.size, o, none⟩ (by show w2.heap.size < w3.heap.size; omega) (fun e => by have := Option.some.inj e; (try dsimp only at this); omega)).trans (KB.out o)); have hB4 := hB3.grown hg4 hB3.size (fun k hk => by cases hk; omega); clear hg4; have d0 := hz4.c 0 (by omega); have g0 := hz4.f 0; have d1 := hz4.c 1 (by omega); have g1 := hz4.f 1; have d2 := hz4.c 2 (by omega); have g2 := hz4.f 2; have d3 := hz4.c 3 (by omega); have g3 := hz4.f 3; have d4 := hz4.c 4 (by omega); have g4 := hz4.f 4; have d5 := hz4.c 5 (by omega); have g5 := hz4.f 5; have d6 := hz4.c 6 (by omega); have g6 := hz4.f 6; simp only [cells7, List.getElem?_cons_zero, List.getElem?_cons_succ] at d0 d1 d2 d3 d4 d5 d6; clear hz3 hz4))))
  all_goals
    go_wp2_with fail
    have hte := times_eq hu0 hu1 hv0 hv1
    refine bodyPost_ret (v := .tuple #[.agg #[.int .i64 xd, .int .i64 xa, .int .i64 xb, .int .i64 xc, .int .i64 xe, .int .i64 xf, .int .i64 xg], .int .i64 (u - 10 + v.tdiv 19 * 995)]) (by simp [results, Try.results22, go_sem, *]) rfl ⟨xd, xa, xb, xc, xe, xf, xg, _, rfl, HS.out, by have := tdiv_bd hv0 hv1; omega, ?_⟩
    (repeat (first | (with_reducible exact Below.refl _ _) | (with_reducible refine bl_alloc ?_ ?_ _; focus (first | omega | (simp; done) | (simp; omega))) | (with_reducible refine bl_set ?_ ?_ _; focus (first | omega | (simp; done) | (simp; omega))) | (with_reducible refine Below.drew ?_) | (with_reducible refine below_drewN ?_ _) | (with_reducible refine below_step ?_ (by assumption))))

end Go.Proofs.Ytaapkkbfmgimkaa
