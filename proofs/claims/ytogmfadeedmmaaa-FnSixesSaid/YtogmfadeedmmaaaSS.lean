/- Contracts of the functions that compare, mark and check rows of rows of numbers. Each holds for all rows of equally long rows, in whatever memory. -/
import Derived.Test.YtogmfadeedmmaaaRR
import Derived.Test.YtogmfadeedmmaaaSame
namespace Go.Proofs.Ytogmfadeedmmaaa
open Go.RowKit
set_option linter.unusedSimpArgs false
set_option linter.unusedVariables false

theorem lls_get {xs ys : List Sv} (h : lls xs = lls ys) {j : Nat} {x y : Sv} (hx : xs[j]? = some x) (hy : ys[j]? = some y) : x.l = y.l := by
  have h1 : (lls xs)[j]? = (lls ys)[j]? := by rw [h]
  simpa [lls, hx, hy] using h1
theorem lls_eqlen {xs ys : List Sv} (h : lls xs = lls ys) : ys.length = xs.length := by rw [← lls_len, ← h, lls_len]

theorem sameRows_nil (ao bo : Option Addr) (ca cb : Nat) (w : World) :
    Calls Try.prog 39 #[.slice ao 0 ca, .slice bo 0 cb] w fun e w' => e = .returned (.bool true) ∧ Below w.heap.size w w' := by
  go_enter Try.func39, Try.ntmps39
  go_wp2
  refine wp_loop_rounds 1 ?_
  rw [rounds_succ]
  go_wp2
  go_ret
  exact ⟨rfl, by (repeat (first | (with_reducible exact Below.refl _ _) | (with_reducible refine bl_alloc ?_ ?_ _; focus (first | omega | (simp; done) | (simp; omega))) | (with_reducible refine bl_set ?_ ?_ _; focus (first | omega | (simp; done) | (simp; omega))) | (with_reducible refine Below.drew ?_) | (with_reducible refine below_drewN ?_ _) | (with_reducible refine below_step ?_ (by assumption))))⟩

set_option maxRecDepth 20000 in
set_option maxHeartbeats 4000000 in
theorem sameRows_same (g g' cap cap' : Nat) (xs ys : List Sv) (he : lls xs = lls ys) (hn : xs.length ≤ 1000000) (hl : ∀ x ∈ xs, x.l.length ≤ 1000) (B1 B2 : Nat) (w : World) (h1 : RowS w g xs) (h2 : RowS w g' ys) (e1 : Each w B1 xs) (e2 : Each w B2 ys) :
    Calls Try.prog 39 #[.slice (some ⟨g, 0, none⟩) xs.length cap, .slice (some ⟨g', 0, none⟩) ys.length cap'] w fun e w' => e = .returned (.bool true) ∧ Below w.heap.size w w' := by
  have hlen := lls_eqlen he
  have H1 := Lib.hid h1
  have H2 := Lib.hid h2
  have E1 := Lib.hid e1
  have E2 := Lib.hid e2
  have HE := Lib.hid he
  have HL := Lib.hid hl
  clear h1 h2 e1 e2 he hl
  rw [hlen]
  go_enter Try.func39, Try.ntmps39
  go_wp2
  go_loopw [5] (fun c wr => ∃ j : Nat, j ≤ xs.length ∧ c = .int .i64 j ∧ Below w.heap.size w wr) (fun c _ => xs.length - (intOf c).toNat)
  case atStart => exact ⟨0, by omega, rfl, Below.refl _ _⟩
  case round =>
    obtain ⟨j, hj, rfl, hb0⟩ := hrel
    by_cases hlt : j < xs.length
    · obtain ⟨x, hx⟩ : ∃ x, xs[j]? = some x := ⟨xs[j], List.getElem?_eq_getElem hlt⟩
      obtain ⟨y, hy⟩ : ∃ y, ys[j]? = some y := ⟨ys[j]'(by omega), List.getElem?_eq_getElem (by omega)⟩
      have hxy := lls_get HE.out hx hy
      have hr1 := H1.out.below hb0
      have hr2 := H2.out.below hb0
      have c1 := hr1.cell j x hx
      have c2 := hr2.cell j y hy
      have hw1 := ((E1.out.1 x (List.mem_of_getElem? hx)).2).below hb0
      have hw2 := ((E2.out.1 y (List.mem_of_getElem? hy)).2).below hb0
      have hxl := HL.out x (List.mem_of_getElem? hx)
      have g1 := hr1.lt
      have g2 := hr2.lt
      rw [← hxy] at c2 hw2
      have K := Lib.hid (sameInts_same x.g y.g x.cap y.cap x.l (by omega) wr.drew hw1 hw2)
      have b1 : (0 : Int) ≤ (j : Int) := by omega
      have b2 : (j : Int) < (xs.length : Int) := by omega
      clear hr1 hr2 hw1 hw2 hxy hx hy
      go_wp2
      go_region_held3 (fun w' => w'.cell? ⟨g, j, none⟩ = some (.slice (some ⟨x.g, 0, none⟩) x.l.length x.cap) ∧ w'.cell? ⟨g', j, none⟩ = some (.slice (some ⟨y.g, 0, none⟩) x.l.length y.cap)) ((refine ⟨?_, ?_⟩ <;> (first | assumption | (simp [go_sem, *]; done)))) ((go_at_call 31; ((with_reducible refine (K.out).mono ?_); rintro e w' ⟨rfl, hb⟩; have j1 := hb.cell (p := ⟨g, j, none⟩) g1; have j2 := hb.cell (p := ⟨g', j, none⟩) g2)))
      go_wp2
      go_roundw
      case rel => exact ⟨j + 1, by omega, by go_num, below_step hb0.drew hb⟩
      case measure => ((simp [intOf]) <;> omega)
    · obtain rfl : j = xs.length := by omega
      go_wp2
      go_ret
      exact ⟨rfl, hb0⟩

/-- Row i of a list of rows, each of m numbers, holds the numbers from k + i * m on. -/
def MarkS (w : World) (xs : List Sv) (k : Int) (m : Nat) : Prop := ∀ i x, xs[i]? = some x → Row w x.g (marks (k + (i * m : Nat)) m)
theorem MarkS.below {w w' : World} {xs : List Sv} {k : Int} {m : Nat} (h : MarkS w xs k m) (hb : Below w.heap.size w w') : MarkS w' xs k m := fun i x hx => (h i x hx).below hb
/-- Nothing but the rows of xs has turned. -/
structure GrownS (w w' : World) (xs : List Sv) : Prop where
  os : w'.os = w.os
  tape : w'.tape = w.tape
  output : w'.output = w.output
  size : w.heap.size ≤ w'.heap.size
  block : ∀ i, i < w.heap.size → (∀ x ∈ xs, x.g ≠ i) → w'.heap[i]? = w.heap[i]?
theorem GrownS.refl (w : World) (xs : List Sv) : GrownS w w xs := ⟨rfl, rfl, rfl, Nat.le_refl _, fun _ _ _ => rfl⟩
theorem GrownS.step {w wr w' : World} {xs : List Sv} {x : Sv} (h : GrownS w wr xs) (hx : x ∈ xs) (hg : wr.grownBy w' (some x.g)) : GrownS w w' xs :=
  ⟨hg.os.trans h.os, hg.tape.trans h.tape, hg.output.trans h.output, Nat.le_trans h.size hg.size, fun i hi hne => (hg.block i (Nat.lt_of_lt_of_le hi h.size) (fun e => hne x hx (by simpa using e.symm))).trans (h.block i hi hne)⟩
theorem GrownS.blw {B : Nat} {a w w' : World} {xs : List Sv} (h : GrownS w w' xs) (hb : Below B a w) (hB : ∀ x ∈ xs, B ≤ x.g) (hw : B ≤ w.heap.size) : Below B a w' :=
  hb.trans ⟨h.os, h.tape, h.output, h.size, fun k hk => h.block k (by omega) (fun x hx => by have := hB x hx; omega)⟩
theorem GrownS.row {w w' : World} {xs : List Sv} {g : Nat} {ys : List Sv} (h : GrownS w w' xs) (he : ∀ x ∈ xs, ∃ l, Row w x.g l) (hr : RowS w g ys) : RowS w' g ys :=
  hr.kept (h.block g hr.lt (fun x hx e => by obtain ⟨l, hl⟩ := he x hx; exact hr.ne hl e.symm))
theorem GrownS.each {w w' : World} {B1 B2 : Nat} {xs ys : List Sv} (h : GrownS w w' xs) (hx : ∀ x ∈ xs, ∀ y ∈ ys, x.g ≠ y.g) (he : Each w B1 ys) : Each w' B1 ys :=
  ⟨fun y hy => ⟨(he.1 y hy).1, (he.1 y hy).2.kept (h.block y.g (he.1 y hy).2.lt (fun x hx' => hx x hx' y hy))⟩, he.2⟩
theorem each_lt {w : World} {B : Nat} {xs : List Sv} (h : Each w B xs) {i j : Nat} {x y : Sv} (hx : xs[i]? = some x) (hy : xs[j]? = some y) (hij : i < j) : x.g < y.g := by
  obtain ⟨h1, rfl⟩ := List.getElem?_eq_some_iff.1 hx
  obtain ⟨h2, rfl⟩ := List.getElem?_eq_some_iff.1 hy
  exact List.pairwise_iff_getElem.1 h.2 i j h1 h2 hij

end Go.Proofs.Ytogmfadeedmmaaa
