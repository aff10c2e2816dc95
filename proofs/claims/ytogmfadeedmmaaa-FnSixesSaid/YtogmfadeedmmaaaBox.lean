/- A class in a block of memory, stored into and read; a row of numbers that is read; sums of line classes as a plain function. No condition. -/
import Derived.Test.YtogmfadeedmmaaaZ
import Derived.Test.YtogmfadeedmmaaaSlices
import Derived.Test.YtogmfadeedmmaaaBase
namespace Go.Proofs.Ytogmfadeedmmaaa
open Go.RowKit
set_option linter.unusedSimpArgs false
set_option linter.unusedVariables false

def seven (x : Cls) : List Value := [.int .i64 x.d, .int .i64 x.a, .int .i64 x.b, .int .i64 x.c, .int .i64 x.e, .int .i64 x.f, .int .i64 x.g]
/-- Block B holds the class x. -/
def InBox (w : World) (B : Nat) (x : Cls) : Prop := w.heap[B]? = some (.cells (seven x).toArray 26 (0, 0))
theorem InBox.lt {w : World} {B : Nat} {x : Cls} (h : InBox w B x) : B < w.heap.size := (Array.getElem?_eq_some_iff.1 h).1
theorem InBox.c {w : World} {B : Nat} {x : Cls} (h : InBox w B x) (i : Nat) : w.cell? ⟨B, i, none⟩ = (seven x)[i]? := by
  rw [cell_of_row w B i _ _ (0, 0) h]
  simp
theorem InBox.arr {w : World} {B : Nat} {xd xa xb xc xe xf xg : Int} (h : InBox w B ⟨xd, xa, xb, xc, xe, xf, xg⟩) : ∀ o : Nat, w.cell? ⟨B, o, none⟩ = (#[.int .i64 xd, .int .i64 xa, .int .i64 xb, .int .i64 xc, .int .i64 xe, .int .i64 xf, .int .i64 xg] : Array Value)[o]? := fun o => cell_of_row w B o _ _ (0, 0) h
theorem InBox.f {w : World} {B : Nat} {x : Cls} (h : InBox w B x) (i : Nat) : w.frozen? ⟨B, i, none⟩ = false := by
  have h' : w.heap[B]? = some (.cells (seven x).toArray 26 (0, 0)) := h
  simp [World.frozen?, h']
theorem InBox.kept {w w' : World} {B : Nat} {x : Cls} (h : InBox w B x) (hb : Below w.heap.size w w') : InBox w' B x := (hb.block B h.lt).trans h
theorem InBox.alloc {w : World} {B : Nat} {x : Cls} (h : InBox w B x) (o : Obj) : InBox (w.alloc o) B x := (alloc_under w o B h.lt).trans h
theorem InBox.set {w : World} {B B' i : Nat} {x : Cls} {v : Value} (h : InBox w B x) (hne : B' ≠ B) : InBox (w.setCell ⟨B', i, none⟩ v) B x := (Below.heap_setCell w ⟨B', i, none⟩ v B (Ne.symm hne)).trans h
theorem InBox.put {w : World} {B : Nat} {x : Cls} (h : InBox w B x) (i : Nat) (n : Int) (y : Cls) (he : (seven x).set i (.int .i64 n) = seven y) : InBox (w.setCell ⟨B, i, none⟩ (.int .i64 n)) B y := by
  have h' : w.heap[B]? = some (.cells (seven x).toArray 26 (0, 0)) := h
  show (w.setCell ⟨B, i, none⟩ (.int .i64 n)).heap[B]? = _
  simp [World.setCell, Array.getElem?_modify, h', he]
theorem InBox.put7 {w : World} {B : Nat} {x : Cls} (h : InBox w B x) (y : Cls) : InBox (((((((w.setCell ⟨B, 0, none⟩ (.int .i64 y.d)).setCell ⟨B, 1, none⟩ (.int .i64 y.a)).setCell ⟨B, 2, none⟩ (.int .i64 y.b)).setCell ⟨B, 3, none⟩ (.int .i64 y.c)).setCell ⟨B, 4, none⟩ (.int .i64 y.e)).setCell ⟨B, 5, none⟩ (.int .i64 y.f)).setCell ⟨B, 6, none⟩ (.int .i64 y.g)) B y :=
  ((((((h.put 0 y.d ⟨y.d, x.a, x.b, x.c, x.e, x.f, x.g⟩ rfl).put 1 y.a ⟨y.d, y.a, x.b, x.c, x.e, x.f, x.g⟩ rfl).put 2 y.b ⟨y.d, y.a, y.b, x.c, x.e, x.f, x.g⟩ rfl).put 3 y.c ⟨y.d, y.a, y.b, y.c, x.e, x.f, x.g⟩ rfl).put 4 y.e ⟨y.d, y.a, y.b, y.c, y.e, x.f, x.g⟩ rfl).put 5 y.f ⟨y.d, y.a, y.b, y.c, y.e, y.f, x.g⟩ rfl).put 6 y.g y rfl
theorem box_new (w : World) (xd xa xb xc xe xf xg : Int) (k : Nat) (h : k = w.heap.size) : InBox (w.alloc (.cells #[.int .i64 xd, .int .i64 xa, .int .i64 xb, .int .i64 xc, .int .i64 xe, .int .i64 xf, .int .i64 xg] 26)) k ⟨xd, xa, xb, xc, xe, xf, xg⟩ := alloc_at w _ k h

/-- A list of numbers that is read: nil or empty, or in a block. -/
def Rd (w : World) (a : Option Addr) (l : List Int) : Prop := l.length = 0 ∨ ∃ b off, a = some ⟨b, off, none⟩ ∧ b < w.heap.size ∧ ∀ j, j < l.length → w.cell? ⟨b, off + j, none⟩ = some (.int .i64 (l.getD j 0))
theorem Rd.below {w w' : World} {a : Option Addr} {l : List Int} (h : Rd w a l) (hb : Below w.heap.size w w') : Rd w' a l := by
  rcases h with h | ⟨b, off, ha, hlt, hc⟩
  · exact .inl h
  · exact .inr ⟨b, off, ha, Nat.lt_of_lt_of_le hlt hb.size, fun j hj => (hb.cell (p := ⟨b, off + j, none⟩) hlt).trans (hc j hj)⟩
theorem Row.rd {w : World} {g : Nat} {l : List Int} (h : Row w g l) : Rd w (some ⟨g, 0, none⟩) l := .inr ⟨g, 0, rfl, h.lt, fun j hj => by rw [Nat.zero_add]; exact h.cell j hj⟩
theorem Rd.alloc {w : World} {a : Option Addr} {l : List Int} (h : Rd w a l) (o : Obj) : Rd (w.alloc o) a l := h.below ((Below.refl _ _).alloc (Nat.le_refl _) o)

/-- The sum of the first so many line classes of a list. -/
def sumS (l : List Int) : Nat → Cls
  | 0 => ⟨0, 0, 0, 0, 0, 0, 0⟩
  | j + 1 => sumC (sumS l j) 1 (LC (l.getD j 0).toNat)
def lineN (n : Int) : Bool := inB n 0 26
def allB (l : List Int) : Bool := l.all lineN
def sumR (l : List Int) : Cls := if allB l then sumS l l.length else ⟨0, 0, 0, 0, 0, 0, 0⟩
theorem LC_bd : ∀ k, k < 27 → bdC 2 (LC k) := by
  intro k hk
  have h : ∀ k, k < 27 → (decide (-2 ≤ (LC k).d ∧ (LC k).d ≤ 2) && decide (-2 ≤ (LC k).a ∧ (LC k).a ≤ 2) && decide (-2 ≤ (LC k).b ∧ (LC k).b ≤ 2) && decide (-2 ≤ (LC k).c ∧ (LC k).c ≤ 2) && decide (-2 ≤ (LC k).e ∧ (LC k).e ≤ 2) && decide (-2 ≤ (LC k).f ∧ (LC k).f ≤ 2) && decide (-2 ≤ (LC k).g ∧ (LC k).g ≤ 2)) = true := by decide +kernel
  have := h k hk
  simp only [Bool.and_eq_true, decide_eq_true_eq] at this
  obtain ⟨⟨⟨⟨⟨⟨h0, h1⟩, h2⟩, h3⟩, h4⟩, h5⟩, h6⟩ := this
  exact ⟨h0, h1, h2, h3, h4, h5, h6⟩
theorem lineN_nat {n : Int} (h : lineN n = true) : n.toNat < 27 ∧ (n.toNat : Int) = n := by
  simp only [lineN, inB, Bool.and_eq_true, decide_eq_true_eq] at h
  omega
theorem sumS_bd (l : List Int) : ∀ (j : Nat), j ≤ 100 → (∀ i, i < j → lineN (l.getD i 0) = true) → bdC (2 * j) (sumS l j)
  | 0, _, _ => by unfold bdC sumS; simp
  | j + 1, hj, h => by
    have ih := sumS_bd l j (by omega) (fun i hi => h i (by omega))
    have hk := LC_bd _ (lineN_nat (h j (by omega))).1
    have e : sumS l (j + 1) = sumZ (sumS l j) 1 (LC (l.getD j 0).toNat) := sumC_z (bdC_le ih (by omega)) (by omega) (bdC_le hk (by omega))
    rw [e]
    generalize sumS l j = x at ih
    generalize LC (l.getD j 0).toNat = y at hk
    unfold bdC at *
    unfold sumZ
    simp only
    omega
theorem sumS_ok {l : List Int} {j : Nat} (hj : j ≤ 100) (h : ∀ i, i < j → lineN (l.getD i 0) = true) : vldB (sumS l j) = true := of_bdC (bdC_le (sumS_bd l j hj h) (by omega))
theorem allB_of {l : List Int} (h : ∀ i, i < l.length → lineN (l.getD i 0) = true) : allB l = true := by
  rw [allB, List.all_eq_true]
  intro x hx
  obtain ⟨i, hi, rfl⟩ := List.getElem_of_mem hx
  have := h i hi
  simpa [List.getD, List.getElem?_eq_getElem hi] using this
theorem of_allB {l : List Int} (h : allB l = true) : ∀ i, i < l.length → lineN (l.getD i 0) = true := by
  intro i hi
  rw [allB, List.all_eq_true] at h
  have := h l[i] (List.getElem_mem hi)
  simpa [List.getD, List.getElem?_eq_getElem hi] using this
theorem allB_not {l : List Int} {j : Nat} (hj : j < l.length) (h : lineN (l.getD j 0) = false) : allB l = false := by
  cases hb : allB l
  · rfl
  · rw [of_allB hb j hj] at h; cases h
theorem sumR_t {l : List Int} (h : allB l = true) : sumR l = sumS l l.length := by simp [sumR, h]
theorem sumR_f {l : List Int} (h : allB l = false) : sumR l = ⟨0, 0, 0, 0, 0, 0, 0⟩ := by simp [sumR, h]

end Go.Proofs.Ytogmfadeedmmaaa
