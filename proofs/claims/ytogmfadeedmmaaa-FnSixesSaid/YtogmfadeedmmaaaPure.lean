/- The plain functions of these proofs: classes of seven whole numbers, their sums and products, and the 27 line classes. No Go in sight; no condition. -/
import Derived.WalkKit
namespace Go.Proofs.Ytogmfadeedmmaaa
open Go.RowKit

/-- A class: its degree and six numbers. -/
structure Cls where
  d : Int
  a : Int
  b : Int
  c : Int
  e : Int
  f : Int
  g : Int
deriving DecidableEq

def inB (n lo hi : Int) : Bool := decide (lo ≤ n) && decide (n ≤ hi)
def okN (n : Int) : Bool := inB n (-1000) 1000
def vldB (x : Cls) : Bool := okN x.a && okN x.b && okN x.c && okN x.e && okN x.f && okN x.g && okN x.d
def stepM (s m n : Int) : Int := wrap64 (s - wrap64 (m * n))
def prodC (x y : Cls) : Int := stepM (stepM (stepM (stepM (stepM (stepM (wrap64 (x.d * y.d)) x.a y.a) x.b y.b) x.c y.c) x.e y.e) x.f y.f) x.g y.g
def addM (m n k : Int) : Int := wrap64 (m + wrap64 (n * k))
def sumC (x : Cls) (n : Int) (y : Cls) : Cls := ⟨addM x.d n y.d, addM x.a n y.a, addM x.b n y.b, addM x.c n y.c, addM x.e n y.e, addM x.f n y.f, addM x.g n y.g⟩
def planeC : Cls := ⟨3, 1, 1, 1, 1, 1, 1⟩
def zeroC : Cls := ⟨0, 0, 0, 0, 0, 0, 0⟩
def tldC (x : Cls) : Cls := if vldB x then x else zeroC
def degC (x : Cls) : Int := prodC x planeC
def eqM (x y : Cls) : Bool := x.a == y.a && (x.b == y.b && (x.c == y.c && (x.e == y.e && (x.f == y.f && x.g == y.g))))
def eqB (x y : Cls) : Bool := x.d == y.d && eqM x y

/-- The line classes. -/
def LC : Nat → Cls
  | 0 => ⟨0, -1, 0, 0, 0, 0, 0⟩
  | 1 => ⟨0, 0, -1, 0, 0, 0, 0⟩
  | 2 => ⟨0, 0, 0, -1, 0, 0, 0⟩
  | 3 => ⟨0, 0, 0, 0, -1, 0, 0⟩
  | 4 => ⟨0, 0, 0, 0, 0, -1, 0⟩
  | 5 => ⟨0, 0, 0, 0, 0, 0, -1⟩
  | 6 => ⟨1, 1, 1, 0, 0, 0, 0⟩
  | 7 => ⟨1, 1, 0, 1, 0, 0, 0⟩
  | 8 => ⟨1, 1, 0, 0, 1, 0, 0⟩
  | 9 => ⟨1, 1, 0, 0, 0, 1, 0⟩
  | 10 => ⟨1, 1, 0, 0, 0, 0, 1⟩
  | 11 => ⟨1, 0, 1, 1, 0, 0, 0⟩
  | 12 => ⟨1, 0, 1, 0, 1, 0, 0⟩
  | 13 => ⟨1, 0, 1, 0, 0, 1, 0⟩
  | 14 => ⟨1, 0, 1, 0, 0, 0, 1⟩
  | 15 => ⟨1, 0, 0, 1, 1, 0, 0⟩
  | 16 => ⟨1, 0, 0, 1, 0, 1, 0⟩
  | 17 => ⟨1, 0, 0, 1, 0, 0, 1⟩
  | 18 => ⟨1, 0, 0, 0, 1, 1, 0⟩
  | 19 => ⟨1, 0, 0, 0, 1, 0, 1⟩
  | 20 => ⟨1, 0, 0, 0, 0, 1, 1⟩
  | 21 => ⟨2, 0, 1, 1, 1, 1, 1⟩
  | 22 => ⟨2, 1, 0, 1, 1, 1, 1⟩
  | 23 => ⟨2, 1, 1, 0, 1, 1, 1⟩
  | 24 => ⟨2, 1, 1, 1, 0, 1, 1⟩
  | 25 => ⟨2, 1, 1, 1, 1, 0, 1⟩
  | _ => ⟨2, 1, 1, 1, 1, 1, 0⟩

/-- Do two lines meet? -/
def mtB (i k : Nat) : Bool := decide (prodC (LC i) (LC k) = 1)

theorem bcell {W w1 : World} (hb : Below W.heap.size W w1) : (∀ b o, b < W.heap.size → w1.cell? ⟨b, o, none⟩ = W.cell? ⟨b, o, none⟩) ∧ (∀ b o, b < W.heap.size → w1.frozen? ⟨b, o, none⟩ = W.frozen? ⟨b, o, none⟩) :=
  ⟨fun b o h => hb.cell (p := ⟨b, o, none⟩) h, fun b o h => hb.frozen (p := ⟨b, o, none⟩) h⟩

/-- A row of one-cell elements that is owned and not empty: its shape and its cells. -/
theorem own_shape {w : World} {base : Nat} {e : TypeId} {v : Value} {n : Nat} {xs : List Value} (h : w.ownsRow base e 1 v n xs) (hn : 0 < n) :
    ∃ g cap, v = .slice (some ⟨g, 0, none⟩) n cap ∧ base ≤ g ∧ n ≤ cap ∧ cap ≤ maxLen ∧ g < w.heap.size ∧ ∀ j u, xs[j]? = some u → w.cell? ⟨g, j, none⟩ = some u := by
  have hc := fun (g : Nat) (hg : v.ownBlock = some g) => h.cells hg
  rcases h.2 with ⟨_, h0⟩ | ⟨g, cap, cur, rfl, hb, hg, hnc, hcm, _⟩
  · omega
  · refine ⟨g, cap, rfl, hb, hnc, hcm, (Array.getElem?_eq_some_iff.1 hg).1, fun j u hu => ?_⟩
    have := hc g rfl j u hu
    rw [Addr.add_lit] at this
    simpa using this

theorem below_step {w W w1 : World} (h : Below w.heap.size w W) (hb : Below W.heap.size W w1) : Below w.heap.size w w1 := h.trans (hb.mono h.size)

theorem bl_alloc {B : Nat} {a w : World} (hB : B ≤ w.heap.size) (h : Below B a w) (o : Obj) : Below B a (w.alloc o) := h.alloc hB o
theorem bl_set {B : Nat} {a w : World} {p : Addr} (hp : B ≤ p.block) (h : Below B a w) (u : Value) : Below B a (w.setCell p u) := h.setCell hp u

theorem alloc_at (w : World) (o : Obj) (k : Nat) (h : k = w.heap.size) : (w.alloc o).heap[k]? = some o := by
  subst h
  exact heap_alloc_new w o
theorem alloc_under (w : World) (o : Obj) (k : Nat) (h : k < w.heap.size) : (w.alloc o).heap[k]? = w.heap[k]? := Below.heap_alloc w o k h

/-- The cells of a block, as the laws on append ask them. -/
theorem cells_of_block {w : World} {b : Nat} {cur : Array Value} {t : TypeId} (h : w.heap[b]? = some (.cells cur t (0, 0))) (off : Nat) (l : List Value) (hl : ∀ j u, l[j]? = some u → cur[off + j]? = some u) :
    ∀ a, some (⟨b, off, none⟩ : Addr) = some a → ∀ j u, l[j]? = some u → w.cell? (a.add j) = some u := by
  intro a ha j u hj
  obtain rfl := Option.some.inj ha
  rw [Addr.add_lit, cell_of_row w b (off + j) cur t (0, 0) h]
  exact hl j u hj

theorem ret_int {k : IntKind} {a b : Int} (h : a = b) : Ending.returned (.int k a) = .returned (.int k b) := by rw [h]
theorem ret_bool {a b : Bool} (h : a = b) : Ending.returned (.bool a) = .returned (.bool b) := by rw [h]

end Go.Proofs.Ytogmfadeedmmaaa
