/- The lists of the tritangent planes, as plain functions: the reference's order of three lines and the program's order of two. No Go in sight; no condition. -/
import Derived.Test.YtogmfadeedmmaaaThird
namespace Go.Proofs.Ytogmfadeedmmaaa
open Go.RowKit

/-- Lists that grow by a third, a second and a first number. -/
def rK (p : Nat → Nat → Nat → Bool) (i j k : Nat) : List (List Int) := ((List.range k).filter (fun z => decide (j < z) && p i j z)).map (fun z : Nat => [(i : Int), (j : Int), (z : Int)])
def rJ (p : Nat → Nat → Nat → Bool) (i j : Nat) : List (List Int) := ((List.range j).filter (fun y => decide (i < y))).flatMap (fun y => rK p i y 27)
def rI (p : Nat → Nat → Nat → Bool) (i : Nat) : List (List Int) := (List.range i).flatMap (fun x => rJ p x 27)
def hasB (n : Int) (i j k : Nat) : Bool := decide (n < 0) || (decide (n = i) || (decide (n = j) || decide (n = k)))
def mt3 (i j k : Nat) : Bool := mtB i j && (mtB i k && mtB j k)
def hm3 (n : Int) (i j k : Nat) : Bool := hasB n i j k && mt3 i j k
theorem rK_0 (p : Nat → Nat → Nat → Bool) (i j : Nat) : rK p i j (j + 1) = [] := by
  simp only [rK, List.map_eq_nil_iff, List.filter_eq_nil_iff, List.mem_range]
  intro a ha
  simp
  omega
theorem rK_t {p : Nat → Nat → Nat → Bool} {i j k : Nat} (h : j < k) (hp : p i j k = true) : rK p i j (k + 1) = rK p i j k ++ [[(i : Int), (j : Int), (k : Int)]] := by
  simp [rK, List.range_succ, List.filter_append, h, hp]
theorem rK_f {p : Nat → Nat → Nat → Bool} {i j k : Nat} (hp : p i j k = false) : rK p i j (k + 1) = rK p i j k := by
  simp [rK, List.range_succ, List.filter_append, hp]
theorem rJ_0 (p : Nat → Nat → Nat → Bool) (i : Nat) : rJ p i (i + 1) = [] := by
  have : (List.range (i + 1)).filter (fun y => decide (i < y)) = [] := by
    simp only [List.filter_eq_nil_iff, List.mem_range]
    intro a ha
    simp
    omega
  simp [rJ, this]
theorem rJ_s {p : Nat → Nat → Nat → Bool} {i j : Nat} (h : i < j) : rJ p i (j + 1) = rJ p i j ++ rK p i j 27 := by
  simp [rJ, List.range_succ, List.filter_append, h]
theorem rI_0 (p : Nat → Nat → Nat → Bool) : rI p 0 = [] := rfl
theorem rI_s (p : Nat → Nat → Nat → Bool) (i : Nat) : rI p (i + 1) = rI p i ++ rJ p i 27 := by
  simp [rI, List.range_succ]

/-- The program's planes: two lines that meet, and a third behind both. -/
def qK (i k : Nat) : List (List Int) := ((List.range k).filter (fun z => decide (i < z) && (mtB i z && decide ((z : Int) < thC i z)))).map (fun z : Nat => [(i : Int), (z : Int), thC i z])
def qI (i : Nat) : List (List Int) := (List.range i).flatMap (fun x => qK x 27)
theorem qK_0 (i : Nat) : qK i (i + 1) = [] := by
  simp only [qK, List.map_eq_nil_iff, List.filter_eq_nil_iff, List.mem_range]
  intro a ha
  simp
  omega
theorem qK_t {i k : Nat} (h : i < k) (hm : mtB i k = true) (ht : (k : Int) < thC i k) : qK i (k + 1) = qK i k ++ [[(i : Int), (k : Int), thC i k]] := by
  simp [qK, List.range_succ, List.filter_append, h, hm, ht]
theorem qK_m {i k : Nat} (hm : mtB i k = false) : qK i (k + 1) = qK i k := by
  simp [qK, List.range_succ, List.filter_append, hm]
theorem qK_f {i k : Nat} (ht : ¬ (k : Int) < thC i k) : qK i (k + 1) = qK i k := by
  simp [qK, List.range_succ, List.filter_append, ht]
theorem qI_s (i : Nat) : qI (i + 1) = qI i ++ qK i 27 := by
  simp [qI, List.range_succ]
def hasL (n : Int) (l : List Int) : Bool := decide (n < 0) || l.contains n
theorem q_all : qI 27 = rI mt3 27 := by decide +kernel
theorem p_all (n : Int) : rI (hm3 n) 27 = (qI 27).filter (hasL n) := by
  rw [q_all]
  simp only [rI, List.filter_flatMap]
  congr 1
  funext x
  simp only [rJ, List.filter_flatMap]
  congr 1
  funext y
  simp only [rK, List.filter_map, List.filter_filter]
  congr 1
  apply List.filter_congr
  intro z _
  simp only [hm3, hasB, hasL, Function.comp, List.contains_cons, List.contains_nil, Bool.or_false]
  rw [Bool.eq_iff_iff]
  simp
  constructor
  · rintro ⟨h1, h2, h3⟩
    exact ⟨h2, h1, h3⟩
  · rintro ⟨h1, h2, h3⟩
    exact ⟨h2, h1, h3⟩
/-- The planes with a line. -/
def plB (n : Int) : List (List Int) := (qI 27).filter (hasL n)
theorem plB_def (n : Int) : plB n = (qI 27).filter (hasL n) := rfl
theorem plB_3 (n : Int) : ∀ l ∈ plB n, l.length = 3 := by
  have h : ∀ l ∈ qI 27, l.length = 3 := by decide +kernel
  exact fun l hl => h l (List.mem_filter.1 hl).1
theorem plB_len (n : Int) : (plB n).length ≤ 45 := by
  have h : (qI 27).length = 45 := by decide +kernel
  have := List.length_filter_le (hasL n) (qI 27)
  unfold plB
  omega

end Go.Proofs.Ytogmfadeedmmaaa
