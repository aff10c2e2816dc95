/- Sums of line classes backwards, and their degrees; the drawing of a list of lines. No condition. -/
import Derived.Test.YtogmfadeedmmaaaSum
import Derived.Test.YtogmfadeedmmaaaLists
import Derived.Test.YtogmfadeedmmaaaDraw
import Derived.Test.YtogmfadeedmmaaaLiv
namespace Go.Proofs.Ytogmfadeedmmaaa
open Go.RowKit
set_option linter.unusedSimpArgs false
set_option linter.unusedVariables false

def cs (f : Cls → Int) : List Int → Int
  | [] => 0
  | n :: t => f (LC n.toNat) + cs f t
theorem cs_app (f : Cls → Int) (a b : List Int) : cs f (a ++ b) = cs f a + cs f b := by
  induction a with
  | nil => simp [cs]
  | cons n t ih => simp only [List.cons_append, cs, ih]; omega
theorem cs_rev (f : Cls → Int) (a : List Int) : cs f a.reverse = cs f a := by
  induction a with
  | nil => rfl
  | cons n t ih => rw [List.reverse_cons, cs_app, ih]; simp only [cs]; omega
theorem cs_take (f : Cls → Int) (l : List Int) (j : Nat) (h : j < l.length) : cs f (l.take (j + 1)) = cs f (l.take j) + f (LC (l.getD j 0).toNat) := by
  have e : l.getD j 0 = l[j] := by simp [List.getD, List.getElem?_eq_getElem h]
  rw [e, List.take_succ_eq_append_getElem h, cs_app]
  simp [cs]
theorem sumS_cs (l : List Int) : ∀ (j : Nat), j ≤ 100 → j ≤ l.length → (∀ i, i < j → lineN (l.getD i 0) = true) → sumS l j = ⟨cs Cls.d (l.take j), cs Cls.a (l.take j), cs Cls.b (l.take j), cs Cls.c (l.take j), cs Cls.e (l.take j), cs Cls.f (l.take j), cs Cls.g (l.take j)⟩
  | 0, _, _, _ => by simp [sumS, cs]
  | j + 1, hj, hl, h => by
    have ih := sumS_cs l j (by omega) (by omega) (fun i hi => h i (by omega))
    have hb := sumS_bd l j (by omega) (fun i hi => h i (by omega))
    have hk := LC_bd _ (lineN_nat (h j (by omega))).1
    have e : sumS l (j + 1) = sumZ (sumS l j) 1 (LC (l.getD j 0).toNat) := sumC_z (bdC_le hb (by omega)) (by omega) (bdC_le hk (by omega))
    rw [e, ih]
    unfold sumZ
    simp only [cs_take _ l j (by omega), Int.one_mul]
theorem sumR_rev {l : List Int} (hl : l.length ≤ 100) (h : allB l = true) : sumR l.reverse = sumR l ∧ allB l.reverse = true := by
  have hr : allB l.reverse = true := by simpa [allB] using h
  refine ⟨?_, hr⟩
  rw [sumR_t h, sumR_t hr, sumS_cs l _ hl (Nat.le_refl _) (of_allB h), sumS_cs l.reverse _ (by simpa using hl) (Nat.le_refl _) (of_allB hr)]
  simp only [List.take_length, cs_rev]
theorem LC_deg : ∀ k, k < 27 → prodZ (LC k) planeC = 1 := by decide +kernel
theorem sumS_deg (l : List Int) : ∀ (j : Nat), j ≤ 100 → (∀ i, i < j → lineN (l.getD i 0) = true) → prodZ (sumS l j) planeC = j
  | 0, _, _ => rfl
  | j + 1, hj, h => by
    have ih := sumS_deg l j (by omega) (fun i hi => h i (by omega))
    have hb := sumS_bd l j (by omega) (fun i hi => h i (by omega))
    have hkk := (lineN_nat (h j (by omega))).1
    have hk := LC_bd _ hkk
    have hd := LC_deg _ hkk
    have e : sumS l (j + 1) = sumZ (sumS l j) 1 (LC (l.getD j 0).toNat) := sumC_z (bdC_le hb (by omega)) (by omega) (bdC_le hk (by omega))
    rw [e]
    generalize sumS l j = x at ih
    generalize LC (l.getD j 0).toNat = y at hd
    unfold prodZ sumZ planeC at *
    simp only at *
    omega
theorem sumR_deg {l : List Int} (hl : l.length ≤ 100) (h : allB l = true) : vldB (sumR l) = true ∧ degR (sumR l) = l.length := by
  have hv : vldB (sumR l) = true := by rw [sumR_t h]; exact sumS_ok hl (of_allB h)
  refine ⟨hv, ?_⟩
  have e := sumS_deg l _ hl (of_allB h)
  rw [← sumR_t h] at e
  unfold degR degC
  rw [if_pos hv, prodC_z (big hv) plane_big, e]

theorem own_row {w w' : World} {base g : Nat} {t : TypeId} {v : Value} {n : Nat} {xs : List Value} {o : Obj} {L : List Int} (hrow : Row w g L) (ho : w.ownsRow base t 1 v n xs) (hg : (w.alloc o).grownBy w' v.ownBlock) (hlt : g < base) : Row w' g L :=
  hrow.kept ((hg.block g (by have := hrow.lt; simp; omega) (fun e => by have := (ho.lt g e.symm).1; omega)).trans (alloc_under w o g hrow.lt))
theorem own_cell {w w' : World} {base b : Nat} {t : TypeId} {v : Value} {n : Nat} {xs : List Value} {o : Obj} {A : Array Value} (hc : ∀ i : Nat, w.cell? ⟨b, i, none⟩ = A[i]?) (hb : b < w.heap.size) (ho : w.ownsRow base t 1 v n xs) (hg : (w.alloc o).grownBy w' v.ownBlock) (hlt : b < base) : ∀ i : Nat, w'.cell? ⟨b, i, none⟩ = A[i]? := fun i =>
  (World.cell?_of_block (a := ⟨b, i, none⟩) ((hg.block b (by simp; omega) (fun e => by have := (ho.lt b e.symm).1; omega)).trans (alloc_under w o b hb))).trans (hc i)
theorem own_rd {w w' : World} {base R : Nat} {t : TypeId} {v : Value} {n0 : Nat} {xs : List Value} {o : Obj} {a : Option Addr} {n cap p : Nat} {l : List Int} (h : RdAt w R a n cap l p) (ho : w.ownsRow base t 1 v n0 xs) (hg : (w.alloc o).grownBy w' v.ownBlock) (hR : R < base) (hA : ∀ x, 0 < n → a = some x → x.block < base) : RdAt w' R a n cap l p := by
  have keep : ∀ b, b < base → b < w.heap.size → w'.heap[b]? = w.heap[b]? := fun b hb hl => (hg.block b (by simp; omega) (fun e => by have := (ho.lt b e.symm).1; omega)).trans (alloc_under w o b hl)
  have hsz : w.heap.size ≤ w'.heap.size := by have := hg.size; simp at this; omega
  obtain ⟨h1, ⟨g1, g2, g3, g4⟩, h3, h4⟩ := h
  have hRl : R < w.heap.size := (Array.getElem?_eq_some_iff.1 h1).1
  refine ⟨(keep R hR hRl).trans h1, ⟨g1, g2, g3, ?_⟩, h3, h4⟩
  by_cases hn0 : n = 0
  · exact .inl hn0
  rcases g4 with g4 | ⟨b, off, ha, hb, hc⟩
  · exact .inl g4
  · exact .inr ⟨b, off, ha, Nat.lt_of_lt_of_le hb hsz, fun j hj => (World.cell?_of_block (a := ⟨b, off + j, none⟩) (keep b (hA _ (by omega) ha) hb)).trans (hc j hj)⟩

/-- A list of at most seven indexes that is drawn. -/
def DrewL (w : World) (e : Ending) (w' : World) : Prop := ∃ (g cap : Nat) (L : List Int), e = .returned (.slice (some ⟨g, 0, none⟩) L.length cap) ∧ L.length ≤ 7 ∧ Row w' g L ∧ Below w.heap.size w w'

set_option maxHeartbeats 4000000 in
theorem drawClassSum_any (a : Option Addr) (n cap : Nat) (l : List Int) (w : World) (h : ArgRow .u8 w a n cap l) :
    Calls Try.prog 32 #[.slice a n cap] w (DrewL w) := by
  obtain ⟨i0, hi0, hz0, hz1, hz2⟩ := info_parts Try.info3
  go_enter Try.func32, Try.ntmps32
  go_wp2_with fail
  refine (l6Open_any a n cap l _ h).mono ?_
  rintro e w1 ⟨n', cap', l', rfl, hr1, hb1⟩
  have hA : ∀ x, 0 < n' → a = some x → x.block < w1.heap.size := by
    intro x hn hx
    rcases hr1.2.1.2.2.2 with h4 | ⟨b, off, ha, hbl, hc⟩
    · omega
    · rw [ha] at hx
      cases hx
      exact hbl
  have hRl := hr1.lt
  go_wp2_with fail
  refine (pick_any _ a n' cap' l' 0 8 (by omega) (by omega) (by omega) _ (hr1.below ((Below.refl _ _).alloc (Nat.le_refl _) _))).mono ?_
  rintro e w2 ⟨x, rfl, hx0, hx1, hr2, hg2⟩
  obtain ⟨m, rfl⟩ : ∃ m : Nat, x = m := ⟨x.toNat, by omega⟩
  have hB2 : Below w.heap.size w w2 := Below.grown (w := w1.alloc _) (hb1.alloc hb1.size _) hg2 (by have := hb1.size; simp; omega) (fun k hk => by cases hk; exact Nat.le_refl _)
  have ho2 : w2.ownsRow w1.heap.size 3 1 (.slice (some ⟨w1.heap.size, 0, none⟩) 0 0) 0 [] := (owns_empty w1 3).kept (row := some w.heap.size) hg2 (.inr (by simp [Value.ownBlock]; omega))
  have hs1 := hb1.size
  clear hb1 hg2 hr1
  go_wp2_with fail
  go_loopw [4, 6] (fun v c wr => ∃ (k : Nat) (L : List Int) (p' : Nat), k ≤ m ∧ c = .int .i64 k ∧ L.length = k ∧ p' ≤ 1 + 2 * k ∧ wr.ownsRow w1.heap.size 3 1 v L.length (ivs L) ∧ v ≠ .slice none 0 0 ∧ RdAt wr w.heap.size a n' cap' l' p' ∧ Below w.heap.size w wr) (fun _ c _ => m - (intOf c).toNat)
  case atStart => exact ⟨0, [], 1, by omega, rfl, rfl, by omega, ho2, by simp, hr2, hB2⟩
  case round =>
    clear ho2 hr2 hB2
    obtain ⟨k, L, p', hk, rfl, hL, hp', hown, hv, hr3, hB3⟩ := hrel
    by_cases hlt : k < m
    · have HV := Lib.hid hv
      clear hv
      go_wp2_with fail
      refine (l91Index_any _ a n' cap' l' p' (by omega) _ hr3).mono ?_
      rintro e w4 ⟨y, p'', rfl, hy0, hy1, hp'', hr4, hg4⟩
      have hB4 : Below w.heap.size w w4 := hB3.grown hg4 hB3.size (fun j hj => by cases hj; exact Nat.le_refl _)
      have ho4 : w4.ownsRow w1.heap.size 3 1 _ L.length (ivs L) := hown.kept (row := some w.heap.size) hg4 (.inr (fun e => by have := (hown.lt _ e).1; omega))
      have hs4 := hg4.size
      have hs3 := hB4.size
      have hw1 : w1.heap.size ≤ w4.heap.size := by
        obtain ⟨g, cap, hv, hg, hrow⟩ := Row.of_owns ho4 HV.out
        have := hrow.lt
        omega
      clear hown hr3 hB3 hg4
      go_wp2_with (at_builtin; refine wpList_append_own _ rfl _ _ 38 rfl w1.heap.size 3 i0 (.int .i64 0) 1 8 Try.underlying38 hi0 hz0 hz1 hz2 rfl (by decide) _ _ _ rfl (ho4.alloc _) ⟨_, 0, none⟩ 1 1 [.int .i64 y] rfl rfl (new_one _ _ _) one_of (by unfold maxLen; omega) (by omega) ?_ ?_)
      · simp
        omega
      · intro v' w5 ho hg hn
        have hr5 := own_rd hr4 ho4 hg (by omega) hA
        have hB5 : Below w.heap.size w w5 := below_own (B := w.heap.size) (a := w) (hB4.alloc (by omega) _) (ho4.alloc _) hg (by omega) (by simp; omega)
        have ho' : w5.ownsRow w1.heap.size 3 1 v' (L.length + 1) (ivs L ++ [.int .i64 y]) := by rw [hL]; exact ho
        have HO := Lib.hid (owns_app (l := L) (k := y) (w0 := w1) ho')
        have HN := Lib.hid hn
        clear hn hg ho4 ho ho' hr4 hB4
        go_wp2_with fail
        go_roundw
        case rel => exact ⟨k + 1, L ++ [y], p'', by omega, by go_num, by simp [hL], by omega, HO.out, fun h => by have hnn := HN.out; have hvv := HV.out; simp_all, hr5, hB5⟩
        case measure => simp [intOf]; omega
    · obtain rfl : k = m := by omega
      obtain ⟨g, cap, hg1, hg2, hg3⟩ := Row.of_owns hown hv
      subst hg1
      have HG := Lib.hid hg3
      clear hown hv hr3 hg3
      go_wp2_with fail
      go_ret
      exact ⟨g, cap, L, rfl, by omega, HG.out, hB3⟩

theorem owns_e1 {w : World} {t : TypeId} {k B : Nat} (hk : k = w.heap.size) (hB : B ≤ k) : (w.alloc (.cells #[] t)).ownsRow B t 1 (.slice (some ⟨k, 0, none⟩) 0 0) 0 [] := by
  subst hk
  exact World.ownsRow_made w #[] 0 hB (by unfold maxLen; omega) rfl
theorem live2a {W : World} {B : Nat} {A : Array Value} {x y : Obj} (h : ∀ o : Nat, W.cell? ⟨B, o, none⟩ = A[o]?) (hB : B < W.heap.size) : ∀ o : Nat, ((W.alloc x).alloc y).cell? ⟨B, o, none⟩ = A[o]? := live2 h hB (Below.refl _ _)
theorem owns_app' {w' : World} {B : Nat} {v' : Value} {l : List Int} {k : Int} (ho : w'.ownsRow B 3 1 v' (l.length + 1) (ivs l ++ [.int .i64 k])) :
    w'.ownsRow B 3 1 v' (l ++ [k]).length (ivs (l ++ [k])) := by
  rw [iv_snoc, List.length_append]
  exact ho
theorem rev_step {L : List Int} {m : Nat} (h : m < L.length) : (L.drop m).reverse = (L.drop (m + 1)).reverse ++ [L.getD m 0] := by
  rw [List.drop_eq_getElem_cons h, List.reverse_cons]
  simp [List.getD, List.getElem?_eq_getElem h]

end Go.Proofs.Ytogmfadeedmmaaa
