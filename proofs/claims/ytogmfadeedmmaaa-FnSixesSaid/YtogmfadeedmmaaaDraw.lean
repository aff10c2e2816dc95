/- Contracts of the reader of codes: how it is opened, and that it picks a number below its bound. Each holds for every code. -/
import Derived.Test.YtogmfadeedmmaaaArg
import Derived.WalkKit
import Derived.WalkSpells
import Derived.WalkLawsBesides
import Derived.BigQuiet
import Derived.Deep.QuietTactic
import Derived.Deep.Light
import Derived.Lib.Hide
namespace Go.Proofs.Ytogmfadeedmmaaa
open Go.RowKit
set_option linter.unusedSimpArgs false
set_option linter.unusedVariables false

/-- The reader in block R: the code of n bytes l, and the place p. -/
def RdAt (w : World) (R : Nat) (a : Option Addr) (n cap : Nat) (l : List Int) (p : Nat) : Prop :=
  w.heap[R]? = some (.cells #[.slice a n cap, .int .i64 (p : Int)] 71 (0, 0)) ∧ ArgRow .u8 w a n cap l ∧ n ≤ 2000 ∧ (0 < n → ∀ x, a = some x → x.block ≠ R)

theorem RdAt.c0 {w : World} {R : Nat} {a : Option Addr} {n cap : Nat} {l : List Int} {p : Nat} (h : RdAt w R a n cap l p) : w.cell? ⟨R, 0, none⟩ = some (.slice a n cap) := by
  rw [cell_of_row w R 0 _ _ (0, 0) h.1]; rfl
theorem RdAt.c1 {w : World} {R : Nat} {a : Option Addr} {n cap : Nat} {l : List Int} {p : Nat} (h : RdAt w R a n cap l p) : w.cell? ⟨R, 1, none⟩ = some (.int .i64 (p : Int)) := by
  rw [cell_of_row w R 1 _ _ (0, 0) h.1]; rfl
theorem RdAt.f1 {w : World} {R : Nat} {a : Option Addr} {n cap : Nat} {l : List Int} {p : Nat} (h : RdAt w R a n cap l p) (j : Nat) : w.frozen? ⟨R, j, none⟩ = false := by
  simp [World.frozen?, h.1]

theorem u8_bd {x : Int} (h : (Lit.int .u8 x).wf = true) : 0 ≤ x ∧ x ≤ 255 := by
  have h1 : IntKind.u8.min = 0 := rfl
  have h2 : IntKind.u8.max = 255 := rfl
  simp only [Lit.wf, Bool.and_eq_true, decide_eq_true_eq] at h
  omega

/-- One pick turns the reader's place alone. -/
theorem RdAt.next {w : World} {R : Nat} {a : Option Addr} {n cap : Nat} {l : List Int} {p : Nat} (h : RdAt w R a n cap l p) :
    RdAt (w.setCell ⟨R, 1, none⟩ (.int .i64 ((p : Int) + 1))) R a n cap l (p + 1) ∧ w.grownBy (w.setCell ⟨R, 1, none⟩ (.int .i64 ((p : Int) + 1))) (some R) := by
  obtain ⟨h1, ⟨g1, g2, g3, g4⟩, h3, h4⟩ := h
  refine ⟨⟨?_, ⟨g1, g2, g3, ?_⟩, h3, h4⟩, ⟨rfl, rfl, rfl, by simp [World.setCell], fun i _ hne => Below.heap_setCell w ⟨R, 1, none⟩ _ i (by rintro rfl; exact hne rfl)⟩⟩
  · simp [World.setCell, Array.getElem?_modify, h1]
  · by_cases hn0 : n = 0
    · exact .inl hn0
    rcases g4 with g4 | ⟨b, off, ha, hb, hc⟩
    · exact .inl g4
    · refine .inr ⟨b, off, ha, by simpa [World.setCell] using hb, fun j hj => ?_⟩
      rw [World.cell?_setCell_other _ _ _ _ (by intro e; have := h4 (by omega) _ ha; simp at e; exact this e.1.symm)]
      exact hc j hj

theorem drewN_rd {w : World} {R : Nat} {a : Option Addr} {n cap : Nat} {l : List Int} {p k : Nat} (h : RdAt w R a n cap l p) : RdAt (w.drewN k) R a n cap l p := h
theorem drewN_gr {w w' : World} {row : Option Nat} {k : Nat} (h : w.grownBy w' row) : w.grownBy (w'.drewN k) row := ⟨h.os, h.tape, h.output, h.size, h.block⟩

def Picked (m : Int) (R : Nat) (a : Option Addr) (n cap : Nat) (l : List Int) (p : Nat) (w : World) (e : Ending) (w' : World) : Prop :=
  ∃ x : Int, e = .returned (.int .i64 x) ∧ 0 ≤ x ∧ x < m ∧ RdAt w' R a n cap l (p + 1) ∧ w.grownBy w' (some R)

set_option maxHeartbeats 1000000 in
theorem pick_0 (R : Nat) (a : Option Addr) (cap : Nat) (l : List Int) (p : Nat) (m : Int) (hm : 1 ≤ m) (hm' : m ≤ 1000000) (hp : p ≤ 100000) (w : World) (h : RdAt w R a 0 cap l p) :
    Calls Try.prog 50 #[.pointer (some ⟨R, 0, none⟩), .int .i64 m] w (Picked m R a 0 cap l p w) := by
  have c0 := h.c0
  have c1 := h.c1
  have f1 := h.f1
  have H := Lib.hid h.next
  clear h
  go_enter Try.func50, Try.ntmps50
  go_wp2
  go_ret
  exact ⟨0, rfl, by omega, by omega, H.out.1, H.out.2⟩

set_option maxHeartbeats 1000000 in
theorem pick_1 (R b off n cap : Nat) (l : List Int) (p : Nat) (hlt : p < n) (m : Int) (hm : 1 ≤ m) (hm' : m ≤ 1000000) (hp : p ≤ 100000) (w : World) (h : RdAt w R (some ⟨b, off, none⟩) n cap l p) (hne : b ≠ R)
    (hc : w.cell? ⟨b, off + p, none⟩ = some (.int .u8 (l.getD p 0))) (hv : 0 ≤ l.getD p 0 ∧ l.getD p 0 ≤ 255) :
    Calls Try.prog 50 #[.pointer (some ⟨R, 0, none⟩), .int .i64 m] w (Picked m R (some ⟨b, off, none⟩) n cap l p w) := by
  have c0 := h.c0
  have c1 := h.c1
  have f1 := h.f1
  have hn2 := h.2.2.1
  have H := Lib.hid h.next
  clear h
  obtain ⟨v, hval⟩ : ∃ v, v = l.getD p 0 := ⟨_, rfl⟩
  rw [← hval] at hc hv
  clear hval
  obtain ⟨hv0, hv1⟩ := hv
  have hne' : ¬ (R = b) := fun e => hne e.symm
  have hd : decide (m < 1) = false := by simp; omega
  have hz : ((n : Int) == 0) = false := by simp; omega
  go_enter Try.func50, Try.ntmps50
  go_wp2
  go_ret
  exact ⟨v % m, rfl, Int.emod_nonneg _ (by omega), Int.emod_lt_of_pos _ (by omega), H.out.1, H.out.2⟩

theorem of64 (a : Nat) (ha : a < 9223372036854775808) : (BitVec.ofInt 64 (a : Int)).toNat = a := by
  rw [BitVec.ofInt_natCast, BitVec.toNat_ofNat]
  exact Nat.mod_eq_of_lt (by omega)
theorem xor_pos (a b : Nat) (ha : a < 1073741824) (hb : b < 1073741824) : 0 ≤ bits .xor .i64 (a : Int) (b : Int) := by
  have hx : a ^^^ b < 2 ^ 30 := Nat.xor_lt_two_pow (by omega) (by omega)
  show 0 ≤ IntKind.i64.wrap ((BitVec.ofInt 64 (a : Int) ^^^ BitVec.ofInt 64 (b : Int)).toNat : Int)
  rw [BitVec.toNat_xor, of64 a (by omega), of64 b (by omega), IntKind.wrap_i64]
  omega
theorem mix_ok (u v p q m : Int) (hu0 : 0 ≤ u) (hu1 : u ≤ 255) (hv0 : 0 ≤ v) (hv1 : v ≤ 255) (hp0 : 0 ≤ p) (hp : p ≤ 100000) (hq0 : 0 ≤ q) (hq : q ≤ 100000) (hm : 1 ≤ m) :
    0 ≤ (bits BinOp.xor IntKind.i64 (wrap64 (u * 131 + v * 1117 + p * 29 + wrap64 (wrap64 q * 53))) (wrap64 ((wrap64 (u * 131 + v * 1117 + p * 29 + wrap64 (wrap64 q * 53))).tdiv 64))).tmod m ∧
      (bits BinOp.xor IntKind.i64 (wrap64 (u * 131 + v * 1117 + p * 29 + wrap64 (wrap64 q * 53))) (wrap64 ((wrap64 (u * 131 + v * 1117 + p * 29 + wrap64 (wrap64 q * 53))).tdiv 64))).tmod m < m := by
  have e : wrap64 (u * 131 + v * 1117 + p * 29 + wrap64 (wrap64 q * 53)) = u * 131 + v * 1117 + p * 29 + q * 53 := by
    unfold wrap64
    omega
  rw [e]
  obtain ⟨z, hz⟩ : ∃ z : Nat, u * 131 + v * 1117 + p * 29 + q * 53 = (z : Int) := ⟨(u * 131 + v * 1117 + p * 29 + q * 53).toNat, by omega⟩
  rw [hz]
  have hzb : z < 1073741824 := by omega
  have e2 : wrap64 ((z : Int).tdiv 64) = ((z / 64 : Nat) : Int) := by
    rw [Int.tdiv_eq_ediv_of_nonneg (by omega)]
    unfold wrap64
    omega
  rw [e2]
  have h := xor_pos z (z / 64) hzb (by omega)
  exact ⟨Int.tmod_nonneg _ h, Int.tmod_lt_of_pos _ (by omega)⟩

set_option maxHeartbeats 2000000 in
theorem pick_2 (R b off n cap : Nat) (l : List Int) (p : Nat) (hn : 0 < n) (hge : n ≤ p) (m : Int) (hm : 1 ≤ m) (hm' : m ≤ 1000000) (hp : p ≤ 100000) (w : World) (h : RdAt w R (some ⟨b, off, none⟩) n cap l p) (hne : b ≠ R)
    (u v : Int) (hu0 : 0 ≤ u) (hu1 : u ≤ 255) (hv0 : 0 ≤ v) (hv1 : v ≤ 255)
    (hcu : w.cell? ⟨b, off + p % n, none⟩ = some (.int .u8 u)) (hcv : w.cell? ⟨b, off + (p * 7 + 3) % n, none⟩ = some (.int .u8 v)) :
    Calls Try.prog 50 #[.pointer (some ⟨R, 0, none⟩), .int .i64 m] w (Picked m R (some ⟨b, off, none⟩) n cap l p w) := by
  have c0 := h.c0
  have c1 := h.c1
  have f1 := h.f1
  have hn2 := h.2.2.1
  have H := Lib.hid h.next
  clear h
  have hne' : ¬ (R = b) := fun e => hne e.symm
  have hd : decide (m < 1) = false := by simp; omega
  have hz : ((n : Int) == 0) = false := by simp; omega
  have hz1 : ¬ n = 0 := by omega
  have hz2 : ¬ (n : Int) = 0 := by omega
  have hz3 : ¬ (n : Int) = -1 := by omega
  have ht1 : Int.tmod (p : Int) (n : Int) = (p : Int) % (n : Int) := Int.tmod_eq_emod_of_nonneg (by omega)
  have ht2 : Int.tmod ((p : Int) * 7 + 3) (n : Int) = ((p : Int) * 7 + 3) % (n : Int) := Int.tmod_eq_emod_of_nonneg (by omega)
  have g1 : 0 ≤ (p : Int) % (n : Int) := Int.emod_nonneg _ hz2
  have g2 : (p : Int) % (n : Int) < (n : Int) := Int.emod_lt_of_pos _ (by omega)
  have g3 : ((p : Int) % (n : Int)).toNat = p % n := by rw [← Int.natCast_emod]; rfl
  have g4 : 0 ≤ ((p : Int) * 7 + 3) % (n : Int) := Int.emod_nonneg _ hz2
  have g5 : ((p : Int) * 7 + 3) % (n : Int) < (n : Int) := Int.emod_lt_of_pos _ (by omega)
  have g6 : (((p : Int) * 7 + 3) % (n : Int)).toNat = (p * 7 + 3) % n := by
    have e : ((p : Int) * 7 + 3) % (n : Int) = (((p * 7 + 3) % n : Nat) : Int) := by rw [Int.natCast_emod]; rfl
    rw [e]; rfl
  have hw1 : IntKind.i64.wrap ((p : Int) * 7) = (p : Int) * 7 := IntWalk.i64_in _ (by omega)
  have hw2 : IntKind.i64.wrap ((p : Int) * 7 + 3) = (p : Int) * 7 + 3 := IntWalk.i64_in _ (by omega)
  have hq1 : p % n < n := Nat.mod_lt _ hn
  have hq2 : (p * 7 + 3) % n < n := Nat.mod_lt _ hn
  go_enter Try.func50, Try.ntmps50
  go_wp2
  go_quiet (fail)
  go_wp2
  go_ret
  have hq0 : 0 ≤ (p : Int) / (n : Int) := Int.ediv_nonneg (by omega) (by omega)
  have hq : (p : Int) / (n : Int) ≤ 100000 := Int.le_trans (Int.ediv_le_self _ (by omega)) (by omega)
  have M := mix_ok u v p ((p : Int) / (n : Int)) m hu0 hu1 hv0 hv1 (by omega) (by omega) hq0 hq hm
  exact ⟨_, rfl, M.1, M.2, drewN_rd H.out.1, drewN_gr H.out.2⟩

theorem pick_any (R : Nat) (a : Option Addr) (n cap : Nat) (l : List Int) (p : Nat) (m : Int) (hm : 1 ≤ m) (hm' : m ≤ 1000000) (hp : p ≤ 100000) (w : World) (h : RdAt w R a n cap l p) :
    Calls Try.prog 50 #[.pointer (some ⟨R, 0, none⟩), .int .i64 m] w (Picked m R a n cap l p w) := by
  obtain ⟨hl, hb, hw, hc⟩ := h.2.1
  rcases hc with rfl | ⟨b, off, rfl, hbl, hc⟩
  · exact pick_0 R a cap l p m hm hm' hp w h
  · by_cases hn : n = 0
    · subst hn
      exact pick_0 R _ cap l p m hm hm' hp w h
    have hv : ∀ j, j < n → 0 ≤ l.getD j 0 ∧ l.getD j 0 ≤ 255 := fun j hj => u8_bd (hw _ (by
      have hj' : j < l.length := by omega
      simp [List.getD, List.getElem?_eq_getElem hj']))
    have hne : b ≠ R := h.2.2.2 (by omega) _ rfl
    by_cases hlt : p < n
    · exact pick_1 R b off n cap l p hlt m hm hm' hp w h hne (hc p hlt) (hv p hlt)
    · have h1 : p % n < n := Nat.mod_lt _ (by omega)
      have h2 : (p * 7 + 3) % n < n := Nat.mod_lt _ (by omega)
      exact pick_2 R b off n cap l p (by omega) (by omega) m hm hm' hp w h hne _ _ (hv _ h1).1 (hv _ h1).2 (hv _ h2).1 (hv _ h2).2 (hc _ h1) (hc _ h2)

theorem ArgRow.below {k : IntKind} {w w' : World} {a : Option Addr} {n cap : Nat} {l : List Int} (h : ArgRow k w a n cap l) (hb : Below w.heap.size w w') : ArgRow k w' a n cap l := by
  obtain ⟨h1, h2, h3, h4⟩ := h
  refine ⟨h1, h2, h3, ?_⟩
  rcases h4 with h4 | ⟨b, off, ha, hbl, hc⟩
  · exact .inl h4
  · exact .inr ⟨b, off, ha, Nat.lt_of_lt_of_le hbl hb.size, fun j hj => (hb.cell (p := ⟨b, off + j, none⟩) hbl).trans (hc j hj)⟩
theorem ArgRow.cut {k : IntKind} {w : World} {a : Option Addr} {n cap : Nat} {l : List Int} (h : ArgRow k w a n cap l) (m : Nat) (hm : m ≤ n) : ArgRow k w a m cap (l.take m) := by
  obtain ⟨h1, h2, h3, h4⟩ := h
  refine ⟨by simp; omega, ⟨by omega, h2.2⟩, fun x hx => h3 x (List.mem_of_mem_take hx), ?_⟩
  rcases h4 with h4 | ⟨b, off, ha, hbl, hc⟩
  · exact .inl (by omega)
  · refine .inr ⟨b, off, ha, hbl, fun j hj => ?_⟩
    rw [hc j (by omega)]
    simp [List.getD, List.getElem?_take, hj]
theorem ArgRow.old {k : IntKind} {w : World} {a : Option Addr} {n cap : Nat} {l : List Int} (h : ArgRow k w a n cap l) (hn : 0 < n) : ∀ x, a = some x → x.block ≠ w.heap.size := by
  intro x hx
  rcases h.2.2.2 with h4 | ⟨b, off, ha, hbl, hc⟩
  · omega
  · rw [ha] at hx
    cases hx
    show b ≠ w.heap.size
    omega

/-- The reader, freshly opened. -/
theorem rd_new {w : World} {a : Option Addr} {n cap : Nat} {l : List Int} (h : ArgRow .u8 w a n cap l) (hn : n ≤ 2000) :
    RdAt (w.alloc (.cells #[.slice a n cap, .int .i64 0] 71)) w.heap.size a n cap l 0 :=
  ⟨alloc_at _ _ _ rfl, h.below ((Below.refl _ _).alloc (Nat.le_refl _) _), hn, fun hp => h.old hp⟩

theorem l6Open_any (a : Option Addr) (n cap : Nat) (l : List Int) (w : World) (h : ArgRow .u8 w a n cap l) :
    Calls Try.prog 49 #[.slice a n cap] w fun e w' => ∃ n' cap' l', e = .returned (.pointer (some ⟨w.heap.size, 0, none⟩)) ∧ RdAt w' w.heap.size a n' cap' l' 0 ∧ Below w.heap.size w w' := by
  have hcn := h.2.1.1
  have hcm := h.2.1.2
  unfold maxLen at hcm
  by_cases h2 : 2000 < n
  · have hcap : (2000 : Int) ≤ (cap : Int) := by omega
    have H := Lib.hid (rd_new (h.cut 2000 (by omega)) (Nat.le_refl _))
    clear h
    go_enter Try.func49, Try.ntmps49
    go_wp2
    go_ret
    exact ⟨2000, cap, _, rfl, H.out, by (repeat (first | (with_reducible exact Below.refl _ _) | (with_reducible refine bl_alloc ?_ ?_ _; focus (first | omega | (simp; done) | (simp; omega))) | (with_reducible refine bl_set ?_ ?_ _; focus (first | omega | (simp; done) | (simp; omega))) | (with_reducible refine Below.drew ?_) | (with_reducible refine below_drewN ?_ _) | (with_reducible refine below_step ?_ (by assumption))))⟩
  · have H := Lib.hid (rd_new h (by omega))
    clear h
    go_enter Try.func49, Try.ntmps49
    go_wp2
    go_ret
    exact ⟨n, cap, l, rfl, H.out, by (repeat (first | (with_reducible exact Below.refl _ _) | (with_reducible refine bl_alloc ?_ ?_ _; focus (first | omega | (simp; done) | (simp; omega))) | (with_reducible refine bl_set ?_ ?_ _; focus (first | omega | (simp; done) | (simp; omega))) | (with_reducible refine Below.drew ?_) | (with_reducible refine below_drewN ?_ _) | (with_reducible refine below_step ?_ (by assumption))))⟩

theorem RdAt.lt {w : World} {R : Nat} {a : Option Addr} {n cap : Nat} {l : List Int} {p : Nat} (h : RdAt w R a n cap l p) : R < w.heap.size := (Array.getElem?_eq_some_iff.1 h.1).1
theorem RdAt.below {w w' : World} {R : Nat} {a : Option Addr} {n cap : Nat} {l : List Int} {p : Nat} (h : RdAt w R a n cap l p) (hb : Below w.heap.size w w') : RdAt w' R a n cap l p :=
  ⟨(hb.block R h.lt).trans h.1, h.2.1.below hb, h.2.2.1, h.2.2.2⟩

theorem grown_trans {a b c : World} {R : Nat} (h : a.grownBy b (some R)) (k : b.grownBy c (some R)) : a.grownBy c (some R) :=
  ⟨k.os.trans h.os, k.tape.trans h.tape, k.output.trans h.output, Nat.le_trans h.size k.size, fun i hi hne => (k.block i (Nat.lt_of_lt_of_le hi h.size) hne).trans (h.block i hi hne)⟩
theorem grown_below {a b c : World} {row : Option Nat} (h : a.grownBy b row) (k : Below b.heap.size b c) : a.grownBy c row :=
  ⟨k.os.trans h.os, k.tape.trans h.tape, k.output.trans h.output, Nat.le_trans h.size k.size, fun i hi hne => (k.block i (Nat.lt_of_lt_of_le hi h.size)).trans (h.block i hi hne)⟩

def Drew (P : Int → Prop) (w : World) (e : Ending) (w' : World) : Prop := ∃ x : Int, e = .returned (.int .i64 x) ∧ P x ∧ Below w.heap.size w w'

/-- An index that is drawn: 0 to 26, or -1, or 27; the reader goes on two or three places. -/
def Indexed (R : Nat) (a : Option Addr) (n cap : Nat) (l : List Int) (p : Nat) (w : World) (e : Ending) (w' : World) : Prop :=
  ∃ (x : Int) (p' : Nat), e = .returned (.int .i64 x) ∧ -1 ≤ x ∧ x ≤ 27 ∧ p' ≤ p + 2 ∧ RdAt w' R a n cap l p' ∧ w.grownBy w' (some R)

set_option maxHeartbeats 1000000 in
theorem l91Index_any (R : Nat) (a : Option Addr) (n cap : Nat) (l : List Int) (p : Nat) (hp : p ≤ 90000) (w : World) (h : RdAt w R a n cap l p) :
    Calls Try.prog 57 #[.pointer (some ⟨R, 0, none⟩)] w (Indexed R a n cap l p w) := by
  go_enter Try.func57, Try.ntmps57
  go_wp2_with fail
  refine (pick_any R a n cap l p 20 (by omega) (by omega) (by omega) _ h).mono ?_
  rintro e w1 ⟨x, rfl, hx0, hx1, hr1, hg1⟩
  by_cases hx : x = 0
  · subst hx
    have hlt := hr1.lt
    go_wp2_with fail
    refine (pick_any R a n cap l (p + 1) 2 (by omega) (by omega) (by omega) _ (hr1.below ((Below.refl _ _).alloc (Nat.le_refl _) _))).mono ?_
    rintro e w2 ⟨y, rfl, hy0, hy1, hr2, hg2⟩
    have hc0 : w2.cell? ⟨w1.heap.size, 0, none⟩ = some (.int .i64 (-1)) := hg2.cell (by simp) (by simp; omega)
    have hc1 : w2.cell? ⟨w1.heap.size, 1, none⟩ = some (.int .i64 27) := hg2.cell (by simp) (by simp; omega)
    have hgg : w.grownBy w2 (some R) := grown_trans (grown_below hg1 ((Below.refl _ _).alloc (Nat.le_refl _) _)) hg2
    have hy : y = 0 ∨ y = 1 := by omega
    rcases hy with rfl | rfl
    · go_wp2_with fail
      go_ret
      exact ⟨-1, p + 2, rfl, by omega, by omega, by omega, hr2, hgg⟩
    · go_wp2_with fail
      go_ret
      exact ⟨27, p + 2, rfl, by omega, by omega, by omega, hr2, hgg⟩
  · have hx' : (x == 0) = false := by simpa using hx
    clear hx
    go_wp2_with fail
    refine (pick_any R a n cap l (p + 1) 27 (by omega) (by omega) (by omega) _ hr1).mono ?_
    rintro e w2 ⟨y, rfl, hy0, hy1, hr2, hg2⟩
    go_wp2_with fail
    go_ret
    exact ⟨y, p + 2, rfl, by omega, by omega, by omega, hr2, grown_trans hg1 hg2⟩

theorem drawClassOf_any (a : Option Addr) (n cap : Nat) (l : List Int) (w : World) (h : ArgRow .u8 w a n cap l) :
    Calls Try.prog 18 #[.slice a n cap] w (Drew (fun x => -1 ≤ x ∧ x ≤ 27) w) := by
  go_enter Try.func18, Try.ntmps18
  go_wp2_with fail
  refine (l6Open_any a n cap l _ h).mono ?_
  rintro e w1 ⟨n', cap', l', rfl, hr1, hb1⟩
  go_wp2_with fail
  refine (l91Index_any _ a n' cap' l' 0 (by omega) _ hr1).mono ?_
  rintro e w2 ⟨x, p', rfl, hx0, hx1, _, hr2, hg2⟩
  go_wp2_with fail
  go_ret
  exact ⟨x, rfl, ⟨hx0, hx1⟩, hb1.grown hg2 hb1.size (fun k hk => by cases hk; omega)⟩

theorem drawLineMeeting_any (a : Option Addr) (n cap : Nat) (l : List Int) (w : World) (h : ArgRow .u8 w a n cap l) :
    Calls Try.prog 28 #[.slice a n cap] w (Drew (fun x => -1 ≤ x ∧ x ≤ 27) w) := by
  go_enter Try.func28, Try.ntmps28
  go_wp2_with fail
  refine (l6Open_any a n cap l _ h).mono ?_
  rintro e w1 ⟨n', cap', l', rfl, hr1, hb1⟩
  go_wp2_with fail
  refine (l91Index_any _ a n' cap' l' 0 (by omega) _ hr1).mono ?_
  rintro e w2 ⟨x, p', rfl, hx0, hx1, _, hr2, hg2⟩
  go_wp2_with fail
  go_ret
  exact ⟨x, rfl, ⟨hx0, hx1⟩, hb1.grown hg2 hb1.size (fun k hk => by cases hk; omega)⟩

theorem drawLineSixes_any (a : Option Addr) (n cap : Nat) (l : List Int) (w : World) (h : ArgRow .u8 w a n cap l) :
    Calls Try.prog 46 #[.slice a n cap] w (Drew (fun x => -1 ≤ x ∧ x ≤ 27) w) := by
  go_enter Try.func46, Try.ntmps46
  go_wp2_with fail
  refine (l6Open_any a n cap l _ h).mono ?_
  rintro e w1 ⟨n', cap', l', rfl, hr1, hb1⟩
  go_wp2_with fail
  refine (l91Index_any _ a n' cap' l' 0 (by omega) _ hr1).mono ?_
  rintro e w2 ⟨x, p', rfl, hx0, hx1, _, hr2, hg2⟩
  go_wp2_with fail
  go_ret
  exact ⟨x, rfl, ⟨hx0, hx1⟩, hb1.grown hg2 hb1.size (fun k hk => by cases hk; omega)⟩

def DrewTwo (P : Int → Int → Prop) (w : World) (e : Ending) (w' : World) : Prop := ∃ x y : Int, e = .returned (.tuple #[.int .i64 x, .int .i64 y]) ∧ P x y ∧ Below w.heap.size w w'

theorem l91Lines_any (a : Option Addr) (n cap : Nat) (l : List Int) (w : World) (h : ArgRow .u8 w a n cap l) :
    Calls Try.prog 61 #[.slice a n cap] w (DrewTwo (fun x y => (-1 ≤ x ∧ x ≤ 27) ∧ (-1 ≤ y ∧ y ≤ 27)) w) := by
  go_enter Try.func61, Try.ntmps61
  go_wp2_with fail
  refine (l6Open_any a n cap l _ h).mono ?_
  rintro e w1 ⟨n', cap', l', rfl, hr1, hb1⟩
  go_wp2_with fail
  refine (l91Index_any _ a n' cap' l' 0 (by omega) _ hr1).mono ?_
  rintro e w2 ⟨x, p', rfl, hx0, hx1, hp', hr2, hg2⟩
  go_wp2_with fail
  refine (l91Index_any _ a n' cap' l' p' (by omega) _ hr2).mono ?_
  rintro e w3 ⟨y, p'', rfl, hy0, hy1, hp'', hr3, hg3⟩
  go_wp2_with fail
  go_ret2
  exact ⟨x, y, rfl, ⟨⟨hx0, hx1⟩, ⟨hy0, hy1⟩⟩, hb1.grown (grown_trans hg2 hg3) hb1.size (fun k hk => by cases hk; omega)⟩

theorem drawLineMeets_any (a : Option Addr) (n cap : Nat) (l : List Int) (w : World) (h : ArgRow .u8 w a n cap l) :
    Calls Try.prog 22 #[.slice a n cap] w (DrewTwo (fun x y => (-1 ≤ x ∧ x ≤ 27) ∧ (-1 ≤ y ∧ y ≤ 27)) w) := by
  go_enter Try.func22, Try.ntmps22
  go_wp2_with fail
  refine (l91Lines_any a n cap l _ h).mono ?_
  rintro e w1 ⟨x, y, rfl, hxy, hb1⟩
  go_wp2_with fail
  go_ret2
  exact ⟨x, y, rfl, hxy, hb1⟩

theorem drawLineCommon_any (a : Option Addr) (n cap : Nat) (l : List Int) (w : World) (h : ArgRow .u8 w a n cap l) :
    Calls Try.prog 25 #[.slice a n cap] w (DrewTwo (fun x y => (-1 ≤ x ∧ x ≤ 27) ∧ (-1 ≤ y ∧ y ≤ 27)) w) := by
  go_enter Try.func25, Try.ntmps25
  go_wp2_with fail
  refine (l91Lines_any a n cap l _ h).mono ?_
  rintro e w1 ⟨x, y, rfl, hxy, hb1⟩
  go_wp2_with fail
  go_ret2
  exact ⟨x, y, rfl, hxy, hb1⟩

theorem drawRootSimple_any (a : Option Addr) (n cap : Nat) (l : List Int) (w : World) (h : ArgRow .u8 w a n cap l) :
    Calls Try.prog 13 #[.slice a n cap] w (Drew (fun x => -1 ≤ x ∧ x ≤ 6) w) := by
  go_enter Try.func13, Try.ntmps13
  go_wp2_with fail
  refine (l6Open_any a n cap l _ h).mono ?_
  rintro e w1 ⟨n', cap', l', rfl, hr1, hb1⟩
  go_wp2_with fail
  refine (pick_any _ a n' cap' l' 0 8 (by omega) (by omega) (by omega) _ hr1).mono ?_
  rintro e w2 ⟨x, rfl, hx0, hx1, hr2, hg2⟩
  go_wp2_with fail
  go_ret
  exact ⟨x - 1, rfl, ⟨by omega, by omega⟩, hb1.grown hg2 hb1.size (fun k hk => by cases hk; omega)⟩

theorem drawLinePlanes_any (a : Option Addr) (n cap : Nat) (l : List Int) (w : World) (h : ArgRow .u8 w a n cap l) :
    Calls Try.prog 36 #[.slice a n cap] w (Drew (fun x => -1 ≤ x ∧ x ≤ 27) w) := by
  go_enter Try.func36, Try.ntmps36
  go_wp2_with fail
  refine (l6Open_any a n cap l _ h).mono ?_
  rintro e w1 ⟨n', cap', l', rfl, hr1, hb1⟩
  go_wp2_with fail
  refine (pick_any _ a n' cap' l' 0 29 (by omega) (by omega) (by omega) _ hr1).mono ?_
  rintro e w2 ⟨x, rfl, hx0, hx1, hr2, hg2⟩
  go_wp2_with fail
  go_ret
  exact ⟨x - 1, rfl, ⟨by omega, by omega⟩, hb1.grown hg2 hb1.size (fun k hk => by cases hk; omega)⟩

end Go.Proofs.Ytogmfadeedmmaaa
