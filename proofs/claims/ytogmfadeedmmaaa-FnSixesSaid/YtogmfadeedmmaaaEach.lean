/- Contracts of the closures of eachSkew and LineSixes, and of the search with them; boxes in memory. Each holds for every list, in whatever memory. -/
import Derived.Test.YtogmfadeedmmaaaGrowS
import Derived.Test.YtogmfadeedmmaaaHas
import Derived.Deep.RegionHeld3
namespace Go.Proofs.Ytogmfadeedmmaaa
open Go.RowKit
set_option linter.unusedSimpArgs false
set_option linter.unusedVariables false

theorem skw1_any (x k : Nat) (hx : x < 27) (hk : k < 27) (b : Nat) (w : World) (hc : w.cell? ⟨b, 0, none⟩ = some (.int .i64 (k : Int))) :
    Calls Try.prog 88 #[.int .i64 (x : Int), .pointer (some ⟨b, 0, none⟩)] w fun e w' => e = .returned (.bool (mtB x k)) ∧ Below w.heap.size w w' := by
  go_enter Try.func88, Try.ntmps88
  go_wp2_with (go_at_call 62; ((with_reducible refine (meets_any _ _ hx hk _).mono ?_); rintro e w' ⟨rfl, hb⟩; have hbz := hb.size; (try simp only [World.size_alloc, World.size_drew, World.size_setCell] at hbz); (try (have k0 := fun (o : Nat) => hb.cell (p := ⟨w.heap.size, o, none⟩) (by first | (simp; done) | (simp; omega) | omega))); (try (have k1 := fun (o : Nat) => hb.cell (p := ⟨w.heap.size + 1, o, none⟩) (by first | (simp; done) | (simp; omega) | omega))); (try (have k2 := fun (o : Nat) => hb.cell (p := ⟨w.heap.size + 1 + 1, o, none⟩) (by first | (simp; done) | (simp; omega) | omega))); (try (have k3 := fun (o : Nat) => hb.cell (p := ⟨w.heap.size + 1 + 1 + 1, o, none⟩) (by first | (simp; done) | (simp; omega) | omega))); (try (have k4 := fun (o : Nat) => hb.cell (p := ⟨w.heap.size + 1 + 1 + 1 + 1, o, none⟩) (by first | (simp; done) | (simp; omega) | omega))); (try (have k5 := fun (o : Nat) => hb.cell (p := ⟨w.heap.size + 1 + 1 + 1 + 1 + 1, o, none⟩) (by first | (simp; done) | (simp; omega) | omega))); (try (have f0 := fun (o : Nat) => hb.frozen (p := ⟨w.heap.size, o, none⟩) (by first | (simp; done) | (simp; omega) | omega))); (try (have f1 := fun (o : Nat) => hb.frozen (p := ⟨w.heap.size + 1, o, none⟩) (by first | (simp; done) | (simp; omega) | omega))); (try (have f2 := fun (o : Nat) => hb.frozen (p := ⟨w.heap.size + 1 + 1, o, none⟩) (by first | (simp; done) | (simp; omega) | omega))); (try (have f3 := fun (o : Nat) => hb.frozen (p := ⟨w.heap.size + 1 + 1 + 1, o, none⟩) (by first | (simp; done) | (simp; omega) | omega))); (try (have f4 := fun (o : Nat) => hb.frozen (p := ⟨w.heap.size + 1 + 1 + 1 + 1, o, none⟩) (by first | (simp; done) | (simp; omega) | omega))); (try (have f5 := fun (o : Nat) => hb.frozen (p := ⟨w.heap.size + 1 + 1 + 1 + 1 + 1, o, none⟩) (by first | (simp; done) | (simp; omega) | omega)))))
  go_ret
  exact ⟨rfl, by (repeat (first | (with_reducible exact Below.refl _ _) | (with_reducible refine bl_alloc ?_ ?_ _; focus (first | omega | (simp; done) | (simp; omega))) | (with_reducible refine bl_set ?_ ?_ _; focus (first | omega | (simp; done) | (simp; omega))) | (with_reducible refine Below.drew ?_) | (with_reducible refine below_drewN ?_ _) | (with_reducible refine below_step ?_ (by assumption))))⟩

set_option maxHeartbeats 1000000 in
theorem indexSk_any (a : Option Addr) (n cap : Nat) (l : List Int) (k : Nat) (hk : k < 27) (b : Nat) (hn : n ≤ l.length) (hl : l.length ≤ 6) (hg : ∀ i, i < n → lineN (l.getD i 0) = true) (w : World) (h : Rd w a l) (hbw : b < w.heap.size) (hc : w.cell? ⟨b, 0, none⟩ = some (.int .i64 (k : Int))) :
    Calls Try.prog 87 #[.slice a n cap, .func (.func 88) #[] #[.pointer (some ⟨b, 0, none⟩)]] w fun e w' => ∃ i : Int, e = .returned (.int .i64 i) ∧ decide (0 ≤ i) = !skewTo l k n ∧ Below w.heap.size w w' := by
  have HR := Lib.hid h
  have HC := Lib.hid hc
  have HG := Lib.hid hg
  clear h hc hg
  go_enter Try.func87, Try.ntmps87
  go_wp2_with fail
  go_loopw [8] (fun c wr => ∃ j : Nat, j ≤ n ∧ c = .int .i64 j ∧ skewTo l k j = true ∧ Below w.heap.size w wr) (fun c _ => n - (intOf c).toNat)
  case atStart => exact ⟨0, by omega, rfl, rfl, Below.refl _ _⟩
  case round =>
    obtain ⟨j, hj, rfl, hin, hb0⟩ := hrel
    by_cases hlt : j < n
    · rcases HR.out.below hb0 with h0 | ⟨b', off, rfl, hbl, hcc⟩
      · omega
      · have c0 := hcc j (by omega)
        obtain ⟨hx, hxe⟩ := lineN_nat (HG.out j hlt)
        rw [← hxe] at c0
        have b1 : (0 : Int) ≤ (j : Int) := by omega
        have b2 : (j : Int) < (n : Int) := by omega
        have hcr : wr.cell? ⟨b, 0, none⟩ = some (.int .i64 (k : Int)) := (hb0.cell (p := ⟨b, 0, none⟩) hbw).trans HC.out
        have K := Lib.hid (fun (W : World) (h : W.cell? ⟨b, 0, none⟩ = some (.int .i64 (k : Int))) => skw1_any (l.getD j 0).toNat k hx hk b W h)
        have HCR := Lib.hid hcr
        have hst : skewTo l k (j + 1) = !mtB (l.getD j 0).toNat k := by simp [skewTo, hin, ln]
        have hsk : ∀ m, j + 1 ≤ m → skewTo l k (j + 1) = false → skewTo l k m = false := by
          intro m hm hf
          induction m with
          | zero => omega
          | succ m ih =>
            by_cases e : j + 1 = m + 1
            · rw [← e]; exact hf
            · simp only [skewTo, ih (by omega), Bool.false_and]
        have HST := Lib.hid hst
        have HSK := Lib.hid hsk
        generalize (l.getD j 0).toNat = x at c0 K HST
        clear hcc hin hxe hx hcr hst hsk
        go_wp2_with fail
        refine (K.out _ HCR.out).mono ?_
        rintro e w1 ⟨rfl, hb1⟩
        have hB1 := below_step hb0 hb1
        clear hb1
        cases hm : mtB x k
        · go_wp2_with fail
          go_roundw
          case rel => exact ⟨j + 1, by omega, by go_num, by rw [HST.out, hm]; rfl, hB1⟩
          case measure => ((simp [intOf]) <;> omega)
        · go_wp2_with fail
          go_ret
          exact ⟨j, rfl, by rw [HSK.out n (by omega) (by rw [HST.out, hm]; rfl)]; simp, hB1⟩
    · obtain rfl : j = n := by omega
      have HIN := Lib.hid hin
      clear hin
      go_wp2_with fail
      go_ret
      exact ⟨-1, rfl, by rw [HIN.out]; simp, hb0⟩

theorem containsSk_any (a : Option Addr) (n cap : Nat) (l : List Int) (k : Nat) (hk : k < 27) (b : Nat) (hn : n ≤ l.length) (hl : l.length ≤ 6) (hg : ∀ i, i < n → lineN (l.getD i 0) = true) (w : World) (h : Rd w a l) (hbw : b < w.heap.size) (hc : w.cell? ⟨b, 0, none⟩ = some (.int .i64 (k : Int))) :
    Calls Try.prog 76 #[.slice a n cap, .func (.func 88) #[] #[.pointer (some ⟨b, 0, none⟩)]] w fun e w' => e = .returned (.bool (!skewTo l k n)) ∧ Below w.heap.size w w' := by
  have K := Lib.hid (indexSk_any a n cap l k hk b hn hl hg w h hbw hc)
  clear hg h hc
  go_enter Try.func76, Try.ntmps76
  go_wp2_with fail
  refine K.out.mono ?_
  rintro e w1 ⟨i, rfl, hi, hb⟩
  have HI := Lib.hid hi
  clear hi
  go_wp2_with fail
  go_ret
  exact ⟨ret_bool HI.out, hb⟩

/-- A box with a number; a box with a row of rows. -/
def BoxI (w : World) (b : Nat) (k : Int) : Prop := w.heap[b]? = some (.cells #[.int .i64 k] 3 (0, 0))
def BoxS (w : World) (b : Nat) (v : Value) : Prop := w.heap[b]? = some (.cells #[v] 45 (0, 0))
theorem BoxI.lt {w : World} {b : Nat} {k : Int} (h : BoxI w b k) : b < w.heap.size := (Array.getElem?_eq_some_iff.1 h).1
theorem BoxS.lt {w : World} {b : Nat} {v : Value} (h : BoxS w b v) : b < w.heap.size := (Array.getElem?_eq_some_iff.1 h).1
theorem BoxI.kept {w w' : World} {b : Nat} {k : Int} (h : BoxI w b k) (he : w'.heap[b]? = w.heap[b]?) : BoxI w' b k := he.trans h
theorem BoxS.kept {w w' : World} {b : Nat} {v : Value} (h : BoxS w b v) (he : w'.heap[b]? = w.heap[b]?) : BoxS w' b v := he.trans h
theorem BoxI.below {w w' : World} {b : Nat} {k : Int} (h : BoxI w b k) (hb : Below w.heap.size w w') : BoxI w' b k := h.kept (hb.block b h.lt)
theorem BoxS.below {w w' : World} {b : Nat} {v : Value} (h : BoxS w b v) (hb : Below w.heap.size w w') : BoxS w' b v := h.kept (hb.block b h.lt)
theorem BoxI.c {w : World} {b : Nat} {k : Int} (h : BoxI w b k) : w.cell? ⟨b, 0, none⟩ = some (.int .i64 k) := by
  rw [cell_of_row w b 0 _ _ (0, 0) h]
  rfl
theorem BoxS.c {w : World} {b : Nat} {v : Value} (h : BoxS w b v) : w.cell? ⟨b, 0, none⟩ = some v := by
  rw [cell_of_row w b 0 _ _ (0, 0) h]
  rfl
theorem BoxI.f {w : World} {b : Nat} {k : Int} (h : BoxI w b k) : w.frozen? ⟨b, 0, none⟩ = false := by
  have h' : w.heap[b]? = some (.cells #[.int .i64 k] 3 (0, 0)) := h
  simp [World.frozen?, h']
theorem BoxS.f {w : World} {b : Nat} {v : Value} (h : BoxS w b v) : w.frozen? ⟨b, 0, none⟩ = false := by
  have h' : w.heap[b]? = some (.cells #[v] 45 (0, 0)) := h
  simp [World.frozen?, h']
theorem BoxI.put {w : World} {b : Nat} {k n : Int} (h : BoxI w b k) : BoxI (w.setCell ⟨b, 0, none⟩ (.int .i64 n)) b n := by
  have h' : w.heap[b]? = some (.cells #[.int .i64 k] 3 (0, 0)) := h
  show (w.setCell ⟨b, 0, none⟩ (.int .i64 n)).heap[b]? = _
  simp [World.setCell, Array.getElem?_modify, h']
theorem BoxS.put {w : World} {b : Nat} {v v' : Value} (h : BoxS w b v) : BoxS (w.setCell ⟨b, 0, none⟩ v') b v' := by
  have h' : w.heap[b]? = some (.cells #[v] 45 (0, 0)) := h
  show (w.setCell ⟨b, 0, none⟩ v').heap[b]? = _
  simp [World.setCell, Array.getElem?_modify, h']
theorem BoxS.ne_i {w : World} {b c : Nat} {v : Value} {k : Int} (h : BoxS w b v) (h' : BoxI w c k) : b ≠ c := by
  rintro rfl
  have h1 : w.heap[b]? = some (.cells #[v] 45 (0, 0)) := h
  have h2 : w.heap[b]? = some (.cells #[.int .i64 k] 3 (0, 0)) := h'
  rw [h1] at h2
  simp at h2
theorem BoxS.ne_row {w : World} {b g : Nat} {v : Value} {l : List Int} (h : BoxS w b v) (h' : Row w g l) : b ≠ g := by
  rintro rfl
  have h1 : w.heap[b]? = some (.cells #[v] 45 (0, 0)) := h
  obtain ⟨cur, hc, _⟩ := h'
  rw [h1] at hc
  simp at hc
theorem BoxS.ne_own {w : World} {b B : Nat} {v u : Value} {xs : List Sv} (h : BoxS w b v) (ho : OwnS w B u xs) : u.ownBlock ≠ some b := by
  intro hg
  obtain ⟨cur, hc⟩ := own_block_of ho.1 hg
  have h1 : w.heap[b]? = some (.cells #[v] 45 (0, 0)) := h
  rw [h1] at hc
  simp at hc
theorem BoxI.ne_own {w : World} {b B : Nat} {k : Int} {u : Value} {xs : List Sv} (h : BoxI w b k) (ho : OwnS w B u xs) : u.ownBlock ≠ some b := by
  intro hg
  obtain ⟨cur, hc⟩ := own_block_of ho.1 hg
  have h1 : w.heap[b]? = some (.cells #[.int .i64 k] 3 (0, 0)) := h
  rw [h1] at hc
  simp at hc
theorem BoxI.ne_row {w : World} {b g : Nat} {k : Int} {l : List Int} (h : BoxI w b k) (h' : Row w g l) (hl : 2 ≤ l.length) : b ≠ g := by
  rintro rfl
  have h1 : w.heap[b]? = some (.cells #[.int .i64 k] 3 (0, 0)) := h
  obtain ⟨cur, hc, _, hs⟩ := h'.size
  rw [h1] at hc
  simp only [Option.some.injEq, Obj.cells.injEq] at hc
  rw [← hc.1] at hs
  simp at hs
  omega

/-- All but a box and a row lies as it lay. -/
structure GrB (w w' : World) (b : Nat) (row : Option Nat) : Prop where
  os : w'.os = w.os
  tape : w'.tape = w.tape
  output : w'.output = w.output
  size : w.heap.size ≤ w'.heap.size
  block : ∀ i, i < w.heap.size → i ≠ b → some i ≠ row → w'.heap[i]? = w.heap[i]?
theorem GrB.refl (w : World) (b : Nat) (row : Option Nat) : GrB w w b row := ⟨rfl, rfl, rfl, Nat.le_refl _, fun _ _ _ _ => rfl⟩
theorem GrB.below {w w1 w' : World} {b : Nat} {row : Option Nat} (h : GrB w w1 b row) (hb : Below w1.heap.size w1 w') : GrB w w' b row :=
  ⟨hb.os.trans h.os, hb.tape.trans h.tape, hb.output.trans h.output, Nat.le_trans h.size hb.size, fun i hi h1 h2 => (hb.block i (Nat.lt_of_lt_of_le hi h.size)).trans (h.block i hi h1 h2)⟩
theorem GrB.next {w w1 w' : World} {b : Nat} {v v' : Value} (h : GrB w w1 b v.ownBlock) (hv : FreshOr w.heap.size v v') (k : GrB w1 w' b v'.ownBlock) : GrB w w' b v.ownBlock :=
  ⟨k.os.trans h.os, k.tape.trans h.tape, k.output.trans h.output, Nat.le_trans h.size k.size, fun i hi h1 h2 => (k.block i (Nat.lt_of_lt_of_le hi h.size) h1 (by
    rcases hv with e | ⟨q, e, hq⟩
    · rw [e]; exact h2
    · rw [e]; simp; omega)).trans (h.block i hi h1 h2)⟩
theorem GrB.grown {w w1 w' : World} {b : Nat} {v v' : Value} (h : GrB w w1 b v.ownBlock) (hv : FreshOr w.heap.size v v') (k : w1.grownBy w' v'.ownBlock) : GrB w w' b v.ownBlock :=
  h.next hv ⟨k.os, k.tape, k.output, k.size, fun i hi _ h2 => k.block i hi h2⟩
theorem GrB.set {w w1 : World} {b c : Nat} {row : Option Nat} (h : GrB w w1 b row) (v : Value) (hc : c = b ∨ w.heap.size ≤ c) : GrB w (w1.setCell ⟨c, 0, none⟩ v) b row :=
  ⟨h.os, h.tape, h.output, by have := h.size; simpa using this, fun i hi h1 h2 => (Below.heap_setCell w1 ⟨c, 0, none⟩ v i (by rcases hc with e | e <;> first | (rw [e]; exact h1) | (show i ≠ c; omega))).trans (h.block i hi h1 h2)⟩
theorem GrB.row {w w' : World} {b g B : Nat} {v u : Value} {xs : List Sv} {l : List Int} (h : GrB w w' b v.ownBlock) (hb : BoxS w b u) (ho : OwnS w B v xs) (hr : Row w g l) : Row w' g l :=
  hr.kept (h.block g hr.lt (fun e => hb.ne_row hr e.symm) (fun e => own_not_row ho.1 hr e.symm))
theorem GrB.boxI {w w' : World} {b c B : Nat} {v u : Value} {xs : List Sv} {k : Int} (h : GrB w w' b v.ownBlock) (hb : BoxS w b u) (ho : OwnS w B v xs) (hr : BoxI w c k) : BoxI w' c k :=
  hr.kept (h.block c hr.lt (fun e => hb.ne_i hr e.symm) (fun e => hr.ne_own ho e.symm))

/-- The box b holds a row of rows that has grown by L since w. -/
def SkSt (w wr : World) (B b : Nat) (v : Value) (xs : List Sv) (L : List (List Int)) : Prop :=
  ∃ (v' : Value) (ys : List Sv), lls ys = L ∧ BoxS wr b v' ∧ OwnS wr B v' (xs ++ ys) ∧ GrB w wr b v.ownBlock ∧ FreshOr w.heap.size v v' ∧ Caps ys
theorem SkSt.start {w : World} {B b : Nat} {v : Value} {xs : List Sv} (h : OwnS w B v xs) (hb : BoxS w b v) : SkSt w w B b v xs [] := ⟨v, [], rfl, hb, by rw [List.append_nil]; exact h, GrB.refl _ _ _, .inl rfl, Caps.nil⟩
theorem SkSt.below {w wr w' : World} {B b : Nat} {v : Value} {xs : List Sv} {L : List (List Int)} (h : SkSt w wr B b v xs L) (hb : Below wr.heap.size wr w') : SkSt w w' B b v xs L := by
  obtain ⟨v', ys, h1, h2, h3, h4, h5⟩ := h
  exact ⟨v', ys, h1, h2.below hb, h3.below hb, h4.below hb, h5⟩
theorem SkSt.next {w wr w' : World} {B b : Nat} {v v' : Value} {xs ys : List Sv} {L M : List (List Int)} (h1 : lls ys = L) (h4 : GrB w wr b v.ownBlock) (h5 : FreshOr w.heap.size v v') (h6 : Caps ys) (k : SkSt wr w' B b v' (xs ++ ys) M) : SkSt w w' B b v xs (L ++ M) := by
  obtain ⟨v2, zs, k1, k2, k3, k4, k5, k6⟩ := k
  exact ⟨v2, ys ++ zs, by rw [← h1, ← k1]; simp [lls], k2, by rw [← List.append_assoc]; exact k3, h4.next h5 k4, h5.trans k5 h4.size, h6.app k6⟩
theorem SkSt.size {w wr : World} {B b : Nat} {v : Value} {xs : List Sv} {L : List (List Int)} (h : SkSt w wr B b v xs L) : w.heap.size ≤ wr.heap.size := by
  obtain ⟨v', ys, h1, h2, h3, h4, h5⟩ := h
  exact h4.size
theorem SkSt.row {w wr : World} {B b g : Nat} {v : Value} {xs : List Sv} {L : List (List Int)} {l : List Int} (h : SkSt w wr B b v xs L) (ho : OwnS w B v xs) (hb : BoxS w b v) (hr : Row w g l) : Row wr g l := by
  obtain ⟨v', ys, h1, h2, h3, h4, h5⟩ := h
  exact h4.row hb ho hr
theorem SkSt.boxI {w wr : World} {B b c : Nat} {v : Value} {xs : List Sv} {L : List (List Int)} {k : Int} (h : SkSt w wr B b v xs L) (ho : OwnS w B v xs) (hb : BoxS w b v) (hr : BoxI w c k) : BoxI wr c k := by
  obtain ⟨v', ys, h1, h2, h3, h4, h5⟩ := h
  exact h4.boxI hb ho hr
/-- A store into a box of a number. -/
theorem OwnS.setI {w : World} {B c : Nat} {v : Value} {xs : List Sv} {k : Int} (h : OwnS w B v xs) (hc : BoxI w c k) (h6 : ∀ x ∈ xs, x.l.length = 6) (u : Value) : OwnS (w.setCell ⟨c, 0, none⟩ u) B v xs := by
  have hk : ∀ i, i ≠ c → (w.setCell ⟨c, 0, none⟩ u).heap[i]? = w.heap[i]? := fun i hi => Below.heap_setCell w ⟨c, 0, none⟩ u i hi
  refine ⟨?_, ⟨fun x hx => ⟨(h.2.1.1 x hx).1, ((h.2.1.1 x hx).2).kept (hk _ (fun e => hc.ne_row (h.2.1.1 x hx).2 (by rw [h6 x hx]; omega) e.symm))⟩, h.2.1.2⟩, h.2.2⟩
  obtain ⟨h1, h2⟩ := h.1
  refine ⟨h1, ?_⟩
  rcases h2 with h2 | ⟨g, cap, cur, rfl, h3, h4, h5⟩
  · exact .inl h2
  · refine .inr ⟨g, cap, cur, rfl, h3, (hk g (fun e => ?_)).trans h4, h5⟩
    exact hc.ne_own h (by simp [Value.ownBlock, e])
theorem SkSt.setI {w wr : World} {B b c : Nat} {v : Value} {xs : List Sv} {L : List (List Int)} {k : Int} (h : SkSt w wr B b v xs L) (hc : BoxI wr c k) (hw : w.heap.size ≤ c) (h6 : ∀ x ∈ xs, x.l.length = 6) (hL : ∀ l ∈ L, l.length = 6) (u : Value) : SkSt w (wr.setCell ⟨c, 0, none⟩ u) B b v xs L := by
  obtain ⟨v', ys, h1, h2, h3, h4, h5⟩ := h
  refine ⟨v', ys, h1, h2.kept (Below.heap_setCell wr ⟨c, 0, none⟩ u b (fun e => h2.ne_i hc e)), h3.setI hc (fun x hx => ?_) u, h4.set u (.inr hw), h5⟩
  rcases List.mem_append.1 hx with hx | hx
  · exact h6 x hx
  · exact ll_all h1 hL x hx

end Go.Proofs.Ytogmfadeedmmaaa
