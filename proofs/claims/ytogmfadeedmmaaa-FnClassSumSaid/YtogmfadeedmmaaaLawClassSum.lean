/- Sums of lines have as many degrees: for every code's drawn list; and the sum backwards is the same. No condition. -/
import Derived.Test.YtogmfadeedmmaaaSumL
import Derived.Test.YtogmfadeedmmaaaRow
import Derived.Test.YtogmfadeedmmaaaArg
namespace Go.Proofs.Ytogmfadeedmmaaa.lawClassSum
open Go.ChangeShapes Go.WideShapes Go.ChangeAt Go.RowKit
set_option linter.unusedVariables false
set_option linter.unusedSimpArgs false

set_option maxRecDepth 20000 in
set_option maxHeartbeats 16000000 in
theorem walk (a0 : Option Addr) (n0 cap0 : Nat) (l0 : List Int) (w : World) (h0 : ArgRow .u8 w a0 n0 cap0 l0) :
    Calls Try.prog 8 #[.slice a0 n0 cap0] w fun e w' => e = .returned (.bool true) ∧ Below w.heap.size w w' := by
  by_cases hbig : 1048576 < n0
  · go_enter Try.func8, Try.ntmps8
    go_wp2
    go_ret
    exact ⟨rfl, by (repeat (first | (with_reducible exact Below.refl _ _) | (with_reducible refine bl_alloc ?_ ?_ _; focus (first | omega | (simp; done) | (simp; omega))) | (with_reducible refine bl_set ?_ ?_ _; focus (first | omega | (simp; done) | (simp; omega))) | (with_reducible refine Below.drew ?_) | (with_reducible refine below_drewN ?_ _) | (with_reducible refine below_step ?_ (by assumption))))⟩
  · go_enter Try.func8, Try.ntmps8
    go_wp2_with fail
    refine (drawClassSum_any a0 n0 cap0 l0 _ h0).mono ?_
    rintro e w1 ⟨g, cap, L, rfl, hL7, hrow, hb1⟩
    clear h0
    have hL100 : L.length ≤ 100 := by omega
    cases hall : allB L
    · have K1 := fun W h => iClassSum_any (some ⟨g, 0, none⟩) cap L hL100 W h
      have K2 := fun W h => sClassSum_any (some ⟨g, 0, none⟩) cap L hL100 W h
      rw [sumR_f hall, hall] at K1 K2
      have hne := fun W : World => neq_self7 0 0 0 0 0 0 0 W
      have hq := fun W : World => eql_self7 0 0 0 0 0 0 0 W
      have L1 := Lib.hid K1
      have L2 := Lib.hid K2
      clear K1 K2 hall
      go_wp2_with fail
      refine (L1.out _ hrow.rd).mono ?_
      rintro e w2 ⟨rfl, hd2⟩
      obtain ⟨hB2, hs2⟩ := grow0 hb1 hd2
      have hrow2 := hrow.below hd2
      clear hd2
      go_wp2_with fail
      refine (L2.out _ (hrow2.below ((Below.refl _ _).alloc (Nat.le_refl _) _)).rd).mono ?_
      rintro e w3 ⟨rfl, hd3⟩
      obtain ⟨hB3, hs3⟩ := grow1 hB2 hd3
      have q3 := new1 hd3
      have n3 : w2.heap.size < w3.heap.size := by omega
      have m3 : ¬ (w2.heap.size = w3.heap.size) := by omega
      have hsb := hB3.size
      clear hd3
      go_wp2_with fail
      go_ret
      exact ⟨rfl, by (repeat (first | (with_reducible exact Below.refl _ _) | (with_reducible refine bl_alloc ?_ ?_ _; focus (first | omega | (simp; done) | (simp; omega))) | (with_reducible refine bl_set ?_ ?_ _; focus (first | omega | (simp; done) | (simp; omega))) | (with_reducible refine Below.drew ?_) | (with_reducible refine below_drewN ?_ _) | (with_reducible refine below_step ?_ (by assumption))))⟩
    · obtain ⟨hv, hdg⟩ := sumR_deg hL100 hall
      obtain ⟨hrev, hallr⟩ := sumR_rev hL100 hall
      obtain ⟨zd, za, zb, zc, ze, zf, zg, hz⟩ : ∃ zd za zb zc ze zf zg : Int, sumR L = ⟨zd, za, zb, zc, ze, zf, zg⟩ := by cases hq : sumR L; exact ⟨_, _, _, _, _, _, _, rfl⟩
      rw [hz] at hv hdg hrev
      have K1 : ∀ W : World, Rd W (some ⟨g, 0, none⟩) L → Calls Try.prog 33 #[.slice (some ⟨g, 0, none⟩) L.length cap] W fun e w' => e = .returned (.tuple #[.agg #[.int .i64 zd, .int .i64 za, .int .i64 zb, .int .i64 zc, .int .i64 ze, .int .i64 zf, .int .i64 zg], .bool true]) ∧ Below W.heap.size W w' := fun W h => by
        have h := iClassSum_any (some ⟨g, 0, none⟩) cap L hL100 W h
        rw [hz, hall] at h
        exact h
      have K2 : ∀ W : World, Rd W (some ⟨g, 0, none⟩) L → Calls Try.prog 34 #[.slice (some ⟨g, 0, none⟩) L.length cap] W fun e w' => e = .returned (.tuple #[.agg #[.int .i64 zd, .int .i64 za, .int .i64 zb, .int .i64 zc, .int .i64 ze, .int .i64 zf, .int .i64 zg], .bool true]) ∧ Below W.heap.size W w' := fun W h => by
        have h := sClassSum_any (some ⟨g, 0, none⟩) cap L hL100 W h
        rw [hz, hall] at h
        exact h
      have K3 : ∀ (g : Nat) (cap : Nat) (W : World), Rd W (some ⟨g, 0, none⟩) L.reverse → Calls Try.prog 33 #[.slice (some ⟨g, 0, none⟩) L.length cap] W fun e w' => e = .returned (.tuple #[.agg #[.int .i64 zd, .int .i64 za, .int .i64 zb, .int .i64 zc, .int .i64 ze, .int .i64 zf, .int .i64 zg], .bool true]) ∧ Below W.heap.size W w' := fun g cap W h => by
        have h := iClassSum_any (some ⟨g, 0, none⟩) cap L.reverse (by simpa using hL100) W h
        rw [hrev, hallr, List.length_reverse] at h
        exact h
      have K4 : ∀ W : World, Calls Try.prog 35 #[.agg #[.int .i64 zd, .int .i64 za, .int .i64 zb, .int .i64 zc, .int .i64 ze, .int .i64 zf, .int .i64 zg]] W fun e w' => e = .returned (.tuple #[.int .i64 (L.length : Int), .bool true]) ∧ Below W.heap.size W w' := fun W => by
        have h := iDegree_any zd za zb zc ze zf zg W
        rw [hdg, hv] at h
        exact h
      have hne := fun W : World => neq_self7 zd za zb zc ze zf zg W
      have hq := fun W : World => eql_self7 zd za zb zc ze zf zg W
      have L1 := Lib.hid K1
      have L2 := Lib.hid K2
      have L3 := Lib.hid K3
      have L4 := Lib.hid K4
      clear K1 K2 K3 K4 hall hallr hrev hdg hv hz
      obtain ⟨i0, hi0, hz0, hz1, hz2⟩ := info_parts Try.info3
      go_wp2_with fail
      refine (L1.out _ hrow.rd).mono ?_
      rintro e w2 ⟨rfl, hd2⟩
      obtain ⟨hB2, hs2⟩ := grow0 hb1 hd2
      have hrow2 := hrow.below hd2
      have hgl := hrow.lt
      clear hd2 hrow
      go_wp2_with fail
      refine (L2.out _ (hrow2.below ((Below.refl _ _).alloc (Nat.le_refl _) _)).rd).mono ?_
      rintro e w3 ⟨rfl, hd3⟩
      obtain ⟨hB3, hs3⟩ := grow1 hB2 hd3
      have q3 := new1 hd3
      have n3 : w2.heap.size < w3.heap.size := by omega
      have m3 : ¬ (w2.heap.size = w3.heap.size) := by omega
      have hrow3 := (hrow2.below ((Below.refl _ _).alloc (Nat.le_refl _) _)).below hd3
      have hsb := hB3.size
      clear hd3 hrow2
      go_wp2_with fail
      go_loopw [8, 9] (fun v c wr => ∃ (j : Nat) (c0 : Int), j ≤ L.length ∧ c = .int .i64 c0 ∧ c0 = (j : Int) - 1 ∧ wr.ownsRow (w3.heap.size + 1) 3 1 v (L.drop j).reverse.length (ivs (L.drop j).reverse) ∧ v ≠ .slice none 0 0 ∧ Row wr g L ∧ (∀ o : Nat, wr.cell? ⟨w2.heap.size, o, none⟩ = (#[.int .i64 zd, .int .i64 za, .int .i64 zb, .int .i64 zc, .int .i64 ze, .int .i64 zf, .int .i64 zg] : Array Value)[o]?) ∧ Below w.heap.size w wr) (fun _ c _ => (intOf c + 1).toNat)
      case atStart => exact ⟨L.length, (L.length : Int) - 1, by omega, by first | rfl | go_num, rfl, by rw [List.drop_length]; exact owns_e1 (by simp) (by simp), by simp, hrow3.below ((((Below.refl _ _).alloc (Nat.le_refl _) _).alloc (by simp) _)), live2a q3 n3, by (repeat (first | (with_reducible exact Below.refl _ _) | (with_reducible refine bl_alloc ?_ ?_ _; focus (first | omega | (simp; done) | (simp; omega))) | (with_reducible refine bl_set ?_ ?_ _; focus (first | omega | (simp; done) | (simp; omega))) | (with_reducible refine Below.drew ?_) | (with_reducible refine below_drewN ?_ _) | (with_reducible refine below_step ?_ (by assumption))))⟩
      case round =>
        clear hrow3 q3 hB3
        obtain ⟨j, c0, hj, rfl, hc0, hown, hvn, hrow, hq4, hb0⟩ := hrel
        by_cases hj0 : j = 0
        · subst hj0
          obtain rfl : c0 = -1 := by omega
          rw [List.drop_zero] at hown
          obtain ⟨g2, cap2, hv2, hg2, hr2⟩ := Row.of_owns hown hvn
          rw [List.length_reverse] at hv2
          subst hv2
          have n4 : w2.heap.size < wr.heap.size := by have := hr2.lt; omega
          have m4 : ¬ (w2.heap.size = wr.heap.size) := by omega
          clear hown hvn hrow hc0 hj
          go_wp2_with fail
          refine (L3.out _ _ _ hr2.rd).mono ?_
          rintro e w5 ⟨rfl, hd5⟩
          obtain ⟨hB5, hs5⟩ := grow0 hb0 hd5
          have q5 := live0 hq4 n4 hd5
          have n5 : w2.heap.size < w5.heap.size := by omega
          have m5 : ¬ (w2.heap.size = w5.heap.size) := by omega
          clear hd5 hq4 hr2
          go_wp2_with fail
          refine (L4.out _).mono ?_
          rintro e w6 ⟨rfl, hd6⟩
          obtain ⟨hB6, hs6⟩ := grow1 hB5 hd6
          have q6 := live1 q5 n5 hd6
          have q7 := new1 hd6
          clear hd6 q5
          go_wp2_with fail
          go_ret
          exact ⟨rfl, hB6⟩
        · obtain ⟨m, rfl⟩ : ∃ m, j = m + 1 := ⟨j - 1, by omega⟩
          obtain rfl : c0 = (m : Int) := by omega
          have hml : m < L.length := by omega
          have cm := hrow.cell m hml
          have b1 : (0 : Int) ≤ (m : Int) := by omega
          have b2 : (m : Int) < (L.length : Int) := by omega
          have hst := rev_step hml
          have hln : (L.drop (m + 1)).reverse.length ≤ 7 := by simp; omega
          generalize hD : (L.drop (m + 1)).reverse = D at hown hst hln
          have hdm : w3.heap.size + 1 ≤ wr.heap.size := by
            obtain ⟨g2, cap2, hv2, hg2, hr2⟩ := Row.of_owns hown hvn
            have := hr2.lt
            omega
          have n4 : w2.heap.size < wr.heap.size := by omega
          have HV := Lib.hid hvn
          have HST := Lib.hid hst
          generalize L.getD m 0 = q at cm hst HST
          clear hvn hst hD hj0 hc0
          go_wp2_with (at_builtin; refine wpList_append_own _ rfl _ _ 38 rfl (w3.heap.size + 1) 3 i0 (.int .i64 0) 1 8 Try.underlying38 hi0 hz0 hz1 hz2 rfl (by decide) _ _ _ rfl (hown.alloc _) ⟨_, 0, none⟩ 1 1 [.int .i64 q] rfl rfl (new_one _ _ _) one_of (by unfold maxLen; omega) (by omega) ?_ ?_)
          · simp
            omega
          · intro v' w5 ho hg hn
            have hrow5 := own_row hrow hown hg (by omega)
            have hq5 := own_cell hq4 n4 hown hg (by omega)
            have hB5 : Below w.heap.size w w5 := below_own (B := w.heap.size) (a := w) (hb0.alloc (by omega) _) (hown.alloc _) hg (by omega) (by simp; omega)
            have HO := Lib.hid ho
            have HN := Lib.hid hn
            clear hn hg hown ho hrow hq4 hb0
            go_wp2_with fail
            go_roundw
            case rel => exact ⟨m, (m : Int) - 1, by omega, by first | rfl | go_num, rfl, by rw [HST.out]; exact owns_app' HO.out, fun h => by have hnn := HN.out; have hvv := HV.out; simp_all, hrow5, hq5, hB5⟩
            case measure => ((simp [intOf]) <;> omega)

set_option maxRecDepth 100000 in
theorem lifted (os : Os) (started : os.Started) (H : Type) (enc : TypeId × Value → H) :
    ReturnsInHanded {} Try.checked os 8 .any (Rows.fnClassSumSpec.pre6 enc Try.prog Try.f8 Rows.fnClassSumRow.domain false) (Rows.fnClassSumSpec.post enc Try.prog Try.f8 false true false false) := by
  refine returnsInHanded_of_change (C := Try.checked) own started (by kernel_rfl) Try.func8
    (ChangeSpec.witness6 (enc := enc) (C := Try.checked) false ⟨#[], #[.slice none 0 0], []⟩ 8 (by kernel_rfl) (by kernel_rfl) (by kernel_rfl) (by kernel_rfl)) ?_
  intro W base args ds gs before hval0 hW hcnd _
  have hval : ∀ (j : Nat) t v, Try.f8.params[j]? = some t → args[j]? = some v → Value.okWide Try.prog W .any base t v := hval0
  have hW' := hW
  obtain ⟨p, q, hA0, hV, rfl, hfz, hnd⟩ := hW
  have hA : DataW.TrodAll enc Try.prog W 0 (fun _ => true) true Try.f8.params.toList args.toList ds p := hA0
  rw [Try.params8] at hA hval
  obtain ⟨v0, vs0, d0, ds0, p0, q0, hargs, rfl, rfl, h0, r0⟩ := trodAll_cons hA
  obtain ⟨rfl, rfl, rfl⟩ := trodAll_nil r0
  obtain rfl : args = #[v0] := by cases args; simp_all
  obtain ⟨rfl, rfl⟩ := trodVars_none hV
  obtain ⟨a0, len0, cap0, rfl⟩ := okWide_slice Try.underlying22 (hval 0 22 v0 rfl rfl)
  have k0 := h0
  have lt0 : ∀ x ∈ p0, x.block < W.heap.size := by obtain ⟨m, hm⟩ := k0; exact DataW.trod_lt m _ _ _ hm
  obtain ⟨l0, w0⟩ : ∃ l, ArgRow .u8 W a0 len0 cap0 l := by
    obtain ⟨fuel, hf⟩ := h0
    rcases open_ints Try.underlying22 Try.underlying5 (by kernel_rfl) hf with ⟨hcs, _⟩ | ⟨x, l, c, zs, hcs, _, hl, hm, hz, _, hcell, hwz⟩
    · simp [Value.cells] at hcs
      obtain ⟨rfl, rfl, rfl⟩ := hcs
      exact ⟨[], rfl, ⟨Nat.le_refl _, by unfold maxLen; omega⟩, by simp, .inl rfl⟩
    · simp [Value.cells] at hcs
      obtain ⟨rfl, rfl, rfl⟩ := hcs
      exact ⟨_, argRow_of hl hm (by simpa using hz) hcell hwz⟩
  clear hA0 hval0
  refine (walk a0 len0 cap0 l0 W w0).mono fun e W' ⟨he, bel⟩ => ?_
  subst he
  exact ⟨_, rfl, _, _, _, [], _, [], hW', trodAll_mk1 (shut_bool Try.underlying4 _), (trodAll_cons_mk (Below.trod laidOut (by kernel_rfl) (of_decide_eq_true (by kernel_rfl)) k0 bel lt0) trodAll_mk0), rfl, bel.frame _, fun h => by cases h⟩

theorem over : Rows.fnClassSumRow.holds Try.pinned (OpenSpec.ofChange Rows.fnClassSumSpec) :=
  OpenClaim.holds_of_wide 8 Try.f8 rfl rfl rfl rfl rfl rfl rfl ⟨rfl, rfl, rfl, rfl, rfl⟩ rfl rfl rfl rfl rfl (by kernel_rfl) Try.func8 (by kernel_rfl)
    (of_decide_eq_true (by kernel_rfl)) (by unfold Func.isWrapper; first | (rw [if_pos (by decide +kernel)]; kernel_rfl) | (rw [if_neg (by decide +kernel)]; exact ⟨rfl, rfl⟩))
    (fun os started H enc _ => lifted os started H enc)

theorem proved : Rows.FnClassSumSaid := over
#print axioms proved
end Go.Proofs.Ytogmfadeedmmaaa.lawClassSum
