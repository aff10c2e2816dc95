/- Multiples have multiple products: for every code's drawn class and number. No condition. -/
import Derived.Test.YtaapkkbfmgimkaaLive
import Derived.Test.YtaapkkbfmgimkaaDrawD
import Derived.Test.YtaapkkbfmgimkaaRow
import Derived.Test.YtaapkkbfmgimkaaArg
namespace Go.Proofs.Ytaapkkbfmgimkaa.lawClassTimes
open Go.ChangeShapes Go.WideShapes Go.ChangeAt Go.RowKit
set_option linter.unusedVariables false
set_option linter.unusedSimpArgs false

set_option maxRecDepth 20000 in
set_option maxHeartbeats 16000000 in
theorem walk (a0 : Option Addr) (n0 cap0 : Nat) (l0 : List Int) (w : World) (h0 : ArgRow .u8 w a0 n0 cap0 l0) :
    Calls Try.prog 6 #[.slice a0 n0 cap0] w fun e w' => e = .returned (.bool true) ∧ Below w.heap.size w w' := by
  by_cases hbig : 1048576 < n0
  · go_enter Try.func6, Try.ntmps6
    go_wp2
    go_ret
    exact ⟨rfl, by (repeat (first | (with_reducible exact Below.refl _ _) | (with_reducible refine bl_alloc ?_ ?_ _; focus (first | omega | (simp; done) | (simp; omega))) | (with_reducible refine bl_set ?_ ?_ _; focus (first | omega | (simp; done) | (simp; omega))) | (with_reducible refine Below.drew ?_) | (with_reducible refine below_drewN ?_ _) | (with_reducible refine below_step ?_ (by assumption))))⟩
  · go_enter Try.func6, Try.ntmps6
    go_wp2_with fail
    refine (drawClassTimes_any a0 n0 cap0 l0 _ h0).mono ?_
    rintro e wc ⟨xd, xa, xb, xc, xe, xf, xg, n, rfl, hsm, ⟨hn0, hn1⟩, hb1⟩
    have hsz := hb1.size
    clear h0
    cases hv : timB ⟨xd, xa, xb, xc, xe, xf, xg⟩ n
    · have K1 := fun W : World => iTimes_any xd xa xb xc xe xf xg n W
      have K2 := fun W : World => sTimes_any xd xa xb xc xe xf xg n W
      rw [timR_f hv, hv] at K1 K2
      simp only [zeroC] at K1 K2
      have hq := fun W : World => eql_self7 0 0 0 0 0 0 0 W
      have hne := fun W : World => neq_self7 0 0 0 0 0 0 0 W
      clear hsm
      go_wp2_with fail
      refine (K1 _).mono ?_
      rintro e w1 ⟨rfl, hbw1⟩
      obtain ⟨hB1, hs1⟩ := grow1 hb1 hbw1
      have qa1 := new1 hbw1
      have na1 : wc.heap.size < w1.heap.size := by omega
      have ma1 : ¬ (wc.heap.size = w1.heap.size) := by omega
      clear hbw1 hb1
      go_wp2_with fail
      refine (K2 _).mono ?_
      rintro e w2 ⟨rfl, hbw2⟩
      obtain ⟨hB2, hs2⟩ := grow1 hB1 hbw2
      have qa2 := live1 qa1 (by first | omega | (simp; omega)) hbw2
      have qo2 := new1 hbw2
      have na2 : wc.heap.size < w2.heap.size := by omega
      have ma2 : ¬ (wc.heap.size = w2.heap.size) := by omega
      have no2 : w1.heap.size < w2.heap.size := by omega
      have mo2 : ¬ (w1.heap.size = w2.heap.size) := by omega
      clear qa1 hbw2 hB1
      go_wp2_with fail
      go_ret
      exact ⟨rfl, by (repeat (first | (with_reducible exact Below.refl _ _) | (with_reducible refine bl_alloc ?_ ?_ _; focus (first | omega | (simp; done) | (simp; omega))) | (with_reducible refine bl_set ?_ ?_ _; focus (first | omega | (simp; done) | (simp; omega))) | (with_reducible refine Below.drew ?_) | (with_reducible refine below_drewN ?_ _) | (with_reducible refine below_step ?_ (by assumption))))⟩
    · obtain ⟨hx, hn, hs⟩ := timB_parts hv
      have hlaw := law_times hx hn hs
      have hzt := timR_t hv
      obtain ⟨zd, za, zb, zc, ze, zf, zg, hz⟩ := cls_ex (sumC zeroC n ⟨xd, xa, xb, xc, xe, xf, xg⟩)
      rw [hz] at hzt hs hlaw
      have K1 : ∀ W : World, Calls Try.prog 14 #[.agg #[.int .i64 xd, .int .i64 xa, .int .i64 xb, .int .i64 xc, .int .i64 xe, .int .i64 xf, .int .i64 xg], .int .i64 n] W fun e w' => e = .returned (.tuple #[.agg #[.int .i64 zd, .int .i64 za, .int .i64 zb, .int .i64 zc, .int .i64 ze, .int .i64 zf, .int .i64 zg], .bool true]) ∧ Below W.heap.size W w' := fun W => by
        have h := iTimes_any xd xa xb xc xe xf xg n W
        rw [hzt, hv] at h
        exact h
      have K2 : ∀ W : World, Calls Try.prog 23 #[.agg #[.int .i64 xd, .int .i64 xa, .int .i64 xb, .int .i64 xc, .int .i64 xe, .int .i64 xf, .int .i64 xg], .int .i64 n] W fun e w' => e = .returned (.tuple #[.agg #[.int .i64 zd, .int .i64 za, .int .i64 zb, .int .i64 zc, .int .i64 ze, .int .i64 zf, .int .i64 zg], .bool true]) ∧ Below W.heap.size W w' := fun W => by
        have h := sTimes_any xd xa xb xc xe xf xg n W
        rw [hzt, hv] at h
        exact h
      have K3 : ∀ W : World, Calls Try.prog 19 #[.agg #[.int .i64 zd, .int .i64 za, .int .i64 zb, .int .i64 zc, .int .i64 ze, .int .i64 zf, .int .i64 zg], .agg #[.int .i64 zd, .int .i64 za, .int .i64 zb, .int .i64 zc, .int .i64 ze, .int .i64 zf, .int .i64 zg]] W fun e w' => e = .returned (.tuple #[.int .i64 (prodC ⟨zd, za, zb, zc, ze, zf, zg⟩ ⟨zd, za, zb, zc, ze, zf, zg⟩), .bool true]) ∧ Below W.heap.size W w' := fun W => by
        have h := iProduct_any zd za zb zc ze zf zg zd za zb zc ze zf zg W
        rw [prodR_t hs hs, hs] at h
        exact h
      have K4 : ∀ W : World, Calls Try.prog 19 #[.agg #[.int .i64 xd, .int .i64 xa, .int .i64 xb, .int .i64 xc, .int .i64 xe, .int .i64 xf, .int .i64 xg], .agg #[.int .i64 xd, .int .i64 xa, .int .i64 xb, .int .i64 xc, .int .i64 xe, .int .i64 xf, .int .i64 xg]] W fun e w' => e = .returned (.tuple #[.int .i64 (prodC ⟨xd, xa, xb, xc, xe, xf, xg⟩ ⟨xd, xa, xb, xc, xe, xf, xg⟩), .bool true]) ∧ Below W.heap.size W w' := fun W => by
        have h := iProduct_any xd xa xb xc xe xf xg xd xa xb xc xe xf xg W
        rw [prodR_t hx hx, hx] at h
        exact h
      have hne := fun W : World => neq_self7 zd za zb zc ze zf zg W
      generalize prodC ⟨zd, za, zb, zc, ze, zf, zg⟩ ⟨zd, za, zb, zc, ze, zf, zg⟩ = Q at K3 hlaw
      generalize prodC ⟨xd, xa, xb, xc, xe, xf, xg⟩ ⟨xd, xa, xb, xc, xe, xf, xg⟩ = P at K4 hlaw
      have HL := Lib.hid hlaw
      clear hz hzt hs hx hn hv hsm hlaw
      go_wp2_with fail
      refine (K1 _).mono ?_
      rintro e w1 ⟨rfl, hbw1⟩
      obtain ⟨hB1, hs1⟩ := grow1 hb1 hbw1
      have qa1 := new1 hbw1
      have na1 : wc.heap.size < w1.heap.size := by omega
      have ma1 : ¬ (wc.heap.size = w1.heap.size) := by omega
      clear hbw1 hb1
      go_wp2_with fail
      refine (K2 _).mono ?_
      rintro e w2 ⟨rfl, hbw2⟩
      obtain ⟨hB2, hs2⟩ := grow1 hB1 hbw2
      have qa2 := live1 qa1 (by first | omega | (simp; omega)) hbw2
      have qo2 := new1 hbw2
      have na2 : wc.heap.size < w2.heap.size := by omega
      have ma2 : ¬ (wc.heap.size = w2.heap.size) := by omega
      have no2 : w1.heap.size < w2.heap.size := by omega
      have mo2 : ¬ (w1.heap.size = w2.heap.size) := by omega
      clear qa1 hbw2 hB1
      go_wp2_with fail
      refine (K3 _).mono ?_
      rintro e w3 ⟨rfl, hbw3⟩
      obtain ⟨hB3, hs3⟩ := grow1 hB2 hbw3
      have qa3 := live1 qa2 (by first | omega | (simp; omega)) hbw3
      have qo3 := live1 qo2 (by first | omega | (simp; omega)) hbw3
      have qv3 := new1 hbw3
      have na3 : wc.heap.size < w3.heap.size := by omega
      have ma3 : ¬ (wc.heap.size = w3.heap.size) := by omega
      have no3 : w1.heap.size < w3.heap.size := by omega
      have mo3 : ¬ (w1.heap.size = w3.heap.size) := by omega
      have nv3 : w2.heap.size < w3.heap.size := by omega
      have mv3 : ¬ (w2.heap.size = w3.heap.size) := by omega
      clear qa2 qo2 hbw3 hB2
      go_wp2_with fail
      refine (K4 _).mono ?_
      rintro e w4 ⟨rfl, hbw4⟩
      obtain ⟨hB4, hs4⟩ := grow0 hB3 hbw4
      have qa4 := live0 qa3 (by first | omega | (simp; omega)) hbw4
      have qo4 := live0 qo3 (by first | omega | (simp; omega)) hbw4
      have qv4 := live0 qv3 (by first | omega | (simp; omega)) hbw4
      have na4 : wc.heap.size < w4.heap.size := by omega
      have ma4 : ¬ (wc.heap.size = w4.heap.size) := by omega
      have no4 : w1.heap.size < w4.heap.size := by omega
      have mo4 : ¬ (w1.heap.size = w4.heap.size) := by omega
      have nv4 : w2.heap.size < w4.heap.size := by omega
      have mv4 : ¬ (w2.heap.size = w4.heap.size) := by omega
      clear qa3 qo3 qv3 hbw4 hB3
      go_wp2_with fail
      go_ret
      exact ⟨ret_bool (by rw [HL.out]; exact beq_self_eq_true _), by (repeat (first | (with_reducible exact Below.refl _ _) | (with_reducible refine bl_alloc ?_ ?_ _; focus (first | omega | (simp; done) | (simp; omega))) | (with_reducible refine bl_set ?_ ?_ _; focus (first | omega | (simp; done) | (simp; omega))) | (with_reducible refine Below.drew ?_) | (with_reducible refine below_drewN ?_ _) | (with_reducible refine below_step ?_ (by assumption))))⟩

set_option maxRecDepth 100000 in
theorem lifted (os : Os) (started : os.Started) (H : Type) (enc : TypeId × Value → H) :
    ReturnsInHanded {} Try.checked os 6 .any (Rows.fnClassTimesSpec.pre6 enc Try.prog Try.f6 Rows.fnClassTimesRow.domain false) (Rows.fnClassTimesSpec.post enc Try.prog Try.f6 false true false false) := by
  refine returnsInHanded_of_change (C := Try.checked) own started (by kernel_rfl) Try.func6
    (ChangeSpec.witness6 (enc := enc) (C := Try.checked) false ⟨#[], #[.slice none 0 0], []⟩ 8 (by kernel_rfl) (by kernel_rfl) (by kernel_rfl) (by kernel_rfl)) ?_
  intro W base args ds gs before hval0 hW hcnd _
  have hval : ∀ (j : Nat) t v, Try.f6.params[j]? = some t → args[j]? = some v → Value.okWide Try.prog W .any base t v := hval0
  have hW' := hW
  obtain ⟨p, q, hA0, hV, rfl, hfz, hnd⟩ := hW
  have hA : DataW.TrodAll enc Try.prog W 0 (fun _ => true) true Try.f6.params.toList args.toList ds p := hA0
  rw [Try.params6] at hA hval
  obtain ⟨v0, vs0, d0, ds0, p0, q0, hargs, rfl, rfl, h0, r0⟩ := trodAll_cons hA
  obtain ⟨rfl, rfl, rfl⟩ := trodAll_nil r0
  obtain rfl : args = #[v0] := by cases args; simp_all
  obtain ⟨rfl, rfl⟩ := trodVars_none hV
  obtain ⟨a0, len0, cap0, rfl⟩ := okWide_slice Try.underlying22 (hval 0 22 v0 rfl rfl)
  have k0 := h0
  have lt0 : ∀ x ∈ p0, x.block < W.heap.size := by obtain ⟨m, hm⟩ := k0; exact DataW.trod_lt m _ _ _ hm
  obtain ⟨l0, w0⟩ : ∃ l, ArgRow .u8 W a0 len0 cap0 l := by
    obtain ⟨fuel, hf⟩ := h0
    rcases open_ints Try.underlying22 Try.underlying5 (by kernel_rfl) hf with ⟨hcs, _⟩ | ⟨x, l, c, zs, hcs, _, hl, hm, hz, _, hcell, hwz⟩
    · simp [Value.cells] at hcs
      obtain ⟨rfl, rfl, rfl⟩ := hcs
      exact ⟨[], rfl, ⟨Nat.le_refl _, by unfold maxLen; omega⟩, by simp, .inl rfl⟩
    · simp [Value.cells] at hcs
      obtain ⟨rfl, rfl, rfl⟩ := hcs
      exact ⟨_, argRow_of hl hm (by simpa using hz) hcell hwz⟩
  clear hA0 hval0
  refine (walk a0 len0 cap0 l0 W w0).mono fun e W' ⟨he, bel⟩ => ?_
  subst he
  exact ⟨_, rfl, _, _, _, [], _, [], hW', trodAll_mk1 (shut_bool Try.underlying4 _), (trodAll_cons_mk (Below.trod laidOut (by kernel_rfl) (of_decide_eq_true (by kernel_rfl)) k0 bel lt0) trodAll_mk0), rfl, bel.frame _, fun h => by cases h⟩

theorem over : Rows.fnClassTimesRow.holds Try.pinned (OpenSpec.ofChange Rows.fnClassTimesSpec) :=
  OpenClaim.holds_of_wide 6 Try.f6 rfl rfl rfl rfl rfl rfl rfl ⟨rfl, rfl, rfl, rfl, rfl⟩ rfl rfl rfl rfl rfl (by kernel_rfl) Try.func6 (by kernel_rfl)
    (of_decide_eq_true (by kernel_rfl)) (by unfold Func.isWrapper; first | (rw [if_pos (by decide +kernel)]; kernel_rfl) | (rw [if_neg (by decide +kernel)]; exact ⟨rfl, rfl⟩))
    (fun os started H enc _ => lifted os started H enc)

theorem proved : Rows.FnClassTimesSaid := over
#print axioms proved
end Go.Proofs.Ytaapkkbfmgimkaa.lawClassTimes
