/- The plane class has the degree 3, and degrees have the parity of squares: for every code's drawn class. No condition. -/
import Derived.Test.YtaapkkbfmgimkaaLive
import Derived.Test.YtaapkkbfmgimkaaDrawD
import Derived.Test.YtaapkkbfmgimkaaRow
import Derived.Test.YtaapkkbfmgimkaaArg
namespace Go.Proofs.Ytaapkkbfmgimkaa.lawDegree
open Go.ChangeShapes Go.WideShapes Go.ChangeAt Go.RowKit
set_option linter.unusedVariables false
set_option linter.unusedSimpArgs false

set_option maxRecDepth 20000 in
set_option maxHeartbeats 16000000 in
theorem walk (a0 : Option Addr) (n0 cap0 : Nat) (l0 : List Int) (w : World) (h0 : ArgRow .u8 w a0 n0 cap0 l0) :
    Calls Try.prog 4 #[.slice a0 n0 cap0] w fun e w' => e = .returned (.bool true) ∧ Below w.heap.size w w' := by
  by_cases hbig : 1048576 < n0
  · go_enter Try.func4, Try.ntmps4
    go_wp2
    go_ret
    exact ⟨rfl, by (repeat (first | (with_reducible exact Below.refl _ _) | (with_reducible refine bl_alloc ?_ ?_ _; focus (first | omega | (simp; done) | (simp; omega))) | (with_reducible refine bl_set ?_ ?_ _; focus (first | omega | (simp; done) | (simp; omega))) | (with_reducible refine Below.drew ?_) | (with_reducible refine below_drewN ?_ _) | (with_reducible refine below_step ?_ (by assumption))))⟩
  · go_enter Try.func4, Try.ntmps4
    go_wp2_with fail
    refine (drawClassDegree_any a0 n0 cap0 l0 _ h0).mono ?_
    rintro e wc ⟨xd, xa, xb, xc, xe, xf, xg, rfl, hsm, hb1⟩
    have hsz := hb1.size
    clear h0
    cases hv : vldB ⟨xd, xa, xb, xc, xe, xf, xg⟩
    · have K1 := fun W : World => iDegree_any xd xa xb xc xe xf xg W
      have K2 := fun W : World => sDegree_any xd xa xb xc xe xf xg W
      rw [hv, degR_f hv] at K1 K2
      clear hsm
      go_wp2_with fail
      refine (K1 _).mono ?_
      rintro e w1 ⟨rfl, hbw1⟩
      obtain ⟨hB1, hs1⟩ := grow1 hb1 hbw1
      have qa1 := new1 hbw1
      have na1 : wc.heap.size < w1.heap.size := by omega
      have ma1 : ¬ (wc.heap.size = w1.heap.size) := by omega
      clear hbw1 hb1
      go_wp2_with fail
      refine (K2 _).mono ?_
      rintro e w2 ⟨rfl, hbw2⟩
      obtain ⟨hB2, hs2⟩ := grow0 hB1 hbw2
      have qa2 := live0 qa1 (by first | omega | (simp; omega)) hbw2
      have na2 : wc.heap.size < w2.heap.size := by omega
      have ma2 : ¬ (wc.heap.size = w2.heap.size) := by omega
      clear qa1 hbw2 hB1
      go_wp2_with fail
      go_ret
      exact ⟨rfl, by (repeat (first | (with_reducible exact Below.refl _ _) | (with_reducible refine bl_alloc ?_ ?_ _; focus (first | omega | (simp; done) | (simp; omega))) | (with_reducible refine bl_set ?_ ?_ _; focus (first | omega | (simp; done) | (simp; omega))) | (with_reducible refine Below.drew ?_) | (with_reducible refine below_drewN ?_ _) | (with_reducible refine below_step ?_ (by assumption))))⟩
    · have K1 := fun W : World => iDegree_any xd xa xb xc xe xf xg W
      have K2 := fun W : World => sDegree_any xd xa xb xc xe xf xg W
      rw [hv, degR_t hv] at K1 K2
      obtain ⟨q, hq, hq1, hq2⟩ := par_ex hv
      have hdb := degC_bd hv
      have K3 : ∀ W : World, Calls Try.prog 19 #[.agg #[.int .i64 xd, .int .i64 xa, .int .i64 xb, .int .i64 xc, .int .i64 xe, .int .i64 xf, .int .i64 xg], .agg #[.int .i64 3, .int .i64 1, .int .i64 1, .int .i64 1, .int .i64 1, .int .i64 1, .int .i64 1]] W fun e w' => e = .returned (.tuple #[.int .i64 (degC ⟨xd, xa, xb, xc, xe, xf, xg⟩), .bool true]) ∧ Below W.heap.size W w' := fun W => by
        have h := iProduct_any xd xa xb xc xe xf xg 3 1 1 1 1 1 1 W
        rw [prodR_t hv (show vldB ⟨3, 1, 1, 1, 1, 1, 1⟩ = true by decide), hv, show vldB ⟨3, 1, 1, 1, 1, 1, 1⟩ = true by decide] at h
        exact h
      have K4 : ∀ W : World, Calls Try.prog 17 #[.agg #[.int .i64 3, .int .i64 1, .int .i64 1, .int .i64 1, .int .i64 1, .int .i64 1, .int .i64 1]] W fun e w' => e = .returned (.tuple #[.int .i64 3, .bool true]) ∧ Below W.heap.size W w' := fun W => by
        have h := iDegree_any 3 1 1 1 1 1 1 W
        rw [show degR ⟨3, 1, 1, 1, 1, 1, 1⟩ = 3 by decide +kernel, show vldB ⟨3, 1, 1, 1, 1, 1, 1⟩ = true by decide] at h
        exact h
      have K5 : ∀ W : World, Calls Try.prog 19 #[.agg #[.int .i64 xd, .int .i64 xa, .int .i64 xb, .int .i64 xc, .int .i64 xe, .int .i64 xf, .int .i64 xg], .agg #[.int .i64 xd, .int .i64 xa, .int .i64 xb, .int .i64 xc, .int .i64 xe, .int .i64 xf, .int .i64 xg]] W fun e w' => e = .returned (.tuple #[.int .i64 (degC ⟨xd, xa, xb, xc, xe, xf, xg⟩ + 2 * q), .bool true]) ∧ Below W.heap.size W w' := fun W => by
        have h := iProduct_any xd xa xb xc xe xf xg xd xa xb xc xe xf xg W
        rw [prodR_t hv hv, hv, hq] at h
        exact h
      generalize degC ⟨xd, xa, xb, xc, xe, xf, xg⟩ = D at K1 K2 K3 K5 hdb
      obtain ⟨hd1, hd2⟩ := hdb
      clear hq hv hsm
      go_wp2_with fail
      refine (K1 _).mono ?_
      rintro e w1 ⟨rfl, hbw1⟩
      obtain ⟨hB1, hs1⟩ := grow1 hb1 hbw1
      have qa1 := new1 hbw1
      have na1 : wc.heap.size < w1.heap.size := by omega
      have ma1 : ¬ (wc.heap.size = w1.heap.size) := by omega
      clear hbw1 hb1
      go_wp2_with fail
      refine (K2 _).mono ?_
      rintro e w2 ⟨rfl, hbw2⟩
      obtain ⟨hB2, hs2⟩ := grow0 hB1 hbw2
      have qa2 := live0 qa1 (by first | omega | (simp; omega)) hbw2
      have na2 : wc.heap.size < w2.heap.size := by omega
      have ma2 : ¬ (wc.heap.size = w2.heap.size) := by omega
      clear qa1 hbw2 hB1
      go_wp2_with fail
      refine (K3 _).mono ?_
      rintro e w3 ⟨rfl, hbw3⟩
      obtain ⟨hB3, hs3⟩ := grow1 hB2 hbw3
      have qa3 := live1 qa2 (by first | omega | (simp; omega)) hbw3
      have qp3 := new1 hbw3
      have na3 : wc.heap.size < w3.heap.size := by omega
      have ma3 : ¬ (wc.heap.size = w3.heap.size) := by omega
      have np3 : w2.heap.size < w3.heap.size := by omega
      have mp3 : ¬ (w2.heap.size = w3.heap.size) := by omega
      clear qa2 hbw3 hB2
      go_wp2_with fail
      refine (K4 _).mono ?_
      rintro e w4 ⟨rfl, hbw4⟩
      obtain ⟨hB4, hs4⟩ := grow0 hB3 hbw4
      have qa4 := live0 qa3 (by first | omega | (simp; omega)) hbw4
      have qp4 := live0 qp3 (by first | omega | (simp; omega)) hbw4
      have na4 : wc.heap.size < w4.heap.size := by omega
      have ma4 : ¬ (wc.heap.size = w4.heap.size) := by omega
      have np4 : w2.heap.size < w4.heap.size := by omega
      have mp4 : ¬ (w2.heap.size = w4.heap.size) := by omega
      clear qa3 qp3 hbw4 hB3
      go_wp2_with fail
      refine (K5 _).mono ?_
      rintro e w5 ⟨rfl, hbw5⟩
      obtain ⟨hB5, hs5⟩ := grow0 hB4 hbw5
      have qa5 := live0 qa4 (by first | omega | (simp; omega)) hbw5
      have qp5 := live0 qp4 (by first | omega | (simp; omega)) hbw5
      have na5 : wc.heap.size < w5.heap.size := by omega
      have ma5 : ¬ (wc.heap.size = w5.heap.size) := by omega
      have np5 : w2.heap.size < w5.heap.size := by omega
      have mp5 : ¬ (w2.heap.size = w5.heap.size) := by omega
      clear qa4 qp4 hbw5 hB4
      go_wp2_with fail
      go_ret
      exact ⟨ret_bool (by rw [show D + 2 * q - D = 2 * q by omega, Int.mul_tmod_right]; rfl), by (repeat (first | (with_reducible exact Below.refl _ _) | (with_reducible refine bl_alloc ?_ ?_ _; focus (first | omega | (simp; done) | (simp; omega))) | (with_reducible refine bl_set ?_ ?_ _; focus (first | omega | (simp; done) | (simp; omega))) | (with_reducible refine Below.drew ?_) | (with_reducible refine below_drewN ?_ _) | (with_reducible refine below_step ?_ (by assumption))))⟩

set_option maxRecDepth 100000 in
theorem lifted (os : Os) (started : os.Started) (H : Type) (enc : TypeId × Value → H) :
    ReturnsInHanded {} Try.checked os 4 .any (Rows.fnDegreeSpec.pre6 enc Try.prog Try.f4 Rows.fnDegreeRow.domain false) (Rows.fnDegreeSpec.post enc Try.prog Try.f4 false true false false) := by
  refine returnsInHanded_of_change (C := Try.checked) own started (by kernel_rfl) Try.func4
    (ChangeSpec.witness6 (enc := enc) (C := Try.checked) false ⟨#[], #[.slice none 0 0], []⟩ 8 (by kernel_rfl) (by kernel_rfl) (by kernel_rfl) (by kernel_rfl)) ?_
  intro W base args ds gs before hval0 hW hcnd _
  have hval : ∀ (j : Nat) t v, Try.f4.params[j]? = some t → args[j]? = some v → Value.okWide Try.prog W .any base t v := hval0
  have hW' := hW
  obtain ⟨p, q, hA0, hV, rfl, hfz, hnd⟩ := hW
  have hA : DataW.TrodAll enc Try.prog W 0 (fun _ => true) true Try.f4.params.toList args.toList ds p := hA0
  rw [Try.params4] at hA hval
  obtain ⟨v0, vs0, d0, ds0, p0, q0, hargs, rfl, rfl, h0, r0⟩ := trodAll_cons hA
  obtain ⟨rfl, rfl, rfl⟩ := trodAll_nil r0
  obtain rfl : args = #[v0] := by cases args; simp_all
  obtain ⟨rfl, rfl⟩ := trodVars_none hV
  obtain ⟨a0, len0, cap0, rfl⟩ := okWide_slice Try.underlying22 (hval 0 22 v0 rfl rfl)
  have k0 := h0
  have lt0 : ∀ x ∈ p0, x.block < W.heap.size := by obtain ⟨m, hm⟩ := k0; exact DataW.trod_lt m _ _ _ hm
  obtain ⟨l0, w0⟩ : ∃ l, ArgRow .u8 W a0 len0 cap0 l := by
    obtain ⟨fuel, hf⟩ := h0
    rcases open_ints Try.underlying22 Try.underlying5 (by kernel_rfl) hf with ⟨hcs, _⟩ | ⟨x, l, c, zs, hcs, _, hl, hm, hz, _, hcell, hwz⟩
    · simp [Value.cells] at hcs
      obtain ⟨rfl, rfl, rfl⟩ := hcs
      exact ⟨[], rfl, ⟨Nat.le_refl _, by unfold maxLen; omega⟩, by simp, .inl rfl⟩
    · simp [Value.cells] at hcs
      obtain ⟨rfl, rfl, rfl⟩ := hcs
      exact ⟨_, argRow_of hl hm (by simpa using hz) hcell hwz⟩
  clear hA0 hval0
  refine (walk a0 len0 cap0 l0 W w0).mono fun e W' ⟨he, bel⟩ => ?_
  subst he
  exact ⟨_, rfl, _, _, _, [], _, [], hW', trodAll_mk1 (shut_bool Try.underlying4 _), (trodAll_cons_mk (Below.trod laidOut (by kernel_rfl) (of_decide_eq_true (by kernel_rfl)) k0 bel lt0) trodAll_mk0), rfl, bel.frame _, fun h => by cases h⟩

theorem over : Rows.fnDegreeRow.holds Try.pinned (OpenSpec.ofChange Rows.fnDegreeSpec) :=
  OpenClaim.holds_of_wide 4 Try.f4 rfl rfl rfl rfl rfl rfl rfl ⟨rfl, rfl, rfl, rfl, rfl⟩ rfl rfl rfl rfl rfl (by kernel_rfl) Try.func4 (by kernel_rfl)
    (of_decide_eq_true (by kernel_rfl)) (by unfold Func.isWrapper; first | (rw [if_pos (by decide +kernel)]; kernel_rfl) | (rw [if_neg (by decide +kernel)]; exact ⟨rfl, rfl⟩))
    (fun os started H enc _ => lifted os started H enc)

theorem proved : Rows.FnDegreeSaid := over
#print axioms proved
end Go.Proofs.Ytaapkkbfmgimkaa.lawDegree
