/- There are no more line classes: for every code's drawn class with the product -1 and the degree 1. No condition. -/
import Derived.Test.YtaapkkbfmgimkaaLive
import Derived.Test.YtaapkkbfmgimkaaDrawD
import Derived.Test.YtaapkkbfmgimkaaRow
import Derived.Test.YtaapkkbfmgimkaaArg
namespace Go.Proofs.Ytaapkkbfmgimkaa.lawAllLines
open Go.ChangeShapes Go.WideShapes Go.ChangeAt Go.RowKit
set_option linter.unusedVariables false
set_option linter.unusedSimpArgs false

set_option maxRecDepth 20000 in
set_option maxHeartbeats 16000000 in
theorem walk (a0 : Option Addr) (n0 cap0 : Nat) (l0 : List Int) (w : World) (h0 : ArgRow .u8 w a0 n0 cap0 l0) :
    Calls Try.prog 9 #[.slice a0 n0 cap0] w fun e w' => e = .returned (.bool true) ∧ Below w.heap.size w w' := by
  by_cases hbig : 1048576 < n0
  · go_enter Try.func9, Try.ntmps9
    go_wp2
    go_ret
    exact ⟨rfl, by (repeat (first | (with_reducible exact Below.refl _ _) | (with_reducible refine bl_alloc ?_ ?_ _; focus (first | omega | (simp; done) | (simp; omega))) | (with_reducible refine bl_set ?_ ?_ _; focus (first | omega | (simp; done) | (simp; omega))) | (with_reducible refine Below.drew ?_) | (with_reducible refine below_drewN ?_ _) | (with_reducible refine below_step ?_ (by assumption))))⟩
  · go_enter Try.func9, Try.ntmps9
    go_wp2_with fail
    refine (drawClassDegree_any a0 n0 cap0 l0 _ h0).mono ?_
    rintro e wc ⟨xd, xa, xb, xc, xe, xf, xg, rfl, hsm, hb1⟩
    have hsz := hb1.size
    clear h0
    cases hv : vldB ⟨xd, xa, xb, xc, xe, xf, xg⟩
    · have K1 := fun W : World => iDegree_any xd xa xb xc xe xf xg W
      have K2 := fun W : World => sDegree_any xd xa xb xc xe xf xg W
      rw [hv, degR_f hv] at K1 K2
      clear hsm
      go_wp2_with fail
      refine (K1 _).mono ?_
      rintro e w1 ⟨rfl, hbw1⟩
      obtain ⟨hB1, hs1⟩ := grow1 hb1 hbw1
      have qa1 := new1 hbw1
      have na1 : wc.heap.size < w1.heap.size := by omega
      have ma1 : ¬ (wc.heap.size = w1.heap.size) := by omega
      clear hbw1 hb1
      go_wp2_with fail
      refine (K2 _).mono ?_
      rintro e w2 ⟨rfl, hbw2⟩
      obtain ⟨hB2, hs2⟩ := grow0 hB1 hbw2
      have qa2 := live0 qa1 (by first | omega | (simp; omega)) hbw2
      have na2 : wc.heap.size < w2.heap.size := by omega
      have ma2 : ¬ (wc.heap.size = w2.heap.size) := by omega
      clear qa1 hbw2 hB1
      go_wp2_with fail
      go_ret
      exact ⟨rfl, by (repeat (first | (with_reducible exact Below.refl _ _) | (with_reducible refine bl_alloc ?_ ?_ _; focus (first | omega | (simp; done) | (simp; omega))) | (with_reducible refine bl_set ?_ ?_ _; focus (first | omega | (simp; done) | (simp; omega))) | (with_reducible refine Below.drew ?_) | (with_reducible refine below_drewN ?_ _) | (with_reducible refine below_step ?_ (by assumption))))⟩
    · have K1 := fun W : World => iDegree_any xd xa xb xc xe xf xg W
      have K2 := fun W : World => sDegree_any xd xa xb xc xe xf xg W
      rw [hv, degR_t hv] at K1 K2
      have K3 : ∀ W : World, Calls Try.prog 19 #[.agg #[.int .i64 xd, .int .i64 xa, .int .i64 xb, .int .i64 xc, .int .i64 xe, .int .i64 xf, .int .i64 xg], .agg #[.int .i64 xd, .int .i64 xa, .int .i64 xb, .int .i64 xc, .int .i64 xe, .int .i64 xf, .int .i64 xg]] W fun e w' => e = .returned (.tuple #[.int .i64 (prodC ⟨xd, xa, xb, xc, xe, xf, xg⟩ ⟨xd, xa, xb, xc, xe, xf, xg⟩), .bool true]) ∧ Below W.heap.size W w' := fun W => by
        have h := iProduct_any xd xa xb xc xe xf xg xd xa xb xc xe xf xg W
        rw [prodR_t hv hv, hv] at h
        exact h
      have K4 := fun W : World => iClassLine_any xd xa xb xc xe xf xg W
      have hlaw := law_lines hv
      generalize prodC ⟨xd, xa, xb, xc, xe, xf, xg⟩ ⟨xd, xa, xb, xc, xe, xf, xg⟩ = Z at K3 hlaw
      generalize degC ⟨xd, xa, xb, xc, xe, xf, xg⟩ = D at K1 K2 hlaw
      generalize CL ⟨xd, xa, xb, xc, xe, xf, xg⟩ = V at K4 hlaw
      clear hv hsm
      by_cases h1 : Z = -1
      · by_cases h2 : D = 1
        · have hV := hlaw h1 h2
          subst h1 h2
          clear hlaw
          go_wp2_with fail
          refine (K1 _).mono ?_
          rintro e w1 ⟨rfl, hbw1⟩
          obtain ⟨hB1, hs1⟩ := grow1 hb1 hbw1
          have qa1 := new1 hbw1
          have na1 : wc.heap.size < w1.heap.size := by omega
          have ma1 : ¬ (wc.heap.size = w1.heap.size) := by omega
          clear hbw1 hb1
          go_wp2_with fail
          refine (K2 _).mono ?_
          rintro e w2 ⟨rfl, hbw2⟩
          obtain ⟨hB2, hs2⟩ := grow0 hB1 hbw2
          have qa2 := live0 qa1 (by first | omega | (simp; omega)) hbw2
          have na2 : wc.heap.size < w2.heap.size := by omega
          have ma2 : ¬ (wc.heap.size = w2.heap.size) := by omega
          clear qa1 hbw2 hB1
          go_wp2_with fail
          refine (K3 _).mono ?_
          rintro e w3 ⟨rfl, hbw3⟩
          obtain ⟨hB3, hs3⟩ := grow0 hB2 hbw3
          have qa3 := live0 qa2 (by first | omega | (simp; omega)) hbw3
          have na3 : wc.heap.size < w3.heap.size := by omega
          have ma3 : ¬ (wc.heap.size = w3.heap.size) := by omega
          clear qa2 hbw3 hB2
          go_wp2_with fail
          refine (K4 _).mono ?_
          rintro e w4 ⟨rfl, hbw4⟩
          obtain ⟨hB4, hs4⟩ := grow0 hB3 hbw4
          have qa4 := live0 qa3 (by first | omega | (simp; omega)) hbw4
          have na4 : wc.heap.size < w4.heap.size := by omega
          have ma4 : ¬ (wc.heap.size = w4.heap.size) := by omega
          clear qa3 hbw4 hB3
          go_wp2_with fail
          go_ret
          exact ⟨rfl, by (repeat (first | (with_reducible exact Below.refl _ _) | (with_reducible refine bl_alloc ?_ ?_ _; focus (first | omega | (simp; done) | (simp; omega))) | (with_reducible refine bl_set ?_ ?_ _; focus (first | omega | (simp; done) | (simp; omega))) | (with_reducible refine Below.drew ?_) | (with_reducible refine below_drewN ?_ _) | (with_reducible refine below_step ?_ (by assumption))))⟩
        · have h3 : (D == 1) = false := by simpa using h2
          have h4 : (D != 1) = true := by simpa using h2
          subst h1
          clear hlaw h2
          go_wp2_with fail
          refine (K1 _).mono ?_
          rintro e w1 ⟨rfl, hbw1⟩
          obtain ⟨hB1, hs1⟩ := grow1 hb1 hbw1
          have qa1 := new1 hbw1
          have na1 : wc.heap.size < w1.heap.size := by omega
          have ma1 : ¬ (wc.heap.size = w1.heap.size) := by omega
          clear hbw1 hb1
          go_wp2_with fail
          refine (K2 _).mono ?_
          rintro e w2 ⟨rfl, hbw2⟩
          obtain ⟨hB2, hs2⟩ := grow0 hB1 hbw2
          have qa2 := live0 qa1 (by first | omega | (simp; omega)) hbw2
          have na2 : wc.heap.size < w2.heap.size := by omega
          have ma2 : ¬ (wc.heap.size = w2.heap.size) := by omega
          clear qa1 hbw2 hB1
          go_wp2_with fail
          refine (K3 _).mono ?_
          rintro e w3 ⟨rfl, hbw3⟩
          obtain ⟨hB3, hs3⟩ := grow0 hB2 hbw3
          have qa3 := live0 qa2 (by first | omega | (simp; omega)) hbw3
          have na3 : wc.heap.size < w3.heap.size := by omega
          have ma3 : ¬ (wc.heap.size = w3.heap.size) := by omega
          clear qa2 hbw3 hB2
          go_wp2_with fail
          go_ret
          exact ⟨rfl, by (repeat (first | (with_reducible exact Below.refl _ _) | (with_reducible refine bl_alloc ?_ ?_ _; focus (first | omega | (simp; done) | (simp; omega))) | (with_reducible refine bl_set ?_ ?_ _; focus (first | omega | (simp; done) | (simp; omega))) | (with_reducible refine Below.drew ?_) | (with_reducible refine below_drewN ?_ _) | (with_reducible refine below_step ?_ (by assumption))))⟩
      · have h3 : (Z == -1) = false := by simpa using h1
        have h4 : (Z != -1) = true := by simpa using h1
        clear hlaw h1
        go_wp2_with fail
        refine (K1 _).mono ?_
        rintro e w1 ⟨rfl, hbw1⟩
        obtain ⟨hB1, hs1⟩ := grow1 hb1 hbw1
        have qa1 := new1 hbw1
        have na1 : wc.heap.size < w1.heap.size := by omega
        have ma1 : ¬ (wc.heap.size = w1.heap.size) := by omega
        clear hbw1 hb1
        go_wp2_with fail
        refine (K2 _).mono ?_
        rintro e w2 ⟨rfl, hbw2⟩
        obtain ⟨hB2, hs2⟩ := grow0 hB1 hbw2
        have qa2 := live0 qa1 (by first | omega | (simp; omega)) hbw2
        have na2 : wc.heap.size < w2.heap.size := by omega
        have ma2 : ¬ (wc.heap.size = w2.heap.size) := by omega
        clear qa1 hbw2 hB1
        go_wp2_with fail
        refine (K3 _).mono ?_
        rintro e w3 ⟨rfl, hbw3⟩
        obtain ⟨hB3, hs3⟩ := grow0 hB2 hbw3
        have qa3 := live0 qa2 (by first | omega | (simp; omega)) hbw3
        have na3 : wc.heap.size < w3.heap.size := by omega
        have ma3 : ¬ (wc.heap.size = w3.heap.size) := by omega
        clear qa2 hbw3 hB2
        go_wp2_with fail
        go_ret
        exact ⟨rfl, by (repeat (first | (with_reducible exact Below.refl _ _) | (with_reducible refine bl_alloc ?_ ?_ _; focus (first | omega | (simp; done) | (simp; omega))) | (with_reducible refine bl_set ?_ ?_ _; focus (first | omega | (simp; done) | (simp; omega))) | (with_reducible refine Below.drew ?_) | (with_reducible refine below_drewN ?_ _) | (with_reducible refine below_step ?_ (by assumption))))⟩

set_option maxRecDepth 100000 in
theorem lifted (os : Os) (started : os.Started) (H : Type) (enc : TypeId × Value → H) :
    ReturnsInHanded {} Try.checked os 9 .any (Rows.fnAllLinesSpec.pre6 enc Try.prog Try.f9 Rows.fnAllLinesRow.domain false) (Rows.fnAllLinesSpec.post enc Try.prog Try.f9 false true false false) := by
  refine returnsInHanded_of_change (C := Try.checked) own started (by kernel_rfl) Try.func9
    (ChangeSpec.witness6 (enc := enc) (C := Try.checked) false ⟨#[], #[.slice none 0 0], []⟩ 8 (by kernel_rfl) (by kernel_rfl) (by kernel_rfl) (by kernel_rfl)) ?_
  intro W base args ds gs before hval0 hW hcnd _
  have hval : ∀ (j : Nat) t v, Try.f9.params[j]? = some t → args[j]? = some v → Value.okWide Try.prog W .any base t v := hval0
  have hW' := hW
  obtain ⟨p, q, hA0, hV, rfl, hfz, hnd⟩ := hW
  have hA : DataW.TrodAll enc Try.prog W 0 (fun _ => true) true Try.f9.params.toList args.toList ds p := hA0
  rw [Try.params9] at hA hval
  obtain ⟨v0, vs0, d0, ds0, p0, q0, hargs, rfl, rfl, h0, r0⟩ := trodAll_cons hA
  obtain ⟨rfl, rfl, rfl⟩ := trodAll_nil r0
  obtain rfl : args = #[v0] := by cases args; simp_all
  obtain ⟨rfl, rfl⟩ := trodVars_none hV
  obtain ⟨a0, len0, cap0, rfl⟩ := okWide_slice Try.underlying22 (hval 0 22 v0 rfl rfl)
  have k0 := h0
  have lt0 : ∀ x ∈ p0, x.block < W.heap.size := by obtain ⟨m, hm⟩ := k0; exact DataW.trod_lt m _ _ _ hm
  obtain ⟨l0, w0⟩ : ∃ l, ArgRow .u8 W a0 len0 cap0 l := by
    obtain ⟨fuel, hf⟩ := h0
    rcases open_ints Try.underlying22 Try.underlying5 (by kernel_rfl) hf with ⟨hcs, _⟩ | ⟨x, l, c, zs, hcs, _, hl, hm, hz, _, hcell, hwz⟩
    · simp [Value.cells] at hcs
      obtain ⟨rfl, rfl, rfl⟩ := hcs
      exact ⟨[], rfl, ⟨Nat.le_refl _, by unfold maxLen; omega⟩, by simp, .inl rfl⟩
    · simp [Value.cells] at hcs
      obtain ⟨rfl, rfl, rfl⟩ := hcs
      exact ⟨_, argRow_of hl hm (by simpa using hz) hcell hwz⟩
  clear hA0 hval0
  refine (walk a0 len0 cap0 l0 W w0).mono fun e W' ⟨he, bel⟩ => ?_
  subst he
  exact ⟨_, rfl, _, _, _, [], _, [], hW', trodAll_mk1 (shut_bool Try.underlying4 _), (trodAll_cons_mk (Below.trod laidOut (by kernel_rfl) (of_decide_eq_true (by kernel_rfl)) k0 bel lt0) trodAll_mk0), rfl, bel.frame _, fun h => by cases h⟩

theorem over : Rows.fnAllLinesRow.holds Try.pinned (OpenSpec.ofChange Rows.fnAllLinesSpec) :=
  OpenClaim.holds_of_wide 9 Try.f9 rfl rfl rfl rfl rfl rfl rfl ⟨rfl, rfl, rfl, rfl, rfl⟩ rfl rfl rfl rfl rfl (by kernel_rfl) Try.func9 (by kernel_rfl)
    (of_decide_eq_true (by kernel_rfl)) (by unfold Func.isWrapper; first | (rw [if_pos (by decide +kernel)]; kernel_rfl) | (rw [if_neg (by decide +kernel)]; exact ⟨rfl, rfl⟩))
    (fun os started H enc _ => lifted os started H enc)

theorem proved : Rows.FnAllLinesSaid := over
#print axioms proved
end Go.Proofs.Ytaapkkbfmgimkaa.lawAllLines
