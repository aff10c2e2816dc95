/- Genera of sums with a line have products less 1: for every code's drawn class. No condition. -/
import Derived.Test.YtaapkkbfmgimkaaLive
import Derived.Test.YtaapkkbfmgimkaaDrawD
import Derived.Test.YtaapkkbfmgimkaaRow
import Derived.Test.YtaapkkbfmgimkaaArg
namespace Go.Proofs.Ytaapkkbfmgimkaa.lawGenus
open Go.ChangeShapes Go.WideShapes Go.ChangeAt Go.RowKit
set_option linter.unusedVariables false
set_option linter.unusedSimpArgs false

set_option maxRecDepth 20000 in
set_option maxHeartbeats 16000000 in
theorem walk (a0 : Option Addr) (n0 cap0 : Nat) (l0 : List Int) (w : World) (h0 : ArgRow .u8 w a0 n0 cap0 l0) :
    Calls Try.prog 10 #[.slice a0 n0 cap0] w fun e w' => e = .returned (.bool true) ∧ Below w.heap.size w w' := by
  by_cases hbig : 1048576 < n0
  · go_enter Try.func10, Try.ntmps10
    go_wp2
    go_ret
    exact ⟨rfl, by (repeat (first | (with_reducible exact Below.refl _ _) | (with_reducible refine bl_alloc ?_ ?_ _; focus (first | omega | (simp; done) | (simp; omega))) | (with_reducible refine bl_set ?_ ?_ _; focus (first | omega | (simp; done) | (simp; omega))) | (with_reducible refine Below.drew ?_) | (with_reducible refine below_drewN ?_ _) | (with_reducible refine below_step ?_ (by assumption))))⟩
  · go_enter Try.func10, Try.ntmps10
    go_wp2_with fail
    refine (drawClassGenus_any a0 n0 cap0 l0 _ h0).mono ?_
    rintro e wc ⟨xd, xa, xb, xc, xe, xf, xg, rfl, hsm, hb1⟩
    have hsz := hb1.size
    clear h0
    cases hv : vldB ⟨xd, xa, xb, xc, xe, xf, xg⟩
    · have K1 := fun W : World => iGenus_any xd xa xb xc xe xf xg W
      have K2 := fun W : World => sGenus_any xd xa xb xc xe xf xg W
      rw [hv, genR_f hv] at K1 K2
      clear hsm
      go_wp2_with fail
      refine (K1 _).mono ?_
      rintro e w1 ⟨rfl, hbw1⟩
      obtain ⟨hB1, hs1⟩ := grow1 hb1 hbw1
      have qa1 := new1 hbw1
      have na1 : wc.heap.size < w1.heap.size := by omega
      have ma1 : ¬ (wc.heap.size = w1.heap.size) := by omega
      clear hbw1 hb1
      go_wp2_with fail
      refine (K2 _).mono ?_
      rintro e w2 ⟨rfl, hbw2⟩
      obtain ⟨hB2, hs2⟩ := grow0 hB1 hbw2
      have qa2 := live0 qa1 (by first | omega | (simp; omega)) hbw2
      have na2 : wc.heap.size < w2.heap.size := by omega
      have ma2 : ¬ (wc.heap.size = w2.heap.size) := by omega
      clear qa1 hbw2 hB1
      go_wp2_with fail
      go_ret
      exact ⟨rfl, by (repeat (first | (with_reducible exact Below.refl _ _) | (with_reducible refine bl_alloc ?_ ?_ _; focus (first | omega | (simp; done) | (simp; omega))) | (with_reducible refine bl_set ?_ ?_ _; focus (first | omega | (simp; done) | (simp; omega))) | (with_reducible refine Below.drew ?_) | (with_reducible refine below_drewN ?_ _) | (with_reducible refine below_step ?_ (by assumption))))⟩
    · have K1 := fun W : World => iGenus_any xd xa xb xc xe xf xg W
      have K2 := fun W : World => sGenus_any xd xa xb xc xe xf xg W
      rw [hv, genR_t hv] at K1 K2
      have h0 : vldB (LC 0) = true := by decide
      have K3 : ∀ W : World, Calls Try.prog 29 #[.int .i64 0] W fun e w' => e = .returned (.tuple #[.agg #[.int .i64 0, .int .i64 (-1), .int .i64 0, .int .i64 0, .int .i64 0, .int .i64 0, .int .i64 0], .bool true]) ∧ Below W.heap.size W w' := fun W => iClassOf_in 0 (by omega) W
      have K6 : ∀ W : World, Calls Try.prog 19 #[.agg #[.int .i64 xd, .int .i64 xa, .int .i64 xb, .int .i64 xc, .int .i64 xe, .int .i64 xf, .int .i64 xg], .agg #[.int .i64 0, .int .i64 (-1), .int .i64 0, .int .i64 0, .int .i64 0, .int .i64 0, .int .i64 0]] W fun e w' => e = .returned (.tuple #[.int .i64 (prodC ⟨xd, xa, xb, xc, xe, xf, xg⟩ (LC 0)), .bool true]) ∧ Below W.heap.size W w' := fun W => by
        have h := iProduct_any xd xa xb xc xe xf xg 0 (-1) 0 0 0 0 0 W
        rw [prodR_t hv (show vldB ⟨0, -1, 0, 0, 0, 0, 0⟩ = true by decide), hv, show vldB ⟨0, -1, 0, 0, 0, 0, 0⟩ = true by decide] at h
        exact h
      have hpb := prodC_bd hv h0
      have hgb := gen_bd hv
      obtain ⟨hp1, hp2⟩ := hpb
      obtain ⟨hg1, hg2⟩ := hgb
      obtain ⟨zd, za, zb, zc, ze, zf, zg, hz⟩ := cls_ex (addR ⟨xd, xa, xb, xc, xe, xf, xg⟩ (LC 0))
      cases hq : addB ⟨xd, xa, xb, xc, xe, xf, xg⟩ (LC 0)
      · have hzz := addR_f hq
        rw [hz] at hzz
        simp only [zeroC, Cls.mk.injEq] at hzz
        obtain ⟨rfl, rfl, rfl, rfl, rfl, rfl, rfl⟩ := hzz
        have K4 : ∀ W : World, Calls Try.prog 15 #[.agg #[.int .i64 xd, .int .i64 xa, .int .i64 xb, .int .i64 xc, .int .i64 xe, .int .i64 xf, .int .i64 xg], .agg #[.int .i64 0, .int .i64 (-1), .int .i64 0, .int .i64 0, .int .i64 0, .int .i64 0, .int .i64 0]] W fun e w' => e = .returned (.tuple #[.agg #[.int .i64 0, .int .i64 0, .int .i64 0, .int .i64 0, .int .i64 0, .int .i64 0, .int .i64 0], .bool false]) ∧ Below W.heap.size W w' := fun W => by
          have h := iAdd_any xd xa xb xc xe xf xg 0 (-1) 0 0 0 0 0 W
          rw [show addR ⟨xd, xa, xb, xc, xe, xf, xg⟩ ⟨0, -1, 0, 0, 0, 0, 0⟩ = ⟨0, 0, 0, 0, 0, 0, 0⟩ from hz, show addB ⟨xd, xa, xb, xc, xe, xf, xg⟩ ⟨0, -1, 0, 0, 0, 0, 0⟩ = false from hq] at h
          exact h
        have K5 := fun W : World => iGenus_any 0 0 0 0 0 0 0 W
        rw [show vldB ⟨0, 0, 0, 0, 0, 0, 0⟩ = true by decide, show genR ⟨0, 0, 0, 0, 0, 0, 0⟩ = 1 by decide +kernel] at K5
        generalize prodC ⟨xd, xa, xb, xc, xe, xf, xg⟩ (LC 0) = P at K6 hp1 hp2
        generalize genC ⟨xd, xa, xb, xc, xe, xf, xg⟩ = G at K1 K2 hg1 hg2
        clear hz hq hv h0 hsm
        go_wp2_with fail
        refine (K1 _).mono ?_
        rintro e w1 ⟨rfl, hbw1⟩
        obtain ⟨hB1, hs1⟩ := grow1 hb1 hbw1
        have qa1 := new1 hbw1
        have na1 : wc.heap.size < w1.heap.size := by omega
        have ma1 : ¬ (wc.heap.size = w1.heap.size) := by omega
        clear hbw1 hb1
        go_wp2_with fail
        refine (K2 _).mono ?_
        rintro e w2 ⟨rfl, hbw2⟩
        obtain ⟨hB2, hs2⟩ := grow0 hB1 hbw2
        have qa2 := live0 qa1 (by first | omega | (simp; omega)) hbw2
        have na2 : wc.heap.size < w2.heap.size := by omega
        have ma2 : ¬ (wc.heap.size = w2.heap.size) := by omega
        clear qa1 hbw2 hB1
        go_wp2_with fail
        refine (K3 _).mono ?_
        rintro e w3 ⟨rfl, hbw3⟩
        obtain ⟨hB3, hs3⟩ := grow0 hB2 hbw3
        have qa3 := live0 qa2 (by first | omega | (simp; omega)) hbw3
        have na3 : wc.heap.size < w3.heap.size := by omega
        have ma3 : ¬ (wc.heap.size = w3.heap.size) := by omega
        clear qa2 hbw3 hB2
        go_wp2_with fail
        refine (K4 _).mono ?_
        rintro e w4 ⟨rfl, hbw4⟩
        obtain ⟨hB4, hs4⟩ := grow1 hB3 hbw4
        have qa4 := live1 qa3 (by first | omega | (simp; omega)) hbw4
        have qn4 := new1 hbw4
        have na4 : wc.heap.size < w4.heap.size := by omega
        have ma4 : ¬ (wc.heap.size = w4.heap.size) := by omega
        have nn4 : w3.heap.size < w4.heap.size := by omega
        have mn4 : ¬ (w3.heap.size = w4.heap.size) := by omega
        clear qa3 hbw4 hB3
        go_wp2_with fail
        refine (K5 _).mono ?_
        rintro e w5 ⟨rfl, hbw5⟩
        obtain ⟨hB5, hs5⟩ := grow1 hB4 hbw5
        have qa5 := live1 qa4 (by first | omega | (simp; omega)) hbw5
        have qn5 := live1 qn4 (by first | omega | (simp; omega)) hbw5
        have qs5 := new1 hbw5
        have na5 : wc.heap.size < w5.heap.size := by omega
        have ma5 : ¬ (wc.heap.size = w5.heap.size) := by omega
        have nn5 : w3.heap.size < w5.heap.size := by omega
        have mn5 : ¬ (w3.heap.size = w5.heap.size) := by omega
        have ns5 : w4.heap.size < w5.heap.size := by omega
        have ms5 : ¬ (w4.heap.size = w5.heap.size) := by omega
        clear qa4 qn4 hbw5 hB4
        go_wp2_with fail
        refine (K6 _).mono ?_
        rintro e w6 ⟨rfl, hbw6⟩
        obtain ⟨hB6, hs6⟩ := grow0 hB5 hbw6
        have qa6 := live0 qa5 (by first | omega | (simp; omega)) hbw6
        have qn6 := live0 qn5 (by first | omega | (simp; omega)) hbw6
        have qs6 := live0 qs5 (by first | omega | (simp; omega)) hbw6
        have na6 : wc.heap.size < w6.heap.size := by omega
        have ma6 : ¬ (wc.heap.size = w6.heap.size) := by omega
        have nn6 : w3.heap.size < w6.heap.size := by omega
        have mn6 : ¬ (w3.heap.size = w6.heap.size) := by omega
        have ns6 : w4.heap.size < w6.heap.size := by omega
        have ms6 : ¬ (w4.heap.size = w6.heap.size) := by omega
        clear qa5 qn5 qs5 hbw6 hB5
        go_wp2_with fail
        go_ret
        exact ⟨rfl, by (repeat (first | (with_reducible exact Below.refl _ _) | (with_reducible refine bl_alloc ?_ ?_ _; focus (first | omega | (simp; done) | (simp; omega))) | (with_reducible refine bl_set ?_ ?_ _; focus (first | omega | (simp; done) | (simp; omega))) | (with_reducible refine Below.drew ?_) | (with_reducible refine below_drewN ?_ _) | (with_reducible refine below_step ?_ (by assumption))))⟩
      · obtain ⟨hgs, _, _⟩ := gen_sum hq
        have hvz := (addB_parts hq).2.2
        rw [addR_t hq] at hz
        rw [hz] at hgs hvz
        have K4 : ∀ W : World, Calls Try.prog 15 #[.agg #[.int .i64 xd, .int .i64 xa, .int .i64 xb, .int .i64 xc, .int .i64 xe, .int .i64 xf, .int .i64 xg], .agg #[.int .i64 0, .int .i64 (-1), .int .i64 0, .int .i64 0, .int .i64 0, .int .i64 0, .int .i64 0]] W fun e w' => e = .returned (.tuple #[.agg #[.int .i64 zd, .int .i64 za, .int .i64 zb, .int .i64 zc, .int .i64 ze, .int .i64 zf, .int .i64 zg], .bool true]) ∧ Below W.heap.size W w' := fun W => by
          have h := iAdd_any xd xa xb xc xe xf xg 0 (-1) 0 0 0 0 0 W
          rw [show addR ⟨xd, xa, xb, xc, xe, xf, xg⟩ ⟨0, -1, 0, 0, 0, 0, 0⟩ = ⟨zd, za, zb, zc, ze, zf, zg⟩ from (addR_t hq).trans hz, show addB ⟨xd, xa, xb, xc, xe, xf, xg⟩ ⟨0, -1, 0, 0, 0, 0, 0⟩ = true from hq] at h
          exact h
        have K5 : ∀ W : World, Calls Try.prog 30 #[.agg #[.int .i64 zd, .int .i64 za, .int .i64 zb, .int .i64 zc, .int .i64 ze, .int .i64 zf, .int .i64 zg]] W fun e w' => e = .returned (.tuple #[.int .i64 (genC ⟨xd, xa, xb, xc, xe, xf, xg⟩ + prodC ⟨xd, xa, xb, xc, xe, xf, xg⟩ (LC 0) - 1), .bool true]) ∧ Below W.heap.size W w' := fun W => by
          have h := iGenus_any zd za zb zc ze zf zg W
          rw [genR_t hvz, hvz, hgs] at h
          exact h
        generalize prodC ⟨xd, xa, xb, xc, xe, xf, xg⟩ (LC 0) = P at K6 K5 hp1 hp2
        generalize genC ⟨xd, xa, xb, xc, xe, xf, xg⟩ = G at K1 K2 K5 hg1 hg2
        clear hz hq hv h0 hsm hgs hvz
        go_wp2_with fail
        refine (K1 _).mono ?_
        rintro e w1 ⟨rfl, hbw1⟩
        obtain ⟨hB1, hs1⟩ := grow1 hb1 hbw1
        have qa1 := new1 hbw1
        have na1 : wc.heap.size < w1.heap.size := by omega
        have ma1 : ¬ (wc.heap.size = w1.heap.size) := by omega
        clear hbw1 hb1
        go_wp2_with fail
        refine (K2 _).mono ?_
        rintro e w2 ⟨rfl, hbw2⟩
        obtain ⟨hB2, hs2⟩ := grow0 hB1 hbw2
        have qa2 := live0 qa1 (by first | omega | (simp; omega)) hbw2
        have na2 : wc.heap.size < w2.heap.size := by omega
        have ma2 : ¬ (wc.heap.size = w2.heap.size) := by omega
        clear qa1 hbw2 hB1
        go_wp2_with fail
        refine (K3 _).mono ?_
        rintro e w3 ⟨rfl, hbw3⟩
        obtain ⟨hB3, hs3⟩ := grow0 hB2 hbw3
        have qa3 := live0 qa2 (by first | omega | (simp; omega)) hbw3
        have na3 : wc.heap.size < w3.heap.size := by omega
        have ma3 : ¬ (wc.heap.size = w3.heap.size) := by omega
        clear qa2 hbw3 hB2
        go_wp2_with fail
        refine (K4 _).mono ?_
        rintro e w4 ⟨rfl, hbw4⟩
        obtain ⟨hB4, hs4⟩ := grow1 hB3 hbw4
        have qa4 := live1 qa3 (by first | omega | (simp; omega)) hbw4
        have qn4 := new1 hbw4
        have na4 : wc.heap.size < w4.heap.size := by omega
        have ma4 : ¬ (wc.heap.size = w4.heap.size) := by omega
        have nn4 : w3.heap.size < w4.heap.size := by omega
        have mn4 : ¬ (w3.heap.size = w4.heap.size) := by omega
        clear qa3 hbw4 hB3
        go_wp2_with fail
        refine (K5 _).mono ?_
        rintro e w5 ⟨rfl, hbw5⟩
        obtain ⟨hB5, hs5⟩ := grow1 hB4 hbw5
        have qa5 := live1 qa4 (by first | omega | (simp; omega)) hbw5
        have qn5 := live1 qn4 (by first | omega | (simp; omega)) hbw5
        have qs5 := new1 hbw5
        have na5 : wc.heap.size < w5.heap.size := by omega
        have ma5 : ¬ (wc.heap.size = w5.heap.size) := by omega
        have nn5 : w3.heap.size < w5.heap.size := by omega
        have mn5 : ¬ (w3.heap.size = w5.heap.size) := by omega
        have ns5 : w4.heap.size < w5.heap.size := by omega
        have ms5 : ¬ (w4.heap.size = w5.heap.size) := by omega
        clear qa4 qn4 hbw5 hB4
        go_wp2_with fail
        refine (K6 _).mono ?_
        rintro e w6 ⟨rfl, hbw6⟩
        obtain ⟨hB6, hs6⟩ := grow0 hB5 hbw6
        have qa6 := live0 qa5 (by first | omega | (simp; omega)) hbw6
        have qn6 := live0 qn5 (by first | omega | (simp; omega)) hbw6
        have qs6 := live0 qs5 (by first | omega | (simp; omega)) hbw6
        have na6 : wc.heap.size < w6.heap.size := by omega
        have ma6 : ¬ (wc.heap.size = w6.heap.size) := by omega
        have nn6 : w3.heap.size < w6.heap.size := by omega
        have mn6 : ¬ (w3.heap.size = w6.heap.size) := by omega
        have ns6 : w4.heap.size < w6.heap.size := by omega
        have ms6 : ¬ (w4.heap.size = w6.heap.size) := by omega
        clear qa5 qn5 qs5 hbw6 hB5
        go_wp2_with fail
        go_ret
        exact ⟨rfl, by (repeat (first | (with_reducible exact Below.refl _ _) | (with_reducible refine bl_alloc ?_ ?_ _; focus (first | omega | (simp; done) | (simp; omega))) | (with_reducible refine bl_set ?_ ?_ _; focus (first | omega | (simp; done) | (simp; omega))) | (with_reducible refine Below.drew ?_) | (with_reducible refine below_drewN ?_ _) | (with_reducible refine below_step ?_ (by assumption))))⟩

set_option maxRecDepth 100000 in
theorem lifted (os : Os) (started : os.Started) (H : Type) (enc : TypeId × Value → H) :
    ReturnsInHanded {} Try.checked os 10 .any (Rows.fnGenusSpec.pre6 enc Try.prog Try.f10 Rows.fnGenusRow.domain false) (Rows.fnGenusSpec.post enc Try.prog Try.f10 false true false false) := by
  refine returnsInHanded_of_change (C := Try.checked) own started (by kernel_rfl) Try.func10
    (ChangeSpec.witness6 (enc := enc) (C := Try.checked) false ⟨#[], #[.slice none 0 0], []⟩ 8 (by kernel_rfl) (by kernel_rfl) (by kernel_rfl) (by kernel_rfl)) ?_
  intro W base args ds gs before hval0 hW hcnd _
  have hval : ∀ (j : Nat) t v, Try.f10.params[j]? = some t → args[j]? = some v → Value.okWide Try.prog W .any base t v := hval0
  have hW' := hW
  obtain ⟨p, q, hA0, hV, rfl, hfz, hnd⟩ := hW
  have hA : DataW.TrodAll enc Try.prog W 0 (fun _ => true) true Try.f10.params.toList args.toList ds p := hA0
  rw [Try.params10] at hA hval
  obtain ⟨v0, vs0, d0, ds0, p0, q0, hargs, rfl, rfl, h0, r0⟩ := trodAll_cons hA
  obtain ⟨rfl, rfl, rfl⟩ := trodAll_nil r0
  obtain rfl : args = #[v0] := by cases args; simp_all
  obtain ⟨rfl, rfl⟩ := trodVars_none hV
  obtain ⟨a0, len0, cap0, rfl⟩ := okWide_slice Try.underlying22 (hval 0 22 v0 rfl rfl)
  have k0 := h0
  have lt0 : ∀ x ∈ p0, x.block < W.heap.size := by obtain ⟨m, hm⟩ := k0; exact DataW.trod_lt m _ _ _ hm
  obtain ⟨l0, w0⟩ : ∃ l, ArgRow .u8 W a0 len0 cap0 l := by
    obtain ⟨fuel, hf⟩ := h0
    rcases open_ints Try.underlying22 Try.underlying5 (by kernel_rfl) hf with ⟨hcs, _⟩ | ⟨x, l, c, zs, hcs, _, hl, hm, hz, _, hcell, hwz⟩
    · simp [Value.cells] at hcs
      obtain ⟨rfl, rfl, rfl⟩ := hcs
      exact ⟨[], rfl, ⟨Nat.le_refl _, by unfold maxLen; omega⟩, by simp, .inl rfl⟩
    · simp [Value.cells] at hcs
      obtain ⟨rfl, rfl, rfl⟩ := hcs
      exact ⟨_, argRow_of hl hm (by simpa using hz) hcell hwz⟩
  clear hA0 hval0
  refine (walk a0 len0 cap0 l0 W w0).mono fun e W' ⟨he, bel⟩ => ?_
  subst he
  exact ⟨_, rfl, _, _, _, [], _, [], hW', trodAll_mk1 (shut_bool Try.underlying4 _), (trodAll_cons_mk (Below.trod laidOut (by kernel_rfl) (of_decide_eq_true (by kernel_rfl)) k0 bel lt0) trodAll_mk0), rfl, bel.frame _, fun h => by cases h⟩

theorem over : Rows.fnGenusRow.holds Try.pinned (OpenSpec.ofChange Rows.fnGenusSpec) :=
  OpenClaim.holds_of_wide 10 Try.f10 rfl rfl rfl rfl rfl rfl rfl ⟨rfl, rfl, rfl, rfl, rfl⟩ rfl rfl rfl rfl rfl (by kernel_rfl) Try.func10 (by kernel_rfl)
    (of_decide_eq_true (by kernel_rfl)) (by unfold Func.isWrapper; first | (rw [if_pos (by decide +kernel)]; kernel_rfl) | (rw [if_neg (by decide +kernel)]; exact ⟨rfl, rfl⟩))
    (fun os started H enc _ => lifted os started H enc)

theorem proved : Rows.FnGenusSaid := over
#print axioms proved
end Go.Proofs.Ytaapkkbfmgimkaa.lawGenus
