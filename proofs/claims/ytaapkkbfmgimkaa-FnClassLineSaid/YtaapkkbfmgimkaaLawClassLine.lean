/- Line classes have the product -1 and the degree 1: for every code's drawn class. No condition. -/
import Derived.Test.YtaapkkbfmgimkaaLive
import Derived.Test.YtaapkkbfmgimkaaDrawD
import Derived.Test.YtaapkkbfmgimkaaRow
import Derived.Test.YtaapkkbfmgimkaaArg
namespace Go.Proofs.Ytaapkkbfmgimkaa.lawClassLine
open Go.ChangeShapes Go.WideShapes Go.ChangeAt Go.RowKit
set_option linter.unusedVariables false
set_option linter.unusedSimpArgs false

set_option maxRecDepth 20000 in
set_option maxHeartbeats 16000000 in
theorem walk (a0 : Option Addr) (n0 cap0 : Nat) (l0 : List Int) (w : World) (h0 : ArgRow .u8 w a0 n0 cap0 l0) :
    Calls Try.prog 8 #[.slice a0 n0 cap0] w fun e w' => e = .returned (.bool true) ∧ Below w.heap.size w w' := by
  by_cases hbig : 1048576 < n0
  · go_enter Try.func8, Try.ntmps8
    go_wp2
    go_ret
    exact ⟨rfl, by (repeat (first | (with_reducible exact Below.refl _ _) | (with_reducible refine bl_alloc ?_ ?_ _; focus (first | omega | (simp; done) | (simp; omega))) | (with_reducible refine bl_set ?_ ?_ _; focus (first | omega | (simp; done) | (simp; omega))) | (with_reducible refine Below.drew ?_) | (with_reducible refine below_drewN ?_ _) | (with_reducible refine below_step ?_ (by assumption))))⟩
  · go_enter Try.func8, Try.ntmps8
    go_wp2_with fail
    refine (drawClassLine_any a0 n0 cap0 l0 _ h0).mono ?_
    rintro e wc ⟨xd, xa, xb, xc, xe, xf, xg, rfl, hsm, hb1⟩
    have hsz := hb1.size
    clear h0
    by_cases hcl : 0 ≤ CL ⟨xd, xa, xb, xc, xe, xf, xg⟩
    · obtain ⟨j, hj, hcj, hlj⟩ := CL_at hcl
      obtain ⟨n1, n2, n3, n4⟩ := line_nums j hj
      rw [hlj] at n1 n2 n3 n4
      have K1 : ∀ W : World, Calls Try.prog 27 #[.agg #[.int .i64 xd, .int .i64 xa, .int .i64 xb, .int .i64 xc, .int .i64 xe, .int .i64 xf, .int .i64 xg]] W fun e w' => e = .returned (.int .i64 (j : Int)) ∧ Below W.heap.size W w' := fun W => by
        have h := iClassLine_any xd xa xb xc xe xf xg W
        rw [hcj] at h
        exact h
      have K2 : ∀ W : World, Calls Try.prog 28 #[.agg #[.int .i64 xd, .int .i64 xa, .int .i64 xb, .int .i64 xc, .int .i64 xe, .int .i64 xf, .int .i64 xg]] W fun e w' => e = .returned (.int .i64 (j : Int)) ∧ Below W.heap.size W w' := fun W => by
        have h := sClassLine_any xd xa xb xc xe xf xg W
        rw [hcj] at h
        exact h
      have K3 : ∀ W : World, Calls Try.prog 29 #[.int .i64 (j : Int)] W fun e w' => e = .returned (.tuple #[.agg #[.int .i64 xd, .int .i64 xa, .int .i64 xb, .int .i64 xc, .int .i64 xe, .int .i64 xf, .int .i64 xg], .bool true]) ∧ Below W.heap.size W w' := fun W => by
        have h := iClassOf_in j hj W
        rw [hlj] at h
        exact h
      have K4 : ∀ W : World, Calls Try.prog 19 #[.agg #[.int .i64 xd, .int .i64 xa, .int .i64 xb, .int .i64 xc, .int .i64 xe, .int .i64 xf, .int .i64 xg], .agg #[.int .i64 xd, .int .i64 xa, .int .i64 xb, .int .i64 xc, .int .i64 xe, .int .i64 xf, .int .i64 xg]] W fun e w' => e = .returned (.tuple #[.int .i64 (-1), .bool true]) ∧ Below W.heap.size W w' := fun W => by
        have h := iProduct_any xd xa xb xc xe xf xg xd xa xb xc xe xf xg W
        rw [n1, n4] at h
        exact h
      have K5 : ∀ W : World, Calls Try.prog 17 #[.agg #[.int .i64 xd, .int .i64 xa, .int .i64 xb, .int .i64 xc, .int .i64 xe, .int .i64 xf, .int .i64 xg]] W fun e w' => e = .returned (.tuple #[.int .i64 1, .bool true]) ∧ Below W.heap.size W w' := fun W => by
        have h := iDegree_any xd xa xb xc xe xf xg W
        rw [n2, n4] at h
        exact h
      have K6 : ∀ W : World, Calls Try.prog 30 #[.agg #[.int .i64 xd, .int .i64 xa, .int .i64 xb, .int .i64 xc, .int .i64 xe, .int .i64 xf, .int .i64 xg]] W fun e w' => e = .returned (.tuple #[.int .i64 0, .bool true]) ∧ Below W.heap.size W w' := fun W => by
        have h := iGenus_any xd xa xb xc xe xf xg W
        rw [n3, n4] at h
        exact h
      have hq := fun W : World => eql_self7 xd xa xb xc xe xf xg W
      clear hcl hcj hlj n1 n2 n3 n4 hsm
      go_wp2_with fail
      refine (K1 _).mono ?_
      rintro e w1 ⟨rfl, hbw1⟩
      obtain ⟨hB1, hs1⟩ := grow1 hb1 hbw1
      have qa1 := new1 hbw1
      have na1 : wc.heap.size < w1.heap.size := by omega
      have ma1 : ¬ (wc.heap.size = w1.heap.size) := by omega
      clear hbw1 hb1
      go_wp2_with fail
      refine (K2 _).mono ?_
      rintro e w2 ⟨rfl, hbw2⟩
      obtain ⟨hB2, hs2⟩ := grow0 hB1 hbw2
      have qa2 := live0 qa1 (by first | omega | (simp; omega)) hbw2
      have na2 : wc.heap.size < w2.heap.size := by omega
      have ma2 : ¬ (wc.heap.size = w2.heap.size) := by omega
      clear qa1 hbw2 hB1
      go_wp2_with fail
      refine (K3 _).mono ?_
      rintro e w3 ⟨rfl, hbw3⟩
      obtain ⟨hB3, hs3⟩ := grow0 hB2 hbw3
      have qa3 := live0 qa2 (by first | omega | (simp; omega)) hbw3
      have na3 : wc.heap.size < w3.heap.size := by omega
      have ma3 : ¬ (wc.heap.size = w3.heap.size) := by omega
      clear qa2 hbw3 hB2
      go_wp2_with fail
      refine (K4 _).mono ?_
      rintro e w4 ⟨rfl, hbw4⟩
      obtain ⟨hB4, hs4⟩ := grow1 hB3 hbw4
      have qa4 := live1 qa3 (by first | omega | (simp; omega)) hbw4
      have qx4 := new1 hbw4
      have na4 : wc.heap.size < w4.heap.size := by omega
      have ma4 : ¬ (wc.heap.size = w4.heap.size) := by omega
      have nx4 : w3.heap.size < w4.heap.size := by omega
      have mx4 : ¬ (w3.heap.size = w4.heap.size) := by omega
      clear qa3 hbw4 hB3
      go_wp2_with fail
      refine (K5 _).mono ?_
      rintro e w5 ⟨rfl, hbw5⟩
      obtain ⟨hB5, hs5⟩ := grow0 hB4 hbw5
      have qa5 := live0 qa4 (by first | omega | (simp; omega)) hbw5
      have qx5 := live0 qx4 (by first | omega | (simp; omega)) hbw5
      have na5 : wc.heap.size < w5.heap.size := by omega
      have ma5 : ¬ (wc.heap.size = w5.heap.size) := by omega
      have nx5 : w3.heap.size < w5.heap.size := by omega
      have mx5 : ¬ (w3.heap.size = w5.heap.size) := by omega
      clear qa4 qx4 hbw5 hB4
      go_wp2_with fail
      refine (K6 _).mono ?_
      rintro e w6 ⟨rfl, hbw6⟩
      obtain ⟨hB6, hs6⟩ := grow0 hB5 hbw6
      have qa6 := live0 qa5 (by first | omega | (simp; omega)) hbw6
      have qx6 := live0 qx5 (by first | omega | (simp; omega)) hbw6
      have na6 : wc.heap.size < w6.heap.size := by omega
      have ma6 : ¬ (wc.heap.size = w6.heap.size) := by omega
      have nx6 : w3.heap.size < w6.heap.size := by omega
      have mx6 : ¬ (w3.heap.size = w6.heap.size) := by omega
      clear qa5 qx5 hbw6 hB5
      go_wp2_with fail
      go_ret
      exact ⟨rfl, by (repeat (first | (with_reducible exact Below.refl _ _) | (with_reducible refine bl_alloc ?_ ?_ _; focus (first | omega | (simp; done) | (simp; omega))) | (with_reducible refine bl_set ?_ ?_ _; focus (first | omega | (simp; done) | (simp; omega))) | (with_reducible refine Below.drew ?_) | (with_reducible refine below_drewN ?_ _) | (with_reducible refine below_step ?_ (by assumption))))⟩
    · have K1 := fun W : World => iClassLine_any xd xa xb xc xe xf xg W
      have K2 := fun W : World => sClassLine_any xd xa xb xc xe xf xg W
      generalize CL ⟨xd, xa, xb, xc, xe, xf, xg⟩ = V at K1 K2 hcl
      have hlt : V < 0 := by omega
      clear hcl hsm
      go_wp2_with fail
      refine (K1 _).mono ?_
      rintro e w1 ⟨rfl, hbw1⟩
      obtain ⟨hB1, hs1⟩ := grow1 hb1 hbw1
      have qa1 := new1 hbw1
      have na1 : wc.heap.size < w1.heap.size := by omega
      have ma1 : ¬ (wc.heap.size = w1.heap.size) := by omega
      clear hbw1 hb1
      go_wp2_with fail
      refine (K2 _).mono ?_
      rintro e w2 ⟨rfl, hbw2⟩
      obtain ⟨hB2, hs2⟩ := grow0 hB1 hbw2
      have qa2 := live0 qa1 (by first | omega | (simp; omega)) hbw2
      have na2 : wc.heap.size < w2.heap.size := by omega
      have ma2 : ¬ (wc.heap.size = w2.heap.size) := by omega
      clear qa1 hbw2 hB1
      go_wp2_with fail
      go_ret
      exact ⟨rfl, by (repeat (first | (with_reducible exact Below.refl _ _) | (with_reducible refine bl_alloc ?_ ?_ _; focus (first | omega | (simp; done) | (simp; omega))) | (with_reducible refine bl_set ?_ ?_ _; focus (first | omega | (simp; done) | (simp; omega))) | (with_reducible refine Below.drew ?_) | (with_reducible refine below_drewN ?_ _) | (with_reducible refine below_step ?_ (by assumption))))⟩

set_option maxRecDepth 100000 in
theorem lifted (os : Os) (started : os.Started) (H : Type) (enc : TypeId × Value → H) :
    ReturnsInHanded {} Try.checked os 8 .any (Rows.fnClassLineSpec.pre6 enc Try.prog Try.f8 Rows.fnClassLineRow.domain false) (Rows.fnClassLineSpec.post enc Try.prog Try.f8 false true false false) := by
  refine returnsInHanded_of_change (C := Try.checked) own started (by kernel_rfl) Try.func8
    (ChangeSpec.witness6 (enc := enc) (C := Try.checked) false ⟨#[], #[.slice none 0 0], []⟩ 8 (by kernel_rfl) (by kernel_rfl) (by kernel_rfl) (by kernel_rfl)) ?_
  intro W base args ds gs before hval0 hW hcnd _
  have hval : ∀ (j : Nat) t v, Try.f8.params[j]? = some t → args[j]? = some v → Value.okWide Try.prog W .any base t v := hval0
  have hW' := hW
  obtain ⟨p, q, hA0, hV, rfl, hfz, hnd⟩ := hW
  have hA : DataW.TrodAll enc Try.prog W 0 (fun _ => true) true Try.f8.params.toList args.toList ds p := hA0
  rw [Try.params8] at hA hval
  obtain ⟨v0, vs0, d0, ds0, p0, q0, hargs, rfl, rfl, h0, r0⟩ := trodAll_cons hA
  obtain ⟨rfl, rfl, rfl⟩ := trodAll_nil r0
  obtain rfl : args = #[v0] := by cases args; simp_all
  obtain ⟨rfl, rfl⟩ := trodVars_none hV
  obtain ⟨a0, len0, cap0, rfl⟩ := okWide_slice Try.underlying22 (hval 0 22 v0 rfl rfl)
  have k0 := h0
  have lt0 : ∀ x ∈ p0, x.block < W.heap.size := by obtain ⟨m, hm⟩ := k0; exact DataW.trod_lt m _ _ _ hm
  obtain ⟨l0, w0⟩ : ∃ l, ArgRow .u8 W a0 len0 cap0 l := by
    obtain ⟨fuel, hf⟩ := h0
    rcases open_ints Try.underlying22 Try.underlying5 (by kernel_rfl) hf with ⟨hcs, _⟩ | ⟨x, l, c, zs, hcs, _, hl, hm, hz, _, hcell, hwz⟩
    · simp [Value.cells] at hcs
      obtain ⟨rfl, rfl, rfl⟩ := hcs
      exact ⟨[], rfl, ⟨Nat.le_refl _, by unfold maxLen; omega⟩, by simp, .inl rfl⟩
    · simp [Value.cells] at hcs
      obtain ⟨rfl, rfl, rfl⟩ := hcs
      exact ⟨_, argRow_of hl hm (by simpa using hz) hcell hwz⟩
  clear hA0 hval0
  refine (walk a0 len0 cap0 l0 W w0).mono fun e W' ⟨he, bel⟩ => ?_
  subst he
  exact ⟨_, rfl, _, _, _, [], _, [], hW', trodAll_mk1 (shut_bool Try.underlying4 _), (trodAll_cons_mk (Below.trod laidOut (by kernel_rfl) (of_decide_eq_true (by kernel_rfl)) k0 bel lt0) trodAll_mk0), rfl, bel.frame _, fun h => by cases h⟩

theorem over : Rows.fnClassLineRow.holds Try.pinned (OpenSpec.ofChange Rows.fnClassLineSpec) :=
  OpenClaim.holds_of_wide 8 Try.f8 rfl rfl rfl rfl rfl rfl rfl ⟨rfl, rfl, rfl, rfl, rfl⟩ rfl rfl rfl rfl rfl (by kernel_rfl) Try.func8 (by kernel_rfl)
    (of_decide_eq_true (by kernel_rfl)) (by unfold Func.isWrapper; first | (rw [if_pos (by decide +kernel)]; kernel_rfl) | (rw [if_neg (by decide +kernel)]; exact ⟨rfl, rfl⟩))
    (fun os started H enc _ => lifted os started H enc)

theorem proved : Rows.FnClassLineSaid := over
#print axioms proved
end Go.Proofs.Ytaapkkbfmgimkaa.lawClassLine
