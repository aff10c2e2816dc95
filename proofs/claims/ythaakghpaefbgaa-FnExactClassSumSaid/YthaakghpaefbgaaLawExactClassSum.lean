/- The program's ClassSum returns what the reference's returns, for every list. No condition. -/
import Derived.Test.YthaakghpaefbgaaLiv
import Derived.Test.YthaakghpaefbgaaSum
import Derived.Test.YthaakghpaefbgaaToInt
import Derived.Test.YthaakghpaefbgaaSlices
import Derived.Test.YthaakghpaefbgaaRow
import Derived.Test.YthaakghpaefbgaaArg
namespace Go.Proofs.Ythaakghpaefbgaa.lawExactClassSum
open Go.ChangeShapes Go.WideShapes Go.ChangeAt Go.RowKit
set_option linter.unusedVariables false
set_option linter.unusedSimpArgs false

set_option maxRecDepth 20000 in
set_option maxHeartbeats 16000000 in
theorem walk (a0 : Option Addr) (n0 cap0 : Nat) (l0 : List Int) (w : World) (h0 : ArgRow .i64 w a0 n0 cap0 l0) :
    Calls Try.prog 8 #[.slice a0 n0 cap0] w fun e w' => e = .returned (.bool true) ∧ Below w.heap.size w w' := by
  by_cases hbig : 1048576 < n0
  · go_enter Try.func8, Try.ntmps8
    go_wp2
    go_ret
    exact ⟨rfl, by (repeat (first | (with_reducible exact Below.refl _ _) | (with_reducible refine bl_alloc ?_ ?_ _; focus (first | omega | (simp; done) | (simp; omega))) | (with_reducible refine bl_set ?_ ?_ _; focus (first | omega | (simp; done) | (simp; omega))) | (with_reducible refine Below.drew ?_) | (with_reducible refine below_drewN ?_ _) | (with_reducible refine below_step ?_ (by assumption))))⟩
  · obtain rfl : l0.length = n0 := h0.1
    obtain ⟨zd, za, zb, zc, ze, zf, zg, hz⟩ : ∃ zd za zb zc ze zf zg : Int, sumQ l0 = ⟨zd, za, zb, zc, ze, zf, zg⟩ := by cases hq : sumQ l0; exact ⟨_, _, _, _, _, _, _, rfl⟩
    have K2 : ∀ (a : Option Addr) (cap : Nat) (W : World), Rd W a l0 → Calls Try.prog 27 #[.slice a l0.length cap] W fun e w' => e = .returned (.tuple #[.agg #[.int .i64 zd, .int .i64 za, .int .i64 zb, .int .i64 zc, .int .i64 ze, .int .i64 zf, .int .i64 zg], .bool (sumQB l0)]) ∧ Below W.heap.size W w' := fun a cap W h => by
      have h := sClassSum_q a cap l0 (by omega) W h
      rw [hz] at h
      exact h
    have K1 : ∀ (a : Option Addr) (cap : Nat) (W : World), Rd W a l0 → Calls Try.prog 28 #[.slice a l0.length cap] W fun e w' => e = .returned (.tuple #[.agg #[.int .i64 zd, .int .i64 za, .int .i64 zb, .int .i64 zc, .int .i64 ze, .int .i64 zf, .int .i64 zg], .bool (sumQB l0)]) ∧ Below W.heap.size W w' := fun a cap W h => by
      have h := iClassSum_q a cap l0 (by omega) W h
      rw [hz] at h
      exact h
    have K3 : ∀ W : World, Calls Try.prog 20 #[.agg #[.int .i64 zd, .int .i64 za, .int .i64 zb, .int .i64 zc, .int .i64 ze, .int .i64 zf, .int .i64 zg], .agg #[.int .i64 zd, .int .i64 za, .int .i64 zb, .int .i64 zc, .int .i64 ze, .int .i64 zf, .int .i64 zg]] W fun e w' => e = .returned (.bool true) ∧ Below W.heap.size W w' := fun W => by
      have h := eqClass_any zd za zb zc ze zf zg zd za zb zc ze zf zg W
      rw [eqB_refl] at h
      exact h
    generalize sumQB l0 = q at K1 K2
    have hbl : l0.length ≤ 1048576 := by omega
    have H0 := Lib.hid h0
    have L1 := Lib.hid K1
    have L2 := Lib.hid K2
    have L3 := Lib.hid K3
    clear h0 hz K1 K2 K3
    go_enter Try.func8, Try.ntmps8
    go_wp2_with fail
    refine (toIntS_any a0 l0.length cap0 l0 hbl _ H0.out).mono ?_
    rintro e w1 ⟨g1, rfl, hg1, hr1, hb1⟩
    go_wp2_with fail
    refine (L2.out _ _ _ hr1.rd).mono ?_
    rintro e w2 ⟨rfl, hb2⟩
    obtain ⟨hB2, hs2⟩ := grow0 hb1 hb2
    have hA2 := H0.out.low hB2
    clear hb1 hb2 hr1
    go_wp2_with fail
    refine (toIntS_any a0 l0.length cap0 l0 hbl _ (hA2.low ((Below.refl _ _).alloc (Nat.le_refl _) _))).mono ?_
    rintro e w3 ⟨g3, rfl, hg3, hr3, hb3⟩
    obtain ⟨hB3, hs3⟩ := grow1 hB2 hb3
    have q3 := new1 hb3
    have n3 : w2.heap.size < w3.heap.size := by omega
    have m3 : ¬ (w2.heap.size = w3.heap.size) := by omega
    clear hb3
    go_wp2_with fail
    refine (L1.out _ _ _ hr3.rd).mono ?_
    rintro e w4 ⟨rfl, hb4⟩
    obtain ⟨hB4, hs4⟩ := grow0 hB3 hb4
    have q4 := live0 q3 (by omega) hb4
    have hr4 := hr3.below hb4
    have n4 : w2.heap.size < w4.heap.size := by omega
    have m4 : ¬ (w2.heap.size = w4.heap.size) := by omega
    have hA4 := H0.out.low hB4
    clear hb4 q3 hr3
    go_wp2_with fail
    refine (L3.out _).mono ?_
    rintro e w5 ⟨rfl, hb5⟩
    obtain ⟨hB5, hs5⟩ := grow1 hB4 hb5
    have hr5 := (hr4.below ((Below.refl _ _).alloc (Nat.le_refl _) _)).below hb5
    have hA5 := H0.out.low hB5
    clear hb5 q4 hr4
    go_wp2_with fail
    refine (toIntS_any a0 l0.length cap0 l0 hbl _ hA5).mono ?_
    rintro e w6 ⟨g6, rfl, hg6, hr6, hb6⟩
    obtain ⟨hB6, hs6⟩ := grow0 hB5 hb6
    have hr56 := hr5.below hb6
    clear hb6 hr5
    go_wp2_with fail
    refine (eqIntS_same g3 g6 l0.length l0.length l0 (by omega) _ hr56 hr6).mono ?_
    rintro e w7 ⟨rfl, hb7⟩
    obtain ⟨hB7, hs7⟩ := grow0 hB6 hb7
    clear hb7
    go_wp2_with fail
    go_ret
    exact ⟨rfl, hB7⟩

set_option maxRecDepth 100000 in
theorem lifted (os : Os) (started : os.Started) (H : Type) (enc : TypeId × Value → H) :
    ReturnsInHanded {} Try.checked os 8 .any (Rows.fnExactClassSumSpec.pre6 enc Try.prog Try.f8 Rows.fnExactClassSumRow.domain false) (Rows.fnExactClassSumSpec.post enc Try.prog Try.f8 false true false false) := by
  refine returnsInHanded_of_change (C := Try.checked) own started (by kernel_rfl) Try.func8
    (ChangeSpec.witness6 (enc := enc) (C := Try.checked) false ⟨#[], #[.slice none 0 0], []⟩ 8 (by kernel_rfl) (by kernel_rfl) (by kernel_rfl) (by kernel_rfl)) ?_
  intro W base args ds gs before hval0 hW hcnd _
  have hval : ∀ (j : Nat) t v, Try.f8.params[j]? = some t → args[j]? = some v → Value.okWide Try.prog W .any base t v := hval0
  have hW' := hW
  obtain ⟨p, q, hA0, hV, rfl, hfz, hnd⟩ := hW
  have hA : DataW.TrodAll enc Try.prog W 0 (fun _ => true) true Try.f8.params.toList args.toList ds p := hA0
  rw [Try.params8] at hA hval
  obtain ⟨v0, vs0, d0, ds0, p0, q0, hargs, rfl, rfl, h0, r0⟩ := trodAll_cons hA
  obtain ⟨rfl, rfl, rfl⟩ := trodAll_nil r0
  obtain rfl : args = #[v0] := by cases args; simp_all
  obtain ⟨rfl, rfl⟩ := trodVars_none hV
  obtain ⟨a0, len0, cap0, rfl⟩ := okWide_slice Try.underlying22 (hval 0 22 v0 rfl rfl)
  have k0 := h0
  have lt0 : ∀ x ∈ p0, x.block < W.heap.size := by obtain ⟨m, hm⟩ := k0; exact DataW.trod_lt m _ _ _ hm
  obtain ⟨l0, w0⟩ : ∃ l, ArgRow .i64 W a0 len0 cap0 l := by
    obtain ⟨fuel, hf⟩ := h0
    rcases open_ints Try.underlying22 Try.underlying3 (by kernel_rfl) hf with ⟨hcs, _⟩ | ⟨x, l, c, zs, hcs, _, hl, hm, hz, _, hcell, hwz⟩
    · simp [Value.cells] at hcs
      obtain ⟨rfl, rfl, rfl⟩ := hcs
      exact ⟨[], rfl, ⟨Nat.le_refl _, by unfold maxLen; omega⟩, by simp, .inl rfl⟩
    · simp [Value.cells] at hcs
      obtain ⟨rfl, rfl, rfl⟩ := hcs
      exact ⟨_, argRow_of hl hm (by simpa using hz) hcell hwz⟩
  clear hA0 hval0
  refine (walk a0 len0 cap0 l0 W w0).mono fun e W' ⟨he, bel⟩ => ?_
  subst he
  exact ⟨_, rfl, _, _, _, [], _, [], hW', trodAll_mk1 (shut_bool Try.underlying4 _), (trodAll_cons_mk (Below.trod laidOut (by kernel_rfl) (of_decide_eq_true (by kernel_rfl)) k0 bel lt0) trodAll_mk0), rfl, bel.frame _, fun h => by cases h⟩

theorem over : Rows.fnExactClassSumRow.holds Try.pinned (OpenSpec.ofChange Rows.fnExactClassSumSpec) :=
  OpenClaim.holds_of_wide 8 Try.f8 rfl rfl rfl rfl rfl rfl rfl ⟨rfl, rfl, rfl, rfl, rfl⟩ rfl rfl rfl rfl rfl (by kernel_rfl) Try.func8 (by kernel_rfl)
    (of_decide_eq_true (by kernel_rfl)) (by unfold Func.isWrapper; first | (rw [if_pos (by decide +kernel)]; kernel_rfl) | (rw [if_neg (by decide +kernel)]; exact ⟨rfl, rfl⟩))
    (fun os started H enc _ => lifted os started H enc)

theorem proved : Rows.FnExactClassSumSaid := over
#print axioms proved
end Go.Proofs.Ythaakghpaefbgaa.lawExactClassSum
