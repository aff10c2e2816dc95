/- The program's LineSix returns what the reference's returns, for every list. No condition. -/
import Derived.Test.YthaakghpaefbgaaSix4
import Derived.Test.YthaakghpaefbgaaLiv
import Derived.Test.YthaakghpaefbgaaSlices
import Derived.Test.YthaakghpaefbgaaRow
import Derived.Test.YthaakghpaefbgaaArg
namespace Go.Proofs.Ythaakghpaefbgaa.lawExactLineSix
open Go.ChangeShapes Go.WideShapes Go.ChangeAt Go.RowKit
set_option linter.unusedVariables false
set_option linter.unusedSimpArgs false

set_option maxRecDepth 20000 in
set_option maxHeartbeats 16000000 in
theorem walk (a0 : Option Addr) (n0 cap0 : Nat) (l0 : List Int) (w : World) (h0 : ArgRow .i64 w a0 n0 cap0 l0) :
    Calls Try.prog 9 #[.slice a0 n0 cap0] w fun e w' => e = .returned (.bool true) ∧ Below w.heap.size w w' := by
  by_cases hbig : 1048576 < n0
  · go_enter Try.func9, Try.ntmps9
    go_wp2
    go_ret
    exact ⟨rfl, by (repeat (first | (with_reducible exact Below.refl _ _) | (with_reducible refine bl_alloc ?_ ?_ _; focus (first | omega | (simp; done) | (simp; omega))) | (with_reducible refine bl_set ?_ ?_ _; focus (first | omega | (simp; done) | (simp; omega))) | (with_reducible refine Below.drew ?_) | (with_reducible refine below_drewN ?_ _) | (with_reducible refine below_step ?_ (by assumption))))⟩
  · obtain rfl : l0.length = n0 := h0.1
    have hbl : l0.length ≤ 1048576 := by omega
    have H0 := Lib.hid h0
    clear h0
    cases hw : sixB l0
    · have KI := Lib.hid (fun (g : Nat) (W : World) (h : Row W g l0) => iSix_no g l0 hbl hw W h)
      have KS := Lib.hid (fun (g : Nat) (W : World) (h : Row W g l0) => sSix_no g l0 hbl hw W h)
      clear hw
      go_enter Try.func9, Try.ntmps9
      go_wp2_with fail
      refine (toIntS_any a0 l0.length cap0 l0 hbl _ H0.out).mono ?_
      rintro e w1 ⟨g1, rfl, hg1, hr1, hb1⟩
      go_wp2_with fail
      refine (KS.out _ _ hr1).mono ?_
      rintro e w2 ⟨⟨gs, rfl⟩, hd2⟩
      obtain ⟨hB2, hs2⟩ := grow0 hb1 hd2
      clear hd2 hr1 hb1
      go_wp2_with fail
      refine (toIntS_any a0 l0.length cap0 l0 hbl _ (H0.out.low hB2)).mono ?_
      rintro e w3 ⟨g3, rfl, hg3, hr3, hd3⟩
      obtain ⟨hB3, hs3⟩ := grow0 hB2 hd3
      clear hd3
      go_wp2_with fail
      refine (KI.out _ _ hr3).mono ?_
      rintro e w4 ⟨rfl, hd4⟩
      obtain ⟨hB4, hs4⟩ := grow0 hB3 hd4
      have hr4 := hr3.below hd4
      clear hd4 hr3
      go_wp2_with fail
      refine (eqIntS_nil _ _ _ _ _).mono ?_
      rintro e w5 ⟨rfl, hd5⟩
      obtain ⟨hB5, hs5⟩ := grow0 hB4 hd5
      have hr5 := hr4.below hd5
      clear hd5 hr4
      go_wp2_with fail
      refine (toIntS_any a0 l0.length cap0 l0 hbl _ (H0.out.low hB5)).mono ?_
      rintro e w6 ⟨g6, rfl, hg6, hr6, hd6⟩
      obtain ⟨hB6, hs6⟩ := grow0 hB5 hd6
      have hr56 := hr5.below hd6
      clear hd6 hr5
      go_wp2_with fail
      refine (eqIntS_same g3 g6 l0.length l0.length l0 (by omega) _ hr56 hr6).mono ?_
      rintro e w7 ⟨rfl, hd7⟩
      obtain ⟨hB7, hs7⟩ := grow0 hB6 hd7
      have hr7 := hr56.below hd7
      have hg7 : w.heap.size ≤ g3 := by have := hB2.size; omega
      clear hd7 hr56 hr6
      go_wp2_with fail
      refine (markIntS_any g3 l0.length _ 1 (by omega) (by omega) _ hr7).mono ?_
      rintro e w8 ⟨rfl, hm8, hg8⟩
      have hB8 := below_mark hB7 hg8 hg7 (by have := hB7.size; omega)
      clear hr7 hm8 hg8
      go_wp2_with fail
      refine (eqIntS_nil _ _ _ _ _).mono ?_
      rintro e w9 ⟨rfl, hd9⟩
      obtain ⟨hB9, hs9⟩ := grow0 hB8 hd9
      clear hd9
      go_wp2_with (first | (go_at_call 16; ((with_reducible refine (markIntS_nil _ _ _ _).mono ?_); rintro e w' ⟨rfl, rfl⟩)) | (go_at_call 17; ((with_reducible refine (heldIntS_nil _ _ _ _).mono ?_); rintro e w' ⟨rfl, rfl⟩)))
      refine (toIntS_any a0 l0.length cap0 l0 hbl _ (H0.out.low hB9)).mono ?_
      rintro e wa ⟨ga, rfl, hga, hra, hda⟩
      obtain ⟨hBa, hsa⟩ := grow0 hB9 hda
      clear hda
      go_wp2_with fail
      refine (KI.out _ _ hra).mono ?_
      rintro e wb ⟨rfl, hdb⟩
      obtain ⟨hBb, hsb⟩ := grow0 hBa hdb
      clear hdb hra
      go_wp2_with fail
      refine (eqIntS_nil _ _ _ _ _).mono ?_
      rintro e wc ⟨rfl, hdc⟩
      obtain ⟨hBc, hsc⟩ := grow0 hBb hdc
      clear hdc
      go_wp2_with (first | (go_at_call 17; ((with_reducible refine (heldIntS_nil _ _ _ _).mono ?_); rintro e w' ⟨rfl, rfl⟩)))
      go_ret
      exact ⟨rfl, hBc⟩
    · have KI0 := fun (g : Nat) (W : World) (h : Row W g l0) => iSix_yes g l0 hw W h
      have KS0 := fun (g : Nat) (W : World) (h : Row W g l0) => sSix_yes g l0 hw W h
      have hlm : (linesB (fiveB l0) 27).length ≤ 1048576 := by have := linesB_len (fiveB l0) 27; omega
      generalize linesB (fiveB l0) 27 = M at KI0 KS0 hlm
      have KI := Lib.hid KI0
      have KS := Lib.hid KS0
      clear hw KI0 KS0
      go_enter Try.func9, Try.ntmps9
      go_wp2_with fail
      refine (toIntS_any a0 l0.length cap0 l0 hbl _ H0.out).mono ?_
      rintro e w1 ⟨g1, rfl, hg1, hr1, hb1⟩
      go_wp2_with fail
      refine (KS.out _ _ hr1).mono ?_
      rintro e w2 ⟨gs, cs, rfl, hgs, hS2, hd2⟩
      obtain ⟨hB2, hs2⟩ := grow0 hb1 hd2
      clear hd2 hr1 hb1
      go_wp2_with fail
      refine (toIntS_any a0 l0.length cap0 l0 hbl _ (H0.out.low hB2)).mono ?_
      rintro e w3 ⟨g3, rfl, hg3, hr3, hd3⟩
      obtain ⟨hB3, hs3⟩ := grow0 hB2 hd3
      have hS3 := hS2.below hd3
      have hsl := hS2.lt
      clear hd3 hS2
      go_wp2_with fail
      refine (KI.out _ _ hr3).mono ?_
      rintro e w4 ⟨gi, ci, rfl, hgi, hI4, hd4⟩
      obtain ⟨hB4, hs4⟩ := grow0 hB3 hd4
      have hr4 := hr3.below hd4
      have hS4 := hS3.below hd4
      have hrl := hr3.lt
      clear hd4 hr3 hS3
      go_wp2_with fail
      refine (eqIntS_same gi gs ci cs M (by omega) _ hI4 hS4).mono ?_
      rintro e w5 ⟨rfl, hd5⟩
      obtain ⟨hB5, hs5⟩ := grow0 hB4 hd5
      have hr5 := hr4.below hd5
      have hS5 := hS4.below hd5
      have hI5 := hI4.below hd5
      clear hd5 hr4 hS4 hI4
      go_wp2_with fail
      refine (toIntS_any a0 l0.length cap0 l0 hbl _ (H0.out.low hB5)).mono ?_
      rintro e w6 ⟨g6, rfl, hg6, hr6, hd6⟩
      obtain ⟨hB6, hs6⟩ := grow0 hB5 hd6
      have hr56 := hr5.below hd6
      have hS6 := hS5.below hd6
      have hI6 := hI5.below hd6
      clear hd6 hr5 hS5 hI5
      go_wp2_with fail
      refine (eqIntS_same g3 g6 l0.length l0.length l0 (by omega) _ hr56 hr6).mono ?_
      rintro e w7 ⟨rfl, hd7⟩
      obtain ⟨hB7, hs7⟩ := grow0 hB6 hd7
      have hr7 := hr56.below hd7
      have hS7 := hS6.below hd7
      have hI7 := hI6.below hd7
      have hg7 : w.heap.size ≤ g3 := by have := hB2.size; omega
      clear hd7 hr56 hr6 hS6 hI6
      go_wp2_with fail
      refine (markIntS_any g3 l0.length _ 1 (by omega) (by omega) _ hr7).mono ?_
      rintro e w8 ⟨rfl, hm8, hg8⟩
      have hB8 := below_mark hB7 hg8 hg7 (by have := hB7.size; omega)
      have hS8 := hS7.grown hg8 (by omega)
      have hI8 := hI7.grown hg8 (by omega)
      have hs8 := hg8.size
      clear hr7 hm8 hg8 hS7 hI7
      go_wp2_with fail
      refine (eqIntS_same gi gs ci cs M (by omega) _ hI8 hS8).mono ?_
      rintro e w9 ⟨rfl, hd9⟩
      obtain ⟨hB9, hs9⟩ := grow0 hB8 hd9
      have hS9 := hS8.below hd9
      have hI9 := hI8.below hd9
      clear hd9 hS8 hI8
      go_wp2_with fail
      refine (markIntS_any gi ci _ 1 (by omega) (by omega) _ hI9).mono ?_
      rintro e wa ⟨rfl, hma, hga⟩
      have hBa := below_mark hB9 hga (by have := hB3.size; omega) (by have := hB9.size; omega)
      have hSa := hS9.grown hga (by omega)
      clear hS9 hI9 hga
      go_wp2_with (go_at_call 17; ((with_reducible refine (heldIntS_any gi ci _ 1 (by omega) (by omega) _ hma).mono ?_); rintro e w' ⟨rfl, rfl⟩))
      refine (toIntS_any a0 l0.length cap0 l0 hbl _ (H0.out.low hBa)).mono ?_
      rintro e wb ⟨gb, rfl, hgb, hrb, hdb⟩
      obtain ⟨hBb, hsb⟩ := grow0 hBa hdb
      have hSb := hSa.below hdb
      have hmb := hma.below hdb
      clear hdb hSa hma
      go_wp2_with fail
      refine (KI.out _ _ hrb).mono ?_
      rintro e wc ⟨gc, cc, rfl, hgc, hIc, hdc⟩
      obtain ⟨hBc, hsc⟩ := grow0 hBb hdc
      have hSc := hSb.below hdc
      have hmc := hmb.below hdc
      clear hdc hSb hmb hrb
      go_wp2_with fail
      refine (eqIntS_same gc gs cc cs M (by omega) _ hIc hSc).mono ?_
      rintro e wd ⟨rfl, hdd⟩
      obtain ⟨hBd, hsd⟩ := grow0 hBc hdd
      have hmd := hmc.below hdd
      clear hdd hSc hmc hIc
      go_wp2_with (go_at_call 17; ((with_reducible refine (heldIntS_any gi ci _ 1 (by omega) (by omega) _ hmd).mono ?_); rintro e w' ⟨rfl, rfl⟩))
      go_ret
      exact ⟨rfl, hBd⟩

set_option maxRecDepth 100000 in
theorem lifted (os : Os) (started : os.Started) (H : Type) (enc : TypeId × Value → H) :
    ReturnsInHanded {} Try.checked os 9 .any (Rows.fnExactLineSixSpec.pre6 enc Try.prog Try.f9 Rows.fnExactLineSixRow.domain false) (Rows.fnExactLineSixSpec.post enc Try.prog Try.f9 false true false false) := by
  refine returnsInHanded_of_change (C := Try.checked) own started (by kernel_rfl) Try.func9
    (ChangeSpec.witness6 (enc := enc) (C := Try.checked) false ⟨#[], #[.slice none 0 0], []⟩ 8 (by kernel_rfl) (by kernel_rfl) (by kernel_rfl) (by kernel_rfl)) ?_
  intro W base args ds gs before hval0 hW hcnd _
  have hval : ∀ (j : Nat) t v, Try.f9.params[j]? = some t → args[j]? = some v → Value.okWide Try.prog W .any base t v := hval0
  have hW' := hW
  obtain ⟨p, q, hA0, hV, rfl, hfz, hnd⟩ := hW
  have hA : DataW.TrodAll enc Try.prog W 0 (fun _ => true) true Try.f9.params.toList args.toList ds p := hA0
  rw [Try.params9] at hA hval
  obtain ⟨v0, vs0, d0, ds0, p0, q0, hargs, rfl, rfl, h0, r0⟩ := trodAll_cons hA
  obtain ⟨rfl, rfl, rfl⟩ := trodAll_nil r0
  obtain rfl : args = #[v0] := by cases args; simp_all
  obtain ⟨rfl, rfl⟩ := trodVars_none hV
  obtain ⟨a0, len0, cap0, rfl⟩ := okWide_slice Try.underlying22 (hval 0 22 v0 rfl rfl)
  have k0 := h0
  have lt0 : ∀ x ∈ p0, x.block < W.heap.size := by obtain ⟨m, hm⟩ := k0; exact DataW.trod_lt m _ _ _ hm
  obtain ⟨l0, w0⟩ : ∃ l, ArgRow .i64 W a0 len0 cap0 l := by
    obtain ⟨fuel, hf⟩ := h0
    rcases open_ints Try.underlying22 Try.underlying3 (by kernel_rfl) hf with ⟨hcs, _⟩ | ⟨x, l, c, zs, hcs, _, hl, hm, hz, _, hcell, hwz⟩
    · simp [Value.cells] at hcs
      obtain ⟨rfl, rfl, rfl⟩ := hcs
      exact ⟨[], rfl, ⟨Nat.le_refl _, by unfold maxLen; omega⟩, by simp, .inl rfl⟩
    · simp [Value.cells] at hcs
      obtain ⟨rfl, rfl, rfl⟩ := hcs
      exact ⟨_, argRow_of hl hm (by simpa using hz) hcell hwz⟩
  clear hA0 hval0
  refine (walk a0 len0 cap0 l0 W w0).mono fun e W' ⟨he, bel⟩ => ?_
  subst he
  exact ⟨_, rfl, _, _, _, [], _, [], hW', trodAll_mk1 (shut_bool Try.underlying4 _), (trodAll_cons_mk (Below.trod laidOut (by kernel_rfl) (of_decide_eq_true (by kernel_rfl)) k0 bel lt0) trodAll_mk0), rfl, bel.frame _, fun h => by cases h⟩

theorem over : Rows.fnExactLineSixRow.holds Try.pinned (OpenSpec.ofChange Rows.fnExactLineSixSpec) :=
  OpenClaim.holds_of_wide 9 Try.f9 rfl rfl rfl rfl rfl rfl rfl ⟨rfl, rfl, rfl, rfl, rfl⟩ rfl rfl rfl rfl rfl (by kernel_rfl) Try.func9 (by kernel_rfl)
    (of_decide_eq_true (by kernel_rfl)) (by unfold Func.isWrapper; first | (rw [if_pos (by decide +kernel)]; kernel_rfl) | (rw [if_neg (by decide +kernel)]; exact ⟨rfl, rfl⟩))
    (fun os started H enc _ => lifted os started H enc)

theorem proved : Rows.FnExactLineSixSaid := over
#print axioms proved
end Go.Proofs.Ythaakghpaefbgaa.lawExactLineSix
