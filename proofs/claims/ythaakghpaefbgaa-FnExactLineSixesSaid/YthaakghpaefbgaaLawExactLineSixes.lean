/- The program's LineSixes returns what the reference's returns, for all arguments, in memory of its own. No condition. -/
import Derived.Test.YthaakghpaefbgaaSixs
import Derived.Test.YthaakghpaefbgaaSS
import Derived.Test.YthaakghpaefbgaaRow
namespace Go.Proofs.Ythaakghpaefbgaa.lawExactLineSixes
open Go.ChangeShapes Go.WideShapes Go.ChangeAt Go.RowKit
set_option linter.unusedVariables false
set_option linter.unusedSimpArgs false

set_option maxHeartbeats 4000000 in
theorem walk (n0 : Int) (w0 : (Lit.int .i64 n0).wf = true) (w : World) :
    Calls Try.prog 11 #[.int .i64 n0] w fun e w' => e = .returned (.bool true) ∧ Below w.heap.size w w' := by
  cases hr : inB n0 0 26
  · go_enter Try.func11, Try.ntmps11
    go_wp2_with fail
    refine (sSixes_out _ hr _).mono ?_
    rintro e w1 ⟨⟨gs, rfl⟩, hb1⟩
    go_wp2_with fail
    refine (iSixes_out _ hr _).mono ?_
    rintro e w2 ⟨rfl, hb2⟩
    have hB2 := below_step hb1 hb2
    go_wp2_with fail
    refine (eqIntSS_nil _ _ _ _ _).mono ?_
    rintro e w3 ⟨rfl, hb3⟩
    have hB3 := below_step hB2 hb3
    go_wp2_with (first | (go_at_call 34; ((with_reducible refine (markIntSS_nil _ _ _ _).mono ?_); rintro e w' ⟨rfl, rfl⟩)) | (go_at_call 35; ((with_reducible refine (heldIntSS_nil _ _ _ _).mono ?_); rintro e w' ⟨rfl, rfl⟩)))
    refine (iSixes_out _ hr _).mono ?_
    rintro e w4 ⟨rfl, hb4⟩
    have hB4 := below_step hB3 hb4
    go_wp2_with fail
    refine (eqIntSS_nil _ _ _ _ _).mono ?_
    rintro e w5 ⟨rfl, hb5⟩
    have hB5 := below_step hB4 hb5
    go_wp2_with (first | (go_at_call 34; ((with_reducible refine (markIntSS_nil _ _ _ _).mono ?_); rintro e w' ⟨rfl, rfl⟩)) | (go_at_call 35; ((with_reducible refine (heldIntSS_nil _ _ _ _).mono ?_); rintro e w' ⟨rfl, rfl⟩)))
    go_ret
    exact ⟨rfl, hB5⟩
  · have KS := fun W => sSixes_in n0 hr W
    have KI := fun W => iSixes_in n0 hr W
    have h3 : ∀ l ∈ sxB n0, l.length = 6 := sxB_6 n0
    have h72 := sxB_len n0
    generalize sxB n0 = L at KS KI h3 h72
    have HKS := Lib.hid KS
    have HKI := Lib.hid KI
    have H3 := Lib.hid h3
    clear KS KI hr h3
    go_enter Try.func11, Try.ntmps11
    go_wp2_with fail
    refine (HKS.out _).mono ?_
    rintro e w1 ⟨gs, cs, xs, rfl, hLs, hgs, hrs, hes, hb1⟩
    go_wp2_with fail
    refine (HKI.out _).mono ?_
    rintro e w2 ⟨gi, ci, ys, rfl, hLi, hgi, hri, hei, hb2⟩
    have hB2 := below_step hb1 hb2
    have hrs2 := hrs.below hb2
    have hes2 := hes.below hb2
    have hsl := hes.lt
    have hi3 := ll_all hLi H3.out
    have hx3 := ll_all hLs H3.out
    have hyl : ys.length ≤ 72 := by rw [← lls_len, hLi]; exact h72
    have hxl : xs.length ≤ 72 := by rw [← lls_len, hLs]; exact h72
    have hz1 := hb1.size
    have hz2 := hb2.size
    clear hrs hes hb1 hb2
    go_wp2_with fail
    refine (eqIntSS_same gi gs ci cs ys xs (by rw [hLi, hLs]) (by omega) (fun x hx => by rw [hi3 x hx]; omega) _ _ _ hri hrs2 hei hes2).mono ?_
    rintro e w3 ⟨rfl, hb3⟩
    have hB3 := below_step hB2 hb3
    have hri3 := hri.below hb3
    have hei3 := hei.below hb3
    have hrs3 := hrs2.below hb3
    have hes3 := hes2.below hb3
    have hz3 := hb3.size
    clear hri hei hrs2 hes2 hb3 hB2
    have KM := markIntSS_any gi ci ys 6 (by omega) hi3 (by omega) _ _ hri3 hei3
    have KH := fun W (h : RowS W gi ys) (hk : MarkS W ys 1 6) => heldIntSS_any gi ci ys 6 (by omega) hi3 (by omega) W h hk
    have hT : decide ((1 : Int) + ((ys.length * 6 : Nat) : Int) < 0) = false := by simp; omega
    generalize ys.length * 6 = T at KM KH hT
    have HKH := Lib.hid KH
    clear KH
    go_wp2_with fail
    refine KM.mono ?_
    rintro e w4 ⟨rfl, hm4, hg4⟩
    clear KM
    have hB4 := hg4.blw hB3 (fun x hx => by have := (hei3.1 x hx).1; omega) (by omega)
    have hz4 := hg4.size
    have hri4 := hg4.row (fun x hx => ⟨_, (hei3.1 x hx).2⟩) hri3
    have hrs4 := hg4.row (fun x hx => ⟨_, (hei3.1 x hx).2⟩) hrs3
    have hes4 := hg4.each (B2 := 0) (fun x hx y hy => by have h1 := (hei3.1 x hx).1; have h2 := hsl y hy; omega) hes3
    clear hg4 hB3 hri3 hei3 hrs3 hes3
    have KH4 := HKH.out w4 hri4 hm4
    go_wp2_with (go_at_call 35; ((with_reducible refine (KH4).mono ?_); rintro e w' ⟨rfl, rfl⟩))
    clear KH4
    refine (HKI.out _).mono ?_
    rintro e w5 ⟨gc, cc, zs, rfl, hLc, hgc, hrc, hec, hb5⟩
    have hB5 := below_step hB4 hb5
    have hri5 := hri4.below hb5
    have hrs5 := hrs4.below hb5
    have hes5 := hes4.below hb5
    have hm5 := hm4.below hb5
    have hc3 := ll_all hLc H3.out
    have hzl : zs.length ≤ 72 := by rw [← lls_len, hLc]; exact h72
    clear hri4 hrs4 hes4 hm4 hb5 hB4
    go_wp2_with fail
    refine (eqIntSS_same gc gs cc cs zs xs (by rw [hLc, hLs]) (by omega) (fun x hx => by rw [hc3 x hx]; omega) _ _ _ hrc hrs5 hec hes5).mono ?_
    rintro e w6 ⟨rfl, hb6⟩
    have hB6 := below_step hB5 hb6
    have KH6 := HKH.out w6 (hri5.below hb6) (hm5.below hb6)
    clear hri5 hrs5 hes5 hm5 hb6 hB5 hrc hec
    go_wp2_with (go_at_call 35; ((with_reducible refine (KH6).mono ?_); rintro e w' ⟨rfl, rfl⟩))
    go_ret
    exact ⟨rfl, hB6⟩

set_option maxRecDepth 100000 in
theorem lifted (os : Os) (started : os.Started) (H : Type) (enc : TypeId × Value → H) :
    ReturnsInHanded {} Try.checked os 11 .any (Rows.fnExactLineSixesSpec.pre6 enc Try.prog Try.f11 Rows.fnExactLineSixesRow.domain false) (Rows.fnExactLineSixesSpec.post enc Try.prog Try.f11 false true false false) := by
  refine returnsInHanded_of_change (C := Try.checked) own started (by kernel_rfl) Try.func11
    (ChangeSpec.witness6 (enc := enc) (C := Try.checked) false ⟨#[], #[.int .i64 0], []⟩ 8 (by kernel_rfl) (by kernel_rfl) (by kernel_rfl) (by kernel_rfl)) ?_
  intro W base args ds gs before hval0 hW hcnd _
  have hval : ∀ (j : Nat) t v, Try.f11.params[j]? = some t → args[j]? = some v → Value.okWide Try.prog W .any base t v := hval0
  have hW' := hW
  obtain ⟨p, q, hA0, hV, rfl, hfz, hnd⟩ := hW
  have hA : DataW.TrodAll enc Try.prog W 0 (fun _ => true) true Try.f11.params.toList args.toList ds p := hA0
  rw [Try.params11] at hA hval
  obtain ⟨v0, vs0, d0, ds0, p0, q0, hargs, rfl, rfl, h0, r0⟩ := trodAll_cons hA
  obtain ⟨rfl, rfl, rfl⟩ := trodAll_nil r0
  obtain rfl : args = #[v0] := by cases args; simp_all
  obtain ⟨rfl, rfl⟩ := trodVars_none hV
  obtain ⟨n0, rfl, rfl, rfl, w0⟩ := open_int Try.underlying3 (hval 0 3 v0 rfl rfl) h0
  clear hA0 hval0
  simp only [List.append_nil] at hW'
  refine (walk n0 w0 W).mono fun e W' ⟨he, hg⟩ => ?_
  subst he
  exact ⟨_, rfl, post_of_below (pa := []) (pv := []) hW' (fun _ _ _ => (trodAll_cons_mk (shut_bool Try.underlying4 _) trodAll_mk0)) (fun sp _ => (trodAll_cons_mk (shut_int Try.underlying3 w0) trodAll_mk0)) (fun _ _ => rfl) rfl
    hg (ok_one (by kernel_rfl) rfl (okWide_bool_mk Try.underlying4 _))⟩

theorem over : Rows.fnExactLineSixesRow.holds Try.pinned (OpenSpec.ofChange Rows.fnExactLineSixesSpec) :=
  OpenClaim.holds_of_wide 11 Try.f11 rfl rfl rfl rfl rfl rfl rfl ⟨rfl, rfl, rfl, rfl, rfl⟩ rfl rfl rfl rfl rfl (by kernel_rfl) Try.func11 (by kernel_rfl)
    (of_decide_eq_true (by kernel_rfl)) (by unfold Func.isWrapper; first | (rw [if_pos (by decide +kernel)]; kernel_rfl) | (rw [if_neg (by decide +kernel)]; exact ⟨rfl, rfl⟩))
    (fun os started H enc _ => lifted os started H enc)

theorem proved : Rows.FnExactLineSixesSaid := over
#print axioms proved
end Go.Proofs.Ythaakghpaefbgaa.lawExactLineSixes
