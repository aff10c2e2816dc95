/- Each line is in sixteen sixes: for every code the drawn line's list has sixteen sixes, each of which has a double six and the line. No condition. -/
import Derived.Test.YtogmfadeedmmaaaSixs
import Derived.Test.YtogmfadeedmmaaaSixG
import Derived.Test.YtogmfadeedmmaaaSS
import Derived.Test.YtogmfadeedmmaaaDraw
import Derived.Test.YtogmfadeedmmaaaArg
namespace Go.Proofs.Ytogmfadeedmmaaa.lawSixes
open Go.ChangeShapes Go.WideShapes Go.ChangeAt Go.RowKit
set_option linter.unusedVariables false
set_option linter.unusedSimpArgs false

set_option maxRecDepth 20000 in
set_option maxHeartbeats 16000000 in
theorem walk (a0 : Option Addr) (n0 cap0 : Nat) (l0 : List Int) (w : World) (h0 : ArgRow .u8 w a0 n0 cap0 l0) :
    Calls Try.prog 12 #[.slice a0 n0 cap0] w fun e w' => e = .returned (.bool true) ∧ Below w.heap.size w w' := by
  by_cases hbig : 1048576 < n0
  · go_enter Try.func12, Try.ntmps12
    go_wp2
    go_ret
    exact ⟨rfl, by (repeat (first | (with_reducible exact Below.refl _ _) | (with_reducible refine bl_alloc ?_ ?_ _; focus (first | omega | (simp; done) | (simp; omega))) | (with_reducible refine bl_set ?_ ?_ _; focus (first | omega | (simp; done) | (simp; omega))) | (with_reducible refine Below.drew ?_) | (with_reducible refine below_drewN ?_ _) | (with_reducible refine below_step ?_ (by assumption))))⟩
  · go_enter Try.func12, Try.ntmps12
    go_wp2_with fail
    refine (drawLineSixes_any a0 n0 cap0 l0 _ h0).mono ?_
    rintro e wc ⟨x, rfl, ⟨hx0, hx1⟩, hb1⟩
    have hsz := hb1.size
    clear h0
    cases hr : inB x 0 26
    · have HRB := Lib.hid hr
      clear hr
      go_wp2_with fail
      refine (iSixes_out _ HRB.out _).mono ?_
      rintro e w1 ⟨rfl, hd1⟩
      have hB1 := below_step hb1 hd1
      go_wp2_with fail
      refine (sSixes_out _ HRB.out _).mono ?_
      rintro e w2 ⟨⟨gs, rfl⟩, hd2⟩
      have hB2 := below_step hB1 hd2
      clear hb1 hd1 hd2 hB1
      go_wp2_with fail
      refine (sameRows_nil _ _ _ _ _).mono ?_
      rintro e w3 ⟨rfl, hd3⟩
      have hB3 := below_step hB2 hd3
      clear hB2 hd3
      go_wp2_with fail
      refine (sameRows_nil _ _ _ _ _).mono ?_
      rintro e w4 ⟨rfl, hd4⟩
      have hB4 := below_step hB3 hd4
      clear hB3 hd4
      go_wp2_with fail
      go_ret
      exact ⟨rfl, hB4⟩
    · have KS := fun W => sSixes_in x hr W
      have KI := fun W => iSixes_cap x hr W
      have hgood := sxB_good x
      have h6 := sxB_6 x
      have h16 : (sxB x).length = 16 := by
        simp only [inB, Bool.and_eq_true, decide_eq_true_eq] at hr
        have := sxB_16 x.toNat (by omega)
        rwa [show ((x.toNat : Nat) : Int) = x by omega] at this
      generalize sxB x = L at KS KI hgood h6 h16
      have HKS := Lib.hid KS
      have HKI := Lib.hid KI
      have HG := Lib.hid hgood
      have H6 := Lib.hid h6
      clear KS KI hr hgood h6
      go_wp2_with fail
      refine (HKI.out _).mono ?_
      rintro e w1 ⟨gi, ci, xs, rfl, hLi, hgi, hri, hei, hd1, hcap⟩
      have hB1 := below_step hb1 hd1
      go_wp2_with fail
      refine (HKS.out _).mono ?_
      rintro e w2 ⟨gs, cs, ys, rfl, hLs, hgs, hrs, hes, hd2⟩
      have hB2 := below_step hB1 hd2
      have hri2 := hri.below hd2
      have hei2 := hei.below hd2
      have hxl : xs.length = 16 := by rw [← lls_len, hLi]; exact h16
      have hx45 : xs.length ≤ 16 := by omega
      have HXL := Lib.hid hxl
      have HX6 := Lib.hid (ll_all hLi H6.out)
      have HXG := Lib.hid (ll_all hLi HG.out)
      have HCAP := Lib.hid hcap
      clear hxl h16 hb1 hd1 hri hei hd2 hB1 hcap
      have K1 := Lib.hid (sameRows_same gi gs ci cs xs ys (by rw [hLi, hLs]) (by omega) (fun s hs => by rw [HX6.out s hs]; omega) _ _ _ hri2 hrs hei2 hes)
      clear hrs hes
      go_wp2_with fail
      with_reducible refine (K1.out).mono ?_
      rintro e w3 ⟨rfl, hd3⟩
      have hB3 := below_step hB2 hd3
      have hri3 := hri2.below hd3
      have hei3 := hei2.below hd3
      clear K1 hri2 hei2 hd3 hB2
      go_wp2_with fail
      go_loopw [8] (fun c wr => ∃ j : Nat, j ≤ xs.length ∧ c = .int .i64 j ∧ RowS wr gi xs ∧ Each wr wc.heap.size xs ∧ Below w.heap.size w wr) (fun c _ => xs.length - (intOf c).toNat)
      case atStart => exact ⟨0, by omega, rfl, hri3, hei3.le (by omega), hB3⟩
      case round =>
        clear hri3 hei3 hB3
        obtain ⟨j, hj, rfl, hrow, hea, hb0⟩ := hrel
        by_cases hlt : j < xs.length
        · obtain ⟨s, hs⟩ : ∃ s, xs[j]? = some s := ⟨xs[j], List.getElem?_eq_getElem hlt⟩
          have hsm := List.mem_of_getElem? hs
          obtain ⟨hc1, hc2⟩ := HCAP.out s hsm
          have hs6 := HX6.out s hsm
          obtain ⟨hsg, hsc⟩ := HXG.out s hsm
          have c0 := hrow.cell j s hs
          have hsr := (hea.1 s hsm).2
          rw [hs6] at c0 hc1
          have hall := hasTo_all hsc
          rw [hs6] at hall
          have K := Lib.hid (iSixC_yes s.g s.cap hc1 hc2 s.l hsg wr hsr)
          have HALL := Lib.hid hall
          have HS := Lib.hid hs
          have HSM := Lib.hid hsm
          have HS6 := Lib.hid hs6
          have HRW := Lib.hid hrow
          have HEA := Lib.hid hea
          have HB0 := Lib.hid hb0
          have b1 : (0 : Int) ≤ (j : Int) := by omega
          have b2 : (j : Int) < (xs.length : Int) := by omega
          clear hs hsm hs6 hsg hsc hsr hall hrow hea hb0 hc1 hc2
          go_wp2_with fail
          with_reducible refine (K.out).mono ?_
          rintro e w5 ⟨gn, cn, rfl, hgn, hrn, hb5⟩
          have HR5 := Lib.hid (HRW.out.below hb5)
          have HE5 := Lib.hid (HEA.out.below hb5)
          have HB5 := Lib.hid (below_step HB0.out hb5)
          clear hrn hb5 K HRW HEA HB0 c0
          go_wp2_with fail
          go_loopw [11, 12] (fun h c wr => ∃ k : Nat, k ≤ 6 ∧ c = .int .i64 k ∧ h = .bool (hasTo x s.l k) ∧ RowS wr gi xs ∧ Each wr wc.heap.size xs ∧ Below w.heap.size w wr) (fun _ c _ => 6 - (intOf c).toNat)
          case atStart => exact ⟨0, by omega, rfl, rfl, HR5.out, HE5.out, HB5.out⟩
          case round =>
            clear HR5 HE5 HB5
            obtain ⟨k, hk, rfl, rfl, hrow, hea, hb0⟩ := hrel
            have c0 := hrow.cell j s HS.out
            rw [HS6.out] at c0
            have HRW := Lib.hid hrow
            have HEA := Lib.hid hea
            have HB0 := Lib.hid hb0
            by_cases hkt : k < 6
            · have hdk : decide ((k : Int) < 6) = true := decide_eq_true (by omega)
              have ck := ((hea.1 s HSM.out).2).cell k (by rw [HS6.out]; omega)
              have b3 : (0 : Int) ≤ (k : Int) := by omega
              have b4 : (k : Int) < 6 := by omega
              have HST := Lib.hid (show hasTo x s.l (k + 1) = (hasTo x s.l k || (s.l.getD k 0 == x)) from rfl)
              generalize s.l.getD k 0 = q at ck HST
              generalize s.g = sg at c0 ck
              generalize s.cap = sc at c0
              clear hrow hea hb0
              cases hh : hasTo x s.l k
              · cases hq : q == x
                all_goals
                  have HH := Lib.hid hh
                  have HQ := Lib.hid hq
                  go_wp2_with fail
                  go_roundw
                  case rel => first | exact ⟨k + 1, by omega, by go_num, by rw [HST.out, HH.out, HQ.out]; rfl, HRW.out, HEA.out, HB0.out⟩ | ((repeat apply Exists.intro); (refine ⟨?_, rfl⟩); exact ⟨k + 1, by omega, by go_num, by rw [HST.out, HH.out, HQ.out]; rfl, HRW.out, HEA.out, HB0.out⟩)
                  case measure => ((simp [intOf]) <;> omega)
              · have HH := Lib.hid hh
                go_wp2_with fail
                go_roundw
                case rel => first | exact ⟨k + 1, by omega, by go_num, by rw [HST.out, HH.out]; rfl, HRW.out, HEA.out, HB0.out⟩ | ((repeat apply Exists.intro); (refine ⟨?_, rfl⟩); exact ⟨k + 1, by omega, by go_num, by rw [HST.out, HH.out]; rfl, HRW.out, HEA.out, HB0.out⟩)
                case measure => ((simp [intOf]) <;> omega)
            · obtain rfl : k = 6 := by omega
              generalize s.g = sg at c0
              generalize s.cap = sc at c0
              clear hrow hea hb0
              rw [HALL.out]
              go_wp2_with fail
              go_roundw
              case rel => first | exact ⟨j + 1, by omega, by go_num, HRW.out, HEA.out, HB0.out⟩ | ((repeat apply Exists.intro); (refine ⟨?_, rfl⟩); exact ⟨j + 1, by omega, by go_num, HRW.out, HEA.out, HB0.out⟩)
              case measure => ((simp [intOf]) <;> omega)
        · obtain rfl : j = xs.length := by omega
          have q1 : ((xs.length : Int) == 16) = true := by
            have := HXL.out
            rw [beq_iff_eq]
            omega
          go_wp2_with fail
          go_ret
          exact ⟨rfl, hb0⟩

set_option maxRecDepth 100000 in
theorem lifted (os : Os) (started : os.Started) (H : Type) (enc : TypeId × Value → H) :
    ReturnsInHanded {} Try.checked os 12 .any (Rows.fnSixesSpec.pre6 enc Try.prog Try.f12 Rows.fnSixesRow.domain false) (Rows.fnSixesSpec.post enc Try.prog Try.f12 false true false false) := by
  refine returnsInHanded_of_change (C := Try.checked) own started (by kernel_rfl) Try.func12
    (ChangeSpec.witness6 (enc := enc) (C := Try.checked) false ⟨#[], #[.slice none 0 0], []⟩ 8 (by kernel_rfl) (by kernel_rfl) (by kernel_rfl) (by kernel_rfl)) ?_
  intro W base args ds gs before hval0 hW hcnd _
  have hval : ∀ (j : Nat) t v, Try.f12.params[j]? = some t → args[j]? = some v → Value.okWide Try.prog W .any base t v := hval0
  have hW' := hW
  obtain ⟨p, q, hA0, hV, rfl, hfz, hnd⟩ := hW
  have hA : DataW.TrodAll enc Try.prog W 0 (fun _ => true) true Try.f12.params.toList args.toList ds p := hA0
  rw [Try.params12] at hA hval
  obtain ⟨v0, vs0, d0, ds0, p0, q0, hargs, rfl, rfl, h0, r0⟩ := trodAll_cons hA
  obtain ⟨rfl, rfl, rfl⟩ := trodAll_nil r0
  obtain rfl : args = #[v0] := by cases args; simp_all
  obtain ⟨rfl, rfl⟩ := trodVars_none hV
  obtain ⟨a0, len0, cap0, rfl⟩ := okWide_slice Try.underlying22 (hval 0 22 v0 rfl rfl)
  have k0 := h0
  have lt0 : ∀ x ∈ p0, x.block < W.heap.size := by obtain ⟨m, hm⟩ := k0; exact DataW.trod_lt m _ _ _ hm
  obtain ⟨l0, w0⟩ : ∃ l, ArgRow .u8 W a0 len0 cap0 l := by
    obtain ⟨fuel, hf⟩ := h0
    rcases open_ints Try.underlying22 Try.underlying5 (by kernel_rfl) hf with ⟨hcs, _⟩ | ⟨x, l, c, zs, hcs, _, hl, hm, hz, _, hcell, hwz⟩
    · simp [Value.cells] at hcs
      obtain ⟨rfl, rfl, rfl⟩ := hcs
      exact ⟨[], rfl, ⟨Nat.le_refl _, by unfold maxLen; omega⟩, by simp, .inl rfl⟩
    · simp [Value.cells] at hcs
      obtain ⟨rfl, rfl, rfl⟩ := hcs
      exact ⟨_, argRow_of hl hm (by simpa using hz) hcell hwz⟩
  clear hA0 hval0
  refine (walk a0 len0 cap0 l0 W w0).mono fun e W' ⟨he, bel⟩ => ?_
  subst he
  exact ⟨_, rfl, _, _, _, [], _, [], hW', trodAll_mk1 (shut_bool Try.underlying4 _), (trodAll_cons_mk (Below.trod laidOut (by kernel_rfl) (of_decide_eq_true (by kernel_rfl)) k0 bel lt0) trodAll_mk0), rfl, bel.frame _, fun h => by cases h⟩

theorem over : Rows.fnSixesRow.holds Try.pinned (OpenSpec.ofChange Rows.fnSixesSpec) :=
  OpenClaim.holds_of_wide 12 Try.f12 rfl rfl rfl rfl rfl rfl rfl ⟨rfl, rfl, rfl, rfl, rfl⟩ rfl rfl rfl rfl rfl (by kernel_rfl) Try.func12 (by kernel_rfl)
    (of_decide_eq_true (by kernel_rfl)) (by unfold Func.isWrapper; first | (rw [if_pos (by decide +kernel)]; kernel_rfl) | (rw [if_neg (by decide +kernel)]; exact ⟨rfl, rfl⟩))
    (fun os started H enc _ => lifted os started H enc)

theorem proved : Rows.FnSixesSaid := over
#print axioms proved
end Go.Proofs.Ytogmfadeedmmaaa.lawSixes
