/- Double sixes have two sixes: for every code the drawn six has another one, whose other one it is, and each line of which meets five of its lines. No condition. -/
import Derived.Test.YtogmfadeedmmaaaDrawS
import Derived.Test.YtogmfadeedmmaaaSixG
import Derived.Test.YtogmfadeedmmaaaSame
import Derived.Test.YtogmfadeedmmaaaLineMeets
import Derived.Test.YtogmfadeedmmaaaArg
namespace Go.Proofs.Ytogmfadeedmmaaa.lawSix
open Go.ChangeShapes Go.WideShapes Go.ChangeAt Go.RowKit
set_option linter.unusedVariables false
set_option linter.unusedSimpArgs false

set_option maxRecDepth 20000 in
set_option maxHeartbeats 16000000 in
theorem walk (a0 : Option Addr) (n0 cap0 : Nat) (l0 : List Int) (w : World) (h0 : ArgRow .u8 w a0 n0 cap0 l0) :
    Calls Try.prog 11 #[.slice a0 n0 cap0] w fun e w' => e = .returned (.bool true) ∧ Below w.heap.size w w' := by
  by_cases hbig : 1048576 < n0
  · go_enter Try.func11, Try.ntmps11
    go_wp2
    go_ret
    exact ⟨rfl, by (repeat (first | (with_reducible exact Below.refl _ _) | (with_reducible refine bl_alloc ?_ ?_ _; focus (first | omega | (simp; done) | (simp; omega))) | (with_reducible refine bl_set ?_ ?_ _; focus (first | omega | (simp; done) | (simp; omega))) | (with_reducible refine Below.drew ?_) | (with_reducible refine below_drewN ?_ _) | (with_reducible refine below_step ?_ (by assumption))))⟩
  · go_enter Try.func11, Try.ntmps11
    go_wp2_with fail
    refine (drawLineSix_any a0 n0 cap0 l0 _ h0).mono ?_
    rintro e wc ⟨g, cap, L, rfl, hL6, hc1, hc2, hrow, hb1⟩
    clear h0
    cases hs : sixB L
    · have K1 := Lib.hid (fun W h => iSixC_no g cap hc1 hc2 L hL6 hs W h)
      have K2 := Lib.hid (fun W h => sSixC_no g cap L hL6 hs W h)
      have HR := Lib.hid hrow
      clear hs hL6 hrow
      go_wp2_with fail
      refine (K1.out _ HR.out).mono ?_
      rintro e w1 ⟨rfl, hd1⟩
      have hB1 := below_step hb1 hd1
      have HR1 := Lib.hid (HR.out.below hd1)
      clear hb1 hd1
      go_wp2_with fail
      refine (K2.out _ HR1.out).mono ?_
      rintro e w2 ⟨⟨gs, rfl⟩, hd2⟩
      have hB2 := below_step hB1 hd2
      clear hB1 hd2
      go_wp2_with fail
      refine (sameInts_nil _ _ _ _ _).mono ?_
      rintro e w3 ⟨rfl, hd3⟩
      have hB3 := below_step hB2 hd3
      clear hB2 hd3
      go_wp2_with fail
      refine (sameInts_nil _ _ _ _ _).mono ?_
      rintro e w4 ⟨rfl, hd4⟩
      have hB4 := below_step hB3 hd4
      clear hB3 hd4
      go_wp2_with fail
      go_ret
      exact ⟨rfl, hB4⟩
    · obtain ⟨hM6, hMs, hML, hcnt⟩ := dbl hs
      have hLg : ∀ i, i < 6 → ln L i < 27 ∧ (ln L i : Int) = L.getD i 0 := fun i hi => by
        simp only [sixB, Bool.and_eq_true] at hs
        exact goodAt_line (goodTo_at hs.2 i (by omega))
      have K1 := fun W h => iSixC_cap g cap hc1 hc2 L hs W h
      have K2 := fun W h => sSixC_yes g cap L hs W h
      generalize linesB (fiveB L) 27 = M at hM6 hMs hML hcnt K1 K2
      have hMg : ∀ i, i < 6 → ln M i < 27 ∧ (ln M i : Int) = M.getD i 0 := fun i hi => by
        simp only [sixB, Bool.and_eq_true] at hMs
        exact goodAt_line (goodTo_at hMs.2 i (by omega))
      have K3 := fun g' cap' h1 h2 W h => iSixC_cap g' cap' h1 h2 M hMs W h
      rw [hML] at K3
      have hn1 : M.length ≤ 1000 := by omega
      have hn2 : L.length ≤ 1000 := by omega
      have KM : ∀ (ga gb ca cb : Nat) (W : World), Row W ga M → Row W gb M → Calls Try.prog 31 #[.slice (some ⟨ga, 0, none⟩) 6 ca, .slice (some ⟨gb, 0, none⟩) 6 cb] W fun e w' => e = .returned (.bool true) ∧ Below W.heap.size W w' := fun ga gb ca cb W h1 h2 => by
        have h := sameInts_same ga gb ca cb M (by omega) W h1 h2
        rw [hM6] at h
        exact h
      have KL : ∀ (ga gb ca cb : Nat) (W : World), Row W ga L → Row W gb L → Calls Try.prog 31 #[.slice (some ⟨ga, 0, none⟩) 6 ca, .slice (some ⟨gb, 0, none⟩) 6 cb] W fun e w' => e = .returned (.bool true) ∧ Below W.heap.size W w' := fun ga gb ca cb W h1 h2 => by
        have h := sameInts_same ga gb ca cb L (by omega) W h1 h2
        rw [hL6] at h
        exact h
      have HK1 := Lib.hid K1
      have HK2 := Lib.hid K2
      have HK3 := Lib.hid K3
      have HKM := Lib.hid KM
      have HKL := Lib.hid KL
      have HM := Lib.hid hMg
      have HL := Lib.hid hLg
      have HC := Lib.hid hcnt
      have HR := Lib.hid hrow
      have HM6 := Lib.hid hM6
      have HL6 := Lib.hid hL6
      clear K1 K2 K3 KM KL hMg hLg hcnt hrow hs hMs hML hn1 hn2
      go_wp2_with fail
      refine (HK1.out _ HR.out).mono ?_
      rintro e w1 ⟨gi, ci, rfl, hgi, hri, hd1, hci⟩
      have hB1 := below_step hb1 hd1
      have HR1 := Lib.hid (HR.out.below hd1)
      have HI1 := Lib.hid hri
      have HCI := Lib.hid hci
      clear hb1 hd1 hri hci HR
      go_wp2_with fail
      refine (HK2.out _ HR1.out).mono ?_
      rintro e w2 ⟨gs, cs, rfl, hgs, hrs, hd2⟩
      have hB2 := below_step hB1 hd2
      have HR2 := Lib.hid (HR1.out.below hd2)
      have HI2 := Lib.hid (HI1.out.below hd2)
      have HS2 := Lib.hid hrs
      clear hB1 hd2 hrs HR1 HI1
      go_wp2_with fail
      with_reducible refine (HKM.out _ _ _ _ _ HI2.out HS2.out).mono ?_
      rintro e w3 ⟨rfl, hd3⟩
      have hB3 := below_step hB2 hd3
      have HR3 := Lib.hid (HR2.out.below hd3)
      have HI3 := Lib.hid (HI2.out.below hd3)
      clear hB2 hd3 HR2 HI2 HS2
      go_wp2_with fail
      with_reducible refine (HK3.out gi ci (by have := HCI.out; have := HM6.out; omega) HCI.out.2 _ HI3.out).mono ?_
      rintro e w4 ⟨gx, cx, rfl, hgx, hrx, hd4, _⟩
      have hB4 := below_step hB3 hd4
      have HR4 := Lib.hid (HR3.out.below hd4)
      have HI4 := Lib.hid (HI3.out.below hd4)
      have HX4 := Lib.hid hrx
      have HB4 := Lib.hid hB4
      clear hB3 hd4 hrx HR3 HI3 hB4
      go_wp2_with fail
      go_loopw [10] (fun c wr => ∃ i : Nat, i ≤ 6 ∧ c = .int .i64 i ∧ Row wr gi M ∧ Row wr g L ∧ Row wr gx L ∧ Below w.heap.size w wr) (fun c _ => 6 - (intOf c).toNat)
      case atStart => exact ⟨0, by omega, rfl, HI4.out, HR4.out, HX4.out, HB4.out⟩
      case round =>
        clear HI4 HR4 HX4 HB4
        obtain ⟨i, hi, rfl, hri, hrl, hrx, hb0⟩ := hrel
        have HI := Lib.hid hri
        have HR := Lib.hid hrl
        have HX := Lib.hid hrx
        have HB := Lib.hid hb0
        clear hri hrl hrx hb0
        by_cases hlt : i < 6
        · have hdi : decide ((i : Int) < 6) = true := decide_eq_true (by omega)
          obtain ⟨hm27, hme⟩ := HM.out i hlt
          have HCI2 := Lib.hid (HC.out i hlt)
          have HME := Lib.hid hme
          clear hme
          generalize hmi : ln M i = mi at hm27 HCI2 HME
          clear hmi
          go_wp2_with fail
          go_loopw [11, 12] (fun nn c wr => ∃ k : Nat, k ≤ 6 ∧ c = .int .i64 k ∧ nn = .int .i64 (cntS L mi k : Nat) ∧ Row wr gi M ∧ Row wr g L ∧ Row wr gx L ∧ Below w.heap.size w wr) (fun _ c _ => 6 - (intOf c).toNat)
          case atStart => exact ⟨0, by omega, rfl, rfl, HI.out, HR.out, HX.out, HB.out⟩
          case round =>
            clear HI HR HX HB
            obtain ⟨k, hk, rfl, rfl, hri, hrl, hrx, hb0⟩ := hrel
            have hle := cntS_le L mi k
            by_cases hkt : k < 6
            · have hdk : decide ((k : Int) < 6) = true := decide_eq_true (by omega)
              obtain ⟨hl27, hle2⟩ := HL.out k hkt
              have ci1 := hri.cell i (by rw [HM6.out]; omega)
              rw [← HME.out] at ci1
              have ck1 := hrl.cell k (by rw [HL6.out]; omega)
              rw [← hle2] at ck1
              have HST := Lib.hid (show cntS L mi (k + 1) = cntS L mi k + if mtB mi (ln L k) then 1 else 0 from rfl)
              clear hle2
              generalize ln L k = lk at hl27 ck1 HST
              generalize cntS L mi k = q at hle HST
              have g1 := hri.lt
              have g2 := hrl.lt
              have HI := Lib.hid hri
              have HR := Lib.hid hrl
              have HX := Lib.hid hrx
              have HB := Lib.hid hb0
              have b1 : (0 : Int) ≤ (i : Int) := by omega
              have b2 : (i : Int) < 6 := by omega
              have b3 : (0 : Int) ≤ (k : Int) := by omega
              have b4 : (k : Int) < 6 := by omega
              have K := Lib.hid (iLineMeets_in mi lk hm27 hl27 wr.drew)
              clear hri hrl hrx hb0
              cases hm : mtB mi lk
              all_goals
                have HMT := Lib.hid hm
                rw [hm] at K
                clear hm
                go_wp2_with fail
                go_region_held3 (fun w' => w'.cell? ⟨gi, i, none⟩ = some (.int .i64 (mi : Int)) ∧ w'.cell? ⟨g, k, none⟩ = some (.int .i64 (lk : Int))) ((refine ⟨?_, ?_⟩ <;> (first | assumption | (simp [go_sem, *]; done)))) ((go_at_call 23; ((with_reducible refine (K.out).mono ?_); rintro e w' ⟨rfl, hb⟩; have j1 := hb.cell (p := ⟨gi, i, none⟩) g1; have j2 := hb.cell (p := ⟨g, k, none⟩) g2)))
                have HI5 := Lib.hid (Row.below (w := wr.drew) HI.out hb)
                have HR5 := Lib.hid (Row.below (w := wr.drew) HR.out hb)
                have HX5 := Lib.hid (Row.below (w := wr.drew) HX.out hb)
                have HB5 := Lib.hid (below_step (Below.drew HB.out) hb)
                clear hb j1 j2 K HI HR HX HB
                go_wp2_with fail
                go_roundw
                case rel => first | exact ⟨k + 1, by omega, by go_num, by rw [HST.out, HMT.out]; first | rfl | (simp; done) | go_num, HI5.out, HR5.out, HX5.out, HB5.out⟩ | ((repeat apply Exists.intro); (refine ⟨?_, rfl⟩); exact ⟨k + 1, by omega, by go_num, by rw [HST.out, HMT.out]; first | rfl | (simp; done) | go_num, HI5.out, HR5.out, HX5.out, HB5.out⟩)
                case measure => ((simp [intOf]) <;> omega)
            · obtain rfl : k = 6 := by omega
              have HI := Lib.hid hri
              have HR := Lib.hid hrl
              have HX := Lib.hid hrx
              have HB := Lib.hid hb0
              clear hri hrl hrx hb0 hle
              rw [HCI2.out]
              go_wp2_with fail
              go_roundw
              case rel => first | exact ⟨i + 1, by omega, by go_num, HI.out, HR.out, HX.out, HB.out⟩ | ((repeat apply Exists.intro); (refine ⟨?_, rfl⟩); exact ⟨i + 1, by omega, by go_num, HI.out, HR.out, HX.out, HB.out⟩)
              case measure => ((simp [intOf]) <;> omega)
        · obtain rfl : i = 6 := by omega
          go_wp2_with fail
          with_reducible refine (HKL.out _ _ _ _ _ HX.out HR.out).mono ?_
          rintro e w6 ⟨rfl, hd6⟩
          have hB6 := below_step HB.out hd6
          clear hd6
          go_wp2_with fail
          go_ret
          exact ⟨rfl, hB6⟩

set_option maxRecDepth 100000 in
theorem lifted (os : Os) (started : os.Started) (H : Type) (enc : TypeId × Value → H) :
    ReturnsInHanded {} Try.checked os 11 .any (Rows.fnSixSpec.pre6 enc Try.prog Try.f11 Rows.fnSixRow.domain false) (Rows.fnSixSpec.post enc Try.prog Try.f11 false true false false) := by
  refine returnsInHanded_of_change (C := Try.checked) own started (by kernel_rfl) Try.func11
    (ChangeSpec.witness6 (enc := enc) (C := Try.checked) false ⟨#[], #[.slice none 0 0], []⟩ 8 (by kernel_rfl) (by kernel_rfl) (by kernel_rfl) (by kernel_rfl)) ?_
  intro W base args ds gs before hval0 hW hcnd _
  have hval : ∀ (j : Nat) t v, Try.f11.params[j]? = some t → args[j]? = some v → Value.okWide Try.prog W .any base t v := hval0
  have hW' := hW
  obtain ⟨p, q, hA0, hV, rfl, hfz, hnd⟩ := hW
  have hA : DataW.TrodAll enc Try.prog W 0 (fun _ => true) true Try.f11.params.toList args.toList ds p := hA0
  rw [Try.params11] at hA hval
  obtain ⟨v0, vs0, d0, ds0, p0, q0, hargs, rfl, rfl, h0, r0⟩ := trodAll_cons hA
  obtain ⟨rfl, rfl, rfl⟩ := trodAll_nil r0
  obtain rfl : args = #[v0] := by cases args; simp_all
  obtain ⟨rfl, rfl⟩ := trodVars_none hV
  obtain ⟨a0, len0, cap0, rfl⟩ := okWide_slice Try.underlying22 (hval 0 22 v0 rfl rfl)
  have k0 := h0
  have lt0 : ∀ x ∈ p0, x.block < W.heap.size := by obtain ⟨m, hm⟩ := k0; exact DataW.trod_lt m _ _ _ hm
  obtain ⟨l0, w0⟩ : ∃ l, ArgRow .u8 W a0 len0 cap0 l := by
    obtain ⟨fuel, hf⟩ := h0
    rcases open_ints Try.underlying22 Try.underlying5 (by kernel_rfl) hf with ⟨hcs, _⟩ | ⟨x, l, c, zs, hcs, _, hl, hm, hz, _, hcell, hwz⟩
    · simp [Value.cells] at hcs
      obtain ⟨rfl, rfl, rfl⟩ := hcs
      exact ⟨[], rfl, ⟨Nat.le_refl _, by unfold maxLen; omega⟩, by simp, .inl rfl⟩
    · simp [Value.cells] at hcs
      obtain ⟨rfl, rfl, rfl⟩ := hcs
      exact ⟨_, argRow_of hl hm (by simpa using hz) hcell hwz⟩
  clear hA0 hval0
  refine (walk a0 len0 cap0 l0 W w0).mono fun e W' ⟨he, bel⟩ => ?_
  subst he
  exact ⟨_, rfl, _, _, _, [], _, [], hW', trodAll_mk1 (shut_bool Try.underlying4 _), (trodAll_cons_mk (Below.trod laidOut (by kernel_rfl) (of_decide_eq_true (by kernel_rfl)) k0 bel lt0) trodAll_mk0), rfl, bel.frame _, fun h => by cases h⟩

theorem over : Rows.fnSixRow.holds Try.pinned (OpenSpec.ofChange Rows.fnSixSpec) :=
  OpenClaim.holds_of_wide 11 Try.f11 rfl rfl rfl rfl rfl rfl rfl ⟨rfl, rfl, rfl, rfl, rfl⟩ rfl rfl rfl rfl rfl (by kernel_rfl) Try.func11 (by kernel_rfl)
    (of_decide_eq_true (by kernel_rfl)) (by unfold Func.isWrapper; first | (rw [if_pos (by decide +kernel)]; kernel_rfl) | (rw [if_neg (by decide +kernel)]; exact ⟨rfl, rfl⟩))
    (fun os started H enc _ => lifted os started H enc)

theorem proved : Rows.FnSixSaid := over
#print axioms proved
end Go.Proofs.Ytogmfadeedmmaaa.lawSix
