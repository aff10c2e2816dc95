/- There are 45 tritangent planes, five with each line: for every code the drawn line's list has so many planes, each with the third line of its first two. No condition. -/
import Derived.Test.YtogmfadeedmmaaaPlJ
import Derived.Test.YtogmfadeedmmaaaSS
import Derived.Test.YtogmfadeedmmaaaPlF
import Derived.Test.YtogmfadeedmmaaaDraw
import Derived.Test.YtogmfadeedmmaaaArg
namespace Go.Proofs.Ytogmfadeedmmaaa.lawPlanes
open Go.ChangeShapes Go.WideShapes Go.ChangeAt Go.RowKit
set_option linter.unusedVariables false
set_option linter.unusedSimpArgs false

set_option maxRecDepth 20000 in
set_option maxHeartbeats 16000000 in
theorem walk (a0 : Option Addr) (n0 cap0 : Nat) (l0 : List Int) (w : World) (h0 : ArgRow .u8 w a0 n0 cap0 l0) :
    Calls Try.prog 9 #[.slice a0 n0 cap0] w fun e w' => e = .returned (.bool true) ∧ Below w.heap.size w w' := by
  by_cases hbig : 1048576 < n0
  · go_enter Try.func9, Try.ntmps9
    go_wp2
    go_ret
    exact ⟨rfl, by (repeat (first | (with_reducible exact Below.refl _ _) | (with_reducible refine bl_alloc ?_ ?_ _; focus (first | omega | (simp; done) | (simp; omega))) | (with_reducible refine bl_set ?_ ?_ _; focus (first | omega | (simp; done) | (simp; omega))) | (with_reducible refine Below.drew ?_) | (with_reducible refine below_drewN ?_ _) | (with_reducible refine below_step ?_ (by assumption))))⟩
  · go_enter Try.func9, Try.ntmps9
    go_wp2_with fail
    refine (drawLinePlanes_any a0 n0 cap0 l0 _ h0).mono ?_
    rintro e wc ⟨x, rfl, ⟨hx0, hx1⟩, hb1⟩
    have hsz := hb1.size
    clear h0
    cases hr : inB x (-1) 26
    · have HRB := Lib.hid hr
      clear hr
      go_wp2_with fail
      refine (iPlanes_out _ HRB.out _).mono ?_
      rintro e w1 ⟨rfl, hd1⟩
      have hB1 := below_step hb1 hd1
      go_wp2_with fail
      refine (sPlanes_out _ HRB.out _).mono ?_
      rintro e w2 ⟨⟨gs, rfl⟩, hd2⟩
      have hB2 := below_step hB1 hd2
      clear hb1 hd1 hd2 hB1
      go_wp2_with fail
      refine (sameRows_nil _ _ _ _ _).mono ?_
      rintro e w3 ⟨rfl, hd3⟩
      have hB3 := below_step hB2 hd3
      clear hB2 hd3
      go_wp2_with fail
      refine (sameRows_nil _ _ _ _ _).mono ?_
      rintro e w4 ⟨rfl, hd4⟩
      have hB4 := below_step hB3 hd4
      clear hB3 hd4
      go_wp2_with fail
      go_ret
      exact ⟨rfl, hB4⟩
    · have KS := fun W => sPlanes_in x hr W
      have KI := fun W => iPlanes_in x hr W
      have hform := plB_form x
      have h45 : (plB x).length ≤ 45 := plB_len x
      have hcnt : (x = -1 ∧ (plB x).length = 45) ∨ (x ≠ -1 ∧ 0 ≤ x ∧ (plB x).length = 5) := by
        by_cases e : x = -1
        · exact .inl ⟨e, by rw [e]; exact plB_45⟩
        · have h : 0 ≤ x ∧ x < 27 := by
            simp only [inB, Bool.and_eq_true, decide_eq_true_eq] at hr
            omega
          refine .inr ⟨e, h.1, ?_⟩
          have := plB_5 x.toNat (by omega)
          rwa [show ((x.toNat : Nat) : Int) = x by omega] at this
      rw [p_all, ← plB_def] at KS
      generalize plB x = L at KS KI hform h45 hcnt
      have HKS := Lib.hid KS
      have HKI := Lib.hid KI
      have HF := Lib.hid hform
      have HC := Lib.hid hcnt
      clear KS KI hr hform hcnt
      go_wp2_with fail
      refine (HKI.out _).mono ?_
      rintro e w1 ⟨gi, ci, xs, rfl, hLi, hgi, hri, hei, hd1⟩
      have hB1 := below_step hb1 hd1
      go_wp2_with fail
      refine (HKS.out _).mono ?_
      rintro e w2 ⟨gs, cs, ys, rfl, hLs, hgs, hrs, hes, hd2⟩
      have hB2 := below_step hB1 hd2
      have hri2 := hri.below hd2
      have hei2 := hei.below hd2
      have hxl : xs.length = L.length := by rw [← lls_len, hLi]
      have hx45 : xs.length ≤ 45 := by omega
      have HXL := Lib.hid hxl
      clear hxl h45
      have hx3 : ∀ s ∈ xs, s.l.length ≤ 1000 := fun s hs => by
        obtain ⟨i, k, c, _, _, _, _, e⟩ := ll_all hLi HF.out s hs
        rw [e]
        simp
      clear hb1 hd1 hri hei hd2 hB1
      have K1 := Lib.hid (sameRows_same gi gs ci cs xs ys (by rw [hLi, hLs]) (by omega) hx3 _ _ _ hri2 hrs hei2 hes)
      clear hrs hes
      go_wp2_with fail
      with_reducible refine (K1.out).mono ?_
      rintro e w3 ⟨rfl, hd3⟩
      have hB3 := below_step hB2 hd3
      have hri3 := hri2.below hd3
      have hei3 := hei2.below hd3
      have HX := Lib.hid (ll_all hLi HF.out)
      clear K1 hri2 hei2 hd3 hB2 hx3
      go_wp2_with fail
      go_loopw [8] (fun c wr => ∃ j : Nat, j ≤ xs.length ∧ c = .int .i64 j ∧ RowS wr gi xs ∧ Each wr wc.heap.size xs ∧ Below w.heap.size w wr) (fun c _ => xs.length - (intOf c).toNat)
      case atStart => exact ⟨0, by omega, rfl, hri3, hei3.le (by omega), hB3⟩
      case round =>
        clear hri3 hei3 hB3
        obtain ⟨j, hj, rfl, hrow, hea, hb0⟩ := hrel
        by_cases hlt : j < xs.length
        · obtain ⟨s, hs⟩ : ∃ s, xs[j]? = some s := ⟨xs[j], List.getElem?_eq_getElem hlt⟩
          have hsm := List.mem_of_getElem? hs
          obtain ⟨i, k, t, hi, hk, hm, ht, hsl⟩ := HX.out s hsm
          have c0 := hrow.cell j s hs
          have hsr := (hea.1 s hsm).2
          rw [hsl] at c0 hsr
          have c1 := hsr.cell 0 (by simp)
          have c2 := hsr.cell 1 (by simp)
          have c3 := hsr.cell 2 (by simp)
          have K0 := iThird_in i k hi hk wr.drew
          rw [hm, ht] at K0
          have K := Lib.hid K0
          have HRW := Lib.hid hrow
          have HEA := Lib.hid hea
          have HB0 := Lib.hid hb0
          have g1 := hrow.lt
          have g2 := hsr.lt
          have b1 : (0 : Int) ≤ (j : Int) := by omega
          have b2 : (j : Int) < (xs.length : Int) := by omega
          simp only [List.getD_cons_zero, List.getD_cons_succ] at c1 c2 c3
          generalize s.g = sg at c0 c1 c2 c3 g2
          generalize s.cap = sc at c0
          have hlen3 : [(i : Int), (k : Int), t].length = 3 := rfl
          rw [hlen3] at c0
          clear hs hsm hsl hsr hm ht K0 hrow hea hb0 hlen3
          go_wp2_with fail
          go_region_held3 (fun w' => w'.cell? ⟨gi, j, none⟩ = some (.slice (some ⟨sg, 0, none⟩) 3 sc) ∧ w'.cell? ⟨sg, 0, none⟩ = some (.int .i64 (i : Int)) ∧ w'.cell? ⟨sg, 1, none⟩ = some (.int .i64 (k : Int)) ∧ w'.cell? ⟨sg, 2, none⟩ = some (.int .i64 t)) ((refine ⟨?_, ?_, ?_, ?_⟩ <;> (first | assumption | (simp [go_sem, *]; done)))) ((go_at_call 40; ((with_reducible refine (K.out).mono ?_); rintro e w' ⟨rfl, hb⟩; have j0 := hb.cell (p := ⟨gi, j, none⟩) g1; have j1 := hb.cell (p := ⟨sg, 0, none⟩) g2; have j2 := hb.cell (p := ⟨sg, 1, none⟩) g2; have j3 := hb.cell (p := ⟨sg, 2, none⟩) g2)))
          all_goals
            have HR1 := Lib.hid (RowS.below (w := wr.drew) HRW.out hb)
            have HE1 := Lib.hid (Each.below (w := wr.drew) HEA.out hb)
            have HB1 := Lib.hid (below_step (Below.drew HB0.out) hb)
            have d0 := j0.trans c0
            have d3 := j3.trans c3
            clear hb j0 j1 j2 j3
            go_wp2_with fail
            go_roundw
            case rel => first | exact ⟨j + 1, by omega, by go_num, HR1.out, HE1.out, HB1.out⟩ | ((repeat apply Exists.intro); (refine ⟨?_, rfl⟩); exact ⟨j + 1, by omega, by go_num, HR1.out, HE1.out, HB1.out⟩)
            case measure => ((simp [intOf]) <;> omega)
        · obtain rfl : j = xs.length := by omega
          have hxl := HXL.out
          rcases HC.out with ⟨rfl, h⟩ | ⟨h1, h2, h3⟩
          · have q1 : ((xs.length : Int) == 45) = true := by
              rw [beq_iff_eq]
              omega
            clear hxl h HC
            go_wp2_with fail
            go_ret
            exact ⟨rfl, hb0⟩
          · have q1 : ((xs.length : Int) == 5) = true := by
              rw [beq_iff_eq]
              omega
            have q2 : (x == -1) = false := by
              rw [beq_eq_false_iff_ne]
              exact h1
            have q3 : decide (0 ≤ x) = true := decide_eq_true h2
            clear hxl h3 HC
            go_wp2_with fail
            go_ret
            exact ⟨rfl, hb0⟩

set_option maxRecDepth 100000 in
theorem lifted (os : Os) (started : os.Started) (H : Type) (enc : TypeId × Value → H) :
    ReturnsInHanded {} Try.checked os 9 .any (Rows.fnPlanesSpec.pre6 enc Try.prog Try.f9 Rows.fnPlanesRow.domain false) (Rows.fnPlanesSpec.post enc Try.prog Try.f9 false true false false) := by
  refine returnsInHanded_of_change (C := Try.checked) own started (by kernel_rfl) Try.func9
    (ChangeSpec.witness6 (enc := enc) (C := Try.checked) false ⟨#[], #[.slice none 0 0], []⟩ 8 (by kernel_rfl) (by kernel_rfl) (by kernel_rfl) (by kernel_rfl)) ?_
  intro W base args ds gs before hval0 hW hcnd _
  have hval : ∀ (j : Nat) t v, Try.f9.params[j]? = some t → args[j]? = some v → Value.okWide Try.prog W .any base t v := hval0
  have hW' := hW
  obtain ⟨p, q, hA0, hV, rfl, hfz, hnd⟩ := hW
  have hA : DataW.TrodAll enc Try.prog W 0 (fun _ => true) true Try.f9.params.toList args.toList ds p := hA0
  rw [Try.params9] at hA hval
  obtain ⟨v0, vs0, d0, ds0, p0, q0, hargs, rfl, rfl, h0, r0⟩ := trodAll_cons hA
  obtain ⟨rfl, rfl, rfl⟩ := trodAll_nil r0
  obtain rfl : args = #[v0] := by cases args; simp_all
  obtain ⟨rfl, rfl⟩ := trodVars_none hV
  obtain ⟨a0, len0, cap0, rfl⟩ := okWide_slice Try.underlying22 (hval 0 22 v0 rfl rfl)
  have k0 := h0
  have lt0 : ∀ x ∈ p0, x.block < W.heap.size := by obtain ⟨m, hm⟩ := k0; exact DataW.trod_lt m _ _ _ hm
  obtain ⟨l0, w0⟩ : ∃ l, ArgRow .u8 W a0 len0 cap0 l := by
    obtain ⟨fuel, hf⟩ := h0
    rcases open_ints Try.underlying22 Try.underlying5 (by kernel_rfl) hf with ⟨hcs, _⟩ | ⟨x, l, c, zs, hcs, _, hl, hm, hz, _, hcell, hwz⟩
    · simp [Value.cells] at hcs
      obtain ⟨rfl, rfl, rfl⟩ := hcs
      exact ⟨[], rfl, ⟨Nat.le_refl _, by unfold maxLen; omega⟩, by simp, .inl rfl⟩
    · simp [Value.cells] at hcs
      obtain ⟨rfl, rfl, rfl⟩ := hcs
      exact ⟨_, argRow_of hl hm (by simpa using hz) hcell hwz⟩
  clear hA0 hval0
  refine (walk a0 len0 cap0 l0 W w0).mono fun e W' ⟨he, bel⟩ => ?_
  subst he
  exact ⟨_, rfl, _, _, _, [], _, [], hW', trodAll_mk1 (shut_bool Try.underlying4 _), (trodAll_cons_mk (Below.trod laidOut (by kernel_rfl) (of_decide_eq_true (by kernel_rfl)) k0 bel lt0) trodAll_mk0), rfl, bel.frame _, fun h => by cases h⟩

theorem over : Rows.fnPlanesRow.holds Try.pinned (OpenSpec.ofChange Rows.fnPlanesSpec) :=
  OpenClaim.holds_of_wide 9 Try.f9 rfl rfl rfl rfl rfl rfl rfl ⟨rfl, rfl, rfl, rfl, rfl⟩ rfl rfl rfl rfl rfl (by kernel_rfl) Try.func9 (by kernel_rfl)
    (of_decide_eq_true (by kernel_rfl)) (by unfold Func.isWrapper; first | (rw [if_pos (by decide +kernel)]; kernel_rfl) | (rw [if_neg (by decide +kernel)]; exact ⟨rfl, rfl⟩))
    (fun os started H enc _ => lifted os started H enc)

theorem proved : Rows.FnPlanesSaid := over
#print axioms proved
end Go.Proofs.Ytogmfadeedmmaaa.lawPlanes
