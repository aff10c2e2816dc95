/- Names are read: for every code the drawn line's name, if it has one, is read as that line. No condition; the listed tables of Go's library are tied to the program's text. -/
import Derived.Test.YtcejgibanmcahaaDoorNamed
import Derived.Test.YtcejgibanmcahaaDoorDraw
import Derived.Test.YtcejgibanmcahaaDoorRow
import Derived.Test.YtcejgibanmcahaaDoorArg
import Derived.Test.YtcejgibanmcahaaDoorCards
import Derived.Test.YtcejgibanmcahaaDoorTie
import Derived.LaidMore
import Derived.ChangeMaps5
import Derived.Stop.Joined
import Derived.SevenTiedAt
namespace Go.Proofs.YtcejgibanmcahaaDoor.lawName
open Go.ChangeShapes Go.WideShapes Go.ChangeAt Go.RowKit
set_option linter.unusedVariables false
set_option linter.unusedSimpArgs false

set_option maxRecDepth 20000 in
set_option maxHeartbeats 16000000 in
theorem walk (a0 : Option Addr) (n0 cap0 : Nat) (l0 : List Int) (w : World) (h0 : ArgRow .u8 w a0 n0 cap0 l0) :
    Calls Tryd.prog 4 #[.slice a0 n0 cap0] w fun e w' => e = .returned (.bool true) ∧ Below w.heap.size w w' := by
  by_cases hbig : 1048576 < n0
  · go_enter Tryd.func4, Tryd.ntmps4
    go_wp2
    go_ret
    exact ⟨rfl, by (repeat (first | (with_reducible exact Below.refl _ _) | (with_reducible refine bl_alloc ?_ ?_ _; focus (first | omega | (simp; done) | (simp; omega))) | (with_reducible refine bl_set ?_ ?_ _; focus (first | omega | (simp; done) | (simp; omega))) | (with_reducible refine Below.drew ?_) | (with_reducible refine below_drewN ?_ _) | (with_reducible refine below_step ?_ (by assumption))))⟩
  · go_enter Tryd.func4, Tryd.ntmps4
    go_wp2_with fail
    refine (drawLineName_any a0 n0 cap0 l0 _ h0).mono ?_
    rintro e wc ⟨x, rfl, ⟨hx0, hx1⟩, hb1⟩
    have hsz := hb1.size
    clear h0
    cases hr : inB x 0 26
    · go_wp2_with (first | (go_at_call 11; ((with_reducible refine (sLineName_out _ hr _).mono ?_); rintro e w' ⟨rfl, hb⟩; have hbz := hb.size; (try simp only [World.size_alloc, World.size_drew, World.size_setCell] at hbz); (try (have k0 := fun (o : Nat) => hb.cell (p := ⟨w.heap.size, o, none⟩) (by first | (simp; done) | (simp; omega) | omega))); (try (have k1 := fun (o : Nat) => hb.cell (p := ⟨w.heap.size + 1, o, none⟩) (by first | (simp; done) | (simp; omega) | omega))); (try (have k2 := fun (o : Nat) => hb.cell (p := ⟨w.heap.size + 1 + 1, o, none⟩) (by first | (simp; done) | (simp; omega) | omega))); (try (have k3 := fun (o : Nat) => hb.cell (p := ⟨w.heap.size + 1 + 1 + 1, o, none⟩) (by first | (simp; done) | (simp; omega) | omega))); (try (have k4 := fun (o : Nat) => hb.cell (p := ⟨w.heap.size + 1 + 1 + 1 + 1, o, none⟩) (by first | (simp; done) | (simp; omega) | omega))); (try (have k5 := fun (o : Nat) => hb.cell (p := ⟨w.heap.size + 1 + 1 + 1 + 1 + 1, o, none⟩) (by first | (simp; done) | (simp; omega) | omega))); (try (have f0 := fun (o : Nat) => hb.frozen (p := ⟨w.heap.size, o, none⟩) (by first | (simp; done) | (simp; omega) | omega))); (try (have f1 := fun (o : Nat) => hb.frozen (p := ⟨w.heap.size + 1, o, none⟩) (by first | (simp; done) | (simp; omega) | omega))); (try (have f2 := fun (o : Nat) => hb.frozen (p := ⟨w.heap.size + 1 + 1, o, none⟩) (by first | (simp; done) | (simp; omega) | omega))); (try (have f3 := fun (o : Nat) => hb.frozen (p := ⟨w.heap.size + 1 + 1 + 1, o, none⟩) (by first | (simp; done) | (simp; omega) | omega))); (try (have f4 := fun (o : Nat) => hb.frozen (p := ⟨w.heap.size + 1 + 1 + 1 + 1, o, none⟩) (by first | (simp; done) | (simp; omega) | omega))); (try (have f5 := fun (o : Nat) => hb.frozen (p := ⟨w.heap.size + 1 + 1 + 1 + 1 + 1, o, none⟩) (by first | (simp; done) | (simp; omega) | omega))))) | (go_at_call 10; ((with_reducible refine (iLineName_out _ hr _).mono ?_); rintro e w' ⟨rfl, hb⟩; have hbz := hb.size; (try simp only [World.size_alloc, World.size_drew, World.size_setCell] at hbz); (try (have k0 := fun (o : Nat) => hb.cell (p := ⟨w.heap.size, o, none⟩) (by first | (simp; done) | (simp; omega) | omega))); (try (have k1 := fun (o : Nat) => hb.cell (p := ⟨w.heap.size + 1, o, none⟩) (by first | (simp; done) | (simp; omega) | omega))); (try (have k2 := fun (o : Nat) => hb.cell (p := ⟨w.heap.size + 1 + 1, o, none⟩) (by first | (simp; done) | (simp; omega) | omega))); (try (have k3 := fun (o : Nat) => hb.cell (p := ⟨w.heap.size + 1 + 1 + 1, o, none⟩) (by first | (simp; done) | (simp; omega) | omega))); (try (have k4 := fun (o : Nat) => hb.cell (p := ⟨w.heap.size + 1 + 1 + 1 + 1, o, none⟩) (by first | (simp; done) | (simp; omega) | omega))); (try (have k5 := fun (o : Nat) => hb.cell (p := ⟨w.heap.size + 1 + 1 + 1 + 1 + 1, o, none⟩) (by first | (simp; done) | (simp; omega) | omega))); (try (have f0 := fun (o : Nat) => hb.frozen (p := ⟨w.heap.size, o, none⟩) (by first | (simp; done) | (simp; omega) | omega))); (try (have f1 := fun (o : Nat) => hb.frozen (p := ⟨w.heap.size + 1, o, none⟩) (by first | (simp; done) | (simp; omega) | omega))); (try (have f2 := fun (o : Nat) => hb.frozen (p := ⟨w.heap.size + 1 + 1, o, none⟩) (by first | (simp; done) | (simp; omega) | omega))); (try (have f3 := fun (o : Nat) => hb.frozen (p := ⟨w.heap.size + 1 + 1 + 1, o, none⟩) (by first | (simp; done) | (simp; omega) | omega))); (try (have f4 := fun (o : Nat) => hb.frozen (p := ⟨w.heap.size + 1 + 1 + 1 + 1, o, none⟩) (by first | (simp; done) | (simp; omega) | omega))); (try (have f5 := fun (o : Nat) => hb.frozen (p := ⟨w.heap.size + 1 + 1 + 1 + 1 + 1, o, none⟩) (by first | (simp; done) | (simp; omega) | omega))))))
      go_ret
      exact ⟨rfl, by (repeat (first | (with_reducible exact Below.refl _ _) | (with_reducible refine bl_alloc ?_ ?_ _; focus (first | omega | (simp; done) | (simp; omega))) | (with_reducible refine bl_set ?_ ?_ _; focus (first | omega | (simp; done) | (simp; omega))) | (with_reducible refine Below.drew ?_) | (with_reducible refine below_drewN ?_ _) | (with_reducible refine below_step ?_ (by assumption))))⟩
    · obtain ⟨i, rfl⟩ : ∃ k : Nat, x = k := ⟨x.toNat, by simp [inB] at hr; omega⟩
      have hi : i < 27 := by simp [inB] at hr; omega
      clear hr
      have hne := NM_ne i hi
      have hns := NM_nself i hi
      have hss := NM_self i hi
      have hln := LN_NM i hi
      have K1 := fun W : World => iLineName_in i hi W
      have K2 := fun W : World => sLineName_in i hi W
      have K3 := fun W : World => iLineNamed_any (NM i) W
      rw [hln] at K3
      generalize NM i = s at K1 K2 K3 hne hns hss
      clear hln
      go_wp2_with (first | (go_at_call 11; ((with_reducible refine (K2 _).mono ?_); rintro e w' ⟨rfl, hb⟩; have hbz := hb.size; (try simp only [World.size_alloc, World.size_drew, World.size_setCell] at hbz); (try (have k0 := fun (o : Nat) => hb.cell (p := ⟨w.heap.size, o, none⟩) (by first | (simp; done) | (simp; omega) | omega))); (try (have k1 := fun (o : Nat) => hb.cell (p := ⟨w.heap.size + 1, o, none⟩) (by first | (simp; done) | (simp; omega) | omega))); (try (have k2 := fun (o : Nat) => hb.cell (p := ⟨w.heap.size + 1 + 1, o, none⟩) (by first | (simp; done) | (simp; omega) | omega))); (try (have k3 := fun (o : Nat) => hb.cell (p := ⟨w.heap.size + 1 + 1 + 1, o, none⟩) (by first | (simp; done) | (simp; omega) | omega))); (try (have k4 := fun (o : Nat) => hb.cell (p := ⟨w.heap.size + 1 + 1 + 1 + 1, o, none⟩) (by first | (simp; done) | (simp; omega) | omega))); (try (have k5 := fun (o : Nat) => hb.cell (p := ⟨w.heap.size + 1 + 1 + 1 + 1 + 1, o, none⟩) (by first | (simp; done) | (simp; omega) | omega))); (try (have f0 := fun (o : Nat) => hb.frozen (p := ⟨w.heap.size, o, none⟩) (by first | (simp; done) | (simp; omega) | omega))); (try (have f1 := fun (o : Nat) => hb.frozen (p := ⟨w.heap.size + 1, o, none⟩) (by first | (simp; done) | (simp; omega) | omega))); (try (have f2 := fun (o : Nat) => hb.frozen (p := ⟨w.heap.size + 1 + 1, o, none⟩) (by first | (simp; done) | (simp; omega) | omega))); (try (have f3 := fun (o : Nat) => hb.frozen (p := ⟨w.heap.size + 1 + 1 + 1, o, none⟩) (by first | (simp; done) | (simp; omega) | omega))); (try (have f4 := fun (o : Nat) => hb.frozen (p := ⟨w.heap.size + 1 + 1 + 1 + 1, o, none⟩) (by first | (simp; done) | (simp; omega) | omega))); (try (have f5 := fun (o : Nat) => hb.frozen (p := ⟨w.heap.size + 1 + 1 + 1 + 1 + 1, o, none⟩) (by first | (simp; done) | (simp; omega) | omega))))) | (go_at_call 10; ((with_reducible refine (K1 _).mono ?_); rintro e w' ⟨rfl, hb⟩; have hbz := hb.size; (try simp only [World.size_alloc, World.size_drew, World.size_setCell] at hbz); (try (have k0 := fun (o : Nat) => hb.cell (p := ⟨w.heap.size, o, none⟩) (by first | (simp; done) | (simp; omega) | omega))); (try (have k1 := fun (o : Nat) => hb.cell (p := ⟨w.heap.size + 1, o, none⟩) (by first | (simp; done) | (simp; omega) | omega))); (try (have k2 := fun (o : Nat) => hb.cell (p := ⟨w.heap.size + 1 + 1, o, none⟩) (by first | (simp; done) | (simp; omega) | omega))); (try (have k3 := fun (o : Nat) => hb.cell (p := ⟨w.heap.size + 1 + 1 + 1, o, none⟩) (by first | (simp; done) | (simp; omega) | omega))); (try (have k4 := fun (o : Nat) => hb.cell (p := ⟨w.heap.size + 1 + 1 + 1 + 1, o, none⟩) (by first | (simp; done) | (simp; omega) | omega))); (try (have k5 := fun (o : Nat) => hb.cell (p := ⟨w.heap.size + 1 + 1 + 1 + 1 + 1, o, none⟩) (by first | (simp; done) | (simp; omega) | omega))); (try (have f0 := fun (o : Nat) => hb.frozen (p := ⟨w.heap.size, o, none⟩) (by first | (simp; done) | (simp; omega) | omega))); (try (have f1 := fun (o : Nat) => hb.frozen (p := ⟨w.heap.size + 1, o, none⟩) (by first | (simp; done) | (simp; omega) | omega))); (try (have f2 := fun (o : Nat) => hb.frozen (p := ⟨w.heap.size + 1 + 1, o, none⟩) (by first | (simp; done) | (simp; omega) | omega))); (try (have f3 := fun (o : Nat) => hb.frozen (p := ⟨w.heap.size + 1 + 1 + 1, o, none⟩) (by first | (simp; done) | (simp; omega) | omega))); (try (have f4 := fun (o : Nat) => hb.frozen (p := ⟨w.heap.size + 1 + 1 + 1 + 1, o, none⟩) (by first | (simp; done) | (simp; omega) | omega))); (try (have f5 := fun (o : Nat) => hb.frozen (p := ⟨w.heap.size + 1 + 1 + 1 + 1 + 1, o, none⟩) (by first | (simp; done) | (simp; omega) | omega))))) | (go_at_call 8; ((with_reducible refine (K3 _).mono ?_); rintro e w' ⟨rfl, hb⟩; have hbz := hb.size; (try simp only [World.size_alloc, World.size_drew, World.size_setCell] at hbz); (try (have k0 := fun (o : Nat) => hb.cell (p := ⟨w.heap.size, o, none⟩) (by first | (simp; done) | (simp; omega) | omega))); (try (have k1 := fun (o : Nat) => hb.cell (p := ⟨w.heap.size + 1, o, none⟩) (by first | (simp; done) | (simp; omega) | omega))); (try (have k2 := fun (o : Nat) => hb.cell (p := ⟨w.heap.size + 1 + 1, o, none⟩) (by first | (simp; done) | (simp; omega) | omega))); (try (have k3 := fun (o : Nat) => hb.cell (p := ⟨w.heap.size + 1 + 1 + 1, o, none⟩) (by first | (simp; done) | (simp; omega) | omega))); (try (have k4 := fun (o : Nat) => hb.cell (p := ⟨w.heap.size + 1 + 1 + 1 + 1, o, none⟩) (by first | (simp; done) | (simp; omega) | omega))); (try (have k5 := fun (o : Nat) => hb.cell (p := ⟨w.heap.size + 1 + 1 + 1 + 1 + 1, o, none⟩) (by first | (simp; done) | (simp; omega) | omega))); (try (have f0 := fun (o : Nat) => hb.frozen (p := ⟨w.heap.size, o, none⟩) (by first | (simp; done) | (simp; omega) | omega))); (try (have f1 := fun (o : Nat) => hb.frozen (p := ⟨w.heap.size + 1, o, none⟩) (by first | (simp; done) | (simp; omega) | omega))); (try (have f2 := fun (o : Nat) => hb.frozen (p := ⟨w.heap.size + 1 + 1, o, none⟩) (by first | (simp; done) | (simp; omega) | omega))); (try (have f3 := fun (o : Nat) => hb.frozen (p := ⟨w.heap.size + 1 + 1 + 1, o, none⟩) (by first | (simp; done) | (simp; omega) | omega))); (try (have f4 := fun (o : Nat) => hb.frozen (p := ⟨w.heap.size + 1 + 1 + 1 + 1, o, none⟩) (by first | (simp; done) | (simp; omega) | omega))); (try (have f5 := fun (o : Nat) => hb.frozen (p := ⟨w.heap.size + 1 + 1 + 1 + 1 + 1, o, none⟩) (by first | (simp; done) | (simp; omega) | omega))))))
      all_goals
        go_ret
        exact ⟨rfl, by (repeat (first | (with_reducible exact Below.refl _ _) | (with_reducible refine bl_alloc ?_ ?_ _; focus (first | omega | (simp; done) | (simp; omega))) | (with_reducible refine bl_set ?_ ?_ _; focus (first | omega | (simp; done) | (simp; omega))) | (with_reducible refine Below.drew ?_) | (with_reducible refine below_drewN ?_ _) | (with_reducible refine below_step ?_ (by assumption))))⟩

/-- The heap that the door's own run leaves meets the condition. -/
theorem door_met (os : Os) (args : Array Value) : laidMetH Tryd.prog Rows.fnNameRow.laid ((World.doorLaid Tryd.prog 400 os).forCall (fun _ _ => 0) ⟨#[], args, []⟩).memory :=
  laidMetH_of_parts3 (fuel := 8) (laidMet_of_run' 8 (by kernel_rfl) (by kernel_rfl)) (by kernel_rfl) (by kernel_rfl)

set_option maxRecDepth 100000 in
theorem lifted (os : Os) (started : os.Started) (H : Type) (enc : TypeId × Value → H) :
    ReturnsInHanded {} Tryd.checked os 4 .any (fun w args => (Rows.fnNameSpec.pre enc Tryd.prog Tryd.f4 [] false w args ∧ laidMetH Tryd.prog Rows.fnNameRow.laid w) ∧ sizedMet enc Tryd.prog Tryd.f4 (OpenSpec.ofChange Rows.fnNameSpec) false w args)
      (Rows.fnNameSpec.post enc Tryd.prog Tryd.f4 false true false false) := by
  refine returnsInHanded_of_change_and (C := Tryd.checked) (X := fun w _ => laidMetH Tryd.prog Rows.fnNameRow.laid w) (fun _ _ _ hh h => h.of_heap hh) own started (by kernel_rfl) Tryd.func4
    (ChangeSpec.witness_shaped (enc := enc) (C := Tryd.checked) (os := os) (X := fun w _ => laidMetH Tryd.prog Rows.fnNameRow.laid w) false (World.doorLaid Tryd.prog 400 os) #[.slice none 0 0] 8 rfl (World.shaped_of_RefB (by kernel_rfl) (by kernel_rfl)) (by kernel_rfl) (by kernel_rfl) (by kernel_rfl) (door_met os _)) ?_
  intro W base args ds gs before hval0 hW _ _ hL _
  have hval : ∀ (j : Nat) t v, Tryd.f4.params[j]? = some t → args[j]? = some v → Value.okWide Tryd.prog W .any base t v := hval0
  have hW' := hW
  obtain ⟨p, q, hA0, hV, rfl, hfz, hnd⟩ := hW
  have hA : DataW.TrodAll enc Tryd.prog W 0 (fun _ => true) true Tryd.f4.params.toList args.toList ds p := hA0
  rw [Tryd.params4] at hA hval
  obtain ⟨v0, vs0, d0, ds0, p0, q0, hargs, rfl, rfl, h0, r0⟩ := trodAll_cons hA
  obtain ⟨rfl, rfl, rfl⟩ := trodAll_nil r0
  obtain rfl : args = #[v0] := by cases args; simp_all
  obtain ⟨rfl, rfl⟩ := trodVars_none hV
  obtain ⟨a0, len0, cap0, rfl⟩ := okWide_slice Tryd.underlying24 (hval 0 24 v0 rfl rfl)
  have k0 := h0
  have lt0 : ∀ x ∈ p0, x.block < W.heap.size := by obtain ⟨m, hm⟩ := k0; exact DataW.trod_lt m _ _ _ hm
  obtain ⟨l0, w0⟩ : ∃ l, ArgRow .u8 W a0 len0 cap0 l := by
    obtain ⟨fuel, hf⟩ := h0
    rcases open_ints Tryd.underlying24 Tryd.underlying5 (by kernel_rfl) hf with ⟨hcs, _⟩ | ⟨x, l, c, zs, hcs, _, hl, hm, hz, _, hcell, hwz⟩
    · simp [Value.cells] at hcs
      obtain ⟨rfl, rfl, rfl⟩ := hcs
      exact ⟨[], rfl, ⟨Nat.le_refl _, by unfold maxLen; omega⟩, by simp, .inl rfl⟩
    · simp [Value.cells] at hcs
      obtain ⟨rfl, rfl, rfl⟩ := hcs
      exact ⟨_, argRow_of hl hm (by simpa using hz) hcell hwz⟩
  clear hA0 hval0
  refine (walk a0 len0 cap0 l0 W w0).mono fun e W' ⟨he, bel⟩ => ?_
  subst he
  exact ⟨_, rfl, _, _, _, [], _, [], hW', trodAll_mk1 (shut_bool Tryd.underlying4 _), (trodAll_cons_mk (Below.trod laidOut (by kernel_rfl) (of_decide_eq_true (by kernel_rfl)) k0 bel lt0) trodAll_mk0), rfl, bel.frame _, fun h => by cases h⟩

theorem over : Rows.FnNameSaid :=
  OpenClaim.holds_of_wide 4 Tryd.f4 rfl rfl rfl rfl rfl rfl rfl ⟨rfl, rfl, rfl, rfl, rfl⟩ rfl rfl rfl rfl rfl (by kernel_rfl) Tryd.func4 (by kernel_rfl)
    (of_decide_eq_true (by kernel_rfl)) (by unfold Func.isWrapper; first | (rw [if_pos (by decide +kernel)]; kernel_rfl) | (rw [if_neg (by decide +kernel)]; exact ⟨rfl, rfl⟩))
    (fun os started H enc _ => lifted os started H enc)

/-- The tied card. -/
theorem proved : Rows.FnNameCardSaid :=
  Claim7.holds_tied_plain_at .later [] [.data, .data, .data] true (true, Rows.fnNameCard.stood.harness.2) false
    over (fun _ h => by cases h) (by kernel_rfl) (fun _ h => by cases h) fnName_row_tie rfl ⟨rfl, rfl⟩ (by kernel_rfl) rfl
    (fun f fn hf hfn => by
      obtain rfl : f = 4 := Option.some.inj ((show Tryd.prog.funcNamed Rows.fnNameRow.func = some 4 by kernel_rfl).symm.trans hf) |>.symm
      obtain rfl : fn = Tryd.f4 := (Option.some.inj (Tryd.func4.symm.trans hfn)).symm
      exact ⟨by kernel_rfl, fun j t ht => by
        rw [Tryd.params4] at ht
        have hm : t ∈ [24] := by simpa using Array.mem_of_getElem? ht
        have hall : ([24].all fun u => !Tryd.prog.wantsStandIn u) = true := by kernel_rfl
        exact (show Tryd.prog.wantsStandIn t = false by simpa using List.all_eq_true.1 hall t hm)⟩)
    (by kernel_rfl)
#print axioms proved
end Go.Proofs.YtcejgibanmcahaaDoor.lawName
