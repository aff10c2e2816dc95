/- A class that comes in: its seven numbers; and that it reads the same in every world. No condition. -/
import Derived.Test.YtmnipmilbgoipaaPure
import Derived.Test.YtmnipmilbgoipaaRows
import Derived.ProofKit
import Derived.OpenShut
namespace Go.Proofs.Ytmnipmilbgoipaa
open Go.ChangeShapes Go.WideShapes Go.ChangeAt Go.RowKit
set_option linter.unusedSimpArgs false
set_option linter.unusedVariables false

theorem own : ownKnob Try.prog.godebug = none := by kernel_rfl

theorem cells7 : Try.prog.cellsOf 25 = 7 := by kernel_rfl
theorem cells6 : Try.prog.cellsOf 23 = 6 := by kernel_rfl
theorem cells1 : Try.prog.cellsOf 3 = 1 := by kernel_rfl

section
variable {H : Type} {enc : TypeId × Value → H} {w : World} {base : Nat} {spare : Nat → Bool} {held : Bool}

/-- What a class reads as. -/
def clsD (H : Type) (xd xa xb xc xe xf xg : Int) : DataW H := .agg [.lit (.int .i64 xd), .agg [.lit (.int .i64 xa), .lit (.int .i64 xb), .lit (.int .i64 xc), .lit (.int .i64 xe), .lit (.int .i64 xf), .lit (.int .i64 xg)]]

def wfC (xd xa xb xc xe xf xg : Int) : Prop := (Lit.int .i64 xd).wf = true ∧ (Lit.int .i64 xa).wf = true ∧ (Lit.int .i64 xb).wf = true ∧ (Lit.int .i64 xc).wf = true ∧ (Lit.int .i64 xe).wf = true ∧ (Lit.int .i64 xf).wf = true ∧ (Lit.int .i64 xg).wf = true

theorem open_arr {fuel : Nat} {c0 c1 c2 c3 c4 c5 : Value} {x : DataW H × List MemPlace} (h : DataW.trod enc Try.prog w base spare held fuel 23 [c0, c1, c2, c3, c4, c5] = some x) :
    ∃ (xa xb xc xe xf xg : Int), [c0, c1, c2, c3, c4, c5] = [.int .i64 xa, .int .i64 xb, .int .i64 xc, .int .i64 xe, .int .i64 xf, .int .i64 xg] ∧ x = (.agg [.lit (.int .i64 xa), .lit (.int .i64 xb), .lit (.int .i64 xc), .lit (.int .i64 xe), .lit (.int .i64 xf), .lit (.int .i64 xg)], []) ∧
      (Lit.int .i64 xa).wf = true ∧ (Lit.int .i64 xb).wf = true ∧ (Lit.int .i64 xc).wf = true ∧ (Lit.int .i64 xe).wf = true ∧ (Lit.int .i64 xf).wf = true ∧ (Lit.int .i64 xg).wf = true := by
  obtain ⟨xs, m, rfl, hx, _, hl, hi⟩ := DataW.trod_array Try.underlying23 h
  match xs, hl with
  | [y0, y1, y2, y3, y4, y5], _ =>
    have h0 := hi 0 (by omega)
    have h1 := hi 1 (by omega)
    have h2 := hi 2 (by omega)
    have h3 := hi 3 (by omega)
    have h4 := hi 4 (by omega)
    have h5 := hi 5 (by omega)
    simp only [cells1, Nat.zero_mul, Nat.one_mul, Nat.mul_one, List.drop_zero, List.drop_succ_cons, List.take_succ_cons, List.take_zero, List.getElem?_cons_zero, List.getElem?_cons_succ] at h0 h1 h2 h3 h4 h5
    obtain ⟨a, e0, rfl, wa⟩ := DataW.trod_int Try.underlying3 h0
    obtain ⟨b, e1, rfl, wb⟩ := DataW.trod_int Try.underlying3 h1
    obtain ⟨c, e2, rfl, wc⟩ := DataW.trod_int Try.underlying3 h2
    obtain ⟨d, e3, rfl, wd⟩ := DataW.trod_int Try.underlying3 h3
    obtain ⟨e, e4, rfl, we⟩ := DataW.trod_int Try.underlying3 h4
    obtain ⟨f, e5, rfl, wf⟩ := DataW.trod_int Try.underlying3 h5
    simp only [List.cons.injEq, and_true] at e0 e1 e2 e3 e4 e5
    subst e0 e1 e2 e3 e4 e5
    exact ⟨a, b, c, d, e, f, rfl, by simpa using hx, wa, wb, wc, wd, we, wf⟩

theorem open_class {r : Reach} {b0 : Nat} {v : Value} {d : DataW H} {p : List MemPlace} (hv : Value.okWide Try.prog w r b0 25 v) (h : DataW.Trod enc Try.prog w base spare held 25 v d p) :
    ∃ (xd xa xb xc xe xf xg : Int), v = .agg #[.int .i64 xd, .int .i64 xa, .int .i64 xb, .int .i64 xc, .int .i64 xe, .int .i64 xf, .int .i64 xg] ∧ d = clsD H xd xa xb xc xe xf xg ∧ p = [] ∧ wfC xd xa xb xc xe xf xg := by
  obtain ⟨cs, rfl, hsz⟩ := okWide_struct Try.underlying25 hv
  obtain ⟨l⟩ := cs
  match l, hsz.trans cells7 with
  | [c0, c1, c2, c3, c4, c5, c6], _ =>
    obtain ⟨fuel, hf⟩ := h
    obtain ⟨xs, n, _, hx, _, hlen, hg⟩ := DataW.trod_struct Try.underlying25 hf
    match xs, hlen with
    | [y0, y1], _ =>
      have g0 := hg 0 _ rfl
      have g1 := hg 1 _ rfl
      simp only [Value.cells, cells1, cells6, List.drop_zero, List.drop_succ_cons, List.take_succ_cons, List.take_zero, List.getElem?_cons_zero, List.getElem?_cons_succ] at g0 g1
      obtain ⟨x, e0, rfl, wx⟩ := DataW.trod_int Try.underlying3 g0
      obtain ⟨a, b, c, d', e, f, e1, rfl, ws⟩ := open_arr g1
      simp only [List.cons.injEq, and_true] at e1
      obtain ⟨rfl, rfl, rfl, rfl, rfl, rfl⟩ := e1
      obtain rfl : c0 = .int .i64 x := by simpa [cells1] using e0
      simp only [Prod.mk.injEq] at hx
      exact ⟨x, a, b, c, d', e, f, rfl, hx.1, by simpa using hx.2, wx, ws⟩

theorem shut_class {xd xa xb xc xe xf xg : Int} (hw : wfC xd xa xb xc xe xf xg) : DataW.Trod enc Try.prog w base spare held 25 (.agg #[.int .i64 xd, .int .i64 xa, .int .i64 xb, .int .i64 xc, .int .i64 xe, .int .i64 xf, .int .i64 xg]) (clsD H xd xa xb xc xe xf xg) [] := by
  obtain ⟨w0, w1, w2, w3, w4, w5, w6⟩ := hw
  have r6 : List.range 6 = [0, 1, 2, 3, 4, 5] := rfl
  exact ⟨3, by simp [DataW.trod, Value.cells, Try.underlying25, Try.underlying23, Try.underlying3, cells7, cells6, cells1, r6, clsD, w0, w1, w2, w3, w4, w5, w6]⟩
end

/-- A call that has only made new blocks: what the row asks of the world behind it (after the guide's lemma of this name). -/
theorem post_of_below {H : Type} {enc : TypeId × Value → H} {P : Program} {f : Func} {s : ChangeSpec} {apart fresh handsOn again : Bool} {W W' : World} {args : Array Value} {v : Value} {ds gs : List (DataW H)} {before pa pv : List MemPlace}
    (hW : DataW.Whole enc P f.params.toList s.vars apart W args.toList ds gs before)
    (hres : ∀ (b : Nat) (sp : Nat → Bool) (hd : Bool), DataW.TrodAll enc P W' b sp hd f.resultTypes.toList (v.resultList f.resultTypes.size) (s.fn H (ds ++ gs)).results [])
    (hargs : ∀ sp : Nat → Bool, (∀ p ∈ before, sp p.block = true) → DataW.TrodAll enc P W' 0 sp true f.params.toList args.toList (s.fn H (ds ++ gs)).args pa)
    (hvars : ∀ sp : Nat → Bool, (∀ p ∈ before, sp p.block = true) → DataW.TrodVars enc P W' sp s.vars (s.fn H (ds ++ gs)).vars pv)
    (hps : before = pa ++ pv) (hb : Below W.heap.size W W')
    (hok : ∀ (j : Nat) (t : TypeId) (r : Value), f.resultTypes[j]? = some t → (v.resultList f.resultTypes.size)[j]? = some r → Value.okWide P W' .any 0 t r) :
    s.post enc P f apart fresh handsOn again W args v W' := by
  have hold : ∀ p ∈ before, (fun b => decide (b < W.heap.size)) p.block = true := fun p hp => by simpa using hW.lt p hp
  refine ⟨ds, gs, before, [], pa, pv, hW, hres _ _ _, hargs _ hold, hvars _ hold, World.keptBut_mono (fun p hp => ⟨hp, ?_⟩) (hb.frame (· ∈ before)), fun _ => ?_⟩
  · rw [hps, List.mem_append] at hp
    exact Or.inr hp
  · obtain ⟨_, _, _, _, _, hz, hn⟩ := hW
    refine ⟨hok, _, _, ([] ++ pa) ++ pv, ⟨[] ++ pa, pv, trodAll_append (hargs _ (fun _ _ => rfl)) (hres _ _ _), hvars _ (fun _ _ => rfl), rfl, ?_, ?_⟩, ?_⟩
    · intro b off hp
      have hin : MemPlace.cell b off ∈ before := by rw [hps]; simpa using hp
      have hl : b < W.heap.size := of_decide_eq_true (hold _ hin)
      rw [hb.frozen (p := ⟨b, off, none⟩) hl]
      exact hz b off hin
    · intro ha
      have := hn ha
      rw [hps] at this
      simpa using this
    · intro p hp _
      rw [hps]
      simpa using hp

end Go.Proofs.Ytmnipmilbgoipaa
