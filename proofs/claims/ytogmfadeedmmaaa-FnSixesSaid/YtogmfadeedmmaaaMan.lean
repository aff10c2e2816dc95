/- One operation of a region taken by hand, its place and its slot given outright. No condition. -/
import Derived.Deep.RegionHeld3
namespace Go.Proofs.Ytogmfadeedmmaaa

theorem take1 {P : Program} {ops : Array Oper} {Q : Exit → Act → World → Prop} {md : Region.Mode} {S : World → Prop} (i d : Nat) (v : Value) {oi : Oper} {fuel : Nat} {listed : Array Bool} {tmps : List Value} {dfs : List Deferred} {w : World} (hi : ops[i]? = some oi) (hd : oi.dst = some d)
    (hs : Region.noSelect ops = true) (hf : Region.free md ops listed i = true) (hr : (Region.ready md ops listed).contains i = true)
    (hQ : ∀ c a w, Q (.panic c) (a.put oi.dst v) w → Q (.panic c) a w) (hw : Region.wanted oi (yielded ops (Act.mk tmps.toArray dfs).tmps) = true) (hy : ∀ W, S W → (execOp (Act.mk tmps.toArray dfs).eval oi).run P W = .ok (.value v) W) (hS : S w)
    (h : wpAnyH P md ops Q S fuel (listed.setIfInBounds i true) (Act.mk (tmps.set d v).toArray dfs) w) : wpAnyH P md ops Q S (fuel + 1) listed (Act.mk tmps.toArray dfs) w := by
  refine wpAnyH_take (i := i) hi hs hf hr hQ (Or.inl ⟨hw, hy⟩) hS ?_
  rw [hd]
  simpa [Act.put] using h
theorem skip1 {P : Program} {ops : Array Oper} {Q : Exit → Act → World → Prop} {md : Region.Mode} {S : World → Prop} (i d : Nat) {oi : Oper} {fuel : Nat} {listed : Array Bool} {tmps : List Value} {dfs : List Deferred} {w : World} (hi : ops[i]? = some oi) (hd : oi.dst = some d)
    (hs : Region.noSelect ops = true) (hf : Region.free md ops listed i = true) (hr : (Region.ready md ops listed).contains i = true)
    (hQ : ∀ c a w, Q (.panic c) (a.put oi.dst undef) w → Q (.panic c) a w) (hw : Region.wanted oi (yielded ops (Act.mk tmps.toArray dfs).tmps) = false) (hS : S w)
    (h : wpAnyH P md ops Q S fuel (listed.setIfInBounds i true) (Act.mk (tmps.set d undef).toArray dfs) w) : wpAnyH P md ops Q S (fuel + 1) listed (Act.mk tmps.toArray dfs) w := by
  refine wpAnyH_take (i := i) hi hs hf hr hQ (Or.inr ⟨hw, rfl⟩) hS ?_
  rw [hd]
  simpa [Act.put] using h

end Go.Proofs.Ytogmfadeedmmaaa
