/-
  No cell of these rows narrows 'for every input' (looked for: loops, veiled, ifaces, maps, wideKeys, modest, calm, conditions, laid).
  DERIVED. THE GIVEN ROWS OF THIS SEAT. 12 by the template 'for every input the law returns true; each argument reads behind the call as it read before'; 0 by the template 'total and deterministic' (their statements: YtmnipmilbgoipaaTotals.lean).
  GIVEN WITH THE SEED: the statements are not yours to turn. If you find one false, say at which input.
  Laid BY PROGRAM, IN A SANDBOX (cutbox-rows.mjs): the forced cells as the released guide's own fill.sh prints them over the translation 570e9ee957248797… (all of the seat's roots in one cut). By AI agents, Wed Nov 11 2026. No macro, syntax, notation, axiom, sorry.
-/
import Derived.Test.YtmnipmilbgoipaaChecked
import GoSem.Claim
import GoSem.ClaimJoined
import GoSem.ClaimMapViews
import Derived.JoinedTies
import Derived.KernelRfl
namespace Go.Proofs.Ytmnipmilbgoipaa
/- THE CELL 'sum', in the pinned program and in every row, IS THE sha256 OF THE DUMP (.gsa) THAT YtmnipmilbgoipaaProg.lean LOADS. Nothing in Lean hashes anything: it is a label: what it is worth is what the hold of that sum in a sandbox is worth. -/
noncomputable def Try.pinned : Pinned := { name := "ytmnipmilbgoipaa", sum := "570e9ee957248797562d283dddf938e20de711de675cfbb0f2bfb325e5980455", checked := Try.checked }
namespace Rows
def none {H : Type} : Left H := { results := [], args := [] }

/-- 'laws.FnExactConstants': WHATEVER THE INPUT: true; the input reads as it did. -/
def fnExactConstantsSpec : ChangeSpec := { name := "fnExactConstants", fn := fun _ => fun
  | [] => { results := [.lit (.bool true)], args := [] }
  | _ => none }
def fnExactConstantsRow : OpenClaim := { program := "ytmnipmilbgoipaa", sum := "570e9ee957248797562d283dddf938e20de711de675cfbb0f2bfb325e5980455", func := "loop.example/cubiclines/laws.FnExactConstants", spec := "fnExactConstants", apart := false }
def FnExactConstantsSaid : Prop := fnExactConstantsRow.holds Try.pinned (OpenSpec.ofChange fnExactConstantsSpec)

/-- ITS FALSE NEIGHBOUR: 'it returns false'. Refute it at one input. -/
def fnExactConstantsWrong : ChangeSpec := { name := "fnExactConstants", fn := fun _ => fun
  | [] => { results := [.lit (.bool false)], args := [] }
  | _ => none }
def FnExactConstantsWrongFalsely : Prop := fnExactConstantsRow.holds Try.pinned (OpenSpec.ofChange fnExactConstantsWrong)

/-- 'laws.FnExactClassValid': WHATEVER THE INPUT: true; the input reads as it did. -/
def fnExactClassValidSpec : ChangeSpec := { name := "fnExactClassValid", fn := fun _ => fun
  | [d] => { results := [.lit (.bool true)], args := [d] }
  | _ => none }
def fnExactClassValidRow : OpenClaim := { program := "ytmnipmilbgoipaa", sum := "570e9ee957248797562d283dddf938e20de711de675cfbb0f2bfb325e5980455", func := "loop.example/cubiclines/laws.FnExactClassValid", spec := "fnExactClassValid", apart := false }
def FnExactClassValidSaid : Prop := fnExactClassValidRow.holds Try.pinned (OpenSpec.ofChange fnExactClassValidSpec)

/-- ITS FALSE NEIGHBOUR: 'it returns false'. Refute it at one input. -/
def fnExactClassValidWrong : ChangeSpec := { name := "fnExactClassValid", fn := fun _ => fun
  | [d] => { results := [.lit (.bool false)], args := [d] }
  | _ => none }
def FnExactClassValidWrongFalsely : Prop := fnExactClassValidRow.holds Try.pinned (OpenSpec.ofChange fnExactClassValidWrong)

/-- 'laws.FnExactRootSimple': WHATEVER THE INPUT: true; the input reads as it did. -/
def fnExactRootSimpleSpec : ChangeSpec := { name := "fnExactRootSimple", fn := fun _ => fun
  | [d] => { results := [.lit (.bool true)], args := [d] }
  | _ => none }
def fnExactRootSimpleRow : OpenClaim := { program := "ytmnipmilbgoipaa", sum := "570e9ee957248797562d283dddf938e20de711de675cfbb0f2bfb325e5980455", func := "loop.example/cubiclines/laws.FnExactRootSimple", spec := "fnExactRootSimple", apart := false }
def FnExactRootSimpleSaid : Prop := fnExactRootSimpleRow.holds Try.pinned (OpenSpec.ofChange fnExactRootSimpleSpec)

/-- ITS FALSE NEIGHBOUR: 'it returns false'. Refute it at one input. -/
def fnExactRootSimpleWrong : ChangeSpec := { name := "fnExactRootSimple", fn := fun _ => fun
  | [d] => { results := [.lit (.bool false)], args := [d] }
  | _ => none }
def FnExactRootSimpleWrongFalsely : Prop := fnExactRootSimpleRow.holds Try.pinned (OpenSpec.ofChange fnExactRootSimpleWrong)

/-- 'laws.FnExactClassProduct': WHATEVER THE INPUT: true; the input reads as it did. -/
def fnExactClassProductSpec : ChangeSpec := { name := "fnExactClassProduct", fn := fun _ => fun
  | [d1, d2] => { results := [.lit (.bool true)], args := [d1, d2] }
  | _ => none }
def fnExactClassProductRow : OpenClaim := { program := "ytmnipmilbgoipaa", sum := "570e9ee957248797562d283dddf938e20de711de675cfbb0f2bfb325e5980455", func := "loop.example/cubiclines/laws.FnExactClassProduct", spec := "fnExactClassProduct", apart := false }
def FnExactClassProductSaid : Prop := fnExactClassProductRow.holds Try.pinned (OpenSpec.ofChange fnExactClassProductSpec)

/-- ITS FALSE NEIGHBOUR: 'it returns false'. Refute it at one input. -/
def fnExactClassProductWrong : ChangeSpec := { name := "fnExactClassProduct", fn := fun _ => fun
  | [d1, d2] => { results := [.lit (.bool false)], args := [d1, d2] }
  | _ => none }
def FnExactClassProductWrongFalsely : Prop := fnExactClassProductRow.holds Try.pinned (OpenSpec.ofChange fnExactClassProductWrong)

/-- 'laws.FnExactRootIn': WHATEVER THE INPUT: true; the input reads as it did. -/
def fnExactRootInSpec : ChangeSpec := { name := "fnExactRootIn", fn := fun _ => fun
  | [d] => { results := [.lit (.bool true)], args := [d] }
  | _ => none }
def fnExactRootInRow : OpenClaim := { program := "ytmnipmilbgoipaa", sum := "570e9ee957248797562d283dddf938e20de711de675cfbb0f2bfb325e5980455", func := "loop.example/cubiclines/laws.FnExactRootIn", spec := "fnExactRootIn", apart := false }
def FnExactRootInSaid : Prop := fnExactRootInRow.holds Try.pinned (OpenSpec.ofChange fnExactRootInSpec)

/-- ITS FALSE NEIGHBOUR: 'it returns false'. Refute it at one input. -/
def fnExactRootInWrong : ChangeSpec := { name := "fnExactRootIn", fn := fun _ => fun
  | [d] => { results := [.lit (.bool false)], args := [d] }
  | _ => none }
def FnExactRootInWrongFalsely : Prop := fnExactRootInRow.holds Try.pinned (OpenSpec.ofChange fnExactRootInWrong)

/-- 'laws.FnExactClassDegree': WHATEVER THE INPUT: true; the input reads as it did. -/
def fnExactClassDegreeSpec : ChangeSpec := { name := "fnExactClassDegree", fn := fun _ => fun
  | [d] => { results := [.lit (.bool true)], args := [d] }
  | _ => none }
def fnExactClassDegreeRow : OpenClaim := { program := "ytmnipmilbgoipaa", sum := "570e9ee957248797562d283dddf938e20de711de675cfbb0f2bfb325e5980455", func := "loop.example/cubiclines/laws.FnExactClassDegree", spec := "fnExactClassDegree", apart := false }
def FnExactClassDegreeSaid : Prop := fnExactClassDegreeRow.holds Try.pinned (OpenSpec.ofChange fnExactClassDegreeSpec)

/-- ITS FALSE NEIGHBOUR: 'it returns false'. Refute it at one input. -/
def fnExactClassDegreeWrong : ChangeSpec := { name := "fnExactClassDegree", fn := fun _ => fun
  | [d] => { results := [.lit (.bool false)], args := [d] }
  | _ => none }
def FnExactClassDegreeWrongFalsely : Prop := fnExactClassDegreeRow.holds Try.pinned (OpenSpec.ofChange fnExactClassDegreeWrong)

/-- 'laws.FnExactClassGenus': WHATEVER THE INPUT: true; the input reads as it did. -/
def fnExactClassGenusSpec : ChangeSpec := { name := "fnExactClassGenus", fn := fun _ => fun
  | [d] => { results := [.lit (.bool true)], args := [d] }
  | _ => none }
def fnExactClassGenusRow : OpenClaim := { program := "ytmnipmilbgoipaa", sum := "570e9ee957248797562d283dddf938e20de711de675cfbb0f2bfb325e5980455", func := "loop.example/cubiclines/laws.FnExactClassGenus", spec := "fnExactClassGenus", apart := false }
def FnExactClassGenusSaid : Prop := fnExactClassGenusRow.holds Try.pinned (OpenSpec.ofChange fnExactClassGenusSpec)

/-- ITS FALSE NEIGHBOUR: 'it returns false'. Refute it at one input. -/
def fnExactClassGenusWrong : ChangeSpec := { name := "fnExactClassGenus", fn := fun _ => fun
  | [d] => { results := [.lit (.bool false)], args := [d] }
  | _ => none }
def FnExactClassGenusWrongFalsely : Prop := fnExactClassGenusRow.holds Try.pinned (OpenSpec.ofChange fnExactClassGenusWrong)

/-- 'laws.FnExactClassAdd': WHATEVER THE INPUT: true; the input reads as it did. -/
def fnExactClassAddSpec : ChangeSpec := { name := "fnExactClassAdd", fn := fun _ => fun
  | [d1, d2] => { results := [.lit (.bool true)], args := [d1, d2] }
  | _ => none }
def fnExactClassAddRow : OpenClaim := { program := "ytmnipmilbgoipaa", sum := "570e9ee957248797562d283dddf938e20de711de675cfbb0f2bfb325e5980455", func := "loop.example/cubiclines/laws.FnExactClassAdd", spec := "fnExactClassAdd", apart := false }
def FnExactClassAddSaid : Prop := fnExactClassAddRow.holds Try.pinned (OpenSpec.ofChange fnExactClassAddSpec)

/-- ITS FALSE NEIGHBOUR: 'it returns false'. Refute it at one input. -/
def fnExactClassAddWrong : ChangeSpec := { name := "fnExactClassAdd", fn := fun _ => fun
  | [d1, d2] => { results := [.lit (.bool false)], args := [d1, d2] }
  | _ => none }
def FnExactClassAddWrongFalsely : Prop := fnExactClassAddRow.holds Try.pinned (OpenSpec.ofChange fnExactClassAddWrong)

/-- 'laws.FnExactClassTimes': WHATEVER THE INPUT: true; the input reads as it did. -/
def fnExactClassTimesSpec : ChangeSpec := { name := "fnExactClassTimes", fn := fun _ => fun
  | [d1, d2] => { results := [.lit (.bool true)], args := [d1, d2] }
  | _ => none }
def fnExactClassTimesRow : OpenClaim := { program := "ytmnipmilbgoipaa", sum := "570e9ee957248797562d283dddf938e20de711de675cfbb0f2bfb325e5980455", func := "loop.example/cubiclines/laws.FnExactClassTimes", spec := "fnExactClassTimes", apart := false }
def FnExactClassTimesSaid : Prop := fnExactClassTimesRow.holds Try.pinned (OpenSpec.ofChange fnExactClassTimesSpec)

/-- ITS FALSE NEIGHBOUR: 'it returns false'. Refute it at one input. -/
def fnExactClassTimesWrong : ChangeSpec := { name := "fnExactClassTimes", fn := fun _ => fun
  | [d1, d2] => { results := [.lit (.bool false)], args := [d1, d2] }
  | _ => none }
def FnExactClassTimesWrongFalsely : Prop := fnExactClassTimesRow.holds Try.pinned (OpenSpec.ofChange fnExactClassTimesWrong)

/-- 'laws.FnExactRootReflect': WHATEVER THE INPUT: true; the input reads as it did. -/
def fnExactRootReflectSpec : ChangeSpec := { name := "fnExactRootReflect", fn := fun _ => fun
  | [d1, d2] => { results := [.lit (.bool true)], args := [d1, d2] }
  | _ => none }
def fnExactRootReflectRow : OpenClaim := { program := "ytmnipmilbgoipaa", sum := "570e9ee957248797562d283dddf938e20de711de675cfbb0f2bfb325e5980455", func := "loop.example/cubiclines/laws.FnExactRootReflect", spec := "fnExactRootReflect", apart := false }
def FnExactRootReflectSaid : Prop := fnExactRootReflectRow.holds Try.pinned (OpenSpec.ofChange fnExactRootReflectSpec)

/-- ITS FALSE NEIGHBOUR: 'it returns false'. Refute it at one input. -/
def fnExactRootReflectWrong : ChangeSpec := { name := "fnExactRootReflect", fn := fun _ => fun
  | [d1, d2] => { results := [.lit (.bool false)], args := [d1, d2] }
  | _ => none }
def FnExactRootReflectWrongFalsely : Prop := fnExactRootReflectRow.holds Try.pinned (OpenSpec.ofChange fnExactRootReflectWrong)

/-- 'laws.FnExactLineMeets': WHATEVER THE INPUT: true; the input reads as it did. -/
def fnExactLineMeetsSpec : ChangeSpec := { name := "fnExactLineMeets", fn := fun _ => fun
  | [d1, d2] => { results := [.lit (.bool true)], args := [d1, d2] }
  | _ => none }
def fnExactLineMeetsRow : OpenClaim := { program := "ytmnipmilbgoipaa", sum := "570e9ee957248797562d283dddf938e20de711de675cfbb0f2bfb325e5980455", func := "loop.example/cubiclines/laws.FnExactLineMeets", spec := "fnExactLineMeets", apart := false }
def FnExactLineMeetsSaid : Prop := fnExactLineMeetsRow.holds Try.pinned (OpenSpec.ofChange fnExactLineMeetsSpec)

/-- ITS FALSE NEIGHBOUR: 'it returns false'. Refute it at one input. -/
def fnExactLineMeetsWrong : ChangeSpec := { name := "fnExactLineMeets", fn := fun _ => fun
  | [d1, d2] => { results := [.lit (.bool false)], args := [d1, d2] }
  | _ => none }
def FnExactLineMeetsWrongFalsely : Prop := fnExactLineMeetsRow.holds Try.pinned (OpenSpec.ofChange fnExactLineMeetsWrong)

/-- 'laws.FnExactClassLine': WHATEVER THE INPUT: true; the input reads as it did. -/
def fnExactClassLineSpec : ChangeSpec := { name := "fnExactClassLine", fn := fun _ => fun
  | [d] => { results := [.lit (.bool true)], args := [d] }
  | _ => none }
def fnExactClassLineRow : OpenClaim := { program := "ytmnipmilbgoipaa", sum := "570e9ee957248797562d283dddf938e20de711de675cfbb0f2bfb325e5980455", func := "loop.example/cubiclines/laws.FnExactClassLine", spec := "fnExactClassLine", apart := false }
def FnExactClassLineSaid : Prop := fnExactClassLineRow.holds Try.pinned (OpenSpec.ofChange fnExactClassLineSpec)

/-- ITS FALSE NEIGHBOUR: 'it returns false'. Refute it at one input. -/
def fnExactClassLineWrong : ChangeSpec := { name := "fnExactClassLine", fn := fun _ => fun
  | [d] => { results := [.lit (.bool false)], args := [d] }
  | _ => none }
def FnExactClassLineWrongFalsely : Prop := fnExactClassLineRow.holds Try.pinned (OpenSpec.ofChange fnExactClassLineWrong)

/- THE SECOND FORM. 'bulk': how many values and letters a reading holds, each counted each time it is reached (what is shared counts as often as it is met; a slice's spare places count too). A statement '..UptoSaid' is the law's where the arguments, and the package variables that the reading takes, are together of bulk at most 1048576: NARROWER than '..Said'. Prove '..Said' where nothing that the law and all that it calls make is longer than what came in: it says more and counts as full. Else prove '..UptoSaid'. A law counts once. -/
mutual
def uptoBulk {H : Type} : DataW H → Nat
  | .lit (.string bytes) => bytes.length + 1
  | .lit _ => 1
  | .nil => 1
  | .ptr d => uptoBulk d + 1
  | .slice elems spare => uptoBulkAll elems + uptoBulkAll spare + 1
  | .agg parts => uptoBulkAll parts + 1
  | .iface _ d => uptoBulk d + 1
  | .map entries => uptoBulkEntries entries + 1
  | .held _ => 1
def uptoBulkAll {H : Type} : List (DataW H) → Nat
  | [] => 0
  | d :: r => uptoBulk d + uptoBulkAll r
def uptoBulkEntries {H : Type} : List (Lit × DataW H) → Nat
  | [] => 0
  | x :: r => uptoBulkEntry x + uptoBulkEntries r
def uptoBulkEntry {H : Type} : Lit × DataW H → Nat
  | (.string bytes, d) => bytes.length + uptoBulk d + 1
  | (_, d) => uptoBulk d + 1
 end
def uptoSmall : (H : Type) → List (DataW H) → Bool := fun _ ds => decide (uptoBulkAll ds ≤ 1048576)
def OpenSpec.upto (s : _root_.Go.ChangeSpec) : _root_.Go.OpenSpec := { _root_.Go.OpenSpec.ofChange s with cond := some uptoSmall }

/-- 'laws.FnExactConstants', WHERE WHAT IT READS IS OF BULK AT MOST 1048576: true; the input reads as it did. -/
def fnExactConstantsUptoRow : OpenClaim := { program := "ytmnipmilbgoipaa", sum := "570e9ee957248797562d283dddf938e20de711de675cfbb0f2bfb325e5980455", func := "loop.example/cubiclines/laws.FnExactConstants", spec := "fnExactConstants", apart := false, narrowed := true }
def FnExactConstantsUptoSaid : Prop := fnExactConstantsUptoRow.holds Try.pinned (OpenSpec.upto fnExactConstantsSpec)

/-- 'laws.FnExactClassValid', WHERE WHAT IT READS IS OF BULK AT MOST 1048576: true; the input reads as it did. -/
def fnExactClassValidUptoRow : OpenClaim := { program := "ytmnipmilbgoipaa", sum := "570e9ee957248797562d283dddf938e20de711de675cfbb0f2bfb325e5980455", func := "loop.example/cubiclines/laws.FnExactClassValid", spec := "fnExactClassValid", apart := false, narrowed := true }
def FnExactClassValidUptoSaid : Prop := fnExactClassValidUptoRow.holds Try.pinned (OpenSpec.upto fnExactClassValidSpec)

/-- 'laws.FnExactRootSimple', WHERE WHAT IT READS IS OF BULK AT MOST 1048576: true; the input reads as it did. -/
def fnExactRootSimpleUptoRow : OpenClaim := { program := "ytmnipmilbgoipaa", sum := "570e9ee957248797562d283dddf938e20de711de675cfbb0f2bfb325e5980455", func := "loop.example/cubiclines/laws.FnExactRootSimple", spec := "fnExactRootSimple", apart := false, narrowed := true }
def FnExactRootSimpleUptoSaid : Prop := fnExactRootSimpleUptoRow.holds Try.pinned (OpenSpec.upto fnExactRootSimpleSpec)

/-- 'laws.FnExactClassProduct', WHERE WHAT IT READS IS OF BULK AT MOST 1048576: true; the input reads as it did. -/
def fnExactClassProductUptoRow : OpenClaim := { program := "ytmnipmilbgoipaa", sum := "570e9ee957248797562d283dddf938e20de711de675cfbb0f2bfb325e5980455", func := "loop.example/cubiclines/laws.FnExactClassProduct", spec := "fnExactClassProduct", apart := false, narrowed := true }
def FnExactClassProductUptoSaid : Prop := fnExactClassProductUptoRow.holds Try.pinned (OpenSpec.upto fnExactClassProductSpec)

/-- 'laws.FnExactRootIn', WHERE WHAT IT READS IS OF BULK AT MOST 1048576: true; the input reads as it did. -/
def fnExactRootInUptoRow : OpenClaim := { program := "ytmnipmilbgoipaa", sum := "570e9ee957248797562d283dddf938e20de711de675cfbb0f2bfb325e5980455", func := "loop.example/cubiclines/laws.FnExactRootIn", spec := "fnExactRootIn", apart := false, narrowed := true }
def FnExactRootInUptoSaid : Prop := fnExactRootInUptoRow.holds Try.pinned (OpenSpec.upto fnExactRootInSpec)

/-- 'laws.FnExactClassDegree', WHERE WHAT IT READS IS OF BULK AT MOST 1048576: true; the input reads as it did. -/
def fnExactClassDegreeUptoRow : OpenClaim := { program := "ytmnipmilbgoipaa", sum := "570e9ee957248797562d283dddf938e20de711de675cfbb0f2bfb325e5980455", func := "loop.example/cubiclines/laws.FnExactClassDegree", spec := "fnExactClassDegree", apart := false, narrowed := true }
def FnExactClassDegreeUptoSaid : Prop := fnExactClassDegreeUptoRow.holds Try.pinned (OpenSpec.upto fnExactClassDegreeSpec)

/-- 'laws.FnExactClassGenus', WHERE WHAT IT READS IS OF BULK AT MOST 1048576: true; the input reads as it did. -/
def fnExactClassGenusUptoRow : OpenClaim := { program := "ytmnipmilbgoipaa", sum := "570e9ee957248797562d283dddf938e20de711de675cfbb0f2bfb325e5980455", func := "loop.example/cubiclines/laws.FnExactClassGenus", spec := "fnExactClassGenus", apart := false, narrowed := true }
def FnExactClassGenusUptoSaid : Prop := fnExactClassGenusUptoRow.holds Try.pinned (OpenSpec.upto fnExactClassGenusSpec)

/-- 'laws.FnExactClassAdd', WHERE WHAT IT READS IS OF BULK AT MOST 1048576: true; the input reads as it did. -/
def fnExactClassAddUptoRow : OpenClaim := { program := "ytmnipmilbgoipaa", sum := "570e9ee957248797562d283dddf938e20de711de675cfbb0f2bfb325e5980455", func := "loop.example/cubiclines/laws.FnExactClassAdd", spec := "fnExactClassAdd", apart := false, narrowed := true }
def FnExactClassAddUptoSaid : Prop := fnExactClassAddUptoRow.holds Try.pinned (OpenSpec.upto fnExactClassAddSpec)

/-- 'laws.FnExactClassTimes', WHERE WHAT IT READS IS OF BULK AT MOST 1048576: true; the input reads as it did. -/
def fnExactClassTimesUptoRow : OpenClaim := { program := "ytmnipmilbgoipaa", sum := "570e9ee957248797562d283dddf938e20de711de675cfbb0f2bfb325e5980455", func := "loop.example/cubiclines/laws.FnExactClassTimes", spec := "fnExactClassTimes", apart := false, narrowed := true }
def FnExactClassTimesUptoSaid : Prop := fnExactClassTimesUptoRow.holds Try.pinned (OpenSpec.upto fnExactClassTimesSpec)

/-- 'laws.FnExactRootReflect', WHERE WHAT IT READS IS OF BULK AT MOST 1048576: true; the input reads as it did. -/
def fnExactRootReflectUptoRow : OpenClaim := { program := "ytmnipmilbgoipaa", sum := "570e9ee957248797562d283dddf938e20de711de675cfbb0f2bfb325e5980455", func := "loop.example/cubiclines/laws.FnExactRootReflect", spec := "fnExactRootReflect", apart := false, narrowed := true }
def FnExactRootReflectUptoSaid : Prop := fnExactRootReflectUptoRow.holds Try.pinned (OpenSpec.upto fnExactRootReflectSpec)

/-- 'laws.FnExactLineMeets', WHERE WHAT IT READS IS OF BULK AT MOST 1048576: true; the input reads as it did. -/
def fnExactLineMeetsUptoRow : OpenClaim := { program := "ytmnipmilbgoipaa", sum := "570e9ee957248797562d283dddf938e20de711de675cfbb0f2bfb325e5980455", func := "loop.example/cubiclines/laws.FnExactLineMeets", spec := "fnExactLineMeets", apart := false, narrowed := true }
def FnExactLineMeetsUptoSaid : Prop := fnExactLineMeetsUptoRow.holds Try.pinned (OpenSpec.upto fnExactLineMeetsSpec)

/-- 'laws.FnExactClassLine', WHERE WHAT IT READS IS OF BULK AT MOST 1048576: true; the input reads as it did. -/
def fnExactClassLineUptoRow : OpenClaim := { program := "ytmnipmilbgoipaa", sum := "570e9ee957248797562d283dddf938e20de711de675cfbb0f2bfb325e5980455", func := "loop.example/cubiclines/laws.FnExactClassLine", spec := "fnExactClassLine", apart := false, narrowed := true }
def FnExactClassLineUptoSaid : Prop := fnExactClassLineUptoRow.holds Try.pinned (OpenSpec.upto fnExactClassLineSpec)

end Rows
end Go.Proofs.Ytmnipmilbgoipaa
