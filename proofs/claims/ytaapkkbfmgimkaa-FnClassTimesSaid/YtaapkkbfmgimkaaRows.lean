/-
  No cell of these rows narrows 'for every input' (looked for: loops, veiled, ifaces, maps, wideKeys, modest, calm, conditions, laid).
  DERIVED. THE GIVEN ROWS OF THIS SEAT. 8 by the template 'for every input the law returns true; each argument reads behind the call as it read before'; 0 by the template 'total and deterministic' (their statements: YtaapkkbfmgimkaaTotals.lean).
  GIVEN WITH THE SEED: the statements are not yours to turn. If you find one false, say at which input.
  Laid BY PROGRAM, IN A SANDBOX (cutbox-rows.mjs): the forced cells as the released guide's own fill.sh prints them over the translation 4b5e7a78c0d900c3… (all of the seat's roots in one cut). By AI agents, Wed Nov 11 2026. No macro, syntax, notation, axiom, sorry.
-/
import Derived.Test.YtaapkkbfmgimkaaChecked
import GoSem.Claim
import GoSem.ClaimJoined
import GoSem.ClaimMapViews
import Derived.JoinedTies
import Derived.KernelRfl
namespace Go.Proofs.Ytaapkkbfmgimkaa
/- THE CELL 'sum', in the pinned program and in every row, IS THE sha256 OF THE DUMP (.gsa) THAT YtaapkkbfmgimkaaProg.lean LOADS. Nothing in Lean hashes anything: it is a label: what it is worth is what the hold of that sum in a sandbox is worth. -/
noncomputable def Try.pinned : Pinned := { name := "ytaapkkbfmgimkaa", sum := "4b5e7a78c0d900c30a29b33960b7de1fde62fe50786fe325a4e446719f3edf20", checked := Try.checked }
namespace Rows
def none {H : Type} : Left H := { results := [], args := [] }

/-- 'laws.FnClass': WHATEVER THE INPUT: true; the input reads as it did. -/
def fnClassSpec : ChangeSpec := { name := "fnClass", fn := fun _ => fun
  | [d] => { results := [.lit (.bool true)], args := [d] }
  | _ => none }
def fnClassRow : OpenClaim := { program := "ytaapkkbfmgimkaa", sum := "4b5e7a78c0d900c30a29b33960b7de1fde62fe50786fe325a4e446719f3edf20", func := "loop.example/cubiclines/laws.FnClass", spec := "fnClass", apart := false }
def FnClassSaid : Prop := fnClassRow.holds Try.pinned (OpenSpec.ofChange fnClassSpec)

/-- ITS FALSE NEIGHBOUR: 'it returns false'. Refute it at one input. -/
def fnClassWrong : ChangeSpec := { name := "fnClass", fn := fun _ => fun
  | [d] => { results := [.lit (.bool false)], args := [d] }
  | _ => none }
def FnClassWrongFalsely : Prop := fnClassRow.holds Try.pinned (OpenSpec.ofChange fnClassWrong)

/-- 'laws.FnDegree': WHATEVER THE INPUT: true; the input reads as it did. -/
def fnDegreeSpec : ChangeSpec := { name := "fnDegree", fn := fun _ => fun
  | [d] => { results := [.lit (.bool true)], args := [d] }
  | _ => none }
def fnDegreeRow : OpenClaim := { program := "ytaapkkbfmgimkaa", sum := "4b5e7a78c0d900c30a29b33960b7de1fde62fe50786fe325a4e446719f3edf20", func := "loop.example/cubiclines/laws.FnDegree", spec := "fnDegree", apart := false }
def FnDegreeSaid : Prop := fnDegreeRow.holds Try.pinned (OpenSpec.ofChange fnDegreeSpec)

/-- ITS FALSE NEIGHBOUR: 'it returns false'. Refute it at one input. -/
def fnDegreeWrong : ChangeSpec := { name := "fnDegree", fn := fun _ => fun
  | [d] => { results := [.lit (.bool false)], args := [d] }
  | _ => none }
def FnDegreeWrongFalsely : Prop := fnDegreeRow.holds Try.pinned (OpenSpec.ofChange fnDegreeWrong)

/-- 'laws.FnProduct': WHATEVER THE INPUT: true; the input reads as it did. -/
def fnProductSpec : ChangeSpec := { name := "fnProduct", fn := fun _ => fun
  | [d] => { results := [.lit (.bool true)], args := [d] }
  | _ => none }
def fnProductRow : OpenClaim := { program := "ytaapkkbfmgimkaa", sum := "4b5e7a78c0d900c30a29b33960b7de1fde62fe50786fe325a4e446719f3edf20", func := "loop.example/cubiclines/laws.FnProduct", spec := "fnProduct", apart := false }
def FnProductSaid : Prop := fnProductRow.holds Try.pinned (OpenSpec.ofChange fnProductSpec)

/-- ITS FALSE NEIGHBOUR: 'it returns false'. Refute it at one input. -/
def fnProductWrong : ChangeSpec := { name := "fnProduct", fn := fun _ => fun
  | [d] => { results := [.lit (.bool false)], args := [d] }
  | _ => none }
def FnProductWrongFalsely : Prop := fnProductRow.holds Try.pinned (OpenSpec.ofChange fnProductWrong)

/-- 'laws.FnClassTimes': WHATEVER THE INPUT: true; the input reads as it did. -/
def fnClassTimesSpec : ChangeSpec := { name := "fnClassTimes", fn := fun _ => fun
  | [d] => { results := [.lit (.bool true)], args := [d] }
  | _ => none }
def fnClassTimesRow : OpenClaim := { program := "ytaapkkbfmgimkaa", sum := "4b5e7a78c0d900c30a29b33960b7de1fde62fe50786fe325a4e446719f3edf20", func := "loop.example/cubiclines/laws.FnClassTimes", spec := "fnClassTimes", apart := false }
def FnClassTimesSaid : Prop := fnClassTimesRow.holds Try.pinned (OpenSpec.ofChange fnClassTimesSpec)

/-- ITS FALSE NEIGHBOUR: 'it returns false'. Refute it at one input. -/
def fnClassTimesWrong : ChangeSpec := { name := "fnClassTimes", fn := fun _ => fun
  | [d] => { results := [.lit (.bool false)], args := [d] }
  | _ => none }
def FnClassTimesWrongFalsely : Prop := fnClassTimesRow.holds Try.pinned (OpenSpec.ofChange fnClassTimesWrong)

/-- 'laws.FnClassAdd': WHATEVER THE INPUT: true; the input reads as it did. -/
def fnClassAddSpec : ChangeSpec := { name := "fnClassAdd", fn := fun _ => fun
  | [d] => { results := [.lit (.bool true)], args := [d] }
  | _ => none }
def fnClassAddRow : OpenClaim := { program := "ytaapkkbfmgimkaa", sum := "4b5e7a78c0d900c30a29b33960b7de1fde62fe50786fe325a4e446719f3edf20", func := "loop.example/cubiclines/laws.FnClassAdd", spec := "fnClassAdd", apart := false }
def FnClassAddSaid : Prop := fnClassAddRow.holds Try.pinned (OpenSpec.ofChange fnClassAddSpec)

/-- ITS FALSE NEIGHBOUR: 'it returns false'. Refute it at one input. -/
def fnClassAddWrong : ChangeSpec := { name := "fnClassAdd", fn := fun _ => fun
  | [d] => { results := [.lit (.bool false)], args := [d] }
  | _ => none }
def FnClassAddWrongFalsely : Prop := fnClassAddRow.holds Try.pinned (OpenSpec.ofChange fnClassAddWrong)

/-- 'laws.FnClassLine': WHATEVER THE INPUT: true; the input reads as it did. -/
def fnClassLineSpec : ChangeSpec := { name := "fnClassLine", fn := fun _ => fun
  | [d] => { results := [.lit (.bool true)], args := [d] }
  | _ => none }
def fnClassLineRow : OpenClaim := { program := "ytaapkkbfmgimkaa", sum := "4b5e7a78c0d900c30a29b33960b7de1fde62fe50786fe325a4e446719f3edf20", func := "loop.example/cubiclines/laws.FnClassLine", spec := "fnClassLine", apart := false }
def FnClassLineSaid : Prop := fnClassLineRow.holds Try.pinned (OpenSpec.ofChange fnClassLineSpec)

/-- ITS FALSE NEIGHBOUR: 'it returns false'. Refute it at one input. -/
def fnClassLineWrong : ChangeSpec := { name := "fnClassLine", fn := fun _ => fun
  | [d] => { results := [.lit (.bool false)], args := [d] }
  | _ => none }
def FnClassLineWrongFalsely : Prop := fnClassLineRow.holds Try.pinned (OpenSpec.ofChange fnClassLineWrong)

/-- 'laws.FnAllLines': WHATEVER THE INPUT: true; the input reads as it did. -/
def fnAllLinesSpec : ChangeSpec := { name := "fnAllLines", fn := fun _ => fun
  | [d] => { results := [.lit (.bool true)], args := [d] }
  | _ => none }
def fnAllLinesRow : OpenClaim := { program := "ytaapkkbfmgimkaa", sum := "4b5e7a78c0d900c30a29b33960b7de1fde62fe50786fe325a4e446719f3edf20", func := "loop.example/cubiclines/laws.FnAllLines", spec := "fnAllLines", apart := false }
def FnAllLinesSaid : Prop := fnAllLinesRow.holds Try.pinned (OpenSpec.ofChange fnAllLinesSpec)

/-- ITS FALSE NEIGHBOUR: 'it returns false'. Refute it at one input. -/
def fnAllLinesWrong : ChangeSpec := { name := "fnAllLines", fn := fun _ => fun
  | [d] => { results := [.lit (.bool false)], args := [d] }
  | _ => none }
def FnAllLinesWrongFalsely : Prop := fnAllLinesRow.holds Try.pinned (OpenSpec.ofChange fnAllLinesWrong)

/-- 'laws.FnGenus': WHATEVER THE INPUT: true; the input reads as it did. -/
def fnGenusSpec : ChangeSpec := { name := "fnGenus", fn := fun _ => fun
  | [d] => { results := [.lit (.bool true)], args := [d] }
  | _ => none }
def fnGenusRow : OpenClaim := { program := "ytaapkkbfmgimkaa", sum := "4b5e7a78c0d900c30a29b33960b7de1fde62fe50786fe325a4e446719f3edf20", func := "loop.example/cubiclines/laws.FnGenus", spec := "fnGenus", apart := false }
def FnGenusSaid : Prop := fnGenusRow.holds Try.pinned (OpenSpec.ofChange fnGenusSpec)

/-- ITS FALSE NEIGHBOUR: 'it returns false'. Refute it at one input. -/
def fnGenusWrong : ChangeSpec := { name := "fnGenus", fn := fun _ => fun
  | [d] => { results := [.lit (.bool false)], args := [d] }
  | _ => none }
def FnGenusWrongFalsely : Prop := fnGenusRow.holds Try.pinned (OpenSpec.ofChange fnGenusWrong)

/- THE SECOND FORM. 'bulk': how many values and letters a reading holds, each counted each time it is reached (what is shared counts as often as it is met; a slice's spare places count too). A statement '..UptoSaid' is the law's where the arguments, and the package variables that the reading takes, are together of bulk at most 1048576: NARROWER than '..Said'. Prove '..Said' where nothing that the law and all that it calls make is longer than what came in: it says more and counts as full. Else prove '..UptoSaid'. A law counts once. -/
mutual
def uptoBulk {H : Type} : DataW H → Nat
  | .lit (.string bytes) => bytes.length + 1
  | .lit _ => 1
  | .nil => 1
  | .ptr d => uptoBulk d + 1
  | .slice elems spare => uptoBulkAll elems + uptoBulkAll spare + 1
  | .agg parts => uptoBulkAll parts + 1
  | .iface _ d => uptoBulk d + 1
  | .map entries => uptoBulkEntries entries + 1
  | .held _ => 1
def uptoBulkAll {H : Type} : List (DataW H) → Nat
  | [] => 0
  | d :: r => uptoBulk d + uptoBulkAll r
def uptoBulkEntries {H : Type} : List (Lit × DataW H) → Nat
  | [] => 0
  | x :: r => uptoBulkEntry x + uptoBulkEntries r
def uptoBulkEntry {H : Type} : Lit × DataW H → Nat
  | (.string bytes, d) => bytes.length + uptoBulk d + 1
  | (_, d) => uptoBulk d + 1
 end
def uptoSmall : (H : Type) → List (DataW H) → Bool := fun _ ds => decide (uptoBulkAll ds ≤ 1048576)
def OpenSpec.upto (s : _root_.Go.ChangeSpec) : _root_.Go.OpenSpec := { _root_.Go.OpenSpec.ofChange s with cond := some uptoSmall }

/-- 'laws.FnClass', WHERE WHAT IT READS IS OF BULK AT MOST 1048576: true; the input reads as it did. -/
def fnClassUptoRow : OpenClaim := { program := "ytaapkkbfmgimkaa", sum := "4b5e7a78c0d900c30a29b33960b7de1fde62fe50786fe325a4e446719f3edf20", func := "loop.example/cubiclines/laws.FnClass", spec := "fnClass", apart := false, narrowed := true }
def FnClassUptoSaid : Prop := fnClassUptoRow.holds Try.pinned (OpenSpec.upto fnClassSpec)

/-- 'laws.FnDegree', WHERE WHAT IT READS IS OF BULK AT MOST 1048576: true; the input reads as it did. -/
def fnDegreeUptoRow : OpenClaim := { program := "ytaapkkbfmgimkaa", sum := "4b5e7a78c0d900c30a29b33960b7de1fde62fe50786fe325a4e446719f3edf20", func := "loop.example/cubiclines/laws.FnDegree", spec := "fnDegree", apart := false, narrowed := true }
def FnDegreeUptoSaid : Prop := fnDegreeUptoRow.holds Try.pinned (OpenSpec.upto fnDegreeSpec)

/-- 'laws.FnProduct', WHERE WHAT IT READS IS OF BULK AT MOST 1048576: true; the input reads as it did. -/
def fnProductUptoRow : OpenClaim := { program := "ytaapkkbfmgimkaa", sum := "4b5e7a78c0d900c30a29b33960b7de1fde62fe50786fe325a4e446719f3edf20", func := "loop.example/cubiclines/laws.FnProduct", spec := "fnProduct", apart := false, narrowed := true }
def FnProductUptoSaid : Prop := fnProductUptoRow.holds Try.pinned (OpenSpec.upto fnProductSpec)

/-- 'laws.FnClassTimes', WHERE WHAT IT READS IS OF BULK AT MOST 1048576: true; the input reads as it did. -/
def fnClassTimesUptoRow : OpenClaim := { program := "ytaapkkbfmgimkaa", sum := "4b5e7a78c0d900c30a29b33960b7de1fde62fe50786fe325a4e446719f3edf20", func := "loop.example/cubiclines/laws.FnClassTimes", spec := "fnClassTimes", apart := false, narrowed := true }
def FnClassTimesUptoSaid : Prop := fnClassTimesUptoRow.holds Try.pinned (OpenSpec.upto fnClassTimesSpec)

/-- 'laws.FnClassAdd', WHERE WHAT IT READS IS OF BULK AT MOST 1048576: true; the input reads as it did. -/
def fnClassAddUptoRow : OpenClaim := { program := "ytaapkkbfmgimkaa", sum := "4b5e7a78c0d900c30a29b33960b7de1fde62fe50786fe325a4e446719f3edf20", func := "loop.example/cubiclines/laws.FnClassAdd", spec := "fnClassAdd", apart := false, narrowed := true }
def FnClassAddUptoSaid : Prop := fnClassAddUptoRow.holds Try.pinned (OpenSpec.upto fnClassAddSpec)

/-- 'laws.FnClassLine', WHERE WHAT IT READS IS OF BULK AT MOST 1048576: true; the input reads as it did. -/
def fnClassLineUptoRow : OpenClaim := { program := "ytaapkkbfmgimkaa", sum := "4b5e7a78c0d900c30a29b33960b7de1fde62fe50786fe325a4e446719f3edf20", func := "loop.example/cubiclines/laws.FnClassLine", spec := "fnClassLine", apart := false, narrowed := true }
def FnClassLineUptoSaid : Prop := fnClassLineUptoRow.holds Try.pinned (OpenSpec.upto fnClassLineSpec)

/-- 'laws.FnAllLines', WHERE WHAT IT READS IS OF BULK AT MOST 1048576: true; the input reads as it did. -/
def fnAllLinesUptoRow : OpenClaim := { program := "ytaapkkbfmgimkaa", sum := "4b5e7a78c0d900c30a29b33960b7de1fde62fe50786fe325a4e446719f3edf20", func := "loop.example/cubiclines/laws.FnAllLines", spec := "fnAllLines", apart := false, narrowed := true }
def FnAllLinesUptoSaid : Prop := fnAllLinesUptoRow.holds Try.pinned (OpenSpec.upto fnAllLinesSpec)

/-- 'laws.FnGenus', WHERE WHAT IT READS IS OF BULK AT MOST 1048576: true; the input reads as it did. -/
def fnGenusUptoRow : OpenClaim := { program := "ytaapkkbfmgimkaa", sum := "4b5e7a78c0d900c30a29b33960b7de1fde62fe50786fe325a4e446719f3edf20", func := "loop.example/cubiclines/laws.FnGenus", spec := "fnGenus", apart := false, narrowed := true }
def FnGenusUptoSaid : Prop := fnGenusUptoRow.holds Try.pinned (OpenSpec.upto fnGenusSpec)

end Rows
end Go.Proofs.Ytaapkkbfmgimkaa
