/-
  No cell of these rows narrows 'for every input' (looked for: loops, veiled, ifaces, maps, wideKeys, modest, calm, conditions, laid).
  DERIVED. THE GIVEN ROWS OF THIS SEAT. 9 by the template 'for every input the law returns true; each argument reads behind the call as it read before'; 0 by the template 'total and deterministic' (their statements: YthaakghpaefbgaaTotals.lean).
  GIVEN WITH THE SEED: the statements are not yours to turn. If you find one false, say at which input.
  Laid BY PROGRAM, IN A SANDBOX (cutbox-rows.mjs): the forced cells as the released guide's own fill.sh prints them over the translation 3f0f0af0b7847b4b… (all of the seat's roots in one cut). By AI agents, Wed Nov 11 2026. No macro, syntax, notation, axiom, sorry.
-/
import Derived.Test.YthaakghpaefbgaaChecked
import GoSem.Claim
import GoSem.ClaimJoined
import GoSem.ClaimMapViews
import Derived.JoinedTies
import Derived.KernelRfl
namespace Go.Proofs.Ythaakghpaefbgaa
/- THE CELL 'sum', in the pinned program and in every row, IS THE sha256 OF THE DUMP (.gsa) THAT YthaakghpaefbgaaProg.lean LOADS. Nothing in Lean hashes anything: it is a label: what it is worth is what the hold of that sum in a sandbox is worth. -/
noncomputable def Try.pinned : Pinned := { name := "ythaakghpaefbgaa", sum := "3f0f0af0b7847b4b7d8e660a91eb770464d88b37e9241d7eb07dd649c27f52a7", checked := Try.checked }
namespace Rows
def none {H : Type} : Left H := { results := [], args := [] }

/-- 'laws.FnExactWordBack': WHATEVER THE INPUT: true; the input reads as it did. -/
def fnExactWordBackSpec : ChangeSpec := { name := "fnExactWordBack", fn := fun _ => fun
  | [d] => { results := [.lit (.bool true)], args := [d] }
  | _ => none }
def fnExactWordBackRow : OpenClaim := { program := "ythaakghpaefbgaa", sum := "3f0f0af0b7847b4b7d8e660a91eb770464d88b37e9241d7eb07dd649c27f52a7", func := "loop.example/cubiclines/laws.FnExactWordBack", spec := "fnExactWordBack", unfollowed := true, recurses := true, apart := false }
def FnExactWordBackSaid : Prop := fnExactWordBackRow.holds Try.pinned (OpenSpec.ofChange fnExactWordBackSpec)

/-- ITS FALSE NEIGHBOUR: 'it returns false'. Refute it at one input. -/
def fnExactWordBackWrong : ChangeSpec := { name := "fnExactWordBack", fn := fun _ => fun
  | [d] => { results := [.lit (.bool false)], args := [d] }
  | _ => none }
def FnExactWordBackWrongFalsely : Prop := fnExactWordBackRow.holds Try.pinned (OpenSpec.ofChange fnExactWordBackWrong)

/-- 'laws.FnExactClassOf': WHATEVER THE INPUT: true; the input reads as it did. -/
def fnExactClassOfSpec : ChangeSpec := { name := "fnExactClassOf", fn := fun _ => fun
  | [d] => { results := [.lit (.bool true)], args := [d] }
  | _ => none }
def fnExactClassOfRow : OpenClaim := { program := "ythaakghpaefbgaa", sum := "3f0f0af0b7847b4b7d8e660a91eb770464d88b37e9241d7eb07dd649c27f52a7", func := "loop.example/cubiclines/laws.FnExactClassOf", spec := "fnExactClassOf", apart := false }
def FnExactClassOfSaid : Prop := fnExactClassOfRow.holds Try.pinned (OpenSpec.ofChange fnExactClassOfSpec)

/-- ITS FALSE NEIGHBOUR: 'it returns false'. Refute it at one input. -/
def fnExactClassOfWrong : ChangeSpec := { name := "fnExactClassOf", fn := fun _ => fun
  | [d] => { results := [.lit (.bool false)], args := [d] }
  | _ => none }
def FnExactClassOfWrongFalsely : Prop := fnExactClassOfRow.holds Try.pinned (OpenSpec.ofChange fnExactClassOfWrong)

/-- 'laws.FnExactLineCommon': WHATEVER THE INPUT: true; the input reads as it did. -/
def fnExactLineCommonSpec : ChangeSpec := { name := "fnExactLineCommon", fn := fun _ => fun
  | [d1, d2] => { results := [.lit (.bool true)], args := [d1, d2] }
  | _ => none }
def fnExactLineCommonRow : OpenClaim := { program := "ythaakghpaefbgaa", sum := "3f0f0af0b7847b4b7d8e660a91eb770464d88b37e9241d7eb07dd649c27f52a7", func := "loop.example/cubiclines/laws.FnExactLineCommon", spec := "fnExactLineCommon", unfollowed := true, recurses := true, apart := false }
def FnExactLineCommonSaid : Prop := fnExactLineCommonRow.holds Try.pinned (OpenSpec.ofChange fnExactLineCommonSpec)

/-- ITS FALSE NEIGHBOUR: 'it returns false'. Refute it at one input. -/
def fnExactLineCommonWrong : ChangeSpec := { name := "fnExactLineCommon", fn := fun _ => fun
  | [d1, d2] => { results := [.lit (.bool false)], args := [d1, d2] }
  | _ => none }
def FnExactLineCommonWrongFalsely : Prop := fnExactLineCommonRow.holds Try.pinned (OpenSpec.ofChange fnExactLineCommonWrong)

/-- 'laws.FnExactLineThird': WHATEVER THE INPUT: true; the input reads as it did. -/
def fnExactLineThirdSpec : ChangeSpec := { name := "fnExactLineThird", fn := fun _ => fun
  | [d1, d2] => { results := [.lit (.bool true)], args := [d1, d2] }
  | _ => none }
def fnExactLineThirdRow : OpenClaim := { program := "ythaakghpaefbgaa", sum := "3f0f0af0b7847b4b7d8e660a91eb770464d88b37e9241d7eb07dd649c27f52a7", func := "loop.example/cubiclines/laws.FnExactLineThird", spec := "fnExactLineThird", apart := false }
def FnExactLineThirdSaid : Prop := fnExactLineThirdRow.holds Try.pinned (OpenSpec.ofChange fnExactLineThirdSpec)

/-- ITS FALSE NEIGHBOUR: 'it returns false'. Refute it at one input. -/
def fnExactLineThirdWrong : ChangeSpec := { name := "fnExactLineThird", fn := fun _ => fun
  | [d1, d2] => { results := [.lit (.bool false)], args := [d1, d2] }
  | _ => none }
def FnExactLineThirdWrongFalsely : Prop := fnExactLineThirdRow.holds Try.pinned (OpenSpec.ofChange fnExactLineThirdWrong)

/-- 'laws.FnExactLineMeeting': WHATEVER THE INPUT: true; the input reads as it did. -/
def fnExactLineMeetingSpec : ChangeSpec := { name := "fnExactLineMeeting", fn := fun _ => fun
  | [d] => { results := [.lit (.bool true)], args := [d] }
  | _ => none }
def fnExactLineMeetingRow : OpenClaim := { program := "ythaakghpaefbgaa", sum := "3f0f0af0b7847b4b7d8e660a91eb770464d88b37e9241d7eb07dd649c27f52a7", func := "loop.example/cubiclines/laws.FnExactLineMeeting", spec := "fnExactLineMeeting", unfollowed := true, recurses := true, apart := false }
def FnExactLineMeetingSaid : Prop := fnExactLineMeetingRow.holds Try.pinned (OpenSpec.ofChange fnExactLineMeetingSpec)

/-- ITS FALSE NEIGHBOUR: 'it returns false'. Refute it at one input. -/
def fnExactLineMeetingWrong : ChangeSpec := { name := "fnExactLineMeeting", fn := fun _ => fun
  | [d] => { results := [.lit (.bool false)], args := [d] }
  | _ => none }
def FnExactLineMeetingWrongFalsely : Prop := fnExactLineMeetingRow.holds Try.pinned (OpenSpec.ofChange fnExactLineMeetingWrong)

/-- 'laws.FnExactClassSum': WHATEVER THE INPUT: true; the input reads as it did. -/
def fnExactClassSumSpec : ChangeSpec := { name := "fnExactClassSum", fn := fun _ => fun
  | [d] => { results := [.lit (.bool true)], args := [d] }
  | _ => none }
def fnExactClassSumRow : OpenClaim := { program := "ythaakghpaefbgaa", sum := "3f0f0af0b7847b4b7d8e660a91eb770464d88b37e9241d7eb07dd649c27f52a7", func := "loop.example/cubiclines/laws.FnExactClassSum", spec := "fnExactClassSum", apart := false }
def FnExactClassSumSaid : Prop := fnExactClassSumRow.holds Try.pinned (OpenSpec.ofChange fnExactClassSumSpec)

/-- ITS FALSE NEIGHBOUR: 'it returns false'. Refute it at one input. -/
def fnExactClassSumWrong : ChangeSpec := { name := "fnExactClassSum", fn := fun _ => fun
  | [d] => { results := [.lit (.bool false)], args := [d] }
  | _ => none }
def FnExactClassSumWrongFalsely : Prop := fnExactClassSumRow.holds Try.pinned (OpenSpec.ofChange fnExactClassSumWrong)

/-- 'laws.FnExactLineSix': WHATEVER THE INPUT: true; the input reads as it did. -/
def fnExactLineSixSpec : ChangeSpec := { name := "fnExactLineSix", fn := fun _ => fun
  | [d] => { results := [.lit (.bool true)], args := [d] }
  | _ => none }
def fnExactLineSixRow : OpenClaim := { program := "ythaakghpaefbgaa", sum := "3f0f0af0b7847b4b7d8e660a91eb770464d88b37e9241d7eb07dd649c27f52a7", func := "loop.example/cubiclines/laws.FnExactLineSix", spec := "fnExactLineSix", unfollowed := true, recurses := true, apart := false }
def FnExactLineSixSaid : Prop := fnExactLineSixRow.holds Try.pinned (OpenSpec.ofChange fnExactLineSixSpec)

/-- ITS FALSE NEIGHBOUR: 'it returns false'. Refute it at one input. -/
def fnExactLineSixWrong : ChangeSpec := { name := "fnExactLineSix", fn := fun _ => fun
  | [d] => { results := [.lit (.bool false)], args := [d] }
  | _ => none }
def FnExactLineSixWrongFalsely : Prop := fnExactLineSixRow.holds Try.pinned (OpenSpec.ofChange fnExactLineSixWrong)

/-- 'laws.FnExactLinePlanes': WHATEVER THE INPUT: true; the input reads as it did. -/
def fnExactLinePlanesSpec : ChangeSpec := { name := "fnExactLinePlanes", fn := fun _ => fun
  | [d] => { results := [.lit (.bool true)], args := [d] }
  | _ => none }
def fnExactLinePlanesRow : OpenClaim := { program := "ythaakghpaefbgaa", sum := "3f0f0af0b7847b4b7d8e660a91eb770464d88b37e9241d7eb07dd649c27f52a7", func := "loop.example/cubiclines/laws.FnExactLinePlanes", spec := "fnExactLinePlanes", apart := false }
def FnExactLinePlanesSaid : Prop := fnExactLinePlanesRow.holds Try.pinned (OpenSpec.ofChange fnExactLinePlanesSpec)

/-- ITS FALSE NEIGHBOUR: 'it returns false'. Refute it at one input. -/
def fnExactLinePlanesWrong : ChangeSpec := { name := "fnExactLinePlanes", fn := fun _ => fun
  | [d] => { results := [.lit (.bool false)], args := [d] }
  | _ => none }
def FnExactLinePlanesWrongFalsely : Prop := fnExactLinePlanesRow.holds Try.pinned (OpenSpec.ofChange fnExactLinePlanesWrong)

/-- 'laws.FnExactLineSixes': WHATEVER THE INPUT: true; the input reads as it did. -/
def fnExactLineSixesSpec : ChangeSpec := { name := "fnExactLineSixes", fn := fun _ => fun
  | [d] => { results := [.lit (.bool true)], args := [d] }
  | _ => none }
def fnExactLineSixesRow : OpenClaim := { program := "ythaakghpaefbgaa", sum := "3f0f0af0b7847b4b7d8e660a91eb770464d88b37e9241d7eb07dd649c27f52a7", func := "loop.example/cubiclines/laws.FnExactLineSixes", spec := "fnExactLineSixes", unfollowed := true, recurses := true, apart := false }
def FnExactLineSixesSaid : Prop := fnExactLineSixesRow.holds Try.pinned (OpenSpec.ofChange fnExactLineSixesSpec)

/-- ITS FALSE NEIGHBOUR: 'it returns false'. Refute it at one input. -/
def fnExactLineSixesWrong : ChangeSpec := { name := "fnExactLineSixes", fn := fun _ => fun
  | [d] => { results := [.lit (.bool false)], args := [d] }
  | _ => none }
def FnExactLineSixesWrongFalsely : Prop := fnExactLineSixesRow.holds Try.pinned (OpenSpec.ofChange fnExactLineSixesWrong)

/- THE SECOND FORM. 'bulk': how many values and letters a reading holds, each counted each time it is reached (what is shared counts as often as it is met; a slice's spare places count too). A statement '..UptoSaid' is the law's where the arguments, and the package variables that the reading takes, are together of bulk at most 1048576: NARROWER than '..Said'. Prove '..Said' where nothing that the law and all that it calls make is longer than what came in: it says more and counts as full. Else prove '..UptoSaid'. A law counts once. -/
mutual
def uptoBulk {H : Type} : DataW H → Nat
  | .lit (.string bytes) => bytes.length + 1
  | .lit _ => 1
  | .nil => 1
  | .ptr d => uptoBulk d + 1
  | .slice elems spare => uptoBulkAll elems + uptoBulkAll spare + 1
  | .agg parts => uptoBulkAll parts + 1
  | .iface _ d => uptoBulk d + 1
  | .map entries => uptoBulkEntries entries + 1
  | .held _ => 1
def uptoBulkAll {H : Type} : List (DataW H) → Nat
  | [] => 0
  | d :: r => uptoBulk d + uptoBulkAll r
def uptoBulkEntries {H : Type} : List (Lit × DataW H) → Nat
  | [] => 0
  | x :: r => uptoBulkEntry x + uptoBulkEntries r
def uptoBulkEntry {H : Type} : Lit × DataW H → Nat
  | (.string bytes, d) => bytes.length + uptoBulk d + 1
  | (_, d) => uptoBulk d + 1
 end
def uptoSmall : (H : Type) → List (DataW H) → Bool := fun _ ds => decide (uptoBulkAll ds ≤ 1048576)
def OpenSpec.upto (s : _root_.Go.ChangeSpec) : _root_.Go.OpenSpec := { _root_.Go.OpenSpec.ofChange s with cond := some uptoSmall }

/-- 'laws.FnExactWordBack', WHERE WHAT IT READS IS OF BULK AT MOST 1048576: true; the input reads as it did. -/
def fnExactWordBackUptoRow : OpenClaim := { program := "ythaakghpaefbgaa", sum := "3f0f0af0b7847b4b7d8e660a91eb770464d88b37e9241d7eb07dd649c27f52a7", func := "loop.example/cubiclines/laws.FnExactWordBack", spec := "fnExactWordBack", unfollowed := true, recurses := true, apart := false, narrowed := true }
def FnExactWordBackUptoSaid : Prop := fnExactWordBackUptoRow.holds Try.pinned (OpenSpec.upto fnExactWordBackSpec)

/-- 'laws.FnExactClassOf', WHERE WHAT IT READS IS OF BULK AT MOST 1048576: true; the input reads as it did. -/
def fnExactClassOfUptoRow : OpenClaim := { program := "ythaakghpaefbgaa", sum := "3f0f0af0b7847b4b7d8e660a91eb770464d88b37e9241d7eb07dd649c27f52a7", func := "loop.example/cubiclines/laws.FnExactClassOf", spec := "fnExactClassOf", apart := false, narrowed := true }
def FnExactClassOfUptoSaid : Prop := fnExactClassOfUptoRow.holds Try.pinned (OpenSpec.upto fnExactClassOfSpec)

/-- 'laws.FnExactLineCommon', WHERE WHAT IT READS IS OF BULK AT MOST 1048576: true; the input reads as it did. -/
def fnExactLineCommonUptoRow : OpenClaim := { program := "ythaakghpaefbgaa", sum := "3f0f0af0b7847b4b7d8e660a91eb770464d88b37e9241d7eb07dd649c27f52a7", func := "loop.example/cubiclines/laws.FnExactLineCommon", spec := "fnExactLineCommon", unfollowed := true, recurses := true, apart := false, narrowed := true }
def FnExactLineCommonUptoSaid : Prop := fnExactLineCommonUptoRow.holds Try.pinned (OpenSpec.upto fnExactLineCommonSpec)

/-- 'laws.FnExactLineThird', WHERE WHAT IT READS IS OF BULK AT MOST 1048576: true; the input reads as it did. -/
def fnExactLineThirdUptoRow : OpenClaim := { program := "ythaakghpaefbgaa", sum := "3f0f0af0b7847b4b7d8e660a91eb770464d88b37e9241d7eb07dd649c27f52a7", func := "loop.example/cubiclines/laws.FnExactLineThird", spec := "fnExactLineThird", apart := false, narrowed := true }
def FnExactLineThirdUptoSaid : Prop := fnExactLineThirdUptoRow.holds Try.pinned (OpenSpec.upto fnExactLineThirdSpec)

/-- 'laws.FnExactLineMeeting', WHERE WHAT IT READS IS OF BULK AT MOST 1048576: true; the input reads as it did. -/
def fnExactLineMeetingUptoRow : OpenClaim := { program := "ythaakghpaefbgaa", sum := "3f0f0af0b7847b4b7d8e660a91eb770464d88b37e9241d7eb07dd649c27f52a7", func := "loop.example/cubiclines/laws.FnExactLineMeeting", spec := "fnExactLineMeeting", unfollowed := true, recurses := true, apart := false, narrowed := true }
def FnExactLineMeetingUptoSaid : Prop := fnExactLineMeetingUptoRow.holds Try.pinned (OpenSpec.upto fnExactLineMeetingSpec)

/-- 'laws.FnExactClassSum', WHERE WHAT IT READS IS OF BULK AT MOST 1048576: true; the input reads as it did. -/
def fnExactClassSumUptoRow : OpenClaim := { program := "ythaakghpaefbgaa", sum := "3f0f0af0b7847b4b7d8e660a91eb770464d88b37e9241d7eb07dd649c27f52a7", func := "loop.example/cubiclines/laws.FnExactClassSum", spec := "fnExactClassSum", apart := false, narrowed := true }
def FnExactClassSumUptoSaid : Prop := fnExactClassSumUptoRow.holds Try.pinned (OpenSpec.upto fnExactClassSumSpec)

/-- 'laws.FnExactLineSix', WHERE WHAT IT READS IS OF BULK AT MOST 1048576: true; the input reads as it did. -/
def fnExactLineSixUptoRow : OpenClaim := { program := "ythaakghpaefbgaa", sum := "3f0f0af0b7847b4b7d8e660a91eb770464d88b37e9241d7eb07dd649c27f52a7", func := "loop.example/cubiclines/laws.FnExactLineSix", spec := "fnExactLineSix", unfollowed := true, recurses := true, apart := false, narrowed := true }
def FnExactLineSixUptoSaid : Prop := fnExactLineSixUptoRow.holds Try.pinned (OpenSpec.upto fnExactLineSixSpec)

/-- 'laws.FnExactLinePlanes', WHERE WHAT IT READS IS OF BULK AT MOST 1048576: true; the input reads as it did. -/
def fnExactLinePlanesUptoRow : OpenClaim := { program := "ythaakghpaefbgaa", sum := "3f0f0af0b7847b4b7d8e660a91eb770464d88b37e9241d7eb07dd649c27f52a7", func := "loop.example/cubiclines/laws.FnExactLinePlanes", spec := "fnExactLinePlanes", apart := false, narrowed := true }
def FnExactLinePlanesUptoSaid : Prop := fnExactLinePlanesUptoRow.holds Try.pinned (OpenSpec.upto fnExactLinePlanesSpec)

/-- 'laws.FnExactLineSixes', WHERE WHAT IT READS IS OF BULK AT MOST 1048576: true; the input reads as it did. -/
def fnExactLineSixesUptoRow : OpenClaim := { program := "ythaakghpaefbgaa", sum := "3f0f0af0b7847b4b7d8e660a91eb770464d88b37e9241d7eb07dd649c27f52a7", func := "loop.example/cubiclines/laws.FnExactLineSixes", spec := "fnExactLineSixes", unfollowed := true, recurses := true, apart := false, narrowed := true }
def FnExactLineSixesUptoSaid : Prop := fnExactLineSixesUptoRow.holds Try.pinned (OpenSpec.upto fnExactLineSixesSpec)

end Rows
end Go.Proofs.Ythaakghpaefbgaa
