/-
  No cell of these rows narrows 'for every input' (looked for: loops, veiled, ifaces, maps, wideKeys, modest, calm, conditions, laid).
  DERIVED. THE GIVEN ROWS OF THIS SEAT. 10 by the template 'for every input the law returns true; each argument reads behind the call as it read before'; 0 by the template 'total and deterministic' (their statements: YtogmfadeedmmaaaTotals.lean).
  GIVEN WITH THE SEED: the statements are not yours to turn. If you find one false, say at which input.
  Laid BY PROGRAM, IN A SANDBOX (cutbox-rows.mjs): the forced cells as the released guide's own fill.sh prints them over the translation 7db20285aa642295… (all of the seat's roots in one cut). By AI agents, Wed Nov 11 2026. No macro, syntax, notation, axiom, sorry.
-/
import Derived.Test.YtogmfadeedmmaaaChecked
import GoSem.Claim
import GoSem.ClaimJoined
import GoSem.ClaimMapViews
import Derived.JoinedTies
import Derived.KernelRfl
namespace Go.Proofs.Ytogmfadeedmmaaa
/- THE CELL 'sum', in the pinned program and in every row, IS THE sha256 OF THE DUMP (.gsa) THAT YtogmfadeedmmaaaProg.lean LOADS. Nothing in Lean hashes anything: it is a label: what it is worth is what the hold of that sum in a sandbox is worth. -/
noncomputable def Try.pinned : Pinned := { name := "ytogmfadeedmmaaa", sum := "7db20285aa64229518aaefeb2e07ea34734076db5b82e862b19d7e6746251a5c", checked := Try.checked }
namespace Rows
def none {H : Type} : Left H := { results := [], args := [] }

/-- 'laws.FnSimple': WHATEVER THE INPUT: true; the input reads as it did. -/
def fnSimpleSpec : ChangeSpec := { name := "fnSimple", fn := fun _ => fun
  | [d] => { results := [.lit (.bool true)], args := [d] }
  | _ => none }
def fnSimpleRow : OpenClaim := { program := "ytogmfadeedmmaaa", sum := "7db20285aa64229518aaefeb2e07ea34734076db5b82e862b19d7e6746251a5c", func := "loop.example/cubiclines/laws.FnSimple", spec := "fnSimple", apart := false }
def FnSimpleSaid : Prop := fnSimpleRow.holds Try.pinned (OpenSpec.ofChange fnSimpleSpec)

/-- ITS FALSE NEIGHBOUR: 'it returns false'. Refute it at one input. -/
def fnSimpleWrong : ChangeSpec := { name := "fnSimple", fn := fun _ => fun
  | [d] => { results := [.lit (.bool false)], args := [d] }
  | _ => none }
def FnSimpleWrongFalsely : Prop := fnSimpleRow.holds Try.pinned (OpenSpec.ofChange fnSimpleWrong)

/-- 'laws.FnClassOf': WHATEVER THE INPUT: true; the input reads as it did. -/
def fnClassOfSpec : ChangeSpec := { name := "fnClassOf", fn := fun _ => fun
  | [d] => { results := [.lit (.bool true)], args := [d] }
  | _ => none }
def fnClassOfRow : OpenClaim := { program := "ytogmfadeedmmaaa", sum := "7db20285aa64229518aaefeb2e07ea34734076db5b82e862b19d7e6746251a5c", func := "loop.example/cubiclines/laws.FnClassOf", spec := "fnClassOf", apart := false }
def FnClassOfSaid : Prop := fnClassOfRow.holds Try.pinned (OpenSpec.ofChange fnClassOfSpec)

/-- ITS FALSE NEIGHBOUR: 'it returns false'. Refute it at one input. -/
def fnClassOfWrong : ChangeSpec := { name := "fnClassOf", fn := fun _ => fun
  | [d] => { results := [.lit (.bool false)], args := [d] }
  | _ => none }
def FnClassOfWrongFalsely : Prop := fnClassOfRow.holds Try.pinned (OpenSpec.ofChange fnClassOfWrong)

/-- 'laws.FnMeets': WHATEVER THE INPUT: true; the input reads as it did. -/
def fnMeetsSpec : ChangeSpec := { name := "fnMeets", fn := fun _ => fun
  | [d] => { results := [.lit (.bool true)], args := [d] }
  | _ => none }
def fnMeetsRow : OpenClaim := { program := "ytogmfadeedmmaaa", sum := "7db20285aa64229518aaefeb2e07ea34734076db5b82e862b19d7e6746251a5c", func := "loop.example/cubiclines/laws.FnMeets", spec := "fnMeets", apart := false }
def FnMeetsSaid : Prop := fnMeetsRow.holds Try.pinned (OpenSpec.ofChange fnMeetsSpec)

/-- ITS FALSE NEIGHBOUR: 'it returns false'. Refute it at one input. -/
def fnMeetsWrong : ChangeSpec := { name := "fnMeets", fn := fun _ => fun
  | [d] => { results := [.lit (.bool false)], args := [d] }
  | _ => none }
def FnMeetsWrongFalsely : Prop := fnMeetsRow.holds Try.pinned (OpenSpec.ofChange fnMeetsWrong)

/-- 'laws.FnCommon': WHATEVER THE INPUT: true; the input reads as it did. -/
def fnCommonSpec : ChangeSpec := { name := "fnCommon", fn := fun _ => fun
  | [d] => { results := [.lit (.bool true)], args := [d] }
  | _ => none }
def fnCommonRow : OpenClaim := { program := "ytogmfadeedmmaaa", sum := "7db20285aa64229518aaefeb2e07ea34734076db5b82e862b19d7e6746251a5c", func := "loop.example/cubiclines/laws.FnCommon", spec := "fnCommon", unfollowed := true, recurses := true, apart := false }
def FnCommonSaid : Prop := fnCommonRow.holds Try.pinned (OpenSpec.ofChange fnCommonSpec)

/-- ITS FALSE NEIGHBOUR: 'it returns false'. Refute it at one input. -/
def fnCommonWrong : ChangeSpec := { name := "fnCommon", fn := fun _ => fun
  | [d] => { results := [.lit (.bool false)], args := [d] }
  | _ => none }
def FnCommonWrongFalsely : Prop := fnCommonRow.holds Try.pinned (OpenSpec.ofChange fnCommonWrong)

/-- 'laws.FnMeeting': WHATEVER THE INPUT: true; the input reads as it did. -/
def fnMeetingSpec : ChangeSpec := { name := "fnMeeting", fn := fun _ => fun
  | [d] => { results := [.lit (.bool true)], args := [d] }
  | _ => none }
def fnMeetingRow : OpenClaim := { program := "ytogmfadeedmmaaa", sum := "7db20285aa64229518aaefeb2e07ea34734076db5b82e862b19d7e6746251a5c", func := "loop.example/cubiclines/laws.FnMeeting", spec := "fnMeeting", unfollowed := true, recurses := true, apart := false }
def FnMeetingSaid : Prop := fnMeetingRow.holds Try.pinned (OpenSpec.ofChange fnMeetingSpec)

/-- ITS FALSE NEIGHBOUR: 'it returns false'. Refute it at one input. -/
def fnMeetingWrong : ChangeSpec := { name := "fnMeeting", fn := fun _ => fun
  | [d] => { results := [.lit (.bool false)], args := [d] }
  | _ => none }
def FnMeetingWrongFalsely : Prop := fnMeetingRow.holds Try.pinned (OpenSpec.ofChange fnMeetingWrong)

/-- 'laws.FnClassSum': WHATEVER THE INPUT: true; the input reads as it did. -/
def fnClassSumSpec : ChangeSpec := { name := "fnClassSum", fn := fun _ => fun
  | [d] => { results := [.lit (.bool true)], args := [d] }
  | _ => none }
def fnClassSumRow : OpenClaim := { program := "ytogmfadeedmmaaa", sum := "7db20285aa64229518aaefeb2e07ea34734076db5b82e862b19d7e6746251a5c", func := "loop.example/cubiclines/laws.FnClassSum", spec := "fnClassSum", apart := false }
def FnClassSumSaid : Prop := fnClassSumRow.holds Try.pinned (OpenSpec.ofChange fnClassSumSpec)

/-- ITS FALSE NEIGHBOUR: 'it returns false'. Refute it at one input. -/
def fnClassSumWrong : ChangeSpec := { name := "fnClassSum", fn := fun _ => fun
  | [d] => { results := [.lit (.bool false)], args := [d] }
  | _ => none }
def FnClassSumWrongFalsely : Prop := fnClassSumRow.holds Try.pinned (OpenSpec.ofChange fnClassSumWrong)

/-- 'laws.FnPlanes': WHATEVER THE INPUT: true; the input reads as it did. -/
def fnPlanesSpec : ChangeSpec := { name := "fnPlanes", fn := fun _ => fun
  | [d] => { results := [.lit (.bool true)], args := [d] }
  | _ => none }
def fnPlanesRow : OpenClaim := { program := "ytogmfadeedmmaaa", sum := "7db20285aa64229518aaefeb2e07ea34734076db5b82e862b19d7e6746251a5c", func := "loop.example/cubiclines/laws.FnPlanes", spec := "fnPlanes", apart := false }
def FnPlanesSaid : Prop := fnPlanesRow.holds Try.pinned (OpenSpec.ofChange fnPlanesSpec)

/-- ITS FALSE NEIGHBOUR: 'it returns false'. Refute it at one input. -/
def fnPlanesWrong : ChangeSpec := { name := "fnPlanes", fn := fun _ => fun
  | [d] => { results := [.lit (.bool false)], args := [d] }
  | _ => none }
def FnPlanesWrongFalsely : Prop := fnPlanesRow.holds Try.pinned (OpenSpec.ofChange fnPlanesWrong)

/-- 'laws.FnThird': WHATEVER THE INPUT: true; the input reads as it did. -/
def fnThirdSpec : ChangeSpec := { name := "fnThird", fn := fun _ => fun
  | [d] => { results := [.lit (.bool true)], args := [d] }
  | _ => none }
def fnThirdRow : OpenClaim := { program := "ytogmfadeedmmaaa", sum := "7db20285aa64229518aaefeb2e07ea34734076db5b82e862b19d7e6746251a5c", func := "loop.example/cubiclines/laws.FnThird", spec := "fnThird", apart := false }
def FnThirdSaid : Prop := fnThirdRow.holds Try.pinned (OpenSpec.ofChange fnThirdSpec)

/-- ITS FALSE NEIGHBOUR: 'it returns false'. Refute it at one input. -/
def fnThirdWrong : ChangeSpec := { name := "fnThird", fn := fun _ => fun
  | [d] => { results := [.lit (.bool false)], args := [d] }
  | _ => none }
def FnThirdWrongFalsely : Prop := fnThirdRow.holds Try.pinned (OpenSpec.ofChange fnThirdWrong)

/-- 'laws.FnSix': WHATEVER THE INPUT: true; the input reads as it did. -/
def fnSixSpec : ChangeSpec := { name := "fnSix", fn := fun _ => fun
  | [d] => { results := [.lit (.bool true)], args := [d] }
  | _ => none }
def fnSixRow : OpenClaim := { program := "ytogmfadeedmmaaa", sum := "7db20285aa64229518aaefeb2e07ea34734076db5b82e862b19d7e6746251a5c", func := "loop.example/cubiclines/laws.FnSix", spec := "fnSix", unfollowed := true, recurses := true, apart := false }
def FnSixSaid : Prop := fnSixRow.holds Try.pinned (OpenSpec.ofChange fnSixSpec)

/-- ITS FALSE NEIGHBOUR: 'it returns false'. Refute it at one input. -/
def fnSixWrong : ChangeSpec := { name := "fnSix", fn := fun _ => fun
  | [d] => { results := [.lit (.bool false)], args := [d] }
  | _ => none }
def FnSixWrongFalsely : Prop := fnSixRow.holds Try.pinned (OpenSpec.ofChange fnSixWrong)

/-- 'laws.FnSixes': WHATEVER THE INPUT: true; the input reads as it did. -/
def fnSixesSpec : ChangeSpec := { name := "fnSixes", fn := fun _ => fun
  | [d] => { results := [.lit (.bool true)], args := [d] }
  | _ => none }
def fnSixesRow : OpenClaim := { program := "ytogmfadeedmmaaa", sum := "7db20285aa64229518aaefeb2e07ea34734076db5b82e862b19d7e6746251a5c", func := "loop.example/cubiclines/laws.FnSixes", spec := "fnSixes", unfollowed := true, recurses := true, apart := false }
def FnSixesSaid : Prop := fnSixesRow.holds Try.pinned (OpenSpec.ofChange fnSixesSpec)

/-- ITS FALSE NEIGHBOUR: 'it returns false'. Refute it at one input. -/
def fnSixesWrong : ChangeSpec := { name := "fnSixes", fn := fun _ => fun
  | [d] => { results := [.lit (.bool false)], args := [d] }
  | _ => none }
def FnSixesWrongFalsely : Prop := fnSixesRow.holds Try.pinned (OpenSpec.ofChange fnSixesWrong)

/- THE SECOND FORM. 'bulk': how many values and letters a reading holds, each counted each time it is reached (what is shared counts as often as it is met; a slice's spare places count too). A statement '..UptoSaid' is the law's where the arguments, and the package variables that the reading takes, are together of bulk at most 1048576: NARROWER than '..Said'. Prove '..Said' where nothing that the law and all that it calls make is longer than what came in: it says more and counts as full. Else prove '..UptoSaid'. A law counts once. -/
mutual
def uptoBulk {H : Type} : DataW H → Nat
  | .lit (.string bytes) => bytes.length + 1
  | .lit _ => 1
  | .nil => 1
  | .ptr d => uptoBulk d + 1
  | .slice elems spare => uptoBulkAll elems + uptoBulkAll spare + 1
  | .agg parts => uptoBulkAll parts + 1
  | .iface _ d => uptoBulk d + 1
  | .map entries => uptoBulkEntries entries + 1
  | .held _ => 1
def uptoBulkAll {H : Type} : List (DataW H) → Nat
  | [] => 0
  | d :: r => uptoBulk d + uptoBulkAll r
def uptoBulkEntries {H : Type} : List (Lit × DataW H) → Nat
  | [] => 0
  | x :: r => uptoBulkEntry x + uptoBulkEntries r
def uptoBulkEntry {H : Type} : Lit × DataW H → Nat
  | (.string bytes, d) => bytes.length + uptoBulk d + 1
  | (_, d) => uptoBulk d + 1
 end
def uptoSmall : (H : Type) → List (DataW H) → Bool := fun _ ds => decide (uptoBulkAll ds ≤ 1048576)
def OpenSpec.upto (s : _root_.Go.ChangeSpec) : _root_.Go.OpenSpec := { _root_.Go.OpenSpec.ofChange s with cond := some uptoSmall }

/-- 'laws.FnSimple', WHERE WHAT IT READS IS OF BULK AT MOST 1048576: true; the input reads as it did. -/
def fnSimpleUptoRow : OpenClaim := { program := "ytogmfadeedmmaaa", sum := "7db20285aa64229518aaefeb2e07ea34734076db5b82e862b19d7e6746251a5c", func := "loop.example/cubiclines/laws.FnSimple", spec := "fnSimple", apart := false, narrowed := true }
def FnSimpleUptoSaid : Prop := fnSimpleUptoRow.holds Try.pinned (OpenSpec.upto fnSimpleSpec)

/-- 'laws.FnClassOf', WHERE WHAT IT READS IS OF BULK AT MOST 1048576: true; the input reads as it did. -/
def fnClassOfUptoRow : OpenClaim := { program := "ytogmfadeedmmaaa", sum := "7db20285aa64229518aaefeb2e07ea34734076db5b82e862b19d7e6746251a5c", func := "loop.example/cubiclines/laws.FnClassOf", spec := "fnClassOf", apart := false, narrowed := true }
def FnClassOfUptoSaid : Prop := fnClassOfUptoRow.holds Try.pinned (OpenSpec.upto fnClassOfSpec)

/-- 'laws.FnMeets', WHERE WHAT IT READS IS OF BULK AT MOST 1048576: true; the input reads as it did. -/
def fnMeetsUptoRow : OpenClaim := { program := "ytogmfadeedmmaaa", sum := "7db20285aa64229518aaefeb2e07ea34734076db5b82e862b19d7e6746251a5c", func := "loop.example/cubiclines/laws.FnMeets", spec := "fnMeets", apart := false, narrowed := true }
def FnMeetsUptoSaid : Prop := fnMeetsUptoRow.holds Try.pinned (OpenSpec.upto fnMeetsSpec)

/-- 'laws.FnCommon', WHERE WHAT IT READS IS OF BULK AT MOST 1048576: true; the input reads as it did. -/
def fnCommonUptoRow : OpenClaim := { program := "ytogmfadeedmmaaa", sum := "7db20285aa64229518aaefeb2e07ea34734076db5b82e862b19d7e6746251a5c", func := "loop.example/cubiclines/laws.FnCommon", spec := "fnCommon", unfollowed := true, recurses := true, apart := false, narrowed := true }
def FnCommonUptoSaid : Prop := fnCommonUptoRow.holds Try.pinned (OpenSpec.upto fnCommonSpec)

/-- 'laws.FnMeeting', WHERE WHAT IT READS IS OF BULK AT MOST 1048576: true; the input reads as it did. -/
def fnMeetingUptoRow : OpenClaim := { program := "ytogmfadeedmmaaa", sum := "7db20285aa64229518aaefeb2e07ea34734076db5b82e862b19d7e6746251a5c", func := "loop.example/cubiclines/laws.FnMeeting", spec := "fnMeeting", unfollowed := true, recurses := true, apart := false, narrowed := true }
def FnMeetingUptoSaid : Prop := fnMeetingUptoRow.holds Try.pinned (OpenSpec.upto fnMeetingSpec)

/-- 'laws.FnClassSum', WHERE WHAT IT READS IS OF BULK AT MOST 1048576: true; the input reads as it did. -/
def fnClassSumUptoRow : OpenClaim := { program := "ytogmfadeedmmaaa", sum := "7db20285aa64229518aaefeb2e07ea34734076db5b82e862b19d7e6746251a5c", func := "loop.example/cubiclines/laws.FnClassSum", spec := "fnClassSum", apart := false, narrowed := true }
def FnClassSumUptoSaid : Prop := fnClassSumUptoRow.holds Try.pinned (OpenSpec.upto fnClassSumSpec)

/-- 'laws.FnPlanes', WHERE WHAT IT READS IS OF BULK AT MOST 1048576: true; the input reads as it did. -/
def fnPlanesUptoRow : OpenClaim := { program := "ytogmfadeedmmaaa", sum := "7db20285aa64229518aaefeb2e07ea34734076db5b82e862b19d7e6746251a5c", func := "loop.example/cubiclines/laws.FnPlanes", spec := "fnPlanes", apart := false, narrowed := true }
def FnPlanesUptoSaid : Prop := fnPlanesUptoRow.holds Try.pinned (OpenSpec.upto fnPlanesSpec)

/-- 'laws.FnThird', WHERE WHAT IT READS IS OF BULK AT MOST 1048576: true; the input reads as it did. -/
def fnThirdUptoRow : OpenClaim := { program := "ytogmfadeedmmaaa", sum := "7db20285aa64229518aaefeb2e07ea34734076db5b82e862b19d7e6746251a5c", func := "loop.example/cubiclines/laws.FnThird", spec := "fnThird", apart := false, narrowed := true }
def FnThirdUptoSaid : Prop := fnThirdUptoRow.holds Try.pinned (OpenSpec.upto fnThirdSpec)

/-- 'laws.FnSix', WHERE WHAT IT READS IS OF BULK AT MOST 1048576: true; the input reads as it did. -/
def fnSixUptoRow : OpenClaim := { program := "ytogmfadeedmmaaa", sum := "7db20285aa64229518aaefeb2e07ea34734076db5b82e862b19d7e6746251a5c", func := "loop.example/cubiclines/laws.FnSix", spec := "fnSix", unfollowed := true, recurses := true, apart := false, narrowed := true }
def FnSixUptoSaid : Prop := fnSixUptoRow.holds Try.pinned (OpenSpec.upto fnSixSpec)

/-- 'laws.FnSixes', WHERE WHAT IT READS IS OF BULK AT MOST 1048576: true; the input reads as it did. -/
def fnSixesUptoRow : OpenClaim := { program := "ytogmfadeedmmaaa", sum := "7db20285aa64229518aaefeb2e07ea34734076db5b82e862b19d7e6746251a5c", func := "loop.example/cubiclines/laws.FnSixes", spec := "fnSixes", unfollowed := true, recurses := true, apart := false, narrowed := true }
def FnSixesUptoSaid : Prop := fnSixesUptoRow.holds Try.pinned (OpenSpec.upto fnSixesSpec)

end Rows
end Go.Proofs.Ytogmfadeedmmaaa
