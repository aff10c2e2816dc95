/-
  DERIVED. GIVEN WITH THE SEED: THE CARDS: each row of YtcejgibanmcahaaDoorRows.lean that lists a variable, with what it lists TIED to the program's text (the seventh form; the later family's looks); each row that meets fmt, with fmt's text TOLD by the authors' own Lean function (tested against real Go, not proved from fmt's source: count such statements apart). THE CARD IS WHAT COUNTS. Prove the row's statement (the work); the ties are given (YtcejgibanmcahaaDoorTie.lean); close each card by the builder's one call (the guide's Derived/Test/ToyasCard.lean, 'card_holds'). Laid BY PROGRAM, IN A SANDBOX (cutbox-door.mjs). By AI agents, Wed Nov 11 2026. No macro, syntax, notation, axiom, sorry.
-/
import Derived.Test.YtcejgibanmcahaaDoorRows
import GoSem.ClaimSeven
namespace Go.Proofs.YtcejgibanmcahaaDoor
namespace Rows

/-- THE TIED CARD OF 'laws.FnExactLineNamed'. -/
def fnExactLineNamedCard : Claim7 := { stood := { row := fnExactLineNamedRow, standIns := [], harness := (true, "0d42e2383a630be3436d81b9b1878665d7b74039b9e771c23d6e90f0c5d35b35"), looks := false }, kinds := [], alts := [], laidByText := true, laidKinds := [.data, .data, .data], laidTests := true, laidLooks := .later }
def FnExactLineNamedCardSaid : Prop := Claim7.holds Tryd.pinned (.plain (OpenSpec.ofChange fnExactLineNamedSpec)) fnExactLineNamedCard

/-- THE TIED CARD OF 'laws.FnName'. -/
def fnNameCard : Claim7 := { stood := { row := fnNameRow, standIns := [], harness := (true, "0d42e2383a630be3436d81b9b1878665d7b74039b9e771c23d6e90f0c5d35b35"), looks := false }, kinds := [], alts := [], laidByText := true, laidKinds := [.data, .data, .data], laidTests := true, laidLooks := .later }
def FnNameCardSaid : Prop := Claim7.holds Tryd.pinned (.plain (OpenSpec.ofChange fnNameSpec)) fnNameCard

/-- THE TIED CARD OF 'laws.FnNamed'. -/
def fnNamedCard : Claim7 := { stood := { row := fnNamedRow, standIns := [], harness := (true, "0d42e2383a630be3436d81b9b1878665d7b74039b9e771c23d6e90f0c5d35b35"), looks := false }, kinds := [], alts := [], laidByText := true, laidKinds := [.data, .data, .data], laidTests := true, laidLooks := .later }
def FnNamedCardSaid : Prop := Claim7.holds Tryd.pinned (.plain (OpenSpec.ofChange fnNamedSpec)) fnNamedCard

/-- THE TIED CARD OF 'laws.FnExactLineName'. -/
def fnExactLineNameCard : Claim7 := { stood := { row := fnExactLineNameRow, standIns := [], harness := (true, "0d42e2383a630be3436d81b9b1878665d7b74039b9e771c23d6e90f0c5d35b35"), looks := false }, kinds := [], alts := [], laidByText := true, laidKinds := [.data, .data, .data], laidTests := true, laidLooks := .later }
def FnExactLineNameCardSaid : Prop := Claim7.holds Tryd.pinned (.plain (OpenSpec.ofChange fnExactLineNameSpec)) fnExactLineNameCard

/-- THE SECOND FORM's CARD OF 'laws.FnExactLineNamed'. -/
def fnExactLineNamedUptoCard : Claim7 := { stood := { row := fnExactLineNamedUptoRow, standIns := [], harness := (true, "0d42e2383a630be3436d81b9b1878665d7b74039b9e771c23d6e90f0c5d35b35"), looks := false }, kinds := [], alts := [], laidByText := true, laidKinds := [.data, .data, .data], laidTests := true, laidLooks := .later }
def FnExactLineNamedUptoCardSaid : Prop := Claim7.holds Tryd.pinned (.plain (OpenSpec.upto fnExactLineNamedSpec)) fnExactLineNamedUptoCard

/-- THE SECOND FORM's CARD OF 'laws.FnName'. -/
def fnNameUptoCard : Claim7 := { stood := { row := fnNameUptoRow, standIns := [], harness := (true, "0d42e2383a630be3436d81b9b1878665d7b74039b9e771c23d6e90f0c5d35b35"), looks := false }, kinds := [], alts := [], laidByText := true, laidKinds := [.data, .data, .data], laidTests := true, laidLooks := .later }
def FnNameUptoCardSaid : Prop := Claim7.holds Tryd.pinned (.plain (OpenSpec.upto fnNameSpec)) fnNameUptoCard

/-- THE SECOND FORM's CARD OF 'laws.FnNamed'. -/
def fnNamedUptoCard : Claim7 := { stood := { row := fnNamedUptoRow, standIns := [], harness := (true, "0d42e2383a630be3436d81b9b1878665d7b74039b9e771c23d6e90f0c5d35b35"), looks := false }, kinds := [], alts := [], laidByText := true, laidKinds := [.data, .data, .data], laidTests := true, laidLooks := .later }
def FnNamedUptoCardSaid : Prop := Claim7.holds Tryd.pinned (.plain (OpenSpec.upto fnNamedSpec)) fnNamedUptoCard

/-- THE SECOND FORM's CARD OF 'laws.FnExactLineName'. -/
def fnExactLineNameUptoCard : Claim7 := { stood := { row := fnExactLineNameUptoRow, standIns := [], harness := (true, "0d42e2383a630be3436d81b9b1878665d7b74039b9e771c23d6e90f0c5d35b35"), looks := false }, kinds := [], alts := [], laidByText := true, laidKinds := [.data, .data, .data], laidTests := true, laidLooks := .later }
def FnExactLineNameUptoCardSaid : Prop := Claim7.holds Tryd.pinned (.plain (OpenSpec.upto fnExactLineNameSpec)) fnExactLineNameUptoCard
end Rows
end Go.Proofs.YtcejgibanmcahaaDoor
