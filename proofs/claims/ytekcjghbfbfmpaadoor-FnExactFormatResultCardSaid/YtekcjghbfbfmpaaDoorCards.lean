/-
  DERIVED. GIVEN WITH THE SEED: THE CARDS: each row of YtekcjghbfbfmpaaDoorRows.lean that lists a variable, with what it lists TIED to the program's text (the seventh form; the later family's looks); each row that meets fmt, with fmt's text TOLD by the authors' own Lean function (tested against real Go, not proved from fmt's source: count such statements apart). THE CARD IS WHAT COUNTS. Prove the row's statement (the work); the ties are given (YtekcjghbfbfmpaaDoorTie.lean); close each card by the builder's one call (the guide's Derived/Test/ToyasCard.lean, 'card_holds'). Laid BY PROGRAM, IN A SANDBOX (cutbox-door.mjs). By AI agents, Wed Nov 11 2026. No macro, syntax, notation, axiom, sorry.
-/
import Derived.Test.YtekcjghbfbfmpaaDoorRows
import GoSem.ClaimSeven
namespace Go.Proofs.YtekcjghbfbfmpaaDoor
namespace Rows

/-- THE TIED CARD OF 'laws.FnExactFormatRows'. -/
def fnExactFormatRowsCard : Claim7 := { stood := { row := fnExactFormatRowsRow, standIns := [], harness := (true, "fc7b24dcd54d0d69eb75d9d5120a2cc6916eade933785e62cd78499e8f3b1e99"), looks := false }, kinds := [], alts := [], laidByText := true, laidKinds := [.data, .data, .data], laidTests := true, laidLooks := .later }
def FnExactFormatRowsCardSaid : Prop := Claim7.holds Tryd.pinned (.plain (OpenSpec.ofChange fnExactFormatRowsSpec)) fnExactFormatRowsCard

/-- THE TIED CARD OF 'laws.FnExactFormatResult'. -/
def fnExactFormatResultCard : Claim7 := { stood := { row := fnExactFormatResultRow, standIns := [], harness := (true, "fc7b24dcd54d0d69eb75d9d5120a2cc6916eade933785e62cd78499e8f3b1e99"), looks := false }, kinds := [], alts := [], laidByText := true, laidKinds := [.data, .data, .data], laidTests := true, laidLooks := .later }
def FnExactFormatResultCardSaid : Prop := Claim7.holds Tryd.pinned (.plain (OpenSpec.ofChange fnExactFormatResultSpec)) fnExactFormatResultCard

/-- THE TIED CARD OF 'laws.FnExactFormatQuery'. -/
def fnExactFormatQueryCard : Claim7 := { stood := { row := fnExactFormatQueryRow, standIns := [], harness := (true, "fc7b24dcd54d0d69eb75d9d5120a2cc6916eade933785e62cd78499e8f3b1e99"), looks := false }, kinds := [], alts := [], laidByText := true, laidKinds := [.data, .data, .data], laidTests := true, laidLooks := .later }
def FnExactFormatQueryCardSaid : Prop := Claim7.holds Tryd.pinned (.plain (OpenSpec.ofChange fnExactFormatQuerySpec)) fnExactFormatQueryCard

/-- THE SECOND FORM's CARD OF 'laws.FnExactFormatRows'. -/
def fnExactFormatRowsUptoCard : Claim7 := { stood := { row := fnExactFormatRowsUptoRow, standIns := [], harness := (true, "fc7b24dcd54d0d69eb75d9d5120a2cc6916eade933785e62cd78499e8f3b1e99"), looks := false }, kinds := [], alts := [], laidByText := true, laidKinds := [.data, .data, .data], laidTests := true, laidLooks := .later }
def FnExactFormatRowsUptoCardSaid : Prop := Claim7.holds Tryd.pinned (.plain (OpenSpec.upto fnExactFormatRowsSpec)) fnExactFormatRowsUptoCard

/-- THE SECOND FORM's CARD OF 'laws.FnExactFormatResult'. -/
def fnExactFormatResultUptoCard : Claim7 := { stood := { row := fnExactFormatResultUptoRow, standIns := [], harness := (true, "fc7b24dcd54d0d69eb75d9d5120a2cc6916eade933785e62cd78499e8f3b1e99"), looks := false }, kinds := [], alts := [], laidByText := true, laidKinds := [.data, .data, .data], laidTests := true, laidLooks := .later }
def FnExactFormatResultUptoCardSaid : Prop := Claim7.holds Tryd.pinned (.plain (OpenSpec.upto fnExactFormatResultSpec)) fnExactFormatResultUptoCard

/-- THE SECOND FORM's CARD OF 'laws.FnExactFormatQuery'. -/
def fnExactFormatQueryUptoCard : Claim7 := { stood := { row := fnExactFormatQueryUptoRow, standIns := [], harness := (true, "fc7b24dcd54d0d69eb75d9d5120a2cc6916eade933785e62cd78499e8f3b1e99"), looks := false }, kinds := [], alts := [], laidByText := true, laidKinds := [.data, .data, .data], laidTests := true, laidLooks := .later }
def FnExactFormatQueryUptoCardSaid : Prop := Claim7.holds Tryd.pinned (.plain (OpenSpec.upto fnExactFormatQuerySpec)) fnExactFormatQueryUptoCard
end Rows
end Go.Proofs.YtekcjghbfbfmpaaDoor
