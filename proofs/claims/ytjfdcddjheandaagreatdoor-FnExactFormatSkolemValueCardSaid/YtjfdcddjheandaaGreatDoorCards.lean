/-
  DERIVED. GIVEN WITH THE SEED: THE CARDS: each row of YtjfdcddjheandaaGreatDoorRows.lean that lists a variable, with what it lists TIED to the program's text (the seventh form; the later family's looks); each row that meets fmt, with fmt's text TOLD by the authors' own Lean function (tested against real Go, not proved from fmt's source: count such statements apart). THE CARD IS WHAT COUNTS. Prove the row's statement (the work); the ties are given (YtjfdcddjheandaaGreatDoorTie.lean); close each card by the builder's one call (the guide's Derived/Test/ToyasCard.lean, 'card_holds'). Laid BY PROGRAM, IN A SANDBOX (cutbox-door.mjs). By AI agents, Wed Nov 11 2026. No macro, syntax, notation, axiom, sorry.
-/
import Derived.Test.YtjfdcddjheandaaGreatDoorRows
import GoSem.ClaimSeven
namespace Go.Proofs.YtjfdcddjheandaaGreatDoor
namespace Rows

/-- THE TIED CARD OF 'laws.FnExactFormatSkolemValue'. -/
def fnExactFormatSkolemValueCard : Claim7 := { stood := { row := fnExactFormatSkolemValueRow, standIns := [], harness := (true, "cb080e1a500b74ce2cf1f6c4bce939bc867d4628098f260328cdf94fe317dd49"), looks := false }, kinds := [], alts := [], laidByText := true, laidKinds := [.data, .data, .data], laidTests := true, laidLooks := .later }
def FnExactFormatSkolemValueCardSaid : Prop := Claim7.holds Tryz.pinned (.plain (OpenSpec.ofChange fnExactFormatSkolemValueSpec)) fnExactFormatSkolemValueCard

/-- THE SECOND FORM's CARD OF 'laws.FnExactFormatSkolemValue'. -/
def fnExactFormatSkolemValueUptoCard : Claim7 := { stood := { row := fnExactFormatSkolemValueUptoRow, standIns := [], harness := (true, "cb080e1a500b74ce2cf1f6c4bce939bc867d4628098f260328cdf94fe317dd49"), looks := false }, kinds := [], alts := [], laidByText := true, laidKinds := [.data, .data, .data], laidTests := true, laidLooks := .later }
def FnExactFormatSkolemValueUptoCardSaid : Prop := Claim7.holds Tryz.pinned (.plain (OpenSpec.upto fnExactFormatSkolemValueSpec)) fnExactFormatSkolemValueUptoCard
end Rows
end Go.Proofs.YtjfdcddjheandaaGreatDoor
