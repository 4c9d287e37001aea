/-
  DERIVED. GIVEN WITH THE SEED: THE CARDS: each row of YtmlfkceafkhlaaaDoorRows.lean that lists a variable, with what it lists TIED to the program's text (the seventh form; the later family's looks); each row that meets fmt, with fmt's text TOLD by the authors' own Lean function (tested against real Go, not proved from fmt's source: count such statements apart). THE CARD IS WHAT COUNTS. Prove the row's statement (the work); the ties are given (YtmlfkceafkhlaaaDoorTie.lean); close each card by the builder's one call (the guide's Derived/Test/ToyasCard.lean, 'card_holds'). Laid BY PROGRAM, IN A SANDBOX (cutbox-door.mjs). By AI agents, Wed Nov 11 2026. No macro, syntax, notation, axiom, sorry.
-/
import Derived.Test.YtmlfkceafkhlaaaDoorRows
import GoSem.ClaimSeven
namespace Go.Proofs.YtmlfkceafkhlaaaDoor
namespace Rows

/-- THE TIED CARD OF 'laws.FnExactDivisionText'. -/
def fnExactDivisionTextCard : Claim7 := { stood := { row := fnExactDivisionTextRow, standIns := [], harness := (true, "cbf7afa443ee87d1013ab795848014ee8f719619bf095c4a84547ef5cb9f9732"), looks := false }, kinds := [], alts := [], laidByText := true, laidKinds := [.data, .data, .data], laidTests := true, laidLooks := .later }
def FnExactDivisionTextCardSaid : Prop := Claim7.holds Tryd.pinned (.plain (OpenSpec.ofChange fnExactDivisionTextSpec)) fnExactDivisionTextCard

/-- THE SECOND FORM's CARD OF 'laws.FnExactDivisionText'. -/
def fnExactDivisionTextUptoCard : Claim7 := { stood := { row := fnExactDivisionTextUptoRow, standIns := [], harness := (true, "cbf7afa443ee87d1013ab795848014ee8f719619bf095c4a84547ef5cb9f9732"), looks := false }, kinds := [], alts := [], laidByText := true, laidKinds := [.data, .data, .data], laidTests := true, laidLooks := .later }
def FnExactDivisionTextUptoCardSaid : Prop := Claim7.holds Tryd.pinned (.plain (OpenSpec.upto fnExactDivisionTextSpec)) fnExactDivisionTextUptoCard
end Rows
end Go.Proofs.YtmlfkceafkhlaaaDoor
