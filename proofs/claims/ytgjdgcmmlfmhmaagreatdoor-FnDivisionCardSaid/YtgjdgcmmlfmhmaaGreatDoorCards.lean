/-
  DERIVED. GIVEN WITH THE SEED: THE CARDS: each row of YtgjdgcmmlfmhmaaGreatDoorRows.lean that lists a variable, with what it lists TIED to the program's text (the seventh form; the later family's looks); each row that meets fmt, with fmt's text TOLD by the authors' own Lean function (tested against real Go, not proved from fmt's source: count such statements apart). THE CARD IS WHAT COUNTS. Prove the row's statement (the work); the ties are given (YtgjdgcmmlfmhmaaGreatDoorTie.lean); close each card by the builder's one call (the guide's Derived/Test/ToyasCard.lean, 'card_holds'). Laid BY PROGRAM, IN A SANDBOX (cutbox-door.mjs). By AI agents, Wed Nov 11 2026. No macro, syntax, notation, axiom, sorry.
-/
import Derived.Test.YtgjdgcmmlfmhmaaGreatDoorRows
import GoSem.ClaimSeven
namespace Go.Proofs.YtgjdgcmmlfmhmaaGreatDoor
namespace Rows

/-- THE TIED CARD OF 'laws.FnDivision'. -/
def fnDivisionCard : Claim7 := { stood := { row := fnDivisionRow, standIns := [], harness := (true, "59d74bd90670a113f9f5bc78f65df36b2a032a6abda0ac92b72fe33713e4f169"), looks := false }, kinds := [], alts := [], laidByText := true, laidKinds := [.data, .data, .data], laidTests := true, laidLooks := .later }
def FnDivisionCardSaid : Prop := Claim7.holds Tryz.pinned (.plain (OpenSpec.ofChange fnDivisionSpec)) fnDivisionCard

/-- THE SECOND FORM's CARD OF 'laws.FnDivision'. -/
def fnDivisionUptoCard : Claim7 := { stood := { row := fnDivisionUptoRow, standIns := [], harness := (true, "59d74bd90670a113f9f5bc78f65df36b2a032a6abda0ac92b72fe33713e4f169"), looks := false }, kinds := [], alts := [], laidByText := true, laidKinds := [.data, .data, .data], laidTests := true, laidLooks := .later }
def FnDivisionUptoCardSaid : Prop := Claim7.holds Tryz.pinned (.plain (OpenSpec.upto fnDivisionSpec)) fnDivisionUptoCard
end Rows
end Go.Proofs.YtgjdgcmmlfmhmaaGreatDoor
