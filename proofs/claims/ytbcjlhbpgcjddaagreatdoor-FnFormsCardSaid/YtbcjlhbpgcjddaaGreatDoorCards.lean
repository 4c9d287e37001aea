/-
  DERIVED. GIVEN WITH THE SEED: THE CARDS: each row of YtbcjlhbpgcjddaaGreatDoorRows.lean that lists a variable, with what it lists TIED to the program's text (the seventh form; the later family's looks); each row that meets fmt, with fmt's text TOLD by the authors' own Lean function (tested against real Go, not proved from fmt's source: count such statements apart). THE CARD IS WHAT COUNTS. Prove the row's statement (the work); the ties are given (YtbcjlhbpgcjddaaGreatDoorTie.lean); close each card by the builder's one call (the guide's Derived/Test/ToyasCard.lean, 'card_holds'). Laid BY PROGRAM, IN A SANDBOX (cutbox-door.mjs). By AI agents, Wed Nov 11 2026. No macro, syntax, notation, axiom, sorry.
-/
import Derived.Test.YtbcjlhbpgcjddaaGreatDoorRows
import GoSem.ClaimSeven
namespace Go.Proofs.YtbcjlhbpgcjddaaGreatDoor
namespace Rows

/-- THE TIED CARD OF 'laws.FnForms'. -/
def fnFormsCard : Claim7 := { stood := { row := fnFormsRow, standIns := [], harness := (true, "f85400da7d653bdce7b1f8df8bcc0611a342b5dc51f7f43c0c5d7d5afcfd7632"), looks := true }, kinds := [], alts := [], laidByText := true, laidKinds := [.data, .data, .data], laidTests := true, laidLooks := .later }
def FnFormsCardSaid : Prop := Claim7.holds Tryz.pinned (.plain (OpenSpec.ofChange fnFormsSpec)) fnFormsCard

/-- THE TIED CARD OF 'laws.FnLogForms'. -/
def fnLogFormsCard : Claim7 := { stood := { row := fnLogFormsRow, standIns := [], harness := (true, "f85400da7d653bdce7b1f8df8bcc0611a342b5dc51f7f43c0c5d7d5afcfd7632"), looks := true }, kinds := [], alts := [], laidByText := true, laidKinds := [.data, .data, .data, .data, .sentinel, .sentinel, .pinned], laidTests := true, laidLooks := .later }
def FnLogFormsCardSaid : Prop := Claim7.holds Tryz.pinned (.plain (OpenSpec.ofChange fnLogFormsSpec)) fnLogFormsCard

/-- THE SECOND FORM's CARD OF 'laws.FnForms'. -/
def fnFormsUptoCard : Claim7 := { stood := { row := fnFormsUptoRow, standIns := [], harness := (true, "f85400da7d653bdce7b1f8df8bcc0611a342b5dc51f7f43c0c5d7d5afcfd7632"), looks := true }, kinds := [], alts := [], laidByText := true, laidKinds := [.data, .data, .data], laidTests := true, laidLooks := .later }
def FnFormsUptoCardSaid : Prop := Claim7.holds Tryz.pinned (.plain (OpenSpec.upto fnFormsSpec)) fnFormsUptoCard

/-- THE SECOND FORM's CARD OF 'laws.FnLogForms'. -/
def fnLogFormsUptoCard : Claim7 := { stood := { row := fnLogFormsUptoRow, standIns := [], harness := (true, "f85400da7d653bdce7b1f8df8bcc0611a342b5dc51f7f43c0c5d7d5afcfd7632"), looks := true }, kinds := [], alts := [], laidByText := true, laidKinds := [.data, .data, .data, .data, .sentinel, .sentinel, .pinned], laidTests := true, laidLooks := .later }
def FnLogFormsUptoCardSaid : Prop := Claim7.holds Tryz.pinned (.plain (OpenSpec.upto fnLogFormsSpec)) fnLogFormsUptoCard
end Rows
end Go.Proofs.YtbcjlhbpgcjddaaGreatDoor
