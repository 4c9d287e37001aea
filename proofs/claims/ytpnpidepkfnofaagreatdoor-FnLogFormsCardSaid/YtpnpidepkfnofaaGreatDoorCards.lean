/-
  DERIVED. GIVEN WITH THE SEED: THE CARDS: each row of YtpnpidepkfnofaaGreatDoorRows.lean that lists a variable, with what it lists TIED to the program's text (the seventh form; the later family's looks); each row that meets fmt, with fmt's text TOLD by the authors' own Lean function (tested against real Go, not proved from fmt's source: count such statements apart). THE CARD IS WHAT COUNTS. Prove the row's statement (the work); the ties are given (YtpnpidepkfnofaaGreatDoorTie.lean); close each card by the builder's one call (the guide's Derived/Test/ToyasCard.lean, 'card_holds'). Laid BY PROGRAM, IN A SANDBOX (cutbox-door.mjs). By AI agents, Wed Nov 11 2026. No macro, syntax, notation, axiom, sorry.
-/
import Derived.Test.YtpnpidepkfnofaaGreatDoorRows
import GoSem.ClaimSeven
namespace Go.Proofs.YtpnpidepkfnofaaGreatDoor
namespace Rows

/-- THE TIED CARD OF 'laws.FnLogForms'. -/
def fnLogFormsCard : Claim7 := { stood := { row := fnLogFormsRow, standIns := [], harness := (true, "b03baa971739ed371b3444b28845ea127a986a9c24e5922acc68abe368a41098"), looks := true }, kinds := [], alts := [], laidByText := true, laidKinds := [.data, .data, .data, .data, .sentinel, .sentinel, .pinned], laidTests := true, laidLooks := .later }
def FnLogFormsCardSaid : Prop := Claim7.holds Tryz.pinned (.plain (OpenSpec.ofChange fnLogFormsSpec)) fnLogFormsCard

/-- THE SECOND FORM's CARD OF 'laws.FnLogForms'. -/
def fnLogFormsUptoCard : Claim7 := { stood := { row := fnLogFormsUptoRow, standIns := [], harness := (true, "b03baa971739ed371b3444b28845ea127a986a9c24e5922acc68abe368a41098"), looks := true }, kinds := [], alts := [], laidByText := true, laidKinds := [.data, .data, .data, .data, .sentinel, .sentinel, .pinned], laidTests := true, laidLooks := .later }
def FnLogFormsUptoCardSaid : Prop := Claim7.holds Tryz.pinned (.plain (OpenSpec.upto fnLogFormsSpec)) fnLogFormsUptoCard
end Rows
end Go.Proofs.YtpnpidepkfnofaaGreatDoor
