/-
  DERIVED. GIVEN WITH THE SEED: THE CARDS: each row of YtahjlgbhgaeioaaDoorRows.lean that lists a variable, with what it lists TIED to the program's text (the seventh form; the later family's looks); each row that meets fmt, with fmt's text TOLD by the authors' own Lean function (tested against real Go, not proved from fmt's source: count such statements apart). THE CARD IS WHAT COUNTS. Prove the row's statement (the work); the ties are given (YtahjlgbhgaeioaaDoorTie.lean); close each card by the builder's one call (the guide's Derived/Test/ToyasCard.lean, 'card_holds'). Laid BY PROGRAM, IN A SANDBOX (cutbox-door.mjs). By AI agents, Wed Nov 11 2026. No macro, syntax, notation, axiom, sorry.
-/
import Derived.Test.YtahjlgbhgaeioaaDoorRows
import GoSem.ClaimSeven
namespace Go.Proofs.YtahjlgbhgaeioaaDoor
namespace Rows

/-- THE TIED CARD OF 'laws.FnExactCongruentText'. -/
def fnExactCongruentTextCard : Claim7 := { stood := { row := fnExactCongruentTextRow, standIns := [], harness := (true, "e44dcfaa098203b1bef85c8271619a3378ce8f6dcaaad5afca4443ba23fa7c5f"), looks := false }, kinds := [], alts := [], laidByText := true, laidKinds := [.data, .data, .data], laidTests := true, laidLooks := .later }
def FnExactCongruentTextCardSaid : Prop := Claim7.holds Tryd.pinned (.plain (OpenSpec.ofChange fnExactCongruentTextSpec)) fnExactCongruentTextCard

/-- THE SECOND FORM's CARD OF 'laws.FnExactCongruentText'. -/
def fnExactCongruentTextUptoCard : Claim7 := { stood := { row := fnExactCongruentTextUptoRow, standIns := [], harness := (true, "e44dcfaa098203b1bef85c8271619a3378ce8f6dcaaad5afca4443ba23fa7c5f"), looks := false }, kinds := [], alts := [], laidByText := true, laidKinds := [.data, .data, .data], laidTests := true, laidLooks := .later }
def FnExactCongruentTextUptoCardSaid : Prop := Claim7.holds Tryd.pinned (.plain (OpenSpec.upto fnExactCongruentTextSpec)) fnExactCongruentTextUptoCard
end Rows
end Go.Proofs.YtahjlgbhgaeioaaDoor
