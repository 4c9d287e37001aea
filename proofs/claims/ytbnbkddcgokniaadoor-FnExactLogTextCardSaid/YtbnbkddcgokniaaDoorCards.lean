/-
  DERIVED. GIVEN WITH THE SEED: THE CARDS: each row of YtbnbkddcgokniaaDoorRows.lean that lists a variable, with what it lists TIED to the program's text (the seventh form; the later family's looks); each row that meets fmt, with fmt's text TOLD by the authors' own Lean function (tested against real Go, not proved from fmt's source: count such statements apart). THE CARD IS WHAT COUNTS. Prove the row's statement (the work); the ties are given (YtbnbkddcgokniaaDoorTie.lean); close each card by the builder's one call (the guide's Derived/Test/ToyasCard.lean, 'card_holds'). Laid BY PROGRAM, IN A SANDBOX (cutbox-door.mjs). By AI agents, Wed Nov 11 2026. No macro, syntax, notation, axiom, sorry.
-/
import Derived.Test.YtbnbkddcgokniaaDoorRows
import GoSem.ClaimSeven
namespace Go.Proofs.YtbnbkddcgokniaaDoor
namespace Rows

/-- THE TIED CARD OF 'laws.FnExactLogText'. -/
def fnExactLogTextCard : Claim7 := { stood := { row := fnExactLogTextRow, standIns := [], harness := (true, "c9678f78cb4078ac475e2c2e11689f90ad6e887f603ba4c4f05d73c9221a2a09"), looks := false }, kinds := [], alts := [], laidByText := true, laidKinds := [.data, .data, .data], laidTests := true, laidLooks := .later }
def FnExactLogTextCardSaid : Prop := Claim7.holds Tryd.pinned (.plain (OpenSpec.ofChange fnExactLogTextSpec)) fnExactLogTextCard

/-- THE TIED CARD OF 'laws.FnExactDivisionText'. -/
def fnExactDivisionTextCard : Claim7 := { stood := { row := fnExactDivisionTextRow, standIns := [], harness := (true, "c9678f78cb4078ac475e2c2e11689f90ad6e887f603ba4c4f05d73c9221a2a09"), looks := false }, kinds := [], alts := [], laidByText := true, laidKinds := [.data, .data, .data], laidTests := true, laidLooks := .later }
def FnExactDivisionTextCardSaid : Prop := Claim7.holds Tryd.pinned (.plain (OpenSpec.ofChange fnExactDivisionTextSpec)) fnExactDivisionTextCard

/-- THE SECOND FORM's CARD OF 'laws.FnExactLogText'. -/
def fnExactLogTextUptoCard : Claim7 := { stood := { row := fnExactLogTextUptoRow, standIns := [], harness := (true, "c9678f78cb4078ac475e2c2e11689f90ad6e887f603ba4c4f05d73c9221a2a09"), looks := false }, kinds := [], alts := [], laidByText := true, laidKinds := [.data, .data, .data], laidTests := true, laidLooks := .later }
def FnExactLogTextUptoCardSaid : Prop := Claim7.holds Tryd.pinned (.plain (OpenSpec.upto fnExactLogTextSpec)) fnExactLogTextUptoCard

/-- THE SECOND FORM's CARD OF 'laws.FnExactDivisionText'. -/
def fnExactDivisionTextUptoCard : Claim7 := { stood := { row := fnExactDivisionTextUptoRow, standIns := [], harness := (true, "c9678f78cb4078ac475e2c2e11689f90ad6e887f603ba4c4f05d73c9221a2a09"), looks := false }, kinds := [], alts := [], laidByText := true, laidKinds := [.data, .data, .data], laidTests := true, laidLooks := .later }
def FnExactDivisionTextUptoCardSaid : Prop := Claim7.holds Tryd.pinned (.plain (OpenSpec.upto fnExactDivisionTextSpec)) fnExactDivisionTextUptoCard
end Rows
end Go.Proofs.YtbnbkddcgokniaaDoor
