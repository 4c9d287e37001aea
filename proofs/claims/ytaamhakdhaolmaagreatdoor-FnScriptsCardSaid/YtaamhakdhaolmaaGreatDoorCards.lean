/-
  DERIVED. GIVEN WITH THE SEED: THE CARDS: each row of YtaamhakdhaolmaaGreatDoorRows.lean that lists a variable, with what it lists TIED to the program's text (the seventh form; the later family's looks); each row that meets fmt, with fmt's text TOLD by the authors' own Lean function (tested against real Go, not proved from fmt's source: count such statements apart). THE CARD IS WHAT COUNTS. Prove the row's statement (the work); the ties are given (YtaamhakdhaolmaaGreatDoorTie.lean); close each card by the builder's one call (the guide's Derived/Test/ToyasCard.lean, 'card_holds'). Laid BY PROGRAM, IN A SANDBOX (cutbox-door.mjs). By AI agents, Wed Nov 11 2026. No macro, syntax, notation, axiom, sorry.
-/
import Derived.Test.YtaamhakdhaolmaaGreatDoorRows
import GoSem.ClaimSeven
namespace Go.Proofs.YtaamhakdhaolmaaGreatDoor
namespace Rows

/-- THE TIED CARD OF 'laws.FnExactFailedLines'. -/
def fnExactFailedLinesCard : Claim7 := { stood := { row := fnExactFailedLinesRow, standIns := [], harness := (true, "2b62926a484e41f2a742bebe3174920e06650730e767369234f99868094d2753"), looks := true }, kinds := [], alts := [], laidByText := true, laidKinds := [.data, .data, .data, .data, .sentinel, .sentinel, .pinned], laidTests := true, laidLooks := .later }
def FnExactFailedLinesCardSaid : Prop := Claim7.holds Tryz.pinned (.plain (OpenSpec.ofChange fnExactFailedLinesSpec)) fnExactFailedLinesCard

/-- THE TIED CARD OF 'laws.FnExactCatalogueAtEnd'. -/
def fnExactCatalogueAtEndCard : Claim7 := { stood := { row := fnExactCatalogueAtEndRow, standIns := [], harness := (true, "2b62926a484e41f2a742bebe3174920e06650730e767369234f99868094d2753"), looks := true }, kinds := [], alts := [], laidByText := true, laidKinds := [.data, .data, .data, .data, .sentinel, .sentinel, .pinned], laidTests := true, laidLooks := .later }
def FnExactCatalogueAtEndCardSaid : Prop := Claim7.holds Tryz.pinned (.plain (OpenSpec.ofChange fnExactCatalogueAtEndSpec)) fnExactCatalogueAtEndCard

/-- THE TIED CARD OF 'laws.FnScripts'. -/
def fnScriptsCard : Claim7 := { stood := { row := fnScriptsRow, standIns := [], harness := (true, "2b62926a484e41f2a742bebe3174920e06650730e767369234f99868094d2753"), looks := true }, kinds := [], alts := [], laidByText := true, laidKinds := [.data, .data, .data, .data, .sentinel, .sentinel, .pinned], laidTests := true, laidLooks := .later }
def FnScriptsCardSaid : Prop := Claim7.holds Tryz.pinned (.plain (OpenSpec.ofChange fnScriptsSpec)) fnScriptsCard

/-- THE TIED CARD OF 'laws.FnExactRunLines'. -/
def fnExactRunLinesCard : Claim7 := { stood := { row := fnExactRunLinesRow, standIns := [], harness := (true, "2b62926a484e41f2a742bebe3174920e06650730e767369234f99868094d2753"), looks := true }, kinds := [], alts := [], laidByText := true, laidKinds := [.data, .data, .data, .data, .sentinel, .sentinel, .pinned], laidTests := true, laidLooks := .later }
def FnExactRunLinesCardSaid : Prop := Claim7.holds Tryz.pinned (.plain (OpenSpec.ofChange fnExactRunLinesSpec)) fnExactRunLinesCard

/-- THE TIED CARD OF 'laws.FnExactCountReplies'. -/
def fnExactCountRepliesCard : Claim7 := { stood := { row := fnExactCountRepliesRow, standIns := [], harness := (true, "2b62926a484e41f2a742bebe3174920e06650730e767369234f99868094d2753"), looks := true }, kinds := [], alts := [], laidByText := true, laidKinds := [.data, .data, .data, .data, .sentinel, .sentinel, .pinned], laidTests := true, laidLooks := .later }
def FnExactCountRepliesCardSaid : Prop := Claim7.holds Tryz.pinned (.plain (OpenSpec.ofChange fnExactCountRepliesSpec)) fnExactCountRepliesCard

/-- THE TIED CARD OF 'laws.FnExactCurveAtEnd'. -/
def fnExactCurveAtEndCard : Claim7 := { stood := { row := fnExactCurveAtEndRow, standIns := [], harness := (true, "2b62926a484e41f2a742bebe3174920e06650730e767369234f99868094d2753"), looks := true }, kinds := [], alts := [], laidByText := true, laidKinds := [.data, .data, .data, .data, .sentinel, .sentinel, .pinned], laidTests := true, laidLooks := .later }
def FnExactCurveAtEndCardSaid : Prop := Claim7.holds Tryz.pinned (.plain (OpenSpec.ofChange fnExactCurveAtEndSpec)) fnExactCurveAtEndCard

/-- THE TIED CARD OF 'laws.FnExactPointAtEnd'. -/
def fnExactPointAtEndCard : Claim7 := { stood := { row := fnExactPointAtEndRow, standIns := [], harness := (true, "2b62926a484e41f2a742bebe3174920e06650730e767369234f99868094d2753"), looks := true }, kinds := [], alts := [], laidByText := true, laidKinds := [.data, .data, .data, .data, .sentinel, .sentinel, .pinned], laidTests := true, laidLooks := .later }
def FnExactPointAtEndCardSaid : Prop := Claim7.holds Tryz.pinned (.plain (OpenSpec.ofChange fnExactPointAtEndSpec)) fnExactPointAtEndCard

/-- THE SECOND FORM's CARD OF 'laws.FnExactFailedLines'. -/
def fnExactFailedLinesUptoCard : Claim7 := { stood := { row := fnExactFailedLinesUptoRow, standIns := [], harness := (true, "2b62926a484e41f2a742bebe3174920e06650730e767369234f99868094d2753"), looks := true }, kinds := [], alts := [], laidByText := true, laidKinds := [.data, .data, .data, .data, .sentinel, .sentinel, .pinned], laidTests := true, laidLooks := .later }
def FnExactFailedLinesUptoCardSaid : Prop := Claim7.holds Tryz.pinned (.plain (OpenSpec.upto fnExactFailedLinesSpec)) fnExactFailedLinesUptoCard

/-- THE SECOND FORM's CARD OF 'laws.FnExactCatalogueAtEnd'. -/
def fnExactCatalogueAtEndUptoCard : Claim7 := { stood := { row := fnExactCatalogueAtEndUptoRow, standIns := [], harness := (true, "2b62926a484e41f2a742bebe3174920e06650730e767369234f99868094d2753"), looks := true }, kinds := [], alts := [], laidByText := true, laidKinds := [.data, .data, .data, .data, .sentinel, .sentinel, .pinned], laidTests := true, laidLooks := .later }
def FnExactCatalogueAtEndUptoCardSaid : Prop := Claim7.holds Tryz.pinned (.plain (OpenSpec.upto fnExactCatalogueAtEndSpec)) fnExactCatalogueAtEndUptoCard

/-- THE SECOND FORM's CARD OF 'laws.FnScripts'. -/
def fnScriptsUptoCard : Claim7 := { stood := { row := fnScriptsUptoRow, standIns := [], harness := (true, "2b62926a484e41f2a742bebe3174920e06650730e767369234f99868094d2753"), looks := true }, kinds := [], alts := [], laidByText := true, laidKinds := [.data, .data, .data, .data, .sentinel, .sentinel, .pinned], laidTests := true, laidLooks := .later }
def FnScriptsUptoCardSaid : Prop := Claim7.holds Tryz.pinned (.plain (OpenSpec.upto fnScriptsSpec)) fnScriptsUptoCard

/-- THE SECOND FORM's CARD OF 'laws.FnExactRunLines'. -/
def fnExactRunLinesUptoCard : Claim7 := { stood := { row := fnExactRunLinesUptoRow, standIns := [], harness := (true, "2b62926a484e41f2a742bebe3174920e06650730e767369234f99868094d2753"), looks := true }, kinds := [], alts := [], laidByText := true, laidKinds := [.data, .data, .data, .data, .sentinel, .sentinel, .pinned], laidTests := true, laidLooks := .later }
def FnExactRunLinesUptoCardSaid : Prop := Claim7.holds Tryz.pinned (.plain (OpenSpec.upto fnExactRunLinesSpec)) fnExactRunLinesUptoCard

/-- THE SECOND FORM's CARD OF 'laws.FnExactCountReplies'. -/
def fnExactCountRepliesUptoCard : Claim7 := { stood := { row := fnExactCountRepliesUptoRow, standIns := [], harness := (true, "2b62926a484e41f2a742bebe3174920e06650730e767369234f99868094d2753"), looks := true }, kinds := [], alts := [], laidByText := true, laidKinds := [.data, .data, .data, .data, .sentinel, .sentinel, .pinned], laidTests := true, laidLooks := .later }
def FnExactCountRepliesUptoCardSaid : Prop := Claim7.holds Tryz.pinned (.plain (OpenSpec.upto fnExactCountRepliesSpec)) fnExactCountRepliesUptoCard

/-- THE SECOND FORM's CARD OF 'laws.FnExactCurveAtEnd'. -/
def fnExactCurveAtEndUptoCard : Claim7 := { stood := { row := fnExactCurveAtEndUptoRow, standIns := [], harness := (true, "2b62926a484e41f2a742bebe3174920e06650730e767369234f99868094d2753"), looks := true }, kinds := [], alts := [], laidByText := true, laidKinds := [.data, .data, .data, .data, .sentinel, .sentinel, .pinned], laidTests := true, laidLooks := .later }
def FnExactCurveAtEndUptoCardSaid : Prop := Claim7.holds Tryz.pinned (.plain (OpenSpec.upto fnExactCurveAtEndSpec)) fnExactCurveAtEndUptoCard

/-- THE SECOND FORM's CARD OF 'laws.FnExactPointAtEnd'. -/
def fnExactPointAtEndUptoCard : Claim7 := { stood := { row := fnExactPointAtEndUptoRow, standIns := [], harness := (true, "2b62926a484e41f2a742bebe3174920e06650730e767369234f99868094d2753"), looks := true }, kinds := [], alts := [], laidByText := true, laidKinds := [.data, .data, .data, .data, .sentinel, .sentinel, .pinned], laidTests := true, laidLooks := .later }
def FnExactPointAtEndUptoCardSaid : Prop := Claim7.holds Tryz.pinned (.plain (OpenSpec.upto fnExactPointAtEndSpec)) fnExactPointAtEndUptoCard
end Rows
end Go.Proofs.YtaamhakdhaolmaaGreatDoor
