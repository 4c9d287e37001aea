/-
  DERIVED. GIVEN WITH THE SEED: THE CARDS: each row of YtpnpidepkfnofaaDoorRows.lean that lists a variable, with what it lists TIED to the program's text (the seventh form; the later family's looks); each row that meets fmt, with fmt's text TOLD by the authors' own Lean function (tested against real Go, not proved from fmt's source: count such statements apart). THE CARD IS WHAT COUNTS. Prove the row's statement (the work); the ties are given (YtpnpidepkfnofaaDoorTie.lean); close each card by the builder's one call (the guide's Derived/Test/ToyasCard.lean, 'card_holds'). Laid BY PROGRAM, IN A SANDBOX (cutbox-door.mjs). By AI agents, Wed Nov 11 2026. No macro, syntax, notation, axiom, sorry.
-/
import Derived.Test.YtpnpidepkfnofaaDoorRows
import GoSem.ClaimSeven
namespace Go.Proofs.YtpnpidepkfnofaaDoor
namespace Rows

/-- THE TIED CARD OF 'laws.FnExactParseLog'. -/
def fnExactParseLogCard : Claim7 := { stood := { row := fnExactParseLogRow, standIns := [], harness := (true, "526dc02c109361a3bd33de616d44e19b44b65bf9e32c7ed341268006a95f29ff"), looks := true }, kinds := [], alts := [], laidByText := true, laidKinds := [.data, .data, .data, .data, .sentinel, .sentinel, .pinned], laidTests := true, laidLooks := .later }
def FnExactParseLogCardSaid : Prop := Claim7.holds Tryd.pinned (.plain (OpenSpec.ofChange fnExactParseLogSpec)) fnExactParseLogCard

/-- THE SECOND FORM's CARD OF 'laws.FnExactParseLog'. -/
def fnExactParseLogUptoCard : Claim7 := { stood := { row := fnExactParseLogUptoRow, standIns := [], harness := (true, "526dc02c109361a3bd33de616d44e19b44b65bf9e32c7ed341268006a95f29ff"), looks := true }, kinds := [], alts := [], laidByText := true, laidKinds := [.data, .data, .data, .data, .sentinel, .sentinel, .pinned], laidTests := true, laidLooks := .later }
def FnExactParseLogUptoCardSaid : Prop := Claim7.holds Tryd.pinned (.plain (OpenSpec.upto fnExactParseLogSpec)) fnExactParseLogUptoCard
end Rows
end Go.Proofs.YtpnpidepkfnofaaDoor
