/-
  No cell of these rows narrows 'for every input' (looked for: loops, veiled, ifaces, maps, wideKeys, modest, calm, conditions, laid).
  DERIVED. THE GIVEN ROWS OF THIS SEAT. 13 by the template 'for every input the law returns true; each argument reads behind the call as it read before'; 0 by the template 'total and deterministic' (their statements: YtohmanbokidckaaTotals.lean).
  GIVEN WITH THE SEED: the statements are not yours to turn. If you find one false, say at which input.
  Laid BY PROGRAM, IN A SANDBOX (cutbox-rows.mjs): the forced cells as the released guide's own fill.sh prints them over the translation 1df0033c1cb126c5… (all of the seat's roots in one cut). By AI agents, Wed Nov 11 2026. No macro, syntax, notation, axiom, sorry.
-/
import Derived.Test.YtohmanbokidckaaChecked
import GoSem.Claim
import GoSem.ClaimJoined
import GoSem.ClaimMapViews
import Derived.JoinedTies
import Derived.KernelRfl
namespace Go.Proofs.Ytohmanbokidckaa
/- THE CELL 'sum', in the pinned program and in every row, IS THE sha256 OF THE DUMP (.gsa) THAT YtohmanbokidckaaProg.lean LOADS. Nothing in Lean hashes anything: it is a label: what it is worth is what the hold of that sum in a sandbox is worth. -/
noncomputable def Try.pinned : Pinned := { name := "ytohmanbokidckaa", sum := "1df0033c1cb126c55bbd4ee88b0a80de6a3fd15d839793221cd062fc73b4811f", checked := Try.checked }
namespace Rows
def none {H : Type} : Left H := { results := [], args := [] }

/-- 'laws.FnExactFirstCurveWith': WHATEVER THE INPUT: true; the input reads as it did. -/
def fnExactFirstCurveWithSpec : ChangeSpec := { name := "fnExactFirstCurveWith", fn := fun _ => fun
  | [d1, d2] => { results := [.lit (.bool true)], args := [d1, d2] }
  | _ => none }
def fnExactFirstCurveWithRow : OpenClaim := { program := "ytohmanbokidckaa", sum := "1df0033c1cb126c55bbd4ee88b0a80de6a3fd15d839793221cd062fc73b4811f", func := "loop.example/g01004/laws.FnExactFirstCurveWith", spec := "fnExactFirstCurveWith", apart := false }
def FnExactFirstCurveWithSaid : Prop := fnExactFirstCurveWithRow.holds Try.pinned (OpenSpec.ofChange fnExactFirstCurveWithSpec)

/-- ITS FALSE NEIGHBOUR: 'it returns false'. Refute it at one input. -/
def fnExactFirstCurveWithWrong : ChangeSpec := { name := "fnExactFirstCurveWith", fn := fun _ => fun
  | [d1, d2] => { results := [.lit (.bool false)], args := [d1, d2] }
  | _ => none }
def FnExactFirstCurveWithWrongFalsely : Prop := fnExactFirstCurveWithRow.holds Try.pinned (OpenSpec.ofChange fnExactFirstCurveWithWrong)

/-- 'laws.FnExactOrderAtX': WHATEVER THE INPUT: true; the input reads as it did. -/
def fnExactOrderAtXSpec : ChangeSpec := { name := "fnExactOrderAtX", fn := fun _ => fun
  | [d1, d2, d3] => { results := [.lit (.bool true)], args := [d1, d2, d3] }
  | _ => none }
def fnExactOrderAtXRow : OpenClaim := { program := "ytohmanbokidckaa", sum := "1df0033c1cb126c55bbd4ee88b0a80de6a3fd15d839793221cd062fc73b4811f", func := "loop.example/g01004/laws.FnExactOrderAtX", spec := "fnExactOrderAtX", unfollowed := true, recurses := true, apart := false }
def FnExactOrderAtXSaid : Prop := fnExactOrderAtXRow.holds Try.pinned (OpenSpec.ofChange fnExactOrderAtXSpec)

/-- ITS FALSE NEIGHBOUR: 'it returns false'. Refute it at one input. -/
def fnExactOrderAtXWrong : ChangeSpec := { name := "fnExactOrderAtX", fn := fun _ => fun
  | [d1, d2, d3] => { results := [.lit (.bool false)], args := [d1, d2, d3] }
  | _ => none }
def FnExactOrderAtXWrongFalsely : Prop := fnExactOrderAtXRow.holds Try.pinned (OpenSpec.ofChange fnExactOrderAtXWrong)

/-- 'laws.FnExactDivisionRow': WHATEVER THE INPUT: true; the input reads as it did. -/
def fnExactDivisionRowSpec : ChangeSpec := { name := "fnExactDivisionRow", fn := fun _ => fun
  | [d1, d2, d3, d4] => { results := [.lit (.bool true)], args := [d1, d2, d3, d4] }
  | _ => none }
def fnExactDivisionRowRow : OpenClaim := { program := "ytohmanbokidckaa", sum := "1df0033c1cb126c55bbd4ee88b0a80de6a3fd15d839793221cd062fc73b4811f", func := "loop.example/g01004/laws.FnExactDivisionRow", spec := "fnExactDivisionRow", unfollowed := true, recurses := true, apart := false }
def FnExactDivisionRowSaid : Prop := fnExactDivisionRowRow.holds Try.pinned (OpenSpec.ofChange fnExactDivisionRowSpec)

/-- ITS FALSE NEIGHBOUR: 'it returns false'. Refute it at one input. -/
def fnExactDivisionRowWrong : ChangeSpec := { name := "fnExactDivisionRow", fn := fun _ => fun
  | [d1, d2, d3, d4] => { results := [.lit (.bool false)], args := [d1, d2, d3, d4] }
  | _ => none }
def FnExactDivisionRowWrongFalsely : Prop := fnExactDivisionRowRow.holds Try.pinned (OpenSpec.ofChange fnExactDivisionRowWrong)

/-- 'laws.FnExactRootsOfDivision': WHATEVER THE INPUT: true; the input reads as it did. -/
def fnExactRootsOfDivisionSpec : ChangeSpec := { name := "fnExactRootsOfDivision", fn := fun _ => fun
  | [d1, d2, d3] => { results := [.lit (.bool true)], args := [d1, d2, d3] }
  | _ => none }
def fnExactRootsOfDivisionRow : OpenClaim := { program := "ytohmanbokidckaa", sum := "1df0033c1cb126c55bbd4ee88b0a80de6a3fd15d839793221cd062fc73b4811f", func := "loop.example/g01004/laws.FnExactRootsOfDivision", spec := "fnExactRootsOfDivision", unfollowed := true, recurses := true, apart := false }
def FnExactRootsOfDivisionSaid : Prop := fnExactRootsOfDivisionRow.holds Try.pinned (OpenSpec.ofChange fnExactRootsOfDivisionSpec)

/-- ITS FALSE NEIGHBOUR: 'it returns false'. Refute it at one input. -/
def fnExactRootsOfDivisionWrong : ChangeSpec := { name := "fnExactRootsOfDivision", fn := fun _ => fun
  | [d1, d2, d3] => { results := [.lit (.bool false)], args := [d1, d2, d3] }
  | _ => none }
def FnExactRootsOfDivisionWrongFalsely : Prop := fnExactRootsOfDivisionRow.holds Try.pinned (OpenSpec.ofChange fnExactRootsOfDivisionWrong)

/-- 'laws.FnExactCurvesWithInvariant': WHATEVER THE INPUT: true; the input reads as it did. -/
def fnExactCurvesWithInvariantSpec : ChangeSpec := { name := "fnExactCurvesWithInvariant", fn := fun _ => fun
  | [d1, d2] => { results := [.lit (.bool true)], args := [d1, d2] }
  | _ => none }
def fnExactCurvesWithInvariantRow : OpenClaim := { program := "ytohmanbokidckaa", sum := "1df0033c1cb126c55bbd4ee88b0a80de6a3fd15d839793221cd062fc73b4811f", func := "loop.example/g01004/laws.FnExactCurvesWithInvariant", spec := "fnExactCurvesWithInvariant", unfollowed := true, recurses := true, apart := false }
def FnExactCurvesWithInvariantSaid : Prop := fnExactCurvesWithInvariantRow.holds Try.pinned (OpenSpec.ofChange fnExactCurvesWithInvariantSpec)

/-- ITS FALSE NEIGHBOUR: 'it returns false'. Refute it at one input. -/
def fnExactCurvesWithInvariantWrong : ChangeSpec := { name := "fnExactCurvesWithInvariant", fn := fun _ => fun
  | [d1, d2] => { results := [.lit (.bool false)], args := [d1, d2] }
  | _ => none }
def FnExactCurvesWithInvariantWrongFalsely : Prop := fnExactCurvesWithInvariantRow.holds Try.pinned (OpenSpec.ofChange fnExactCurvesWithInvariantWrong)

/-- 'laws.FnExactMultipleX': WHATEVER THE INPUT: true; the input reads as it did. -/
def fnExactMultipleXSpec : ChangeSpec := { name := "fnExactMultipleX", fn := fun _ => fun
  | [d1, d2, d3, d4] => { results := [.lit (.bool true)], args := [d1, d2, d3, d4] }
  | _ => none }
def fnExactMultipleXRow : OpenClaim := { program := "ytohmanbokidckaa", sum := "1df0033c1cb126c55bbd4ee88b0a80de6a3fd15d839793221cd062fc73b4811f", func := "loop.example/g01004/laws.FnExactMultipleX", spec := "fnExactMultipleX", unfollowed := true, recurses := true, apart := false }
def FnExactMultipleXSaid : Prop := fnExactMultipleXRow.holds Try.pinned (OpenSpec.ofChange fnExactMultipleXSpec)

/-- ITS FALSE NEIGHBOUR: 'it returns false'. Refute it at one input. -/
def fnExactMultipleXWrong : ChangeSpec := { name := "fnExactMultipleX", fn := fun _ => fun
  | [d1, d2, d3, d4] => { results := [.lit (.bool false)], args := [d1, d2, d3, d4] }
  | _ => none }
def FnExactMultipleXWrongFalsely : Prop := fnExactMultipleXRow.holds Try.pinned (OpenSpec.ofChange fnExactMultipleXWrong)

/-- 'laws.FnExactTraceTable': WHATEVER THE INPUT: true; the input reads as it did. -/
def fnExactTraceTableSpec : ChangeSpec := { name := "fnExactTraceTable", fn := fun _ => fun
  | [d] => { results := [.lit (.bool true)], args := [d] }
  | _ => none }
def fnExactTraceTableRow : OpenClaim := { program := "ytohmanbokidckaa", sum := "1df0033c1cb126c55bbd4ee88b0a80de6a3fd15d839793221cd062fc73b4811f", func := "loop.example/g01004/laws.FnExactTraceTable", spec := "fnExactTraceTable", apart := false }
def FnExactTraceTableSaid : Prop := fnExactTraceTableRow.holds Try.pinned (OpenSpec.ofChange fnExactTraceTableSpec)

/-- ITS FALSE NEIGHBOUR: 'it returns false'. Refute it at one input. -/
def fnExactTraceTableWrong : ChangeSpec := { name := "fnExactTraceTable", fn := fun _ => fun
  | [d] => { results := [.lit (.bool false)], args := [d] }
  | _ => none }
def FnExactTraceTableWrongFalsely : Prop := fnExactTraceTableRow.holds Try.pinned (OpenSpec.ofChange fnExactTraceTableWrong)

/-- 'laws.FnExactCurvesWithTrace': WHATEVER THE INPUT: true; the input reads as it did. -/
def fnExactCurvesWithTraceSpec : ChangeSpec := { name := "fnExactCurvesWithTrace", fn := fun _ => fun
  | [d1, d2] => { results := [.lit (.bool true)], args := [d1, d2] }
  | _ => none }
def fnExactCurvesWithTraceRow : OpenClaim := { program := "ytohmanbokidckaa", sum := "1df0033c1cb126c55bbd4ee88b0a80de6a3fd15d839793221cd062fc73b4811f", func := "loop.example/g01004/laws.FnExactCurvesWithTrace", spec := "fnExactCurvesWithTrace", unfollowed := true, recurses := true, apart := false }
def FnExactCurvesWithTraceSaid : Prop := fnExactCurvesWithTraceRow.holds Try.pinned (OpenSpec.ofChange fnExactCurvesWithTraceSpec)

/-- ITS FALSE NEIGHBOUR: 'it returns false'. Refute it at one input. -/
def fnExactCurvesWithTraceWrong : ChangeSpec := { name := "fnExactCurvesWithTrace", fn := fun _ => fun
  | [d1, d2] => { results := [.lit (.bool false)], args := [d1, d2] }
  | _ => none }
def FnExactCurvesWithTraceWrongFalsely : Prop := fnExactCurvesWithTraceRow.holds Try.pinned (OpenSpec.ofChange fnExactCurvesWithTraceWrong)

/-- 'laws.FnExactSupersingularCurves': WHATEVER THE INPUT: true; the input reads as it did. -/
def fnExactSupersingularCurvesSpec : ChangeSpec := { name := "fnExactSupersingularCurves", fn := fun _ => fun
  | [d] => { results := [.lit (.bool true)], args := [d] }
  | _ => none }
def fnExactSupersingularCurvesRow : OpenClaim := { program := "ytohmanbokidckaa", sum := "1df0033c1cb126c55bbd4ee88b0a80de6a3fd15d839793221cd062fc73b4811f", func := "loop.example/g01004/laws.FnExactSupersingularCurves", spec := "fnExactSupersingularCurves", unfollowed := true, recurses := true, apart := false }
def FnExactSupersingularCurvesSaid : Prop := fnExactSupersingularCurvesRow.holds Try.pinned (OpenSpec.ofChange fnExactSupersingularCurvesSpec)

/-- ITS FALSE NEIGHBOUR: 'it returns false'. Refute it at one input. -/
def fnExactSupersingularCurvesWrong : ChangeSpec := { name := "fnExactSupersingularCurves", fn := fun _ => fun
  | [d] => { results := [.lit (.bool false)], args := [d] }
  | _ => none }
def FnExactSupersingularCurvesWrongFalsely : Prop := fnExactSupersingularCurvesRow.holds Try.pinned (OpenSpec.ofChange fnExactSupersingularCurvesWrong)

/-- 'laws.FnTables': WHATEVER THE INPUT: true; the input reads as it did. -/
def fnTablesSpec : ChangeSpec := { name := "fnTables", fn := fun _ => fun
  | [d1, d2] => { results := [.lit (.bool true)], args := [d1, d2] }
  | _ => none }
def fnTablesRow : OpenClaim := { program := "ytohmanbokidckaa", sum := "1df0033c1cb126c55bbd4ee88b0a80de6a3fd15d839793221cd062fc73b4811f", func := "loop.example/g01004/laws.FnTables", spec := "fnTables", unfollowed := true, recurses := true, apart := false }
def FnTablesSaid : Prop := fnTablesRow.holds Try.pinned (OpenSpec.ofChange fnTablesSpec)

/-- ITS FALSE NEIGHBOUR: 'it returns false'. Refute it at one input. -/
def fnTablesWrong : ChangeSpec := { name := "fnTables", fn := fun _ => fun
  | [d1, d2] => { results := [.lit (.bool false)], args := [d1, d2] }
  | _ => none }
def FnTablesWrongFalsely : Prop := fnTablesRow.holds Try.pinned (OpenSpec.ofChange fnTablesWrong)

/-- 'laws.FnDivisionRoots': WHATEVER THE INPUT: true; the input reads as it did. -/
def fnDivisionRootsSpec : ChangeSpec := { name := "fnDivisionRoots", fn := fun _ => fun
  | [d1, d2] => { results := [.lit (.bool true)], args := [d1, d2] }
  | _ => none }
def fnDivisionRootsRow : OpenClaim := { program := "ytohmanbokidckaa", sum := "1df0033c1cb126c55bbd4ee88b0a80de6a3fd15d839793221cd062fc73b4811f", func := "loop.example/g01004/laws.FnDivisionRoots", spec := "fnDivisionRoots", unfollowed := true, recurses := true, apart := false }
def FnDivisionRootsSaid : Prop := fnDivisionRootsRow.holds Try.pinned (OpenSpec.ofChange fnDivisionRootsSpec)

/-- ITS FALSE NEIGHBOUR: 'it returns false'. Refute it at one input. -/
def fnDivisionRootsWrong : ChangeSpec := { name := "fnDivisionRoots", fn := fun _ => fun
  | [d1, d2] => { results := [.lit (.bool false)], args := [d1, d2] }
  | _ => none }
def FnDivisionRootsWrongFalsely : Prop := fnDivisionRootsRow.holds Try.pinned (OpenSpec.ofChange fnDivisionRootsWrong)

/-- 'laws.FnExactClassCount': WHATEVER THE INPUT: true; the input reads as it did. -/
def fnExactClassCountSpec : ChangeSpec := { name := "fnExactClassCount", fn := fun _ => fun
  | [d] => { results := [.lit (.bool true)], args := [d] }
  | _ => none }
def fnExactClassCountRow : OpenClaim := { program := "ytohmanbokidckaa", sum := "1df0033c1cb126c55bbd4ee88b0a80de6a3fd15d839793221cd062fc73b4811f", func := "loop.example/g01004/laws.FnExactClassCount", spec := "fnExactClassCount", unfollowed := true, recurses := true, apart := false }
def FnExactClassCountSaid : Prop := fnExactClassCountRow.holds Try.pinned (OpenSpec.ofChange fnExactClassCountSpec)

/-- ITS FALSE NEIGHBOUR: 'it returns false'. Refute it at one input. -/
def fnExactClassCountWrong : ChangeSpec := { name := "fnExactClassCount", fn := fun _ => fun
  | [d] => { results := [.lit (.bool false)], args := [d] }
  | _ => none }
def FnExactClassCountWrongFalsely : Prop := fnExactClassCountRow.holds Try.pinned (OpenSpec.ofChange fnExactClassCountWrong)

/-- 'laws.FnExactClassOfCurve': WHATEVER THE INPUT: true; the input reads as it did. -/
def fnExactClassOfCurveSpec : ChangeSpec := { name := "fnExactClassOfCurve", fn := fun _ => fun
  | [d1, d2] => { results := [.lit (.bool true)], args := [d1, d2] }
  | _ => none }
def fnExactClassOfCurveRow : OpenClaim := { program := "ytohmanbokidckaa", sum := "1df0033c1cb126c55bbd4ee88b0a80de6a3fd15d839793221cd062fc73b4811f", func := "loop.example/g01004/laws.FnExactClassOfCurve", spec := "fnExactClassOfCurve", unfollowed := true, recurses := true, apart := false }
def FnExactClassOfCurveSaid : Prop := fnExactClassOfCurveRow.holds Try.pinned (OpenSpec.ofChange fnExactClassOfCurveSpec)

/-- ITS FALSE NEIGHBOUR: 'it returns false'. Refute it at one input. -/
def fnExactClassOfCurveWrong : ChangeSpec := { name := "fnExactClassOfCurve", fn := fun _ => fun
  | [d1, d2] => { results := [.lit (.bool false)], args := [d1, d2] }
  | _ => none }
def FnExactClassOfCurveWrongFalsely : Prop := fnExactClassOfCurveRow.holds Try.pinned (OpenSpec.ofChange fnExactClassOfCurveWrong)

/- THE SECOND FORM. 'bulk': how many values and letters a reading holds, each counted each time it is reached (what is shared counts as often as it is met; a slice's spare places count too). A statement '..UptoSaid' is the law's where the arguments, and the package variables that the reading takes, are together of bulk at most 1048576: NARROWER than '..Said'. Prove '..Said' where nothing that the law and all that it calls make is longer than what came in: it says more and counts as full. Else prove '..UptoSaid'. A law counts once. -/
mutual
def uptoBulk {H : Type} : DataW H → Nat
  | .lit (.string bytes) => bytes.length + 1
  | .lit _ => 1
  | .nil => 1
  | .ptr d => uptoBulk d + 1
  | .slice elems spare => uptoBulkAll elems + uptoBulkAll spare + 1
  | .agg parts => uptoBulkAll parts + 1
  | .iface _ d => uptoBulk d + 1
  | .map entries => uptoBulkEntries entries + 1
  | .held _ => 1
def uptoBulkAll {H : Type} : List (DataW H) → Nat
  | [] => 0
  | d :: r => uptoBulk d + uptoBulkAll r
def uptoBulkEntries {H : Type} : List (Lit × DataW H) → Nat
  | [] => 0
  | x :: r => uptoBulkEntry x + uptoBulkEntries r
def uptoBulkEntry {H : Type} : Lit × DataW H → Nat
  | (.string bytes, d) => bytes.length + uptoBulk d + 1
  | (_, d) => uptoBulk d + 1
 end
def uptoSmall : (H : Type) → List (DataW H) → Bool := fun _ ds => decide (uptoBulkAll ds ≤ 1048576)
def OpenSpec.upto (s : _root_.Go.ChangeSpec) : _root_.Go.OpenSpec := { _root_.Go.OpenSpec.ofChange s with cond := some uptoSmall }

/-- 'laws.FnExactFirstCurveWith', WHERE WHAT IT READS IS OF BULK AT MOST 1048576: true; the input reads as it did. -/
def fnExactFirstCurveWithUptoRow : OpenClaim := { program := "ytohmanbokidckaa", sum := "1df0033c1cb126c55bbd4ee88b0a80de6a3fd15d839793221cd062fc73b4811f", func := "loop.example/g01004/laws.FnExactFirstCurveWith", spec := "fnExactFirstCurveWith", apart := false, narrowed := true }
def FnExactFirstCurveWithUptoSaid : Prop := fnExactFirstCurveWithUptoRow.holds Try.pinned (OpenSpec.upto fnExactFirstCurveWithSpec)

/-- 'laws.FnExactOrderAtX', WHERE WHAT IT READS IS OF BULK AT MOST 1048576: true; the input reads as it did. -/
def fnExactOrderAtXUptoRow : OpenClaim := { program := "ytohmanbokidckaa", sum := "1df0033c1cb126c55bbd4ee88b0a80de6a3fd15d839793221cd062fc73b4811f", func := "loop.example/g01004/laws.FnExactOrderAtX", spec := "fnExactOrderAtX", unfollowed := true, recurses := true, apart := false, narrowed := true }
def FnExactOrderAtXUptoSaid : Prop := fnExactOrderAtXUptoRow.holds Try.pinned (OpenSpec.upto fnExactOrderAtXSpec)

/-- 'laws.FnExactDivisionRow', WHERE WHAT IT READS IS OF BULK AT MOST 1048576: true; the input reads as it did. -/
def fnExactDivisionRowUptoRow : OpenClaim := { program := "ytohmanbokidckaa", sum := "1df0033c1cb126c55bbd4ee88b0a80de6a3fd15d839793221cd062fc73b4811f", func := "loop.example/g01004/laws.FnExactDivisionRow", spec := "fnExactDivisionRow", unfollowed := true, recurses := true, apart := false, narrowed := true }
def FnExactDivisionRowUptoSaid : Prop := fnExactDivisionRowUptoRow.holds Try.pinned (OpenSpec.upto fnExactDivisionRowSpec)

/-- 'laws.FnExactRootsOfDivision', WHERE WHAT IT READS IS OF BULK AT MOST 1048576: true; the input reads as it did. -/
def fnExactRootsOfDivisionUptoRow : OpenClaim := { program := "ytohmanbokidckaa", sum := "1df0033c1cb126c55bbd4ee88b0a80de6a3fd15d839793221cd062fc73b4811f", func := "loop.example/g01004/laws.FnExactRootsOfDivision", spec := "fnExactRootsOfDivision", unfollowed := true, recurses := true, apart := false, narrowed := true }
def FnExactRootsOfDivisionUptoSaid : Prop := fnExactRootsOfDivisionUptoRow.holds Try.pinned (OpenSpec.upto fnExactRootsOfDivisionSpec)

/-- 'laws.FnExactCurvesWithInvariant', WHERE WHAT IT READS IS OF BULK AT MOST 1048576: true; the input reads as it did. -/
def fnExactCurvesWithInvariantUptoRow : OpenClaim := { program := "ytohmanbokidckaa", sum := "1df0033c1cb126c55bbd4ee88b0a80de6a3fd15d839793221cd062fc73b4811f", func := "loop.example/g01004/laws.FnExactCurvesWithInvariant", spec := "fnExactCurvesWithInvariant", unfollowed := true, recurses := true, apart := false, narrowed := true }
def FnExactCurvesWithInvariantUptoSaid : Prop := fnExactCurvesWithInvariantUptoRow.holds Try.pinned (OpenSpec.upto fnExactCurvesWithInvariantSpec)

/-- 'laws.FnExactMultipleX', WHERE WHAT IT READS IS OF BULK AT MOST 1048576: true; the input reads as it did. -/
def fnExactMultipleXUptoRow : OpenClaim := { program := "ytohmanbokidckaa", sum := "1df0033c1cb126c55bbd4ee88b0a80de6a3fd15d839793221cd062fc73b4811f", func := "loop.example/g01004/laws.FnExactMultipleX", spec := "fnExactMultipleX", unfollowed := true, recurses := true, apart := false, narrowed := true }
def FnExactMultipleXUptoSaid : Prop := fnExactMultipleXUptoRow.holds Try.pinned (OpenSpec.upto fnExactMultipleXSpec)

/-- 'laws.FnExactTraceTable', WHERE WHAT IT READS IS OF BULK AT MOST 1048576: true; the input reads as it did. -/
def fnExactTraceTableUptoRow : OpenClaim := { program := "ytohmanbokidckaa", sum := "1df0033c1cb126c55bbd4ee88b0a80de6a3fd15d839793221cd062fc73b4811f", func := "loop.example/g01004/laws.FnExactTraceTable", spec := "fnExactTraceTable", apart := false, narrowed := true }
def FnExactTraceTableUptoSaid : Prop := fnExactTraceTableUptoRow.holds Try.pinned (OpenSpec.upto fnExactTraceTableSpec)

/-- 'laws.FnExactCurvesWithTrace', WHERE WHAT IT READS IS OF BULK AT MOST 1048576: true; the input reads as it did. -/
def fnExactCurvesWithTraceUptoRow : OpenClaim := { program := "ytohmanbokidckaa", sum := "1df0033c1cb126c55bbd4ee88b0a80de6a3fd15d839793221cd062fc73b4811f", func := "loop.example/g01004/laws.FnExactCurvesWithTrace", spec := "fnExactCurvesWithTrace", unfollowed := true, recurses := true, apart := false, narrowed := true }
def FnExactCurvesWithTraceUptoSaid : Prop := fnExactCurvesWithTraceUptoRow.holds Try.pinned (OpenSpec.upto fnExactCurvesWithTraceSpec)

/-- 'laws.FnExactSupersingularCurves', WHERE WHAT IT READS IS OF BULK AT MOST 1048576: true; the input reads as it did. -/
def fnExactSupersingularCurvesUptoRow : OpenClaim := { program := "ytohmanbokidckaa", sum := "1df0033c1cb126c55bbd4ee88b0a80de6a3fd15d839793221cd062fc73b4811f", func := "loop.example/g01004/laws.FnExactSupersingularCurves", spec := "fnExactSupersingularCurves", unfollowed := true, recurses := true, apart := false, narrowed := true }
def FnExactSupersingularCurvesUptoSaid : Prop := fnExactSupersingularCurvesUptoRow.holds Try.pinned (OpenSpec.upto fnExactSupersingularCurvesSpec)

/-- 'laws.FnTables', WHERE WHAT IT READS IS OF BULK AT MOST 1048576: true; the input reads as it did. -/
def fnTablesUptoRow : OpenClaim := { program := "ytohmanbokidckaa", sum := "1df0033c1cb126c55bbd4ee88b0a80de6a3fd15d839793221cd062fc73b4811f", func := "loop.example/g01004/laws.FnTables", spec := "fnTables", unfollowed := true, recurses := true, apart := false, narrowed := true }
def FnTablesUptoSaid : Prop := fnTablesUptoRow.holds Try.pinned (OpenSpec.upto fnTablesSpec)

/-- 'laws.FnDivisionRoots', WHERE WHAT IT READS IS OF BULK AT MOST 1048576: true; the input reads as it did. -/
def fnDivisionRootsUptoRow : OpenClaim := { program := "ytohmanbokidckaa", sum := "1df0033c1cb126c55bbd4ee88b0a80de6a3fd15d839793221cd062fc73b4811f", func := "loop.example/g01004/laws.FnDivisionRoots", spec := "fnDivisionRoots", unfollowed := true, recurses := true, apart := false, narrowed := true }
def FnDivisionRootsUptoSaid : Prop := fnDivisionRootsUptoRow.holds Try.pinned (OpenSpec.upto fnDivisionRootsSpec)

/-- 'laws.FnExactClassCount', WHERE WHAT IT READS IS OF BULK AT MOST 1048576: true; the input reads as it did. -/
def fnExactClassCountUptoRow : OpenClaim := { program := "ytohmanbokidckaa", sum := "1df0033c1cb126c55bbd4ee88b0a80de6a3fd15d839793221cd062fc73b4811f", func := "loop.example/g01004/laws.FnExactClassCount", spec := "fnExactClassCount", unfollowed := true, recurses := true, apart := false, narrowed := true }
def FnExactClassCountUptoSaid : Prop := fnExactClassCountUptoRow.holds Try.pinned (OpenSpec.upto fnExactClassCountSpec)

/-- 'laws.FnExactClassOfCurve', WHERE WHAT IT READS IS OF BULK AT MOST 1048576: true; the input reads as it did. -/
def fnExactClassOfCurveUptoRow : OpenClaim := { program := "ytohmanbokidckaa", sum := "1df0033c1cb126c55bbd4ee88b0a80de6a3fd15d839793221cd062fc73b4811f", func := "loop.example/g01004/laws.FnExactClassOfCurve", spec := "fnExactClassOfCurve", unfollowed := true, recurses := true, apart := false, narrowed := true }
def FnExactClassOfCurveUptoSaid : Prop := fnExactClassOfCurveUptoRow.holds Try.pinned (OpenSpec.upto fnExactClassOfCurveSpec)

end Rows
end Go.Proofs.Ytohmanbokidckaa
