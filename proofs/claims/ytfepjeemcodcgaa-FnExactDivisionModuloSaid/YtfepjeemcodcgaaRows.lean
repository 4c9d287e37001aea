/-
  No cell of these rows narrows 'for every input' (looked for: loops, veiled, ifaces, maps, wideKeys, modest, calm, conditions, laid).
  DERIVED. THE GIVEN ROWS OF THIS SEAT. 12 by the template 'for every input the law returns true; each argument reads behind the call as it read before'; 0 by the template 'total and deterministic' (their statements: YtfepjeemcodcgaaTotals.lean).
  GIVEN WITH THE SEED: the statements are not yours to turn. If you find one false, say at which input.
  Laid BY PROGRAM, IN A SANDBOX (cutbox-rows.mjs): the forced cells as the released guide's own fill.sh prints them over the translation f00b0153cedb13eb… (all of the seat's roots in one cut). By AI agents, Wed Nov 11 2026. No macro, syntax, notation, axiom, sorry.
-/
import Derived.Test.YtfepjeemcodcgaaChecked
import GoSem.Claim
import GoSem.ClaimJoined
import GoSem.ClaimMapViews
import Derived.JoinedTies
import Derived.KernelRfl
namespace Go.Proofs.Ytfepjeemcodcgaa
/- THE CELL 'sum', in the pinned program and in every row, IS THE sha256 OF THE DUMP (.gsa) THAT YtfepjeemcodcgaaProg.lean LOADS. Nothing in Lean hashes anything: it is a label: what it is worth is what the hold of that sum in a sandbox is worth. -/
noncomputable def Try.pinned : Pinned := { name := "ytfepjeemcodcgaa", sum := "f00b0153cedb13eb844ebc40ac746f0d88fe297c7bf41088304292453f7f28e4", checked := Try.checked }
namespace Rows
def none {H : Type} : Left H := { results := [], args := [] }

/-- 'laws.FnExactDegreeOfDivision': WHATEVER THE INPUT: true; the input reads as it did. -/
def fnExactDegreeOfDivisionSpec : ChangeSpec := { name := "fnExactDegreeOfDivision", fn := fun _ => fun
  | [d] => { results := [.lit (.bool true)], args := [d] }
  | _ => none }
def fnExactDegreeOfDivisionRow : OpenClaim := { program := "ytfepjeemcodcgaa", sum := "f00b0153cedb13eb844ebc40ac746f0d88fe297c7bf41088304292453f7f28e4", func := "loop.example/g01004/laws.FnExactDegreeOfDivision", spec := "fnExactDegreeOfDivision", apart := false }
def FnExactDegreeOfDivisionSaid : Prop := fnExactDegreeOfDivisionRow.holds Try.pinned (OpenSpec.ofChange fnExactDegreeOfDivisionSpec)

/-- ITS FALSE NEIGHBOUR: 'it returns false'. Refute it at one input. -/
def fnExactDegreeOfDivisionWrong : ChangeSpec := { name := "fnExactDegreeOfDivision", fn := fun _ => fun
  | [d] => { results := [.lit (.bool false)], args := [d] }
  | _ => none }
def FnExactDegreeOfDivisionWrongFalsely : Prop := fnExactDegreeOfDivisionRow.holds Try.pinned (OpenSpec.ofChange fnExactDegreeOfDivisionWrong)

/-- 'laws.FnExactLeadingOfDivision': WHATEVER THE INPUT: true; the input reads as it did. -/
def fnExactLeadingOfDivisionSpec : ChangeSpec := { name := "fnExactLeadingOfDivision", fn := fun _ => fun
  | [d] => { results := [.lit (.bool true)], args := [d] }
  | _ => none }
def fnExactLeadingOfDivisionRow : OpenClaim := { program := "ytfepjeemcodcgaa", sum := "f00b0153cedb13eb844ebc40ac746f0d88fe297c7bf41088304292453f7f28e4", func := "loop.example/g01004/laws.FnExactLeadingOfDivision", spec := "fnExactLeadingOfDivision", apart := false }
def FnExactLeadingOfDivisionSaid : Prop := fnExactLeadingOfDivisionRow.holds Try.pinned (OpenSpec.ofChange fnExactLeadingOfDivisionSpec)

/-- ITS FALSE NEIGHBOUR: 'it returns false'. Refute it at one input. -/
def fnExactLeadingOfDivisionWrong : ChangeSpec := { name := "fnExactLeadingOfDivision", fn := fun _ => fun
  | [d] => { results := [.lit (.bool false)], args := [d] }
  | _ => none }
def FnExactLeadingOfDivisionWrongFalsely : Prop := fnExactLeadingOfDivisionRow.holds Try.pinned (OpenSpec.ofChange fnExactLeadingOfDivisionWrong)

/-- 'laws.FnExactInvariantModulo': WHATEVER THE INPUT: true; the input reads as it did. -/
def fnExactInvariantModuloSpec : ChangeSpec := { name := "fnExactInvariantModulo", fn := fun _ => fun
  | [d1, d2] => { results := [.lit (.bool true)], args := [d1, d2] }
  | _ => none }
def fnExactInvariantModuloRow : OpenClaim := { program := "ytfepjeemcodcgaa", sum := "f00b0153cedb13eb844ebc40ac746f0d88fe297c7bf41088304292453f7f28e4", func := "loop.example/g01004/laws.FnExactInvariantModulo", spec := "fnExactInvariantModulo", apart := false }
def FnExactInvariantModuloSaid : Prop := fnExactInvariantModuloRow.holds Try.pinned (OpenSpec.ofChange fnExactInvariantModuloSpec)

/-- ITS FALSE NEIGHBOUR: 'it returns false'. Refute it at one input. -/
def fnExactInvariantModuloWrong : ChangeSpec := { name := "fnExactInvariantModulo", fn := fun _ => fun
  | [d1, d2] => { results := [.lit (.bool false)], args := [d1, d2] }
  | _ => none }
def FnExactInvariantModuloWrongFalsely : Prop := fnExactInvariantModuloRow.holds Try.pinned (OpenSpec.ofChange fnExactInvariantModuloWrong)

/-- 'laws.FnExactAutomorphismCount': WHATEVER THE INPUT: true; the input reads as it did. -/
def fnExactAutomorphismCountSpec : ChangeSpec := { name := "fnExactAutomorphismCount", fn := fun _ => fun
  | [d1, d2] => { results := [.lit (.bool true)], args := [d1, d2] }
  | _ => none }
def fnExactAutomorphismCountRow : OpenClaim := { program := "ytfepjeemcodcgaa", sum := "f00b0153cedb13eb844ebc40ac746f0d88fe297c7bf41088304292453f7f28e4", func := "loop.example/g01004/laws.FnExactAutomorphismCount", spec := "fnExactAutomorphismCount", apart := false }
def FnExactAutomorphismCountSaid : Prop := fnExactAutomorphismCountRow.holds Try.pinned (OpenSpec.ofChange fnExactAutomorphismCountSpec)

/-- ITS FALSE NEIGHBOUR: 'it returns false'. Refute it at one input. -/
def fnExactAutomorphismCountWrong : ChangeSpec := { name := "fnExactAutomorphismCount", fn := fun _ => fun
  | [d1, d2] => { results := [.lit (.bool false)], args := [d1, d2] }
  | _ => none }
def FnExactAutomorphismCountWrongFalsely : Prop := fnExactAutomorphismCountRow.holds Try.pinned (OpenSpec.ofChange fnExactAutomorphismCountWrong)

/-- 'laws.FnExactIsStep': WHATEVER THE INPUT: true; the input reads as it did. -/
def fnExactIsStepSpec : ChangeSpec := { name := "fnExactIsStep", fn := fun _ => fun
  | [d] => { results := [.lit (.bool true)], args := [d] }
  | _ => none }
def fnExactIsStepRow : OpenClaim := { program := "ytfepjeemcodcgaa", sum := "f00b0153cedb13eb844ebc40ac746f0d88fe297c7bf41088304292453f7f28e4", func := "loop.example/g01004/laws.FnExactIsStep", spec := "fnExactIsStep", apart := false }
def FnExactIsStepSaid : Prop := fnExactIsStepRow.holds Try.pinned (OpenSpec.ofChange fnExactIsStepSpec)

/-- ITS FALSE NEIGHBOUR: 'it returns false'. Refute it at one input. -/
def fnExactIsStepWrong : ChangeSpec := { name := "fnExactIsStep", fn := fun _ => fun
  | [d] => { results := [.lit (.bool false)], args := [d] }
  | _ => none }
def FnExactIsStepWrongFalsely : Prop := fnExactIsStepRow.holds Try.pinned (OpenSpec.ofChange fnExactIsStepWrong)

/-- 'laws.FnExactIsAreaNumber': WHATEVER THE INPUT: true; the input reads as it did. -/
def fnExactIsAreaNumberSpec : ChangeSpec := { name := "fnExactIsAreaNumber", fn := fun _ => fun
  | [d] => { results := [.lit (.bool true)], args := [d] }
  | _ => none }
def fnExactIsAreaNumberRow : OpenClaim := { program := "ytfepjeemcodcgaa", sum := "f00b0153cedb13eb844ebc40ac746f0d88fe297c7bf41088304292453f7f28e4", func := "loop.example/g01004/laws.FnExactIsAreaNumber", spec := "fnExactIsAreaNumber", apart := false }
def FnExactIsAreaNumberSaid : Prop := fnExactIsAreaNumberRow.holds Try.pinned (OpenSpec.ofChange fnExactIsAreaNumberSpec)

/-- ITS FALSE NEIGHBOUR: 'it returns false'. Refute it at one input. -/
def fnExactIsAreaNumberWrong : ChangeSpec := { name := "fnExactIsAreaNumber", fn := fun _ => fun
  | [d] => { results := [.lit (.bool false)], args := [d] }
  | _ => none }
def FnExactIsAreaNumberWrongFalsely : Prop := fnExactIsAreaNumberRow.holds Try.pinned (OpenSpec.ofChange fnExactIsAreaNumberWrong)

/-- 'laws.FnExactLiesOnCurve': WHATEVER THE INPUT: true; the input reads as it did. -/
def fnExactLiesOnCurveSpec : ChangeSpec := { name := "fnExactLiesOnCurve", fn := fun _ => fun
  | [d1, d2, d3] => { results := [.lit (.bool true)], args := [d1, d2, d3] }
  | _ => none }
def fnExactLiesOnCurveRow : OpenClaim := { program := "ytfepjeemcodcgaa", sum := "f00b0153cedb13eb844ebc40ac746f0d88fe297c7bf41088304292453f7f28e4", func := "loop.example/g01004/laws.FnExactLiesOnCurve", spec := "fnExactLiesOnCurve", apart := false }
def FnExactLiesOnCurveSaid : Prop := fnExactLiesOnCurveRow.holds Try.pinned (OpenSpec.ofChange fnExactLiesOnCurveSpec)

/-- ITS FALSE NEIGHBOUR: 'it returns false'. Refute it at one input. -/
def fnExactLiesOnCurveWrong : ChangeSpec := { name := "fnExactLiesOnCurve", fn := fun _ => fun
  | [d1, d2, d3] => { results := [.lit (.bool false)], args := [d1, d2, d3] }
  | _ => none }
def FnExactLiesOnCurveWrongFalsely : Prop := fnExactLiesOnCurveRow.holds Try.pinned (OpenSpec.ofChange fnExactLiesOnCurveWrong)

/-- 'laws.FnExactTwistModulo': WHATEVER THE INPUT: true; the input reads as it did. -/
def fnExactTwistModuloSpec : ChangeSpec := { name := "fnExactTwistModulo", fn := fun _ => fun
  | [d1, d2] => { results := [.lit (.bool true)], args := [d1, d2] }
  | _ => none }
def fnExactTwistModuloRow : OpenClaim := { program := "ytfepjeemcodcgaa", sum := "f00b0153cedb13eb844ebc40ac746f0d88fe297c7bf41088304292453f7f28e4", func := "loop.example/g01004/laws.FnExactTwistModulo", spec := "fnExactTwistModulo", apart := false }
def FnExactTwistModuloSaid : Prop := fnExactTwistModuloRow.holds Try.pinned (OpenSpec.ofChange fnExactTwistModuloSpec)

/-- ITS FALSE NEIGHBOUR: 'it returns false'. Refute it at one input. -/
def fnExactTwistModuloWrong : ChangeSpec := { name := "fnExactTwistModulo", fn := fun _ => fun
  | [d1, d2] => { results := [.lit (.bool false)], args := [d1, d2] }
  | _ => none }
def FnExactTwistModuloWrongFalsely : Prop := fnExactTwistModuloRow.holds Try.pinned (OpenSpec.ofChange fnExactTwistModuloWrong)

/-- 'laws.FnExactCongruentCurve': WHATEVER THE INPUT: true; the input reads as it did. -/
def fnExactCongruentCurveSpec : ChangeSpec := { name := "fnExactCongruentCurve", fn := fun _ => fun
  | [d] => { results := [.lit (.bool true)], args := [d] }
  | _ => none }
def fnExactCongruentCurveRow : OpenClaim := { program := "ytfepjeemcodcgaa", sum := "f00b0153cedb13eb844ebc40ac746f0d88fe297c7bf41088304292453f7f28e4", func := "loop.example/g01004/laws.FnExactCongruentCurve", spec := "fnExactCongruentCurve", apart := false }
def FnExactCongruentCurveSaid : Prop := fnExactCongruentCurveRow.holds Try.pinned (OpenSpec.ofChange fnExactCongruentCurveSpec)

/-- ITS FALSE NEIGHBOUR: 'it returns false'. Refute it at one input. -/
def fnExactCongruentCurveWrong : ChangeSpec := { name := "fnExactCongruentCurve", fn := fun _ => fun
  | [d] => { results := [.lit (.bool false)], args := [d] }
  | _ => none }
def FnExactCongruentCurveWrongFalsely : Prop := fnExactCongruentCurveRow.holds Try.pinned (OpenSpec.ofChange fnExactCongruentCurveWrong)

/-- 'laws.FnExactDivisionModulo': WHATEVER THE INPUT: true; the input reads as it did. -/
def fnExactDivisionModuloSpec : ChangeSpec := { name := "fnExactDivisionModulo", fn := fun _ => fun
  | [d1, d2, d3, d4] => { results := [.lit (.bool true)], args := [d1, d2, d3, d4] }
  | _ => none }
def fnExactDivisionModuloRow : OpenClaim := { program := "ytfepjeemcodcgaa", sum := "f00b0153cedb13eb844ebc40ac746f0d88fe297c7bf41088304292453f7f28e4", func := "loop.example/g01004/laws.FnExactDivisionModulo", spec := "fnExactDivisionModulo", unfollowed := true, recurses := true, apart := false }
def FnExactDivisionModuloSaid : Prop := fnExactDivisionModuloRow.holds Try.pinned (OpenSpec.ofChange fnExactDivisionModuloSpec)

/-- ITS FALSE NEIGHBOUR: 'it returns false'. Refute it at one input. -/
def fnExactDivisionModuloWrong : ChangeSpec := { name := "fnExactDivisionModulo", fn := fun _ => fun
  | [d1, d2, d3, d4] => { results := [.lit (.bool false)], args := [d1, d2, d3, d4] }
  | _ => none }
def FnExactDivisionModuloWrongFalsely : Prop := fnExactDivisionModuloRow.holds Try.pinned (OpenSpec.ofChange fnExactDivisionModuloWrong)

/-- 'laws.FnExactSmallestLog': WHATEVER THE INPUT: true; the input reads as it did. -/
def fnExactSmallestLogSpec : ChangeSpec := { name := "fnExactSmallestLog", fn := fun _ => fun
  | [d] => { results := [.lit (.bool true)], args := [d] }
  | _ => none }
def fnExactSmallestLogRow : OpenClaim := { program := "ytfepjeemcodcgaa", sum := "f00b0153cedb13eb844ebc40ac746f0d88fe297c7bf41088304292453f7f28e4", func := "loop.example/g01004/laws.FnExactSmallestLog", spec := "fnExactSmallestLog", apart := false }
def FnExactSmallestLogSaid : Prop := fnExactSmallestLogRow.holds Try.pinned (OpenSpec.ofChange fnExactSmallestLogSpec)

/-- ITS FALSE NEIGHBOUR: 'it returns false'. Refute it at one input. -/
def fnExactSmallestLogWrong : ChangeSpec := { name := "fnExactSmallestLog", fn := fun _ => fun
  | [d] => { results := [.lit (.bool false)], args := [d] }
  | _ => none }
def FnExactSmallestLogWrongFalsely : Prop := fnExactSmallestLogRow.holds Try.pinned (OpenSpec.ofChange fnExactSmallestLogWrong)

/-- 'laws.FnExactIsDivided': WHATEVER THE INPUT: true; the input reads as it did. -/
def fnExactIsDividedSpec : ChangeSpec := { name := "fnExactIsDivided", fn := fun _ => fun
  | [d1, d2, d3, d4] => { results := [.lit (.bool true)], args := [d1, d2, d3, d4] }
  | _ => none }
def fnExactIsDividedRow : OpenClaim := { program := "ytfepjeemcodcgaa", sum := "f00b0153cedb13eb844ebc40ac746f0d88fe297c7bf41088304292453f7f28e4", func := "loop.example/g01004/laws.FnExactIsDivided", spec := "fnExactIsDivided", unfollowed := true, recurses := true, apart := false }
def FnExactIsDividedSaid : Prop := fnExactIsDividedRow.holds Try.pinned (OpenSpec.ofChange fnExactIsDividedSpec)

/-- ITS FALSE NEIGHBOUR: 'it returns false'. Refute it at one input. -/
def fnExactIsDividedWrong : ChangeSpec := { name := "fnExactIsDivided", fn := fun _ => fun
  | [d1, d2, d3, d4] => { results := [.lit (.bool false)], args := [d1, d2, d3, d4] }
  | _ => none }
def FnExactIsDividedWrongFalsely : Prop := fnExactIsDividedRow.holds Try.pinned (OpenSpec.ofChange fnExactIsDividedWrong)

/- THE SECOND FORM. 'bulk': how many values and letters a reading holds, each counted each time it is reached (what is shared counts as often as it is met; a slice's spare places count too). A statement '..UptoSaid' is the law's where the arguments, and the package variables that the reading takes, are together of bulk at most 1048576: NARROWER than '..Said'. Prove '..Said' where nothing that the law and all that it calls make is longer than what came in: it says more and counts as full. Else prove '..UptoSaid'. A law counts once. -/
mutual
def uptoBulk {H : Type} : DataW H → Nat
  | .lit (.string bytes) => bytes.length + 1
  | .lit _ => 1
  | .nil => 1
  | .ptr d => uptoBulk d + 1
  | .slice elems spare => uptoBulkAll elems + uptoBulkAll spare + 1
  | .agg parts => uptoBulkAll parts + 1
  | .iface _ d => uptoBulk d + 1
  | .map entries => uptoBulkEntries entries + 1
  | .held _ => 1
def uptoBulkAll {H : Type} : List (DataW H) → Nat
  | [] => 0
  | d :: r => uptoBulk d + uptoBulkAll r
def uptoBulkEntries {H : Type} : List (Lit × DataW H) → Nat
  | [] => 0
  | x :: r => uptoBulkEntry x + uptoBulkEntries r
def uptoBulkEntry {H : Type} : Lit × DataW H → Nat
  | (.string bytes, d) => bytes.length + uptoBulk d + 1
  | (_, d) => uptoBulk d + 1
 end
def uptoSmall : (H : Type) → List (DataW H) → Bool := fun _ ds => decide (uptoBulkAll ds ≤ 1048576)
def OpenSpec.upto (s : _root_.Go.ChangeSpec) : _root_.Go.OpenSpec := { _root_.Go.OpenSpec.ofChange s with cond := some uptoSmall }

/-- 'laws.FnExactDegreeOfDivision', WHERE WHAT IT READS IS OF BULK AT MOST 1048576: true; the input reads as it did. -/
def fnExactDegreeOfDivisionUptoRow : OpenClaim := { program := "ytfepjeemcodcgaa", sum := "f00b0153cedb13eb844ebc40ac746f0d88fe297c7bf41088304292453f7f28e4", func := "loop.example/g01004/laws.FnExactDegreeOfDivision", spec := "fnExactDegreeOfDivision", apart := false, narrowed := true }
def FnExactDegreeOfDivisionUptoSaid : Prop := fnExactDegreeOfDivisionUptoRow.holds Try.pinned (OpenSpec.upto fnExactDegreeOfDivisionSpec)

/-- 'laws.FnExactLeadingOfDivision', WHERE WHAT IT READS IS OF BULK AT MOST 1048576: true; the input reads as it did. -/
def fnExactLeadingOfDivisionUptoRow : OpenClaim := { program := "ytfepjeemcodcgaa", sum := "f00b0153cedb13eb844ebc40ac746f0d88fe297c7bf41088304292453f7f28e4", func := "loop.example/g01004/laws.FnExactLeadingOfDivision", spec := "fnExactLeadingOfDivision", apart := false, narrowed := true }
def FnExactLeadingOfDivisionUptoSaid : Prop := fnExactLeadingOfDivisionUptoRow.holds Try.pinned (OpenSpec.upto fnExactLeadingOfDivisionSpec)

/-- 'laws.FnExactInvariantModulo', WHERE WHAT IT READS IS OF BULK AT MOST 1048576: true; the input reads as it did. -/
def fnExactInvariantModuloUptoRow : OpenClaim := { program := "ytfepjeemcodcgaa", sum := "f00b0153cedb13eb844ebc40ac746f0d88fe297c7bf41088304292453f7f28e4", func := "loop.example/g01004/laws.FnExactInvariantModulo", spec := "fnExactInvariantModulo", apart := false, narrowed := true }
def FnExactInvariantModuloUptoSaid : Prop := fnExactInvariantModuloUptoRow.holds Try.pinned (OpenSpec.upto fnExactInvariantModuloSpec)

/-- 'laws.FnExactAutomorphismCount', WHERE WHAT IT READS IS OF BULK AT MOST 1048576: true; the input reads as it did. -/
def fnExactAutomorphismCountUptoRow : OpenClaim := { program := "ytfepjeemcodcgaa", sum := "f00b0153cedb13eb844ebc40ac746f0d88fe297c7bf41088304292453f7f28e4", func := "loop.example/g01004/laws.FnExactAutomorphismCount", spec := "fnExactAutomorphismCount", apart := false, narrowed := true }
def FnExactAutomorphismCountUptoSaid : Prop := fnExactAutomorphismCountUptoRow.holds Try.pinned (OpenSpec.upto fnExactAutomorphismCountSpec)

/-- 'laws.FnExactIsStep', WHERE WHAT IT READS IS OF BULK AT MOST 1048576: true; the input reads as it did. -/
def fnExactIsStepUptoRow : OpenClaim := { program := "ytfepjeemcodcgaa", sum := "f00b0153cedb13eb844ebc40ac746f0d88fe297c7bf41088304292453f7f28e4", func := "loop.example/g01004/laws.FnExactIsStep", spec := "fnExactIsStep", apart := false, narrowed := true }
def FnExactIsStepUptoSaid : Prop := fnExactIsStepUptoRow.holds Try.pinned (OpenSpec.upto fnExactIsStepSpec)

/-- 'laws.FnExactIsAreaNumber', WHERE WHAT IT READS IS OF BULK AT MOST 1048576: true; the input reads as it did. -/
def fnExactIsAreaNumberUptoRow : OpenClaim := { program := "ytfepjeemcodcgaa", sum := "f00b0153cedb13eb844ebc40ac746f0d88fe297c7bf41088304292453f7f28e4", func := "loop.example/g01004/laws.FnExactIsAreaNumber", spec := "fnExactIsAreaNumber", apart := false, narrowed := true }
def FnExactIsAreaNumberUptoSaid : Prop := fnExactIsAreaNumberUptoRow.holds Try.pinned (OpenSpec.upto fnExactIsAreaNumberSpec)

/-- 'laws.FnExactLiesOnCurve', WHERE WHAT IT READS IS OF BULK AT MOST 1048576: true; the input reads as it did. -/
def fnExactLiesOnCurveUptoRow : OpenClaim := { program := "ytfepjeemcodcgaa", sum := "f00b0153cedb13eb844ebc40ac746f0d88fe297c7bf41088304292453f7f28e4", func := "loop.example/g01004/laws.FnExactLiesOnCurve", spec := "fnExactLiesOnCurve", apart := false, narrowed := true }
def FnExactLiesOnCurveUptoSaid : Prop := fnExactLiesOnCurveUptoRow.holds Try.pinned (OpenSpec.upto fnExactLiesOnCurveSpec)

/-- 'laws.FnExactTwistModulo', WHERE WHAT IT READS IS OF BULK AT MOST 1048576: true; the input reads as it did. -/
def fnExactTwistModuloUptoRow : OpenClaim := { program := "ytfepjeemcodcgaa", sum := "f00b0153cedb13eb844ebc40ac746f0d88fe297c7bf41088304292453f7f28e4", func := "loop.example/g01004/laws.FnExactTwistModulo", spec := "fnExactTwistModulo", apart := false, narrowed := true }
def FnExactTwistModuloUptoSaid : Prop := fnExactTwistModuloUptoRow.holds Try.pinned (OpenSpec.upto fnExactTwistModuloSpec)

/-- 'laws.FnExactCongruentCurve', WHERE WHAT IT READS IS OF BULK AT MOST 1048576: true; the input reads as it did. -/
def fnExactCongruentCurveUptoRow : OpenClaim := { program := "ytfepjeemcodcgaa", sum := "f00b0153cedb13eb844ebc40ac746f0d88fe297c7bf41088304292453f7f28e4", func := "loop.example/g01004/laws.FnExactCongruentCurve", spec := "fnExactCongruentCurve", apart := false, narrowed := true }
def FnExactCongruentCurveUptoSaid : Prop := fnExactCongruentCurveUptoRow.holds Try.pinned (OpenSpec.upto fnExactCongruentCurveSpec)

/-- 'laws.FnExactDivisionModulo', WHERE WHAT IT READS IS OF BULK AT MOST 1048576: true; the input reads as it did. -/
def fnExactDivisionModuloUptoRow : OpenClaim := { program := "ytfepjeemcodcgaa", sum := "f00b0153cedb13eb844ebc40ac746f0d88fe297c7bf41088304292453f7f28e4", func := "loop.example/g01004/laws.FnExactDivisionModulo", spec := "fnExactDivisionModulo", unfollowed := true, recurses := true, apart := false, narrowed := true }
def FnExactDivisionModuloUptoSaid : Prop := fnExactDivisionModuloUptoRow.holds Try.pinned (OpenSpec.upto fnExactDivisionModuloSpec)

/-- 'laws.FnExactSmallestLog', WHERE WHAT IT READS IS OF BULK AT MOST 1048576: true; the input reads as it did. -/
def fnExactSmallestLogUptoRow : OpenClaim := { program := "ytfepjeemcodcgaa", sum := "f00b0153cedb13eb844ebc40ac746f0d88fe297c7bf41088304292453f7f28e4", func := "loop.example/g01004/laws.FnExactSmallestLog", spec := "fnExactSmallestLog", apart := false, narrowed := true }
def FnExactSmallestLogUptoSaid : Prop := fnExactSmallestLogUptoRow.holds Try.pinned (OpenSpec.upto fnExactSmallestLogSpec)

/-- 'laws.FnExactIsDivided', WHERE WHAT IT READS IS OF BULK AT MOST 1048576: true; the input reads as it did. -/
def fnExactIsDividedUptoRow : OpenClaim := { program := "ytfepjeemcodcgaa", sum := "f00b0153cedb13eb844ebc40ac746f0d88fe297c7bf41088304292453f7f28e4", func := "loop.example/g01004/laws.FnExactIsDivided", spec := "fnExactIsDivided", unfollowed := true, recurses := true, apart := false, narrowed := true }
def FnExactIsDividedUptoSaid : Prop := fnExactIsDividedUptoRow.holds Try.pinned (OpenSpec.upto fnExactIsDividedSpec)

end Rows
end Go.Proofs.Ytfepjeemcodcgaa
