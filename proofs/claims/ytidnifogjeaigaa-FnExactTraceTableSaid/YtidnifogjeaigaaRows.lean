/-
  No cell of these rows narrows 'for every input' (looked for: loops, veiled, ifaces, maps, wideKeys, modest, calm, conditions, laid).
  DERIVED. THE GIVEN ROWS OF THIS SEAT. 3 by the template 'for every input the law returns true; each argument reads behind the call as it read before'; 0 by the template 'total and deterministic' (their statements: YtidnifogjeaigaaTotals.lean).
  GIVEN WITH THE SEED: the statements are not yours to turn. If you find one false, say at which input.
  Laid BY PROGRAM, IN A SANDBOX (cutbox-rows.mjs): the forced cells as the released guide's own fill.sh prints them over the translation c4f4a07dc48a2de1… (all of the seat's roots in one cut). By AI agents, Wed Nov 11 2026. No macro, syntax, notation, axiom, sorry.
-/
import Derived.Test.YtidnifogjeaigaaChecked
import GoSem.Claim
import GoSem.ClaimJoined
import GoSem.ClaimMapViews
import Derived.JoinedTies
import Derived.KernelRfl
namespace Go.Proofs.Ytidnifogjeaigaa
/- THE CELL 'sum', in the pinned program and in every row, IS THE sha256 OF THE DUMP (.gsa) THAT YtidnifogjeaigaaProg.lean LOADS. Nothing in Lean hashes anything: it is a label: what it is worth is what the hold of that sum in a sandbox is worth. -/
noncomputable def Try.pinned : Pinned := { name := "ytidnifogjeaigaa", sum := "c4f4a07dc48a2de1e7133dba57ad098dedf28e30b4a50e4ed6e8e57a8b78beac", checked := Try.checked }
namespace Rows
def none {H : Type} : Left H := { results := [], args := [] }

/-- 'laws.FnExactTraceTable': WHATEVER THE INPUT: true; the input reads as it did. -/
def fnExactTraceTableSpec : ChangeSpec := { name := "fnExactTraceTable", fn := fun _ => fun
  | [d] => { results := [.lit (.bool true)], args := [d] }
  | _ => none }
def fnExactTraceTableRow : OpenClaim := { program := "ytidnifogjeaigaa", sum := "c4f4a07dc48a2de1e7133dba57ad098dedf28e30b4a50e4ed6e8e57a8b78beac", func := "loop.example/g01004/laws.FnExactTraceTable", spec := "fnExactTraceTable", apart := false }
def FnExactTraceTableSaid : Prop := fnExactTraceTableRow.holds Try.pinned (OpenSpec.ofChange fnExactTraceTableSpec)

/-- ITS FALSE NEIGHBOUR: 'it returns false'. Refute it at one input. -/
def fnExactTraceTableWrong : ChangeSpec := { name := "fnExactTraceTable", fn := fun _ => fun
  | [d] => { results := [.lit (.bool false)], args := [d] }
  | _ => none }
def FnExactTraceTableWrongFalsely : Prop := fnExactTraceTableRow.holds Try.pinned (OpenSpec.ofChange fnExactTraceTableWrong)

/-- 'laws.FnExactClassCount': WHATEVER THE INPUT: true; the input reads as it did. -/
def fnExactClassCountSpec : ChangeSpec := { name := "fnExactClassCount", fn := fun _ => fun
  | [d] => { results := [.lit (.bool true)], args := [d] }
  | _ => none }
def fnExactClassCountRow : OpenClaim := { program := "ytidnifogjeaigaa", sum := "c4f4a07dc48a2de1e7133dba57ad098dedf28e30b4a50e4ed6e8e57a8b78beac", func := "loop.example/g01004/laws.FnExactClassCount", spec := "fnExactClassCount", unfollowed := true, recurses := true, apart := false }
def FnExactClassCountSaid : Prop := fnExactClassCountRow.holds Try.pinned (OpenSpec.ofChange fnExactClassCountSpec)

/-- ITS FALSE NEIGHBOUR: 'it returns false'. Refute it at one input. -/
def fnExactClassCountWrong : ChangeSpec := { name := "fnExactClassCount", fn := fun _ => fun
  | [d] => { results := [.lit (.bool false)], args := [d] }
  | _ => none }
def FnExactClassCountWrongFalsely : Prop := fnExactClassCountRow.holds Try.pinned (OpenSpec.ofChange fnExactClassCountWrong)

/-- 'laws.FnExactClassOfCurve': WHATEVER THE INPUT: true; the input reads as it did. -/
def fnExactClassOfCurveSpec : ChangeSpec := { name := "fnExactClassOfCurve", fn := fun _ => fun
  | [d1, d2] => { results := [.lit (.bool true)], args := [d1, d2] }
  | _ => none }
def fnExactClassOfCurveRow : OpenClaim := { program := "ytidnifogjeaigaa", sum := "c4f4a07dc48a2de1e7133dba57ad098dedf28e30b4a50e4ed6e8e57a8b78beac", func := "loop.example/g01004/laws.FnExactClassOfCurve", spec := "fnExactClassOfCurve", unfollowed := true, recurses := true, apart := false }
def FnExactClassOfCurveSaid : Prop := fnExactClassOfCurveRow.holds Try.pinned (OpenSpec.ofChange fnExactClassOfCurveSpec)

/-- ITS FALSE NEIGHBOUR: 'it returns false'. Refute it at one input. -/
def fnExactClassOfCurveWrong : ChangeSpec := { name := "fnExactClassOfCurve", fn := fun _ => fun
  | [d1, d2] => { results := [.lit (.bool false)], args := [d1, d2] }
  | _ => none }
def FnExactClassOfCurveWrongFalsely : Prop := fnExactClassOfCurveRow.holds Try.pinned (OpenSpec.ofChange fnExactClassOfCurveWrong)

/- THE SECOND FORM. 'bulk': how many values and letters a reading holds, each counted each time it is reached (what is shared counts as often as it is met; a slice's spare places count too). A statement '..UptoSaid' is the law's where the arguments, and the package variables that the reading takes, are together of bulk at most 1048576: NARROWER than '..Said'. Prove '..Said' where nothing that the law and all that it calls make is longer than what came in: it says more and counts as full. Else prove '..UptoSaid'. A law counts once. -/
mutual
def uptoBulk {H : Type} : DataW H → Nat
  | .lit (.string bytes) => bytes.length + 1
  | .lit _ => 1
  | .nil => 1
  | .ptr d => uptoBulk d + 1
  | .slice elems spare => uptoBulkAll elems + uptoBulkAll spare + 1
  | .agg parts => uptoBulkAll parts + 1
  | .iface _ d => uptoBulk d + 1
  | .map entries => uptoBulkEntries entries + 1
  | .held _ => 1
def uptoBulkAll {H : Type} : List (DataW H) → Nat
  | [] => 0
  | d :: r => uptoBulk d + uptoBulkAll r
def uptoBulkEntries {H : Type} : List (Lit × DataW H) → Nat
  | [] => 0
  | x :: r => uptoBulkEntry x + uptoBulkEntries r
def uptoBulkEntry {H : Type} : Lit × DataW H → Nat
  | (.string bytes, d) => bytes.length + uptoBulk d + 1
  | (_, d) => uptoBulk d + 1
 end
def uptoSmall : (H : Type) → List (DataW H) → Bool := fun _ ds => decide (uptoBulkAll ds ≤ 1048576)
def OpenSpec.upto (s : _root_.Go.ChangeSpec) : _root_.Go.OpenSpec := { _root_.Go.OpenSpec.ofChange s with cond := some uptoSmall }

/-- 'laws.FnExactTraceTable', WHERE WHAT IT READS IS OF BULK AT MOST 1048576: true; the input reads as it did. -/
def fnExactTraceTableUptoRow : OpenClaim := { program := "ytidnifogjeaigaa", sum := "c4f4a07dc48a2de1e7133dba57ad098dedf28e30b4a50e4ed6e8e57a8b78beac", func := "loop.example/g01004/laws.FnExactTraceTable", spec := "fnExactTraceTable", apart := false, narrowed := true }
def FnExactTraceTableUptoSaid : Prop := fnExactTraceTableUptoRow.holds Try.pinned (OpenSpec.upto fnExactTraceTableSpec)

/-- 'laws.FnExactClassCount', WHERE WHAT IT READS IS OF BULK AT MOST 1048576: true; the input reads as it did. -/
def fnExactClassCountUptoRow : OpenClaim := { program := "ytidnifogjeaigaa", sum := "c4f4a07dc48a2de1e7133dba57ad098dedf28e30b4a50e4ed6e8e57a8b78beac", func := "loop.example/g01004/laws.FnExactClassCount", spec := "fnExactClassCount", unfollowed := true, recurses := true, apart := false, narrowed := true }
def FnExactClassCountUptoSaid : Prop := fnExactClassCountUptoRow.holds Try.pinned (OpenSpec.upto fnExactClassCountSpec)

/-- 'laws.FnExactClassOfCurve', WHERE WHAT IT READS IS OF BULK AT MOST 1048576: true; the input reads as it did. -/
def fnExactClassOfCurveUptoRow : OpenClaim := { program := "ytidnifogjeaigaa", sum := "c4f4a07dc48a2de1e7133dba57ad098dedf28e30b4a50e4ed6e8e57a8b78beac", func := "loop.example/g01004/laws.FnExactClassOfCurve", spec := "fnExactClassOfCurve", unfollowed := true, recurses := true, apart := false, narrowed := true }
def FnExactClassOfCurveUptoSaid : Prop := fnExactClassOfCurveUptoRow.holds Try.pinned (OpenSpec.upto fnExactClassOfCurveSpec)

end Rows
end Go.Proofs.Ytidnifogjeaigaa
