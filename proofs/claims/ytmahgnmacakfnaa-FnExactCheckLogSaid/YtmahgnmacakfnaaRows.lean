/-
  No cell of these rows narrows 'for every input' (looked for: loops, veiled, ifaces, maps, wideKeys, modest, calm, conditions, laid).
  DERIVED. THE GIVEN ROWS OF THIS SEAT. 8 by the template 'for every input the law returns true; each argument reads behind the call as it read before'; 0 by the template 'total and deterministic' (their statements: YtmahgnmacakfnaaTotals.lean).
  GIVEN WITH THE SEED: the statements are not yours to turn. If you find one false, say at which input.
  Laid BY PROGRAM, IN A SANDBOX (cutbox-rows.mjs): the forced cells as the released guide's own fill.sh prints them over the translation a53cacdb27610022… (all of the seat's roots in one cut). By AI agents, Wed Nov 11 2026. No macro, syntax, notation, axiom, sorry.
-/
import Derived.Test.YtmahgnmacakfnaaChecked
import GoSem.Claim
import GoSem.ClaimJoined
import GoSem.ClaimMapViews
import Derived.JoinedTies
import Derived.KernelRfl
namespace Go.Proofs.Ytmahgnmacakfnaa
/- THE CELL 'sum', in the pinned program and in every row, IS THE sha256 OF THE DUMP (.gsa) THAT YtmahgnmacakfnaaProg.lean LOADS. Nothing in Lean hashes anything: it is a label: what it is worth is what the hold of that sum in a sandbox is worth. -/
noncomputable def Try.pinned : Pinned := { name := "ytmahgnmacakfnaa", sum := "a53cacdb27610022dbcbb28ed4d213447be5178d98db4fc0d7e46dbd1e60df1b", checked := Try.checked }
namespace Rows
def none {H : Type} : Left H := { results := [], args := [] }

/-- 'laws.FnExactTwistOfLog': WHATEVER THE INPUT: true; the input reads as it did. -/
def fnExactTwistOfLogSpec : ChangeSpec := { name := "fnExactTwistOfLog", fn := fun _ => fun
  | [d] => { results := [.lit (.bool true)], args := [d] }
  | _ => none }
def fnExactTwistOfLogRow : OpenClaim := { program := "ytmahgnmacakfnaa", sum := "a53cacdb27610022dbcbb28ed4d213447be5178d98db4fc0d7e46dbd1e60df1b", func := "loop.example/g01004/laws.FnExactTwistOfLog", spec := "fnExactTwistOfLog", apart := false }
def FnExactTwistOfLogSaid : Prop := fnExactTwistOfLogRow.holds Try.pinned (OpenSpec.ofChange fnExactTwistOfLogSpec)

/-- ITS FALSE NEIGHBOUR: 'it returns false'. Refute it at one input. -/
def fnExactTwistOfLogWrong : ChangeSpec := { name := "fnExactTwistOfLog", fn := fun _ => fun
  | [d] => { results := [.lit (.bool false)], args := [d] }
  | _ => none }
def FnExactTwistOfLogWrongFalsely : Prop := fnExactTwistOfLogRow.holds Try.pinned (OpenSpec.ofChange fnExactTwistOfLogWrong)

/-- 'laws.FnExactApplyStep': WHATEVER THE INPUT: true; the input reads as it did. -/
def fnExactApplyStepSpec : ChangeSpec := { name := "fnExactApplyStep", fn := fun _ => fun
  | [d1, d2] => { results := [.lit (.bool true)], args := [d1, d2] }
  | _ => none }
def fnExactApplyStepRow : OpenClaim := { program := "ytmahgnmacakfnaa", sum := "a53cacdb27610022dbcbb28ed4d213447be5178d98db4fc0d7e46dbd1e60df1b", func := "loop.example/g01004/laws.FnExactApplyStep", spec := "fnExactApplyStep", apart := false }
def FnExactApplyStepSaid : Prop := fnExactApplyStepRow.holds Try.pinned (OpenSpec.ofChange fnExactApplyStepSpec)

/-- ITS FALSE NEIGHBOUR: 'it returns false'. Refute it at one input. -/
def fnExactApplyStepWrong : ChangeSpec := { name := "fnExactApplyStep", fn := fun _ => fun
  | [d1, d2] => { results := [.lit (.bool false)], args := [d1, d2] }
  | _ => none }
def FnExactApplyStepWrongFalsely : Prop := fnExactApplyStepRow.holds Try.pinned (OpenSpec.ofChange fnExactApplyStepWrong)

/-- 'laws.FnExactInverseLog': WHATEVER THE INPUT: true; the input reads as it did. -/
def fnExactInverseLogSpec : ChangeSpec := { name := "fnExactInverseLog", fn := fun _ => fun
  | [d] => { results := [.lit (.bool true)], args := [d] }
  | _ => none }
def fnExactInverseLogRow : OpenClaim := { program := "ytmahgnmacakfnaa", sum := "a53cacdb27610022dbcbb28ed4d213447be5178d98db4fc0d7e46dbd1e60df1b", func := "loop.example/g01004/laws.FnExactInverseLog", spec := "fnExactInverseLog", apart := false }
def FnExactInverseLogSaid : Prop := fnExactInverseLogRow.holds Try.pinned (OpenSpec.ofChange fnExactInverseLogSpec)

/-- ITS FALSE NEIGHBOUR: 'it returns false'. Refute it at one input. -/
def fnExactInverseLogWrong : ChangeSpec := { name := "fnExactInverseLog", fn := fun _ => fun
  | [d] => { results := [.lit (.bool false)], args := [d] }
  | _ => none }
def FnExactInverseLogWrongFalsely : Prop := fnExactInverseLogRow.holds Try.pinned (OpenSpec.ofChange fnExactInverseLogWrong)

/-- 'laws.FnExactShortenLog': WHATEVER THE INPUT: true; the input reads as it did. -/
def fnExactShortenLogSpec : ChangeSpec := { name := "fnExactShortenLog", fn := fun _ => fun
  | [d] => { results := [.lit (.bool true)], args := [d] }
  | _ => none }
def fnExactShortenLogRow : OpenClaim := { program := "ytmahgnmacakfnaa", sum := "a53cacdb27610022dbcbb28ed4d213447be5178d98db4fc0d7e46dbd1e60df1b", func := "loop.example/g01004/laws.FnExactShortenLog", spec := "fnExactShortenLog", apart := false }
def FnExactShortenLogSaid : Prop := fnExactShortenLogRow.holds Try.pinned (OpenSpec.ofChange fnExactShortenLogSpec)

/-- ITS FALSE NEIGHBOUR: 'it returns false'. Refute it at one input. -/
def fnExactShortenLogWrong : ChangeSpec := { name := "fnExactShortenLog", fn := fun _ => fun
  | [d] => { results := [.lit (.bool false)], args := [d] }
  | _ => none }
def FnExactShortenLogWrongFalsely : Prop := fnExactShortenLogRow.holds Try.pinned (OpenSpec.ofChange fnExactShortenLogWrong)

/-- 'laws.FnExactCheckLog': WHATEVER THE INPUT: true; the input reads as it did. -/
def fnExactCheckLogSpec : ChangeSpec := { name := "fnExactCheckLog", fn := fun _ => fun
  | [d1, d2, d3] => { results := [.lit (.bool true)], args := [d1, d2, d3] }
  | _ => none }
def fnExactCheckLogRow : OpenClaim := { program := "ytmahgnmacakfnaa", sum := "a53cacdb27610022dbcbb28ed4d213447be5178d98db4fc0d7e46dbd1e60df1b", func := "loop.example/g01004/laws.FnExactCheckLog", spec := "fnExactCheckLog", apart := false }
def FnExactCheckLogSaid : Prop := fnExactCheckLogRow.holds Try.pinned (OpenSpec.ofChange fnExactCheckLogSpec)

/-- ITS FALSE NEIGHBOUR: 'it returns false'. Refute it at one input. -/
def fnExactCheckLogWrong : ChangeSpec := { name := "fnExactCheckLog", fn := fun _ => fun
  | [d1, d2, d3] => { results := [.lit (.bool false)], args := [d1, d2, d3] }
  | _ => none }
def FnExactCheckLogWrongFalsely : Prop := fnExactCheckLogRow.holds Try.pinned (OpenSpec.ofChange fnExactCheckLogWrong)

/-- 'laws.FnExactReplayLog': WHATEVER THE INPUT: true; the input reads as it did. -/
def fnExactReplayLogSpec : ChangeSpec := { name := "fnExactReplayLog", fn := fun _ => fun
  | [d1, d2] => { results := [.lit (.bool true)], args := [d1, d2] }
  | _ => none }
def fnExactReplayLogRow : OpenClaim := { program := "ytmahgnmacakfnaa", sum := "a53cacdb27610022dbcbb28ed4d213447be5178d98db4fc0d7e46dbd1e60df1b", func := "loop.example/g01004/laws.FnExactReplayLog", spec := "fnExactReplayLog", apart := false }
def FnExactReplayLogSaid : Prop := fnExactReplayLogRow.holds Try.pinned (OpenSpec.ofChange fnExactReplayLogSpec)

/-- ITS FALSE NEIGHBOUR: 'it returns false'. Refute it at one input. -/
def fnExactReplayLogWrong : ChangeSpec := { name := "fnExactReplayLog", fn := fun _ => fun
  | [d1, d2] => { results := [.lit (.bool false)], args := [d1, d2] }
  | _ => none }
def FnExactReplayLogWrongFalsely : Prop := fnExactReplayLogRow.holds Try.pinned (OpenSpec.ofChange fnExactReplayLogWrong)

/-- 'laws.FnExactCurvesOfLog': WHATEVER THE INPUT: true; the input reads as it did. -/
def fnExactCurvesOfLogSpec : ChangeSpec := { name := "fnExactCurvesOfLog", fn := fun _ => fun
  | [d1, d2] => { results := [.lit (.bool true)], args := [d1, d2] }
  | _ => none }
def fnExactCurvesOfLogRow : OpenClaim := { program := "ytmahgnmacakfnaa", sum := "a53cacdb27610022dbcbb28ed4d213447be5178d98db4fc0d7e46dbd1e60df1b", func := "loop.example/g01004/laws.FnExactCurvesOfLog", spec := "fnExactCurvesOfLog", apart := false }
def FnExactCurvesOfLogSaid : Prop := fnExactCurvesOfLogRow.holds Try.pinned (OpenSpec.ofChange fnExactCurvesOfLogSpec)

/-- ITS FALSE NEIGHBOUR: 'it returns false'. Refute it at one input. -/
def fnExactCurvesOfLogWrong : ChangeSpec := { name := "fnExactCurvesOfLog", fn := fun _ => fun
  | [d1, d2] => { results := [.lit (.bool false)], args := [d1, d2] }
  | _ => none }
def FnExactCurvesOfLogWrongFalsely : Prop := fnExactCurvesOfLogRow.holds Try.pinned (OpenSpec.ofChange fnExactCurvesOfLogWrong)

/-- 'laws.FnLogs': WHATEVER THE INPUT: true; the input reads as it did. -/
def fnLogsSpec : ChangeSpec := { name := "fnLogs", fn := fun _ => fun
  | [d1, d2] => { results := [.lit (.bool true)], args := [d1, d2] }
  | _ => none }
def fnLogsRow : OpenClaim := { program := "ytmahgnmacakfnaa", sum := "a53cacdb27610022dbcbb28ed4d213447be5178d98db4fc0d7e46dbd1e60df1b", func := "loop.example/g01004/laws.FnLogs", spec := "fnLogs", apart := false }
def FnLogsSaid : Prop := fnLogsRow.holds Try.pinned (OpenSpec.ofChange fnLogsSpec)

/-- ITS FALSE NEIGHBOUR: 'it returns false'. Refute it at one input. -/
def fnLogsWrong : ChangeSpec := { name := "fnLogs", fn := fun _ => fun
  | [d1, d2] => { results := [.lit (.bool false)], args := [d1, d2] }
  | _ => none }
def FnLogsWrongFalsely : Prop := fnLogsRow.holds Try.pinned (OpenSpec.ofChange fnLogsWrong)

/- THE SECOND FORM. 'bulk': how many values and letters a reading holds, each counted each time it is reached (what is shared counts as often as it is met; a slice's spare places count too). A statement '..UptoSaid' is the law's where the arguments, and the package variables that the reading takes, are together of bulk at most 1048576: NARROWER than '..Said'. Prove '..Said' where nothing that the law and all that it calls make is longer than what came in: it says more and counts as full. Else prove '..UptoSaid'. A law counts once. -/
mutual
def uptoBulk {H : Type} : DataW H → Nat
  | .lit (.string bytes) => bytes.length + 1
  | .lit _ => 1
  | .nil => 1
  | .ptr d => uptoBulk d + 1
  | .slice elems spare => uptoBulkAll elems + uptoBulkAll spare + 1
  | .agg parts => uptoBulkAll parts + 1
  | .iface _ d => uptoBulk d + 1
  | .map entries => uptoBulkEntries entries + 1
  | .held _ => 1
def uptoBulkAll {H : Type} : List (DataW H) → Nat
  | [] => 0
  | d :: r => uptoBulk d + uptoBulkAll r
def uptoBulkEntries {H : Type} : List (Lit × DataW H) → Nat
  | [] => 0
  | x :: r => uptoBulkEntry x + uptoBulkEntries r
def uptoBulkEntry {H : Type} : Lit × DataW H → Nat
  | (.string bytes, d) => bytes.length + uptoBulk d + 1
  | (_, d) => uptoBulk d + 1
 end
def uptoSmall : (H : Type) → List (DataW H) → Bool := fun _ ds => decide (uptoBulkAll ds ≤ 1048576)
def OpenSpec.upto (s : _root_.Go.ChangeSpec) : _root_.Go.OpenSpec := { _root_.Go.OpenSpec.ofChange s with cond := some uptoSmall }

/-- 'laws.FnExactTwistOfLog', WHERE WHAT IT READS IS OF BULK AT MOST 1048576: true; the input reads as it did. -/
def fnExactTwistOfLogUptoRow : OpenClaim := { program := "ytmahgnmacakfnaa", sum := "a53cacdb27610022dbcbb28ed4d213447be5178d98db4fc0d7e46dbd1e60df1b", func := "loop.example/g01004/laws.FnExactTwistOfLog", spec := "fnExactTwistOfLog", apart := false, narrowed := true }
def FnExactTwistOfLogUptoSaid : Prop := fnExactTwistOfLogUptoRow.holds Try.pinned (OpenSpec.upto fnExactTwistOfLogSpec)

/-- 'laws.FnExactApplyStep', WHERE WHAT IT READS IS OF BULK AT MOST 1048576: true; the input reads as it did. -/
def fnExactApplyStepUptoRow : OpenClaim := { program := "ytmahgnmacakfnaa", sum := "a53cacdb27610022dbcbb28ed4d213447be5178d98db4fc0d7e46dbd1e60df1b", func := "loop.example/g01004/laws.FnExactApplyStep", spec := "fnExactApplyStep", apart := false, narrowed := true }
def FnExactApplyStepUptoSaid : Prop := fnExactApplyStepUptoRow.holds Try.pinned (OpenSpec.upto fnExactApplyStepSpec)

/-- 'laws.FnExactInverseLog', WHERE WHAT IT READS IS OF BULK AT MOST 1048576: true; the input reads as it did. -/
def fnExactInverseLogUptoRow : OpenClaim := { program := "ytmahgnmacakfnaa", sum := "a53cacdb27610022dbcbb28ed4d213447be5178d98db4fc0d7e46dbd1e60df1b", func := "loop.example/g01004/laws.FnExactInverseLog", spec := "fnExactInverseLog", apart := false, narrowed := true }
def FnExactInverseLogUptoSaid : Prop := fnExactInverseLogUptoRow.holds Try.pinned (OpenSpec.upto fnExactInverseLogSpec)

/-- 'laws.FnExactShortenLog', WHERE WHAT IT READS IS OF BULK AT MOST 1048576: true; the input reads as it did. -/
def fnExactShortenLogUptoRow : OpenClaim := { program := "ytmahgnmacakfnaa", sum := "a53cacdb27610022dbcbb28ed4d213447be5178d98db4fc0d7e46dbd1e60df1b", func := "loop.example/g01004/laws.FnExactShortenLog", spec := "fnExactShortenLog", apart := false, narrowed := true }
def FnExactShortenLogUptoSaid : Prop := fnExactShortenLogUptoRow.holds Try.pinned (OpenSpec.upto fnExactShortenLogSpec)

/-- 'laws.FnExactCheckLog', WHERE WHAT IT READS IS OF BULK AT MOST 1048576: true; the input reads as it did. -/
def fnExactCheckLogUptoRow : OpenClaim := { program := "ytmahgnmacakfnaa", sum := "a53cacdb27610022dbcbb28ed4d213447be5178d98db4fc0d7e46dbd1e60df1b", func := "loop.example/g01004/laws.FnExactCheckLog", spec := "fnExactCheckLog", apart := false, narrowed := true }
def FnExactCheckLogUptoSaid : Prop := fnExactCheckLogUptoRow.holds Try.pinned (OpenSpec.upto fnExactCheckLogSpec)

/-- 'laws.FnExactReplayLog', WHERE WHAT IT READS IS OF BULK AT MOST 1048576: true; the input reads as it did. -/
def fnExactReplayLogUptoRow : OpenClaim := { program := "ytmahgnmacakfnaa", sum := "a53cacdb27610022dbcbb28ed4d213447be5178d98db4fc0d7e46dbd1e60df1b", func := "loop.example/g01004/laws.FnExactReplayLog", spec := "fnExactReplayLog", apart := false, narrowed := true }
def FnExactReplayLogUptoSaid : Prop := fnExactReplayLogUptoRow.holds Try.pinned (OpenSpec.upto fnExactReplayLogSpec)

/-- 'laws.FnExactCurvesOfLog', WHERE WHAT IT READS IS OF BULK AT MOST 1048576: true; the input reads as it did. -/
def fnExactCurvesOfLogUptoRow : OpenClaim := { program := "ytmahgnmacakfnaa", sum := "a53cacdb27610022dbcbb28ed4d213447be5178d98db4fc0d7e46dbd1e60df1b", func := "loop.example/g01004/laws.FnExactCurvesOfLog", spec := "fnExactCurvesOfLog", apart := false, narrowed := true }
def FnExactCurvesOfLogUptoSaid : Prop := fnExactCurvesOfLogUptoRow.holds Try.pinned (OpenSpec.upto fnExactCurvesOfLogSpec)

/-- 'laws.FnLogs', WHERE WHAT IT READS IS OF BULK AT MOST 1048576: true; the input reads as it did. -/
def fnLogsUptoRow : OpenClaim := { program := "ytmahgnmacakfnaa", sum := "a53cacdb27610022dbcbb28ed4d213447be5178d98db4fc0d7e46dbd1e60df1b", func := "loop.example/g01004/laws.FnLogs", spec := "fnLogs", apart := false, narrowed := true }
def FnLogsUptoSaid : Prop := fnLogsUptoRow.holds Try.pinned (OpenSpec.upto fnLogsSpec)

end Rows
end Go.Proofs.Ytmahgnmacakfnaa
