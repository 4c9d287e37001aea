/-
  No cell of these rows narrows 'for every input' (looked for: loops, veiled, ifaces, maps, wideKeys, modest, calm, conditions, laid).
  DERIVED. THE GIVEN ROWS OF THIS SEAT. 9 by the template 'for every input the law returns true; each argument reads behind the call as it read before'; 0 by the template 'total and deterministic' (their statements: YtagmflioeelhjaaTotals.lean).
  GIVEN WITH THE SEED: the statements are not yours to turn. If you find one false, say at which input.
  Laid BY PROGRAM, IN A SANDBOX (cutbox-rows.mjs): the forced cells as the released guide's own fill.sh prints them over the translation 3658a32ca3a8561f… (all of the seat's roots in one cut). By AI agents, Wed Nov 11 2026. No macro, syntax, notation, axiom, sorry.
-/
import Derived.Test.YtagmflioeelhjaaChecked
import GoSem.Claim
import GoSem.ClaimJoined
import GoSem.ClaimMapViews
import Derived.JoinedTies
import Derived.KernelRfl
namespace Go.Proofs.Ytagmflioeelhjaa
/- THE CELL 'sum', in the pinned program and in every row, IS THE sha256 OF THE DUMP (.gsa) THAT YtagmflioeelhjaaProg.lean LOADS. Nothing in Lean hashes anything: it is a label: what it is worth is what the hold of that sum in a sandbox is worth. -/
noncomputable def Try.pinned : Pinned := { name := "ytagmflioeelhjaa", sum := "3658a32ca3a8561f54e9973086855f6fbb2d91abfc1502a1abb4160a90813147", checked := Try.checked }
namespace Rows
def none {H : Type} : Left H := { results := [], args := [] }

/-- 'laws.FnExactFormCounts': WHATEVER THE INPUT: true; the input reads as it did. -/
def fnExactFormCountsSpec : ChangeSpec := { name := "fnExactFormCounts", fn := fun _ => fun
  | [d] => { results := [.lit (.bool true)], args := [d] }
  | _ => none }
def fnExactFormCountsRow : OpenClaim := { program := "ytagmflioeelhjaa", sum := "3658a32ca3a8561f54e9973086855f6fbb2d91abfc1502a1abb4160a90813147", func := "loop.example/g01004/laws.FnExactFormCounts", spec := "fnExactFormCounts", apart := false }
def FnExactFormCountsSaid : Prop := fnExactFormCountsRow.holds Try.pinned (OpenSpec.ofChange fnExactFormCountsSpec)

/-- ITS FALSE NEIGHBOUR: 'it returns false'. Refute it at one input. -/
def fnExactFormCountsWrong : ChangeSpec := { name := "fnExactFormCounts", fn := fun _ => fun
  | [d] => { results := [.lit (.bool false)], args := [d] }
  | _ => none }
def FnExactFormCountsWrongFalsely : Prop := fnExactFormCountsRow.holds Try.pinned (OpenSpec.ofChange fnExactFormCountsWrong)

/-- 'laws.FnExactMayBeCongruent': WHATEVER THE INPUT: true; the input reads as it did. -/
def fnExactMayBeCongruentSpec : ChangeSpec := { name := "fnExactMayBeCongruent", fn := fun _ => fun
  | [d] => { results := [.lit (.bool true)], args := [d] }
  | _ => none }
def fnExactMayBeCongruentRow : OpenClaim := { program := "ytagmflioeelhjaa", sum := "3658a32ca3a8561f54e9973086855f6fbb2d91abfc1502a1abb4160a90813147", func := "loop.example/g01004/laws.FnExactMayBeCongruent", spec := "fnExactMayBeCongruent", apart := false }
def FnExactMayBeCongruentSaid : Prop := fnExactMayBeCongruentRow.holds Try.pinned (OpenSpec.ofChange fnExactMayBeCongruentSpec)

/-- ITS FALSE NEIGHBOUR: 'it returns false'. Refute it at one input. -/
def fnExactMayBeCongruentWrong : ChangeSpec := { name := "fnExactMayBeCongruent", fn := fun _ => fun
  | [d] => { results := [.lit (.bool false)], args := [d] }
  | _ => none }
def FnExactMayBeCongruentWrongFalsely : Prop := fnExactMayBeCongruentRow.holds Try.pinned (OpenSpec.ofChange fnExactMayBeCongruentWrong)

/-- 'laws.FnExactIsTriangle': WHATEVER THE INPUT: true; the input reads as it did. -/
def fnExactIsTriangleSpec : ChangeSpec := { name := "fnExactIsTriangle", fn := fun _ => fun
  | [d1, d2] => { results := [.lit (.bool true)], args := [d1, d2] }
  | _ => none }
def fnExactIsTriangleRow : OpenClaim := { program := "ytagmflioeelhjaa", sum := "3658a32ca3a8561f54e9973086855f6fbb2d91abfc1502a1abb4160a90813147", func := "loop.example/g01004/laws.FnExactIsTriangle", spec := "fnExactIsTriangle", apart := false }
def FnExactIsTriangleSaid : Prop := fnExactIsTriangleRow.holds Try.pinned (OpenSpec.ofChange fnExactIsTriangleSpec)

/-- ITS FALSE NEIGHBOUR: 'it returns false'. Refute it at one input. -/
def fnExactIsTriangleWrong : ChangeSpec := { name := "fnExactIsTriangle", fn := fun _ => fun
  | [d1, d2] => { results := [.lit (.bool false)], args := [d1, d2] }
  | _ => none }
def FnExactIsTriangleWrongFalsely : Prop := fnExactIsTriangleRow.holds Try.pinned (OpenSpec.ofChange fnExactIsTriangleWrong)

/-- 'laws.FnExactSquaresAround': WHATEVER THE INPUT: true; the input reads as it did. -/
def fnExactSquaresAroundSpec : ChangeSpec := { name := "fnExactSquaresAround", fn := fun _ => fun
  | [d1, d2] => { results := [.lit (.bool true)], args := [d1, d2] }
  | _ => none }
def fnExactSquaresAroundRow : OpenClaim := { program := "ytagmflioeelhjaa", sum := "3658a32ca3a8561f54e9973086855f6fbb2d91abfc1502a1abb4160a90813147", func := "loop.example/g01004/laws.FnExactSquaresAround", spec := "fnExactSquaresAround", apart := false }
def FnExactSquaresAroundSaid : Prop := fnExactSquaresAroundRow.holds Try.pinned (OpenSpec.ofChange fnExactSquaresAroundSpec)

/-- ITS FALSE NEIGHBOUR: 'it returns false'. Refute it at one input. -/
def fnExactSquaresAroundWrong : ChangeSpec := { name := "fnExactSquaresAround", fn := fun _ => fun
  | [d1, d2] => { results := [.lit (.bool false)], args := [d1, d2] }
  | _ => none }
def FnExactSquaresAroundWrongFalsely : Prop := fnExactSquaresAroundRow.holds Try.pinned (OpenSpec.ofChange fnExactSquaresAroundWrong)

/-- 'laws.FnExactScaledTriangle': WHATEVER THE INPUT: true; the input reads as it did. -/
def fnExactScaledTriangleSpec : ChangeSpec := { name := "fnExactScaledTriangle", fn := fun _ => fun
  | [d1, d2, d3] => { results := [.lit (.bool true)], args := [d1, d2, d3] }
  | _ => none }
def fnExactScaledTriangleRow : OpenClaim := { program := "ytagmflioeelhjaa", sum := "3658a32ca3a8561f54e9973086855f6fbb2d91abfc1502a1abb4160a90813147", func := "loop.example/g01004/laws.FnExactScaledTriangle", spec := "fnExactScaledTriangle", inPlace := ["math.sqrt"], apart := false }
def FnExactScaledTriangleSaid : Prop := fnExactScaledTriangleRow.holds Try.pinned (OpenSpec.ofChange fnExactScaledTriangleSpec)

/-- ITS FALSE NEIGHBOUR: 'it returns false'. Refute it at one input. -/
def fnExactScaledTriangleWrong : ChangeSpec := { name := "fnExactScaledTriangle", fn := fun _ => fun
  | [d1, d2, d3] => { results := [.lit (.bool false)], args := [d1, d2, d3] }
  | _ => none }
def FnExactScaledTriangleWrongFalsely : Prop := fnExactScaledTriangleRow.holds Try.pinned (OpenSpec.ofChange fnExactScaledTriangleWrong)

/-- 'laws.FnExactTriangleOf': WHATEVER THE INPUT: true; the input reads as it did. -/
def fnExactTriangleOfSpec : ChangeSpec := { name := "fnExactTriangleOf", fn := fun _ => fun
  | [d1, d2] => { results := [.lit (.bool true)], args := [d1, d2] }
  | _ => none }
def fnExactTriangleOfRow : OpenClaim := { program := "ytagmflioeelhjaa", sum := "3658a32ca3a8561f54e9973086855f6fbb2d91abfc1502a1abb4160a90813147", func := "loop.example/g01004/laws.FnExactTriangleOf", spec := "fnExactTriangleOf", apart := false }
def FnExactTriangleOfSaid : Prop := fnExactTriangleOfRow.holds Try.pinned (OpenSpec.ofChange fnExactTriangleOfSpec)

/-- ITS FALSE NEIGHBOUR: 'it returns false'. Refute it at one input. -/
def fnExactTriangleOfWrong : ChangeSpec := { name := "fnExactTriangleOf", fn := fun _ => fun
  | [d1, d2] => { results := [.lit (.bool false)], args := [d1, d2] }
  | _ => none }
def FnExactTriangleOfWrongFalsely : Prop := fnExactTriangleOfRow.holds Try.pinned (OpenSpec.ofChange fnExactTriangleOfWrong)

/-- 'laws.FnExactFirstTriangle': WHATEVER THE INPUT: true; the input reads as it did. -/
def fnExactFirstTriangleSpec : ChangeSpec := { name := "fnExactFirstTriangle", fn := fun _ => fun
  | [d1, d2] => { results := [.lit (.bool true)], args := [d1, d2] }
  | _ => none }
def fnExactFirstTriangleRow : OpenClaim := { program := "ytagmflioeelhjaa", sum := "3658a32ca3a8561f54e9973086855f6fbb2d91abfc1502a1abb4160a90813147", func := "loop.example/g01004/laws.FnExactFirstTriangle", spec := "fnExactFirstTriangle", inPlace := ["math.sqrt"], apart := false }
def FnExactFirstTriangleSaid : Prop := fnExactFirstTriangleRow.holds Try.pinned (OpenSpec.ofChange fnExactFirstTriangleSpec)

/-- ITS FALSE NEIGHBOUR: 'it returns false'. Refute it at one input. -/
def fnExactFirstTriangleWrong : ChangeSpec := { name := "fnExactFirstTriangle", fn := fun _ => fun
  | [d1, d2] => { results := [.lit (.bool false)], args := [d1, d2] }
  | _ => none }
def FnExactFirstTriangleWrongFalsely : Prop := fnExactFirstTriangleRow.holds Try.pinned (OpenSpec.ofChange fnExactFirstTriangleWrong)

/-- 'laws.FnExactPointOfTriangle': WHATEVER THE INPUT: true; the input reads as it did. -/
def fnExactPointOfTriangleSpec : ChangeSpec := { name := "fnExactPointOfTriangle", fn := fun _ => fun
  | [d1, d2] => { results := [.lit (.bool true)], args := [d1, d2] }
  | _ => none }
def fnExactPointOfTriangleRow : OpenClaim := { program := "ytagmflioeelhjaa", sum := "3658a32ca3a8561f54e9973086855f6fbb2d91abfc1502a1abb4160a90813147", func := "loop.example/g01004/laws.FnExactPointOfTriangle", spec := "fnExactPointOfTriangle", inPlace := ["math.sqrt"], apart := false }
def FnExactPointOfTriangleSaid : Prop := fnExactPointOfTriangleRow.holds Try.pinned (OpenSpec.ofChange fnExactPointOfTriangleSpec)

/-- ITS FALSE NEIGHBOUR: 'it returns false'. Refute it at one input. -/
def fnExactPointOfTriangleWrong : ChangeSpec := { name := "fnExactPointOfTriangle", fn := fun _ => fun
  | [d1, d2] => { results := [.lit (.bool false)], args := [d1, d2] }
  | _ => none }
def FnExactPointOfTriangleWrongFalsely : Prop := fnExactPointOfTriangleRow.holds Try.pinned (OpenSpec.ofChange fnExactPointOfTriangleWrong)

/-- 'laws.FnTriangles': WHATEVER THE INPUT: true; the input reads as it did. -/
def fnTrianglesSpec : ChangeSpec := { name := "fnTriangles", fn := fun _ => fun
  | [d1, d2] => { results := [.lit (.bool true)], args := [d1, d2] }
  | _ => none }
def fnTrianglesRow : OpenClaim := { program := "ytagmflioeelhjaa", sum := "3658a32ca3a8561f54e9973086855f6fbb2d91abfc1502a1abb4160a90813147", func := "loop.example/g01004/laws.FnTriangles", spec := "fnTriangles", inPlace := ["math.sqrt"], apart := false }
def FnTrianglesSaid : Prop := fnTrianglesRow.holds Try.pinned (OpenSpec.ofChange fnTrianglesSpec)

/-- ITS FALSE NEIGHBOUR: 'it returns false'. Refute it at one input. -/
def fnTrianglesWrong : ChangeSpec := { name := "fnTriangles", fn := fun _ => fun
  | [d1, d2] => { results := [.lit (.bool false)], args := [d1, d2] }
  | _ => none }
def FnTrianglesWrongFalsely : Prop := fnTrianglesRow.holds Try.pinned (OpenSpec.ofChange fnTrianglesWrong)

/- THE SECOND FORM. 'bulk': how many values and letters a reading holds, each counted each time it is reached (what is shared counts as often as it is met; a slice's spare places count too). A statement '..UptoSaid' is the law's where the arguments, and the package variables that the reading takes, are together of bulk at most 1048576: NARROWER than '..Said'. Prove '..Said' where nothing that the law and all that it calls make is longer than what came in: it says more and counts as full. Else prove '..UptoSaid'. A law counts once. -/
mutual
def uptoBulk {H : Type} : DataW H → Nat
  | .lit (.string bytes) => bytes.length + 1
  | .lit _ => 1
  | .nil => 1
  | .ptr d => uptoBulk d + 1
  | .slice elems spare => uptoBulkAll elems + uptoBulkAll spare + 1
  | .agg parts => uptoBulkAll parts + 1
  | .iface _ d => uptoBulk d + 1
  | .map entries => uptoBulkEntries entries + 1
  | .held _ => 1
def uptoBulkAll {H : Type} : List (DataW H) → Nat
  | [] => 0
  | d :: r => uptoBulk d + uptoBulkAll r
def uptoBulkEntries {H : Type} : List (Lit × DataW H) → Nat
  | [] => 0
  | x :: r => uptoBulkEntry x + uptoBulkEntries r
def uptoBulkEntry {H : Type} : Lit × DataW H → Nat
  | (.string bytes, d) => bytes.length + uptoBulk d + 1
  | (_, d) => uptoBulk d + 1
 end
def uptoSmall : (H : Type) → List (DataW H) → Bool := fun _ ds => decide (uptoBulkAll ds ≤ 1048576)
def OpenSpec.upto (s : _root_.Go.ChangeSpec) : _root_.Go.OpenSpec := { _root_.Go.OpenSpec.ofChange s with cond := some uptoSmall }

/-- 'laws.FnExactFormCounts', WHERE WHAT IT READS IS OF BULK AT MOST 1048576: true; the input reads as it did. -/
def fnExactFormCountsUptoRow : OpenClaim := { program := "ytagmflioeelhjaa", sum := "3658a32ca3a8561f54e9973086855f6fbb2d91abfc1502a1abb4160a90813147", func := "loop.example/g01004/laws.FnExactFormCounts", spec := "fnExactFormCounts", apart := false, narrowed := true }
def FnExactFormCountsUptoSaid : Prop := fnExactFormCountsUptoRow.holds Try.pinned (OpenSpec.upto fnExactFormCountsSpec)

/-- 'laws.FnExactMayBeCongruent', WHERE WHAT IT READS IS OF BULK AT MOST 1048576: true; the input reads as it did. -/
def fnExactMayBeCongruentUptoRow : OpenClaim := { program := "ytagmflioeelhjaa", sum := "3658a32ca3a8561f54e9973086855f6fbb2d91abfc1502a1abb4160a90813147", func := "loop.example/g01004/laws.FnExactMayBeCongruent", spec := "fnExactMayBeCongruent", apart := false, narrowed := true }
def FnExactMayBeCongruentUptoSaid : Prop := fnExactMayBeCongruentUptoRow.holds Try.pinned (OpenSpec.upto fnExactMayBeCongruentSpec)

/-- 'laws.FnExactIsTriangle', WHERE WHAT IT READS IS OF BULK AT MOST 1048576: true; the input reads as it did. -/
def fnExactIsTriangleUptoRow : OpenClaim := { program := "ytagmflioeelhjaa", sum := "3658a32ca3a8561f54e9973086855f6fbb2d91abfc1502a1abb4160a90813147", func := "loop.example/g01004/laws.FnExactIsTriangle", spec := "fnExactIsTriangle", apart := false, narrowed := true }
def FnExactIsTriangleUptoSaid : Prop := fnExactIsTriangleUptoRow.holds Try.pinned (OpenSpec.upto fnExactIsTriangleSpec)

/-- 'laws.FnExactSquaresAround', WHERE WHAT IT READS IS OF BULK AT MOST 1048576: true; the input reads as it did. -/
def fnExactSquaresAroundUptoRow : OpenClaim := { program := "ytagmflioeelhjaa", sum := "3658a32ca3a8561f54e9973086855f6fbb2d91abfc1502a1abb4160a90813147", func := "loop.example/g01004/laws.FnExactSquaresAround", spec := "fnExactSquaresAround", apart := false, narrowed := true }
def FnExactSquaresAroundUptoSaid : Prop := fnExactSquaresAroundUptoRow.holds Try.pinned (OpenSpec.upto fnExactSquaresAroundSpec)

/-- 'laws.FnExactScaledTriangle', WHERE WHAT IT READS IS OF BULK AT MOST 1048576: true; the input reads as it did. -/
def fnExactScaledTriangleUptoRow : OpenClaim := { program := "ytagmflioeelhjaa", sum := "3658a32ca3a8561f54e9973086855f6fbb2d91abfc1502a1abb4160a90813147", func := "loop.example/g01004/laws.FnExactScaledTriangle", spec := "fnExactScaledTriangle", inPlace := ["math.sqrt"], apart := false, narrowed := true }
def FnExactScaledTriangleUptoSaid : Prop := fnExactScaledTriangleUptoRow.holds Try.pinned (OpenSpec.upto fnExactScaledTriangleSpec)

/-- 'laws.FnExactTriangleOf', WHERE WHAT IT READS IS OF BULK AT MOST 1048576: true; the input reads as it did. -/
def fnExactTriangleOfUptoRow : OpenClaim := { program := "ytagmflioeelhjaa", sum := "3658a32ca3a8561f54e9973086855f6fbb2d91abfc1502a1abb4160a90813147", func := "loop.example/g01004/laws.FnExactTriangleOf", spec := "fnExactTriangleOf", apart := false, narrowed := true }
def FnExactTriangleOfUptoSaid : Prop := fnExactTriangleOfUptoRow.holds Try.pinned (OpenSpec.upto fnExactTriangleOfSpec)

/-- 'laws.FnExactFirstTriangle', WHERE WHAT IT READS IS OF BULK AT MOST 1048576: true; the input reads as it did. -/
def fnExactFirstTriangleUptoRow : OpenClaim := { program := "ytagmflioeelhjaa", sum := "3658a32ca3a8561f54e9973086855f6fbb2d91abfc1502a1abb4160a90813147", func := "loop.example/g01004/laws.FnExactFirstTriangle", spec := "fnExactFirstTriangle", inPlace := ["math.sqrt"], apart := false, narrowed := true }
def FnExactFirstTriangleUptoSaid : Prop := fnExactFirstTriangleUptoRow.holds Try.pinned (OpenSpec.upto fnExactFirstTriangleSpec)

/-- 'laws.FnExactPointOfTriangle', WHERE WHAT IT READS IS OF BULK AT MOST 1048576: true; the input reads as it did. -/
def fnExactPointOfTriangleUptoRow : OpenClaim := { program := "ytagmflioeelhjaa", sum := "3658a32ca3a8561f54e9973086855f6fbb2d91abfc1502a1abb4160a90813147", func := "loop.example/g01004/laws.FnExactPointOfTriangle", spec := "fnExactPointOfTriangle", inPlace := ["math.sqrt"], apart := false, narrowed := true }
def FnExactPointOfTriangleUptoSaid : Prop := fnExactPointOfTriangleUptoRow.holds Try.pinned (OpenSpec.upto fnExactPointOfTriangleSpec)

/-- 'laws.FnTriangles', WHERE WHAT IT READS IS OF BULK AT MOST 1048576: true; the input reads as it did. -/
def fnTrianglesUptoRow : OpenClaim := { program := "ytagmflioeelhjaa", sum := "3658a32ca3a8561f54e9973086855f6fbb2d91abfc1502a1abb4160a90813147", func := "loop.example/g01004/laws.FnTriangles", spec := "fnTriangles", inPlace := ["math.sqrt"], apart := false, narrowed := true }
def FnTrianglesUptoSaid : Prop := fnTrianglesUptoRow.holds Try.pinned (OpenSpec.upto fnTrianglesSpec)

end Rows
end Go.Proofs.Ytagmflioeelhjaa
