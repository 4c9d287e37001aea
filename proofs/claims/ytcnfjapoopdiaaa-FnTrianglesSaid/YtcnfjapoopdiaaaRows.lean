/-
  No cell of these rows narrows 'for every input' (looked for: loops, veiled, ifaces, maps, wideKeys, modest, calm, conditions, laid).
  DERIVED. THE GIVEN ROWS OF THIS SEAT. 2 by the template 'for every input the law returns true; each argument reads behind the call as it read before'; 0 by the template 'total and deterministic' (their statements: YtcnfjapoopdiaaaTotals.lean).
  GIVEN WITH THE SEED: the statements are not yours to turn. If you find one false, say at which input.
  Laid BY PROGRAM, IN A SANDBOX (cutbox-rows.mjs): the forced cells as the released guide's own fill.sh prints them over the translation 88d1f0c22ddba4ec… (all of the seat's roots in one cut). By AI agents, Wed Nov 11 2026. No macro, syntax, notation, axiom, sorry.
-/
import Derived.Test.YtcnfjapoopdiaaaChecked
import GoSem.Claim
import GoSem.ClaimJoined
import GoSem.ClaimMapViews
import Derived.JoinedTies
import Derived.KernelRfl
namespace Go.Proofs.Ytcnfjapoopdiaaa
/- THE CELL 'sum', in the pinned program and in every row, IS THE sha256 OF THE DUMP (.gsa) THAT YtcnfjapoopdiaaaProg.lean LOADS. Nothing in Lean hashes anything: it is a label: what it is worth is what the hold of that sum in a sandbox is worth. -/
noncomputable def Try.pinned : Pinned := { name := "ytcnfjapoopdiaaa", sum := "88d1f0c22ddba4ecebad39b667c859890ced645a88dfce3c9ce03bcff557c09f", checked := Try.checked }
namespace Rows
def none {H : Type} : Left H := { results := [], args := [] }

/-- 'laws.FnExactTriangleOf': WHATEVER THE INPUT: true; the input reads as it did. -/
def fnExactTriangleOfSpec : ChangeSpec := { name := "fnExactTriangleOf", fn := fun _ => fun
  | [d1, d2] => { results := [.lit (.bool true)], args := [d1, d2] }
  | _ => none }
def fnExactTriangleOfRow : OpenClaim := { program := "ytcnfjapoopdiaaa", sum := "88d1f0c22ddba4ecebad39b667c859890ced645a88dfce3c9ce03bcff557c09f", func := "loop.example/g01004/laws.FnExactTriangleOf", spec := "fnExactTriangleOf", apart := false }
def FnExactTriangleOfSaid : Prop := fnExactTriangleOfRow.holds Try.pinned (OpenSpec.ofChange fnExactTriangleOfSpec)

/-- ITS FALSE NEIGHBOUR: 'it returns false'. Refute it at one input. -/
def fnExactTriangleOfWrong : ChangeSpec := { name := "fnExactTriangleOf", fn := fun _ => fun
  | [d1, d2] => { results := [.lit (.bool false)], args := [d1, d2] }
  | _ => none }
def FnExactTriangleOfWrongFalsely : Prop := fnExactTriangleOfRow.holds Try.pinned (OpenSpec.ofChange fnExactTriangleOfWrong)

/-- 'laws.FnTriangles': WHATEVER THE INPUT: true; the input reads as it did. -/
def fnTrianglesSpec : ChangeSpec := { name := "fnTriangles", fn := fun _ => fun
  | [d1, d2] => { results := [.lit (.bool true)], args := [d1, d2] }
  | _ => none }
def fnTrianglesRow : OpenClaim := { program := "ytcnfjapoopdiaaa", sum := "88d1f0c22ddba4ecebad39b667c859890ced645a88dfce3c9ce03bcff557c09f", func := "loop.example/g01004/laws.FnTriangles", spec := "fnTriangles", inPlace := ["math.sqrt"], apart := false }
def FnTrianglesSaid : Prop := fnTrianglesRow.holds Try.pinned (OpenSpec.ofChange fnTrianglesSpec)

/-- ITS FALSE NEIGHBOUR: 'it returns false'. Refute it at one input. -/
def fnTrianglesWrong : ChangeSpec := { name := "fnTriangles", fn := fun _ => fun
  | [d1, d2] => { results := [.lit (.bool false)], args := [d1, d2] }
  | _ => none }
def FnTrianglesWrongFalsely : Prop := fnTrianglesRow.holds Try.pinned (OpenSpec.ofChange fnTrianglesWrong)

/- THE SECOND FORM. 'bulk': how many values and letters a reading holds, each counted each time it is reached (what is shared counts as often as it is met; a slice's spare places count too). A statement '..UptoSaid' is the law's where the arguments, and the package variables that the reading takes, are together of bulk at most 1048576: NARROWER than '..Said'. Prove '..Said' where nothing that the law and all that it calls make is longer than what came in: it says more and counts as full. Else prove '..UptoSaid'. A law counts once. -/
mutual
def uptoBulk {H : Type} : DataW H → Nat
  | .lit (.string bytes) => bytes.length + 1
  | .lit _ => 1
  | .nil => 1
  | .ptr d => uptoBulk d + 1
  | .slice elems spare => uptoBulkAll elems + uptoBulkAll spare + 1
  | .agg parts => uptoBulkAll parts + 1
  | .iface _ d => uptoBulk d + 1
  | .map entries => uptoBulkEntries entries + 1
  | .held _ => 1
def uptoBulkAll {H : Type} : List (DataW H) → Nat
  | [] => 0
  | d :: r => uptoBulk d + uptoBulkAll r
def uptoBulkEntries {H : Type} : List (Lit × DataW H) → Nat
  | [] => 0
  | x :: r => uptoBulkEntry x + uptoBulkEntries r
def uptoBulkEntry {H : Type} : Lit × DataW H → Nat
  | (.string bytes, d) => bytes.length + uptoBulk d + 1
  | (_, d) => uptoBulk d + 1
 end
def uptoSmall : (H : Type) → List (DataW H) → Bool := fun _ ds => decide (uptoBulkAll ds ≤ 1048576)
def OpenSpec.upto (s : _root_.Go.ChangeSpec) : _root_.Go.OpenSpec := { _root_.Go.OpenSpec.ofChange s with cond := some uptoSmall }

/-- 'laws.FnExactTriangleOf', WHERE WHAT IT READS IS OF BULK AT MOST 1048576: true; the input reads as it did. -/
def fnExactTriangleOfUptoRow : OpenClaim := { program := "ytcnfjapoopdiaaa", sum := "88d1f0c22ddba4ecebad39b667c859890ced645a88dfce3c9ce03bcff557c09f", func := "loop.example/g01004/laws.FnExactTriangleOf", spec := "fnExactTriangleOf", apart := false, narrowed := true }
def FnExactTriangleOfUptoSaid : Prop := fnExactTriangleOfUptoRow.holds Try.pinned (OpenSpec.upto fnExactTriangleOfSpec)

/-- 'laws.FnTriangles', WHERE WHAT IT READS IS OF BULK AT MOST 1048576: true; the input reads as it did. -/
def fnTrianglesUptoRow : OpenClaim := { program := "ytcnfjapoopdiaaa", sum := "88d1f0c22ddba4ecebad39b667c859890ced645a88dfce3c9ce03bcff557c09f", func := "loop.example/g01004/laws.FnTriangles", spec := "fnTriangles", inPlace := ["math.sqrt"], apart := false, narrowed := true }
def FnTrianglesUptoSaid : Prop := fnTrianglesUptoRow.holds Try.pinned (OpenSpec.upto fnTrianglesSpec)

end Rows
end Go.Proofs.Ytcnfjapoopdiaaa
