/- Regions: an operation that leaves a value and a world, both known up to a predicate. -/
import Derived.Test.YtgjdgcmmlfmhmaaGreatDoorChain
namespace Go.Proofs.YtgjdgcmmlfmhmaaGreatDoor
open Go.RowKit

section
variable {P : Program} {ops : Array Oper} {Q : Exit → Act → World → Prop} {ex : List Nat} {W : World} {D : World → Prop}
/-- an operation that leaves a value and a world, both known up to a predicate -/
theorem stepV {a : Act} {listed : Array Bool} {f i : Nat} {o : Oper} (dd : Option Tmp) (D' : Value → World → Prop) (ho : ops[i]? = some o) (hw : Region.wanted o (yielded ops a.tmps) = true)
    (hdd : o.dst = dd) (hD' : ∀ v, Closed (D' v))
    (hrun : ∀ w, Over ex W w → D w → ∃ v w', (execOp a.eval o).run P w = .ok (.value v) w' ∧ Over ex W w' ∧ D' v w')
    (h : ∀ v, (∃ w, Over ex W w ∧ D' v w) → wpAnyF P ops Q ex W (fun _ => false) f (listed.setIfInBounds i true) (a.put dd v) (fun _ => True) (D' v)) :
    StepF P ops Q ex W (fun _ => false) f listed a (fun _ => True) D i := fun w hO hd => by
  unfold wpOp
  simp only [ho, hw, if_true]
  refine .inl ?_
  obtain ⟨v, w', h1, h2, h3⟩ := hrun w hO hd
  unfold Oper.wp
  rw [h1]
  simp only [Oper.upon]
  rw [hdd]
  exact ⟨fun _ => True, D' v, hD' v, fun _ _ => trivial, fun _ => rfl, h2, h3, h v ⟨w', h2, h3⟩⟩
end
end Go.Proofs.YtgjdgcmmlfmhmaaGreatDoor
