/- Regions that draw their order, whose state-turning calls stand in a chain: the quiet operations first, then the calls. -/
import Derived.Test.YtmahgnmacakfnaaCls
namespace Go.Proofs.Ytmahgnmacakfnaa
open Go.RowKit

section
variable {P : Program} {ops : Array Oper} {Q : Exit → Act → World → Prop} {ex : List Nat} {W : World} {D : World → Prop}
theorem stepC_calle {a : Act} {listed : Array Bool} {f i fn : Nat} {o : Oper} {args : Array Value} (dd : Option Tmp) (D' : Value → World → Prop) (ho : ops[i]? = some o) (hw : Region.wanted o (yielded ops a.tmps) = true)
    (hdd : o.dst = dd) (hrun : ∀ w, (execOp a.eval o).run P w = .ok (.enter fn args) w) (hD' : ∀ v, Closed (D' v))
    (hc : ∀ w, Over ex W w → D w → Calls P fn args w fun e w' => ∃ v, e = .returned v ∧ Over ex w w' ∧ D' v w')
    (h : ∀ v, (∃ w, Over ex W w ∧ D' v w) → wpAnyF P ops Q ex W (fun _ => false) f (listed.setIfInBounds i true) (a.put dd v) (fun _ => True) (D' v)) :
    StepF P ops Q ex W (fun _ => false) f listed a (fun _ => True) D i := fun w hO hd => by
  unfold wpOp
  simp only [ho, hw, if_true]
  refine .inl ?_
  unfold Oper.wp
  rw [hrun w]
  refine (hc w hO hd).mono fun e w' ⟨v, he, ho', hd'⟩ => ?_
  subst he
  rw [hdd]
  exact ⟨fun _ => True, D' v, hD' v, fun _ _ => trivial, fun _ => rfl, hO.trans ho', hd', h v ⟨w', hO.trans ho', hd'⟩⟩
theorem stepC_call {a : Act} {listed : Array Bool} {f i fn : Nat} {o : Oper} {args : Array Value} {v : Value} (dd : Option Tmp) (D' : World → Prop) (ho : ops[i]? = some o) (hw : Region.wanted o (yielded ops a.tmps) = true)
    (hdd : o.dst = dd) (hrun : ∀ w, (execOp a.eval o).run P w = .ok (.enter fn args) w) (hD' : Closed D')
    (hc : ∀ w, Over ex W w → D w → Calls P fn args w fun e w' => e = .returned v ∧ Over ex w w' ∧ D' w')
    (h : (∃ w, Over ex W w ∧ D' w) → wpAnyF P ops Q ex W (fun _ => false) f (listed.setIfInBounds i true) (a.put dd v) (fun _ => True) D') :
    StepF P ops Q ex W (fun _ => false) f listed a (fun _ => True) D i :=
  stepF_call (fun _ => True) D' ho hw hrun hD' (fun _ _ => trivial) (fun _ => rfl) hc (by rw [hdd]; exact h)
end
end Go.Proofs.Ytmahgnmacakfnaa
