/- Regions that draw their order: what a call tells is known behind it. (The same lemmas stand in NumT.) -/
import Derived.Test.YtcnfjapoopdiaaaChain
namespace Go.Proofs.Ytcnfjapoopdiaaa
open Go.RowKit

section
variable {P : Program} {ops : Array Oper} {Q : Exit → Act → World → Prop} {ex : List Nat} {W : World} {N D : World → Prop}
theorem wpAnyF_N : ∀ {f : Nat} {l : Array Bool} {a : Act} {N' D : World → Prop}, wpAnyF P ops Q ex W (fun _ => false) f l a N' D → wpAnyF P ops Q ex W (fun _ => false) f l a (fun _ => True) D
  | 0, _, _, _, _, k => k
  | _ + 1, _, _, _, _, k => ⟨k.1, fun i hi w ho hd => wpOp_mono (fun _ _ ⟨_, D', h1, _, _, h4, h5, h6⟩ => ⟨fun _ => True, D', h1, fun _ _ => trivial, fun _ => rfl, h4, h5, wpAnyF_N h6⟩) (k.2 i hi w ho hd)⟩
theorem stepN_call {a : Act} {listed : Array Bool} {f i fn : Nat} {o : Oper} {args : Array Value} {v : Value} (dd : Option Tmp) (D' : World → Prop) (ho : ops[i]? = some o) (hw : Region.wanted o (yielded ops a.tmps) = true)
    (hdd : o.dst = dd) (hrun : ∀ w, (execOp a.eval o).run P w = .ok (.enter fn args) w) (hD' : Closed D') (hN : ∀ w, D' w → N w)
    (hc : ∀ w, Over ex W w → D w → Calls P fn args w fun e w' => e = .returned v ∧ Over ex w w' ∧ D' w')
    (h : (∃ w, Over ex W w ∧ D' w) → wpAnyF P ops Q ex W (fun _ => false) f (listed.setIfInBounds i true) (a.put dd v) N D') :
    StepF P ops Q ex W (fun _ => false) f listed a N D i :=
  stepF_call N D' ho hw hrun hD' hN (fun _ => rfl) hc (by rw [hdd]; exact h)
theorem stepN_new {a : Act} {listed : Array Bool} {f i d : Nat} {o : Oper} (F : Nat → Value) (zs : Array Value) (T : TypeId) (ho : ops[i]? = some o) (hw : Region.wanted o (yielded ops a.tmps) = true) (hd : o.dst = some d)
    (hrun : ∀ w, (execOp a.eval o).run P w = .ok (.value (F w.heap.size)) (w.alloc (.cells zs T))) (hD : Closed D)
    (h : ∀ r, W.heap.size ≤ r → (∃ w, Over ex W w ∧ (D w ∧ Blk r zs T w)) → wpAnyF P ops Q ex W (fun _ => false) f (listed.setIfInBounds i true) (a.put (some d) (F r)) (fun _ => True) (fun w => D w ∧ Blk r zs T w)) :
    StepF P ops Q ex W (fun _ => false) f listed a (fun _ => True) D i := fun w hO hd' => by
  unfold wpOp
  simp only [ho, hw, if_true]
  refine .inl ?_
  unfold Oper.wp
  rw [hrun w]
  simp only [Oper.upon, hd]
  have h1 : D (w.alloc (.cells zs T)) ∧ Blk w.heap.size zs T (w.alloc (.cells zs T)) := ⟨hD _ _ hd' ((Below.refl _ _).alloc (Nat.le_refl _) (.cells zs T)), Blk.new w zs T⟩
  exact ⟨fun _ => True, fun w' => D w' ∧ Blk w.heap.size zs T w', hD.and (Blk.closed _ _ _), fun _ _ => trivial, fun _ => rfl, hO.alloc _, h1, h w.heap.size hO.size ⟨_, hO.alloc _, h1⟩⟩
end
end Go.Proofs.Ytcnfjapoopdiaaa
