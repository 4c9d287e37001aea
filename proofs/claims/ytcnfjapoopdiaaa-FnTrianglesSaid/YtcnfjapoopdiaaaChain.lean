/- Regions that draw their order, whose state-turning calls stand in a chain: the quiet operations first, then the calls. -/
import Derived.Test.YtcnfjapoopdiaaaCls
namespace Go.Proofs.Ytcnfjapoopdiaaa
open Go.RowKit

theorem Over.belowGe {ex : List Nat} {B : Nat} {a W w : World} (h : Over ex W w) (hB : Below B a W) (hs : B ≤ W.heap.size) (hx : ∀ k ∈ ex, B ≤ k) : Below B a w :=
  ⟨h.os.trans hB.os, h.tape.trans hB.tape, h.output.trans hB.output, Nat.le_trans hB.size h.size, fun k hk => (h.block k (Nat.lt_of_lt_of_le hk hs) (fun hm => by have := hx k hm; omega)).trans (hB.block k hk)⟩
section
variable {P : Program} {ops : Array Oper} {Q : Exit → Act → World → Prop} {ex : List Nat} {W : World} {D : World → Prop}
theorem stepC_calle {a : Act} {listed : Array Bool} {f i fn : Nat} {o : Oper} {args : Array Value} (dd : Option Tmp) (D' : Value → World → Prop) (ho : ops[i]? = some o) (hw : Region.wanted o (yielded ops a.tmps) = true)
    (hdd : o.dst = dd) (hrun : ∀ w, (execOp a.eval o).run P w = .ok (.enter fn args) w) (hD' : ∀ v, Closed (D' v))
    (hc : ∀ w, Over ex W w → D w → Calls P fn args w fun e w' => ∃ v, e = .returned v ∧ Over ex w w' ∧ D' v w')
    (h : ∀ v, (∃ w, Over ex W w ∧ D' v w) → wpAnyF P ops Q ex W (fun _ => false) f (listed.setIfInBounds i true) (a.put dd v) (fun _ => True) (D' v)) :
    StepF P ops Q ex W (fun _ => false) f listed a (fun _ => True) D i := fun w hO hd => by
  unfold wpOp
  simp only [ho, hw, if_true]
  refine .inl ?_
  unfold Oper.wp
  rw [hrun w]
  refine (hc w hO hd).mono fun e w' ⟨v, he, ho', hd'⟩ => ?_
  subst he
  rw [hdd]
  exact ⟨fun _ => True, D' v, hD' v, fun _ _ => trivial, fun _ => rfl, hO.trans ho', hd', h v ⟨w', hO.trans ho', hd'⟩⟩
theorem stepC_call {a : Act} {listed : Array Bool} {f i fn : Nat} {o : Oper} {args : Array Value} {v : Value} (dd : Option Tmp) (D' : World → Prop) (ho : ops[i]? = some o) (hw : Region.wanted o (yielded ops a.tmps) = true)
    (hdd : o.dst = dd) (hrun : ∀ w, (execOp a.eval o).run P w = .ok (.enter fn args) w) (hD' : Closed D')
    (hc : ∀ w, Over ex W w → D w → Calls P fn args w fun e w' => e = .returned v ∧ Over ex w w' ∧ D' w')
    (h : (∃ w, Over ex W w ∧ D' w) → wpAnyF P ops Q ex W (fun _ => false) f (listed.setIfInBounds i true) (a.put dd v) (fun _ => True) D') :
    StepF P ops Q ex W (fun _ => false) f listed a (fun _ => True) D i :=
  stepF_call (fun _ => True) D' ho hw hrun hD' (fun _ _ => trivial) (fun _ => rfl) hc (by rw [hdd]; exact h)
theorem stepC_store {a : Act} {listed : Array Bool} {f i : Nat} {o : Oper} (r : Nat) (zs : Array Value) {T : TypeId} {x y : Operand} {v : Value} (D' : World → Prop) (ho : ops[i]? = some o) (hw : Region.wanted o (yielded ops a.tmps) = true)
    (hop : o.op = .store T x y) (hdst : o.dst = none) (hx : a.eval x = .pointer (some ⟨r, 0, none⟩)) (hy : a.eval y = v) (hsz : ∀ w, (sizeOf T).run P w = .ok zs.size w) (hl : v.cells.size = zs.size) (hv : ∀ u ∈ v.cells.toList, one1 u = true)
    (hr : W.heap.size ≤ r ∨ r ∈ ex) (hB : ∀ w, D w → Blk r zs T w) (hD' : Closed D') (hDD : ∀ w w', D w → Over [r] w w' → Blk r v.cells T w' → D' w')
    (h : (∃ w, Over ex W w ∧ D' w) → wpAnyF P ops Q ex W (fun _ => false) f (listed.setIfInBounds i true) a (fun _ => True) D') :
    StepF P ops Q ex W (fun _ => false) f listed a (fun _ => True) D i := fun w hO hd => by
  unfold wpOp
  simp only [ho, hw, if_true]
  refine .inl ?_
  obtain ⟨w', h1, h2, h3⟩ := run_store_blk (P := P) hsz hl hv (hB w hd)
  have hrun : (execOp a.eval o).run P w = .ok .skip w' := by
    unfold execOp
    rw [hop]
    simp only [hx, hy]
    simp [h1]
  unfold Oper.wp
  rw [hrun]
  simp only [Oper.upon, hdst, Act.put]
  have hO' : Over ex W w' := ⟨h2.os.trans hO.os, h2.tape.trans hO.tape, h2.output.trans hO.output, Nat.le_trans hO.size h2.size, fun k hk hn => (h2.block k (Nat.lt_of_lt_of_le hk hO.size) (by
    intro hkr
    rw [List.mem_singleton] at hkr
    subst hkr
    rcases hr with hr | hr
    · omega
    · exact hn hr)).trans (hO.block k hk hn)⟩
  exact ⟨fun _ => True, D', hD', fun _ _ => trivial, fun _ => rfl, hO', hDD _ _ hd h2 h3, h ⟨w', hO', hDD _ _ hd h2 h3⟩⟩
theorem wpAnyF_weaken {D D2 N : World → Prop} {R : Nat → Bool} (h : ∀ w, D w → D2 w) : ∀ {f : Nat} {l : Array Bool} {a : Act}, wpAnyF P ops Q ex W R f l a N D2 → wpAnyF P ops Q ex W R f l a N D
  | 0, _, _, k => ⟨k.1, fun w ho hd => k.2 w ho (h w hd)⟩
  | _ + 1, _, _, k => ⟨fun h0 w ho hd => k.1 h0 w ho (h w hd), fun i hi w ho hd => k.2 i hi w ho (h w hd)⟩
theorem KD.perm {C : World → Prop} {L L' : List (Nat × Array Value × TypeId)} (h : ∀ x ∈ L', x ∈ L) : ∀ w, KD C L w → KD C L' w := fun _ k => ⟨k.1, fun x hx => k.2 x (h x hx)⟩
/-- the states of a region, each shown once -/
theorem dag_start {f : Nat} {l : Array Bool} {a : Act} (h : ∀ F : Nat → Array Bool → Act → (World → Prop) → Prop, (∀ f l a D, wpAnyF P ops Q ex W (fun _ => false) f l a (fun _ => True) D → F f l a D) → (∀ f l a D, F f l a D → wpAnyF P ops Q ex W (fun _ => false) f l a (fun _ => True) D) → F f l a D) : wpAnyF P ops Q ex W (fun _ => false) f l a (fun _ => True) D :=
  h (fun f l a D => wpAnyF P ops Q ex W (fun _ => false) f l a (fun _ => True) D) (fun _ _ _ _ h => h) (fun _ _ _ _ h => h)
end
end Go.Proofs.Ytcnfjapoopdiaaa
