/- Regions that draw their order: one walk, the worlds taken by classes. -/
import Derived.BigQuiet
import Derived.Deep.QuietTactic
import Derived.Deep.RegionHeld3
import Derived.OrdersHeld
import Derived.Below
import Derived.WalkKit
namespace Go.Proofs.Ytcnfjapoopdiaaa
open Go.RowKit

/-- w is W but for new blocks and the blocks in ex -/
structure Over (ex : List Nat) (W w : World) : Prop where
  os : w.os = W.os
  tape : w.tape = W.tape
  output : w.output = W.output
  size : W.heap.size ≤ w.heap.size
  block : ∀ k, k < W.heap.size → k ∉ ex → w.heap[k]? = W.heap[k]?
theorem Over.refl (ex : List Nat) (W : World) : Over ex W W := ⟨rfl, rfl, rfl, Nat.le_refl _, fun _ _ _ => rfl⟩
theorem Over.of_below {ex : List Nat} {W w : World} (h : Below W.heap.size W w) : Over ex W w := ⟨h.os, h.tape, h.output, h.size, fun k hk _ => h.block k hk⟩
theorem Over.below {W w : World} (h : Over [] W w) : Below W.heap.size W w := ⟨h.os, h.tape, h.output, h.size, fun k hk => h.block k hk (by simp)⟩
theorem Over.trans {ex : List Nat} {W w w' : World} (h : Over ex W w) (k : Over ex w w') : Over ex W w' :=
  ⟨k.os.trans h.os, k.tape.trans h.tape, k.output.trans h.output, Nat.le_trans h.size k.size, fun i hi hn => (k.block i (Nat.lt_of_lt_of_le hi h.size) hn).trans (h.block i hi hn)⟩
theorem Over.next {ex : List Nat} {W w w' : World} (h : Over ex W w) (k : Below w.heap.size w w') : Over ex W w' := h.trans (.of_below k)
theorem Over.drew {ex : List Nat} {W w : World} (h : Over ex W w) : Over ex W w.drew := h.next ((Below.refl _ _).drew)
theorem Over.alloc {ex : List Nat} {W w : World} (h : Over ex W w) (o : Obj) : Over ex W (w.alloc o) := h.next ((Below.refl _ _).alloc (Nat.le_refl _) o)
theorem Over.setCell {ex : List Nat} {W w : World} (h : Over ex W w) {p : Addr} (hp : W.heap.size ≤ p.block ∨ p.block ∈ ex) (v : Value) : Over ex W (w.setCell p v) :=
  ⟨h.os, h.tape, h.output, by simpa [World.setCell] using h.size, fun k hk hn => (Below.heap_setCell _ _ _ _ (by
    rintro rfl
    rcases hp with hp | hp
    · omega
    · exact hn hp)).trans (h.block k hk hn)⟩
theorem Over.cell {ex : List Nat} {W w : World} (h : Over ex W w) {p : Addr} (hp : p.block < W.heap.size) (hn : p.block ∉ ex) : w.cell? p = W.cell? p := World.cell?_of_block (w := W) (h.block p.block hp hn)
theorem Over.frozen {ex : List Nat} {W w : World} (h : Over ex W w) {p : Addr} (hp : p.block < W.heap.size) (hn : p.block ∉ ex) : w.frozen? p = W.frozen? p := World.frozen?_of_block (w := W) (h.block p.block hp hn)

/-- what the making of new blocks leaves true -/
def Closed (D : World → Prop) : Prop := ∀ w w', D w → Below w.heap.size w w' → D w'
theorem Closed.true : Closed (fun _ => True) := fun _ _ _ _ => trivial
theorem Closed.and {D E : World → Prop} (h : Closed D) (k : Closed E) : Closed (fun w => D w ∧ E w) := fun _ _ ⟨a, b⟩ hb => ⟨h _ _ a hb, k _ _ b hb⟩

/-- the worlds over W that meet D -/
structure Cls (ex : List Nat) (W : World) (D : World → Prop) where
  wd : World
  over : Over ex W wd
  more : D wd
instance (ex : List Nat) (W : World) : Nonempty (Cls ex W (fun _ => True)) := ⟨⟨W, Over.refl _ _, trivial⟩⟩
abbrev Cl (ex : List Nat) (W : World) (D : World → Prop) : World → Prop := fun w' => ∃ c : Cls ex W D, w' = c.wd
@[simp, go_sem] theorem Cls.cell? {ex : List Nat} {W : World} {D : World → Prop} (c : Cls ex W D) {p : Addr} (hp : p.block < W.heap.size) (hn : p.block ∉ ex) : c.wd.cell? p = W.cell? p := c.over.cell hp hn
@[simp, go_sem] theorem Cls.frozen? {ex : List Nat} {W : World} {D : World → Prop} (c : Cls ex W D) {p : Addr} (hp : p.block < W.heap.size) (hn : p.block ∉ ex) : c.wd.frozen? p = W.frozen? p := c.over.frozen hp hn

section
variable {P : Program} {ops : Array Oper} {Q : Exit → Act → World → Prop} {ex : List Nat} {W : World} {R : Nat → Bool} {N D : World → Prop}

theorem Calls.quiet_cls {f : FuncId} {args : Array Value} {v : Value} (hD : Closed D) (c : Cls ex W D)
    (h : Calls P f args c.wd fun e w' => e = .returned v ∧ Below c.wd.heap.size c.wd w') : Calls P f args c.wd fun e w'' => e = .returned v ∧ ∃ c' : Cls ex W D, w'' = c'.wd :=
  h.mono fun _ w' ⟨he, hb⟩ => ⟨he, ⟨w', c.over.next hb, hD _ _ c.more hb⟩, rfl⟩
theorem Calls.quiet_clsS {f : FuncId} {args : Array Value} {v : Value} (c : Cls ex W D)
    (h : Calls P f args c.wd fun e w' => e = .returned v ∧ c.wd = w') : Calls P f args c.wd fun e w'' => e = .returned v ∧ ∃ c' : Cls ex W D, w'' = c'.wd :=
  h.mono fun _ _ ⟨he, hb⟩ => ⟨he, c, hb.symm⟩
theorem below_drewN' (w : World) (n : Nat) : Below w.heap.size w (w.drewN n) := ⟨rfl, rfl, rfl, Nat.le_refl _, fun _ _ => rfl⟩
theorem Calls.quiet_clsD {f : FuncId} {args : Array Value} {v : Value} (hD : Closed D) (c : Cls ex W D)
    (h : Calls P f args c.wd fun e w' => e = .returned v ∧ ∃ k, w' = c.wd.drewN k) : Calls P f args c.wd fun e w'' => e = .returned v ∧ ∃ c' : Cls ex W D, w'' = c'.wd :=
  quiet_cls hD c (h.mono fun _ _ ⟨he, k, hk⟩ => ⟨he, hk ▸ below_drewN' _ k⟩)

/-- whatever order is picked from here on, the world being of the class D; R: the operations behind which N need not hold any more -/
def wpAnyF (P : Program) (ops : Array Oper) (Q : Exit → Act → World → Prop) (ex : List Nat) (W : World) (R : Nat → Bool) : Nat → Array Bool → Act → (World → Prop) → (World → Prop) → Prop
  | 0, listed, a, _, D => Region.ready .any ops listed = [] ∧ ∀ w, Over ex W w → D w → Q .normal a w
  | fuel + 1, listed, a, N, D =>
    (Region.ready .any ops listed = [] → ∀ w, Over ex W w → D w → Q .normal a w) ∧
    ∀ i ∈ Region.ready .any ops listed, ∀ w, Over ex W w → D w →
      wpOp P ops Q i (fun a' w' => ∃ N' D' : World → Prop, Closed D' ∧ (∀ u, D' u → N' u) ∧ (R i = false → N' = N) ∧ Over ex W w' ∧ D' w' ∧ wpAnyF P ops Q ex W R fuel (listed.setIfInBounds i true) a' N' D') a w

theorem wpAny_of_F : ∀ (fuel : Nat) (listed : Array Bool) (a : Act) (w : World) (N D : World → Prop), Over ex W w → D w → wpAnyF P ops Q ex W R fuel listed a N D → wpAny P .any ops Q fuel listed a w
  | 0, _, _, _, _, _, ho, hd, h => ⟨h.1, h.2 _ ho hd⟩
  | fuel + 1, _, _, _, _, _, ho, hd, h => ⟨fun h0 => h.1 h0 _ ho hd, fun i hi => wpOp_mono (fun a' w' ⟨N', D', _, _, _, ho', hd', h'⟩ => wpAny_of_F fuel _ a' w' N' D' ho' hd' h') (h.2 i hi _ ho hd)⟩

/-- in every class that knows N, o leaves v and a world of the class -/
def YieldsAll (P : Program) (ops : Array Oper) (ex : List Nat) (W : World) (N : World → Prop) (o : Oper) (v : Value) (a : Act) : Prop :=
  ∀ D, Closed D → (∀ w, D w → N w) → Nonempty (Cls ex W D) → YieldsIn P ops (Cl ex W D) o v a

theorem YieldsAll.of_same {o : Oper} {v : Value} {a a' : Act} (hy : YieldsAll P ops ex W N o v a) (he : execOp a'.eval o = execOp a.eval o)
    (hw : Region.wanted o (yielded ops a'.tmps) = Region.wanted o (yielded ops a.tmps)) : YieldsAll P ops ex W N o v a' := fun D h1 h2 h3 => (hy D h1 h2 h3).of_same he hw

theorem YieldsAll.wpOp {i : Nat} {o : Oper} {v : Value} {a : Act} (hi : ops[i]? = some o) (hD : Closed D) (hN : ∀ w, D w → N w) (hy : YieldsAll P ops ex W N o v a)
    {K : Act → World → Prop} {w : World} (hO : Over ex W w) (hd : D w) (h : ∀ w', Over ex W w' → D w' → K (a.put o.dst v) w') : wpOp P ops Q i K a w := by
  unfold Go.wpOp
  simp only [hi]
  rcases hy D hD hN ⟨⟨w, hO, hd⟩⟩ with ⟨hw, hv⟩ | ⟨hw, rfl⟩
  · simp only [hw, if_true]
    refine .inl ?_
    have hq := hv w ⟨⟨w, hO, hd⟩, rfl⟩
    unfold Oper.quietAt at hq
    unfold Oper.wp
    generalize (execOp a.eval o).run P w = r at *
    cases r with
    | ok n w' =>
      cases n <;> simp only [Oper.quietUpon] at hq <;> simp only [Oper.upon]
      case value u =>
        obtain ⟨rfl, rfl⟩ := hq
        exact h _ hO hd
      case skip =>
        obtain ⟨rfl, rfl⟩ := hq
        exact h _ hO hd
      case enter f args =>
        obtain ⟨rfl, hc⟩ := hq
        refine hc.mono fun e w'' he => ?_
        obtain ⟨rfl, c, rfl⟩ := he
        exact h _ c.over c.more
    | halt x w' => simp only [Oper.quietUpon] at hq
  · simp only [hw, Bool.false_eq_true, if_false]; exact h _ hO hd

theorem wpOp_putAll {j : Nat} {oi oj : Oper} {v : Value} (hj : ops[j]? = some oj) (hap : oi.apart ops oj = true)
    (hsi : ∀ cs b, oi.op ≠ .select cs b) (hsj : ∀ cs b, oj.op ≠ .select cs b)
    (hQ : ∀ c a w, Q (.panic c) (a.put oi.dst v) w → Q (.panic c) a w) {K : Act → World → Prop} {a : Act} {w : World}
    (hy : YieldsAll P ops ex W N oi v a) (h : wpOp P ops Q j K (a.put oi.dst v) w) :
    wpOp P ops Q j (fun a' w' => YieldsAll P ops ex W N oi v a' ∧ K (a'.put oi.dst v) w') a w := by
  obtain ⟨h1, h2, h3⟩ := Oper.apart_spec hap
  have keep : ∀ (a : Act), YieldsAll P ops ex W N oi v a → ∀ u, YieldsAll P ops ex W N oi v (a.put oj.dst u) := fun a hy u =>
    hy.of_same (execOp_put oi hsi a oj.dst u h3) (wanted_put oi a oj.dst u h3)
  have keepD : ∀ d, YieldsAll P ops ex W N oi v { a with defers := d :: a.defers } := fun d => hy.of_same rfl rfl
  unfold wpOp at *
  simp only [hj] at *
  rw [wanted_put oj a oi.dst v h1] at h
  split
  · rename_i hw
    simp only [hw, if_true] at h
    rcases h with h | ⟨hasks, hlets⟩
    case inr => exact .inr ⟨by unfold Oper.asks at *; rw [execOp_put oj hsj a oi.dst v h1] at hasks; exact hasks, hlets⟩
    refine .inl ?_
    unfold Oper.wp at *
    rw [execOp_put oj hsj a oi.dst v h1] at h
    generalize (execOp a.eval oj).run P w = r at *
    cases r with
    | ok n w' =>
      cases n <;> simp only [Oper.upon] at h ⊢
      case value u => exact ⟨keep a hy u, by rw [← Act.put_comm a v u h2]; exact h⟩
      case skip => exact ⟨keep a hy _, by rw [← Act.put_comm a v undef h2]; exact h⟩
      case defer d =>
        refine ⟨keep _ (keepD d) _, ?_⟩
        rw [← Act.put_comm _ v undef h2, ← Act.put_defers]
        exact h
      case enter f args =>
        refine Calls.mono h fun e w'' he => ?_
        cases e with
        | returned u => exact ⟨keep a hy u, by rw [← Act.put_comm a v u h2]; exact he⟩
        | panicked c => exact hQ _ _ _ he
        | outgrown => exact he
      case row row args => exact Rows.mono h fun u w'' he => ⟨keep a hy u, by rw [← Act.put_comm a v u h2]; exact he⟩
    | halt x w' =>
      cases x <;> simp only [Oper.upon] at h ⊢
      case panic u => exact hQ _ _ _ h
  · rename_i hw
    simp only [hw] at h
    exact ⟨keep a hy _, by rw [← Act.put_comm a v undef h2]; exact h⟩

theorem wpAnyF_first {i : Nat} {oi : Oper} {v : Value} (hi : ops[i]? = some oi) (hsel : ∀ (j : Nat) (o : Oper) cs b, ops[j]? = some o → o.op ≠ .select cs b)
    (hQ : ∀ c a d v w, Q (.panic c) (Act.put a d v) w → Q (.panic c) a w) :
    ∀ (fuel : Nat) (listed : Array Bool) (a : Act) (D : World → Prop), Closed D → (∀ w, D w → N w) →
      (∀ j oj, ops[j]? = some oj → j ≠ i → listed.getD j true = false → (∀ e ∈ oj.after, Region.binds .any e = true → e.on ≠ i) → oi.apart ops oj = true ∧ R j = false) →
      i ∈ Region.ready .any ops listed → R i = false → YieldsAll P ops ex W N oi v a →
      wpAnyF P ops Q ex W R fuel (listed.setIfInBounds i true) (a.put oi.dst v) N D → wpAnyF P ops Q ex W R (fuel + 1) listed a N D := by
  intro fuel
  induction fuel with
  | zero =>
    intro listed a D hD hN _ hr hR hy H
    refine ⟨fun h => (by rw [h] at hr; cases hr), fun j hj w hO hd => ?_⟩
    by_cases hji : j = i
    · subst hji; exact hy.wpOp hi hD hN hO hd (fun w' hO' hd' => ⟨N, D, hD, hN, fun _ => rfl, hO', hd', H⟩)
    · have := ready_mono hj hji
      rw [H.1] at this
      cases this
  | succ fuel ih =>
    intro listed a D hD hN hfree hr hR hy H
    refine ⟨fun h => (by rw [h] at hr; cases hr), fun j hj w hO hd => ?_⟩
    by_cases hji : j = i
    · subst hji; exact hy.wpOp hi hD hN hO hd (fun w' hO' hd' => ⟨N, D, hD, hN, fun _ => rfl, hO', hd', H⟩)
    · have h1 := H.2 j (ready_mono hj hji) w hO hd
      obtain ⟨hjun, oj, hoj, hall⟩ := mem_ready.1 hj
      have hnot : ∀ e ∈ oj.after, Region.binds .any e = true → e.on ≠ i := fun e he hb heq => by
        have h1 := hall e he hb
        have h0 := (mem_ready.1 hr).1
        rw [heq] at h1
        rcases Nat.lt_or_ge i listed.size with h' | h'
        · simp [h'] at h0 h1; rw [h0] at h1; cases h1
        · simp [Array.getElem?_eq_none h'] at h1
      obtain ⟨hap, hRj⟩ := hfree j oj hoj hji hjun hnot
      have h2 := wpOp_putAll hoj hap (fun cs b => hsel i oi cs b hi) (fun cs b => hsel j oj cs b hoj) (fun c a w => hQ c a _ _ w) hy h1
      have hfree' : ∀ k ok, ops[k]? = some ok → k ≠ i → (listed.setIfInBounds j true).getD k true = false →
          (∀ e ∈ ok.after, Region.binds .any e = true → e.on ≠ i) → oi.apart ops ok = true ∧ R k = false := fun k ok hk hki hun hno => by
        refine hfree k ok hk hki ?_ hno
        by_cases hjk : j = k
        · subst hjk; exact hjun
        · rw [getD_set_ne true hjk] at hun; exact hun
      refine wpOp_mono (fun a' w' h3 => ?_) h2
      obtain ⟨hy', N', D', hD', hN', hNN, hO', hd', h4⟩ := h3
      obtain rfl := hNN hRj
      refine ⟨_, D', hD', hN', fun _ => rfl, hO', hd', ih (listed.setIfInBounds j true) a' D' hD' hN' hfree' (ready_mono hr (Ne.symm hji)) hR hy' ?_⟩
      rw [Array.setIfInBounds_comm _ _ hji]
      exact h4

/-- the head: the operations marked true, in the text's order -/
def wpHL (P : Program) (ops : Array Oper) (C : World → Prop) (K : Act → Prop) : List Oper → List Bool → Act → Prop
  | o :: l, true :: fl, a => wpQuiet P ops C (fun a' => wpHL P ops C K l fl a') [o] a
  | _ :: l, false :: fl, a => wpHL P ops C K l fl a
  | _, _, a => K a
theorem wpHL_take {C : World → Prop} {K : Act → Prop} {o : Oper} {l : List Oper} {fl : List Bool} {a : Act} (h : wpQuiet P ops C (fun a' => wpHL P ops C K l fl a') [o] a) : wpHL P ops C K (o :: l) (true :: fl) a := h
theorem wpHL_skip {C : World → Prop} {K : Act → Prop} {o : Oper} {l : List Oper} {fl : List Bool} {a : Act} (h : wpHL P ops C K l fl a) : wpHL P ops C K (o :: l) (false :: fl) a := h
theorem wpHL_end {C : World → Prop} {K : Act → Prop} {l : List Oper} {a : Act} (h : K a) : wpHL P ops C K l [] a := by cases l <;> exact h
theorem wpHL_nil {C : World → Prop} {K : Act → Prop} {fl : List Bool} {a : Act} (h : K a) : wpHL P ops C K [] fl a := by cases fl <;> exact h

def headB (ops : Array Oper) (R : Nat → Bool) : List Bool → Nat → Array Bool → Bool
  | true :: fl, k, listed => (Region.ready .any ops listed).contains k && Region.free .any ops listed k && !R k &&
      ((List.range ops.size).all fun j => j == k || listed.getD j true || !R j || match ops[j]? with | some oj => oj.after.any (fun e => Region.binds .any e && e.on == k) | none => true) &&
      headB ops R fl (k + 1) (listed.setIfInBounds k true)
  | false :: fl, k, listed => headB ops R fl (k + 1) listed
  | [], _, _ => true
def headL : List Bool → Nat → Array Bool → Array Bool
  | true :: fl, k, listed => headL fl (k + 1) (listed.setIfInBounds k true)
  | false :: fl, k, listed => headL fl (k + 1) listed
  | [], _, listed => listed
def headD : List Oper → List Bool → List Nat
  | o :: l, true :: fl => o.dst.toList ++ headD l fl
  | _ :: l, false :: fl => headD l fl
  | _, _ => []
def headF (n : Nat) : List Oper → List Bool → Bool
  | o :: l, true :: fl => (match o.dst with | some d => decide (d < n) && !(headD l fl).contains d | none => false) && headF n l fl
  | _ :: l, false :: fl => headF n l fl
  | _, _ => true

theorem put_size (a : Act) (d : Option Tmp) (v : Value) : (a.put d v).tmps.size = a.tmps.size := by cases d <;> simp [Act.put]

theorem wpHL_slot {C : World → Prop} {A : Act} {d : Nat} : ∀ (l : List Oper) (fl : List Bool) (a : Act), wpHL P ops C (fun a' => a' = A) l fl a → d ∉ headD l fl → A.tmps[d]? = a.tmps[d]?
  | [], fl, a, h, _ => by cases fl <;> (simp only [wpHL] at h; rw [h])
  | o :: l, [], a, h, _ => by simp only [wpHL] at h; rw [h]
  | o :: l, false :: fl, a, h, hd => wpHL_slot l fl a h hd
  | o :: l, true :: fl, a, h, hd => by
    simp only [headD, List.mem_append, not_or] at hd
    have hp : ∀ v, (a.put o.dst v).tmps[d]? = a.tmps[d]? := fun v => by
      cases hdst : o.dst with
      | none => rfl
      | some d' =>
        rw [hdst] at hd
        simp only [Option.toList_some, List.mem_singleton] at hd
        simp [Act.put, Array.getElem?_setIfInBounds_ne (Ne.symm hd.1)]
    simp only [wpHL, wpQuiet] at h
    split at h
    · obtain ⟨v, _, h2⟩ := h
      exact (wpHL_slot l fl _ h2 hd.2).trans (hp v)
    · exact (wpHL_slot l fl _ h hd.2).trans (hp _)

theorem wpAnyF_head {A : Act} (hne : Nonempty (Cls ex W D)) (hs : Region.noSelect ops = true) (hQ : ∀ c a d v w, Q (.panic c) (Act.put a d v) w → Q (.panic c) a w) {fuel : Nat} (hD : Closed D) (hN : ∀ w, D w → N w) :
    ∀ (l : List Oper) (fl : List Bool) (k : Nat) (listed : Array Bool) (a : Act), (∀ j, l[j]? = ops[k + j]?) →
      headB ops R fl k listed = true → headF a.tmps.size l fl = true → fl.length ≤ l.length →
      (∀ E : World → Prop, Closed E → (∀ w, E w → N w) → Nonempty (Cls ex W E) → wpHL P ops (Cl ex W E) (fun a' => a' = A) l fl a) →
      wpAnyF P ops Q ex W R fuel (headL fl k listed) A N D → wpAnyF P ops Q ex W R (fuel + fl.count true) listed a N D
  | _, [], _, listed, a, _, _, _, _, h, H => by
    have := h D hD hN hne
    have e : a = A := by revert this; cases ‹List Oper› <;> (intro h; exact h)
    subst e
    simpa [headL] using H
  | [], _ :: _, _, _, _, _, _, _, hlen, _, _ => by simp at hlen
  | o :: l, false :: fl, k, listed, a, hl, hB, hF, hlen, h, H => by
    have := wpAnyF_head hne hs hQ hD hN l fl (k + 1) listed a (fun j => by have := hl (j + 1); simpa [Nat.add_assoc, Nat.add_comm 1 j] using this) hB hF (by simpa using hlen) h H
    simpa using this
  | o :: l, true :: fl, k, listed, a, hl, hB, hF, hlen, h, H => by
    have h0 : ops[k]? = some o := by simpa using (hl 0).symm
    simp only [headB, Bool.and_eq_true, Bool.not_eq_true'] at hB
    obtain ⟨⟨⟨⟨hr, hf⟩, hRk⟩, hRj⟩, hB'⟩ := hB
    simp only [headF, Bool.and_eq_true] at hF
    obtain ⟨hF1, hF2⟩ := hF
    obtain ⟨d, hd⟩ : ∃ d, o.dst = some d := by
      cases hdst : o.dst with
      | none => rw [hdst] at hF1; simp at hF1
      | some d => exact ⟨d, rfl⟩
    rw [hd] at hF1
    simp only [Bool.and_eq_true, decide_eq_true_eq, Bool.not_eq_true', List.contains_eq_mem, decide_eq_false_iff_not] at hF1
    obtain ⟨hlt, hnd⟩ := hF1
    -- the one value
    obtain ⟨v, hv⟩ : ∃ v, ∀ E : World → Prop, Closed E → (∀ w, E w → N w) → Nonempty (Cls ex W E) → YieldsIn P ops (Cl ex W E) o v a ∧ wpHL P ops (Cl ex W E) (fun a' => a' = A) l fl (a.put o.dst v) := by
      refine ⟨A.tmps.getD d undef, fun E hE hEN hEn => ?_⟩
      have h1 := h E hE hEN hEn
      simp only [wpHL, wpQuiet] at h1
      have hsame : ∀ v, wpHL P ops (Cl ex W E) (fun a' => a' = A) l fl (a.put o.dst v) → A.tmps.getD d undef = v := fun v hw => by
        have := wpHL_slot l fl _ hw hnd
        rw [hd] at this
        simp only [Act.put, Array.getElem?_setIfInBounds_self, hlt, if_true] at this
        simp [Array.getD_eq_getD_getElem?, this]
      split at h1
      · rename_i hw
        obtain ⟨v, hq, hk⟩ := h1
        rw [hsame v hk]
        exact ⟨.inl ⟨hw, hq⟩, hk⟩
      · rename_i hw
        rw [hsame undef h1]
        exact ⟨.inr ⟨by simpa using hw, rfl⟩, h1⟩
    have ih := wpAnyF_head hne hs hQ hD hN l fl (k + 1) (listed.setIfInBounds k true) (a.put o.dst v) (fun j => by have := hl (j + 1); simpa [Nat.add_assoc, Nat.add_comm 1 j] using this) hB' (by rw [put_size]; exact hF2) (by simpa using hlen) (fun E hE hEN hEn => (hv E hE hEN hEn).2) H
    have hfree : ∀ j oj, ops[j]? = some oj → j ≠ k → listed.getD j true = false → (∀ e ∈ oj.after, Region.binds .any e = true → e.on ≠ k) → o.apart ops oj = true ∧ R j = false := fun j oj hj hjk hun hno => by
      refine ⟨Region.free_spec h0 hf j oj hj hjk hun hno, ?_⟩
      have h1 := List.all_eq_true.1 hRj j (List.mem_range.2 (Array.getElem?_eq_some_iff.1 hj).1)
      simp only [hj, Bool.or_eq_true, beq_iff_eq, hjk, false_or, hun, Bool.false_eq_true, Bool.not_eq_true'] at h1
      rcases h1 with h1 | h1
      · exact h1
      · obtain ⟨e, he, hb⟩ := Array.any_eq_true'.1 h1
        simp only [Bool.and_eq_true, beq_iff_eq] at hb
        exact absurd hb.2 (hno e he hb.1)
    have := wpAnyF_first h0 (Region.noSelect_spec hs) hQ (fuel + fl.count true) listed a D hD hN hfree (by simpa using hr) hRk (fun E hE hEN hEn => (hv E hE hEN hEn).1) ih
    simpa [List.count_cons, Nat.add_assoc] using this

theorem noPanic_put (c : List PanicEntry) (a : Act) (d : Option Tmp) (v : Value) (w : World) : NoPanic Q (.panic c) (Act.put a d v) w → NoPanic Q (.panic c) a w := fun h => h

/-- the beginning -/
theorem wp_region_cls {id : Nat} {l : List Oper} {a : Act} {w : World} (ex : List Nat) (R : Nat → Bool) (N D : World → Prop) (hm : P.follows .mixedOrders = true) (h0 : D w.drew)
    (h : wpAnyF P l.toArray (NoPanic Q) ex w R l.length (Array.replicate l.length false) a N D) : (Code.region id l.toArray true).wp P Q a w := by
  refine wp_region_noPanic (wp_region_any hm ?_)
  have := wpAny_of_F l.length (Array.replicate l.length false) a w.drew N D (Over.refl ex w).drew h0 h
  simpa using this

/-- all operations are quiet in the class -/
theorem wp_region_clqD {id : Nat} {l : List Oper} {a : Act} {w : World} (ex : List Nat) (D : World → Prop) (hm : P.follows .mixedOrders = true) (hB : Region.lexB .any l.toArray = true) (hD : D w.drew)
    (h : Nonempty (Cls ex w D) → wpQuiet P l.toArray (fun w' => ∃ c : Cls ex w D, w' = c.wd) (fun a' => ∀ w', Over ex w w' → D w' → Q .normal a' w') l a) : (Code.region id l.toArray true).wp P Q a w := by
  refine wp_region_quiet (C := fun w' => ∃ c : Cls ex w D, w' = c.wd) hm hB ⟨⟨w.drew, (Over.refl ex w).drew, hD⟩, rfl⟩ ?_
  have hmono : ∀ (l' : List Oper) (a : Act), wpQuiet P l.toArray (fun w' => ∃ c : Cls ex w D, w' = c.wd) (fun a' => ∀ w', Over ex w w' → D w' → Q .normal a' w') l' a →
      wpQuiet P l.toArray (fun w' => ∃ c : Cls ex w D, w' = c.wd) (fun a' => ∀ w', (∃ c : Cls ex w D, w' = c.wd) → Q .normal a' w') l' a := fun l' => by
    induction l' with
    | nil => rintro a h w' ⟨c, rfl⟩; exact h _ c.over c.more
    | cons o l' ih =>
      intro a h
      simp only [wpQuiet] at h ⊢
      split
      · rename_i hw; simp only [hw, if_true] at h; exact Oper.quiet_mono ih h
      · rename_i hw; simp only [hw] at h; exact ih _ h
  simpa using hmono l a (h ⟨⟨w.drew, (Over.refl ex w).drew, hD⟩⟩)
theorem wp_region_clq {id : Nat} {l : List Oper} {a : Act} {w : World} (hm : P.follows .mixedOrders = true) (hB : Region.lexB .any l.toArray = true)
    (h : wpQuiet P l.toArray (fun w' => ∃ c : Cls [] w (fun _ => True), w' = c.wd) (fun a' => ∀ w', Below w.heap.size w w' → Q .normal a' w') l a) : (Code.region id l.toArray true).wp P Q a w :=
  wp_region_clqD [] (fun _ => True) hm hB trivial (fun _ => by
    have hmono : ∀ (l' : List Oper) (a : Act), wpQuiet P l.toArray (fun w' => ∃ c : Cls [] w (fun _ => True), w' = c.wd) (fun a' => ∀ w', Below w.heap.size w w' → Q .normal a' w') l' a →
        wpQuiet P l.toArray (fun w' => ∃ c : Cls [] w (fun _ => True), w' = c.wd) (fun a' => ∀ w', Over [] w w' → True → Q .normal a' w') l' a := fun l' => by
      induction l' with
      | nil => exact fun a h w' ho _ => h _ ho.below
      | cons o l' ih =>
        intro a h
        simp only [wpQuiet] at h ⊢
        split
        · rename_i hw; simp only [hw, if_true] at h; exact Oper.quiet_mono ih h
        · rename_i hw; simp only [hw] at h; exact ih _ h
    exact hmono l a h)
theorem Calls.quiet_clsX {f : FuncId} {args : Array Value} {v : Value} (c : Cls ex W D)
    (h : Calls P f args c.wd fun e w' => e = .returned v ∧ Over ex c.wd w' ∧ D w') : Calls P f args c.wd fun e w'' => e = .returned v ∧ ∃ c' : Cls ex W D, w'' = c'.wd :=
  h.mono fun _ w' ⟨he, ho, hd⟩ => ⟨he, ⟨w', c.over.trans ho, hd⟩, rfl⟩

/-- some operations in the text's order -/
theorem wpAnyF_hd {l : List Oper} {a A : Act} {listed : Array Bool} {fuel : Nat} (hne : ∃ w, Over ex W w ∧ D w) (fl : List Bool) (f : Nat) (hD : Closed D) (hN : ∀ w, D w → N w) (hf : fuel = f + fl.count true) (hs : Region.noSelect l.toArray = true)
    (hB : headB l.toArray R fl 0 listed = true) (hF : headF a.tmps.size l fl = true) (hlen : fl.length ≤ l.length)
    (h : ∀ E : World → Prop, Closed E → (∀ w, E w → N w) → Nonempty (Cls ex W E) → wpHL P l.toArray (fun w' => ∃ c : Cls ex W E, w' = c.wd) (fun a' => a' = A) l fl a)
    (H : wpAnyF P l.toArray (NoPanic Q) ex W R f (headL fl 0 listed) A N D) : wpAnyF P l.toArray (NoPanic Q) ex W R fuel listed a N D :=
  hf ▸ wpAnyF_head (hne.elim fun w hw => ⟨⟨w, hw.1, hw.2⟩⟩) hs noPanic_put hD hN l fl 0 listed a (by simp) hB hF hlen h H

/-- number i comes up -/
def StepF (P : Program) (ops : Array Oper) (Q : Exit → Act → World → Prop) (ex : List Nat) (W : World) (R : Nat → Bool) (f : Nat) (listed : Array Bool) (a : Act) (N D : World → Prop) (i : Nat) : Prop :=
  ∀ w, Over ex W w → D w → wpOp P ops Q i (fun a' w' => ∃ N' D' : World → Prop, Closed D' ∧ (∀ u, D' u → N' u) ∧ (R i = false → N' = N) ∧ Over ex W w' ∧ D' w' ∧ wpAnyF P ops Q ex W R f (listed.setIfInBounds i true) a' N' D') a w
def AllF (P : Program) (ops : Array Oper) (Q : Exit → Act → World → Prop) (ex : List Nat) (W : World) (R : Nat → Bool) (f : Nat) (listed : Array Bool) (a : Act) (N D : World → Prop) (rs : List Nat) : Prop := ∀ i ∈ rs, StepF P ops Q ex W R f listed a N D i
theorem AllF.nil {a : Act} {listed : Array Bool} {f : Nat} : AllF P ops Q ex W R f listed a N D [] := fun i hi => by cases hi
theorem AllF.cons {a : Act} {listed : Array Bool} {f i : Nat} {rs : List Nat} (h : StepF P ops Q ex W R f listed a N D i) (hs : AllF P ops Q ex W R f listed a N D rs) : AllF P ops Q ex W R f listed a N D (i :: rs) := fun j hj => by
  rcases List.mem_cons.1 hj with rfl | hj
  · exact h
  · exact hs j hj
theorem wpAnyF_ready {a : Act} {listed : Array Bool} {fuel : Nat} (rs : List Nat) (f : Nat) (hf : fuel = f + 1) (hr : Region.ready .any ops listed = rs) (hne : rs ≠ []) (h : AllF P ops Q ex W R f listed a N D rs) : wpAnyF P ops Q ex W R fuel listed a N D := by
  subst hf
  exact ⟨fun h0 => absurd (hr ▸ h0) hne, hr ▸ h⟩
theorem stepF_run {a : Act} {listed : Array Bool} {f i : Nat} {o : Oper} (ho : ops[i]? = some o) (hw : Region.wanted o (yielded ops a.tmps) = true)
    (h : ∀ w, Over ex W w → D w → ∀ K : Act → World → Prop, (∀ a' w', (∃ N' D' : World → Prop, Closed D' ∧ (∀ u, D' u → N' u) ∧ (R i = false → N' = N) ∧ Over ex W w' ∧ D' w' ∧ wpAnyF P ops Q ex W R f (listed.setIfInBounds i true) a' N' D') → K a' w') → o.wp P a w K Q) : StepF P ops Q ex W R f listed a N D i := fun w hO hd => by
  unfold wpOp
  simp only [ho, hw, if_true]
  exact .inl (h w hO hd _ (fun _ _ h => h))
theorem stepF_call {a : Act} {listed : Array Bool} {f i fn : Nat} {o : Oper} {args : Array Value} {v : Value} (N' D' : World → Prop) (ho : ops[i]? = some o) (hw : Region.wanted o (yielded ops a.tmps) = true)
    (hrun : ∀ w, (execOp a.eval o).run P w = .ok (.enter fn args) w) (hD' : Closed D') (hN' : ∀ u, D' u → N' u) (hR : R i = false → N' = N)
    (hc : ∀ w, Over ex W w → D w → Calls P fn args w fun e w' => e = .returned v ∧ Over ex w w' ∧ D' w')
    (h : (∃ w, Over ex W w ∧ D' w) → wpAnyF P ops Q ex W R f (listed.setIfInBounds i true) (a.put o.dst v) N' D') : StepF P ops Q ex W R f listed a N D i := fun w hO hd => by
  unfold wpOp
  simp only [ho, hw, if_true]
  refine .inl ?_
  unfold Oper.wp
  rw [hrun w]
  exact (hc w hO hd).mono fun e w' ⟨he, ho', hd'⟩ => by subst he; exact ⟨N', D', hD', hN', hR, hO.trans ho', hd', h ⟨w', hO.trans ho', hd'⟩⟩
/-- all have come up -/
theorem wpAnyF_done {a : Act} {listed : Array Bool} (hr : Region.ready .any ops listed = []) (h : ∀ w, Over ex W w → D w → Q .normal a w) : ∀ fuel, wpAnyF P ops Q ex W R fuel listed a N D
  | 0 => ⟨hr, h⟩
  | _ + 1 => ⟨fun _ => h, fun i hi => by rw [hr] at hi; cases hi⟩
end

/-! blocks that are known whole -/
def Blk (r : Nat) (cs : Array Value) (T : TypeId) (w : World) : Prop := w.heap[r]? = some (.cells cs T (0, 0))
theorem Blk.lt {r : Nat} {cs : Array Value} {T : TypeId} {w : World} (h : Blk r cs T w) : r < w.heap.size := (Array.getElem?_eq_some_iff.1 h).1
theorem Blk.closed (r : Nat) (cs : Array Value) (T : TypeId) : Closed (Blk r cs T) := fun _ _ h hb => (hb.block r (Blk.lt h)).trans h
theorem Blk.cell {r : Nat} {cs : Array Value} {T : TypeId} {w : World} (h : Blk r cs T w) (o : Nat) : w.cell? ⟨r, o, none⟩ = cs[o]? := by
  unfold Blk at h
  simp [World.cell?, h]
theorem Blk.frozen {r : Nat} {cs : Array Value} {T : TypeId} {w : World} (h : Blk r cs T w) (o : Nat) : w.frozen? ⟨r, o, none⟩ = false := by
  unfold Blk at h
  simp [World.frozen?, h]
theorem Blk.new (w : World) (cs : Array Value) (T : TypeId) : Blk w.heap.size cs T (w.alloc (.cells cs T)) := by
  show (w.heap.push _)[w.heap.size]? = _
  simp
theorem Blk.next {r : Nat} {cs : Array Value} {T : TypeId} {w w' : World} (h : Blk r cs T w) (hb : Below w.heap.size w w') : Blk r cs T w' := Blk.closed r cs T _ _ h hb
theorem Blk.alloc {r : Nat} {cs : Array Value} {T : TypeId} {w : World} (h : Blk r cs T w) (o : Obj) : Blk r cs T (w.alloc o) := h.next ((Below.refl _ _).alloc (Nat.le_refl _) o)
theorem Blk.drew {r : Nat} {cs : Array Value} {T : TypeId} {w : World} (h : Blk r cs T w) : Blk r cs T w.drew := h
theorem Blk.drewN {r : Nat} {cs : Array Value} {T : TypeId} {w : World} (h : Blk r cs T w) (n : Nat) : Blk r cs T (w.drewN n) := h
theorem Blk.far {r : Nat} {cs : Array Value} {T : TypeId} {w : World} (h : Blk r cs T w) {p : Addr} (hp : r ≠ p.block) (v : Value) : Blk r cs T (w.setCell p v) := (Below.heap_setCell _ _ _ _ hp).trans h
theorem Blk.set {r : Nat} {cs : Array Value} {T : TypeId} {w : World} (h : Blk r cs T w) (o : Nat) (v : Value) : Blk r (cs.setIfInBounds o v) T (w.setCell ⟨r, o, none⟩ v) := by
  unfold Blk at h ⊢
  simp [World.setCell, Array.getElem?_modify, h]
theorem Blk.over {ex : List Nat} {W w : World} {r : Nat} {cs : Array Value} {T : TypeId} (h : Blk r cs T W) (ho : Over ex W w) (hr : r ∉ ex) : Blk r cs T w := (ho.block r (Blk.lt h) hr).trans h
section
variable {P : Program} {ops : Array Oper} {Q : Exit → Act → World → Prop} {ex : List Nat} {W : World} {R : Nat → Bool} {N D : World → Prop}
theorem stepF_alloc {a : Act} {listed : Array Bool} {f i d : Nat} {o : Oper} {zs : Array Value} {T : TypeId} (ho : ops[i]? = some o) (hw : Region.wanted o (yielded ops a.tmps) = true) (hd : o.dst = some d)
    (hrun : ∀ w, (execOp a.eval o).run P w = .ok (.value (.pointer (some ⟨w.heap.size, 0, none⟩))) (w.alloc (.cells zs T))) (hD : Closed D) (hN : ∀ w, D w → N w)
    (h : ∀ r, (∃ w, Over ex W w ∧ D w ∧ w.heap.size = r) → W.heap.size ≤ r → (∃ w, Over ex W w ∧ D w ∧ Blk r zs T w) → wpAnyF P ops Q ex W R f (listed.setIfInBounds i true) (a.put (some d) (.pointer (some ⟨r, 0, none⟩))) N (fun w => D w ∧ Blk r zs T w)) : StepF P ops Q ex W R f listed a N D i := fun w hO hd' => by
  unfold wpOp
  simp only [ho, hw, if_true]
  refine .inl ?_
  unfold Oper.wp
  rw [hrun w]
  simp only [Oper.upon, hd]
  have h1 : D (w.alloc (.cells zs T)) := hD _ _ hd' ((Below.refl _ _).alloc (Nat.le_refl _) _)
  exact ⟨N, fun u => D u ∧ Blk w.heap.size zs T u, hD.and (Blk.closed _ _ _), fun u hu => hN u hu.1, fun _ => rfl, hO.alloc _, ⟨h1, Blk.new w zs T⟩,
    h w.heap.size ⟨w, hO, hd', rfl⟩ hO.size ⟨w.alloc (.cells zs T), hO.alloc _, h1, Blk.new w zs T⟩⟩
end
/-- blocks that are known whole, a list of them -/
def MemL (L : List (Nat × Array Value × TypeId)) (w : World) : Prop := ∀ x ∈ L, Blk x.1 x.2.1 x.2.2 w
theorem MemL.closed (L : List (Nat × Array Value × TypeId)) : Closed (MemL L) := fun _ _ h hb x hx => Blk.closed _ _ _ _ _ (h x hx) hb
theorem MemL.over {ex : List Nat} {L : List (Nat × Array Value × TypeId)} {w w' : World} (h : MemL L w) (ho : Over ex w w') (hn : ∀ x ∈ L, x.1 ∉ ex) : MemL L w' := fun x hx => (h x hx).over ho (hn x hx)
theorem MemL.cons {L : List (Nat × Array Value × TypeId)} {r : Nat} {cs : Array Value} {T : TypeId} {w : World} (h : Blk r cs T w) (hs : MemL L w) : MemL ((r, cs, T) :: L) w := fun x hx => by
  rcases List.mem_cons.1 hx with rfl | hx
  · exact h
  · exact hs x hx
theorem MemL.head {L : List (Nat × Array Value × TypeId)} {r : Nat} {cs : Array Value} {T : TypeId} {w : World} (h : MemL ((r, cs, T) :: L) w) : Blk r cs T w := h (r, cs, T) (by simp)
theorem MemL.tail {L : List (Nat × Array Value × TypeId)} {x : Nat × Array Value × TypeId} {w : World} (h : MemL (x :: L) w) : MemL L w := fun y hy => h y (by simp [hy])
theorem MemL.nil (w : World) : MemL [] w := fun x hx => by cases hx
theorem MemL.far {L : List (Nat × Array Value × TypeId)} {w : World} (h : MemL L w) {p : Addr} (hp : ∀ x ∈ L, x.1 ≠ p.block) (v : Value) : MemL L (w.setCell p v) := fun x hx => (h x hx).far (hp x hx) v
theorem lt_closed (r : Nat) : Closed (fun w => r < w.heap.size) := fun _ _ h hb => Nat.lt_of_lt_of_le h hb.size

def one1 : Value → Bool
  | .agg _ => false
  | .tuple _ => false
  | _ => true
theorem storeCells_blk {P : Program} {r : Nat} {T : TypeId} : ∀ (vs old : List Value) (pre : List Value) (w : World), vs.length = old.length → (∀ v ∈ vs, one1 v = true) → Blk r (pre ++ old).toArray T w →
    ∃ w', (storeCells ⟨r, 0, none⟩ vs pre.length).run P w = .ok () w' ∧ Over [r] w w' ∧ Blk r (pre ++ vs).toArray T w'
  | [], [], pre, w, _, _, h => ⟨w, rfl, Over.refl _ _, h⟩
  | [], _ :: _, _, _, hl, _, _ => by simp at hl
  | _ :: _, [], _, _, hl, _, _ => by simp at hl
  | v :: vs, o :: old, pre, w, hl, hv, h => by
    have hc : w.cell? ⟨r, pre.length, none⟩ = some o := by rw [h.cell]; simp
    have hf := h.frozen pre.length
    have h1 : Blk r ((pre ++ [v]) ++ old).toArray T (w.setCell ⟨r, pre.length, none⟩ v) := by
      have := h.set pre.length v
      have e : ((pre ++ o :: old).toArray.setIfInBounds pre.length v) = ((pre ++ [v]) ++ old).toArray := by simp
      rw [e] at this; exact this
    obtain ⟨w', hr, ho, hb⟩ := storeCells_blk (P := P) vs old (pre ++ [v]) (w.setCell ⟨r, pre.length, none⟩ v) (by simpa using hl) (fun u hu => hv u (by simp [hu])) h1
    refine ⟨w', ?_, Over.trans (Over.setCell (Over.refl _ _) (.inr (by simp)) v) ho, by simpa using hb⟩
    have e2 : (⟨r, 0, none⟩ : Addr).add pre.length = ⟨r, pre.length, none⟩ := by cases pre <;> simp [Addr.add]
    simp only [storeCells, e2]
    have hone := hv v (by simp)
    rw [show (pre ++ [v]).length = pre.length + 1 by simp] at hr
    cases v <;> first
      | (simp [one1] at hone; done)
      | (show Sem.run P (Sem.bind (store _ _) _) w = _
         simp only [store, Sem.bind, Sem.run, hc, hf, Bool.false_eq_true, if_false]
         exact hr)
theorem run_store_blk {P : Program} {r : Nat} {T : TypeId} {zs : Array Value} {v : Value} {w : World} (hs : ∀ w, (sizeOf T).run P w = .ok zs.size w) (hl : v.cells.size = zs.size) (hv : ∀ u ∈ v.cells.toList, one1 u = true) (h : Blk r zs T w) :
    ∃ w', (Instr.storeAt T (.pointer (some ⟨r, 0, none⟩)) v).run P w = .ok () w' ∧ Over [r] w w' ∧ Blk r v.cells T w' := by
  obtain ⟨w', h1, h2, h3⟩ := storeCells_blk (P := P) v.cells.toList zs.toList [] w (by simpa using hl) hv (by simpa using h)
  refine ⟨w', ?_, h2, by simpa using h3⟩
  have hs' := hs w
  simp [Instr.storeAt, Instr.sureAddr, storeVar, hs', hl]
  simpa using h1

/-! orders that come to one end -/
section
variable {P : Program} {id : Nat} {ops : Array Oper} {b : Bool} {Q : Exit → Act → World → Prop} {a : Act} {w : World}
theorem region_join0 {A : Act} (F : World → Prop) (h1 : (∀ W1, F W1 → Q .normal A W1) → (Code.region id ops b).wp P Q a w) (h2 : ∀ W1, F W1 → Q .normal A W1) : (Code.region id ops b).wp P Q a w := h1 h2
theorem region_join1 {A : Nat → Act} (F : Nat → World → Prop) (h1 : (∀ r W1, F r W1 → Q .normal (A r) W1) → (Code.region id ops b).wp P Q a w) (h2 : ∀ r W1, F r W1 → Q .normal (A r) W1) : (Code.region id ops b).wp P Q a w := h1 h2
theorem region_join2 {A : Nat → Nat → Act} (F : Nat → Nat → World → Prop) (h1 : (∀ r s W1, F r s W1 → Q .normal (A r s) W1) → (Code.region id ops b).wp P Q a w) (h2 : ∀ r s W1, F r s W1 → Q .normal (A r s) W1) : (Code.region id ops b).wp P Q a w := h1 h2
theorem region_join3 {A : Nat → Nat → Nat → Act} (F : Nat → Nat → Nat → World → Prop) (h1 : (∀ r s t W1, F r s t W1 → Q .normal (A r s t) W1) → (Code.region id ops b).wp P Q a w) (h2 : ∀ r s t W1, F r s t W1 → Q .normal (A r s t) W1) : (Code.region id ops b).wp P Q a w := h1 h2
end
/-! a state C of the blocks in ex, and blocks that are known whole -/
def KD (C : World → Prop) (L : List (Nat × Array Value × TypeId)) : World → Prop := fun w => C w ∧ MemL L w
theorem KD.closed {C : World → Prop} (h : Closed C) (L : List (Nat × Array Value × TypeId)) : Closed (KD C L) := h.and (MemL.closed L)
section
variable {P : Program} {ops : Array Oper} {Q : Exit → Act → World → Prop} {ex : List Nat} {W : World} {C : World → Prop} {L : List (Nat × Array Value × TypeId)}
theorem stepK_alloc {a : Act} {listed : Array Bool} {f i d : Nat} {o : Oper} {zs : Array Value} {T : TypeId} (ho : ops[i]? = some o) (hw : Region.wanted o (yielded ops a.tmps) = true) (hd : o.dst = some d)
    (hrun : ∀ w, (execOp a.eval o).run P w = .ok (.value (.pointer (some ⟨w.heap.size, 0, none⟩))) (w.alloc (.cells zs T))) (hC : Closed C)
    (h : ∀ r, W.heap.size ≤ r → (∀ x ∈ L, x.1 < r) → (∃ w, Over ex W w ∧ KD C ((r, zs, T) :: L) w) → wpAnyF P ops Q ex W (fun _ => false) f (listed.setIfInBounds i true) (a.put (some d) (.pointer (some ⟨r, 0, none⟩))) (fun _ => True) (KD C ((r, zs, T) :: L))) :
    StepF P ops Q ex W (fun _ => false) f listed a (fun _ => True) (KD C L) i := fun w hO hd' => by
  unfold wpOp
  simp only [ho, hw, if_true]
  refine .inl ?_
  unfold Oper.wp
  rw [hrun w]
  simp only [Oper.upon, hd]
  have h1 : KD C ((w.heap.size, zs, T) :: L) (w.alloc (.cells zs T)) := by
    have hk := KD.closed hC L _ _ hd' ((Below.refl _ _).alloc (Nat.le_refl _) (.cells zs T))
    exact ⟨hk.1, MemL.cons (Blk.new w zs T) hk.2⟩
  exact ⟨fun _ => True, KD C ((w.heap.size, zs, T) :: L), KD.closed hC _, fun _ _ => trivial, fun _ => rfl, hO.alloc _, h1, h w.heap.size hO.size (fun x hx => (hd'.2 x hx).lt) ⟨_, hO.alloc _, h1⟩⟩
theorem stepK_call {a : Act} {listed : Array Bool} {f i fn : Nat} {o : Oper} {args : Array Value} {v : Value} (dd : Option Tmp) (C' : World → Prop) (ho : ops[i]? = some o) (hw : Region.wanted o (yielded ops a.tmps) = true)
    (hdd : o.dst = dd) (hrun : ∀ w, (execOp a.eval o).run P w = .ok (.enter fn args) w) (hC' : Closed C') (hL : ∀ x ∈ L, x.1 ∉ ex)
    (hc : ∀ w, C w → Calls P fn args w fun e w' => e = .returned v ∧ Over ex w w' ∧ C' w')
    (h : (∃ w, Over ex W w ∧ KD C' L w) → wpAnyF P ops Q ex W (fun _ => false) f (listed.setIfInBounds i true) (a.put dd v) (fun _ => True) (KD C' L)) :
    StepF P ops Q ex W (fun _ => false) f listed a (fun _ => True) (KD C L) i :=
  stepF_call (fun _ => True) (KD C' L) ho hw hrun (KD.closed hC' L) (fun _ _ => trivial) (fun _ => rfl)
    (fun w _ hd => (hc w hd.1).mono fun _ _ ⟨he, ho', hc'⟩ => ⟨he, ho', hc', hd.2.over ho' hL⟩) (by rw [hdd]; exact h)
theorem stepK_store {a : Act} {listed : Array Bool} {f i r : Nat} {o : Oper} {zs : Array Value} {T : TypeId} {x y : Operand} {v : Value} (L1 L2 : List (Nat × Array Value × TypeId)) (ho : ops[i]? = some o) (hw : Region.wanted o (yielded ops a.tmps) = true)
    (hop : o.op = .store T x y) (hdst : o.dst = none) (hx : a.eval x = .pointer (some ⟨r, 0, none⟩)) (hy : a.eval y = v) (hsz : ∀ w, (sizeOf T).run P w = .ok zs.size w) (hl : v.cells.size = zs.size) (hv : ∀ u ∈ v.cells.toList, one1 u = true)
    (hr : W.heap.size ≤ r ∨ r ∈ ex) (hC : Closed C) (hCr : ∀ w w', C w → Over [r] w w' → C w') (hL : ∀ x ∈ L1 ++ L2, x.1 ≠ r)
    (h : (∃ w, Over ex W w ∧ KD C (L1 ++ (r, v.cells, T) :: L2) w) → wpAnyF P ops Q ex W (fun _ => false) f (listed.setIfInBounds i true) a (fun _ => True) (KD C (L1 ++ (r, v.cells, T) :: L2))) :
    StepF P ops Q ex W (fun _ => false) f listed a (fun _ => True) (KD C (L1 ++ (r, zs, T) :: L2)) i := fun w hO hd => by
  unfold wpOp
  simp only [ho, hw, if_true]
  refine .inl ?_
  obtain ⟨w', h1, h2, h3⟩ := run_store_blk (P := P) hsz hl hv (hd.2 (r, zs, T) (by simp))
  have hrun : (execOp a.eval o).run P w = .ok .skip w' := by
    unfold execOp
    rw [hop]
    simp only [hx, hy]
    simp [h1]
  unfold Oper.wp
  rw [hrun]
  simp only [Oper.upon, hdst, Act.put]
  have hO' : Over ex W w' := ⟨h2.os.trans hO.os, h2.tape.trans hO.tape, h2.output.trans hO.output, Nat.le_trans hO.size h2.size, fun k hk hn => (h2.block k (Nat.lt_of_lt_of_le hk hO.size) (by
    intro hkr
    rw [List.mem_singleton] at hkr
    subst hkr
    rcases hr with hr | hr
    · omega
    · exact hn hr)).trans (hO.block k hk hn)⟩
  have hd'' : KD C (L1 ++ (r, v.cells, T) :: L2) w' := ⟨hCr _ _ hd.1 h2, fun z hz => by
    rw [List.mem_append, List.mem_cons] at hz
    rcases hz with hz | rfl | hz
    · exact (hd.2 z (by simp [hz])).over h2 (by simpa using hL z (by simp [hz]))
    · exact h3
    · exact (hd.2 z (by simp [hz])).over h2 (by simpa using hL z (by simp [hz]))⟩
  exact ⟨fun _ => True, _, KD.closed hC _, fun _ _ => trivial, fun _ => rfl, hO', hd'', h ⟨w', hO', hd''⟩⟩
end
end Go.Proofs.Ytcnfjapoopdiaaa
