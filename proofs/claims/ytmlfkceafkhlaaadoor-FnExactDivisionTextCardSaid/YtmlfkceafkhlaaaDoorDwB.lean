/- Walks: one operation of a region: slices of wholes that are built. -/
import Derived.Test.YtmlfkceafkhlaaaDoorDwC
namespace Go.Proofs.YtmlfkceafkhlaaaDoor
open Go.RowKit

/-- a value known -/
def IsV (c : Value) : Value → World → Prop := fun v _ => v = c
theorem IsV.closed (c v : Value) : Closed (IsV c v) := fun _ _ h _ => h
def IsWs (Ns : List Int) : Value → World → Prop := fun v w => RdWs w v Ns
theorem IsWs.closed (Ns : List Int) (v : Value) : Closed (IsWs Ns v) := fun _ _ h hb => RdWs.below h hb
/-- a variable that holds a whole -/
def BlkW (b r : Nat) (N : Int) (w : World) : Prop := ∃ lv, Blk r #[.bool (decide (N < 0)), lv] 31 w ∧ RdO w b lv (dg N.natAbs) ∧ lv.oneCell' = true
theorem BlkW.closed (b r : Nat) (N : Int) : Closed (BlkW b r N) := fun _ _ ⟨lv, h1, h2, h3⟩ hb => ⟨lv, h1.next hb, h2.below hb, h3⟩
theorem BlkW.next {b r : Nat} {N : Int} {w w' : World} (h : BlkW b r N w) (hb : Below w.heap.size w w') : BlkW b r N w' := BlkW.closed b r N _ _ h hb
theorem BlkW.lt {b r : Nat} {N : Int} {w : World} (h : BlkW b r N w) : r < w.heap.size := by
  obtain ⟨lv, h1, _⟩ := h
  exact h1.lt
theorem over_set2 (w : World) (r : Nat) (x y : Value) : Over [r] w ((w.setCell ⟨r, 0, none⟩ x).setCell ⟨r, 1, none⟩ y) := ((Over.refl [r] w).setCell (p := ⟨r, 0, none⟩) (.inr (by simp)) x).setCell (p := ⟨r, 1, none⟩) (.inr (by simp)) y
/-- a whole that is stored -/
theorem BlkW.put {b r : Nat} {cs : Array Value} {w : World} {M : Int} {lv : Value} (hk : Blk r cs 31 w) (hc : cs.size = 2) (hv : RdO w b lv (dg M.natAbs)) (h1 : lv.oneCell' = true) : BlkW b r M ((w.setCell ⟨r, 0, none⟩ (.bool (decide (M < 0)))).setCell ⟨r, 1, none⟩ lv) := by
  have k9 := (hk.set 0 (.bool (decide (M < 0)))).set 1 lv
  refine ⟨lv, ?_, hv.far (by decide) hk (over_set2 w r _ _), h1⟩
  match cs, hc with
  | ⟨[x, y]⟩, _ => simpa using k9
theorem BlkW.far {b r r' : Nat} {N : Int} {w : World} {cs : Array Value} (h : BlkW b r N w) (hne : r ≠ r') (hk : Blk r' cs 31 w) (x y : Value) : BlkW b r N ((w.setCell ⟨r', 0, none⟩ x).setCell ⟨r', 1, none⟩ y) := by
  obtain ⟨lv, h1, h2, h3⟩ := h
  exact ⟨lv, (h1.far (p := ⟨r', 0, none⟩) hne x).far (p := ⟨r', 1, none⟩) hne y, h2.far (by decide) hk (over_set2 w r' x y), h3⟩
theorem op_ldW {o : Oper} {ρ : Operand → Value} {w : World} {b r : Nat} {N : Int} (x : Operand) (ho : o.op = .load 31 x) (hx : ρ x = .pointer (some ⟨r, 0, none⟩)) (h : BlkW b r N w) : OpTo Tryd.prog o ρ w (Wh b N) := by
  obtain ⟨lv, h1, h2, h3⟩ := h
  refine .value (.agg #[.bool (decide (N < 0)), lv]) ?_ ⟨lv, rfl, h2⟩
  have q0 : w.cell? ⟨r, 0, none⟩ = some (.bool (decide (N < 0))) := h1.cell 0
  have q1 : w.cell? ⟨r, 1, none⟩ = some lv := h1.cell 1
  unfold execOp
  rw [ho]
  simp [go_sem, hx, q0, q1]
theorem op_field0 {o : Oper} {ρ : Operand → Value} {w : World} {r : Nat} (x : Operand) (ho : o.op = .fieldAddr 26 x 0) (hx : ρ x = .pointer (some ⟨r, 0, none⟩)) : OpTo Tryd.prog o ρ w (IsV (.pointer (some ⟨r, 0, none⟩))) := by
  refine .value _ ?_ rfl
  unfold execOp
  rw [ho]
  simp [go_sem, hx]
theorem op_field1 {o : Oper} {ρ : Operand → Value} {w : World} {r : Nat} (x : Operand) (ho : o.op = .fieldAddr 26 x 1) (hx : ρ x = .pointer (some ⟨r, 0, none⟩)) : OpTo Tryd.prog o ρ w (IsV (.pointer (some ⟨r, 1, none⟩))) := by
  refine .value _ ?_ rfl
  unfold execOp
  rw [ho]
  simp [go_sem, hx]
theorem op_ldI {o : Oper} {ρ : Operand → Value} {w : World} {r i : Nat} {A : Int} (x : Operand) (ho : o.op = .load 3 x) (hx : ρ x = .pointer (some ⟨r, i, none⟩)) (h : w.cell? ⟨r, i, none⟩ = some (.int .i64 A)) : OpTo Tryd.prog o ρ w (IsV (.int .i64 A)) := by
  refine .value _ ?_ rfl
  unfold execOp
  rw [ho]
  simp [go_sem, hx, h]
/-- the elements of a row -/
def EltW (b g k : Nat) (xs : List Int) (w : World) : Prop := g < w.heap.size ∧ ∀ i, i < k → ∃ lv, w.cell? ⟨g, i * 2, none⟩ = some (.bool (decide (eat xs i < 0))) ∧ w.cell? ⟨g, i * 2 + 1, none⟩ = some lv ∧ RdO w b lv (dg (eat xs i).natAbs)
theorem EltW.next {b g k : Nat} {xs : List Int} {w w' : World} (h : EltW b g k xs w) (hb : Below w.heap.size w w') : EltW b g k xs w' := ⟨Nat.lt_of_lt_of_le h.1 hb.size, fun i hi => by
  obtain ⟨lv, q0, q1, q2⟩ := h.2 i hi
  exact ⟨lv, (hb.cell (p := ⟨g, i * 2, none⟩) h.1).trans q0, (hb.cell (p := ⟨g, i * 2 + 1, none⟩) h.1).trans q1, q2.below hb⟩⟩
theorem OwnsW.elt {w : World} {base b g cap k : Nat} {xs : List Int} (h : OwnsW w base b (.slice (some ⟨g, 0, none⟩) k cap) xs) (hk : 0 < k) : k = xs.length ∧ base ≤ g ∧ EltW b g k xs w := by
  obtain ⟨L, h1, hl, h2⟩ := h
  obtain ⟨a, cap', hv, _, hc⟩ := h1.form
  injection hv with e1 e2 e3
  obtain ⟨g', hg, _, _, _, hgl, hgb⟩ := hc 0 (by omega)
  rw [hg] at e1
  injection e1 with e1
  injection e1 with e1
  subst e1
  refine ⟨by omega, hgb, hgl, fun i hi => ?_⟩
  obtain ⟨g', hg', q1, q2, _⟩ := hc i (by omega)
  rw [hg] at hg'
  injection hg' with hg'
  injection hg' with hg'
  subst hg'
  obtain ⟨m1, m2⟩ := h2 i (by omega) (by omega)
  have he : eat xs i = xs[i]'(by omega) := by
    unfold eat
    rw [List.getElem?_eq_getElem (by omega)]; rfl
  exact ⟨L[i].2, by rw [q1, m1, he], q2, by rw [he]; exact m2⟩
/-- an element of a row of wholes: its place, its value -/
theorem op_idxW {o : Oper} {ρ : Operand → Value} {w : World} {g n cap i : Nat} (x y : Operand) (ho : o.op = .indexAddr 38 x y) (hx : ρ x = .slice (some ⟨g, 0, none⟩) n cap) (hy : ρ y = .int .i64 i) (hi : i < n) : OpTo Tryd.prog o ρ w (IsV (.pointer (some ⟨g, i * 2, none⟩))) := by
  refine .value _ ?_ rfl
  have i0 : (0 : Int) ≤ (i : Int) := by omega
  have i1 : (i : Int) < (n : Int) := by omega
  unfold execOp
  rw [ho]
  simp [go_sem, hx, hy, i0, i1]
theorem op_eltW {o : Oper} {ρ : Operand → Value} {w : World} {b g i : Nat} {N : Int} {lv : Value} (x : Operand) (ho : o.op = .load 31 x) (hx : ρ x = .pointer (some ⟨g, i * 2, none⟩)) (q0 : w.cell? ⟨g, i * 2, none⟩ = some (.bool (decide (N < 0)))) (q1 : w.cell? ⟨g, i * 2 + 1, none⟩ = some lv) (hr : RdO w b lv (dg N.natAbs)) : OpTo Tryd.prog o ρ w (Wh b N) := by
  refine .value (.agg #[.bool (decide (N < 0)), lv]) ?_ ⟨lv, rfl, hr⟩
  unfold execOp
  rw [ho]
  simp [go_sem, hx, q0, q1]
theorem op_eltX {o : Oper} {ρ : Operand → Value} {w : World} {b g k i : Nat} {xs : List Int} (x : Operand) (ho : o.op = .load 31 x) (hx : ρ x = .pointer (some ⟨g, i * 2, none⟩)) (h : EltW b g k xs w) (hi : i < k) : OpTo Tryd.prog o ρ w (Wh b (eat xs i)) := by
  obtain ⟨lv, q0, q1, q2⟩ := h.2 i hi
  exact op_eltW x ho hx q0 q1 q2
theorem OwnsW.next {w w1 : World} {base b : Nat} {v : Value} {Ns : List Int} (h : OwnsW w base b v Ns) (hb : Below w.heap.size w w1) : OwnsW w1 base b v Ns := h.below hb
theorem OwnsW.addr {w : World} {base b : Nat} {v : Value} {Ns : List Int} (h : OwnsW w base b v Ns) (hn : 0 < Ns.length) : ∃ g cap, v = .slice (some ⟨g, 0, none⟩) Ns.length cap ∧ base ≤ g ∧ Ns.length ≤ cap := by
  obtain ⟨L, h1, hl, h2⟩ := h
  obtain ⟨a, cap, hv, hcap, hc⟩ := h1.form
  obtain ⟨g, hg, _, _, _, _, hb⟩ := hc 0 (by omega)
  exact ⟨g, cap, by rw [hv, hg, hl], hb, by omega⟩
theorem OwnsW.far {w : World} {base b r' : Nat} {v : Value} {Ns : List Int} {cs : Array Value} (h : OwnsW w base b v Ns) (hne : v.ownBlock ≠ some r') (hk : Blk r' cs 31 w) (x y : Value) : OwnsW ((w.setCell ⟨r', 0, none⟩ x).setCell ⟨r', 1, none⟩ y) base b v Ns := by
  obtain ⟨L, h1, hl, h2⟩ := h
  refine ⟨L, ⟨h1.1, ?_⟩, hl, fun i a c => ⟨(h2 i a c).1, (h2 i a c).2.far (by decide) hk (over_set2 w r' x y)⟩⟩
  rcases h1.2 with h0 | ⟨g, cap, cur, hv, hg, hh, hr⟩
  · exact .inl h0
  · refine .inr ⟨g, cap, cur, hv, hg, ((over_set2 w r' x y).block g (Array.getElem?_eq_some_iff.1 hh).1 (fun hm => hne ?_)).trans hh, hr⟩
    rw [List.mem_singleton] at hm
    rw [hv, hm]; rfl
theorem BlkW.app {b0 r base b : Nat} {N : Int} {v : Value} {xs : List Int} {w w1 : World} (h : BlkW b0 r N w) (hD : OwnsW w base b v xs) (hO : Over v.ownBlock.toList w w1) (hne : v.ownBlock ≠ some r) : BlkW b0 r N w1 := by
  obtain ⟨lv, h1, h2, h3⟩ := h
  obtain ⟨L, k1, _⟩ := hD
  have hr : r ∉ v.ownBlock.toList := fun hm => hne (by simpa using hm)
  refine ⟨lv, h1.over hO hr, ?_, h3⟩
  rcases k1.2 with ⟨hv0, _⟩ | ⟨g2, cap2, cur2, hv2, _, hh2, _⟩
  · rw [hv0] at hO
    exact h2.below hO.below
  · rw [hv2] at hO
    exact h2.far (by decide) hh2 hO
/-- a whole is appended to a row of wholes -/
theorem wpList_appW {ops : Array Oper} {rest : List Oper} {o : Oper} {a : Act} {Q : Exit → Act → World → Prop} {wr : World} (hgd : o.guard = none) (s x : Operand)
    (ho : o.op = .call { callee := .builtin .append, args := #[s, x], argTypes := #[38, 38] })
    (base b c : Nat) (v u : Value) (xs : List Int) (N : Int) (hs : a.eval s = v) (hx : a.eval x = u) (hown : OwnsW wr base b v xs) (hu : OwnsW wr c b u [N]) (hbase : base ≤ wr.heap.size) (hlen : xs.length < 100000)
    (h : ∀ v' w1, OwnsW w1 base b v' (xs ++ [N]) → Over v.ownBlock.toList wr w1 → (∀ r K, BlkW b r K wr → v.ownBlock ≠ some r → BlkW b r K w1) → wpList Tryd.prog ops Q rest (a.put o.dst v') w1) : wpList Tryd.prog ops Q (o :: rest) a wr := by
  obtain ⟨L, h1, hl, h2⟩ := hown
  obtain ⟨M, k1, kl, k2⟩ := hu
  obtain ⟨a', cap, hu', _, hc⟩ := k1.form
  obtain ⟨g, hg, q0, q1, _⟩ := hc 0 (by rw [kl]; simp)
  obtain ⟨p, hM⟩ : ∃ p, M = [p] := by
    match M, kl with
    | [p], _ => exact ⟨p, rfl⟩
  subst hM hg
  obtain ⟨m1, m2⟩ := k2 0 (by simp) (by simp)
  simp only [List.getElem_cons_zero] at m1 m2 q0 q1
  have hp2 : p.2.oneCell' = true := by
    obtain ⟨_, _, e, _⟩ := m2.1
    rw [e]; rfl
  refine wpList_appQ hgd s x ho base v L [p] hs h1 ⟨g, 0, none⟩ cap (hx.trans hu') (fun j y hj => ?_) (fun y hy => ?_) (by simp; omega) hbase fun v' w1 ho2 hg2 => ?_
  · match j, hj with
    | 0, hj => simp [cellsQ] at hj; subst hj; simpa [Addr.add] using q0
    | 1, hj => simp [cellsQ] at hj; subst hj; simpa [Addr.add] using q1
  · simp only [cellsQ, List.mem_cons, List.not_mem_nil, or_false] at hy
    rcases hy with rfl | rfl
    · rfl
    · exact hp2
  · have hfar : ∀ {lv : Value} {D : List Int}, RdO wr b lv D → RdO w1 b lv D := fun {lv D} hr => by
        rcases h1.2 with ⟨hv0, _⟩ | ⟨g2, cap2, cur2, hv2, _, hh2, _⟩
        · rw [hv0] at hg2
          exact hr.below ⟨hg2.os, hg2.tape, hg2.output, hg2.size, fun k hk => hg2.block k hk (by simp [Value.ownBlock])⟩
        · rw [hv2] at hg2
          exact hr.far (by decide) hh2 ⟨hg2.os, hg2.tape, hg2.output, hg2.size, fun k hk hn => hg2.block k hk (by simpa [Value.ownBlock] using hn)⟩
    refine h v' w1 ?_ ?_ fun r K ⟨lv, b1, b2, b3⟩ hr => ⟨lv, (hg2.block r b1.lt hr.symm).trans b1, hfar b2, b3⟩
    · refine ⟨_, ho2, by simp [hl], fun i hi hi' => ?_⟩
      rcases Nat.lt_or_ge i L.length with hlt | hge
      · obtain ⟨n1, n2⟩ := h2 i hlt (by omega)
        simp only [List.getElem_append_left hlt, List.getElem_append_left (show i < xs.length by omega)]
        exact ⟨n1, hfar n2⟩
      · obtain rfl : i = L.length := by simp at hi; omega
        simp only [List.getElem_append_right (Nat.le_refl _), Nat.sub_self, List.getElem_cons_zero]
        have e : (xs ++ [N])[L.length]'hi' = N := by
          rw [List.getElem_append_right (by omega)]
          simp [hl]
        rw [e]
        exact ⟨m1, hfar m2⟩
    · cases hv : v.ownBlock with
      | none => rw [hv] at hg2; exact ⟨hg2.os, hg2.tape, hg2.output, hg2.size, fun k hk _ => hg2.block k hk (by simp)⟩
      | some g2 => rw [hv] at hg2; exact ⟨hg2.os, hg2.tape, hg2.output, hg2.size, fun k hk hn => hg2.block k hk (by simpa using hn)⟩
/-- an element of a row that a call has given -/
def IsE (b i : Nat) (xs : List Int) : Value → World → Prop := fun v w => ∃ g, v = .pointer (some ⟨g, i * 2, none⟩) ∧ EltW b g xs.length xs w
theorem IsE.closed (b i : Nat) (xs : List Int) (v : Value) : Closed (IsE b i xs v) := fun _ _ ⟨g, h1, h2⟩ hb => ⟨g, h1, h2.next hb⟩
theorem op_idxE {o : Oper} {ρ : Operand → Value} {w : World} {base b i : Nat} {xs : List Int} (x y : Operand) (ho : o.op = .indexAddr 38 x y) (hx : OwnsW w base b (ρ x) xs) (hy : ρ y = .int .i64 i) (hi : i < xs.length) : OpTo Tryd.prog o ρ w (IsE b i xs) := by
  obtain ⟨g, cap, hv, _, _⟩ := hx.addr (by omega)
  have hE := (hv ▸ hx : OwnsW w base b (.slice (some ⟨g, 0, none⟩) xs.length cap) xs).elt (by omega)
  refine .value _ ?_ ⟨g, rfl, hE.2.2⟩
  have i0 : (0 : Int) ≤ (i : Int) := by omega
  have i1 : (i : Int) < (xs.length : Int) := by omega
  unfold execOp
  rw [ho]
  simp [go_sem, hv, hy, i0, i1]
theorem op_ldE {o : Oper} {ρ : Operand → Value} {w : World} {b i : Nat} {xs : List Int} (x : Operand) (ho : o.op = .load 31 x) (h : IsE b i xs (ρ x) w) (hi : i < xs.length) : OpTo Tryd.prog o ρ w (Wh b (eat xs i)) := by
  obtain ⟨g, hx, hE⟩ := h
  exact op_eltX x ho hx hE hi
/-- a whole that is 0 -/
theorem op_zeroW {o : Oper} {ρ : Operand → Value} {w : World} {b : Nat} (ho : o.op = .build 31 #[]) : OpTo Tryd.prog o ρ w (Wh b 0) := by
  refine .value (.agg #[.bool false, .slice none 0 0]) ?_ ⟨_, rfl, ?_⟩
  · unfold execOp
    rw [ho]
    simp [go_sem]
  · rw [Int.natAbs_zero, dg_zero]
    exact ⟨⟨none, 0, rfl, Nat.le_refl _, fun i hi => by simp at hi⟩, fun h => absurd rfl h⟩
theorem op_add {o : Oper} {ρ : Operand → Value} {w : World} {a c : Int} (x y : Operand) (ho : o.op = .binOp .add 3 x y 3) (hx : ρ x = .int .i64 a) (hy : ρ y = .int .i64 c) (h0 : -1000000 ≤ a + c) (h1 : a + c ≤ 1000000) : OpTo Tryd.prog o ρ w (IsV (.int .i64 (a + c))) := by
  refine .value _ ?_ rfl
  have hw : IntKind.i64.wrap (a + c) = a + c := by rw [Go.IntWalk.i64_left]; unfold wrap64; omega
  unfold execOp
  rw [ho]
  simp [go_sem, hx, hy, hw]
theorem op_sub {o : Oper} {ρ : Operand → Value} {w : World} {a c : Int} (x y : Operand) (ho : o.op = .binOp .sub 3 x y 3) (hx : ρ x = .int .i64 a) (hy : ρ y = .int .i64 c) (h0 : -1000000 ≤ a - c) (h1 : a - c ≤ 1000000) : OpTo Tryd.prog o ρ w (IsV (.int .i64 (a - c))) := by
  refine .value _ ?_ rfl
  have hw : IntKind.i64.wrap (a - c) = a - c := by rw [Go.IntWalk.i64_left]; unfold wrap64; omega
  unfold execOp
  rw [ho]
  simp [go_sem, hx, hy, hw]
theorem op_addN {o : Oper} {ρ : Operand → Value} {w : World} {a c : Nat} (x y : Operand) (ho : o.op = .binOp .add 3 x y 3) (hx : ρ x = .int .i64 a) (hy : ρ y = .int .i64 c) (h1 : a + c ≤ 1000000) : OpTo Tryd.prog o ρ w (IsV (.int .i64 ((a + c : Nat) : Int))) := by
  have h := op_add (w := w) x y ho hx hy (by omega) (by omega)
  rw [show ((a + c : Nat) : Int) = (a : Int) + (c : Int) by omega]
  exact h
theorem op_subN {o : Oper} {ρ : Operand → Value} {w : World} {a c : Nat} (x y : Operand) (ho : o.op = .binOp .sub 3 x y 3) (hx : ρ x = .int .i64 a) (hy : ρ y = .int .i64 c) (h1 : c ≤ a) (h2 : a ≤ 1000000) : OpTo Tryd.prog o ρ w (IsV (.int .i64 ((a - c : Nat) : Int))) := by
  have h := op_sub (w := w) x y ho hx hy (by omega) (by omega)
  rw [show ((a - c : Nat) : Int) = (a : Int) - (c : Int) by omega]
  exact h
theorem op_len {o : Oper} {ρ : Operand → Value} {w : World} {a : Option Addr} {n cap : Nat} (x : Operand) (ho : o.op = .call { callee := .builtin .len, args := #[x], argTypes := #[38] }) (hx : ρ x = .slice a n cap) : OpTo Tryd.prog o ρ w (IsV (.int .i64 (n : Int))) := by
  refine .value _ ?_ rfl
  unfold execOp
  rw [ho]
  simp [go_sem, hx]
theorem op_mul {o : Oper} {ρ : Operand → Value} {w : World} {a c : Int} (x y : Operand) (ho : o.op = .binOp .mul 3 x y 3) (hx : ρ x = .int .i64 a) (hy : ρ y = .int .i64 c) (h : -1000000000000000000 ≤ a * c ∧ a * c ≤ 1000000000000000000) : OpTo Tryd.prog o ρ w (IsV (.int .i64 (a * c))) := by
  refine .value _ ?_ rfl
  have hw : IntKind.i64.wrap (a * c) = a * c := by rw [Go.IntWalk.i64_left]; unfold wrap64; omega
  unfold execOp
  rw [ho]
  simp [go_sem, hx, hy, hw]
theorem op_add9 {o : Oper} {ρ : Operand → Value} {w : World} {a c : Int} (x y : Operand) (ho : o.op = .binOp .add 3 x y 3) (hx : ρ x = .int .i64 a) (hy : ρ y = .int .i64 c) (h : -1000000000000000000 ≤ a + c ∧ a + c ≤ 1000000000000000000) : OpTo Tryd.prog o ρ w (IsV (.int .i64 (a + c))) := by
  refine .value _ ?_ rfl
  have hw : IntKind.i64.wrap (a + c) = a + c := by rw [Go.IntWalk.i64_left]; unfold wrap64; omega
  unfold execOp
  rw [ho]
  simp [go_sem, hx, hy, hw]
theorem op_bs1 {o : Oper} {ρ : Operand → Value} {w : World} {b : Nat} (x0 : Operand) (N0 : Int) (ho : o.op = .buildSlice 38 1 #[(0, x0)]) (h0 : Wh b N0 (ρ x0) w) :
    OpTo Tryd.prog o ρ w (IsWs [N0]) := by
  obtain ⟨l0, e0, r0, c0⟩ := h0.cell
  have hb : Below w.heap.size w (w.alloc (.cells (cellsQ [(decide (N0 < 0), l0)]).toArray 31)) := (Below.refl _ _).alloc (Nat.le_refl _) _
  refine OpTo.make (.slice (some ⟨w.heap.size, 0, none⟩) 1 1) (w.alloc (.cells (cellsQ [(decide (N0 < 0), l0)]).toArray 31)) ?_ hb ((OwnsQ.new w w.heap.size [(decide (N0 < 0), l0)] (Nat.le_refl _) (by simp) (by simp)).rds rfl ?_)
  · unfold execOp
    rw [ho]
    simp [go_sem, cellsQ, e0]
  · intro i h h'
    match i, h, h' with
    | 0, _, _ => exact ⟨rfl, r0.1.below hb⟩
theorem op_bo1 {o : Oper} {ρ : Operand → Value} {w : World} {b base : Nat} (x0 : Operand) (N0 : Int) (hbase : base ≤ w.heap.size) (ho : o.op = .buildSlice 38 1 #[(0, x0)]) (h0 : Wh b N0 (ρ x0) w) :
    OpTo Tryd.prog o ρ w (fun v w' => OwnsW w' base b v [N0]) := by
  obtain ⟨l0, e0, r0, c0⟩ := h0.cell
  have hb : Below w.heap.size w (w.alloc (.cells (cellsQ [(decide (N0 < 0), l0)]).toArray 31)) := (Below.refl _ _).alloc (Nat.le_refl _) _
  refine OpTo.make (.slice (some ⟨w.heap.size, 0, none⟩) 1 1) (w.alloc (.cells (cellsQ [(decide (N0 < 0), l0)]).toArray 31)) ?_ hb ⟨_, OwnsQ.new w base [(decide (N0 < 0), l0)] hbase (by simp) (by simp), rfl, ?_⟩
  · unfold execOp
    rw [ho]
    simp [go_sem, cellsQ, e0]
  · intro i h h'
    match i, h, h' with
    | 0, _, _ => exact ⟨rfl, r0.below hb⟩
theorem op_bs2 {o : Oper} {ρ : Operand → Value} {w : World} {b : Nat} (x0 x1 : Operand) (N0 N1 : Int) (ho : o.op = .buildSlice 38 2 #[(0, x0), (1, x1)]) (h0 : Wh b N0 (ρ x0) w) (h1 : Wh b N1 (ρ x1) w) :
    OpTo Tryd.prog o ρ w (IsWs [N0, N1]) := by
  obtain ⟨l0, e0, r0, c0⟩ := h0.cell
  obtain ⟨l1, e1, r1, c1⟩ := h1.cell
  have hb : Below w.heap.size w (w.alloc (.cells (cellsQ [(decide (N0 < 0), l0), (decide (N1 < 0), l1)]).toArray 31)) := (Below.refl _ _).alloc (Nat.le_refl _) _
  refine OpTo.make (.slice (some ⟨w.heap.size, 0, none⟩) 2 2) (w.alloc (.cells (cellsQ [(decide (N0 < 0), l0), (decide (N1 < 0), l1)]).toArray 31)) ?_ hb ((OwnsQ.new w w.heap.size [(decide (N0 < 0), l0), (decide (N1 < 0), l1)] (Nat.le_refl _) (by simp) (by simp)).rds rfl ?_)
  · unfold execOp
    rw [ho]
    simp [go_sem, cellsQ, e0, e1]
  · intro i h h'
    match i, h, h' with
    | 0, _, _ => exact ⟨rfl, r0.1.below hb⟩
    | 1, _, _ => exact ⟨rfl, r1.1.below hb⟩
theorem op_bs3 {o : Oper} {ρ : Operand → Value} {w : World} {b : Nat} (x0 x1 x2 : Operand) (N0 N1 N2 : Int) (ho : o.op = .buildSlice 38 3 #[(0, x0), (1, x1), (2, x2)]) (h0 : Wh b N0 (ρ x0) w) (h1 : Wh b N1 (ρ x1) w) (h2 : Wh b N2 (ρ x2) w) :
    OpTo Tryd.prog o ρ w (IsWs [N0, N1, N2]) := by
  obtain ⟨l0, e0, r0, c0⟩ := h0.cell
  obtain ⟨l1, e1, r1, c1⟩ := h1.cell
  obtain ⟨l2, e2, r2, c2⟩ := h2.cell
  have hb : Below w.heap.size w (w.alloc (.cells (cellsQ [(decide (N0 < 0), l0), (decide (N1 < 0), l1), (decide (N2 < 0), l2)]).toArray 31)) := (Below.refl _ _).alloc (Nat.le_refl _) _
  refine OpTo.make (.slice (some ⟨w.heap.size, 0, none⟩) 3 3) (w.alloc (.cells (cellsQ [(decide (N0 < 0), l0), (decide (N1 < 0), l1), (decide (N2 < 0), l2)]).toArray 31)) ?_ hb ((OwnsQ.new w w.heap.size [(decide (N0 < 0), l0), (decide (N1 < 0), l1), (decide (N2 < 0), l2)] (Nat.le_refl _) (by simp) (by simp)).rds rfl ?_)
  · unfold execOp
    rw [ho]
    simp [go_sem, cellsQ, e0, e1, e2]
  · intro i h h'
    match i, h, h' with
    | 0, _, _ => exact ⟨rfl, r0.1.below hb⟩
    | 1, _, _ => exact ⟨rfl, r1.1.below hb⟩
    | 2, _, _ => exact ⟨rfl, r2.1.below hb⟩
theorem op_bs4 {o : Oper} {ρ : Operand → Value} {w : World} {b : Nat} (x0 x1 x2 x3 : Operand) (N0 N1 N2 N3 : Int) (ho : o.op = .buildSlice 38 4 #[(0, x0), (1, x1), (2, x2), (3, x3)]) (h0 : Wh b N0 (ρ x0) w) (h1 : Wh b N1 (ρ x1) w) (h2 : Wh b N2 (ρ x2) w) (h3 : Wh b N3 (ρ x3) w) :
    OpTo Tryd.prog o ρ w (IsWs [N0, N1, N2, N3]) := by
  obtain ⟨l0, e0, r0, c0⟩ := h0.cell
  obtain ⟨l1, e1, r1, c1⟩ := h1.cell
  obtain ⟨l2, e2, r2, c2⟩ := h2.cell
  obtain ⟨l3, e3, r3, c3⟩ := h3.cell
  have hb : Below w.heap.size w (w.alloc (.cells (cellsQ [(decide (N0 < 0), l0), (decide (N1 < 0), l1), (decide (N2 < 0), l2), (decide (N3 < 0), l3)]).toArray 31)) := (Below.refl _ _).alloc (Nat.le_refl _) _
  refine OpTo.make (.slice (some ⟨w.heap.size, 0, none⟩) 4 4) (w.alloc (.cells (cellsQ [(decide (N0 < 0), l0), (decide (N1 < 0), l1), (decide (N2 < 0), l2), (decide (N3 < 0), l3)]).toArray 31)) ?_ hb ((OwnsQ.new w w.heap.size [(decide (N0 < 0), l0), (decide (N1 < 0), l1), (decide (N2 < 0), l2), (decide (N3 < 0), l3)] (Nat.le_refl _) (by simp) (by simp)).rds rfl ?_)
  · unfold execOp
    rw [ho]
    simp [go_sem, cellsQ, e0, e1, e2, e3]
  · intro i h h'
    match i, h, h' with
    | 0, _, _ => exact ⟨rfl, r0.1.below hb⟩
    | 1, _, _ => exact ⟨rfl, r1.1.below hb⟩
    | 2, _, _ => exact ⟨rfl, r2.1.below hb⟩
    | 3, _, _ => exact ⟨rfl, r3.1.below hb⟩
theorem op_bs5 {o : Oper} {ρ : Operand → Value} {w : World} {b : Nat} (x0 x1 x2 x3 x4 : Operand) (N0 N1 N2 N3 N4 : Int) (ho : o.op = .buildSlice 38 5 #[(0, x0), (1, x1), (2, x2), (3, x3), (4, x4)]) (h0 : Wh b N0 (ρ x0) w) (h1 : Wh b N1 (ρ x1) w) (h2 : Wh b N2 (ρ x2) w) (h3 : Wh b N3 (ρ x3) w) (h4 : Wh b N4 (ρ x4) w) :
    OpTo Tryd.prog o ρ w (IsWs [N0, N1, N2, N3, N4]) := by
  obtain ⟨l0, e0, r0, c0⟩ := h0.cell
  obtain ⟨l1, e1, r1, c1⟩ := h1.cell
  obtain ⟨l2, e2, r2, c2⟩ := h2.cell
  obtain ⟨l3, e3, r3, c3⟩ := h3.cell
  obtain ⟨l4, e4, r4, c4⟩ := h4.cell
  have hb : Below w.heap.size w (w.alloc (.cells (cellsQ [(decide (N0 < 0), l0), (decide (N1 < 0), l1), (decide (N2 < 0), l2), (decide (N3 < 0), l3), (decide (N4 < 0), l4)]).toArray 31)) := (Below.refl _ _).alloc (Nat.le_refl _) _
  refine OpTo.make (.slice (some ⟨w.heap.size, 0, none⟩) 5 5) (w.alloc (.cells (cellsQ [(decide (N0 < 0), l0), (decide (N1 < 0), l1), (decide (N2 < 0), l2), (decide (N3 < 0), l3), (decide (N4 < 0), l4)]).toArray 31)) ?_ hb ((OwnsQ.new w w.heap.size [(decide (N0 < 0), l0), (decide (N1 < 0), l1), (decide (N2 < 0), l2), (decide (N3 < 0), l3), (decide (N4 < 0), l4)] (Nat.le_refl _) (by simp) (by simp)).rds rfl ?_)
  · unfold execOp
    rw [ho]
    simp [go_sem, cellsQ, e0, e1, e2, e3, e4]
  · intro i h h'
    match i, h, h' with
    | 0, _, _ => exact ⟨rfl, r0.1.below hb⟩
    | 1, _, _ => exact ⟨rfl, r1.1.below hb⟩
    | 2, _, _ => exact ⟨rfl, r2.1.below hb⟩
    | 3, _, _ => exact ⟨rfl, r3.1.below hb⟩
    | 4, _, _ => exact ⟨rfl, r4.1.below hb⟩
theorem op_bo5 {o : Oper} {ρ : Operand → Value} {w : World} {b base : Nat} (x0 x1 x2 x3 x4 : Operand) (N0 N1 N2 N3 N4 : Int) (hbase : base ≤ w.heap.size) (ho : o.op = .buildSlice 38 5 #[(0, x0), (1, x1), (2, x2), (3, x3), (4, x4)]) (h0 : Wh b N0 (ρ x0) w) (h1 : Wh b N1 (ρ x1) w) (h2 : Wh b N2 (ρ x2) w) (h3 : Wh b N3 (ρ x3) w) (h4 : Wh b N4 (ρ x4) w) :
    OpTo Tryd.prog o ρ w (fun v w' => OwnsW w' base b v [N0, N1, N2, N3, N4]) := by
  obtain ⟨l0, e0, r0, c0⟩ := h0.cell
  obtain ⟨l1, e1, r1, c1⟩ := h1.cell
  obtain ⟨l2, e2, r2, c2⟩ := h2.cell
  obtain ⟨l3, e3, r3, c3⟩ := h3.cell
  obtain ⟨l4, e4, r4, c4⟩ := h4.cell
  have hb : Below w.heap.size w (w.alloc (.cells (cellsQ [(decide (N0 < 0), l0), (decide (N1 < 0), l1), (decide (N2 < 0), l2), (decide (N3 < 0), l3), (decide (N4 < 0), l4)]).toArray 31)) := (Below.refl _ _).alloc (Nat.le_refl _) _
  refine OpTo.make (.slice (some ⟨w.heap.size, 0, none⟩) 5 5) (w.alloc (.cells (cellsQ [(decide (N0 < 0), l0), (decide (N1 < 0), l1), (decide (N2 < 0), l2), (decide (N3 < 0), l3), (decide (N4 < 0), l4)]).toArray 31)) ?_ hb ⟨_, OwnsQ.new w base [(decide (N0 < 0), l0), (decide (N1 < 0), l1), (decide (N2 < 0), l2), (decide (N3 < 0), l3), (decide (N4 < 0), l4)] hbase (by simp) (by simp), rfl, ?_⟩
  · unfold execOp
    rw [ho]
    simp [go_sem, cellsQ, e0, e1, e2, e3, e4]
  · intro i h h'
    match i, h, h' with
    | 0, _, _ => exact ⟨rfl, r0.below hb⟩
    | 1, _, _ => exact ⟨rfl, r1.below hb⟩
    | 2, _, _ => exact ⟨rfl, r2.below hb⟩
    | 3, _, _ => exact ⟨rfl, r3.below hb⟩
    | 4, _, _ => exact ⟨rfl, r4.below hb⟩
theorem op_bs6 {o : Oper} {ρ : Operand → Value} {w : World} {b : Nat} (x0 x1 x2 x3 x4 x5 : Operand) (N0 N1 N2 N3 N4 N5 : Int) (ho : o.op = .buildSlice 38 6 #[(0, x0), (1, x1), (2, x2), (3, x3), (4, x4), (5, x5)]) (h0 : Wh b N0 (ρ x0) w) (h1 : Wh b N1 (ρ x1) w) (h2 : Wh b N2 (ρ x2) w) (h3 : Wh b N3 (ρ x3) w) (h4 : Wh b N4 (ρ x4) w) (h5 : Wh b N5 (ρ x5) w) :
    OpTo Tryd.prog o ρ w (IsWs [N0, N1, N2, N3, N4, N5]) := by
  obtain ⟨l0, e0, r0, c0⟩ := h0.cell
  obtain ⟨l1, e1, r1, c1⟩ := h1.cell
  obtain ⟨l2, e2, r2, c2⟩ := h2.cell
  obtain ⟨l3, e3, r3, c3⟩ := h3.cell
  obtain ⟨l4, e4, r4, c4⟩ := h4.cell
  obtain ⟨l5, e5, r5, c5⟩ := h5.cell
  have hb : Below w.heap.size w (w.alloc (.cells (cellsQ [(decide (N0 < 0), l0), (decide (N1 < 0), l1), (decide (N2 < 0), l2), (decide (N3 < 0), l3), (decide (N4 < 0), l4), (decide (N5 < 0), l5)]).toArray 31)) := (Below.refl _ _).alloc (Nat.le_refl _) _
  refine OpTo.make (.slice (some ⟨w.heap.size, 0, none⟩) 6 6) (w.alloc (.cells (cellsQ [(decide (N0 < 0), l0), (decide (N1 < 0), l1), (decide (N2 < 0), l2), (decide (N3 < 0), l3), (decide (N4 < 0), l4), (decide (N5 < 0), l5)]).toArray 31)) ?_ hb ((OwnsQ.new w w.heap.size [(decide (N0 < 0), l0), (decide (N1 < 0), l1), (decide (N2 < 0), l2), (decide (N3 < 0), l3), (decide (N4 < 0), l4), (decide (N5 < 0), l5)] (Nat.le_refl _) (by simp) (by simp)).rds rfl ?_)
  · unfold execOp
    rw [ho]
    simp [go_sem, cellsQ, e0, e1, e2, e3, e4, e5]
  · intro i h h'
    match i, h, h' with
    | 0, _, _ => exact ⟨rfl, r0.1.below hb⟩
    | 1, _, _ => exact ⟨rfl, r1.1.below hb⟩
    | 2, _, _ => exact ⟨rfl, r2.1.below hb⟩
    | 3, _, _ => exact ⟨rfl, r3.1.below hb⟩
    | 4, _, _ => exact ⟨rfl, r4.1.below hb⟩
    | 5, _, _ => exact ⟨rfl, r5.1.below hb⟩
theorem op_bs7 {o : Oper} {ρ : Operand → Value} {w : World} {b : Nat} (x0 x1 x2 x3 x4 x5 x6 : Operand) (N0 N1 N2 N3 N4 N5 N6 : Int) (ho : o.op = .buildSlice 38 7 #[(0, x0), (1, x1), (2, x2), (3, x3), (4, x4), (5, x5), (6, x6)]) (h0 : Wh b N0 (ρ x0) w) (h1 : Wh b N1 (ρ x1) w) (h2 : Wh b N2 (ρ x2) w) (h3 : Wh b N3 (ρ x3) w) (h4 : Wh b N4 (ρ x4) w) (h5 : Wh b N5 (ρ x5) w) (h6 : Wh b N6 (ρ x6) w) :
    OpTo Tryd.prog o ρ w (IsWs [N0, N1, N2, N3, N4, N5, N6]) := by
  obtain ⟨l0, e0, r0, c0⟩ := h0.cell
  obtain ⟨l1, e1, r1, c1⟩ := h1.cell
  obtain ⟨l2, e2, r2, c2⟩ := h2.cell
  obtain ⟨l3, e3, r3, c3⟩ := h3.cell
  obtain ⟨l4, e4, r4, c4⟩ := h4.cell
  obtain ⟨l5, e5, r5, c5⟩ := h5.cell
  obtain ⟨l6, e6, r6, c6⟩ := h6.cell
  have hb : Below w.heap.size w (w.alloc (.cells (cellsQ [(decide (N0 < 0), l0), (decide (N1 < 0), l1), (decide (N2 < 0), l2), (decide (N3 < 0), l3), (decide (N4 < 0), l4), (decide (N5 < 0), l5), (decide (N6 < 0), l6)]).toArray 31)) := (Below.refl _ _).alloc (Nat.le_refl _) _
  refine OpTo.make (.slice (some ⟨w.heap.size, 0, none⟩) 7 7) (w.alloc (.cells (cellsQ [(decide (N0 < 0), l0), (decide (N1 < 0), l1), (decide (N2 < 0), l2), (decide (N3 < 0), l3), (decide (N4 < 0), l4), (decide (N5 < 0), l5), (decide (N6 < 0), l6)]).toArray 31)) ?_ hb ((OwnsQ.new w w.heap.size [(decide (N0 < 0), l0), (decide (N1 < 0), l1), (decide (N2 < 0), l2), (decide (N3 < 0), l3), (decide (N4 < 0), l4), (decide (N5 < 0), l5), (decide (N6 < 0), l6)] (Nat.le_refl _) (by simp) (by simp)).rds rfl ?_)
  · unfold execOp
    rw [ho]
    simp [go_sem, cellsQ, e0, e1, e2, e3, e4, e5, e6]
  · intro i h h'
    match i, h, h' with
    | 0, _, _ => exact ⟨rfl, r0.1.below hb⟩
    | 1, _, _ => exact ⟨rfl, r1.1.below hb⟩
    | 2, _, _ => exact ⟨rfl, r2.1.below hb⟩
    | 3, _, _ => exact ⟨rfl, r3.1.below hb⟩
    | 4, _, _ => exact ⟨rfl, r4.1.below hb⟩
    | 5, _, _ => exact ⟨rfl, r5.1.below hb⟩
    | 6, _, _ => exact ⟨rfl, r6.1.below hb⟩
end Go.Proofs.YtmlfkceafkhlaaaDoor
