/- Walks: slices of wholes made and appended. -/
import Derived.Test.YtmlfkceafkhlaaaDoorBgX
import Derived.Test.YtmlfkceafkhlaaaDoorTbl
import Derived.Test.YtmlfkceafkhlaaaDoorDwP
namespace Go.Proofs.YtmlfkceafkhlaaaDoor
open Go.RowKit

theorem Tryd.infoW : (Tryd.prog.info? 31).map (fun i => (i.zero, i.size, i.bytes)) = some (some (.agg #[.bool false, .slice none 0 0]), 2, 32) := by kernel_rfl
def cellsQ : List (Bool × Value) → List Value
  | [] => []
  | p :: L => .bool p.1 :: p.2 :: cellsQ L
theorem cellsQ_append : ∀ (L M : List (Bool × Value)), cellsQ (L ++ M) = cellsQ L ++ cellsQ M
  | [], M => rfl
  | p :: L, M => by simp [cellsQ, cellsQ_append L M]
theorem cellsQ_length : ∀ (L : List (Bool × Value)), (cellsQ L).length = L.length * 2
  | [] => rfl
  | p :: L => by simp only [cellsQ, List.length_cons, cellsQ_length L]; omega
theorem cellsQ_get : ∀ (L : List (Bool × Value)) (i : Nat) (h : i < L.length), (cellsQ L)[i * 2]? = some (.bool L[i].1) ∧ (cellsQ L)[i * 2 + 1]? = some L[i].2
  | [], i, h => by simp at h
  | p :: L, 0, _ => by simp [cellsQ]
  | p :: L, i + 1, h => by
    have := cellsQ_get L i (by simpa using h)
    rw [show (i + 1) * 2 = i * 2 + 2 by omega]
    simpa [cellsQ] using this
/-- a row of wholes whose cells are L -/
def OwnsQ (w : World) (base : Nat) (v : Value) (L : List (Bool × Value)) : Prop := w.ownsRow base 31 2 v L.length (cellsQ L)
/-- what the cells say -/
def WhL (w : World) (b : Nat) (L : List (Bool × Value)) (Ns : List Int) : Prop := L.length = Ns.length ∧ ∀ i (h : i < L.length) (h' : i < Ns.length), L[i].1 = decide (Ns[i] < 0) ∧ RdO w b L[i].2 (dg Ns[i].natAbs)
/-- a row of wholes that reads as Ns -/
def OwnsW (w : World) (base b : Nat) (v : Value) (Ns : List Int) : Prop := ∃ L, OwnsQ w base v L ∧ WhL w b L Ns
theorem OwnsQ.below {w w1 : World} {base : Nat} {v : Value} {L : List (Bool × Value)} (h : OwnsQ w base v L) (hb : Below w.heap.size w w1) : OwnsQ w1 base v L := by
  refine ⟨h.1, ?_⟩
  rcases h.2 with h0 | ⟨g, cap, cur, hv, hg, hh, r⟩
  · exact .inl h0
  · exact .inr ⟨g, cap, cur, hv, hg, (hb.block g (Array.getElem?_eq_some_iff.1 hh).1).trans hh, r⟩
theorem OwnsQ.lt {w : World} {base : Nat} {v : Value} {L : List (Bool × Value)} (h : OwnsQ w base v L) : ∀ g, v.ownBlock = some g → base ≤ g ∧ g < w.heap.size := World.ownsRow.lt h
theorem RdO.below {w w1 : World} {base : Nat} {v : Value} {L : List Int} (h : RdO w base v L) (hb : Below w.heap.size w w1) : RdO w1 base v L := ⟨h.1.below hb, fun hn => (h.2 hn).below hb⟩
theorem WhL.below {w w1 : World} {b : Nat} {L : List (Bool × Value)} {Ns : List Int} (h : WhL w b L Ns) (hb : Below w.heap.size w w1) : WhL w1 b L Ns := ⟨h.1, fun i h1 h2 => ⟨(h.2 i h1 h2).1, (h.2 i h1 h2).2.below hb⟩⟩
theorem OwnsW.below {w w1 : World} {base b : Nat} {v : Value} {Ns : List Int} (h : OwnsW w base b v Ns) (hb : Below w.heap.size w w1) : OwnsW w1 base b v Ns := by
  obtain ⟨L, h1, h2⟩ := h
  exact ⟨L, h1.below hb, h2.below hb⟩
theorem OwnsW.closed (base b : Nat) (v : Value) (Ns : List Int) : Closed (fun w => OwnsW w base b v Ns) := fun _ _ h hb => h.below hb
/-- over a block of wholes the lists stay -/
theorem RdO.far {w w1 : World} {b g : Nat} {v : Value} {L : List Int} {cs : Array Value} {T : TypeId} {x : Nat × Nat} (h : RdO w b v L) (hT : T ≠ 3) (hg : w.heap[g]? = some (.cells cs T x)) (ho : Over [g] w w1) : RdO w1 b v L := by
  by_cases hn : L = []
  · subst hn
    obtain ⟨a, cap, h1, h2, _⟩ := h.1
    exact ⟨⟨a, cap, h1, h2, fun i hi => by simp at hi⟩, fun h => absurd rfl h⟩
  · have hw := h.2 hn
    have h3 := OwnsI.over hw ho (fun g' hg' hm => by
      rw [List.mem_singleton] at hm
      subst hm
      rcases hw.2 with ⟨_, h0⟩ | ⟨g2, cap2, cur2, hv2, _, hh2, _⟩
      · exact hn (List.length_eq_zero_iff.1 h0)
      · rw [hv2] at hg'
        have : g2 = g' := by simpa [Value.ownBlock] using hg'
        subst this
        rw [hg] at hh2
        injection hh2 with e
        injection e with _ e2 _
        exact hT e2)
    exact ⟨h3.rdL, fun _ => h3⟩
/-- what is appended lies behind what was there -/
theorem wpList_appQ {ops : Array Oper} {rest : List Oper} {o : Oper} {a : Act} {Q : Exit → Act → World → Prop} {wr : World} (hgd : o.guard = none) (s x : Operand)
    (ho : o.op = .call { callee := .builtin .append, args := #[s, x], argTypes := #[38, 38] })
    (base : Nat) (v : Value) (L M : List (Bool × Value)) (hs : a.eval s = v) (hown : OwnsQ wr base v L) (ad : Addr) (cap : Nat) (hx : a.eval x = .slice (some ad) M.length cap)
    (hc : ∀ j u, (cellsQ M)[j]? = some u → wr.cell? (ad.add j) = some u) (h1 : ∀ u ∈ cellsQ M, u.oneCell' = true) (hlen : L.length + M.length < 1000000000000) (hbase : base ≤ wr.heap.size)
    (h : ∀ v' w1, OwnsQ w1 base v' (L ++ M) → wr.grownBy w1 v.ownBlock → wpList Tryd.prog ops Q rest (a.put o.dst v') w1) :
    wpList Tryd.prog ops Q (o :: rest) a wr := by
  obtain ⟨i0, hi, hz0, hz1, hz2⟩ := info_parts Tryd.infoW
  refine wpList_append_own _ hgd s x 38 ho base 31 i0 (.agg #[.bool false, .slice none 0 0]) 2 32 Tryd.underlying38 hi hz0 hz1 hz2 rfl (by decide) v L.length (cellsQ L) hs hown ad M.length cap (cellsQ M) hx (cellsQ_length M) hc h1 (by unfold maxLen; omega) (by omega) hbase fun v' w1 hown' hgrow _ => h v' w1 ?_ hgrow
  show w1.ownsRow _ _ _ _ _ _
  rw [List.length_append, cellsQ_append]
  exact hown'
theorem OwnsQ.form {w : World} {base : Nat} {v : Value} {L : List (Bool × Value)} (h : OwnsQ w base v L) :
    ∃ (a : Option Addr) (cap : Nat), v = .slice a L.length cap ∧ L.length ≤ cap ∧ ∀ i (_ : i < L.length), ∃ g, a = some ⟨g, 0, none⟩ ∧ w.cell? ⟨g, i * 2, none⟩ = some (.bool L[i].1) ∧ w.cell? ⟨g, i * 2 + 1, none⟩ = some L[i].2 ∧
      (∀ o, w.frozen? ⟨g, o, none⟩ = false) ∧ g < w.heap.size ∧ base ≤ g := by
  rcases h.2 with ⟨hv, hn⟩ | ⟨g, cap, cur, hv, hg, hh, hnc, hcm, hcs, ht⟩
  · exact ⟨none, 0, by rw [hv, hn], by omega, fun i hi => by omega⟩
  · refine ⟨some ⟨g, 0, none⟩, cap, hv, hnc, fun i hi => ⟨g, rfl, ?_, ?_, ?_, (Array.getElem?_eq_some_iff.1 hh).1, hg⟩⟩
    · have h4 : (cur.toList.take (L.length * 2))[i * 2]? = cur.toList[i * 2]? := List.getElem?_take_of_lt (by omega)
      rw [ht, (cellsQ_get L i hi).1] at h4
      rw [Array.getElem?_toList] at h4
      show (match w.heap[g]? with | some (.cells cs _ _) => _ | _ => _) = _
      rw [hh]; exact h4.symm
    · have h4 : (cur.toList.take (L.length * 2))[i * 2 + 1]? = cur.toList[i * 2 + 1]? := List.getElem?_take_of_lt (by omega)
      rw [ht, (cellsQ_get L i hi).2] at h4
      rw [Array.getElem?_toList] at h4
      show (match w.heap[g]? with | some (.cells cs _ _) => _ | _ => _) = _
      rw [hh]; exact h4.symm
    · intro o
      simp [World.frozen?, hh]
theorem OwnsQ.rds {w : World} {base : Nat} {v : Value} {L : List (Bool × Value)} {Ns : List Int} (h1 : OwnsQ w base v L) (hl : L.length = Ns.length) (h2 : ∀ i (h : i < L.length) (h' : i < Ns.length), L[i].1 = decide (Ns[i] < 0) ∧ RdL w L[i].2 (dg Ns[i].natAbs)) : RdWs w v Ns := by
  obtain ⟨a, cap, hv, _, hc⟩ := h1.form
  refine ⟨a, cap, by rw [hv, hl], fun i hi => ?_⟩
  obtain ⟨g, ha, q1, q2, _, hg, _⟩ := hc i (by omega)
  obtain ⟨e1, e2⟩ := h2 i (by omega) hi
  refine ⟨g, 0, L[i].2, ha, ?_, ?_, e2, hg⟩
  · rw [Nat.zero_add, q1, e1]
  · rw [Nat.zero_add, q2]
theorem OwnsW.rds {w : World} {base b : Nat} {v : Value} {Ns : List Int} (h : OwnsW w base b v Ns) : RdWs w v Ns := by
  obtain ⟨L, h1, hl, h2⟩ := h
  exact h1.rds hl fun i a b => ⟨(h2 i a b).1, (h2 i a b).2.1⟩
/-- a block of wholes just made -/
theorem OwnsQ.new (w : World) (base : Nat) (L : List (Bool × Value)) (hb : base ≤ w.heap.size) (hl : L.length ≤ 1000) (hL : L ≠ []) : OwnsQ (w.alloc (.cells (cellsQ L).toArray 31)) base (.slice (some ⟨w.heap.size, 0, none⟩) L.length L.length) L := by
  have := List.length_pos_iff.2 hL
  refine ⟨by rw [cellsQ_length], .inr ⟨w.heap.size, L.length, _, rfl, hb, Blk.new w _ _, Nat.le_refl _, by unfold maxLen; omega, by simp [cellsQ_length], ?_⟩⟩
  exact List.take_of_length_le (by simp [cellsQ_length])
theorem Wh.cell {b : Nat} {N : Int} {v : Value} {w : World} (h : Wh b N v w) : ∃ lv, v = .agg #[.bool (decide (N < 0)), lv] ∧ RdO w b lv (dg N.natAbs) ∧ lv.oneCell' = true := by
  obtain ⟨lv, h1, h2⟩ := h
  obtain ⟨a, cap, h3, _⟩ := id h2.1
  exact ⟨lv, h1, h2, by rw [h3]; rfl⟩
theorem RdWs.below {w w1 : World} {v : Value} {Ns : List Int} (h : RdWs w v Ns) (hb : Below w.heap.size w w1) : RdWs w1 v Ns := by
  obtain ⟨a, cap, hv, hc⟩ := h
  refine ⟨a, cap, hv, fun i hi => ?_⟩
  obtain ⟨g, o, lv, ha, q1, q2, q3, q4⟩ := hc i hi
  exact ⟨g, o, lv, ha, (hb.cell (p := ⟨g, o + i * 2, none⟩) q4).trans q1, (hb.cell (p := ⟨g, o + i * 2 + 1, none⟩) q4).trans q2, q3.below hb, Nat.lt_of_lt_of_le q4 hb.size⟩
theorem RdWs.one {w : World} {v : Value} {Ns : List Int} (h : RdWs w v Ns) (hn : Ns ≠ []) : ∃ (M : List (Bool × Value)) (ad : Addr) (cap : Nat), v = .slice (some ad) M.length cap ∧ M.length = Ns.length ∧ ad.block < w.heap.size ∧ (∀ j u, (cellsQ M)[j]? = some u → w.cell? (ad.add j) = some u) ∧ (∀ u ∈ cellsQ M, u.oneCell' = true) ∧
    ∀ i (h : i < M.length) (h' : i < Ns.length), M[i].1 = decide (Ns[i] < 0) ∧ RdL w M[i].2 (dg Ns[i].natAbs) := by
  obtain ⟨a, cap, hv, hc⟩ := h
  obtain ⟨g, o, _, ha, _⟩ := hc 0 (List.length_pos_iff.2 hn)
  subst ha
  have hc2 : ∀ i (h : i < Ns.length), ∃ lv, w.cell? ⟨g, o + i * 2, none⟩ = some (.bool (decide (Ns[i] < 0))) ∧ w.cell? ⟨g, o + i * 2 + 1, none⟩ = some lv ∧ RdL w lv (dg Ns[i].natAbs) ∧ g < w.heap.size := fun i hi => by
    obtain ⟨g', o', lv, e, q1, q2, q3, q4⟩ := hc i hi
    injection e with e
    injection e with e1 e2
    subst e1 e2
    exact ⟨lv, q1, q2, q3, q4⟩
  clear hc
  have hM : ∀ (Ns : List Int) (o : Nat), (∀ i (h : i < Ns.length), ∃ lv, w.cell? ⟨g, o + i * 2, none⟩ = some (.bool (decide (Ns[i] < 0))) ∧ w.cell? ⟨g, o + i * 2 + 1, none⟩ = some lv ∧ RdL w lv (dg Ns[i].natAbs) ∧ g < w.heap.size) →
      ∃ M : List (Bool × Value), M.length = Ns.length ∧ (∀ j u, (cellsQ M)[j]? = some u → w.cell? ⟨g, o + j, none⟩ = some u) ∧ (∀ u ∈ cellsQ M, u.oneCell' = true) ∧ ∀ i (h : i < M.length) (h' : i < Ns.length), M[i].1 = decide (Ns[i] < 0) ∧ RdL w M[i].2 (dg Ns[i].natAbs) := by
    intro Ns
    induction Ns with
    | nil => intro o _; exact ⟨[], rfl, fun j u h => by simp [cellsQ] at h, fun u h => by simp [cellsQ] at h, fun i h => by simp at h⟩
    | cons N Ns ih =>
      intro o hc
      obtain ⟨lv, q1, q2, q3, q4⟩ := hc 0 (by simp)
      obtain ⟨M, m1, m2, m3, m4⟩ := ih (o + 2) (fun i hi => by
        have := hc (i + 1) (by simpa using hi)
        rw [show o + (i + 1) * 2 = o + 2 + i * 2 by omega] at this
        simpa using this)
      have hlv : lv.oneCell' = true := by
        obtain ⟨a, cap, h, _⟩ := q3
        rw [h]; rfl
      refine ⟨(decide (N < 0), lv) :: M, by simp [m1], fun j u h => ?_, fun u h => ?_, fun i h h' => ?_⟩
      · match j, h with
        | 0, h => simp [cellsQ] at h; subst h; simpa using q1
        | 1, h => simp [cellsQ] at h; subst h; simpa using q2
        | j + 2, h =>
          have := m2 j u (by simpa [cellsQ] using h)
          rw [show o + (j + 2) = o + 2 + j by omega]
          exact this
      · simp only [cellsQ, List.mem_cons] at h
        rcases h with rfl | rfl | h
        · rfl
        · exact hlv
        · exact m3 u h
      · cases i with
        | zero => exact ⟨rfl, q3⟩
        | succ i => exact m4 i (by simpa using h) (by simpa using h')
  obtain ⟨M, m1, m2, m3, m4⟩ := hM Ns o hc2
  obtain ⟨_, _, _, _, hg⟩ := hc2 0 (List.length_pos_iff.2 hn)
  refine ⟨M, ⟨g, o, none⟩, cap, by rw [hv, m1], m1, hg, fun j u h => ?_, m3, m4⟩
  have e : (⟨g, o, none⟩ : Addr).add j = ⟨g, o + j, none⟩ := by cases j <;> simp [Addr.add]
  rw [e]
  exact m2 j u h
/-! products of few factors -/
theorem pr_sz {n : Nat} : ∀ (Ns : List Int), (∀ x ∈ Ns, Sz n x) → Sz (n * Ns.length + 1) (pr Ns)
  | [], _ => by rw [pr]; exact (Sz.of1 (by omega) (by omega)).mono (by omega)
  | x :: Ns, h => by
    have := pr_sz Ns fun y hy => h y (by simp [hy])
    have := (h x (by simp)).mul this
    rw [pr]
    exact this.mono (by rw [List.length_cons, Nat.mul_add]; omega)
theorem pr_len {s : Nat} {Ns : List Int} (hl : s * Ns.length + 1 ≤ 40000) (h : ∀ x ∈ Ns, Sz s x) : ∀ k, k ≤ Ns.length → (dg (pr (Ns.take k)).natAbs).length ≤ 40000 := fun k hk => by
  have h1 := (pr_sz (Ns.take k) fun x hx => h x (List.mem_of_mem_take hx)).len
  have h2 : (Ns.take k).length ≤ Ns.length := by simp; omega
  have h3 := Nat.mul_le_mul_left s h2
  omega
theorem sm_sz {n : Nat} : ∀ (Ns : List Int), (∀ x ∈ Ns, Sz n x) → Sz (n + Ns.length) (sm Ns)
  | [], _ => by rw [sm]; show (0 : Int).natAbs < _; exact Nat.pow_pos (by omega)
  | x :: Ns, h => by
    have h1 := sm_sz Ns fun y hy => h y (by simp [hy])
    rw [sm]
    exact (((h x (by simp)).mono (by omega)).add h1).mono (by simp only [List.length_cons]; omega)
theorem sm_len {Ns : List Int} (hl : Ns.length ≤ 10) (h : ∀ x ∈ Ns, Sz 40000 x) : ∀ k, k ≤ Ns.length → (dg (sm (Ns.take k)).natAbs).length ≤ 100000 := fun k hk => by
  have h1 := (sm_sz (Ns.take k) fun x hx => h x (List.mem_of_mem_take hx)).len
  have h2 : (Ns.take k).length ≤ 10 := by simp; omega
  omega
end Go.Proofs.YtmlfkceafkhlaaaDoor
