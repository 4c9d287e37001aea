/- Slices of slices of two ints that a call makes itself: the predicate, append, eq, mark, held. -/
import Derived.Test.YtilgeeaobdebhaaEqI
import Derived.Test.YtilgeeaobdebhaaPairPlain
import Derived.Test.YtilgeeaobdebhaaChain
namespace Go.Proofs.Ytilgeeaobdebhaa
open Go.RowKit

theorem Try.infoQ : (Try.prog.info? 33).map (fun i => (i.zero, i.size, i.bytes)) = some (some (.slice none 0 0), 1, 24) := by kernel_rfl
def hdQ (gs : List Nat) : List Value := gs.map fun g => Value.slice (some ⟨g, 0, none⟩) 2 2
/-- the inner blocks gs hold the pairs L -/
structure InnQ (w : World) (base : Nat) (gs : List Nat) (L : List (Int × Int)) : Prop where
  len : gs.length = L.length
  nodup : gs.Nodup
  ge : ∀ g ∈ gs, base ≤ g
  blk : ∀ i (h : i < gs.length) (h' : i < L.length), Blk gs[i] #[.int .i64 L[i].1, .int .i64 L[i].2] 3 w
def OwnsQ (w : World) (base : Nat) (v : Value) (gs : List Nat) (L : List (Int × Int)) : Prop := w.ownsRow base 33 1 v gs.length (hdQ gs) ∧ InnQ w base gs L
theorem OwnsQ.nil (w : World) (base : Nat) : OwnsQ w base (.slice none 0 0) [] [] := ⟨World.ownsRow_nil _ _ _ _, ⟨rfl, List.nodup_nil, fun g hg => by simp at hg, fun i h => by simp at h⟩⟩
theorem row_below {w w1 : World} {base size n : Nat} {e : TypeId} {v : Value} {xs : List Value} (h : w.ownsRow base e size v n xs) (hb : Below w.heap.size w w1) : w1.ownsRow base e size v n xs := by
  refine ⟨h.1, ?_⟩
  rcases h.2 with h0 | ⟨g, cap, cur, hv, hg, hh, r⟩
  · exact .inl h0
  · exact .inr ⟨g, cap, cur, hv, hg, (hb.block g (Array.getElem?_eq_some_iff.1 hh).1).trans hh, r⟩
theorem OwnsQ.below {w w1 : World} {base : Nat} {v : Value} {gs : List Nat} {L : List (Int × Int)} (h : OwnsQ w base v gs L) (hb : Below w.heap.size w w1) : OwnsQ w1 base v gs L :=
  ⟨row_below h.1 hb, h.2.len, h.2.nodup, h.2.ge, fun i h1 h2 => Blk.closed _ _ _ _ _ (h.2.blk i h1 h2) hb⟩
theorem OwnsQ.le {w : World} {base base' : Nat} {v : Value} {gs : List Nat} {L : List (Int × Int)} (h : OwnsQ w base v gs L) (hb : base' ≤ base) : OwnsQ w base' v gs L :=
  ⟨⟨h.1.1, h.1.2.elim Or.inl (fun ⟨g, cap, cur, hv, hg, r⟩ => Or.inr ⟨g, cap, cur, hv, Nat.le_trans hb hg, r⟩)⟩, h.2.len, h.2.nodup, fun g hg => Nat.le_trans hb (h.2.ge g hg), h.2.blk⟩
/-- the outer block is no inner one: their types differ -/
theorem OwnsQ.apart {w : World} {base : Nat} {v : Value} {gs : List Nat} {L : List (Int × Int)} (h : OwnsQ w base v gs L) : ∀ g ∈ gs, v.ownBlock ≠ some g := by
  intro g hg e
  obtain ⟨i, hi, rfl⟩ := List.mem_iff_getElem.1 hg
  have hk := h.2.blk i hi (by rw [← h.2.len]; exact hi)
  rcases h.1.2 with ⟨hv, _⟩ | ⟨g', cap, cur, hv, _, hh, _⟩
  · rw [hv] at e; cases e
  · rw [hv] at e
    have e' : g' = gs[i] := by simpa [Value.ownBlock] using e
    rw [e'] at hh
    unfold Blk at hk
    rw [hh] at hk
    simp at hk
theorem InnQ.grown {w w1 : World} {base : Nat} {gs : List Nat} {L : List (Int × Int)} {row : Option Nat} (h : InnQ w base gs L) (hg : w.grownBy w1 row) (hne : ∀ g ∈ gs, row ≠ some g) : InnQ w1 base gs L :=
  ⟨h.len, h.nodup, h.ge, fun i h1 h2 => (hg.block gs[i] (h.blk i h1 h2).lt (fun e => hne gs[i] (List.getElem_mem h1) e.symm)).trans (h.blk i h1 h2)⟩
theorem InnQ.lt {w : World} {base : Nat} {gs : List Nat} {L : List (Int × Int)} (h : InnQ w base gs L) : ∀ g ∈ gs, g < w.heap.size := by
  intro g hg
  obtain ⟨i, hi, rfl⟩ := List.mem_iff_getElem.1 hg
  exact (h.blk i hi (by rw [← h.len]; exact hi)).lt
theorem InnQ.snoc {w : World} {base g : Nat} {gs : List Nat} {L : List (Int × Int)} {c : Int × Int} (h : InnQ w base gs L) (hg : base ≤ g) (hn : g ∉ gs) (hk : Blk g #[.int .i64 c.1, .int .i64 c.2] 3 w) : InnQ w base (gs ++ [g]) (L ++ [c]) := by
  refine ⟨by simp [h.len], ?_, ?_, ?_⟩
  · rw [List.nodup_append]
    exact ⟨h.nodup, by simp, fun a ha b hb => by simp at hb; subst hb; rintro rfl; exact hn ha⟩
  · intro x hx
    rcases List.mem_append.1 hx with hx | hx
    · exact h.ge x hx
    · simp at hx; omega
  · intro i h1 h2
    by_cases hi : i < gs.length
    · have hi2 : i < L.length := by rw [← h.len]; exact hi
      rw [List.getElem_append_left hi]
      simp only [List.getElem_append_left hi2]
      exact h.blk i hi hi2
    · have hi' : i = gs.length := by simp at h1; omega
      subst hi'
      have e1 : (gs ++ [g])[gs.length]'h1 = g := by simp
      have e2 : (L ++ [c])[gs.length]'h2 = c := by
        rw [List.getElem_append_right (by rw [h.len]; exact Nat.le_refl _)]
        simp
      rw [e1, e2]
      exact hk
theorem wpList_appQ {ops : Array Oper} {rest : List Oper} {o : Oper} {a : Act} {Q : Exit → Act → World → Prop} {wr : World} {c d : Int} (hgd : o.guard = none) (s x : Operand)
    (ho : o.op = .call { callee := .builtin .append, args := #[s, x], argTypes := #[25, 25] })
    (base : Nat) (v : Value) (gs : List Nat) (L : List (Int × Int)) (hs : a.eval s = v) (hown : OwnsQ wr base v gs L) (hx : a.eval x = .slice (some ⟨wr.heap.size + 1, 0, none⟩) 1 1)
    (hlen : L.length < 1000000) (hbase : base ≤ wr.heap.size)
    (h : ∀ v' w1, OwnsQ w1 base v' (gs ++ [wr.heap.size]) (L ++ [(c, d)]) → Below base wr w1 → wpList Try.prog ops Q rest (a.put o.dst v') w1) :
    wpList Try.prog ops Q (o :: rest) a ((wr.alloc (.cells #[.int .i64 c, .int .i64 d] 3)).alloc (.cells #[.slice (some ⟨wr.heap.size, 0, none⟩) 2 2] 33)) := by
  obtain ⟨i0, hi, hz0, hz1, hz2⟩ := info_parts Try.infoQ
  have hlen2 := hown.2.len
  have hin : InnQ ((wr.alloc (.cells #[.int .i64 c, .int .i64 d] 3)).alloc (.cells #[.slice (some ⟨wr.heap.size, 0, none⟩) 2 2] 33)) base (gs ++ [wr.heap.size]) (L ++ [(c, d)]) := by
    have hb2 : Below wr.heap.size wr ((wr.alloc (.cells #[.int .i64 c, .int .i64 d] 3)).alloc (.cells #[.slice (some ⟨wr.heap.size, 0, none⟩) 2 2] 33)) := ((Below.refl _ _).alloc (Nat.le_refl _) _).alloc (by simp) _
    exact (hown.below hb2).2.snoc hbase (fun hm => by have := hown.2.lt _ hm; omega) ((Blk.new wr #[.int .i64 c, .int .i64 d] 3).alloc _)
  refine wpList_append_own _ hgd s x 25 ho base 33 i0 (.slice none 0 0) 1 24 Try.underlying25 hi hz0 hz1 hz2 rfl (by decide) v gs.length (hdQ gs) hs (World.ownsRow.alloc (World.ownsRow.alloc hown.1 _) _) ⟨wr.heap.size + 1, 0, none⟩ 1 1 [.slice (some ⟨wr.heap.size, 0, none⟩) 2 2] hx rfl ?_ ?_ ?_ ?_ ?_ ?_
  · intro j u hj
    match j, hj with
    | 0, hj => simp at hj; subst hj; simp [Addr.add]
  · intro u hu; simp at hu; subst hu; rfl
  · unfold maxLen; omega
  · omega
  · simp; omega
  · intro v' w1 hown' hgrow _
    have hap : ∀ g ∈ gs ++ [wr.heap.size], v.ownBlock ≠ some g := by
      intro g hg
      rcases List.mem_append.1 hg with hg | hg
      · exact hown.apart g hg
      · simp at hg
        subst hg
        intro e
        have := (World.ownsRow.lt hown.1 _ e).2
        omega
    refine h v' w1 ⟨?_, hin.grown hgrow hap⟩ ?_
    · have e : hdQ (gs ++ [wr.heap.size]) = hdQ gs ++ [.slice (some ⟨wr.heap.size, 0, none⟩) 2 2] := by simp [hdQ]
      rw [e, List.length_append]
      exact hown'
    · have hb2 : Below base wr ((wr.alloc (.cells #[.int .i64 c, .int .i64 d] 3)).alloc (.cells #[.slice (some ⟨wr.heap.size, 0, none⟩) 2 2] 33)) := ((Below.refl base wr).alloc hbase _).alloc (by simp; omega) _
      exact hb2.grown hgrow (by simp; omega) (fun k hk => (World.ownsRow.lt hown.1 k hk).1)
theorem OwnsQ.form {w : World} {base : Nat} {v : Value} {gs : List Nat} {L : List (Int × Int)} (h : OwnsQ w base v gs L) :
    ∃ (a : Option Addr) (cap : Nat), v = .slice a L.length cap ∧ ∀ i (_ : i < L.length), ∃ g k, a = some ⟨g, 0, none⟩ ∧ gs[i]? = some k ∧ w.cell? ⟨g, i, none⟩ = some (.slice (some ⟨k, 0, none⟩) 2 2) ∧ g < w.heap.size ∧ Blk k #[.int .i64 L[i].1, .int .i64 L[i].2] 3 w := by
  have hl := h.2.len
  rcases h.1.2 with ⟨hv, hn⟩ | ⟨g, cap, cur, hv, hg, hh, hnc, hcm, hcs, ht⟩
  · exact ⟨none, 0, by rw [hv, ← hl, hn], fun i hi => by omega⟩
  · refine ⟨some ⟨g, 0, none⟩, cap, by rw [hv, hl], fun i hi => ⟨g, gs[i]'(by omega), rfl, List.getElem?_eq_getElem (by omega), ?_, (Array.getElem?_eq_some_iff.1 hh).1, h.2.blk i (by omega) hi⟩⟩
    have h4 : (cur.toList.take (gs.length * 1))[i]? = cur.toList[i]? := List.getElem?_take_of_lt (by omega)
    have h5 : (hdQ gs)[i]? = some (.slice (some ⟨gs[i]'(by omega), 0, none⟩) 2 2) := by simp [hdQ, show i < gs.length by omega]
    rw [ht, h5, Array.getElem?_toList] at h4
    show (match w.heap[g]? with | some (.cells cs _ _) => _ | _ => _) = _
    rw [hh]; exact h4.symm
theorem rd2 {w : World} {k : Nat} {x y : Int} (h : Blk k #[.int .i64 x, .int .i64 y] 3 w) : RdI w (.slice (some ⟨k, 0, none⟩) 2 2) [x, y] :=
  ⟨some ⟨k, 0, none⟩, 2, rfl, fun i hi => ⟨k, 0, rfl, by
    have hi' : i < 2 := by simpa using hi
    rcases (show i = 0 ∨ i = 1 by omega) with rfl | rfl
    · exact h.cell 0
    · exact h.cell 1, h.lt⟩⟩
/-- one inner block is written -/
theorem OwnsQ.upd {w w1 : World} {base : Nat} {v : Value} {gs : List Nat} {L : List (Int × Int)} {j k : Nat} {c : Int × Int} (h : OwnsQ w base v gs L) (hj : j < L.length) (hk : gs[j]? = some k) (ho : Over [k] w w1) (hb : Blk k #[.int .i64 c.1, .int .i64 c.2] 3 w1) :
    OwnsQ w1 base v gs (L.set j c) := by
  have hl := h.2.len
  have hgk : gs[j]'(by omega) = k := by
    rw [List.getElem?_eq_getElem (by omega)] at hk
    exact Option.some.inj hk
  have hmem : k ∈ gs := by rw [← hgk]; exact List.getElem_mem _
  refine ⟨⟨h.1.1, ?_⟩, by rw [List.length_set]; exact hl, h.2.nodup, h.2.ge, ?_⟩
  · rcases h.1.2 with h0 | ⟨g, cap, cur, hv, hg, hh, r⟩
    · exact .inl h0
    · refine .inr ⟨g, cap, cur, hv, hg, (ho.block g (Array.getElem?_eq_some_iff.1 hh).1 ?_).trans hh, r⟩
      intro hm
      have e : g = k := by simpa using hm
      exact h.apart k hmem (by rw [hv, e]; rfl)
  · intro i h1 h2
    have h2' : i < L.length := by simpa using h2
    by_cases hij : i = j
    · subst hij
      rw [List.getElem_set_self, hgk]
      exact hb
    · rw [List.getElem_set_ne (fun e => hij e.symm)]
      have hne : gs[i] ≠ k := by
        rw [← hgk]
        intro e
        exact hij ((List.getElem_inj h.2.nodup).1 e)
      exact (ho.block _ (h.2.blk i h1 h2').lt (by simpa using hne)).trans (h.2.blk i h1 h2')
theorem mixL_upd (L : List (Int × Int)) (k : Nat) (h : k < L.length) : (mixL L k).set k (1 + 2 * (k : Int), 1 + 2 * (k : Int) + 1) = mixL L (k + 1) := by
  have e1 : mixL L (k + 1) = markL k ++ ((1 + 2 * (k : Int), 1 + 2 * (k : Int) + 1) :: L.drop (k + 1)) := by
    simp [mixL, markL, List.range_succ]
  have e2 : mixL L k = markL k ++ (L[k] :: L.drop (k + 1)) := by
    unfold mixL; rw [List.drop_eq_getElem_cons h]
  rw [e1, e2, List.set_append_right _ _ (by rw [markL_length]; exact Nat.le_refl _), markL_length, Nat.sub_self]
  rfl
end Go.Proofs.Ytilgeeaobdebhaa
