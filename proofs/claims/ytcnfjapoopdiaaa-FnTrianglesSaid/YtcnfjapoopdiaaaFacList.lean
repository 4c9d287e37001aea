/- A slice of pairs that a call makes itself, each a slice of two ints. -/
import Derived.Test.YtcnfjapoopdiaaaList
namespace Go.Proofs.Ytcnfjapoopdiaaa
open Go.RowKit

theorem Try.infoR : (Try.prog.info? 84).map (fun i => (i.zero, i.size, i.bytes)) = some (some (.slice none 0 0), 1, 24) := by kernel_rfl

def OwnsF (w : World) (base : Nat) (v : Value) (L : List (Int × Int)) : Prop :=
  ∃ rows : List Value, w.ownsRow base 84 1 v L.length rows ∧ ∀ i (_ : i < L.length), ∃ g, rows[i]? = some (.slice (some ⟨g, 0, none⟩) 2 2) ∧ base ≤ g ∧
    w.heap[g]? = some (.cells #[.int .i64 L[i].1, .int .i64 L[i].2] 3 (0, 0))
theorem OwnsF.nil (w : World) (base : Nat) : OwnsF w base (.slice none 0 0) [] := ⟨[], World.ownsRow_nil _ _ _ _, fun i hi => by simp at hi⟩
theorem OwnsF.below {w w1 : World} {base : Nat} {v : Value} {L : List (Int × Int)} (h : OwnsF w base v L) (hb : Below w.heap.size w w1) : OwnsF w1 base v L := by
  obtain ⟨rows, ho, hr⟩ := h
  refine ⟨rows, ⟨ho.1, ?_⟩, fun i hi => ?_⟩
  · rcases ho.2 with h0 | ⟨g, cap, cur, hv, hg, hh, r⟩
    · exact .inl h0
    · exact .inr ⟨g, cap, cur, hv, hg, (hb.block g (Array.getElem?_eq_some_iff.1 hh).1).trans hh, r⟩
  · obtain ⟨g, h1, h2, h3⟩ := hr i hi
    exact ⟨g, h1, h2, (hb.block g (Array.getElem?_eq_some_iff.1 h3).1).trans h3⟩
theorem OwnsF.form {w : World} {base : Nat} {v : Value} {L : List (Int × Int)} (h : OwnsF w base v L) :
    ∃ (a : Option Addr) (cap : Nat), v = .slice a L.length cap ∧ ∀ i (_ : i < L.length), ∃ g g', a = some ⟨g, 0, none⟩ ∧ w.cell? ⟨g, i, none⟩ = some (.slice (some ⟨g', 0, none⟩) 2 2) ∧
      w.cell? ⟨g', 0, none⟩ = some (.int .i64 L[i].1) ∧ w.cell? ⟨g', 1, none⟩ = some (.int .i64 L[i].2) ∧ g < w.heap.size ∧ base ≤ g ∧ g' < w.heap.size ∧ base ≤ g' := by
  obtain ⟨rows, ho, hr⟩ := h
  rcases ho.2 with ⟨hv, hn⟩ | ⟨g, cap, cur, hv, hg, hh, hnc, hcm, hcs, ht⟩
  · exact ⟨none, 0, by rw [hv, hn], fun i hi => by omega⟩
  · refine ⟨some ⟨g, 0, none⟩, cap, hv, fun i hi => ?_⟩
    obtain ⟨g', h1, h2, h3⟩ := hr i hi
    refine ⟨g, g', rfl, ?_, ?_, ?_, (Array.getElem?_eq_some_iff.1 hh).1, hg, (Array.getElem?_eq_some_iff.1 h3).1, h2⟩
    · have h4 : (cur.toList.take (L.length * 1))[i]? = cur.toList[i]? := List.getElem?_take_of_lt (by omega)
      rw [ht, h1] at h4
      rw [Array.getElem?_toList] at h4
      show (match w.heap[g]? with | some (.cells cs _ _) => _ | _ => _) = _
      rw [hh]
      exact h4.symm
    · show (match w.heap[g']? with | some (.cells cs _ _) => _ | _ => _) = _
      rw [h3]; rfl
    · show (match w.heap[g']? with | some (.cells cs _ _) => _ | _ => _) = _
      rw [h3]; rfl

theorem wpList_app_fac {ops : Array Oper} {rest : List Oper} {o : Oper} {a : Act} {Q : Exit → Act → World → Prop} {wr : World} {p k : Int} (hgd : o.guard = none) (s x : Operand)
    (ho : o.op = .call { callee := .builtin .append, args := #[s, x], argTypes := #[100, 100] })
    (base : Nat) (v : Value) (L : List (Int × Int)) (hs : a.eval s = v) (hown : OwnsF wr base v L) (hx : a.eval x = .slice (some ⟨wr.heap.size + 1, 0, none⟩) 1 1)
    (hlen : L.length < 1000000000000) (hbase : base ≤ wr.heap.size)
    (h : ∀ v' w1, OwnsF w1 base v' (L ++ [(p, k)]) → Below base wr w1 → wpList Try.prog ops Q rest (a.put o.dst v') w1) :
    wpList Try.prog ops Q (o :: rest) a ((wr.alloc (.cells #[.int .i64 p, .int .i64 k] 3)).alloc (.cells #[.slice (some ⟨wr.heap.size, 0, none⟩) 2 2] 84)) := by
  obtain ⟨i0, hi, hz0, hz1, hz2⟩ := info_parts Try.infoR
  obtain ⟨rows, hown, hr⟩ := hown
  have hrl : rows.length = L.length := by have := hown.1; omega
  refine wpList_append_own _ hgd s x 100 ho base 84 i0 (.slice none 0 0) 1 24 Try.underlying100 hi hz0 hz1 hz2 rfl (by decide) v L.length rows hs ((hown.alloc _).alloc _) ⟨wr.heap.size + 1, 0, none⟩ 1 1 [.slice (some ⟨wr.heap.size, 0, none⟩) 2 2] hx rfl ?_ ?_ ?_ ?_ ?_ ?_
  · intro j u hj
    match j, hj with
    | 0, hj =>
      simp at hj; subst hj
      show ((wr.alloc (.cells #[.int .i64 p, .int .i64 k] 3)).alloc (.cells #[.slice (some ⟨wr.heap.size, 0, none⟩) 2 2] 84)).cell? ⟨wr.heap.size + 1, 0, none⟩ = _
      rw [World.cell?_alloc_at _ _ _ _ (by simp)]; rfl
  · intro u hu; simp at hu; subst hu; rfl
  · unfold maxLen; omega
  · omega
  · simp; omega
  · intro v' w1 hown' hgrow _
    refine h v' w1 ⟨_, by rw [List.length_append]; exact hown', fun i hi => ?_⟩ ?_
    · have hkeep : ∀ g, g < wr.heap.size → some g ≠ v.ownBlock → w1.heap[g]? = wr.heap[g]? := fun g hg hne => by
        rw [hgrow.block g (by simp; omega) hne, Below.heap_alloc _ _ _ (by simp; omega), Below.heap_alloc _ _ _ hg]
      have hne : ∀ g, wr.heap[g]? ≠ none → (∀ cs, wr.heap[g]? ≠ some (.cells cs 84 (0, 0))) → some g ≠ v.ownBlock := fun g hg hcs e => by
        rcases hown.2 with ⟨hv, _⟩ | ⟨g1, cap, cur, hv, _, hh, _⟩
        · rw [hv] at e; cases e
        · rw [hv] at e
          have : g = g1 := by injection e
          rw [this] at hcs; exact hcs _ hh
      by_cases hlt : i < L.length
      · obtain ⟨g, h1, h2, h3⟩ := hr i hlt
        refine ⟨g, by rw [List.getElem?_append_left (by omega)]; exact h1, h2, ?_⟩
        rw [hkeep g (Array.getElem?_eq_some_iff.1 h3).1 (hne g (by rw [h3]; simp) (fun cs e => by rw [h3] at e; simp at e)), h3]
        rw [List.getElem_append_left hlt]
      · have hil : i = L.length := by simp at hi; omega
        subst hil
        refine ⟨wr.heap.size, by rw [List.getElem?_append_right (by omega), hrl]; simp, hbase, ?_⟩
        have hne2 : some wr.heap.size ≠ v.ownBlock := fun e => by
          have := (hown.lt wr.heap.size e.symm).2; omega
        rw [hgrow.block wr.heap.size (by simp; omega) hne2, Below.heap_alloc _ _ _ (by simp)]
        show (wr.heap.push _)[wr.heap.size]? = _
        simp
    · refine (((Below.refl base wr).alloc hbase _).alloc (by simp; omega) _).grown hgrow (by simp; omega) (fun k hk => ?_)
      exact (hown.lt k hk).1
end Go.Proofs.Ytcnfjapoopdiaaa
