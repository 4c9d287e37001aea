/- Slices of ints that a call makes itself: append, reads. -/
import Derived.Test.YtcnfjapoopdiaaaCurve
import Derived.Laws.AppendOwn
namespace Go.Proofs.Ytcnfjapoopdiaaa
open Go.RowKit

theorem Try.infoI : (Try.prog.info? 3).map (fun i => (i.zero, i.size, i.bytes)) = some (some (.int .i64 0), 1, 8) := by kernel_rfl

/-- A slice value that owns the list xs, its block from base on. -/
def OwnsI (w : World) (base : Nat) (v : Value) (xs : List Int) : Prop := w.ownsRow base 3 1 v xs.length (xs.map (Value.int .i64))
theorem OwnsI.nil (w : World) (base : Nat) : OwnsI w base (.slice none 0 0) [] := World.ownsRow_nil _ _ _ _
theorem OwnsI.alloc {w : World} {base : Nat} {v : Value} {xs : List Int} (h : OwnsI w base v xs) (o : Obj) : OwnsI (w.alloc o) base v xs := World.ownsRow.alloc h o
theorem OwnsI.le {w : World} {base base' : Nat} {v : Value} {xs : List Int} (h : OwnsI w base v xs) (hb : base' ≤ base) : OwnsI w base' v xs :=
  ⟨h.1, h.2.elim Or.inl (fun ⟨g, cap, cur, hv, hg, r⟩ => Or.inr ⟨g, cap, cur, hv, Nat.le_trans hb hg, r⟩)⟩
/-- what stays below a bound above the row -/
theorem OwnsI.below {w w1 : World} {base : Nat} {v : Value} {xs : List Int} (h : OwnsI w base v xs) (hb : Below w.heap.size w w1) : OwnsI w1 base v xs := by
  refine ⟨h.1, ?_⟩
  rcases h.2 with h0 | ⟨g, cap, cur, hv, hg, hh, r⟩
  · exact .inl h0
  · exact .inr ⟨g, cap, cur, hv, hg, (hb.block g (Array.getElem?_eq_some_iff.1 hh).1).trans hh, r⟩
/-- its form -/
theorem OwnsI.form {w : World} {base : Nat} {v : Value} {xs : List Int} (h : OwnsI w base v xs) :
    ∃ (a : Option Addr) (cap : Nat), v = .slice a xs.length cap ∧ ∀ i, i < xs.length → ∃ g, a = some ⟨g, 0, none⟩ ∧ w.cell? ⟨g, i, none⟩ = some (.int .i64 (xs[i]?.getD 0)) ∧ g < w.heap.size ∧ base ≤ g := by
  rcases h.2 with ⟨hv, hn⟩ | ⟨g, cap, cur, hv, hg, hh, hnc, hcm, hcs, ht⟩
  · exact ⟨none, 0, by rw [hv, hn], fun i hi => by omega⟩
  · refine ⟨some ⟨g, 0, none⟩, cap, hv, fun i hi => ⟨g, rfl, ?_, (Array.getElem?_eq_some_iff.1 hh).1, hg⟩⟩
    have h1 : cur.toList[i]? = some (.int .i64 (xs[i]?.getD 0)) := by
      have h2 : (cur.toList.take (xs.length * 1))[i]? = cur.toList[i]? := List.getElem?_take_of_lt (by omega)
      rw [← h2, ht, List.getElem?_map, List.getElem?_eq_getElem hi]; rfl
    rw [Array.getElem?_toList] at h1
    show (match w.heap[g]? with | some (.cells cs _ _) => _ | _ => _) = _
    rw [hh]
    exact h1

theorem wpList_app_int {ops : Array Oper} {rest : List Oper} {o : Oper} {a : Act} {Q : Exit → Act → World → Prop} {wr : World} {y : Int} (hgd : o.guard = none) (s x : Operand)
    (ho : o.op = .call { callee := .builtin .append, args := #[s, x], argTypes := #[84, 84] })
    (base : Nat) (v : Value) (xs : List Int) (hs : a.eval s = v) (hown : OwnsI wr base v xs) (hx : a.eval x = .slice (some ⟨wr.heap.size, 0, none⟩) 1 1)
    (hlen : xs.length < 1000000000000) (hbase : base ≤ wr.heap.size)
    (h : ∀ v' w1, OwnsI w1 base v' (xs ++ [y]) → Below base wr w1 → (wr.alloc (.cells #[.int .i64 y] 3)).grownBy w1 v.ownBlock → wpList Try.prog ops Q rest (a.put o.dst v') w1) :
    wpList Try.prog ops Q (o :: rest) a (wr.alloc (.cells #[.int .i64 y] 3)) := by
  obtain ⟨i0, hi, hz0, hz1, hz2⟩ := info_parts Try.infoI
  refine wpList_append_own _ hgd s x 84 ho base 3 i0 (.int .i64 0) 1 8 Try.underlying84 hi hz0 hz1 hz2 rfl (by decide) v xs.length (xs.map (Value.int .i64)) hs (hown.alloc _) ⟨wr.heap.size, 0, none⟩ 1 1 [.int .i64 y] hx rfl ?_ ?_ ?_ ?_ ?_ ?_
  · intro j u hj
    match j, hj with
    | 0, hj => simp at hj; subst hj; simp [Addr.add]
  · intro u hu; simp at hu; subst hu; rfl
  · unfold maxLen; omega
  · omega
  · simp; omega
  · intro v' w1 hown' hgrow _
    refine h v' w1 ?_ ?_ hgrow
    · show w1.ownsRow _ _ _ _ _ _
      rw [List.length_append, List.map_append]; exact hown'
    · refine ((Below.refl base wr).alloc hbase _).grown hgrow (by simp; omega) (fun k hk => ?_)
      exact (World.ownsRow.lt hown k hk).1
end Go.Proofs.Ytcnfjapoopdiaaa
