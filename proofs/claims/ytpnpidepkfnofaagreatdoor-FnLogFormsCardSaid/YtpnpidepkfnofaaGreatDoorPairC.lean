/- Slices of structs of two ints (Curve) that a call makes itself: append, reads, eq, mark, held. -/
import Derived.Test.YtpnpidepkfnofaaGreatDoorPairPlain
import Derived.Deep.RegionHeld3
namespace Go.Proofs.YtpnpidepkfnofaaGreatDoor
open Go.RowKit

theorem Tryz.infoC : (Tryz.prog.info? 33).map (fun i => (i.zero, i.size, i.bytes)) = some (some (.agg #[.int .i64 0, .int .i64 0]), 2, 16) := by kernel_rfl
abbrev OwnsC (w : World) (base : Nat) (v : Value) (L : List (Int × Int)) : Prop := OwnsP 33 w base v L
theorem wpList_appC {ops : Array Oper} {rest : List Oper} {o : Oper} {a : Act} {Q : Exit → Act → World → Prop} {wr : World} {p : Int × Int} (hgd : o.guard = none) (s x : Operand)
    (ho : o.op = .call { callee := .builtin .append, args := #[s, x], argTypes := #[76, 76] })
    (base : Nat) (v : Value) (L : List (Int × Int)) (hs : a.eval s = v) (hown : OwnsC wr base v L) (hx : a.eval x = .slice (some ⟨wr.heap.size, 0, none⟩) 1 1)
    (hlen : L.length < 1000000000000) (hbase : base ≤ wr.heap.size)
    (h : ∀ v' w1, OwnsC w1 base v' (L ++ [p]) → Below base wr w1 → (wr.alloc (.cells #[.int .i64 p.1, .int .i64 p.2] 33)).grownBy w1 v.ownBlock → wpList Tryz.prog ops Q rest (a.put o.dst v') w1) :
    wpList Tryz.prog ops Q (o :: rest) a (wr.alloc (.cells #[.int .i64 p.1, .int .i64 p.2] 33)) := by
  obtain ⟨i0, hi, hz0, hz1, hz2⟩ := info_parts Tryz.infoC
  refine wpList_append_own _ hgd s x 76 ho base 33 i0 (.agg #[.int .i64 0, .int .i64 0]) 2 16 Tryz.underlying76 hi hz0 hz1 hz2 rfl (by decide) v L.length (cellsP L) hs (World.ownsRow.alloc hown _) ⟨wr.heap.size, 0, none⟩ 1 1 [.int .i64 p.1, .int .i64 p.2] hx rfl ?_ ?_ ?_ ?_ ?_ ?_
  · intro j u hj
    match j, hj with
    | 0, hj => simp at hj; subst hj; simp [Addr.add]
    | 1, hj => simp at hj; subst hj; simp [Addr.add]
  · intro u hu; simp at hu; rcases hu with rfl | rfl <;> rfl
  · unfold maxLen; omega
  · omega
  · simp; omega
  · intro v' w1 hown' hgrow _
    refine h v' w1 ?_ ?_ hgrow
    · show w1.ownsRow _ _ _ _ _ _
      rw [List.length_append, cellsP_snoc]; exact hown'
    · refine ((Below.refl base wr).alloc hbase _).grown hgrow (by simp; omega) (fun k hk => ?_)
      exact (World.ownsRow.lt hown k hk).1
end Go.Proofs.YtpnpidepkfnofaaGreatDoor
