/- Slices of structs of two ints (Step) that a call makes itself: append, reads, eq, mark, held. -/
import Derived.Test.YtbnbkddcgokniaaDoorPairPlain
import Derived.Deep.RegionHeld3
namespace Go.Proofs.YtbnbkddcgokniaaDoor
open Go.RowKit

theorem Tryd.infoS : (Tryd.prog.info? 39).map (fun i => (i.zero, i.size, i.bytes)) = some (some (.agg #[.int .i64 0, .int .i64 0]), 2, 16) := by kernel_rfl
abbrev OwnsS (w : World) (base : Nat) (v : Value) (L : List (Int × Int)) : Prop := OwnsP 39 w base v L
theorem wpList_appS {ops : Array Oper} {rest : List Oper} {o : Oper} {a : Act} {Q : Exit → Act → World → Prop} {wr : World} {p : Int × Int} (hgd : o.guard = none) (s x : Operand)
    (ho : o.op = .call { callee := .builtin .append, args := #[s, x], argTypes := #[26, 26] })
    (base : Nat) (v : Value) (L : List (Int × Int)) (hs : a.eval s = v) (hown : OwnsS wr base v L) (hx : a.eval x = .slice (some ⟨wr.heap.size, 0, none⟩) 1 1)
    (hlen : L.length < 1000000000000) (hbase : base ≤ wr.heap.size)
    (h : ∀ v' w1, OwnsS w1 base v' (L ++ [p]) → Below base wr w1 → (wr.alloc (.cells #[.int .i64 p.1, .int .i64 p.2] 39)).grownBy w1 v.ownBlock → wpList Tryd.prog ops Q rest (a.put o.dst v') w1) :
    wpList Tryd.prog ops Q (o :: rest) a (wr.alloc (.cells #[.int .i64 p.1, .int .i64 p.2] 39)) := by
  obtain ⟨i0, hi, hz0, hz1, hz2⟩ := info_parts Tryd.infoS
  refine wpList_append_own _ hgd s x 26 ho base 39 i0 (.agg #[.int .i64 0, .int .i64 0]) 2 16 Tryd.underlying26 hi hz0 hz1 hz2 rfl (by decide) v L.length (cellsP L) hs (World.ownsRow.alloc hown _) ⟨wr.heap.size, 0, none⟩ 1 1 [.int .i64 p.1, .int .i64 p.2] hx rfl ?_ ?_ ?_ ?_ ?_ ?_
  · intro j u hj
    match j, hj with
    | 0, hj => simp at hj; subst hj; simp [Addr.add]
    | 1, hj => simp at hj; subst hj; simp [Addr.add]
  · intro u hu; simp at hu; rcases hu with rfl | rfl <;> rfl
  · unfold maxLen; omega
  · omega
  · simp; omega
  · intro v' w1 hown' hgrow _
    refine h v' w1 ?_ ?_ hgrow
    · show w1.ownsRow _ _ _ _ _ _
      rw [List.length_append, cellsP_snoc]; exact hown'
    · refine ((Below.refl base wr).alloc hbase _).grown hgrow (by simp; omega) (fun k hk => ?_)
      exact (World.ownsRow.lt hown k hk).1
theorem c_eqStep (A B C D : Int) (w : World) :
    Calls Tryd.prog 18 #[.agg #[.int .i64 A, .int .i64 B], .agg #[.int .i64 C, .int .i64 D]] w fun e w' => e = .returned (.bool (A == C && B == D)) ∧ Below w.heap.size w w' := by
  cases h1 : (A == C) <;> cases h2 : (B == D)
  all_goals
    have h3 : (A != C) = !(A == C) := rfl
    have h4 : (B != D) = !(B == D) := rfl
    rw [h1] at h3
    rw [h2] at h4
    go_enter Tryd.func18, Tryd.ntmps18
    go_wp2
    go_ret
    refine ⟨rfl, ?_⟩
    go_grown
set_option maxHeartbeats 1000000 in
theorem c_eqStepS (base base' : Nat) (v v' : Value) (L : List (Int × Int)) (hL : L.length ≤ 100000000) (w : World) (hown : OwnsS w base v L) (hown' : OwnsS w base' v' L) :
    Calls Tryd.prog 9 #[v, v'] w fun e w' => e = .returned (.bool true) ∧ Below w.heap.size w w' := by
  obtain ⟨a, cap, rfl, hform⟩ := OwnsP.form hown
  obtain ⟨a', cap', rfl, hform'⟩ := OwnsP.form hown'
  have HF := Lib.hid hform
  have HF' := Lib.hid hform'
  clear hform hown hform' hown'
  go_enter Tryd.func9, Tryd.ntmps9
  go_wp2
  go_loopw [5] (fun i wr => ∃ k : Nat, k ≤ L.length ∧ i = .int .i64 k ∧ Below w.heap.size w wr) (fun i _ => L.length - (intOf i).toNat)
  case atStart => exact ⟨0, Nat.zero_le _, rfl, Below.refl _ _⟩
  case round =>
    obtain ⟨k, hk, rfl, hbl⟩ := hrel
    by_cases hlt : k < L.length
    · obtain ⟨g, rfl, q1, q2, _, hg, _⟩ := HF.out k hlt
      obtain ⟨g', rfl, r1, r2, _, hg', _⟩ := HF'.out k hlt
      generalize hx : L[k].1 = x at q1 r1
      generalize hy : L[k].2 = y at q2 r2
      clear hx hy
      have hS := keep4 (W := w) (w := w) (B := w.heap.size) ⟨q1, q2, r1, r2, hg, hg', Nat.le_refl _, Below.refl _ _⟩ hbl
      clear q1 q2 r1 r2 hbl
      have hSd := keep4d (n := 1) hS
      go_wp2
      go_region_held3 (fun w' => w'.cell? ⟨g, k * 2, none⟩ = some (.int .i64 x) ∧ w'.cell? ⟨g, k * 2 + 1, none⟩ = some (.int .i64 y) ∧ w'.cell? ⟨g', k * 2, none⟩ = some (.int .i64 x) ∧ w'.cell? ⟨g', k * 2 + 1, none⟩ = some (.int .i64 y) ∧ g < w'.heap.size ∧ g' < w'.heap.size ∧ w.heap.size ≤ w'.heap.size ∧ Below w.heap.size w w')
        (first | (exact hS) | (exact hSd) | (exact keep4 (by assumption) (by assumption)) | assumption)
        (first | (go_at_call 18; refine (c_eqStep _ _ _ _ _).mono ?_; rintro e w1 ⟨rfl, hb1⟩))
      all_goals go_wp2
      all_goals
        rename_i hS2
        go_roundw
        case rel => exact ⟨k + 1, by omega, by go_num, hS2.2.2.2.2.2.2.2⟩
        case measure => simp [intOf]; omega
    · obtain rfl : k = L.length := by omega
      go_wp2
      go_ret
      exact ⟨rfl, hbl⟩
end Go.Proofs.YtbnbkddcgokniaaDoor
