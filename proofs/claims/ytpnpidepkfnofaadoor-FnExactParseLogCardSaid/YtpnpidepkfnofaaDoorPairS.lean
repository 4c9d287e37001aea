/- Slices of structs of two ints (Step) that a call makes itself: append, reads, eq, mark, held. -/
import Derived.Test.YtpnpidepkfnofaaDoorPairPlain
import Derived.Deep.RegionHeld3
namespace Go.Proofs.YtpnpidepkfnofaaDoor
open Go.RowKit

theorem Tryd.infoS : (Tryd.prog.info? 32).map (fun i => (i.zero, i.size, i.bytes)) = some (some (.agg #[.int .i64 0, .int .i64 0]), 2, 16) := by kernel_rfl
abbrev OwnsS (w : World) (base : Nat) (v : Value) (L : List (Int × Int)) : Prop := OwnsP 32 w base v L
theorem wpList_appS {ops : Array Oper} {rest : List Oper} {o : Oper} {a : Act} {Q : Exit → Act → World → Prop} {wr : World} {p : Int × Int} (hgd : o.guard = none) (s x : Operand)
    (ho : o.op = .call { callee := .builtin .append, args := #[s, x], argTypes := #[22, 22] })
    (base : Nat) (v : Value) (L : List (Int × Int)) (hs : a.eval s = v) (hown : OwnsS wr base v L) (hx : a.eval x = .slice (some ⟨wr.heap.size, 0, none⟩) 1 1)
    (hlen : L.length < 1000000000000) (hbase : base ≤ wr.heap.size)
    (h : ∀ v' w1, OwnsS w1 base v' (L ++ [p]) → Below base wr w1 → (wr.alloc (.cells #[.int .i64 p.1, .int .i64 p.2] 32)).grownBy w1 v.ownBlock → wpList Tryd.prog ops Q rest (a.put o.dst v') w1) :
    wpList Tryd.prog ops Q (o :: rest) a (wr.alloc (.cells #[.int .i64 p.1, .int .i64 p.2] 32)) := by
  obtain ⟨i0, hi, hz0, hz1, hz2⟩ := info_parts Tryd.infoS
  refine wpList_append_own _ hgd s x 22 ho base 32 i0 (.agg #[.int .i64 0, .int .i64 0]) 2 16 Tryd.underlying22 hi hz0 hz1 hz2 rfl (by decide) v L.length (cellsP L) hs (World.ownsRow.alloc hown _) ⟨wr.heap.size, 0, none⟩ 1 1 [.int .i64 p.1, .int .i64 p.2] hx rfl ?_ ?_ ?_ ?_ ?_ ?_
  · intro j u hj
    match j, hj with
    | 0, hj => simp at hj; subst hj; simp [Addr.add]
    | 1, hj => simp at hj; subst hj; simp [Addr.add]
  · intro u hu; simp at hu; rcases hu with rfl | rfl <;> rfl
  · unfold maxLen; omega
  · omega
  · simp; omega
  · intro v' w1 hown' hgrow _
    refine h v' w1 ?_ ?_ hgrow
    · show w1.ownsRow _ _ _ _ _ _
      rw [List.length_append, cellsP_snoc]; exact hown'
    · refine ((Below.refl base wr).alloc hbase _).grown hgrow (by simp; omega) (fun k hk => ?_)
      exact (World.ownsRow.lt hown k hk).1
theorem c_eqStep (A B C D : Int) (w : World) :
    Calls Tryd.prog 22 #[.agg #[.int .i64 A, .int .i64 B], .agg #[.int .i64 C, .int .i64 D]] w fun e w' => e = .returned (.bool (A == C && B == D)) ∧ Below w.heap.size w w' := by
  cases h1 : (A == C) <;> cases h2 : (B == D)
  all_goals
    have h3 : (A != C) = !(A == C) := rfl
    have h4 : (B != D) = !(B == D) := rfl
    rw [h1] at h3
    rw [h2] at h4
    go_enter Tryd.func22, Tryd.ntmps22
    go_wp2
    go_ret
    refine ⟨rfl, ?_⟩
    go_grown
set_option maxHeartbeats 1000000 in
theorem c_markStepS (base : Nat) (v : Value) (L : List (Int × Int)) (hL : L.length ≤ 100000000) (w : World) (hown : OwnsS w base v L) :
    Calls Tryd.prog 7 #[v, .int .i64 1] w fun e w' => e = .returned (.int .i64 (1 + 2 * L.length)) ∧ OwnsS w' base v (markL L.length) ∧ w.grownBy w' v.ownBlock := by
  obtain ⟨a, cap, rfl, hform⟩ := OwnsP.form hown
  have HF := Lib.hid hform
  clear hform
  go_enter Tryd.func7, Tryd.ntmps7
  go_wp2
  go_loopw [1, 5] (fun m i wr => ∃ k : Nat, k ≤ L.length ∧ m = .int .i64 (1 + 2 * (k : Int)) ∧ i = .int .i64 k ∧ OwnsS wr base (.slice a L.length cap) (mixL L k) ∧ w.grownBy wr (Value.slice a L.length cap).ownBlock) (fun _ i _ => L.length - (intOf i).toNat)
  case atStart => exact ⟨0, Nat.zero_le _, rfl, rfl, hown, ⟨rfl, rfl, rfl, Nat.le_refl _, fun _ _ _ => rfl⟩⟩
  case round =>
    obtain ⟨k, hk, rfl, rfl, ho, hg⟩ := hrel
    by_cases hlt : k < L.length
    · obtain ⟨g, rfl, _⟩ := HF.out k hlt
      have R := mark_round hlt ho hg
      obtain ⟨a', cap', hv, hf⟩ := OwnsP.form ho
      obtain ⟨g', hga, q1, q2, q3, q4, _⟩ := hf k (by rw [mixL_length _ _ hk]; exact hlt)
      obtain ⟨rfl, rfl⟩ : a' = some ⟨g, 0, none⟩ ∧ cap' = cap := by simp only [Value.slice.injEq] at hv; exact ⟨hv.1.symm, hv.2.2.symm⟩
      obtain rfl : g' = g := by simpa using hga.symm
      have f1 := q3 (k * 2)
      have f2 := q3 (k * 2 + 1)
      have HR := Lib.hid R
      clear R q3 hf hga hv
      go_wp2
      go_roundw
      case rel => exact ⟨k + 1, by omega, by go_num, by go_num, HR.out.1, HR.out.2⟩
      case measure => simp [intOf]; omega
    · obtain rfl : k = L.length := by omega
      go_wp2
      go_ret
      refine ⟨rfl, ?_, hg⟩
      have : mixL L L.length = markL L.length := by simp [mixL]
      rw [this] at ho
      unfold OwnsS OwnsP at ho ⊢
      rw [markL_length] at ho ⊢
      exact ho
set_option maxHeartbeats 1000000 in
theorem c_heldStepS (base : Nat) (v : Value) (n : Nat) (hL : n ≤ 100000000) (w : World) (hown : OwnsS w base v (markL n)) :
    Calls Tryd.prog 8 #[v, .int .i64 1] w fun e w' => e = .returned (.int .i64 (1 + 2 * n)) ∧ w = w' := by
  obtain ⟨a, cap, rfl, hform⟩ := OwnsP.form hown
  have HF := Lib.hid hform
  rw [markL_length]
  clear hform hown
  go_enter Tryd.func8, Tryd.ntmps8
  go_wp2
  go_loop [1, 5] (fun m i => ∃ k : Nat, k ≤ n ∧ m = .int .i64 (1 + 2 * (k : Int)) ∧ i = .int .i64 k) (fun _ i => n - (intOf i).toNat)
  case atStart => exact ⟨0, Nat.zero_le _, rfl, rfl⟩
  case round =>
    obtain ⟨k, hk, rfl, rfl⟩ := hrel
    by_cases hlt : k < n
    · obtain ⟨g, rfl, q1, q2, _⟩ := HF.out k (by rw [markL_length]; exact hlt)
      rw [markL_get] at q1 q2
      simp only at q1 q2
      go_wp2
      go_round
      case rel => exact ⟨k + 1, by omega, by go_num, by go_num⟩
      case measure => simp [intOf]; omega
    · obtain rfl : k = n := by omega
      go_wp2
      go_ret
      exact ⟨rfl, rfl⟩
set_option maxHeartbeats 1000000 in
theorem c_eqStepS (base base' : Nat) (v v' : Value) (L : List (Int × Int)) (hL : L.length ≤ 100000000) (w : World) (hown : OwnsS w base v L) (hown' : OwnsS w base' v' L) :
    Calls Tryd.prog 6 #[v, v'] w fun e w' => e = .returned (.bool true) ∧ Below w.heap.size w w' := by
  obtain ⟨a, cap, rfl, hform⟩ := OwnsP.form hown
  obtain ⟨a', cap', rfl, hform'⟩ := OwnsP.form hown'
  have HF := Lib.hid hform
  have HF' := Lib.hid hform'
  clear hform hown hform' hown'
  go_enter Tryd.func6, Tryd.ntmps6
  go_wp2
  go_loopw [5] (fun i wr => ∃ k : Nat, k ≤ L.length ∧ i = .int .i64 k ∧ Below w.heap.size w wr) (fun i _ => L.length - (intOf i).toNat)
  case atStart => exact ⟨0, Nat.zero_le _, rfl, Below.refl _ _⟩
  case round =>
    obtain ⟨k, hk, rfl, hbl⟩ := hrel
    by_cases hlt : k < L.length
    · obtain ⟨g, rfl, q1, q2, _, hg, _⟩ := HF.out k hlt
      obtain ⟨g', rfl, r1, r2, _, hg', _⟩ := HF'.out k hlt
      generalize hx : L[k].1 = x at q1 r1
      generalize hy : L[k].2 = y at q2 r2
      clear hx hy
      have hS := keep4 (W := w) (w := w) (B := w.heap.size) ⟨q1, q2, r1, r2, hg, hg', Nat.le_refl _, Below.refl _ _⟩ hbl
      clear q1 q2 r1 r2 hbl
      have hSd := keep4d (n := 1) hS
      go_wp2
      go_region_held3 (fun w' => w'.cell? ⟨g, k * 2, none⟩ = some (.int .i64 x) ∧ w'.cell? ⟨g, k * 2 + 1, none⟩ = some (.int .i64 y) ∧ w'.cell? ⟨g', k * 2, none⟩ = some (.int .i64 x) ∧ w'.cell? ⟨g', k * 2 + 1, none⟩ = some (.int .i64 y) ∧ g < w'.heap.size ∧ g' < w'.heap.size ∧ w.heap.size ≤ w'.heap.size ∧ Below w.heap.size w w')
        (first | (exact hS) | (exact hSd) | (exact keep4 (by assumption) (by assumption)) | assumption)
        (first | (go_at_call 22; refine (c_eqStep _ _ _ _ _).mono ?_; rintro e w1 ⟨rfl, hb1⟩))
      all_goals go_wp2
      all_goals
        rename_i hS2
        go_roundw
        case rel => exact ⟨k + 1, by omega, by go_num, hS2.2.2.2.2.2.2.2⟩
        case measure => simp [intOf]; omega
    · obtain rfl : k = L.length := by omega
      go_wp2
      go_ret
      exact ⟨rfl, hbl⟩
end Go.Proofs.YtpnpidepkfnofaaDoor
