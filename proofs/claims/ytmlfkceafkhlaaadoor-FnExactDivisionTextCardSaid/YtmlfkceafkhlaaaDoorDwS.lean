/- Walks: powers of wholes, the next division value (dpPowers, dpNext). -/
import Derived.Test.YtmlfkceafkhlaaaDoorDwB
import Derived.Shelf.Abstract
namespace Go.Proofs.YtmlfkceafkhlaaaDoor
open Go.RowKit

/-- the first powers -/
def pwL (N : Int) : Nat → List Int
  | 0 => []
  | k + 1 => pwL N k ++ [N ^ k]
theorem pwL_len (N : Int) : ∀ k, (pwL N k).length = k
  | 0 => rfl
  | k + 1 => by simp only [pwL, List.length_append, pwL_len N k, List.length_singleton]
theorem pwL_get (N : Int) : ∀ k i, i < k → eat (pwL N k) i = N ^ i
  | k + 1, i, h => by
    unfold eat
    rw [pwL]
    by_cases hi : i < k
    · rw [List.getElem?_append_left (by rw [pwL_len]; exact hi)]
      exact pwL_get N k i hi
    · obtain rfl : i = k := by omega
      rw [List.getElem?_append_right (by rw [pwL_len]; omega), pwL_len]
      simp
theorem pw_sz {s : Nat} {N : Int} (h : Sz s N) : ∀ k, Sz (s * k + 1) (N ^ k)
  | 0 => by rw [Int.pow_zero]; exact (Sz.of1 (by omega) (by omega)).mono (by omega)
  | k + 1 => by
    rw [Int.pow_succ]
    exact ((pw_sz h k).mul h).mono (by rw [Nat.mul_succ]; omega)
theorem pwn (s : Nat) (hs : s ≤ 10000) (k : Nat) (hk : k ≤ 3) : s * k + 1 ≤ 30001 := by
  have : s * k ≤ 10000 * 3 := Nat.mul_le_mul hs hk
  omega
set_option maxHeartbeats 2000000 in
set_option maxRecDepth 100000 in
theorem c_dpPowers (s : Nat) (hs : s ≤ 10000) (b0 : Nat) (N : Int) (a : Value) (w : World) (ha : Wh b0 N a w) (hz : Sz s N) :
    Calls Tryd.prog 27 #[a] w fun e w' => ∃ v, e = .returned v ∧ OwnsW w' w.heap.size w.heap.size v (pwL N 4) ∧ Below w.heap.size w w' := by
  have hPl : Hid (∀ k, k ≤ 3 → (dg (N ^ k).natAbs).length ≤ 40000) := fun k hk => Nat.le_trans (pw_sz hz k).len (Nat.le_trans (pwn s hs k hk) (by omega))
  have hNl : (dg N.natAbs).length ≤ 40000 := Nat.le_trans hz.len (by omega)
  clear hz
  obtain ⟨la, rfl, hr, hc1⟩ := ha.cell
  have kN0 : BlkW b0 w.heap.size N (w.alloc (.cells #[.bool (decide (N < 0)), la] 31)) := ⟨la, Blk.new w _ _, hr.below ((Below.refl _ _).alloc (Nat.le_refl _) _), hc1⟩
  have hb0 : Below w.heap.size w (w.alloc (.cells #[.bool (decide (N < 0)), la] 31)) := (Below.refl _ _).alloc (Nat.le_refl _) _
  have hW0 : (w.alloc (.cells #[.bool (decide (N < 0)), la] 31)).heap.size = w.heap.size + 1 := by simp
  obtain ⟨b, hb⟩ : ∃ b, w.heap.size = b := ⟨_, rfl⟩
  rw [hb]
  go_enter Tryd.func27, Tryd.ntmps27
  go_upto_region 1 with (fail)
  generalize w.alloc _ = W at *
  rw [hb] at kN0 hb0 hW0
  have HBW := Lib.hid hb
  clear hb hr hc1 ha
  have hbW : b ≤ W.heap.size := by omega
  have hbdW : b + 1 ≤ W.heap.size := by omega
  clear hW0
  refine wp_region_tabF 2 [] [(0, 4), (1, 5)] [Wh b 1, (fun v w => OwnsW w (b + 1) b v [1])] (by kernel_rfl) (by kernel_rfl) (by kernel_rfl) trivial ⟨Wh.closed _ _, fun v => OwnsW.closed (b + 1) b v _, trivial⟩ ⟨?_, ?_, trivial⟩ ?_
  · refine StepT.q _ (by rfl) (by rfl) fun ρ w' H => ?_
    exact OpTo.call 26 #[(Value.int IntKind.i64 1)] _ _ _ rfl (H.fn 26) (enters_of Tryd.func26 (by kernel_rfl) rfl) (by simp [H.con]) ((c_bgOf 1 (by omega) w').mono fun e w2 ⟨v, h1, h2, h3⟩ => ⟨v, h1, h3, h2.le (Nat.le_trans hbW H.bel.size)⟩)
  · refine StepT.q _ (by rfl) (by rfl) fun ρ w' H => ?_
    obtain ⟨v0, e0, p0⟩ := H.dep 0 4 (by kernel_rfl)
    have p0 : (Wh b 1) v0 w' := p0
    exact op_bo1 _ _ (Nat.le_trans hbdW H.bel.size) rfl (by rw [e0]; exact p0)
  intro vs Wt hBt hDt
  have hV1 : ((fun v w => OwnsW w (b + 1) b v [1])) (vs 1) Wt := hDt.1 1 (by omega)
  clear hDt
  simp only [mergeS, Nat.reduceBEq, cond_true, cond_false, Nat.reduceAdd, List.drop_succ_cons, List.drop_zero]
  replace kN0 := kN0.next hBt
  replace hb0 : Below b w _ := below_step hBt hbW hb0
  replace hbW := Nat.le_trans hbW hBt.size
  replace hbdW := Nat.le_trans hbdW hBt.size
  clear hBt
  have hpw1 : pwL N 1 = [1] := by simp [pwL]
  have hD : OwnsW Wt (b + 1) b (vs 1) (pwL N 1) := by
    rw [hpw1]
    exact hV1
  clear hV1 hpw1
  generalize vs 1 = d0 at hD ⊢
  obtain ⟨g0, cap0, rfl, _, _⟩ := hD.addr (by rw [pwL_len]; omega)
  rw [pwL_len] at hD ⊢
  go_upto_region 2 with (fail)
  go_loopw [3] (fun dv wr => ∃ (k g cap : Nat), dv = .slice (some ⟨g, 0, none⟩) k cap ∧ 1 ≤ k ∧ k ≤ 4 ∧ OwnsW wr (b + 1) b (.slice (some ⟨g, 0, none⟩) k cap) (pwL N k) ∧ BlkW b0 b N wr ∧ b + 1 ≤ wr.heap.size ∧ Below b w wr) (fun dv _ => match dv with | .slice _ n _ => 4 - n | _ => 0)
  case atStart => exact ⟨1, g0, cap0, rfl, by omega, by omega, hD, kN0, hbdW, hb0⟩
  case round =>
    clear hD kN0 hbdW hb0 hbW
    obtain ⟨k, g, cap, rfl, h1, h4, hD, kN0, hbdW, hb0⟩ := hrel
    have hbW : b ≤ wr.heap.size := by omega
    obtain ⟨hke, hgb0, HE⟩ := hD.elt (by omega)
    clear hke
    have hgb := Lib.hid hgb0
    clear hgb0
    by_cases hlt : k < 4
    · obtain ⟨j, rfl⟩ : ∃ j, k = j + 1 := ⟨k - 1, by omega⟩
      have hX : Hid (eat (pwL N (j + 1)) j = N ^ j) := pwL_get N (j + 1) j (by omega)
      have HX : Hid (pwL N (j + 1 + 1) = pwL N (j + 1) ++ [N ^ (j + 1)]) := rfl
      have hpj := hPl.out j (by omega)
      have hpw : Hid (N ^ j * N = N ^ (j + 1)) := (Int.pow_succ _ _).symm
      go_upto_region 3 with (fail)
      refine wp_region_tab 10 [] [(0, 9), (1, 10), (2, 11), (3, 12), (4, 13), (5, 14), (6, 15), (7, 16), (8, 17), (9, 18)] [IsV (.slice (some ⟨g, 0, none⟩) (j + 1) cap), IsV (.slice (some ⟨g, 0, none⟩) (j + 1) cap), IsV (.slice (some ⟨g, 0, none⟩) (j + 1) cap), IsV (.int .i64 ((j + 1 : Nat) : Int)), IsV (.int .i64 ((j + 1 - 1 : Nat) : Int)), IsV (.pointer (some ⟨g, (j + 1 - 1) * 2, none⟩)), Wh b (N ^ j), Wh b0 N, Wh b (N ^ (j + 1)), (fun v w => OwnsW w (b + 1) b v [N ^ (j + 1)])] (by kernel_rfl) (by kernel_rfl) (by kernel_rfl) trivial ⟨IsV.closed _, IsV.closed _, IsV.closed _, IsV.closed _, IsV.closed _, IsV.closed _, Wh.closed _ _, Wh.closed _ _, Wh.closed _ _, fun v => OwnsW.closed (b + 1) b v _, trivial⟩ ⟨?_, ?_, ?_, ?_, ?_, ?_, ?_, ?_, ?_, ?_, trivial⟩ ?_
      · refine StepT.q _ (by rfl) (by rfl) fun ρ w' H => ?_
        exact OpTo.move _ rfl (H.bas 3 (by kernel_rfl))
      · refine StepT.q _ (by rfl) (by rfl) fun ρ w' H => ?_
        exact OpTo.move _ rfl (H.bas 3 (by kernel_rfl))
      · refine StepT.q _ (by rfl) (by rfl) fun ρ w' H => ?_
        exact OpTo.move _ rfl (H.bas 3 (by kernel_rfl))
      · refine StepT.q _ (by rfl) (by rfl) fun ρ w' H => ?_
        obtain ⟨v2, e2, p2⟩ := H.dep 2 11 (by kernel_rfl)
        obtain rfl : v2 = .slice (some ⟨g, 0, none⟩) (j + 1) cap := p2
        exact op_len _ rfl e2
      · refine StepT.q _ (by rfl) (by rfl) fun ρ w' H => ?_
        obtain ⟨v3, e3, p3⟩ := H.dep 3 12 (by kernel_rfl)
        obtain rfl : v3 = .int .i64 ((j + 1 : Nat) : Int) := p3
        exact op_subN (c := 1) _ _ rfl e3 (H.con _) (by omega) (by omega)
      · refine StepT.q _ (by rfl) (by rfl) fun ρ w' H => ?_
        obtain ⟨v1, e1, p1⟩ := H.dep 1 10 (by kernel_rfl)
        obtain rfl : v1 = .slice (some ⟨g, 0, none⟩) (j + 1) cap := p1
        obtain ⟨v4, e4, p4⟩ := H.dep 4 13 (by kernel_rfl)
        obtain rfl : v4 = .int .i64 ((j + 1 - 1 : Nat) : Int) := p4
        exact op_idxW _ _ rfl e1 e4 (by omega)
      · refine StepT.q _ (by rfl) (by rfl) fun ρ w' H => ?_
        obtain ⟨v5, e5, p5⟩ := H.dep 5 14 (by kernel_rfl)
        obtain rfl : v5 = .pointer (some ⟨g, (j + 1 - 1) * 2, none⟩) := p5
        exact hX.out ▸ op_eltX _ rfl e5 (HE.next H.bel) (by omega)
      · refine StepT.q _ (by rfl) (by rfl) fun ρ w' H => ?_
        have hx : ρ (.tmp 1) = .pointer (some ⟨b, 0, none⟩) := H.bas 1 (by kernel_rfl); exact op_ldW _ rfl hx (kN0.next H.bel)
      · refine StepT.q _ (by rfl) (by rfl) fun ρ w' H => ?_
        obtain ⟨v6, e6, p6⟩ := H.dep 6 15 (by kernel_rfl)
        have p6 : (Wh b (N ^ j)) v6 w' := p6
        obtain ⟨v7, e7, p7⟩ := H.dep 7 16 (by kernel_rfl)
        have p7 : (Wh b0 N) v7 w' := p7
        exact OpTo.call 30 #[v6, v7] _ _ _ rfl (H.fn 30) (enters_of Tryd.func30 (by kernel_rfl) rfl) (by simp [e6, e7]) ((hpw.out ▸ c_bgMul (N ^ j) N v6 v7 hpj hNl w' p6.rd p7.rd).mono fun e w2 ⟨v, h1, h2, h3⟩ => ⟨v, h1, h3, h2.le (Nat.le_trans hbW H.bel.size)⟩)
      · refine StepT.q _ (by rfl) (by rfl) fun ρ w' H => ?_
        obtain ⟨v8, e8, p8⟩ := H.dep 8 17 (by kernel_rfl)
        have p8 : (Wh b (N ^ (j + 1))) v8 w' := p8
        exact op_bo1 _ _ (Nat.le_trans hbdW H.bel.size) rfl (by rw [e8]; exact p8)
      intro vs Wt hBt hDt
      have hv0 : vs 0 = .slice (some ⟨g, 0, none⟩) (j + 1) cap := hDt.1 0 (by omega)
      have hV9 : ((fun v w => OwnsW w (b + 1) b v [N ^ (j + 1)])) (vs 9) Wt := hDt.1 9 (by omega)
      clear hDt
      simp only [mergeS, Nat.reduceBEq, cond_true, cond_false, Nat.reduceAdd, List.drop_succ_cons, List.drop_zero, hv0]
      clear hv0
      have hVB : OwnsW Wt (b + 1) b (vs 9) [N ^ (j + 1)] := hV9
      replace kN0 := kN0.next hBt
      replace hD := hD.next hBt
      replace hb0 : Below b w _ := below_step hBt hbW hb0
      replace hbW := Nat.le_trans hbW hBt.size
      replace hbdW := Nat.le_trans hbdW hBt.size
      have hgd : b + 1 ≤ g := hgb.out
      go_wp2_with (at_builtin; refine wpList_appW rfl _ _ rfl (b + 1) b _ (.slice (some ⟨g, 0, none⟩) (j + 1) cap) _ (pwL N (j + 1)) (N ^ (j + 1)) rfl rfl hD hVB hbdW (by rw [pwL_len]; omega) ?_; intro v9 W9 hD9 hO9 hF9)
      rw [← HX.out] at hD9
      obtain ⟨g9, cap9, rfl, _, _⟩ := hD9.addr (by rw [pwL_len]; omega)
      rw [pwL_len] at hD9 ⊢
      obtain ⟨lN, kN1, rN, cN⟩ := id kN0
      have hN9 : BlkW b0 b N W9 := kN0.app hD hO9 (by simp [Value.ownBlock]; omega)
      have hb9 : Below b w W9 := hO9.belowGe hb0 hbW (by simp [Value.ownBlock]; omega)
      have hs9 := Nat.le_trans hbdW hO9.size
      clear hO9 hF9 hD kN0 kN1 rN cN
      go_wp2
      go_roundw
      case rel => exact ⟨j + 1 + 1, g9, cap9, rfl, by omega, by omega, hD9, hN9, hs9, hb9⟩
      case measure => simp; omega
    · obtain rfl : k = 4 := by omega
      go_wp2
      have eb := HBW.out
      subst eb
      refine bodyPost_ret (v := .slice (some ⟨g, 0, none⟩) 4 cap) (by simp [results, Tryd.results27, go_sem]) rfl ?_
      obtain ⟨L, o1, o2⟩ := hD
      exact ⟨_, rfl, ⟨L, ⟨o1.1, o1.2.imp id fun ⟨g, c, cur, q1, q2, q3⟩ => ⟨g, c, cur, q1, Nat.le_trans (Nat.le_succ _) q2, q3⟩⟩, o2⟩, hb0⟩
end Go.Proofs.YtmlfkceafkhlaaaDoor
