/- Several texts joined: DwS DwN DwW DwE Dtx. -/
import Derived.Test.YtgjdgcmmlfmhmaaGreatDoorMgj
import Derived.Shelf.Abstract
import Derived.Test.YtgjdgcmmlfmhmaaGreatDoorMgk
import Derived.Test.YtgjdgcmmlfmhmaaGreatDoorMga
/- DwS -/
namespace Go.Proofs.YtgjdgcmmlfmhmaaGreatDoor
open Go.RowKit

/-- the first powers -/
def pwL (N : Int) : Nat → List Int
  | 0 => []
  | k + 1 => pwL N k ++ [N ^ k]
theorem pwL_len (N : Int) : ∀ k, (pwL N k).length = k
  | 0 => rfl
  | k + 1 => by simp only [pwL, List.length_append, pwL_len N k, List.length_singleton]
theorem pwL_get (N : Int) : ∀ k i, i < k → eat (pwL N k) i = N ^ i
  | k + 1, i, h => by
    unfold eat
    rw [pwL]
    by_cases hi : i < k
    · rw [List.getElem?_append_left (by rw [pwL_len]; exact hi)]
      exact pwL_get N k i hi
    · obtain rfl : i = k := by omega
      rw [List.getElem?_append_right (by rw [pwL_len]; omega), pwL_len]
      simp
theorem pw_sz {s : Nat} {N : Int} (h : Sz s N) : ∀ k, Sz (s * k + 1) (N ^ k)
  | 0 => by rw [Int.pow_zero]; exact (Sz.of1 (by omega) (by omega)).mono (by omega)
  | k + 1 => by
    rw [Int.pow_succ]
    exact ((pw_sz h k).mul h).mono (by rw [Nat.mul_succ]; omega)
theorem pwn (s : Nat) (hs : s ≤ 10000) (k : Nat) (hk : k ≤ 3) : s * k + 1 ≤ 30001 := by
  have : s * k ≤ 10000 * 3 := Nat.mul_le_mul hs hk
  omega
set_option maxHeartbeats 2000000 in
set_option maxRecDepth 100000 in
theorem c_dpPowers (s : Nat) (hs : s ≤ 10000) (b0 : Nat) (N : Int) (a : Value) (w : World) (ha : Wh b0 N a w) (hz : Sz s N) :
    Calls Tryz.prog 105 #[a] w fun e w' => ∃ v, e = .returned v ∧ OwnsW w' w.heap.size w.heap.size v (pwL N 4) ∧ Below w.heap.size w w' := by
  have hPl : Hid (∀ k, k ≤ 3 → (dg (N ^ k).natAbs).length ≤ 40000) := fun k hk => Nat.le_trans (pw_sz hz k).len (Nat.le_trans (pwn s hs k hk) (by omega))
  have hNl : (dg N.natAbs).length ≤ 40000 := Nat.le_trans hz.len (by omega)
  clear hz
  obtain ⟨la, rfl, hr, hc1⟩ := ha.cell
  have kN0 : BlkW b0 w.heap.size N (w.alloc (.cells #[.bool (decide (N < 0)), la] 37)) := ⟨la, Blk.new w _ _, hr.below ((Below.refl _ _).alloc (Nat.le_refl _) _), hc1⟩
  have hb0 : Below w.heap.size w (w.alloc (.cells #[.bool (decide (N < 0)), la] 37)) := (Below.refl _ _).alloc (Nat.le_refl _) _
  have hW0 : (w.alloc (.cells #[.bool (decide (N < 0)), la] 37)).heap.size = w.heap.size + 1 := by simp
  obtain ⟨b, hb⟩ : ∃ b, w.heap.size = b := ⟨_, rfl⟩
  rw [hb]
  go_enter Tryz.func105, Tryz.ntmps105
  go_upto_region 1 with (fail)
  generalize w.alloc _ = W at *
  rw [hb] at kN0 hb0 hW0
  have HBW := Lib.hid hb
  clear hb hr hc1 ha
  have hbW : b ≤ W.heap.size := by omega
  have hbdW : b + 1 ≤ W.heap.size := by omega
  clear hW0
  refine wp_region_tabF 2 [] [(0, 4), (1, 5)] [Wh b 1, (fun v w => OwnsW w (b + 1) b v [1])] (by kernel_rfl) (by kernel_rfl) (by kernel_rfl) trivial ⟨Wh.closed _ _, fun v => OwnsW.closed (b + 1) b v _, trivial⟩ ⟨?_, ?_, trivial⟩ ?_
  · refine StepT.q _ (by rfl) (by rfl) fun ρ w' H => ?_
    exact OpTo.call 91 #[(Value.int IntKind.i64 1)] _ _ _ rfl (H.fn 91) (enters_of Tryz.func91 (by kernel_rfl) rfl) (by simp [H.con]) ((c_bgOf 1 (by omega) w').mono fun e w2 ⟨v, h1, h2, h3⟩ => ⟨v, h1, h3, h2.le (Nat.le_trans hbW H.bel.size)⟩)
  · refine StepT.q _ (by rfl) (by rfl) fun ρ w' H => ?_
    obtain ⟨v0, e0, p0⟩ := H.dep 0 4 (by kernel_rfl)
    have p0 : (Wh b 1) v0 w' := p0
    exact op_bo1 _ _ (Nat.le_trans hbdW H.bel.size) rfl (by rw [e0]; exact p0)
  intro vs Wt hBt hDt
  have hV1 : ((fun v w => OwnsW w (b + 1) b v [1])) (vs 1) Wt := hDt.1 1 (by omega)
  clear hDt
  simp only [mergeS, Nat.reduceBEq, cond_true, cond_false, Nat.reduceAdd, List.drop_succ_cons, List.drop_zero]
  replace kN0 := kN0.next hBt
  replace hb0 : Below b w _ := below_step hBt hbW hb0
  replace hbW := Nat.le_trans hbW hBt.size
  replace hbdW := Nat.le_trans hbdW hBt.size
  clear hBt
  have hpw1 : pwL N 1 = [1] := by simp [pwL]
  have hD : OwnsW Wt (b + 1) b (vs 1) (pwL N 1) := by
    rw [hpw1]
    exact hV1
  clear hV1 hpw1
  generalize vs 1 = d0 at hD ⊢
  obtain ⟨g0, cap0, rfl, _, _⟩ := hD.addr (by rw [pwL_len]; omega)
  rw [pwL_len] at hD ⊢
  go_upto_region 2 with (fail)
  go_loopw [3] (fun dv wr => ∃ (k g cap : Nat), dv = .slice (some ⟨g, 0, none⟩) k cap ∧ 1 ≤ k ∧ k ≤ 4 ∧ OwnsW wr (b + 1) b (.slice (some ⟨g, 0, none⟩) k cap) (pwL N k) ∧ BlkW b0 b N wr ∧ b + 1 ≤ wr.heap.size ∧ Below b w wr) (fun dv _ => match dv with | .slice _ n _ => 4 - n | _ => 0)
  case atStart => exact ⟨1, g0, cap0, rfl, by omega, by omega, hD, kN0, hbdW, hb0⟩
  case round =>
    clear hD kN0 hbdW hb0 hbW
    obtain ⟨k, g, cap, rfl, h1, h4, hD, kN0, hbdW, hb0⟩ := hrel
    have hbW : b ≤ wr.heap.size := by omega
    obtain ⟨hke, hgb0, HE⟩ := hD.elt (by omega)
    clear hke
    have hgb := Lib.hid hgb0
    clear hgb0
    by_cases hlt : k < 4
    · obtain ⟨j, rfl⟩ : ∃ j, k = j + 1 := ⟨k - 1, by omega⟩
      have hX : Hid (eat (pwL N (j + 1)) j = N ^ j) := pwL_get N (j + 1) j (by omega)
      have HX : Hid (pwL N (j + 1 + 1) = pwL N (j + 1) ++ [N ^ (j + 1)]) := rfl
      have hpj := hPl.out j (by omega)
      have hpw : Hid (N ^ j * N = N ^ (j + 1)) := (Int.pow_succ _ _).symm
      go_upto_region 3 with (fail)
      refine wp_region_tab 10 [] [(0, 9), (1, 10), (2, 11), (3, 12), (4, 13), (5, 14), (6, 15), (7, 16), (8, 17), (9, 18)] [IsV (.slice (some ⟨g, 0, none⟩) (j + 1) cap), IsV (.slice (some ⟨g, 0, none⟩) (j + 1) cap), IsV (.slice (some ⟨g, 0, none⟩) (j + 1) cap), IsV (.int .i64 ((j + 1 : Nat) : Int)), IsV (.int .i64 ((j + 1 - 1 : Nat) : Int)), IsV (.pointer (some ⟨g, (j + 1 - 1) * 2, none⟩)), Wh b (N ^ j), Wh b0 N, Wh b (N ^ (j + 1)), (fun v w => OwnsW w (b + 1) b v [N ^ (j + 1)])] (by kernel_rfl) (by kernel_rfl) (by kernel_rfl) trivial ⟨IsV.closed _, IsV.closed _, IsV.closed _, IsV.closed _, IsV.closed _, IsV.closed _, Wh.closed _ _, Wh.closed _ _, Wh.closed _ _, fun v => OwnsW.closed (b + 1) b v _, trivial⟩ ⟨?_, ?_, ?_, ?_, ?_, ?_, ?_, ?_, ?_, ?_, trivial⟩ ?_
      · refine StepT.q _ (by rfl) (by rfl) fun ρ w' H => ?_
        exact OpTo.move _ rfl (H.bas 3 (by kernel_rfl))
      · refine StepT.q _ (by rfl) (by rfl) fun ρ w' H => ?_
        exact OpTo.move _ rfl (H.bas 3 (by kernel_rfl))
      · refine StepT.q _ (by rfl) (by rfl) fun ρ w' H => ?_
        exact OpTo.move _ rfl (H.bas 3 (by kernel_rfl))
      · refine StepT.q _ (by rfl) (by rfl) fun ρ w' H => ?_
        obtain ⟨v2, e2, p2⟩ := H.dep 2 11 (by kernel_rfl)
        obtain rfl : v2 = .slice (some ⟨g, 0, none⟩) (j + 1) cap := p2
        exact op_len _ rfl e2
      · refine StepT.q _ (by rfl) (by rfl) fun ρ w' H => ?_
        obtain ⟨v3, e3, p3⟩ := H.dep 3 12 (by kernel_rfl)
        obtain rfl : v3 = .int .i64 ((j + 1 : Nat) : Int) := p3
        exact op_subN (c := 1) _ _ rfl e3 (H.con _) (by omega) (by omega)
      · refine StepT.q _ (by rfl) (by rfl) fun ρ w' H => ?_
        obtain ⟨v1, e1, p1⟩ := H.dep 1 10 (by kernel_rfl)
        obtain rfl : v1 = .slice (some ⟨g, 0, none⟩) (j + 1) cap := p1
        obtain ⟨v4, e4, p4⟩ := H.dep 4 13 (by kernel_rfl)
        obtain rfl : v4 = .int .i64 ((j + 1 - 1 : Nat) : Int) := p4
        exact op_idxW _ _ rfl e1 e4 (by omega)
      · refine StepT.q _ (by rfl) (by rfl) fun ρ w' H => ?_
        obtain ⟨v5, e5, p5⟩ := H.dep 5 14 (by kernel_rfl)
        obtain rfl : v5 = .pointer (some ⟨g, (j + 1 - 1) * 2, none⟩) := p5
        exact hX.out ▸ op_eltX _ rfl e5 (HE.next H.bel) (by omega)
      · refine StepT.q _ (by rfl) (by rfl) fun ρ w' H => ?_
        have hx : ρ (.tmp 1) = .pointer (some ⟨b, 0, none⟩) := H.bas 1 (by kernel_rfl); exact op_ldW _ rfl hx (kN0.next H.bel)
      · refine StepT.q _ (by rfl) (by rfl) fun ρ w' H => ?_
        obtain ⟨v6, e6, p6⟩ := H.dep 6 15 (by kernel_rfl)
        have p6 : (Wh b (N ^ j)) v6 w' := p6
        obtain ⟨v7, e7, p7⟩ := H.dep 7 16 (by kernel_rfl)
        have p7 : (Wh b0 N) v7 w' := p7
        exact OpTo.call 108 #[v6, v7] _ _ _ rfl (H.fn 108) (enters_of Tryz.func108 (by kernel_rfl) rfl) (by simp [e6, e7]) ((hpw.out ▸ c_bgMul (N ^ j) N v6 v7 hpj hNl w' p6.rd p7.rd).mono fun e w2 ⟨v, h1, h2, h3⟩ => ⟨v, h1, h3, h2.le (Nat.le_trans hbW H.bel.size)⟩)
      · refine StepT.q _ (by rfl) (by rfl) fun ρ w' H => ?_
        obtain ⟨v8, e8, p8⟩ := H.dep 8 17 (by kernel_rfl)
        have p8 : (Wh b (N ^ (j + 1))) v8 w' := p8
        exact op_bo1 _ _ (Nat.le_trans hbdW H.bel.size) rfl (by rw [e8]; exact p8)
      intro vs Wt hBt hDt
      have hv0 : vs 0 = .slice (some ⟨g, 0, none⟩) (j + 1) cap := hDt.1 0 (by omega)
      have hV9 : ((fun v w => OwnsW w (b + 1) b v [N ^ (j + 1)])) (vs 9) Wt := hDt.1 9 (by omega)
      clear hDt
      simp only [mergeS, Nat.reduceBEq, cond_true, cond_false, Nat.reduceAdd, List.drop_succ_cons, List.drop_zero, hv0]
      clear hv0
      have hVB : OwnsW Wt (b + 1) b (vs 9) [N ^ (j + 1)] := hV9
      replace kN0 := kN0.next hBt
      replace hD := hD.next hBt
      replace hb0 : Below b w _ := below_step hBt hbW hb0
      replace hbW := Nat.le_trans hbW hBt.size
      replace hbdW := Nat.le_trans hbdW hBt.size
      have hgd : b + 1 ≤ g := hgb.out
      go_wp2_with (at_builtin; refine wpList_appW rfl _ _ rfl (b + 1) b _ (.slice (some ⟨g, 0, none⟩) (j + 1) cap) _ (pwL N (j + 1)) (N ^ (j + 1)) rfl rfl hD hVB hbdW (by rw [pwL_len]; omega) ?_; intro v9 W9 hD9 hO9 hF9)
      rw [← HX.out] at hD9
      obtain ⟨g9, cap9, rfl, _, _⟩ := hD9.addr (by rw [pwL_len]; omega)
      rw [pwL_len] at hD9 ⊢
      obtain ⟨lN, kN1, rN, cN⟩ := id kN0
      have hN9 : BlkW b0 b N W9 := kN0.app hD hO9 (by simp [Value.ownBlock]; omega)
      have hb9 : Below b w W9 := hO9.belowGe hb0 hbW (by simp [Value.ownBlock]; omega)
      have hs9 := Nat.le_trans hbdW hO9.size
      clear hO9 hF9 hD kN0 kN1 rN cN
      go_wp2
      go_roundw
      case rel => exact ⟨j + 1 + 1, g9, cap9, rfl, by omega, by omega, hD9, hN9, hs9, hb9⟩
      case measure => simp; omega
    · obtain rfl : k = 4 := by omega
      go_wp2
      have eb := HBW.out
      subst eb
      refine bodyPost_ret (v := .slice (some ⟨g, 0, none⟩) 4 cap) (by simp [results, Tryz.results105, go_sem]) rfl ?_
      obtain ⟨L, o1, o2⟩ := hD
      exact ⟨_, rfl, ⟨L, ⟨o1.1, o1.2.imp id fun ⟨g, c, cur, q1, q2, q3⟩ => ⟨g, c, cur, q1, Nat.le_trans (Nat.le_succ _) q2, q3⟩⟩, o2⟩, hb0⟩
end Go.Proofs.YtgjdgcmmlfmhmaaGreatDoor

/- DwN -/
namespace Go.Proofs.YtgjdgcmmlfmhmaaGreatDoor
open Go.RowKit

theorem OwnsW.le {w : World} {base b base' b' : Nat} {v : Value} {Ns : List Int} (h : OwnsW w base b v Ns) (h1 : base' ≤ base) (h2 : b' ≤ b) : OwnsW w base' b' v Ns := by
  obtain ⟨L, k1, kl, k2⟩ := h
  refine ⟨L, ⟨k1.1, k1.2.imp id fun ⟨g, c, cur, q1, q2, q3⟩ => ⟨g, c, cur, q1, Nat.le_trans h1 q2, q3⟩⟩, kl, fun i a c => ⟨(k2 i a c).1, (k2 i a c).2.le h2⟩⟩
theorem dn_ev (a b c d e : Int) : a * (b * c ^ 2 + -(d * e ^ 2)) = a * (b * (c * c) - d * (e * e)) := by grind
theorem dn_o0 (a b c d G : Int) : G * (a * b ^ 3) + -(c * d ^ 3) = a * (b * b * b) * G - c * (d * d * d) := by grind
theorem dn_o1 (a b c d G : Int) : a * b ^ 3 + -(G * (c * d ^ 3)) = a * (b * b * b) - c * (d * d * d) * G := by grind
set_option maxHeartbeats 4000000 in
set_option maxRecDepth 100000 in
theorem c_dpNext (G : Int) (xs : List Int) (k base b0 : Nat) (v f : Value) (w : World) (hk : 5 ≤ k ∧ k ≤ 12) (hl : xs.length = k) (hD : OwnsW w base b0 v xs) (hf : Wh b0 G f w) (hzG : Sz 5 G) (hz0 : ∀ i, Sz 3000 (eat xs i)) :
    Calls Tryz.prog 109 #[v, f, .int .i64 k] w (WhP (dwN G xs k) w) := by
  have hz := Lib.hid hz0
  obtain ⟨g, cap, rfl, _, _⟩ := hD.addr (by omega)
  rw [hl] at hD ⊢
  obtain ⟨hke, hgb0, HE⟩ := hD.elt (by omega)
  clear hke hgb0 hD
  obtain ⟨lf, rfl, hr, hc1⟩ := hf.cell
  have hB0 : Below w.heap.size w ((w.alloc (.cells #[.bool (decide (G < 0)), lf] 37)).alloc (.cells #[.bool false, .slice none 0 0] 37)) := ((Below.refl _ _).alloc (Nat.le_refl _) _).alloc (by simp) _
  have kG : BlkW b0 w.heap.size G ((w.alloc (.cells #[.bool (decide (G < 0)), lf] 37)).alloc (.cells #[.bool false, .slice none 0 0] 37)) := ⟨lf, (Blk.new w _ _).alloc _, hr.below hB0, hc1⟩
  have kR := Blk.new (w.alloc (.cells #[.bool (decide (G < 0)), lf] 37)) #[.bool false, .slice none 0 0] 37
  replace HE := HE.next hB0
  have hW0 : ((w.alloc (.cells #[.bool (decide (G < 0)), lf] 37)).alloc (.cells #[.bool false, .slice none 0 0] 37)).heap.size = w.heap.size + 2 := by simp
  simp only [World.size_alloc] at kR
  obtain ⟨b, hb⟩ : ∃ b, w.heap.size = b := ⟨_, rfl⟩
  obtain ⟨K, hK⟩ : ∃ K, dwN G xs k = K := ⟨_, rfl⟩
  rw [hK]
  have HK := Lib.hid hK
  obtain ⟨m, hm⟩ : ∃ m, m = k / 2 := ⟨_, rfl⟩
  have HN : Hid (K = if k % 2 = 0 then eat xs m * (eat xs (m + 2) * (eat xs (m - 1) * eat xs (m - 1)) - eat xs (m - 2) * (eat xs (m + 1) * eat xs (m + 1))) else if m % 2 = 0 then eat xs (m + 2) * (eat xs m * eat xs m * eat xs m) * G - eat xs (m - 1) * (eat xs (m + 1) * eat xs (m + 1) * eat xs (m + 1)) else eat xs (m + 2) * (eat xs m * eat xs m * eat xs m) - eat xs (m - 1) * (eat xs (m + 1) * eat xs (m + 1) * eat xs (m + 1)) * G) := by
    show _ = _
    rw [← hK, hm]; rfl
  have hkm : (k : Int) / 2 = (m : Int) := by omega
  have hm2 : 2 ≤ m ∧ m + 2 < k := by omega
  have hk12 : k ≤ 12 := hk.2
  have h5 : 5 ≤ k := hk.1
  clear hk
  by_cases he : k % 2 = 0
  · have hkI : (k : Int) % 2 = 0 := by omega
    obtain ⟨P, hP⟩ : ∃ P, eat xs (m + 2) * (eat xs (m - 1)) ^ 2 = P := ⟨_, rfl⟩
    obtain ⟨Q, hQ⟩ : ∃ Q, eat xs (m - 2) * (eat xs (m + 1)) ^ 2 = Q := ⟨_, rfl⟩
    obtain ⟨I, hI⟩ : ∃ I, P + -Q = I := ⟨_, rfl⟩
    have HKK : Hid (eat xs m * I = K) := by
      show _ = _
      rw [HN.out, if_pos he, ← hI, ← hP, ← hQ]
      exact dn_ev _ _ _ _ _
    have zP : Sz 10000 P := by
      rw [← hP]
      exact ((hz.out _).mul (pw_sz (hz.out _) 2)).mono (by omega)
    have zQ : Sz 10000 Q := by
      rw [← hQ]
      exact ((hz.out _).mul (pw_sz (hz.out _) 2)).mono (by omega)
    have zI : Sz 10001 I := by
      rw [← hI, ← Int.sub_eq_add_neg]
      exact zP.sub zQ
    have HP := Lib.hid hP
    have HQ := Lib.hid hQ
    have HI := Lib.hid hI
    clear hP hQ hI HN
    have hP2 : Hid (∀ a c w, WhR (eat xs (m + 2)) a w → WhR ((eat xs (m - 1)) ^ 2) c w → Calls Tryz.prog 108 #[a, c] w (WhP P w)) := fun a c w h1 h2 => HP.out ▸ c_bgMul _ _ a c (Nat.le_trans (hz.out _).len (by omega)) (Nat.le_trans (pw_sz (hz.out _) 2).len (by omega)) w h1 h2
    have hQ2 : Hid (∀ a c w, WhR (eat xs (m - 2)) a w → WhR ((eat xs (m + 1)) ^ 2) c w → Calls Tryz.prog 108 #[a, c] w (WhP Q w)) := fun a c w h1 h2 => HQ.out ▸ c_bgMul _ _ a c (Nat.le_trans (hz.out _).len (by omega)) (Nat.le_trans (pw_sz (hz.out _) 2).len (by omega)) w h1 h2
    have hI2 : Hid (∀ a c w, WhR P a w → WhR Q c w → Calls Tryz.prog 90 #[a, c] w (WhP I w)) := fun a c w h1 h2 => HI.out ▸ c_bgSub P Q a c (Nat.le_trans zP.len (by omega)) (Nat.le_trans zQ.len (by omega)) w h1 h2
    have hK2 : Hid (∀ a c w, WhR (eat xs m) a w → WhR I c w → Calls Tryz.prog 108 #[a, c] w (WhP K w)) := fun a c w h1 h2 => HKK.out ▸ c_bgMul (eat xs m) I a c (Nat.le_trans (hz.out _).len (by omega)) (Nat.le_trans zI.len (by omega)) w h1 h2
    clear HP HQ HI HKK zP zQ zI
    go_enter Tryz.func109, Tryz.ntmps109
    go_upto_region 1 with (fail)
    generalize (w.alloc _).alloc _ = W at *
    rw [hb] at kG kR hB0 hW0
    have HBW := Lib.hid hb
    generalize hrR : b + 1 = rR at kR ⊢
    have hbR : b < rR := by omega
    have hbW : b ≤ W.heap.size := by omega
    have hbdW : rR + 1 ≤ W.heap.size := by omega
    have hb0 := hB0
    clear hb hW0 hrR hm hl hr hc1 hf hB0 hK hz0
    go_upto_region 9 with (fail)
    refine wp_region_tab 15 [14] [(14, 10), (0, 56), (1, 57), (2, 58), (3, 59), (4, 60), (5, 61), (6, 62), (7, 63), (8, 64), (9, 65), (10, 66), (11, 67), (12, 68), (13, 69)] [IsV (.slice (some ⟨g, 0, none⟩) k cap), IsV (.int .i64 (m : Int)), IsV (.int .i64 ((m + 2 : Nat) : Int)), IsV (.pointer (some ⟨g, (m + 2) * 2, none⟩)), Wh b0 (eat xs (m + 2)), IsV (.slice (some ⟨g, 0, none⟩) k cap), IsV (.int .i64 (m : Int)), IsV (.int .i64 ((m - 1 : Nat) : Int)), IsV (.pointer (some ⟨g, (m - 1) * 2, none⟩)), Wh b0 (eat xs (m - 1)), (fun v w => OwnsW w b b v (pwL (eat xs (m - 1)) 4)), IsE b 2 (pwL (eat xs (m - 1)) 4), Wh b ((eat xs (m - 1)) ^ 2), Wh b P, PA W.heap.size #[.bool false, .slice none 0 0] 37] (by kernel_rfl) (by kernel_rfl) (by kernel_rfl) ⟨⟨_, _, _, rfl⟩, trivial⟩ ⟨IsV.closed _, IsV.closed _, IsV.closed _, IsV.closed _, Wh.closed _ _, IsV.closed _, IsV.closed _, IsV.closed _, IsV.closed _, Wh.closed _ _, fun v => OwnsW.closed b b v _, fun v => IsE.closed b 2 _ v, Wh.closed _ _, Wh.closed _ _, PA.closed _ _ _, trivial⟩ ⟨?_, ?_, ?_, ?_, ?_, ?_, ?_, ?_, ?_, ?_, ?_, ?_, ?_, ?_, ?_, trivial⟩ ?_
    · refine StepT.q _ (by rfl) (by rfl) fun ρ w' H => ?_
      exact OpTo.move _ rfl (H.bas 0 (by kernel_rfl))
    · refine StepT.q _ (by rfl) (by rfl) fun ρ w' H => ?_
      exact OpTo.move _ rfl (H.bas 7 (by kernel_rfl))
    · refine StepT.q _ (by rfl) (by rfl) fun ρ w' H => ?_
      obtain ⟨v1, e1, p1⟩ := H.dep 1 57 (by kernel_rfl)
      obtain rfl : v1 = .int .i64 (m : Int) := p1
      exact op_addN (c := 2) _ _ rfl e1 (H.con _) (by omega)
    · refine StepT.q _ (by rfl) (by rfl) fun ρ w' H => ?_
      obtain ⟨v0, e0, p0⟩ := H.dep 0 56 (by kernel_rfl)
      obtain rfl : v0 = .slice (some ⟨g, 0, none⟩) k cap := p0
      obtain ⟨v2, e2, p2⟩ := H.dep 2 58 (by kernel_rfl)
      obtain rfl : v2 = .int .i64 ((m + 2 : Nat) : Int) := p2
      exact op_idxW _ _ rfl e0 e2 (by omega)
    · refine StepT.q _ (by rfl) (by rfl) fun ρ w' H => ?_
      obtain ⟨v3, e3, p3⟩ := H.dep 3 59 (by kernel_rfl)
      obtain rfl : v3 = .pointer (some ⟨g, (m + 2) * 2, none⟩) := p3
      exact op_eltX _ rfl e3 (HE.next H.bel) (by omega)
    · refine StepT.q _ (by rfl) (by rfl) fun ρ w' H => ?_
      exact OpTo.move _ rfl (H.bas 0 (by kernel_rfl))
    · refine StepT.q _ (by rfl) (by rfl) fun ρ w' H => ?_
      exact OpTo.move _ rfl (H.bas 7 (by kernel_rfl))
    · refine StepT.q _ (by rfl) (by rfl) fun ρ w' H => ?_
      obtain ⟨v6, e6, p6⟩ := H.dep 6 62 (by kernel_rfl)
      obtain rfl : v6 = .int .i64 (m : Int) := p6
      exact op_subN (c := 1) _ _ rfl e6 (H.con _) (by omega) (by omega)
    · refine StepT.q _ (by rfl) (by rfl) fun ρ w' H => ?_
      obtain ⟨v5, e5, p5⟩ := H.dep 5 61 (by kernel_rfl)
      obtain rfl : v5 = .slice (some ⟨g, 0, none⟩) k cap := p5
      obtain ⟨v7, e7, p7⟩ := H.dep 7 63 (by kernel_rfl)
      obtain rfl : v7 = .int .i64 ((m - 1 : Nat) : Int) := p7
      exact op_idxW _ _ rfl e5 e7 (by omega)
    · refine StepT.q _ (by rfl) (by rfl) fun ρ w' H => ?_
      obtain ⟨v8, e8, p8⟩ := H.dep 8 64 (by kernel_rfl)
      obtain rfl : v8 = .pointer (some ⟨g, (m - 1) * 2, none⟩) := p8
      exact op_eltX _ rfl e8 (HE.next H.bel) (by omega)
    · refine StepT.q _ (by rfl) (by rfl) fun ρ w' H => ?_
      obtain ⟨v9, e9, p9⟩ := H.dep 9 65 (by kernel_rfl)
      have p9 : (Wh b0 (eat xs (m - 1))) v9 w' := p9
      exact OpTo.call 105 #[v9] _ _ _ rfl (H.fn 105) (enters_of Tryz.func105 (by kernel_rfl) rfl) (by simp [e9]) ((c_dpPowers 3000 (by omega) b0 (eat xs (m - 1)) v9 w' p9 (hz.out _)).mono fun e w2 ⟨v, h1, h2, h3⟩ => ⟨v, h1, h3, h2.le (Nat.le_trans hbW H.bel.size) (Nat.le_trans hbW H.bel.size)⟩)
    · refine StepT.q _ (by rfl) (by rfl) fun ρ w' H => ?_
      obtain ⟨v10, e10, p10⟩ := H.dep 10 66 (by kernel_rfl)
      have p10 : ((fun v w => OwnsW w b b v (pwL (eat xs (m - 1)) 4))) v10 w' := p10
      exact op_idxE (i := 2) _ _ rfl (by rw [e10]; exact p10) (H.con _) (by rw [pwL_len]; omega)
    · refine StepT.q _ (by rfl) (by rfl) fun ρ w' H => ?_
      obtain ⟨v11, e11, p11⟩ := H.dep 11 67 (by kernel_rfl)
      have p11 : (IsE b 2 (pwL (eat xs (m - 1)) 4)) v11 w' := p11
      exact pwL_get (eat xs (m - 1)) 4 2 (by omega) ▸ op_ldE _ rfl (by rw [e11]; exact p11) (by rw [pwL_len]; omega)
    · refine StepT.q _ (by rfl) (by rfl) fun ρ w' H => ?_
      obtain ⟨v4, e4, p4⟩ := H.dep 4 60 (by kernel_rfl)
      have p4 : (Wh b0 (eat xs (m + 2))) v4 w' := p4
      obtain ⟨v12, e12, p12⟩ := H.dep 12 68 (by kernel_rfl)
      have p12 : (Wh b ((eat xs (m - 1)) ^ 2)) v12 w' := p12
      exact OpTo.call 108 #[v4, v12] _ _ _ rfl (H.fn 108) (enters_of Tryz.func108 (by kernel_rfl) rfl) (by simp [e4, e12]) ((hP2.out v4 v12 w' p4.rd p12.rd).mono fun e w2 ⟨v, h1, h2, h3⟩ => ⟨v, h1, h3, h2.le (Nat.le_trans hbW H.bel.size)⟩)
    · refine StepT.a _ (by rfl) fun ρ w' H => ?_
      exact OpTo.alloc rfl (fun w => by simp [go_sem]) H.bel.size
    intro vs Wt hBt hDt
    have hV13 : (Wh b P) (vs 13) Wt := hDt.1 13 (by omega)
    have hV14 : (PA W.heap.size #[.bool false, .slice none 0 0] 37) (vs 14) Wt := hDt.1 14 (by omega)
    obtain ⟨r10, ea10, hr10, kr10⟩ := hV14
    clear hDt
    simp only [mergeS, Nat.reduceBEq, cond_true, cond_false, Nat.reduceAdd, List.drop_succ_cons, List.drop_zero, ea10]
    obtain ⟨lv10, ev10, rv10, cv10⟩ := hV13.cell
    obtain ⟨sl10, sc10, rfl, _⟩ := id rv10.1
    simp only [ev10]
    have x0 : Wt.cell? ⟨r10, 0, none⟩ = some (.bool false) := kr10.cell 0
    have x1 : Wt.cell? ⟨r10, 1, none⟩ = some (.slice none 0 0) := kr10.cell 1
    have x2 := kr10.frozen 0
    have x3 := kr10.frozen 1
    have x4 := kr10.lt
    have kP : BlkW b r10 (P) ((Wt.setCell ⟨r10, 0, none⟩ (.bool (decide (P < 0)))).setCell ⟨r10, 1, none⟩ (.slice sl10 (dg (P).natAbs).length sc10)) := BlkW.put kr10 rfl rv10 cv10
    have hBf : Below W.heap.size W ((Wt.setCell ⟨r10, 0, none⟩ (.bool (decide (P < 0)))).setCell ⟨r10, 1, none⟩ (.slice sl10 (dg (P).natAbs).length sc10)) := (hBt.setCell hr10 _).setCell hr10 _
    replace kG := kG.next hBf
    replace kR := kR.next hBf
    replace HE := HE.next hBf
    replace hbdW := Nat.le_trans hbdW hBf.size
    replace hb0 : Below b w _ := below_step hBf hbW hb0
    have q10 := hr10
    replace hbW := Nat.le_trans hbW hBf.size
    clear hV13 hBt kr10 ev10 rv10 cv10
    go_upto_region 10 with (fail)
    generalize (World.setCell (World.setCell _ _ _) _ _) = W3 at *
    clear x0 x1 x2 x3 x4 hBf hr10
    refine wp_region_tab 15 [14] [(14, 11), (0, 70), (1, 71), (2, 72), (3, 73), (4, 74), (5, 75), (6, 76), (7, 77), (8, 78), (9, 79), (10, 80), (11, 81), (12, 82), (13, 83)] [IsV (.slice (some ⟨g, 0, none⟩) k cap), IsV (.int .i64 (m : Int)), IsV (.int .i64 ((m - 2 : Nat) : Int)), IsV (.pointer (some ⟨g, (m - 2) * 2, none⟩)), Wh b0 (eat xs (m - 2)), IsV (.slice (some ⟨g, 0, none⟩) k cap), IsV (.int .i64 (m : Int)), IsV (.int .i64 ((m + 1 : Nat) : Int)), IsV (.pointer (some ⟨g, (m + 1) * 2, none⟩)), Wh b0 (eat xs (m + 1)), (fun v w => OwnsW w b b v (pwL (eat xs (m + 1)) 4)), IsE b 2 (pwL (eat xs (m + 1)) 4), Wh b ((eat xs (m + 1)) ^ 2), Wh b Q, PA W3.heap.size #[.bool false, .slice none 0 0] 37] (by kernel_rfl) (by kernel_rfl) (by kernel_rfl) ⟨⟨_, _, _, rfl⟩, trivial⟩ ⟨IsV.closed _, IsV.closed _, IsV.closed _, IsV.closed _, Wh.closed _ _, IsV.closed _, IsV.closed _, IsV.closed _, IsV.closed _, Wh.closed _ _, fun v => OwnsW.closed b b v _, fun v => IsE.closed b 2 _ v, Wh.closed _ _, Wh.closed _ _, PA.closed _ _ _, trivial⟩ ⟨?_, ?_, ?_, ?_, ?_, ?_, ?_, ?_, ?_, ?_, ?_, ?_, ?_, ?_, ?_, trivial⟩ ?_
    · refine StepT.q _ (by rfl) (by rfl) fun ρ w' H => ?_
      exact OpTo.move _ rfl (H.bas 0 (by kernel_rfl))
    · refine StepT.q _ (by rfl) (by rfl) fun ρ w' H => ?_
      exact OpTo.move _ rfl (H.bas 7 (by kernel_rfl))
    · refine StepT.q _ (by rfl) (by rfl) fun ρ w' H => ?_
      obtain ⟨v1, e1, p1⟩ := H.dep 1 71 (by kernel_rfl)
      obtain rfl : v1 = .int .i64 (m : Int) := p1
      exact op_subN (c := 2) _ _ rfl e1 (H.con _) (by omega) (by omega)
    · refine StepT.q _ (by rfl) (by rfl) fun ρ w' H => ?_
      obtain ⟨v0, e0, p0⟩ := H.dep 0 70 (by kernel_rfl)
      obtain rfl : v0 = .slice (some ⟨g, 0, none⟩) k cap := p0
      obtain ⟨v2, e2, p2⟩ := H.dep 2 72 (by kernel_rfl)
      obtain rfl : v2 = .int .i64 ((m - 2 : Nat) : Int) := p2
      exact op_idxW _ _ rfl e0 e2 (by omega)
    · refine StepT.q _ (by rfl) (by rfl) fun ρ w' H => ?_
      obtain ⟨v3, e3, p3⟩ := H.dep 3 73 (by kernel_rfl)
      obtain rfl : v3 = .pointer (some ⟨g, (m - 2) * 2, none⟩) := p3
      exact op_eltX _ rfl e3 (HE.next H.bel) (by omega)
    · refine StepT.q _ (by rfl) (by rfl) fun ρ w' H => ?_
      exact OpTo.move _ rfl (H.bas 0 (by kernel_rfl))
    · refine StepT.q _ (by rfl) (by rfl) fun ρ w' H => ?_
      exact OpTo.move _ rfl (H.bas 7 (by kernel_rfl))
    · refine StepT.q _ (by rfl) (by rfl) fun ρ w' H => ?_
      obtain ⟨v6, e6, p6⟩ := H.dep 6 76 (by kernel_rfl)
      obtain rfl : v6 = .int .i64 (m : Int) := p6
      exact op_addN (c := 1) _ _ rfl e6 (H.con _) (by omega)
    · refine StepT.q _ (by rfl) (by rfl) fun ρ w' H => ?_
      obtain ⟨v5, e5, p5⟩ := H.dep 5 75 (by kernel_rfl)
      obtain rfl : v5 = .slice (some ⟨g, 0, none⟩) k cap := p5
      obtain ⟨v7, e7, p7⟩ := H.dep 7 77 (by kernel_rfl)
      obtain rfl : v7 = .int .i64 ((m + 1 : Nat) : Int) := p7
      exact op_idxW _ _ rfl e5 e7 (by omega)
    · refine StepT.q _ (by rfl) (by rfl) fun ρ w' H => ?_
      obtain ⟨v8, e8, p8⟩ := H.dep 8 78 (by kernel_rfl)
      obtain rfl : v8 = .pointer (some ⟨g, (m + 1) * 2, none⟩) := p8
      exact op_eltX _ rfl e8 (HE.next H.bel) (by omega)
    · refine StepT.q _ (by rfl) (by rfl) fun ρ w' H => ?_
      obtain ⟨v9, e9, p9⟩ := H.dep 9 79 (by kernel_rfl)
      have p9 : (Wh b0 (eat xs (m + 1))) v9 w' := p9
      exact OpTo.call 105 #[v9] _ _ _ rfl (H.fn 105) (enters_of Tryz.func105 (by kernel_rfl) rfl) (by simp [e9]) ((c_dpPowers 3000 (by omega) b0 (eat xs (m + 1)) v9 w' p9 (hz.out _)).mono fun e w2 ⟨v, h1, h2, h3⟩ => ⟨v, h1, h3, h2.le (Nat.le_trans hbW H.bel.size) (Nat.le_trans hbW H.bel.size)⟩)
    · refine StepT.q _ (by rfl) (by rfl) fun ρ w' H => ?_
      obtain ⟨v10, e10, p10⟩ := H.dep 10 80 (by kernel_rfl)
      have p10 : ((fun v w => OwnsW w b b v (pwL (eat xs (m + 1)) 4))) v10 w' := p10
      exact op_idxE (i := 2) _ _ rfl (by rw [e10]; exact p10) (H.con _) (by rw [pwL_len]; omega)
    · refine StepT.q _ (by rfl) (by rfl) fun ρ w' H => ?_
      obtain ⟨v11, e11, p11⟩ := H.dep 11 81 (by kernel_rfl)
      have p11 : (IsE b 2 (pwL (eat xs (m + 1)) 4)) v11 w' := p11
      exact pwL_get (eat xs (m + 1)) 4 2 (by omega) ▸ op_ldE _ rfl (by rw [e11]; exact p11) (by rw [pwL_len]; omega)
    · refine StepT.q _ (by rfl) (by rfl) fun ρ w' H => ?_
      obtain ⟨v4, e4, p4⟩ := H.dep 4 74 (by kernel_rfl)
      have p4 : (Wh b0 (eat xs (m - 2))) v4 w' := p4
      obtain ⟨v12, e12, p12⟩ := H.dep 12 82 (by kernel_rfl)
      have p12 : (Wh b ((eat xs (m + 1)) ^ 2)) v12 w' := p12
      exact OpTo.call 108 #[v4, v12] _ _ _ rfl (H.fn 108) (enters_of Tryz.func108 (by kernel_rfl) rfl) (by simp [e4, e12]) ((hQ2.out v4 v12 w' p4.rd p12.rd).mono fun e w2 ⟨v, h1, h2, h3⟩ => ⟨v, h1, h3, h2.le (Nat.le_trans hbW H.bel.size)⟩)
    · refine StepT.a _ (by rfl) fun ρ w' H => ?_
      exact OpTo.alloc rfl (fun w => by simp [go_sem]) H.bel.size
    intro vs Wt hBt hDt
    have hV13 : (Wh b Q) (vs 13) Wt := hDt.1 13 (by omega)
    have hV14 : (PA W3.heap.size #[.bool false, .slice none 0 0] 37) (vs 14) Wt := hDt.1 14 (by omega)
    obtain ⟨r11, ea11, hr11, kr11⟩ := hV14
    clear hDt
    simp only [mergeS, Nat.reduceBEq, cond_true, cond_false, Nat.reduceAdd, List.drop_succ_cons, List.drop_zero, ea11]
    obtain ⟨lv11, ev11, rv11, cv11⟩ := hV13.cell
    obtain ⟨sl11, sc11, rfl, _⟩ := id rv11.1
    simp only [ev11]
    have x0 : Wt.cell? ⟨r11, 0, none⟩ = some (.bool false) := kr11.cell 0
    have x1 : Wt.cell? ⟨r11, 1, none⟩ = some (.slice none 0 0) := kr11.cell 1
    have x2 := kr11.frozen 0
    have x3 := kr11.frozen 1
    have x4 := kr11.lt
    have kQ : BlkW b r11 (Q) ((Wt.setCell ⟨r11, 0, none⟩ (.bool (decide (Q < 0)))).setCell ⟨r11, 1, none⟩ (.slice sl11 (dg (Q).natAbs).length sc11)) := BlkW.put kr11 rfl rv11 cv11
    have hBf : Below W3.heap.size W3 ((Wt.setCell ⟨r11, 0, none⟩ (.bool (decide (Q < 0)))).setCell ⟨r11, 1, none⟩ (.slice sl11 (dg (Q).natAbs).length sc11)) := (hBt.setCell hr11 _).setCell hr11 _
    replace kG := kG.next hBf
    replace kR := kR.next hBf
    replace HE := HE.next hBf
    replace hbdW := Nat.le_trans hbdW hBf.size
    replace kP := kP.next hBf
    replace hb0 : Below b w _ := below_step hBf hbW hb0
    have q11 := hr11
    replace hbW := Nat.le_trans hbW hBf.size
    clear hV13 hBt kr11 ev11 rv11 cv11
    go_upto_region 11 with (fail)
    generalize (World.setCell (World.setCell _ _ _) _ _) = W4 at *
    clear x0 x1 x2 x3 x4 hBf hr11
    refine wp_region_tab 8 [] [(0, 84), (1, 85), (2, 86), (3, 87), (4, 88), (5, 89), (6, 90), (7, 91)] [IsV (.slice (some ⟨g, 0, none⟩) k cap), IsV (.int .i64 (m : Int)), IsV (.pointer (some ⟨g, (m) * 2, none⟩)), Wh b0 (eat xs m), Wh b P, Wh b Q, Wh b I, Wh b K] (by kernel_rfl) (by kernel_rfl) (by kernel_rfl) trivial ⟨IsV.closed _, IsV.closed _, IsV.closed _, Wh.closed _ _, Wh.closed _ _, Wh.closed _ _, Wh.closed _ _, Wh.closed _ _, trivial⟩ ⟨?_, ?_, ?_, ?_, ?_, ?_, ?_, ?_, trivial⟩ ?_
    · refine StepT.q _ (by rfl) (by rfl) fun ρ w' H => ?_
      exact OpTo.move _ rfl (H.bas 0 (by kernel_rfl))
    · refine StepT.q _ (by rfl) (by rfl) fun ρ w' H => ?_
      exact OpTo.move _ rfl (H.bas 7 (by kernel_rfl))
    · refine StepT.q _ (by rfl) (by rfl) fun ρ w' H => ?_
      obtain ⟨v0, e0, p0⟩ := H.dep 0 84 (by kernel_rfl)
      obtain rfl : v0 = .slice (some ⟨g, 0, none⟩) k cap := p0
      obtain ⟨v1, e1, p1⟩ := H.dep 1 85 (by kernel_rfl)
      obtain rfl : v1 = .int .i64 (m : Int) := p1
      exact op_idxW _ _ rfl e0 e1 (by omega)
    · refine StepT.q _ (by rfl) (by rfl) fun ρ w' H => ?_
      obtain ⟨v2, e2, p2⟩ := H.dep 2 86 (by kernel_rfl)
      obtain rfl : v2 = .pointer (some ⟨g, (m) * 2, none⟩) := p2
      exact op_eltX _ rfl e2 (HE.next H.bel) (by omega)
    · refine StepT.q _ (by rfl) (by rfl) fun ρ w' H => ?_
      have hx : ρ (.tmp 10) = .pointer (some ⟨r10, 0, none⟩) := H.bas 10 (by kernel_rfl); exact op_ldW _ rfl hx (kP.next H.bel)
    · refine StepT.q _ (by rfl) (by rfl) fun ρ w' H => ?_
      have hx : ρ (.tmp 11) = .pointer (some ⟨r11, 0, none⟩) := H.bas 11 (by kernel_rfl); exact op_ldW _ rfl hx (kQ.next H.bel)
    · refine StepT.q _ (by rfl) (by rfl) fun ρ w' H => ?_
      obtain ⟨v4, e4, p4⟩ := H.dep 4 88 (by kernel_rfl)
      have p4 : (Wh b P) v4 w' := p4
      obtain ⟨v5, e5, p5⟩ := H.dep 5 89 (by kernel_rfl)
      have p5 : (Wh b Q) v5 w' := p5
      exact OpTo.call 90 #[v4, v5] _ _ _ rfl (H.fn 90) (enters_of Tryz.func90 (by kernel_rfl) rfl) (by simp [e4, e5]) ((hI2.out v4 v5 w' p4.rd p5.rd).mono fun e w2 ⟨v, h1, h2, h3⟩ => ⟨v, h1, h3, h2.le (Nat.le_trans hbW H.bel.size)⟩)
    · refine StepT.q _ (by rfl) (by rfl) fun ρ w' H => ?_
      obtain ⟨v3, e3, p3⟩ := H.dep 3 87 (by kernel_rfl)
      have p3 : (Wh b0 (eat xs m)) v3 w' := p3
      obtain ⟨v6, e6, p6⟩ := H.dep 6 90 (by kernel_rfl)
      have p6 : (Wh b I) v6 w' := p6
      exact OpTo.call 108 #[v3, v6] _ _ _ rfl (H.fn 108) (enters_of Tryz.func108 (by kernel_rfl) rfl) (by simp [e3, e6]) ((hK2.out v3 v6 w' p3.rd p6.rd).mono fun e w2 ⟨v, h1, h2, h3⟩ => ⟨v, h1, h3, h2.le (Nat.le_trans hbW H.bel.size)⟩)
    intro vs Wt hBt hDt
    have hV7 : (Wh b K) (vs 7) Wt := hDt.1 7 (by omega)
    clear hDt
    simp only [mergeS, Nat.reduceBEq, cond_true, cond_false, Nat.reduceAdd, List.drop_succ_cons, List.drop_zero]
    obtain ⟨lvU, evU, rvU, cvU⟩ := hV7.cell
    obtain ⟨slU, scU, rfl, _⟩ := id rvU.1
    simp only [evU]
    have kR1 := kR.next hBt
    replace hb0 : Below b w _ := below_step hBt hbW hb0
    replace hbW := Nat.le_trans hbW hBt.size
    have x0 : Wt.cell? ⟨rR, 0, none⟩ = some (.bool false) := kR1.cell 0
    have x1 : Wt.cell? ⟨rR, 1, none⟩ = some (.slice none 0 0) := kR1.cell 1
    have x2 := kR1.frozen 0
    have x3 := kR1.frozen 1
    have x4 := kR1.lt
    have k9 := (kR1.set 0 (.bool (decide (K < 0)))).set 1 (.slice slU (dg (K).natAbs).length scU)
    have hB9 : Below b w ((Wt.setCell ⟨rR, 0, none⟩ (.bool (decide (K < 0)))).setCell ⟨rR, 1, none⟩ (.slice slU (dg (K).natAbs).length scU)) := (hb0.setCell (by show b ≤ rR; omega) _).setCell (by show b ≤ rR; omega) _
    have ho8 : RdO ((Wt.setCell ⟨rR, 0, none⟩ (.bool (decide (K < 0)))).setCell ⟨rR, 1, none⟩ (.slice slU (dg (K).natAbs).length scU)) b (.slice slU (dg (K).natAbs).length scU) (dg (K).natAbs) := rvU.far (by decide) kR1 (over_set2 _ _ _ _)
    clear kR kR1 hb0 hV7 evU rvU cvU hBt
    go_wp2
    generalize (World.setCell (World.setCell _ _ _) _ _) = w9 at hB9 k9 ho8 ⊢
    have q0 : w9.cell? ⟨rR, 0, none⟩ = some (.bool (decide (K < 0))) := k9.cell 0
    have q1 : w9.cell? ⟨rR, 1, none⟩ = some (.slice slU (dg (K).natAbs).length scU) := k9.cell 1
    refine bodyPost_ret (v := .agg #[.bool (decide (K < 0)), (.slice slU (dg (K).natAbs).length scU)]) (by simp [results, Tryz.results109, go_sem, q0, q1]) rfl ?_
    have eb := HBW.out
    subst eb
    have ek := HK.out
    subst ek
    exact ⟨_, rfl, ⟨_, rfl, ho8⟩, hB9⟩
  · have hkI : (k : Int) % 2 = 1 := by omega
    obtain ⟨P, hP⟩ : ∃ P, eat xs (m + 2) * (eat xs m) ^ 3 = P := ⟨_, rfl⟩
    obtain ⟨Q, hQ⟩ : ∃ Q, eat xs (m - 1) * (eat xs (m + 1)) ^ 3 = Q := ⟨_, rfl⟩
    have zP : Sz 13000 P := by
      rw [← hP]
      exact ((hz.out _).mul (pw_sz (hz.out _) 3)).mono (by omega)
    have zQ : Sz 13000 Q := by
      rw [← hQ]
      exact ((hz.out _).mul (pw_sz (hz.out _) 3)).mono (by omega)
    have HP := Lib.hid hP
    have HQ := Lib.hid hQ
    clear hP hQ
    have hP2 : Hid (∀ a c w, WhR (eat xs (m + 2)) a w → WhR ((eat xs m) ^ 3) c w → Calls Tryz.prog 108 #[a, c] w (WhP P w)) := fun a c w h1 h2 => HP.out ▸ c_bgMul _ _ a c (Nat.le_trans (hz.out _).len (by omega)) (Nat.le_trans (pw_sz (hz.out _) 3).len (by omega)) w h1 h2
    have hQ2 : Hid (∀ a c w, WhR (eat xs (m - 1)) a w → WhR ((eat xs (m + 1)) ^ 3) c w → Calls Tryz.prog 108 #[a, c] w (WhP Q w)) := fun a c w h1 h2 => HQ.out ▸ c_bgMul _ _ a c (Nat.le_trans (hz.out _).len (by omega)) (Nat.le_trans (pw_sz (hz.out _) 3).len (by omega)) w h1 h2
    go_enter Tryz.func109, Tryz.ntmps109
    go_upto_region 1 with (fail)
    generalize (w.alloc _).alloc _ = W at *
    rw [hb] at kG kR hB0 hW0
    have HBW := Lib.hid hb
    generalize hrR : b + 1 = rR at kR ⊢
    have hbR : b < rR := by omega
    have hbW : b ≤ W.heap.size := by omega
    have hbdW : rR + 1 ≤ W.heap.size := by omega
    have hb0 := hB0
    clear hb hW0 hrR hm hl hr hc1 hf hB0 hK hz0
    go_upto_region 3 with (fail)
    have hbd0 : rR + 1 ≤ W.heap.size := hbdW
    refine wp_region_tab 14 [13] [(13, 8), (0, 17), (1, 18), (2, 19), (3, 20), (4, 21), (5, 22), (6, 23), (7, 24), (8, 25), (9, 26), (10, 27), (11, 28), (12, 29)] [IsV (.slice (some ⟨g, 0, none⟩) k cap), IsV (.int .i64 (m : Int)), IsV (.int .i64 ((m + 2 : Nat) : Int)), IsV (.pointer (some ⟨g, (m + 2) * 2, none⟩)), Wh b0 (eat xs (m + 2)), IsV (.slice (some ⟨g, 0, none⟩) k cap), IsV (.int .i64 (m : Int)), IsV (.pointer (some ⟨g, (m) * 2, none⟩)), Wh b0 (eat xs m), (fun v w => OwnsW w b b v (pwL (eat xs m) 4)), IsE b 3 (pwL (eat xs m) 4), Wh b ((eat xs m) ^ 3), Wh b P, PA W.heap.size #[.bool false, .slice none 0 0] 37] (by kernel_rfl) (by kernel_rfl) (by kernel_rfl) ⟨⟨_, _, _, rfl⟩, trivial⟩ ⟨IsV.closed _, IsV.closed _, IsV.closed _, IsV.closed _, Wh.closed _ _, IsV.closed _, IsV.closed _, IsV.closed _, Wh.closed _ _, fun v => OwnsW.closed b b v _, fun v => IsE.closed b 3 _ v, Wh.closed _ _, Wh.closed _ _, PA.closed _ _ _, trivial⟩ ⟨?_, ?_, ?_, ?_, ?_, ?_, ?_, ?_, ?_, ?_, ?_, ?_, ?_, ?_, trivial⟩ ?_
    · refine StepT.q _ (by rfl) (by rfl) fun ρ w' H => ?_
      exact OpTo.move _ rfl (H.bas 0 (by kernel_rfl))
    · refine StepT.q _ (by rfl) (by rfl) fun ρ w' H => ?_
      exact OpTo.move _ rfl (H.bas 7 (by kernel_rfl))
    · refine StepT.q _ (by rfl) (by rfl) fun ρ w' H => ?_
      obtain ⟨v1, e1, p1⟩ := H.dep 1 18 (by kernel_rfl)
      obtain rfl : v1 = .int .i64 (m : Int) := p1
      exact op_addN (c := 2) _ _ rfl e1 (H.con _) (by omega)
    · refine StepT.q _ (by rfl) (by rfl) fun ρ w' H => ?_
      obtain ⟨v0, e0, p0⟩ := H.dep 0 17 (by kernel_rfl)
      obtain rfl : v0 = .slice (some ⟨g, 0, none⟩) k cap := p0
      obtain ⟨v2, e2, p2⟩ := H.dep 2 19 (by kernel_rfl)
      obtain rfl : v2 = .int .i64 ((m + 2 : Nat) : Int) := p2
      exact op_idxW _ _ rfl e0 e2 (by omega)
    · refine StepT.q _ (by rfl) (by rfl) fun ρ w' H => ?_
      obtain ⟨v3, e3, p3⟩ := H.dep 3 20 (by kernel_rfl)
      obtain rfl : v3 = .pointer (some ⟨g, (m + 2) * 2, none⟩) := p3
      exact op_eltX _ rfl e3 (HE.next H.bel) (by omega)
    · refine StepT.q _ (by rfl) (by rfl) fun ρ w' H => ?_
      exact OpTo.move _ rfl (H.bas 0 (by kernel_rfl))
    · refine StepT.q _ (by rfl) (by rfl) fun ρ w' H => ?_
      exact OpTo.move _ rfl (H.bas 7 (by kernel_rfl))
    · refine StepT.q _ (by rfl) (by rfl) fun ρ w' H => ?_
      obtain ⟨v5, e5, p5⟩ := H.dep 5 22 (by kernel_rfl)
      obtain rfl : v5 = .slice (some ⟨g, 0, none⟩) k cap := p5
      obtain ⟨v6, e6, p6⟩ := H.dep 6 23 (by kernel_rfl)
      obtain rfl : v6 = .int .i64 (m : Int) := p6
      exact op_idxW _ _ rfl e5 e6 (by omega)
    · refine StepT.q _ (by rfl) (by rfl) fun ρ w' H => ?_
      obtain ⟨v7, e7, p7⟩ := H.dep 7 24 (by kernel_rfl)
      obtain rfl : v7 = .pointer (some ⟨g, (m) * 2, none⟩) := p7
      exact op_eltX _ rfl e7 (HE.next H.bel) (by omega)
    · refine StepT.q _ (by rfl) (by rfl) fun ρ w' H => ?_
      obtain ⟨v8, e8, p8⟩ := H.dep 8 25 (by kernel_rfl)
      have p8 : (Wh b0 (eat xs m)) v8 w' := p8
      exact OpTo.call 105 #[v8] _ _ _ rfl (H.fn 105) (enters_of Tryz.func105 (by kernel_rfl) rfl) (by simp [e8]) ((c_dpPowers 3000 (by omega) b0 (eat xs m) v8 w' p8 (hz.out _)).mono fun e w2 ⟨v, h1, h2, h3⟩ => ⟨v, h1, h3, h2.le (Nat.le_trans hbW H.bel.size) (Nat.le_trans hbW H.bel.size)⟩)
    · refine StepT.q _ (by rfl) (by rfl) fun ρ w' H => ?_
      obtain ⟨v9, e9, p9⟩ := H.dep 9 26 (by kernel_rfl)
      have p9 : ((fun v w => OwnsW w b b v (pwL (eat xs m) 4))) v9 w' := p9
      exact op_idxE (i := 3) _ _ rfl (by rw [e9]; exact p9) (H.con _) (by rw [pwL_len]; omega)
    · refine StepT.q _ (by rfl) (by rfl) fun ρ w' H => ?_
      obtain ⟨v10, e10, p10⟩ := H.dep 10 27 (by kernel_rfl)
      have p10 : (IsE b 3 (pwL (eat xs m) 4)) v10 w' := p10
      exact pwL_get (eat xs m) 4 3 (by omega) ▸ op_ldE _ rfl (by rw [e10]; exact p10) (by rw [pwL_len]; omega)
    · refine StepT.q _ (by rfl) (by rfl) fun ρ w' H => ?_
      obtain ⟨v4, e4, p4⟩ := H.dep 4 21 (by kernel_rfl)
      have p4 : (Wh b0 (eat xs (m + 2))) v4 w' := p4
      obtain ⟨v11, e11, p11⟩ := H.dep 11 28 (by kernel_rfl)
      have p11 : (Wh b ((eat xs m) ^ 3)) v11 w' := p11
      exact OpTo.call 108 #[v4, v11] _ _ _ rfl (H.fn 108) (enters_of Tryz.func108 (by kernel_rfl) rfl) (by simp [e4, e11]) ((hP2.out v4 v11 w' p4.rd p11.rd).mono fun e w2 ⟨v, h1, h2, h3⟩ => ⟨v, h1, h3, h2.le (Nat.le_trans hbW H.bel.size)⟩)
    · refine StepT.a _ (by rfl) fun ρ w' H => ?_
      exact OpTo.alloc rfl (fun w => by simp [go_sem]) H.bel.size
    intro vs Wt hBt hDt
    have hV12 : (Wh b P) (vs 12) Wt := hDt.1 12 (by omega)
    have hV13 : (PA W.heap.size #[.bool false, .slice none 0 0] 37) (vs 13) Wt := hDt.1 13 (by omega)
    obtain ⟨r8, ea8, hr8, kr8⟩ := hV13
    clear hDt
    simp only [mergeS, Nat.reduceBEq, cond_true, cond_false, Nat.reduceAdd, List.drop_succ_cons, List.drop_zero, ea8]
    obtain ⟨lv8, ev8, rv8, cv8⟩ := hV12.cell
    obtain ⟨sl8, sc8, rfl, _⟩ := id rv8.1
    simp only [ev8]
    have x0 : Wt.cell? ⟨r8, 0, none⟩ = some (.bool false) := kr8.cell 0
    have x1 : Wt.cell? ⟨r8, 1, none⟩ = some (.slice none 0 0) := kr8.cell 1
    have x2 := kr8.frozen 0
    have x3 := kr8.frozen 1
    have x4 := kr8.lt
    have kP : BlkW b r8 (P) ((Wt.setCell ⟨r8, 0, none⟩ (.bool (decide (P < 0)))).setCell ⟨r8, 1, none⟩ (.slice sl8 (dg (P).natAbs).length sc8)) := BlkW.put kr8 rfl rv8 cv8
    have hBf : Below W.heap.size W ((Wt.setCell ⟨r8, 0, none⟩ (.bool (decide (P < 0)))).setCell ⟨r8, 1, none⟩ (.slice sl8 (dg (P).natAbs).length sc8)) := (hBt.setCell hr8 _).setCell hr8 _
    replace kG := kG.next hBf
    replace kR := kR.next hBf
    replace HE := HE.next hBf
    replace hbdW := Nat.le_trans hbdW hBf.size
    replace hb0 : Below b w _ := below_step hBf hbW hb0
    have q8 := hr8
    replace hbW := Nat.le_trans hbW hBf.size
    clear hV12 hBt kr8 ev8 rv8 cv8
    go_upto_region 4 with (fail)
    generalize (World.setCell (World.setCell _ _ _) _ _) = W3 at *
    clear x0 x1 x2 x3 x4 hBf hr8
    have hP8 : r8 < W3.heap.size := kP.lt
    refine wp_region_tab 15 [14] [(14, 9), (0, 30), (1, 31), (2, 32), (3, 33), (4, 34), (5, 35), (6, 36), (7, 37), (8, 38), (9, 39), (10, 40), (11, 41), (12, 42), (13, 43)] [IsV (.slice (some ⟨g, 0, none⟩) k cap), IsV (.int .i64 (m : Int)), IsV (.int .i64 ((m - 1 : Nat) : Int)), IsV (.pointer (some ⟨g, (m - 1) * 2, none⟩)), Wh b0 (eat xs (m - 1)), IsV (.slice (some ⟨g, 0, none⟩) k cap), IsV (.int .i64 (m : Int)), IsV (.int .i64 ((m + 1 : Nat) : Int)), IsV (.pointer (some ⟨g, (m + 1) * 2, none⟩)), Wh b0 (eat xs (m + 1)), (fun v w => OwnsW w b b v (pwL (eat xs (m + 1)) 4)), IsE b 3 (pwL (eat xs (m + 1)) 4), Wh b ((eat xs (m + 1)) ^ 3), Wh b Q, PA W3.heap.size #[.bool false, .slice none 0 0] 37] (by kernel_rfl) (by kernel_rfl) (by kernel_rfl) ⟨⟨_, _, _, rfl⟩, trivial⟩ ⟨IsV.closed _, IsV.closed _, IsV.closed _, IsV.closed _, Wh.closed _ _, IsV.closed _, IsV.closed _, IsV.closed _, IsV.closed _, Wh.closed _ _, fun v => OwnsW.closed b b v _, fun v => IsE.closed b 3 _ v, Wh.closed _ _, Wh.closed _ _, PA.closed _ _ _, trivial⟩ ⟨?_, ?_, ?_, ?_, ?_, ?_, ?_, ?_, ?_, ?_, ?_, ?_, ?_, ?_, ?_, trivial⟩ ?_
    · refine StepT.q _ (by rfl) (by rfl) fun ρ w' H => ?_
      exact OpTo.move _ rfl (H.bas 0 (by kernel_rfl))
    · refine StepT.q _ (by rfl) (by rfl) fun ρ w' H => ?_
      exact OpTo.move _ rfl (H.bas 7 (by kernel_rfl))
    · refine StepT.q _ (by rfl) (by rfl) fun ρ w' H => ?_
      obtain ⟨v1, e1, p1⟩ := H.dep 1 31 (by kernel_rfl)
      obtain rfl : v1 = .int .i64 (m : Int) := p1
      exact op_subN (c := 1) _ _ rfl e1 (H.con _) (by omega) (by omega)
    · refine StepT.q _ (by rfl) (by rfl) fun ρ w' H => ?_
      obtain ⟨v0, e0, p0⟩ := H.dep 0 30 (by kernel_rfl)
      obtain rfl : v0 = .slice (some ⟨g, 0, none⟩) k cap := p0
      obtain ⟨v2, e2, p2⟩ := H.dep 2 32 (by kernel_rfl)
      obtain rfl : v2 = .int .i64 ((m - 1 : Nat) : Int) := p2
      exact op_idxW _ _ rfl e0 e2 (by omega)
    · refine StepT.q _ (by rfl) (by rfl) fun ρ w' H => ?_
      obtain ⟨v3, e3, p3⟩ := H.dep 3 33 (by kernel_rfl)
      obtain rfl : v3 = .pointer (some ⟨g, (m - 1) * 2, none⟩) := p3
      exact op_eltX _ rfl e3 (HE.next H.bel) (by omega)
    · refine StepT.q _ (by rfl) (by rfl) fun ρ w' H => ?_
      exact OpTo.move _ rfl (H.bas 0 (by kernel_rfl))
    · refine StepT.q _ (by rfl) (by rfl) fun ρ w' H => ?_
      exact OpTo.move _ rfl (H.bas 7 (by kernel_rfl))
    · refine StepT.q _ (by rfl) (by rfl) fun ρ w' H => ?_
      obtain ⟨v6, e6, p6⟩ := H.dep 6 36 (by kernel_rfl)
      obtain rfl : v6 = .int .i64 (m : Int) := p6
      exact op_addN (c := 1) _ _ rfl e6 (H.con _) (by omega)
    · refine StepT.q _ (by rfl) (by rfl) fun ρ w' H => ?_
      obtain ⟨v5, e5, p5⟩ := H.dep 5 35 (by kernel_rfl)
      obtain rfl : v5 = .slice (some ⟨g, 0, none⟩) k cap := p5
      obtain ⟨v7, e7, p7⟩ := H.dep 7 37 (by kernel_rfl)
      obtain rfl : v7 = .int .i64 ((m + 1 : Nat) : Int) := p7
      exact op_idxW _ _ rfl e5 e7 (by omega)
    · refine StepT.q _ (by rfl) (by rfl) fun ρ w' H => ?_
      obtain ⟨v8, e8, p8⟩ := H.dep 8 38 (by kernel_rfl)
      obtain rfl : v8 = .pointer (some ⟨g, (m + 1) * 2, none⟩) := p8
      exact op_eltX _ rfl e8 (HE.next H.bel) (by omega)
    · refine StepT.q _ (by rfl) (by rfl) fun ρ w' H => ?_
      obtain ⟨v9, e9, p9⟩ := H.dep 9 39 (by kernel_rfl)
      have p9 : (Wh b0 (eat xs (m + 1))) v9 w' := p9
      exact OpTo.call 105 #[v9] _ _ _ rfl (H.fn 105) (enters_of Tryz.func105 (by kernel_rfl) rfl) (by simp [e9]) ((c_dpPowers 3000 (by omega) b0 (eat xs (m + 1)) v9 w' p9 (hz.out _)).mono fun e w2 ⟨v, h1, h2, h3⟩ => ⟨v, h1, h3, h2.le (Nat.le_trans hbW H.bel.size) (Nat.le_trans hbW H.bel.size)⟩)
    · refine StepT.q _ (by rfl) (by rfl) fun ρ w' H => ?_
      obtain ⟨v10, e10, p10⟩ := H.dep 10 40 (by kernel_rfl)
      have p10 : ((fun v w => OwnsW w b b v (pwL (eat xs (m + 1)) 4))) v10 w' := p10
      exact op_idxE (i := 3) _ _ rfl (by rw [e10]; exact p10) (H.con _) (by rw [pwL_len]; omega)
    · refine StepT.q _ (by rfl) (by rfl) fun ρ w' H => ?_
      obtain ⟨v11, e11, p11⟩ := H.dep 11 41 (by kernel_rfl)
      have p11 : (IsE b 3 (pwL (eat xs (m + 1)) 4)) v11 w' := p11
      exact pwL_get (eat xs (m + 1)) 4 3 (by omega) ▸ op_ldE _ rfl (by rw [e11]; exact p11) (by rw [pwL_len]; omega)
    · refine StepT.q _ (by rfl) (by rfl) fun ρ w' H => ?_
      obtain ⟨v4, e4, p4⟩ := H.dep 4 34 (by kernel_rfl)
      have p4 : (Wh b0 (eat xs (m - 1))) v4 w' := p4
      obtain ⟨v12, e12, p12⟩ := H.dep 12 42 (by kernel_rfl)
      have p12 : (Wh b ((eat xs (m + 1)) ^ 3)) v12 w' := p12
      exact OpTo.call 108 #[v4, v12] _ _ _ rfl (H.fn 108) (enters_of Tryz.func108 (by kernel_rfl) rfl) (by simp [e4, e12]) ((hQ2.out v4 v12 w' p4.rd p12.rd).mono fun e w2 ⟨v, h1, h2, h3⟩ => ⟨v, h1, h3, h2.le (Nat.le_trans hbW H.bel.size)⟩)
    · refine StepT.a _ (by rfl) fun ρ w' H => ?_
      exact OpTo.alloc rfl (fun w => by simp [go_sem]) H.bel.size
    intro vs Wt hBt hDt
    have hV13 : (Wh b Q) (vs 13) Wt := hDt.1 13 (by omega)
    have hV14 : (PA W3.heap.size #[.bool false, .slice none 0 0] 37) (vs 14) Wt := hDt.1 14 (by omega)
    obtain ⟨r9, ea9, hr9, kr9⟩ := hV14
    clear hDt
    simp only [mergeS, Nat.reduceBEq, cond_true, cond_false, Nat.reduceAdd, List.drop_succ_cons, List.drop_zero, ea9]
    obtain ⟨lv9, ev9, rv9, cv9⟩ := hV13.cell
    obtain ⟨sl9, sc9, rfl, _⟩ := id rv9.1
    simp only [ev9]
    have x0 : Wt.cell? ⟨r9, 0, none⟩ = some (.bool false) := kr9.cell 0
    have x1 : Wt.cell? ⟨r9, 1, none⟩ = some (.slice none 0 0) := kr9.cell 1
    have x2 := kr9.frozen 0
    have x3 := kr9.frozen 1
    have x4 := kr9.lt
    have kQ : BlkW b r9 (Q) ((Wt.setCell ⟨r9, 0, none⟩ (.bool (decide (Q < 0)))).setCell ⟨r9, 1, none⟩ (.slice sl9 (dg (Q).natAbs).length sc9)) := BlkW.put kr9 rfl rv9 cv9
    have hBf : Below W3.heap.size W3 ((Wt.setCell ⟨r9, 0, none⟩ (.bool (decide (Q < 0)))).setCell ⟨r9, 1, none⟩ (.slice sl9 (dg (Q).natAbs).length sc9)) := (hBt.setCell hr9 _).setCell hr9 _
    replace kG := kG.next hBf
    replace kR := kR.next hBf
    replace HE := HE.next hBf
    replace hbdW := Nat.le_trans hbdW hBf.size
    replace kP := kP.next hBf
    replace hb0 : Below b w _ := below_step hBf hbW hb0
    have q9 := hr9
    replace hbW := Nat.le_trans hbW hBf.size
    clear hV13 hBt kr9 ev9 rv9 cv9
    go_upto_region 5 with (fail)
    generalize (World.setCell (World.setCell _ _ _) _ _) = W4 at *
    clear x0 x1 x2 x3 x4 hBf hr9
    clear HE
    by_cases h2 : m % 2 = 0
    · have hmI : (m : Int) % 2 = 0 := by omega
      have HKK : Hid ((G * P) + -Q = K) := by
        show _ = _
        rw [HN.out, if_neg he, if_pos h2, ← HP.out, ← HQ.out]
        exact dn_o0 _ _ _ _ _
      have zM : Sz 14000 (G * P) := (hzG.mul zP).mono (by omega)
      have hM2 : Hid (∀ a c w, WhR G a w → WhR P c w → Calls Tryz.prog 108 #[a, c] w (WhP (G * P) w)) := fun a c w h1 h2 => c_bgMul G P a c (Nat.le_trans hzG.len (by omega)) (Nat.le_trans zP.len (by omega)) w h1 h2
      have hK2 : Hid (∀ a c w, WhR (G * P) a w → WhR (Q) c w → Calls Tryz.prog 90 #[a, c] w (WhP K w)) := fun a c w h1 h2 => HKK.out ▸ c_bgSub (G * P) (Q) a c (Nat.le_trans zM.len (by omega)) (Nat.le_trans zQ.len (by omega)) w h1 h2
      clear HP HQ HN HKK zP zQ zM
      go_upto_region 6 with (fail)
      refine wp_region_tabF 3 [] [(0, 47), (1, 48), (2, 49)] [Wh b0 G, Wh b P, Wh b (G * P)] (by kernel_rfl) (by kernel_rfl) (by kernel_rfl) trivial ⟨Wh.closed _ _, Wh.closed _ _, Wh.closed _ _, trivial⟩ ⟨?_, ?_, ?_, trivial⟩ ?_
      · refine StepT.q _ (by rfl) (by rfl) fun ρ w' H => ?_
        have hx : ρ (.tmp 4) = .pointer (some ⟨b, 0, none⟩) := H.bas 4 (by kernel_rfl); exact op_ldW _ rfl hx (kG.next H.bel)
      · refine StepT.q _ (by rfl) (by rfl) fun ρ w' H => ?_
        have hx : ρ (.tmp 8) = .pointer (some ⟨r8, 0, none⟩) := H.bas 8 (by kernel_rfl); exact op_ldW _ rfl hx (kP.next H.bel)
      · refine StepT.q _ (by rfl) (by rfl) fun ρ w' H => ?_
        obtain ⟨v0, e0, p0⟩ := H.dep 0 47 (by kernel_rfl)
        have p0 : (Wh b0 G) v0 w' := p0
        obtain ⟨v1, e1, p1⟩ := H.dep 1 48 (by kernel_rfl)
        have p1 : (Wh b P) v1 w' := p1
        exact OpTo.call 108 #[v0, v1] _ _ _ rfl (H.fn 108) (enters_of Tryz.func108 (by kernel_rfl) rfl) (by simp [e0, e1]) ((hM2.out v0 v1 w' p0.rd p1.rd).mono fun e w2 ⟨v, h1, h2, h3⟩ => ⟨v, h1, h3, h2.le (Nat.le_trans hbW H.bel.size)⟩)
      intro vs Wt hBt hDt
      have hV2 : (Wh b (G * P)) (vs 2) Wt := hDt.1 2 (by omega)
      clear hDt
      simp only [mergeS, Nat.reduceBEq, cond_true, cond_false, Nat.reduceAdd, List.drop_succ_cons, List.drop_zero]
      replace kR := kR.next hBt
      replace kP := kP.next hBt
      replace kQ := kQ.next hBt
      replace hb0 : Below b w _ := below_step hBt hbW hb0
      replace hbW := Nat.le_trans hbW hBt.size
      replace hbdW := Nat.le_trans hbdW hBt.size
      obtain ⟨lvUr8, evUr8, rvUr8, cvUr8⟩ := hV2.cell
      obtain ⟨slUr8, scUr8, rfl, _⟩ := id rvUr8.1
      simp only [evUr8]
      obtain ⟨lo, kr, _, _⟩ := id kP
      have x0 : Wt.cell? ⟨r8, 0, none⟩ = some (.bool (decide (P < 0))) := kr.cell 0
      have x1 : Wt.cell? ⟨r8, 1, none⟩ = some lo := kr.cell 1
      have x2 := kr.frozen 0
      have x3 := kr.frozen 1
      have x4 := kr.lt
      have kM9 : BlkW b r8 ((G * P)) ((Wt.setCell ⟨r8, 0, none⟩ (.bool (decide ((G * P) < 0)))).setCell ⟨r8, 1, none⟩ (.slice slUr8 (dg ((G * P)).natAbs).length scUr8)) := BlkW.put kr rfl rvUr8 cvUr8
      replace kQ := kQ.far (r' := r8) (by omega) kr (.bool (decide ((G * P) < 0))) (.slice slUr8 (dg ((G * P)).natAbs).length scUr8)
      replace kR := (kR.far (p := ⟨r8, 0, none⟩) (by show rR ≠ r8; omega) (.bool (decide ((G * P) < 0)))).far (p := ⟨r8, 1, none⟩) (by show rR ≠ r8; omega) (.slice slUr8 (dg ((G * P)).natAbs).length scUr8)
      replace hb0 : Below b w ((Wt.setCell ⟨r8, 0, none⟩ (.bool (decide ((G * P) < 0)))).setCell ⟨r8, 1, none⟩ (.slice slUr8 (dg ((G * P)).natAbs).length scUr8)) := (hb0.setCell (by show b ≤ r8; omega) _).setCell (by show b ≤ r8; omega) _
      replace hbW : b ≤ ((Wt.setCell ⟨r8, 0, none⟩ (.bool (decide ((G * P) < 0)))).setCell ⟨r8, 1, none⟩ (.slice slUr8 (dg ((G * P)).natAbs).length scUr8)).heap.size := by simpa [World.setCell] using hbW
      clear hV2 hBt evUr8 rvUr8 cvUr8 kr
      go_upto_region 8 with (fail)
      generalize (World.setCell (World.setCell _ _ _) _ _) = W5 at *
      clear x0 x1 x2 x3 x4
      clear kP
      have kM := kM9
      clear kM9
      refine wp_region_tabF 3 [] [(0, 53), (1, 54), (2, 55)] [Wh b (G * P), Wh b Q, Wh b K] (by kernel_rfl) (by kernel_rfl) (by kernel_rfl) trivial ⟨Wh.closed _ _, Wh.closed _ _, Wh.closed _ _, trivial⟩ ⟨?_, ?_, ?_, trivial⟩ ?_
      · refine StepT.q _ (by rfl) (by rfl) fun ρ w' H => ?_
        have hx : ρ (.tmp 8) = .pointer (some ⟨r8, 0, none⟩) := H.bas 8 (by kernel_rfl); exact op_ldW _ rfl hx (kM.next H.bel)
      · refine StepT.q _ (by rfl) (by rfl) fun ρ w' H => ?_
        have hx : ρ (.tmp 9) = .pointer (some ⟨r9, 0, none⟩) := H.bas 9 (by kernel_rfl); exact op_ldW _ rfl hx (kQ.next H.bel)
      · refine StepT.q _ (by rfl) (by rfl) fun ρ w' H => ?_
        obtain ⟨v0, e0, p0⟩ := H.dep 0 53 (by kernel_rfl)
        have p0 : (Wh b (G * P)) v0 w' := p0
        obtain ⟨v1, e1, p1⟩ := H.dep 1 54 (by kernel_rfl)
        have p1 : (Wh b Q) v1 w' := p1
        exact OpTo.call 90 #[v0, v1] _ _ _ rfl (H.fn 90) (enters_of Tryz.func90 (by kernel_rfl) rfl) (by simp [e0, e1]) ((hK2.out v0 v1 w' p0.rd p1.rd).mono fun e w2 ⟨v, h1, h2, h3⟩ => ⟨v, h1, h3, h2.le (Nat.le_trans hbW H.bel.size)⟩)
      intro vs Wt hBt hDt
      have hV2 : (Wh b K) (vs 2) Wt := hDt.1 2 (by omega)
      clear hDt
      simp only [mergeS, Nat.reduceBEq, cond_true, cond_false, Nat.reduceAdd, List.drop_succ_cons, List.drop_zero]
      obtain ⟨lvU, evU, rvU, cvU⟩ := hV2.cell
      obtain ⟨slU, scU, rfl, _⟩ := id rvU.1
      simp only [evU]
      have kR1 := kR.next hBt
      replace hb0 : Below b w _ := below_step hBt hbW hb0
      replace hbW := Nat.le_trans hbW hBt.size
      have x0 : Wt.cell? ⟨rR, 0, none⟩ = some (.bool false) := kR1.cell 0
      have x1 : Wt.cell? ⟨rR, 1, none⟩ = some (.slice none 0 0) := kR1.cell 1
      have x2 := kR1.frozen 0
      have x3 := kR1.frozen 1
      have x4 := kR1.lt
      have k9 := (kR1.set 0 (.bool (decide (K < 0)))).set 1 (.slice slU (dg (K).natAbs).length scU)
      have hB9 : Below b w ((Wt.setCell ⟨rR, 0, none⟩ (.bool (decide (K < 0)))).setCell ⟨rR, 1, none⟩ (.slice slU (dg (K).natAbs).length scU)) := (hb0.setCell (by show b ≤ rR; omega) _).setCell (by show b ≤ rR; omega) _
      have ho8 : RdO ((Wt.setCell ⟨rR, 0, none⟩ (.bool (decide (K < 0)))).setCell ⟨rR, 1, none⟩ (.slice slU (dg (K).natAbs).length scU)) b (.slice slU (dg (K).natAbs).length scU) (dg (K).natAbs) := rvU.far (by decide) kR1 (over_set2 _ _ _ _)
      clear kR kR1 hb0 hV2 evU rvU cvU hBt
      go_wp2
      generalize (World.setCell (World.setCell _ _ _) _ _) = w9 at hB9 k9 ho8 ⊢
      have q0 : w9.cell? ⟨rR, 0, none⟩ = some (.bool (decide (K < 0))) := k9.cell 0
      have q1 : w9.cell? ⟨rR, 1, none⟩ = some (.slice slU (dg (K).natAbs).length scU) := k9.cell 1
      refine bodyPost_ret (v := .agg #[.bool (decide (K < 0)), (.slice slU (dg (K).natAbs).length scU)]) (by simp [results, Tryz.results109, go_sem, q0, q1]) rfl ?_
      have eb := HBW.out
      subst eb
      have ek := HK.out
      subst ek
      exact ⟨_, rfl, ⟨_, rfl, ho8⟩, hB9⟩
    · have hmI : (m : Int) % 2 = 1 := by omega
      have HKK : Hid (P + -(G * Q) = K) := by
        show _ = _
        rw [HN.out, if_neg he, if_neg h2, ← HP.out, ← HQ.out]
        exact dn_o1 _ _ _ _ _
      have zM : Sz 14000 (G * Q) := (hzG.mul zQ).mono (by omega)
      have hM2 : Hid (∀ a c w, WhR G a w → WhR Q c w → Calls Tryz.prog 108 #[a, c] w (WhP (G * Q) w)) := fun a c w h1 h2 => c_bgMul G Q a c (Nat.le_trans hzG.len (by omega)) (Nat.le_trans zQ.len (by omega)) w h1 h2
      have hK2 : Hid (∀ a c w, WhR (P) a w → WhR (G * Q) c w → Calls Tryz.prog 90 #[a, c] w (WhP K w)) := fun a c w h1 h2 => HKK.out ▸ c_bgSub (P) (G * Q) a c (Nat.le_trans zP.len (by omega)) (Nat.le_trans zM.len (by omega)) w h1 h2
      clear HP HQ HN HKK zP zQ zM
      go_upto_region 7 with (fail)
      refine wp_region_tabF 3 [] [(0, 50), (1, 51), (2, 52)] [Wh b0 G, Wh b Q, Wh b (G * Q)] (by kernel_rfl) (by kernel_rfl) (by kernel_rfl) trivial ⟨Wh.closed _ _, Wh.closed _ _, Wh.closed _ _, trivial⟩ ⟨?_, ?_, ?_, trivial⟩ ?_
      · refine StepT.q _ (by rfl) (by rfl) fun ρ w' H => ?_
        have hx : ρ (.tmp 4) = .pointer (some ⟨b, 0, none⟩) := H.bas 4 (by kernel_rfl); exact op_ldW _ rfl hx (kG.next H.bel)
      · refine StepT.q _ (by rfl) (by rfl) fun ρ w' H => ?_
        have hx : ρ (.tmp 9) = .pointer (some ⟨r9, 0, none⟩) := H.bas 9 (by kernel_rfl); exact op_ldW _ rfl hx (kQ.next H.bel)
      · refine StepT.q _ (by rfl) (by rfl) fun ρ w' H => ?_
        obtain ⟨v0, e0, p0⟩ := H.dep 0 50 (by kernel_rfl)
        have p0 : (Wh b0 G) v0 w' := p0
        obtain ⟨v1, e1, p1⟩ := H.dep 1 51 (by kernel_rfl)
        have p1 : (Wh b Q) v1 w' := p1
        exact OpTo.call 108 #[v0, v1] _ _ _ rfl (H.fn 108) (enters_of Tryz.func108 (by kernel_rfl) rfl) (by simp [e0, e1]) ((hM2.out v0 v1 w' p0.rd p1.rd).mono fun e w2 ⟨v, h1, h2, h3⟩ => ⟨v, h1, h3, h2.le (Nat.le_trans hbW H.bel.size)⟩)
      intro vs Wt hBt hDt
      have hV2 : (Wh b (G * Q)) (vs 2) Wt := hDt.1 2 (by omega)
      clear hDt
      simp only [mergeS, Nat.reduceBEq, cond_true, cond_false, Nat.reduceAdd, List.drop_succ_cons, List.drop_zero]
      replace kR := kR.next hBt
      replace kP := kP.next hBt
      replace kQ := kQ.next hBt
      replace hb0 : Below b w _ := below_step hBt hbW hb0
      replace hbW := Nat.le_trans hbW hBt.size
      replace hbdW := Nat.le_trans hbdW hBt.size
      obtain ⟨lvUr9, evUr9, rvUr9, cvUr9⟩ := hV2.cell
      obtain ⟨slUr9, scUr9, rfl, _⟩ := id rvUr9.1
      simp only [evUr9]
      obtain ⟨lo, kr, _, _⟩ := id kQ
      have x0 : Wt.cell? ⟨r9, 0, none⟩ = some (.bool (decide (Q < 0))) := kr.cell 0
      have x1 : Wt.cell? ⟨r9, 1, none⟩ = some lo := kr.cell 1
      have x2 := kr.frozen 0
      have x3 := kr.frozen 1
      have x4 := kr.lt
      have kM9 : BlkW b r9 ((G * Q)) ((Wt.setCell ⟨r9, 0, none⟩ (.bool (decide ((G * Q) < 0)))).setCell ⟨r9, 1, none⟩ (.slice slUr9 (dg ((G * Q)).natAbs).length scUr9)) := BlkW.put kr rfl rvUr9 cvUr9
      replace kP := kP.far (r' := r9) (by omega) kr (.bool (decide ((G * Q) < 0))) (.slice slUr9 (dg ((G * Q)).natAbs).length scUr9)
      replace kR := (kR.far (p := ⟨r9, 0, none⟩) (by show rR ≠ r9; omega) (.bool (decide ((G * Q) < 0)))).far (p := ⟨r9, 1, none⟩) (by show rR ≠ r9; omega) (.slice slUr9 (dg ((G * Q)).natAbs).length scUr9)
      replace hb0 : Below b w ((Wt.setCell ⟨r9, 0, none⟩ (.bool (decide ((G * Q) < 0)))).setCell ⟨r9, 1, none⟩ (.slice slUr9 (dg ((G * Q)).natAbs).length scUr9)) := (hb0.setCell (by show b ≤ r9; omega) _).setCell (by show b ≤ r9; omega) _
      replace hbW : b ≤ ((Wt.setCell ⟨r9, 0, none⟩ (.bool (decide ((G * Q) < 0)))).setCell ⟨r9, 1, none⟩ (.slice slUr9 (dg ((G * Q)).natAbs).length scUr9)).heap.size := by simpa [World.setCell] using hbW
      clear hV2 hBt evUr9 rvUr9 cvUr9 kr
      go_upto_region 8 with (fail)
      generalize (World.setCell (World.setCell _ _ _) _ _) = W5 at *
      clear x0 x1 x2 x3 x4
      clear kQ
      have kM := kM9
      clear kM9
      refine wp_region_tabF 3 [] [(0, 53), (1, 54), (2, 55)] [Wh b P, Wh b (G * Q), Wh b K] (by kernel_rfl) (by kernel_rfl) (by kernel_rfl) trivial ⟨Wh.closed _ _, Wh.closed _ _, Wh.closed _ _, trivial⟩ ⟨?_, ?_, ?_, trivial⟩ ?_
      · refine StepT.q _ (by rfl) (by rfl) fun ρ w' H => ?_
        have hx : ρ (.tmp 8) = .pointer (some ⟨r8, 0, none⟩) := H.bas 8 (by kernel_rfl); exact op_ldW _ rfl hx (kP.next H.bel)
      · refine StepT.q _ (by rfl) (by rfl) fun ρ w' H => ?_
        have hx : ρ (.tmp 9) = .pointer (some ⟨r9, 0, none⟩) := H.bas 9 (by kernel_rfl); exact op_ldW _ rfl hx (kM.next H.bel)
      · refine StepT.q _ (by rfl) (by rfl) fun ρ w' H => ?_
        obtain ⟨v0, e0, p0⟩ := H.dep 0 53 (by kernel_rfl)
        have p0 : (Wh b P) v0 w' := p0
        obtain ⟨v1, e1, p1⟩ := H.dep 1 54 (by kernel_rfl)
        have p1 : (Wh b (G * Q)) v1 w' := p1
        exact OpTo.call 90 #[v0, v1] _ _ _ rfl (H.fn 90) (enters_of Tryz.func90 (by kernel_rfl) rfl) (by simp [e0, e1]) ((hK2.out v0 v1 w' p0.rd p1.rd).mono fun e w2 ⟨v, h1, h2, h3⟩ => ⟨v, h1, h3, h2.le (Nat.le_trans hbW H.bel.size)⟩)
      intro vs Wt hBt hDt
      have hV2 : (Wh b K) (vs 2) Wt := hDt.1 2 (by omega)
      clear hDt
      simp only [mergeS, Nat.reduceBEq, cond_true, cond_false, Nat.reduceAdd, List.drop_succ_cons, List.drop_zero]
      obtain ⟨lvU, evU, rvU, cvU⟩ := hV2.cell
      obtain ⟨slU, scU, rfl, _⟩ := id rvU.1
      simp only [evU]
      have kR1 := kR.next hBt
      replace hb0 : Below b w _ := below_step hBt hbW hb0
      replace hbW := Nat.le_trans hbW hBt.size
      have x0 : Wt.cell? ⟨rR, 0, none⟩ = some (.bool false) := kR1.cell 0
      have x1 : Wt.cell? ⟨rR, 1, none⟩ = some (.slice none 0 0) := kR1.cell 1
      have x2 := kR1.frozen 0
      have x3 := kR1.frozen 1
      have x4 := kR1.lt
      have k9 := (kR1.set 0 (.bool (decide (K < 0)))).set 1 (.slice slU (dg (K).natAbs).length scU)
      have hB9 : Below b w ((Wt.setCell ⟨rR, 0, none⟩ (.bool (decide (K < 0)))).setCell ⟨rR, 1, none⟩ (.slice slU (dg (K).natAbs).length scU)) := (hb0.setCell (by show b ≤ rR; omega) _).setCell (by show b ≤ rR; omega) _
      have ho8 : RdO ((Wt.setCell ⟨rR, 0, none⟩ (.bool (decide (K < 0)))).setCell ⟨rR, 1, none⟩ (.slice slU (dg (K).natAbs).length scU)) b (.slice slU (dg (K).natAbs).length scU) (dg (K).natAbs) := rvU.far (by decide) kR1 (over_set2 _ _ _ _)
      clear kR kR1 hb0 hV2 evU rvU cvU hBt
      go_wp2
      generalize (World.setCell (World.setCell _ _ _) _ _) = w9 at hB9 k9 ho8 ⊢
      have q0 : w9.cell? ⟨rR, 0, none⟩ = some (.bool (decide (K < 0))) := k9.cell 0
      have q1 : w9.cell? ⟨rR, 1, none⟩ = some (.slice slU (dg (K).natAbs).length scU) := k9.cell 1
      refine bodyPost_ret (v := .agg #[.bool (decide (K < 0)), (.slice slU (dg (K).natAbs).length scU)]) (by simp [results, Tryz.results109, go_sem, q0, q1]) rfl ?_
      have eb := HBW.out
      subst eb
      have ek := HK.out
      subst ek
      exact ⟨_, rfl, ⟨_, rfl, ho8⟩, hB9⟩
end Go.Proofs.YtgjdgcmmlfmhmaaGreatDoor

/- DwW -/
namespace Go.Proofs.YtgjdgcmmlfmhmaaGreatDoor
open Go.RowKit

theorem wls_F (x A B : Int) : x ^ 3 + x * A + B = dvF A B x := by unfold dvF; grind
theorem wls_G {A B x Fv : Int} (h : dvF A B x = Fv) : Fv * Fv * 16 = dwG A B x := by unfold dwG; rw [h]; grind
theorem wls_T (x A B : Int) : x ^ 2 * x ^ 2 * 3 + x ^ 2 * (6 * A) + x * (12 * B) + -(A * A) = dvT A B x := by unfold dvT; grind
theorem wls_Q (x A B : Int) : (x ^ 3 * x ^ 3 + x ^ 2 * x ^ 2 * (5 * A) + x ^ 3 * (20 * B) + -(x ^ 2 * (5 * A * A)) + -(x * (4 * A * B)) + -(8 * B * B + A * A * A)) * 2 = dvQ A B x := by unfold dvQ; grind
theorem add_of {M N K : Int} (hM : Sz 100 M) (hN : Sz 100 N) (he : M + N = K) (a c : Value) (w : World) (h1 : WhR M a w) (h2 : WhR N c w) : Calls Tryz.prog 106 #[a, c] w (WhP K w) := he ▸ c_bgAdd M N a c (Nat.le_trans hM.len (by omega)) (Nat.le_trans hN.len (by omega)) w h1 h2
theorem sub_of {M N K : Int} (hM : Sz 100 M) (hN : Sz 100 N) (he : M + -N = K) (a c : Value) (w : World) (h1 : WhR M a w) (h2 : WhR N c w) : Calls Tryz.prog 90 #[a, c] w (WhP K w) := he ▸ c_bgSub M N a c (Nat.le_trans hM.len (by omega)) (Nat.le_trans hN.len (by omega)) w h1 h2
theorem mul_of {M N K : Int} (hM : Sz 100 M) (hN : Sz 100 N) (he : M * N = K) (a c : Value) (w : World) (h1 : WhR M a w) (h2 : WhR N c w) : Calls Tryz.prog 108 #[a, c] w (WhP K w) := he ▸ c_bgMul M N a c (Nat.le_trans hM.len (by omega)) (Nat.le_trans hN.len (by omega)) w h1 h2
theorem times_of {M n K : Int} (hM : Sz 100 M) (hn : -1000000000000000000 ≤ n ∧ n ≤ 1000000000000000000) (he : M * n = K) (a : Value) (w : World) (h1 : WhR M a w) : Calls Tryz.prog 107 #[a, .int .i64 n] w (WhP K w) := he ▸ c_bgTimes M n a (Nat.le_trans hM.len (by omega)) hn w h1
theorem of_of {n K : Int} (hn : -1000000000000000000 ≤ n ∧ n ≤ 1000000000000000000) (he : n = K) (w : World) : Calls Tryz.prog 91 #[.int .i64 n] w (WhP K w) := he ▸ c_bgOf n hn w
theorem Sz.of5b {x : Int} (h : -1000000000000000000 ≤ x ∧ x ≤ 1000000000000000000) : Sz 5 x := Sz.of5 (by omega) (by omega)
set_option maxHeartbeats 8000000 in
set_option maxRecDepth 100000 in
theorem c_dpWholes (A B x : Int) (n : Nat) (hA : -1000 ≤ A ∧ A ≤ 1000) (hB : -10000 ≤ B ∧ B ≤ 10000) (hx : -1000 ≤ x ∧ x ≤ 1000) (hn : 1 ≤ n ∧ n ≤ 12) (w : World) :
    Calls Tryz.prog 82 #[.agg #[.int .i64 A, .int .i64 B], .int .i64 x, .int .i64 n] w fun e w' => ∃ v j, e = .returned v ∧ n < 5 + j ∧ j ≤ 8 ∧ OwnsW w' w.heap.size w.heap.size v (dwL A B x j) ∧ Below w.heap.size w w' := by
  have kC := Blk.new w #[.int .i64 A, .int .i64 B] 24
  have hb0 : Below w.heap.size w (w.alloc (.cells #[.int .i64 A, .int .i64 B] 24)) := (Below.refl _ _).alloc (Nat.le_refl _) _
  have hW0 : (w.alloc (.cells #[.int .i64 A, .int .i64 B] 24)).heap.size = w.heap.size + 1 := by simp
  obtain ⟨b, hb⟩ : ∃ b, w.heap.size = b := ⟨_, rfl⟩
  rw [hb]
  have zx : Sz 100 x := (Sz.of1 (by omega) (by omega)).mono (by omega)
  have zB : Sz 100 B := (Sz.of4 (by omega) (by omega)).mono (by omega)
  have zx1 : Sz 1 x := Sz.of1 (by omega) (by omega)
  have hAA := mulTwo_bd (by omega) hA (by omega) hA
  have hAAA := mulTwo_bd (by omega) hAA (by omega) hA
  have h5AA := mulTwo_bd (x := 5 * A) (M := 5000) (by omega) (by omega) (by omega) hA
  have h4AB := mulTwo_bd (x := 4 * A) (M := 4000) (by omega) (by omega) (by omega) hB
  have h8BB := mulTwo_bd (x := 8 * B) (M := 80000) (by omega) (by omega) (by omega) hB
  have zX2 : Sz 3 (x ^ 2) := pw_sz zx1 2
  have zX3 : Sz 4 (x ^ 3) := pw_sz zx1 3
  have zF : Sz 4 (dvF A B x) := by
    have h1 := mulTwo_bd (by omega) hx (by omega) hx
    have h2 := mulTwo_bd (by omega) h1 (by omega) hx
    have h3 := mulTwo_bd (by omega) hA (by omega) hx
    refine Sz.of4 ?_ ?_ <;> (unfold dvF; omega)
  have HF := Lib.hid (wls_F x A B)
  obtain ⟨Fv, hFv⟩ : ∃ Fv, dvF A B x = Fv := ⟨_, rfl⟩
  have HG := Lib.hid (wls_G hFv)
  rw [hFv] at HF zF
  have HFV := Lib.hid hFv
  clear hFv
  have HT := Lib.hid (wls_T x A B)
  have HQ := Lib.hid (wls_Q x A B)
  have HX2 := Lib.hid (pwL_get x 4 2 (by omega))
  have HX3 := Lib.hid (pwL_get x 4 3 (by omega))
  obtain ⟨X2, hX2⟩ : ∃ X2, x ^ 2 = X2 := ⟨_, rfl⟩
  obtain ⟨X3, hX3⟩ : ∃ X3, x ^ 3 = X3 := ⟨_, rfl⟩
  rw [hX2] at zX2 HT HQ HX2
  rw [hX3] at zX3 HF HQ HX3
  clear hX2 hX3
  obtain ⟨R1, hR1⟩ : ∃ R1, X3 * X3 + X2 * X2 * (5 * A) = R1 := ⟨_, rfl⟩
  rw [hR1] at HQ
  obtain ⟨R2, hR2⟩ : ∃ R2, R1 + X3 * (20 * B) = R2 := ⟨_, rfl⟩
  rw [hR2] at HQ
  obtain ⟨R3, hR3⟩ : ∃ R3, R2 + -(X2 * (5 * A * A)) = R3 := ⟨_, rfl⟩
  rw [hR3] at HQ
  obtain ⟨R4, hR4⟩ : ∃ R4, R3 + -(x * (4 * A * B)) = R4 := ⟨_, rfl⟩
  rw [hR4] at HQ
  have z5A : Sz 5 (5 * A) := Sz.of5b (by omega)
  have z20B : Sz 5 (20 * B) := Sz.of5b (by omega)
  have z5AA : Sz 5 (5 * A * A) := Sz.of5b (by omega)
  have z4AB : Sz 5 (4 * A * B) := Sz.of5b (by omega)
  have zR1 : Sz 20 R1 := hR1 ▸ (((zX3.mul zX3).mono (by omega)).add (((zX2.mul zX2).mul z5A).mono (by omega)) : Sz (18 + 1) _).mono (by omega)
  have zR2 : Sz 30 R2 := hR2 ▸ ((zR1.mono (by omega)).add ((zX3.mul z20B).mono (by omega)) : Sz (28 + 1) _).mono (by omega)
  have zR3 : Sz 40 R3 := hR3 ▸ ((zR2.mono (by omega)).add (((zX2.mul z5AA).neg).mono (by omega)) : Sz (38 + 1) _).mono (by omega)
  have zR4 : Sz 50 R4 := hR4 ▸ ((zR3.mono (by omega)).add (((zx1.mul z4AB).neg).mono (by omega)) : Sz (48 + 1) _).mono (by omega)
  have HR1 := Lib.hid hR1
  have HR2 := Lib.hid hR2
  have HR3 := Lib.hid hR3
  have HR4 := Lib.hid hR4
  clear hR1 hR2 hR3 hR4
  have hz8 : -100000000000000000 ≤ 8 * B * B + A * A * A ∧ 8 * B * B + A * A * A ≤ 100000000000000000 := by omega
  go_enter Tryz.func82, Tryz.ntmps82
  go_upto_region 1 with (fail)
  generalize w.alloc _ = W at *
  rw [hb] at kC hb0 hW0
  have HBW := Lib.hid hb
  clear hb
  have hbW : b ≤ W.heap.size := by omega
  clear hW0
  refine wp_region_tabF 3 [2] [(2, 7), (0, 17), (1, 18)] [IsV (.int .i64 x), Wh b x, PA W.heap.size #[.bool false, .slice none 0 0] 37] (by kernel_rfl) (by kernel_rfl) (by kernel_rfl) ⟨⟨_, _, _, rfl⟩, trivial⟩ ⟨IsV.closed _, Wh.closed _ _, PA.closed _ _ _, trivial⟩ ⟨?_, ?_, ?_, trivial⟩ ?_
  · refine StepT.q _ (by rfl) (by rfl) fun ρ w' H => ?_
    exact OpTo.move _ rfl (H.bas 1 (by kernel_rfl))
  · refine StepT.q _ (by rfl) (by rfl) fun ρ w' H => ?_
    obtain ⟨v0, e0, p0⟩ := H.dep 0 17 (by kernel_rfl)
    obtain rfl : v0 = .int .i64 x := p0
    exact OpTo.call 91 #[.int .i64 x] _ _ _ rfl (H.fn 91) (enters_of Tryz.func91 (by kernel_rfl) rfl) (by simp [e0]) ((c_bgOf x (by omega) w').mono fun e w2 ⟨v, h1, h2, h3⟩ => ⟨v, h1, h3, h2.le (Nat.le_trans hbW H.bel.size)⟩)
  · refine StepT.a _ (by rfl) fun ρ w' H => ?_
    exact OpTo.alloc rfl (fun w => by simp [go_sem]) H.bel.size
  intro vs Wt hBt hDt
  have hV1 : (Wh b x) (vs 1) Wt := hDt.1 1 (by omega)
  have hV2 : (PA W.heap.size #[.bool false, .slice none 0 0] 37) (vs 2) Wt := hDt.1 2 (by omega)
  obtain ⟨r7, ea7, hr7, kr7⟩ := hV2
  clear hDt
  simp only [mergeS, Nat.reduceBEq, cond_true, cond_false, Nat.reduceAdd, List.drop_succ_cons, List.drop_zero, ea7]
  obtain ⟨lv7, ev7, rv7, cv7⟩ := hV1.cell
  obtain ⟨sl7, sc7, rfl, _⟩ := id rv7.1
  simp only [ev7]
  have x0 : Wt.cell? ⟨r7, 0, none⟩ = some (.bool false) := kr7.cell 0
  have x1 : Wt.cell? ⟨r7, 1, none⟩ = some (.slice none 0 0) := kr7.cell 1
  have x2 := kr7.frozen 0
  have x3 := kr7.frozen 1
  have x4 := kr7.lt
  have kx : BlkW b r7 (x) ((Wt.setCell ⟨r7, 0, none⟩ (.bool (decide (x < 0)))).setCell ⟨r7, 1, none⟩ (.slice sl7 (dg (x).natAbs).length sc7)) := BlkW.put kr7 rfl rv7 cv7
  have hBf : Below W.heap.size W ((Wt.setCell ⟨r7, 0, none⟩ (.bool (decide (x < 0)))).setCell ⟨r7, 1, none⟩ (.slice sl7 (dg (x).natAbs).length sc7)) := (hBt.setCell hr7 _).setCell hr7 _
  replace kC := kC.next hBf
  replace hb0 : Below b w _ := below_step hBf hbW hb0
  have q7 := hr7
  replace hbW := Nat.le_trans hbW hBf.size
  clear hV1 hBt kr7 ev7 rv7 cv7
  go_upto_region 2 with (fail)
  generalize (World.setCell (World.setCell _ _ _) _ _) = W2 at *
  clear x0 x1 x2 x3 x4 hBf hr7
  refine wp_region_tabF 2 [] [(0, 19), (1, 20)] [Wh b x, (fun v w => OwnsW w b b v (pwL x 4))] (by kernel_rfl) (by kernel_rfl) (by kernel_rfl) trivial ⟨Wh.closed _ _, fun v => OwnsW.closed b b v _, trivial⟩ ⟨?_, ?_, trivial⟩ ?_
  · refine StepT.q _ (by rfl) (by rfl) fun ρ w' H => ?_
    have hx : ρ (.tmp 7) = .pointer (some ⟨r7, 0, none⟩) := H.bas 7 (by kernel_rfl); exact op_ldW _ rfl hx (kx.next H.bel)
  · refine StepT.q _ (by rfl) (by rfl) fun ρ w' H => ?_
    obtain ⟨v0, e0, p0⟩ := H.dep 0 19 (by kernel_rfl)
    have p0 : (Wh b x) v0 w' := p0
    exact OpTo.call 105 #[v0] _ _ _ rfl (H.fn 105) (enters_of Tryz.func105 (by kernel_rfl) rfl) (by simp [e0]) ((c_dpPowers 1 (by omega) b x v0 w' p0 zx1).mono fun e w2 ⟨v, h1, h2, h3⟩ => ⟨v, h1, h3, h2.le (Nat.le_trans hbW H.bel.size) (Nat.le_trans hbW H.bel.size)⟩)
  intro vs Wt hBt hDt
  have hV1 : ((fun v w => OwnsW w b b v (pwL x 4))) (vs 1) Wt := hDt.1 1 (by omega)
  clear hDt
  simp only [mergeS, Nat.reduceBEq, cond_true, cond_false, Nat.reduceAdd, List.drop_succ_cons, List.drop_zero]
  replace kC := kC.next hBt
  replace kx := kx.next hBt
  replace hb0 : Below b w _ := below_step hBt hbW hb0
  replace hbW := Nat.le_trans hbW hBt.size
  have hD : OwnsW Wt b b (vs 1) (pwL x 4) := hV1
  clear hV1 hBt
  generalize vs 1 = d0 at hD ⊢
  obtain ⟨gp, capp, rfl, _, _⟩ := hD.addr (by rw [pwL_len]; omega)
  rw [pwL_len] at hD ⊢
  obtain ⟨hke, _, HE⟩ := hD.elt (by omega)
  clear hke hD
  go_upto_region 3 with (fail)
  obtain ⟨l2, a20, a21, a22⟩ := HE.2 2 (by omega)
  obtain ⟨l3, a30, a31, a32⟩ := HE.2 3 (by omega)
  rw [HX2.out] at a20 a22
  rw [HX3.out] at a30 a32
  obtain ⟨s2, p2, rfl, _⟩ := id a22.1
  obtain ⟨s3, p3, rfl, _⟩ := id a32.1
  have c20 : Wt.cell? ⟨gp, 4, none⟩ = some (.bool (decide (X2 < 0))) := a20
  have c21 : Wt.cell? ⟨gp, 5, none⟩ = some (.slice s2 (dg X2.natAbs).length p2) := a21
  have c30 : Wt.cell? ⟨gp, 6, none⟩ = some (.bool (decide (X3 < 0))) := a30
  have c31 : Wt.cell? ⟨gp, 7, none⟩ = some (.slice s3 (dg X3.natAbs).length p3) := a31
  have lgp := HE.1
  clear a20 a21 a30 a31 HE
  generalize Wt = Wt0 at *
  apply region_join2 (fun r9 r10 Wz => Over [] Wt0 Wz ∧ (fun _ => True) Wz ∧ Wt0.heap.size ≤ r9 ∧ Wt0.heap.size ≤ r10 ∧ r10 ≠ r9 ∧ Blk r9 #[.bool (decide (X2 < 0)), .slice s2 (dg X2.natAbs).length p2] 37 Wz ∧ Blk r10 #[.bool (decide (X3 < 0)), .slice s3 (dg X3.natAbs).length p3] 37 Wz)
  · intro hcont
    refine wp_region_cls [] (fun _ => false) (fun _ => True) (KD (fun _ => True) []) (by kernel_rfl) ⟨trivial, MemL.nil _⟩ ?_
    apply wpAnyF_hd ⟨Wt0, Over.refl _ _, trivial, MemL.nil _⟩ [true, true, true, true, true, true] 4 (KD.closed (Closed.true) _) (fun _ _ => trivial) (by kernel_rfl) (by kernel_rfl) (by kernel_rfl) (by kernel_rfl) (by simp)
    · intro E hE hEN hEn; (repeat (first | (refine wpHL_take ?_; go_big_quiet_step (fail); refine wpQuiet_nil ?_) | refine wpHL_skip ?_)); exact wpHL_end rfl
    refine wpAnyF_ready [6, 7] 3 (by kernel_rfl) (by kernel_rfl) (by simp) ?_
    refine AllF.cons ?_ ?_
    · refine stepK_alloc (zs := #[.bool false, .slice none 0 0]) (T := 37) (by rfl) (by rfl) (by rfl) (fun _ => by go_simp) (Closed.true) (fun r9 hr9 hl9 hne => ?_)
      simp only [Act.put, List.setIfInBounds_toArray, List.set_cons_succ, List.set_cons_zero]
      refine wpAnyF_ready [7] 2 (by kernel_rfl) (by kernel_rfl) (by simp) ?_
      refine AllF.cons ?_ ?_
      · refine stepK_alloc (zs := #[.bool false, .slice none 0 0]) (T := 37) (by rfl) (by rfl) (by rfl) (fun _ => by go_simp) (Closed.true) (fun r10 hr10 hl10 hne => ?_)
        simp only [Act.put, List.setIfInBounds_toArray, List.set_cons_succ, List.set_cons_zero]
        simp at hl10
        refine wpAnyF_ready [8] 1 (by kernel_rfl) (by kernel_rfl) (by simp) ?_
        refine AllF.cons ?_ ?_
        · refine stepK_store (v := .agg #[.bool (decide (X2 < 0)), .slice s2 (dg X2.natAbs).length p2]) [(r10, #[.bool false, .slice none 0 0], 37)] [] (by rfl) (by rfl) (by rfl) (by rfl) (by rfl) (by rfl) (fun _ => by go_simp) (by rfl) (by simp [Value.cells, one1]) (.inl hr9) (Closed.true) (fun _ _ h _ => h) (by simp; omega) (fun hne => ?_)
          try simp only [Value.cells]
          refine wpAnyF_ready [9] 0 (by kernel_rfl) (by kernel_rfl) (by simp) ?_
          refine AllF.cons ?_ ?_
          · refine stepK_store (v := .agg #[.bool (decide (X3 < 0)), .slice s3 (dg X3.natAbs).length p3]) [] [(r9, #[.bool (decide (X2 < 0)), .slice s2 (dg X2.natAbs).length p2], 37)] (by rfl) (by rfl) (by rfl) (by rfl) (by rfl) (by rfl) (fun _ => by go_simp) (by rfl) (by simp [Value.cells, one1]) (.inl hr10) (Closed.true) (fun _ _ h _ => h) (by simp; omega) (fun hne => ?_)
            try simp only [Value.cells]
            refine wpAnyF_done (by kernel_rfl) (fun Wz hOz hDz => ?_) _
            exact hcont r9 r10 Wz ⟨hOz, hDz.1, (by omega), (by omega), (by omega), hDz.2.tail.head, hDz.2.head⟩
          exact AllF.nil
        exact AllF.nil
      exact AllF.nil
    refine AllF.cons ?_ ?_
    · refine stepK_alloc (zs := #[.bool false, .slice none 0 0]) (T := 37) (by rfl) (by rfl) (by rfl) (fun _ => by go_simp) (Closed.true) (fun r10 hr10 hl10 hne => ?_)
      simp only [Act.put, List.setIfInBounds_toArray, List.set_cons_succ, List.set_cons_zero]
      refine wpAnyF_ready [6] 2 (by kernel_rfl) (by kernel_rfl) (by simp) ?_
      refine AllF.cons ?_ ?_
      · refine stepK_alloc (zs := #[.bool false, .slice none 0 0]) (T := 37) (by rfl) (by rfl) (by rfl) (fun _ => by go_simp) (Closed.true) (fun r9 hr9 hl9 hne => ?_)
        simp only [Act.put, List.setIfInBounds_toArray, List.set_cons_succ, List.set_cons_zero]
        simp at hl9
        refine wpAnyF_ready [8] 1 (by kernel_rfl) (by kernel_rfl) (by simp) ?_
        refine AllF.cons ?_ ?_
        · refine stepK_store (v := .agg #[.bool (decide (X2 < 0)), .slice s2 (dg X2.natAbs).length p2]) [] [(r10, #[.bool false, .slice none 0 0], 37)] (by rfl) (by rfl) (by rfl) (by rfl) (by rfl) (by rfl) (fun _ => by go_simp) (by rfl) (by simp [Value.cells, one1]) (.inl hr9) (Closed.true) (fun _ _ h _ => h) (by simp; omega) (fun hne => ?_)
          try simp only [Value.cells]
          refine wpAnyF_ready [9] 0 (by kernel_rfl) (by kernel_rfl) (by simp) ?_
          refine AllF.cons ?_ ?_
          · refine stepK_store (v := .agg #[.bool (decide (X3 < 0)), .slice s3 (dg X3.natAbs).length p3]) [(r9, #[.bool (decide (X2 < 0)), .slice s2 (dg X2.natAbs).length p2], 37)] [] (by rfl) (by rfl) (by rfl) (by rfl) (by rfl) (by rfl) (fun _ => by go_simp) (by rfl) (by simp [Value.cells, one1]) (.inl hr10) (Closed.true) (fun _ _ h _ => h) (by simp; omega) (fun hne => ?_)
            try simp only [Value.cells]
            refine wpAnyF_done (by kernel_rfl) (fun Wz hOz hDz => ?_) _
            exact hcont r9 r10 Wz ⟨hOz, hDz.1, (by omega), (by omega), (by omega), hDz.2.head, hDz.2.tail.head⟩
          exact AllF.nil
        exact AllF.nil
      exact AllF.nil
    exact AllF.nil
  try dsimp only
  rintro r9 r10 W4 ⟨hO4, _, h9, h10, d9, k9, k10⟩
  have hBf : Below Wt0.heap.size Wt0 W4 := hO4.below
  have k2 : BlkW b r9 X2 W4 := ⟨_, k9, a22.below hBf, rfl⟩
  have k3 : BlkW b r10 X3 W4 := ⟨_, k10, a32.below hBf, rfl⟩
  replace kC := kC.next hBf
  replace kx := kx.next hBf
  replace hb0 : Below b w _ := below_step hBf hbW hb0
  replace hbW := Nat.le_trans hbW hBf.size
  clear hO4 k9 k10 a22 a32 c20 c21 c30 c31 hBf
  go_upto_region 4 with (fail)
  have zxA : Sz 100 (x * A) := (zx1.mul (Sz.of1 (x := A) (by omega) (by omega))).mono (by omega)
  have zX3xA : Sz 100 (X3 + x * A) := ((zX3.mono (n := 20) (by omega)).add ((zx1.mul (Sz.of1 (x := A) (by omega) (by omega))).mono (by omega))).mono (by omega)
  refine wp_region_tab 11 [10] [(10, 11), (0, 27), (1, 28), (2, 29), (3, 30), (4, 31), (5, 32), (6, 33), (7, 34), (8, 35), (9, 36)] [Wh b X3, Wh b x, IsV (.pointer (some ⟨b, 0, none⟩)), IsV (.int .i64 A), Wh b (x * A), Wh b (X3 + x * A), IsV (.pointer (some ⟨b, 1, none⟩)), IsV (.int .i64 B), Wh b B, Wh b (Fv), PA W4.heap.size #[.bool false, .slice none 0 0] 37] (by kernel_rfl) (by kernel_rfl) (by kernel_rfl) ⟨⟨_, _, _, rfl⟩, trivial⟩ ⟨Wh.closed _ _, Wh.closed _ _, IsV.closed _, IsV.closed _, Wh.closed _ _, Wh.closed _ _, IsV.closed _, IsV.closed _, Wh.closed _ _, Wh.closed _ _, PA.closed _ _ _, trivial⟩ ⟨?_, ?_, ?_, ?_, ?_, ?_, ?_, ?_, ?_, ?_, ?_, trivial⟩ ?_
  · refine StepT.q _ (by rfl) (by rfl) fun ρ w' H => ?_
    have hx : ρ (.tmp 10) = .pointer (some ⟨r10, 0, none⟩) := H.bas 10 (by kernel_rfl); exact op_ldW _ rfl hx (k3.next H.bel)
  · refine StepT.q _ (by rfl) (by rfl) fun ρ w' H => ?_
    have hx : ρ (.tmp 7) = .pointer (some ⟨r7, 0, none⟩) := H.bas 7 (by kernel_rfl); exact op_ldW _ rfl hx (kx.next H.bel)
  · refine StepT.q _ (by rfl) (by rfl) fun ρ w' H => ?_
    exact op_field0 _ rfl (H.bas 3 (by kernel_rfl))
  · refine StepT.q _ (by rfl) (by rfl) fun ρ w' H => ?_
    obtain ⟨v2, e2, p2⟩ := H.dep 2 29 (by kernel_rfl)
    obtain rfl : v2 = .pointer (some ⟨b, 0, none⟩) := p2
    exact op_ldI _ rfl e2 ((kC.next H.bel).cell 0)
  · refine StepT.q _ (by rfl) (by rfl) fun ρ w' H => ?_
    obtain ⟨v1, e1, p1⟩ := H.dep 1 28 (by kernel_rfl)
    have p1 : (Wh b x) v1 w' := p1
    obtain ⟨v3, e3, p3⟩ := H.dep 3 30 (by kernel_rfl)
    obtain rfl : v3 = .int .i64 A := p3
    exact OpTo.call 107 #[v1, .int .i64 A] _ _ _ rfl (H.fn 107) (enters_of Tryz.func107 (by kernel_rfl) rfl) (by simp [e1, e3]) ((times_of zx (by omega) rfl _ w' p1.rd).mono fun e w2 ⟨v, h1, h2, h3⟩ => ⟨v, h1, h3, h2.le (Nat.le_trans hbW H.bel.size)⟩)
  · refine StepT.q _ (by rfl) (by rfl) fun ρ w' H => ?_
    obtain ⟨v0, e0, p0⟩ := H.dep 0 27 (by kernel_rfl)
    have p0 : (Wh b X3) v0 w' := p0
    obtain ⟨v4, e4, p4⟩ := H.dep 4 31 (by kernel_rfl)
    have p4 : (Wh b (x * A)) v4 w' := p4
    exact OpTo.call 106 #[v0, v4] _ _ _ rfl (H.fn 106) (enters_of Tryz.func106 (by kernel_rfl) rfl) (by simp [e0, e4]) ((add_of (zX3.mono (by omega)) zxA rfl _ _ w' p0.rd p4.rd).mono fun e w2 ⟨v, h1, h2, h3⟩ => ⟨v, h1, h3, h2.le (Nat.le_trans hbW H.bel.size)⟩)
  · refine StepT.q _ (by rfl) (by rfl) fun ρ w' H => ?_
    exact op_field1 _ rfl (H.bas 3 (by kernel_rfl))
  · refine StepT.q _ (by rfl) (by rfl) fun ρ w' H => ?_
    obtain ⟨v6, e6, p6⟩ := H.dep 6 33 (by kernel_rfl)
    obtain rfl : v6 = .pointer (some ⟨b, 1, none⟩) := p6
    exact op_ldI _ rfl e6 ((kC.next H.bel).cell 1)
  · refine StepT.q _ (by rfl) (by rfl) fun ρ w' H => ?_
    obtain ⟨v7, e7, p7⟩ := H.dep 7 34 (by kernel_rfl)
    obtain rfl : v7 = .int .i64 B := p7
    exact OpTo.call 91 #[.int .i64 B] _ _ _ rfl (H.fn 91) (enters_of Tryz.func91 (by kernel_rfl) rfl) (by simp [e7]) ((c_bgOf B (by omega) w').mono fun e w2 ⟨v, h1, h2, h3⟩ => ⟨v, h1, h3, h2.le (Nat.le_trans hbW H.bel.size)⟩)
  · refine StepT.q _ (by rfl) (by rfl) fun ρ w' H => ?_
    obtain ⟨v5, e5, p5⟩ := H.dep 5 32 (by kernel_rfl)
    have p5 : (Wh b (X3 + x * A)) v5 w' := p5
    obtain ⟨v8, e8, p8⟩ := H.dep 8 35 (by kernel_rfl)
    have p8 : (Wh b B) v8 w' := p8
    exact OpTo.call 106 #[v5, v8] _ _ _ rfl (H.fn 106) (enters_of Tryz.func106 (by kernel_rfl) rfl) (by simp [e5, e8]) ((add_of zX3xA zB HF.out _ _ w' p5.rd p8.rd).mono fun e w2 ⟨v, h1, h2, h3⟩ => ⟨v, h1, h3, h2.le (Nat.le_trans hbW H.bel.size)⟩)
  · refine StepT.a _ (by rfl) fun ρ w' H => ?_
    exact OpTo.alloc rfl (fun w => by simp [go_sem]) H.bel.size
  intro vs Wt hBt hDt
  have hV9 : (Wh b (Fv)) (vs 9) Wt := hDt.1 9 (by omega)
  have hV10 : (PA W4.heap.size #[.bool false, .slice none 0 0] 37) (vs 10) Wt := hDt.1 10 (by omega)
  obtain ⟨r11, ea11, hr11, kr11⟩ := hV10
  clear hDt
  simp only [mergeS, Nat.reduceBEq, cond_true, cond_false, Nat.reduceAdd, List.drop_succ_cons, List.drop_zero, ea11]
  obtain ⟨lv11, ev11, rv11, cv11⟩ := hV9.cell
  obtain ⟨sl11, sc11, rfl, _⟩ := id rv11.1
  simp only [ev11]
  have x0 : Wt.cell? ⟨r11, 0, none⟩ = some (.bool false) := kr11.cell 0
  have x1 : Wt.cell? ⟨r11, 1, none⟩ = some (.slice none 0 0) := kr11.cell 1
  have x2 := kr11.frozen 0
  have x3 := kr11.frozen 1
  have x4 := kr11.lt
  have kF : BlkW b r11 (Fv) ((Wt.setCell ⟨r11, 0, none⟩ (.bool (decide (Fv < 0)))).setCell ⟨r11, 1, none⟩ (.slice sl11 (dg (Fv).natAbs).length sc11)) := BlkW.put kr11 rfl rv11 cv11
  have hBf : Below W4.heap.size W4 ((Wt.setCell ⟨r11, 0, none⟩ (.bool (decide (Fv < 0)))).setCell ⟨r11, 1, none⟩ (.slice sl11 (dg (Fv).natAbs).length sc11)) := (hBt.setCell hr11 _).setCell hr11 _
  replace kC := kC.next hBf
  replace kx := kx.next hBf
  replace k2 := k2.next hBf
  replace k3 := k3.next hBf
  replace hb0 : Below b w _ := below_step hBf hbW hb0
  have q11 := hr11
  replace hbW := Nat.le_trans hbW hBf.size
  clear hV9 hBt kr11 ev11 rv11 cv11
  go_upto_region 5 with (fail)
  generalize (World.setCell (World.setCell _ _ _) _ _) = W5 at *
  clear x0 x1 x2 x3 x4 hBf hr11
  have hbW5 : b < W5.heap.size := kC.lt
  refine wp_region_tabF 5 [4] [(4, 12), (0, 37), (1, 38), (2, 39), (3, 40)] [Wh b Fv, Wh b Fv, Wh b (Fv * Fv), Wh b (dwG A B x), PA W5.heap.size #[.bool false, .slice none 0 0] 37] (by kernel_rfl) (by kernel_rfl) (by kernel_rfl) ⟨⟨_, _, _, rfl⟩, trivial⟩ ⟨Wh.closed _ _, Wh.closed _ _, Wh.closed _ _, Wh.closed _ _, PA.closed _ _ _, trivial⟩ ⟨?_, ?_, ?_, ?_, ?_, trivial⟩ ?_
  · refine StepT.q _ (by rfl) (by rfl) fun ρ w' H => ?_
    have hx : ρ (.tmp 11) = .pointer (some ⟨r11, 0, none⟩) := H.bas 11 (by kernel_rfl); exact op_ldW _ rfl hx (kF.next H.bel)
  · refine StepT.q _ (by rfl) (by rfl) fun ρ w' H => ?_
    have hx : ρ (.tmp 11) = .pointer (some ⟨r11, 0, none⟩) := H.bas 11 (by kernel_rfl); exact op_ldW _ rfl hx (kF.next H.bel)
  · refine StepT.q _ (by rfl) (by rfl) fun ρ w' H => ?_
    obtain ⟨v0, e0, p0⟩ := H.dep 0 37 (by kernel_rfl)
    have p0 : (Wh b Fv) v0 w' := p0
    obtain ⟨v1, e1, p1⟩ := H.dep 1 38 (by kernel_rfl)
    have p1 : (Wh b Fv) v1 w' := p1
    exact OpTo.call 108 #[v0, v1] _ _ _ rfl (H.fn 108) (enters_of Tryz.func108 (by kernel_rfl) rfl) (by simp [e0, e1]) ((mul_of (zF.mono (by omega)) (zF.mono (by omega)) rfl _ _ w' p0.rd p1.rd).mono fun e w2 ⟨v, h1, h2, h3⟩ => ⟨v, h1, h3, h2.le (Nat.le_trans hbW H.bel.size)⟩)
  · refine StepT.q _ (by rfl) (by rfl) fun ρ w' H => ?_
    obtain ⟨v2, e2, p2⟩ := H.dep 2 39 (by kernel_rfl)
    have p2 : (Wh b (Fv * Fv)) v2 w' := p2
    exact OpTo.call 107 #[v2, (Value.int IntKind.i64 16)] _ _ _ rfl (H.fn 107) (enters_of Tryz.func107 (by kernel_rfl) rfl) (by simp [e2, H.con]) ((times_of ((zF.mul zF).mono (by omega)) (by omega) HG.out _ w' p2.rd).mono fun e w2 ⟨v, h1, h2, h3⟩ => ⟨v, h1, h3, h2.le (Nat.le_trans hbW H.bel.size)⟩)
  · refine StepT.a _ (by rfl) fun ρ w' H => ?_
    exact OpTo.alloc rfl (fun w => by simp [go_sem]) H.bel.size
  intro vs Wt hBt hDt
  have hV3 : (Wh b (dwG A B x)) (vs 3) Wt := hDt.1 3 (by omega)
  have hV4 : (PA W5.heap.size #[.bool false, .slice none 0 0] 37) (vs 4) Wt := hDt.1 4 (by omega)
  obtain ⟨r12, ea12, hr12, kr12⟩ := hV4
  clear hDt
  simp only [mergeS, Nat.reduceBEq, cond_true, cond_false, Nat.reduceAdd, List.drop_succ_cons, List.drop_zero, ea12]
  obtain ⟨lv12, ev12, rv12, cv12⟩ := hV3.cell
  obtain ⟨sl12, sc12, rfl, _⟩ := id rv12.1
  simp only [ev12]
  have x0 : Wt.cell? ⟨r12, 0, none⟩ = some (.bool false) := kr12.cell 0
  have x1 : Wt.cell? ⟨r12, 1, none⟩ = some (.slice none 0 0) := kr12.cell 1
  have x2 := kr12.frozen 0
  have x3 := kr12.frozen 1
  have x4 := kr12.lt
  have kG : BlkW b r12 (dwG A B x) ((Wt.setCell ⟨r12, 0, none⟩ (.bool (decide (dwG A B x < 0)))).setCell ⟨r12, 1, none⟩ (.slice sl12 (dg (dwG A B x).natAbs).length sc12)) := BlkW.put kr12 rfl rv12 cv12
  have hBf : Below W5.heap.size W5 ((Wt.setCell ⟨r12, 0, none⟩ (.bool (decide (dwG A B x < 0)))).setCell ⟨r12, 1, none⟩ (.slice sl12 (dg (dwG A B x).natAbs).length sc12)) := (hBt.setCell hr12 _).setCell hr12 _
  replace kC := kC.next hBf
  replace kx := kx.next hBf
  replace k2 := k2.next hBf
  replace k3 := k3.next hBf
  replace hb0 : Below b w _ := below_step hBf hbW hb0
  have q12 := hr12
  replace hbW := Nat.le_trans hbW hBf.size
  clear hV3 hBt kr12 ev12 rv12 cv12
  go_upto_region 6 with (fail)
  generalize (World.setCell (World.setCell _ _ _) _ _) = W6 at *
  clear x0 x1 x2 x3 x4 hBf hr12
  clear kF
  have hr12b : Hid (b < r12) := by
    show b < r12
    have := q12
    omega
  have zt1 : Sz 100 (X2 * X2 * 3) := ((zX2.mul zX2).mul (Sz.of1 (x := 3) (by omega) (by omega))).mono (by omega)
  have zt2 : Sz 100 (X2 * (6 * A)) := (zX2.mul (Sz.of1 (x := 6 * A) (by omega) (by omega))).mono (by omega)
  have zt3 : Sz 100 (X2 * X2 * 3 + X2 * (6 * A)) := (((((zX2.mul zX2).mul (Sz.of1 (x := 3) (by omega) (by omega))).mono (n := 20) (by omega)).add ((zX2.mul (Sz.of1 (x := 6 * A) (by omega) (by omega))).mono (by omega)))).mono (by omega)
  have zt4 : Sz 100 (x * (12 * B)) := (zx1.mul (Sz.of5b (x := 12 * B) (by omega))).mono (by omega)
  have zt5 : Sz 100 (X2 * X2 * 3 + X2 * (6 * A) + x * (12 * B)) := ((((((zX2.mul zX2).mul (Sz.of1 (x := 3) (by omega) (by omega))).mono (n := 20) (by omega)).add ((zX2.mul (Sz.of1 (x := 6 * A) (by omega) (by omega))).mono (by omega))).mono (n := 30) (by omega)).add ((zx1.mul (Sz.of5b (x := 12 * B) (by omega))).mono (by omega))).mono (by omega)
  have zt6 : Sz 100 (A * A) := (Sz.of5b (by omega)).mono (by omega)
  refine wp_region_tab 24 [23] [(23, 13), (0, 41), (1, 42), (2, 43), (3, 44), (4, 45), (5, 46), (6, 47), (7, 48), (8, 49), (9, 50), (10, 51), (11, 52), (12, 53), (13, 54), (14, 55), (15, 56), (16, 57), (17, 58), (18, 59), (19, 60), (20, 61), (21, 62), (22, 63)] [Wh b X2, Wh b X2, Wh b (X2 * X2), Wh b (X2 * X2 * 3), Wh b X2, IsV (.pointer (some ⟨b, 0, none⟩)), IsV (.int .i64 A), IsV (.int .i64 (6 * A)), Wh b (X2 * (6 * A)), Wh b (X2 * X2 * 3 + X2 * (6 * A)), Wh b x, IsV (.pointer (some ⟨b, 1, none⟩)), IsV (.int .i64 B), IsV (.int .i64 (12 * B)), Wh b (x * (12 * B)), Wh b (X2 * X2 * 3 + X2 * (6 * A) + x * (12 * B)), IsV (.pointer (some ⟨b, 0, none⟩)), IsV (.int .i64 A), IsV (.pointer (some ⟨b, 0, none⟩)), IsV (.int .i64 A), IsV (.int .i64 (A * A)), Wh b (A * A), Wh b (dvT A B x), PA W6.heap.size #[.bool false, .slice none 0 0] 37] (by kernel_rfl) (by kernel_rfl) (by kernel_rfl) ⟨⟨_, _, _, rfl⟩, trivial⟩ ⟨Wh.closed _ _, Wh.closed _ _, Wh.closed _ _, Wh.closed _ _, Wh.closed _ _, IsV.closed _, IsV.closed _, IsV.closed _, Wh.closed _ _, Wh.closed _ _, Wh.closed _ _, IsV.closed _, IsV.closed _, IsV.closed _, Wh.closed _ _, Wh.closed _ _, IsV.closed _, IsV.closed _, IsV.closed _, IsV.closed _, IsV.closed _, Wh.closed _ _, Wh.closed _ _, PA.closed _ _ _, trivial⟩ ⟨?_, ?_, ?_, ?_, ?_, ?_, ?_, ?_, ?_, ?_, ?_, ?_, ?_, ?_, ?_, ?_, ?_, ?_, ?_, ?_, ?_, ?_, ?_, ?_, trivial⟩ ?_
  · refine StepT.q _ (by rfl) (by rfl) fun ρ w' H => ?_
    have hx : ρ (.tmp 9) = .pointer (some ⟨r9, 0, none⟩) := H.bas 9 (by kernel_rfl); exact op_ldW _ rfl hx (k2.next H.bel)
  · refine StepT.q _ (by rfl) (by rfl) fun ρ w' H => ?_
    have hx : ρ (.tmp 9) = .pointer (some ⟨r9, 0, none⟩) := H.bas 9 (by kernel_rfl); exact op_ldW _ rfl hx (k2.next H.bel)
  · refine StepT.q _ (by rfl) (by rfl) fun ρ w' H => ?_
    obtain ⟨v0, e0, p0⟩ := H.dep 0 41 (by kernel_rfl)
    have p0 : (Wh b X2) v0 w' := p0
    obtain ⟨v1, e1, p1⟩ := H.dep 1 42 (by kernel_rfl)
    have p1 : (Wh b X2) v1 w' := p1
    exact OpTo.call 108 #[v0, v1] _ _ _ rfl (H.fn 108) (enters_of Tryz.func108 (by kernel_rfl) rfl) (by simp [e0, e1]) ((mul_of (zX2.mono (by omega)) (zX2.mono (by omega)) rfl _ _ w' p0.rd p1.rd).mono fun e w2 ⟨v, h1, h2, h3⟩ => ⟨v, h1, h3, h2.le (Nat.le_trans hbW H.bel.size)⟩)
  · refine StepT.q _ (by rfl) (by rfl) fun ρ w' H => ?_
    obtain ⟨v2, e2, p2⟩ := H.dep 2 43 (by kernel_rfl)
    have p2 : (Wh b (X2 * X2)) v2 w' := p2
    exact OpTo.call 107 #[v2, (Value.int IntKind.i64 3)] _ _ _ rfl (H.fn 107) (enters_of Tryz.func107 (by kernel_rfl) rfl) (by simp [e2, H.con]) ((times_of ((zX2.mul zX2).mono (by omega)) (by omega) rfl _ w' p2.rd).mono fun e w2 ⟨v, h1, h2, h3⟩ => ⟨v, h1, h3, h2.le (Nat.le_trans hbW H.bel.size)⟩)
  · refine StepT.q _ (by rfl) (by rfl) fun ρ w' H => ?_
    have hx : ρ (.tmp 9) = .pointer (some ⟨r9, 0, none⟩) := H.bas 9 (by kernel_rfl); exact op_ldW _ rfl hx (k2.next H.bel)
  · refine StepT.q _ (by rfl) (by rfl) fun ρ w' H => ?_
    exact op_field0 _ rfl (H.bas 3 (by kernel_rfl))
  · refine StepT.q _ (by rfl) (by rfl) fun ρ w' H => ?_
    obtain ⟨v5, e5, p5⟩ := H.dep 5 46 (by kernel_rfl)
    obtain rfl : v5 = .pointer (some ⟨b, 0, none⟩) := p5
    exact op_ldI _ rfl e5 ((kC.next H.bel).cell 0)
  · refine StepT.q _ (by rfl) (by rfl) fun ρ w' H => ?_
    obtain ⟨v6, e6, p6⟩ := H.dep 6 47 (by kernel_rfl)
    obtain rfl : v6 = .int .i64 A := p6
    exact op_mul _ _ rfl (H.con _) e6 (by omega)
  · refine StepT.q _ (by rfl) (by rfl) fun ρ w' H => ?_
    obtain ⟨v4, e4, p4⟩ := H.dep 4 45 (by kernel_rfl)
    have p4 : (Wh b X2) v4 w' := p4
    obtain ⟨v7, e7, p7⟩ := H.dep 7 48 (by kernel_rfl)
    obtain rfl : v7 = .int .i64 (6 * A) := p7
    exact OpTo.call 107 #[v4, .int .i64 (6 * A)] _ _ _ rfl (H.fn 107) (enters_of Tryz.func107 (by kernel_rfl) rfl) (by simp [e4, e7]) ((times_of (zX2.mono (by omega)) (by omega) rfl _ w' p4.rd).mono fun e w2 ⟨v, h1, h2, h3⟩ => ⟨v, h1, h3, h2.le (Nat.le_trans hbW H.bel.size)⟩)
  · refine StepT.q _ (by rfl) (by rfl) fun ρ w' H => ?_
    obtain ⟨v3, e3, p3⟩ := H.dep 3 44 (by kernel_rfl)
    have p3 : (Wh b (X2 * X2 * 3)) v3 w' := p3
    obtain ⟨v8, e8, p8⟩ := H.dep 8 49 (by kernel_rfl)
    have p8 : (Wh b (X2 * (6 * A))) v8 w' := p8
    exact OpTo.call 106 #[v3, v8] _ _ _ rfl (H.fn 106) (enters_of Tryz.func106 (by kernel_rfl) rfl) (by simp [e3, e8]) ((add_of zt1 zt2 rfl _ _ w' p3.rd p8.rd).mono fun e w2 ⟨v, h1, h2, h3⟩ => ⟨v, h1, h3, h2.le (Nat.le_trans hbW H.bel.size)⟩)
  · refine StepT.q _ (by rfl) (by rfl) fun ρ w' H => ?_
    have hx : ρ (.tmp 7) = .pointer (some ⟨r7, 0, none⟩) := H.bas 7 (by kernel_rfl); exact op_ldW _ rfl hx (kx.next H.bel)
  · refine StepT.q _ (by rfl) (by rfl) fun ρ w' H => ?_
    exact op_field1 _ rfl (H.bas 3 (by kernel_rfl))
  · refine StepT.q _ (by rfl) (by rfl) fun ρ w' H => ?_
    obtain ⟨v11, e11, p11⟩ := H.dep 11 52 (by kernel_rfl)
    obtain rfl : v11 = .pointer (some ⟨b, 1, none⟩) := p11
    exact op_ldI _ rfl e11 ((kC.next H.bel).cell 1)
  · refine StepT.q _ (by rfl) (by rfl) fun ρ w' H => ?_
    obtain ⟨v12, e12, p12⟩ := H.dep 12 53 (by kernel_rfl)
    obtain rfl : v12 = .int .i64 B := p12
    exact op_mul _ _ rfl (H.con _) e12 (by omega)
  · refine StepT.q _ (by rfl) (by rfl) fun ρ w' H => ?_
    obtain ⟨v10, e10, p10⟩ := H.dep 10 51 (by kernel_rfl)
    have p10 : (Wh b x) v10 w' := p10
    obtain ⟨v13, e13, p13⟩ := H.dep 13 54 (by kernel_rfl)
    obtain rfl : v13 = .int .i64 (12 * B) := p13
    exact OpTo.call 107 #[v10, .int .i64 (12 * B)] _ _ _ rfl (H.fn 107) (enters_of Tryz.func107 (by kernel_rfl) rfl) (by simp [e10, e13]) ((times_of zx (by omega) rfl _ w' p10.rd).mono fun e w2 ⟨v, h1, h2, h3⟩ => ⟨v, h1, h3, h2.le (Nat.le_trans hbW H.bel.size)⟩)
  · refine StepT.q _ (by rfl) (by rfl) fun ρ w' H => ?_
    obtain ⟨v9, e9, p9⟩ := H.dep 9 50 (by kernel_rfl)
    have p9 : (Wh b (X2 * X2 * 3 + X2 * (6 * A))) v9 w' := p9
    obtain ⟨v14, e14, p14⟩ := H.dep 14 55 (by kernel_rfl)
    have p14 : (Wh b (x * (12 * B))) v14 w' := p14
    exact OpTo.call 106 #[v9, v14] _ _ _ rfl (H.fn 106) (enters_of Tryz.func106 (by kernel_rfl) rfl) (by simp [e9, e14]) ((add_of zt3 zt4 rfl _ _ w' p9.rd p14.rd).mono fun e w2 ⟨v, h1, h2, h3⟩ => ⟨v, h1, h3, h2.le (Nat.le_trans hbW H.bel.size)⟩)
  · refine StepT.q _ (by rfl) (by rfl) fun ρ w' H => ?_
    exact op_field0 _ rfl (H.bas 3 (by kernel_rfl))
  · refine StepT.q _ (by rfl) (by rfl) fun ρ w' H => ?_
    obtain ⟨v16, e16, p16⟩ := H.dep 16 57 (by kernel_rfl)
    obtain rfl : v16 = .pointer (some ⟨b, 0, none⟩) := p16
    exact op_ldI _ rfl e16 ((kC.next H.bel).cell 0)
  · refine StepT.q _ (by rfl) (by rfl) fun ρ w' H => ?_
    exact op_field0 _ rfl (H.bas 3 (by kernel_rfl))
  · refine StepT.q _ (by rfl) (by rfl) fun ρ w' H => ?_
    obtain ⟨v18, e18, p18⟩ := H.dep 18 59 (by kernel_rfl)
    obtain rfl : v18 = .pointer (some ⟨b, 0, none⟩) := p18
    exact op_ldI _ rfl e18 ((kC.next H.bel).cell 0)
  · refine StepT.q _ (by rfl) (by rfl) fun ρ w' H => ?_
    obtain ⟨v17, e17, p17⟩ := H.dep 17 58 (by kernel_rfl)
    obtain rfl : v17 = .int .i64 A := p17
    obtain ⟨v19, e19, p19⟩ := H.dep 19 60 (by kernel_rfl)
    obtain rfl : v19 = .int .i64 A := p19
    exact op_mul _ _ rfl e17 e19 (by omega)
  · refine StepT.q _ (by rfl) (by rfl) fun ρ w' H => ?_
    obtain ⟨v20, e20, p20⟩ := H.dep 20 61 (by kernel_rfl)
    obtain rfl : v20 = .int .i64 (A * A) := p20
    exact OpTo.call 91 #[.int .i64 (A * A)] _ _ _ rfl (H.fn 91) (enters_of Tryz.func91 (by kernel_rfl) rfl) (by simp [e20]) ((c_bgOf (A * A) (by omega) w').mono fun e w2 ⟨v, h1, h2, h3⟩ => ⟨v, h1, h3, h2.le (Nat.le_trans hbW H.bel.size)⟩)
  · refine StepT.q _ (by rfl) (by rfl) fun ρ w' H => ?_
    obtain ⟨v15, e15, p15⟩ := H.dep 15 56 (by kernel_rfl)
    have p15 : (Wh b (X2 * X2 * 3 + X2 * (6 * A) + x * (12 * B))) v15 w' := p15
    obtain ⟨v21, e21, p21⟩ := H.dep 21 62 (by kernel_rfl)
    have p21 : (Wh b (A * A)) v21 w' := p21
    exact OpTo.call 90 #[v15, v21] _ _ _ rfl (H.fn 90) (enters_of Tryz.func90 (by kernel_rfl) rfl) (by simp [e15, e21]) ((sub_of zt5 zt6 HT.out _ _ w' p15.rd p21.rd).mono fun e w2 ⟨v, h1, h2, h3⟩ => ⟨v, h1, h3, h2.le (Nat.le_trans hbW H.bel.size)⟩)
  · refine StepT.a _ (by rfl) fun ρ w' H => ?_
    exact OpTo.alloc rfl (fun w => by simp [go_sem]) H.bel.size
  intro vs Wt hBt hDt
  have hV22 : (Wh b (dvT A B x)) (vs 22) Wt := hDt.1 22 (by omega)
  have hV23 : (PA W6.heap.size #[.bool false, .slice none 0 0] 37) (vs 23) Wt := hDt.1 23 (by omega)
  obtain ⟨r13, ea13, hr13, kr13⟩ := hV23
  clear hDt
  simp only [mergeS, Nat.reduceBEq, cond_true, cond_false, Nat.reduceAdd, List.drop_succ_cons, List.drop_zero, ea13]
  obtain ⟨lv13, ev13, rv13, cv13⟩ := hV22.cell
  obtain ⟨sl13, sc13, rfl, _⟩ := id rv13.1
  simp only [ev13]
  have x0 : Wt.cell? ⟨r13, 0, none⟩ = some (.bool false) := kr13.cell 0
  have x1 : Wt.cell? ⟨r13, 1, none⟩ = some (.slice none 0 0) := kr13.cell 1
  have x2 := kr13.frozen 0
  have x3 := kr13.frozen 1
  have x4 := kr13.lt
  have kT : BlkW b r13 (dvT A B x) ((Wt.setCell ⟨r13, 0, none⟩ (.bool (decide (dvT A B x < 0)))).setCell ⟨r13, 1, none⟩ (.slice sl13 (dg (dvT A B x).natAbs).length sc13)) := BlkW.put kr13 rfl rv13 cv13
  have hBf : Below W6.heap.size W6 ((Wt.setCell ⟨r13, 0, none⟩ (.bool (decide (dvT A B x < 0)))).setCell ⟨r13, 1, none⟩ (.slice sl13 (dg (dvT A B x).natAbs).length sc13)) := (hBt.setCell hr13 _).setCell hr13 _
  replace kC := kC.next hBf
  replace kx := kx.next hBf
  replace k2 := k2.next hBf
  replace k3 := k3.next hBf
  replace kG := kG.next hBf
  replace hb0 : Below b w _ := below_step hBf hbW hb0
  have q13 := hr13
  replace hbW := Nat.le_trans hbW hBf.size
  clear hV22 hBt kr13 ev13 rv13 cv13
  go_upto_region 7 with (fail)
  generalize (World.setCell (World.setCell _ _ _) _ _) = W7 at *
  clear x0 x1 x2 x3 x4 hBf hr13
  have h8c : Hid (b < W7.heap.size ∧ r7 < W7.heap.size ∧ r9 < W7.heap.size ∧ r10 < W7.heap.size ∧ r12 < W7.heap.size ∧ r13 < W7.heap.size) := ⟨kC.lt, kx.lt, k2.lt, k3.lt, kG.lt, kT.lt⟩
  refine wp_region_tab 12 [11] [(11, 14), (0, 64), (1, 65), (2, 66), (3, 67), (4, 68), (5, 69), (6, 70), (7, 71), (8, 72), (9, 73), (10, 74)] [Wh b X3, Wh b X3, Wh b (X3 * X3), Wh b X2, Wh b X2, Wh b (X2 * X2), IsV (.pointer (some ⟨b, 0, none⟩)), IsV (.int .i64 A), IsV (.int .i64 (5 * A)), Wh b (X2 * X2 * (5 * A)), Wh b (R1), PA W7.heap.size #[.bool false, .slice none 0 0] 37] (by kernel_rfl) (by kernel_rfl) (by kernel_rfl) ⟨⟨_, _, _, rfl⟩, trivial⟩ ⟨Wh.closed _ _, Wh.closed _ _, Wh.closed _ _, Wh.closed _ _, Wh.closed _ _, Wh.closed _ _, IsV.closed _, IsV.closed _, IsV.closed _, Wh.closed _ _, Wh.closed _ _, PA.closed _ _ _, trivial⟩ ⟨?_, ?_, ?_, ?_, ?_, ?_, ?_, ?_, ?_, ?_, ?_, ?_, trivial⟩ ?_
  · refine StepT.q _ (by rfl) (by rfl) fun ρ w' H => ?_
    have hx : ρ (.tmp 10) = .pointer (some ⟨r10, 0, none⟩) := H.bas 10 (by kernel_rfl); exact op_ldW _ rfl hx (k3.next H.bel)
  · refine StepT.q _ (by rfl) (by rfl) fun ρ w' H => ?_
    have hx : ρ (.tmp 10) = .pointer (some ⟨r10, 0, none⟩) := H.bas 10 (by kernel_rfl); exact op_ldW _ rfl hx (k3.next H.bel)
  · refine StepT.q _ (by rfl) (by rfl) fun ρ w' H => ?_
    obtain ⟨v0, e0, p0⟩ := H.dep 0 64 (by kernel_rfl)
    have p0 : (Wh b X3) v0 w' := p0
    obtain ⟨v1, e1, p1⟩ := H.dep 1 65 (by kernel_rfl)
    have p1 : (Wh b X3) v1 w' := p1
    exact OpTo.call 108 #[v0, v1] _ _ _ rfl (H.fn 108) (enters_of Tryz.func108 (by kernel_rfl) rfl) (by simp [e0, e1]) ((mul_of (zX3.mono (by omega)) (zX3.mono (by omega)) rfl _ _ w' p0.rd p1.rd).mono fun e w2 ⟨v, h1, h2, h3⟩ => ⟨v, h1, h3, h2.le (Nat.le_trans hbW H.bel.size)⟩)
  · refine StepT.q _ (by rfl) (by rfl) fun ρ w' H => ?_
    have hx : ρ (.tmp 9) = .pointer (some ⟨r9, 0, none⟩) := H.bas 9 (by kernel_rfl); exact op_ldW _ rfl hx (k2.next H.bel)
  · refine StepT.q _ (by rfl) (by rfl) fun ρ w' H => ?_
    have hx : ρ (.tmp 9) = .pointer (some ⟨r9, 0, none⟩) := H.bas 9 (by kernel_rfl); exact op_ldW _ rfl hx (k2.next H.bel)
  · refine StepT.q _ (by rfl) (by rfl) fun ρ w' H => ?_
    obtain ⟨v3, e3, p3⟩ := H.dep 3 67 (by kernel_rfl)
    have p3 : (Wh b X2) v3 w' := p3
    obtain ⟨v4, e4, p4⟩ := H.dep 4 68 (by kernel_rfl)
    have p4 : (Wh b X2) v4 w' := p4
    exact OpTo.call 108 #[v3, v4] _ _ _ rfl (H.fn 108) (enters_of Tryz.func108 (by kernel_rfl) rfl) (by simp [e3, e4]) ((mul_of (zX2.mono (by omega)) (zX2.mono (by omega)) rfl _ _ w' p3.rd p4.rd).mono fun e w2 ⟨v, h1, h2, h3⟩ => ⟨v, h1, h3, h2.le (Nat.le_trans hbW H.bel.size)⟩)
  · refine StepT.q _ (by rfl) (by rfl) fun ρ w' H => ?_
    exact op_field0 _ rfl (H.bas 3 (by kernel_rfl))
  · refine StepT.q _ (by rfl) (by rfl) fun ρ w' H => ?_
    obtain ⟨v6, e6, p6⟩ := H.dep 6 70 (by kernel_rfl)
    obtain rfl : v6 = .pointer (some ⟨b, 0, none⟩) := p6
    exact op_ldI _ rfl e6 ((kC.next H.bel).cell 0)
  · refine StepT.q _ (by rfl) (by rfl) fun ρ w' H => ?_
    obtain ⟨v7, e7, p7⟩ := H.dep 7 71 (by kernel_rfl)
    obtain rfl : v7 = .int .i64 A := p7
    exact op_mul _ _ rfl (H.con _) e7 (by omega)
  · refine StepT.q _ (by rfl) (by rfl) fun ρ w' H => ?_
    obtain ⟨v5, e5, p5⟩ := H.dep 5 69 (by kernel_rfl)
    have p5 : (Wh b (X2 * X2)) v5 w' := p5
    obtain ⟨v8, e8, p8⟩ := H.dep 8 72 (by kernel_rfl)
    obtain rfl : v8 = .int .i64 (5 * A) := p8
    exact OpTo.call 107 #[v5, .int .i64 (5 * A)] _ _ _ rfl (H.fn 107) (enters_of Tryz.func107 (by kernel_rfl) rfl) (by simp [e5, e8]) ((times_of ((zX2.mul zX2).mono (by omega)) (by omega) rfl _ w' p5.rd).mono fun e w2 ⟨v, h1, h2, h3⟩ => ⟨v, h1, h3, h2.le (Nat.le_trans hbW H.bel.size)⟩)
  · refine StepT.q _ (by rfl) (by rfl) fun ρ w' H => ?_
    obtain ⟨v2, e2, p2⟩ := H.dep 2 66 (by kernel_rfl)
    have p2 : (Wh b (X3 * X3)) v2 w' := p2
    obtain ⟨v9, e9, p9⟩ := H.dep 9 73 (by kernel_rfl)
    have p9 : (Wh b (X2 * X2 * (5 * A))) v9 w' := p9
    exact OpTo.call 106 #[v2, v9] _ _ _ rfl (H.fn 106) (enters_of Tryz.func106 (by kernel_rfl) rfl) (by simp [e2, e9]) ((add_of ((zX3.mul zX3).mono (by omega)) (((zX2.mul zX2).mul z5A).mono (by omega)) HR1.out _ _ w' p2.rd p9.rd).mono fun e w2 ⟨v, h1, h2, h3⟩ => ⟨v, h1, h3, h2.le (Nat.le_trans hbW H.bel.size)⟩)
  · refine StepT.a _ (by rfl) fun ρ w' H => ?_
    exact OpTo.alloc rfl (fun w => by simp [go_sem]) H.bel.size
  intro vs Wt hBt hDt
  have hV10 : (Wh b (R1)) (vs 10) Wt := hDt.1 10 (by omega)
  have hV11 : (PA W7.heap.size #[.bool false, .slice none 0 0] 37) (vs 11) Wt := hDt.1 11 (by omega)
  obtain ⟨r14, ea14, hr14, kr14⟩ := hV11
  clear hDt
  simp only [mergeS, Nat.reduceBEq, cond_true, cond_false, Nat.reduceAdd, List.drop_succ_cons, List.drop_zero, ea14]
  obtain ⟨lv14, ev14, rv14, cv14⟩ := hV10.cell
  obtain ⟨sl14, sc14, rfl, _⟩ := id rv14.1
  simp only [ev14]
  have x0 : Wt.cell? ⟨r14, 0, none⟩ = some (.bool false) := kr14.cell 0
  have x1 : Wt.cell? ⟨r14, 1, none⟩ = some (.slice none 0 0) := kr14.cell 1
  have x2 := kr14.frozen 0
  have x3 := kr14.frozen 1
  have x4 := kr14.lt
  have kU : BlkW b r14 (R1) ((Wt.setCell ⟨r14, 0, none⟩ (.bool (decide (R1 < 0)))).setCell ⟨r14, 1, none⟩ (.slice sl14 (dg (R1).natAbs).length sc14)) := BlkW.put kr14 rfl rv14 cv14
  have hBf : Below W7.heap.size W7 ((Wt.setCell ⟨r14, 0, none⟩ (.bool (decide (R1 < 0)))).setCell ⟨r14, 1, none⟩ (.slice sl14 (dg (R1).natAbs).length sc14)) := (hBt.setCell hr14 _).setCell hr14 _
  replace kC := kC.next hBf
  replace kx := kx.next hBf
  replace k2 := k2.next hBf
  replace k3 := k3.next hBf
  replace kG := kG.next hBf
  replace kT := kT.next hBf
  replace hb0 : Below b w _ := below_step hBf hbW hb0
  have q14 := hr14
  replace hbW := Nat.le_trans hbW hBf.size
  clear hV10 hBt kr14 ev14 rv14 cv14
  go_upto_region 8 with (fail)
  generalize (World.setCell (World.setCell _ _ _) _ _) = W8 at *
  clear x0 x1 x2 x3 x4 hBf hr14
  have hs14 : b < r14 ∧ r7 < r14 ∧ r9 < r14 ∧ r10 < r14 ∧ r12 < r14 ∧ r13 < r14 := by
    have := q14
    have := h8c.out
    omega
  refine wp_region_tab 7 [] [(0, 75), (1, 76), (2, 77), (3, 78), (4, 79), (5, 80), (6, 81)] [Wh b R1, Wh b X3, IsV (.pointer (some ⟨b, 1, none⟩)), IsV (.int .i64 B), IsV (.int .i64 (20 * B)), Wh b (X3 * (20 * B)), Wh b (R2)] (by kernel_rfl) (by kernel_rfl) (by kernel_rfl) trivial ⟨Wh.closed _ _, Wh.closed _ _, IsV.closed _, IsV.closed _, IsV.closed _, Wh.closed _ _, Wh.closed _ _, trivial⟩ ⟨?_, ?_, ?_, ?_, ?_, ?_, ?_, trivial⟩ ?_
  · refine StepT.q _ (by rfl) (by rfl) fun ρ w' H => ?_
    have hx : ρ (.tmp 14) = .pointer (some ⟨r14, 0, none⟩) := H.bas 14 (by kernel_rfl); exact op_ldW _ rfl hx (kU.next H.bel)
  · refine StepT.q _ (by rfl) (by rfl) fun ρ w' H => ?_
    have hx : ρ (.tmp 10) = .pointer (some ⟨r10, 0, none⟩) := H.bas 10 (by kernel_rfl); exact op_ldW _ rfl hx (k3.next H.bel)
  · refine StepT.q _ (by rfl) (by rfl) fun ρ w' H => ?_
    exact op_field1 _ rfl (H.bas 3 (by kernel_rfl))
  · refine StepT.q _ (by rfl) (by rfl) fun ρ w' H => ?_
    obtain ⟨v2, e2, p2⟩ := H.dep 2 77 (by kernel_rfl)
    obtain rfl : v2 = .pointer (some ⟨b, 1, none⟩) := p2
    exact op_ldI _ rfl e2 ((kC.next H.bel).cell 1)
  · refine StepT.q _ (by rfl) (by rfl) fun ρ w' H => ?_
    obtain ⟨v3, e3, p3⟩ := H.dep 3 78 (by kernel_rfl)
    obtain rfl : v3 = .int .i64 B := p3
    exact op_mul _ _ rfl (H.con _) e3 (by omega)
  · refine StepT.q _ (by rfl) (by rfl) fun ρ w' H => ?_
    obtain ⟨v1, e1, p1⟩ := H.dep 1 76 (by kernel_rfl)
    have p1 : (Wh b X3) v1 w' := p1
    obtain ⟨v4, e4, p4⟩ := H.dep 4 79 (by kernel_rfl)
    obtain rfl : v4 = .int .i64 (20 * B) := p4
    exact OpTo.call 107 #[v1, .int .i64 (20 * B)] _ _ _ rfl (H.fn 107) (enters_of Tryz.func107 (by kernel_rfl) rfl) (by simp [e1, e4]) ((times_of (zX3.mono (by omega)) (by omega) rfl _ w' p1.rd).mono fun e w2 ⟨v, h1, h2, h3⟩ => ⟨v, h1, h3, h2.le (Nat.le_trans hbW H.bel.size)⟩)
  · refine StepT.q _ (by rfl) (by rfl) fun ρ w' H => ?_
    obtain ⟨v0, e0, p0⟩ := H.dep 0 75 (by kernel_rfl)
    have p0 : (Wh b R1) v0 w' := p0
    obtain ⟨v5, e5, p5⟩ := H.dep 5 80 (by kernel_rfl)
    have p5 : (Wh b (X3 * (20 * B))) v5 w' := p5
    exact OpTo.call 106 #[v0, v5] _ _ _ rfl (H.fn 106) (enters_of Tryz.func106 (by kernel_rfl) rfl) (by simp [e0, e5]) ((add_of (zR1.mono (by omega)) ((zX3.mul z20B).mono (by omega)) HR2.out _ _ w' p0.rd p5.rd).mono fun e w2 ⟨v, h1, h2, h3⟩ => ⟨v, h1, h3, h2.le (Nat.le_trans hbW H.bel.size)⟩)
  intro vs Wt hBt hDt
  have hV6 : (Wh b (R2)) (vs 6) Wt := hDt.1 6 (by omega)
  clear hDt
  simp only [mergeS, Nat.reduceBEq, cond_true, cond_false, Nat.reduceAdd, List.drop_succ_cons, List.drop_zero]
  replace kC := kC.next hBt
  replace kx := kx.next hBt
  replace k2 := k2.next hBt
  replace k3 := k3.next hBt
  replace kG := kG.next hBt
  replace kT := kT.next hBt
  replace kU := kU.next hBt
  replace hb0 : Below b w _ := below_step hBt hbW hb0
  replace hbW := Nat.le_trans hbW hBt.size
  obtain ⟨lvU, evU, rvU, cvU⟩ := hV6.cell
  obtain ⟨slU, scU, rfl, _⟩ := id rvU.1
  simp only [evU]
  obtain ⟨lo, kr, _, _⟩ := id kU
  have x0 : Wt.cell? ⟨r14, 0, none⟩ = some (.bool (decide (R1 < 0))) := kr.cell 0
  have x1 : Wt.cell? ⟨r14, 1, none⟩ = some lo := kr.cell 1
  have x2 := kr.frozen 0
  have x3 := kr.frozen 1
  have x4 := kr.lt
  have kU9 : BlkW b r14 (R2) ((Wt.setCell ⟨r14, 0, none⟩ (.bool (decide (R2 < 0)))).setCell ⟨r14, 1, none⟩ (.slice slU (dg (R2).natAbs).length scU)) := BlkW.put kr rfl rvU cvU
  replace kx := kx.far (r' := r14) (by omega) kr (.bool (decide (R2 < 0))) (.slice slU (dg (R2).natAbs).length scU)
  replace k2 := k2.far (r' := r14) (by omega) kr (.bool (decide (R2 < 0))) (.slice slU (dg (R2).natAbs).length scU)
  replace k3 := k3.far (r' := r14) (by omega) kr (.bool (decide (R2 < 0))) (.slice slU (dg (R2).natAbs).length scU)
  replace kG := kG.far (r' := r14) (by omega) kr (.bool (decide (R2 < 0))) (.slice slU (dg (R2).natAbs).length scU)
  replace kT := kT.far (r' := r14) (by omega) kr (.bool (decide (R2 < 0))) (.slice slU (dg (R2).natAbs).length scU)
  replace kC := (kC.far (p := ⟨r14, 0, none⟩) (by show b ≠ r14; omega) (.bool (decide (R2 < 0)))).far (p := ⟨r14, 1, none⟩) (by show b ≠ r14; omega) (.slice slU (dg (R2).natAbs).length scU)
  replace hb0 : Below b w ((Wt.setCell ⟨r14, 0, none⟩ (.bool (decide (R2 < 0)))).setCell ⟨r14, 1, none⟩ (.slice slU (dg (R2).natAbs).length scU)) := (hb0.setCell (by show b ≤ r14; omega) _).setCell (by show b ≤ r14; omega) _
  replace hbW : b ≤ ((Wt.setCell ⟨r14, 0, none⟩ (.bool (decide (R2 < 0)))).setCell ⟨r14, 1, none⟩ (.slice slU (dg (R2).natAbs).length scU)).heap.size := by simpa [World.setCell] using hbW
  clear hV6 hBt evU rvU cvU kr
  go_upto_region 9 with (fail)
  generalize (World.setCell (World.setCell _ _ _) _ _) = W9 at *
  clear x0 x1 x2 x3 x4 kU
  have kU := kU9
  clear kU9
  refine wp_region_tab 10 [] [(0, 82), (1, 83), (2, 84), (3, 85), (4, 86), (5, 87), (6, 88), (7, 89), (8, 90), (9, 91)] [Wh b R2, Wh b X2, IsV (.pointer (some ⟨b, 0, none⟩)), IsV (.int .i64 A), IsV (.int .i64 (5 * A)), IsV (.pointer (some ⟨b, 0, none⟩)), IsV (.int .i64 A), IsV (.int .i64 (5 * A * A)), Wh b (X2 * (5 * A * A)), Wh b (R3)] (by kernel_rfl) (by kernel_rfl) (by kernel_rfl) trivial ⟨Wh.closed _ _, Wh.closed _ _, IsV.closed _, IsV.closed _, IsV.closed _, IsV.closed _, IsV.closed _, IsV.closed _, Wh.closed _ _, Wh.closed _ _, trivial⟩ ⟨?_, ?_, ?_, ?_, ?_, ?_, ?_, ?_, ?_, ?_, trivial⟩ ?_
  · refine StepT.q _ (by rfl) (by rfl) fun ρ w' H => ?_
    have hx : ρ (.tmp 14) = .pointer (some ⟨r14, 0, none⟩) := H.bas 14 (by kernel_rfl); exact op_ldW _ rfl hx (kU.next H.bel)
  · refine StepT.q _ (by rfl) (by rfl) fun ρ w' H => ?_
    have hx : ρ (.tmp 9) = .pointer (some ⟨r9, 0, none⟩) := H.bas 9 (by kernel_rfl); exact op_ldW _ rfl hx (k2.next H.bel)
  · refine StepT.q _ (by rfl) (by rfl) fun ρ w' H => ?_
    exact op_field0 _ rfl (H.bas 3 (by kernel_rfl))
  · refine StepT.q _ (by rfl) (by rfl) fun ρ w' H => ?_
    obtain ⟨v2, e2, p2⟩ := H.dep 2 84 (by kernel_rfl)
    obtain rfl : v2 = .pointer (some ⟨b, 0, none⟩) := p2
    exact op_ldI _ rfl e2 ((kC.next H.bel).cell 0)
  · refine StepT.q _ (by rfl) (by rfl) fun ρ w' H => ?_
    obtain ⟨v3, e3, p3⟩ := H.dep 3 85 (by kernel_rfl)
    obtain rfl : v3 = .int .i64 A := p3
    exact op_mul _ _ rfl (H.con _) e3 (by omega)
  · refine StepT.q _ (by rfl) (by rfl) fun ρ w' H => ?_
    exact op_field0 _ rfl (H.bas 3 (by kernel_rfl))
  · refine StepT.q _ (by rfl) (by rfl) fun ρ w' H => ?_
    obtain ⟨v5, e5, p5⟩ := H.dep 5 87 (by kernel_rfl)
    obtain rfl : v5 = .pointer (some ⟨b, 0, none⟩) := p5
    exact op_ldI _ rfl e5 ((kC.next H.bel).cell 0)
  · refine StepT.q _ (by rfl) (by rfl) fun ρ w' H => ?_
    obtain ⟨v4, e4, p4⟩ := H.dep 4 86 (by kernel_rfl)
    obtain rfl : v4 = .int .i64 (5 * A) := p4
    obtain ⟨v6, e6, p6⟩ := H.dep 6 88 (by kernel_rfl)
    obtain rfl : v6 = .int .i64 A := p6
    exact op_mul _ _ rfl e4 e6 (by omega)
  · refine StepT.q _ (by rfl) (by rfl) fun ρ w' H => ?_
    obtain ⟨v1, e1, p1⟩ := H.dep 1 83 (by kernel_rfl)
    have p1 : (Wh b X2) v1 w' := p1
    obtain ⟨v7, e7, p7⟩ := H.dep 7 89 (by kernel_rfl)
    obtain rfl : v7 = .int .i64 (5 * A * A) := p7
    exact OpTo.call 107 #[v1, .int .i64 (5 * A * A)] _ _ _ rfl (H.fn 107) (enters_of Tryz.func107 (by kernel_rfl) rfl) (by simp [e1, e7]) ((times_of (zX2.mono (by omega)) (by omega) rfl _ w' p1.rd).mono fun e w2 ⟨v, h1, h2, h3⟩ => ⟨v, h1, h3, h2.le (Nat.le_trans hbW H.bel.size)⟩)
  · refine StepT.q _ (by rfl) (by rfl) fun ρ w' H => ?_
    obtain ⟨v0, e0, p0⟩ := H.dep 0 82 (by kernel_rfl)
    have p0 : (Wh b R2) v0 w' := p0
    obtain ⟨v8, e8, p8⟩ := H.dep 8 90 (by kernel_rfl)
    have p8 : (Wh b (X2 * (5 * A * A))) v8 w' := p8
    exact OpTo.call 90 #[v0, v8] _ _ _ rfl (H.fn 90) (enters_of Tryz.func90 (by kernel_rfl) rfl) (by simp [e0, e8]) ((sub_of (zR2.mono (by omega)) ((zX2.mul z5AA).mono (by omega)) HR3.out _ _ w' p0.rd p8.rd).mono fun e w2 ⟨v, h1, h2, h3⟩ => ⟨v, h1, h3, h2.le (Nat.le_trans hbW H.bel.size)⟩)
  intro vs Wt hBt hDt
  have hV9 : (Wh b (R3)) (vs 9) Wt := hDt.1 9 (by omega)
  clear hDt
  simp only [mergeS, Nat.reduceBEq, cond_true, cond_false, Nat.reduceAdd, List.drop_succ_cons, List.drop_zero]
  replace kC := kC.next hBt
  replace kx := kx.next hBt
  replace k2 := k2.next hBt
  replace k3 := k3.next hBt
  replace kG := kG.next hBt
  replace kT := kT.next hBt
  replace kU := kU.next hBt
  replace hb0 : Below b w _ := below_step hBt hbW hb0
  replace hbW := Nat.le_trans hbW hBt.size
  obtain ⟨lvU, evU, rvU, cvU⟩ := hV9.cell
  obtain ⟨slU, scU, rfl, _⟩ := id rvU.1
  simp only [evU]
  obtain ⟨lo, kr, _, _⟩ := id kU
  have x0 : Wt.cell? ⟨r14, 0, none⟩ = some (.bool (decide (R2 < 0))) := kr.cell 0
  have x1 : Wt.cell? ⟨r14, 1, none⟩ = some lo := kr.cell 1
  have x2 := kr.frozen 0
  have x3 := kr.frozen 1
  have x4 := kr.lt
  have kU9 : BlkW b r14 (R3) ((Wt.setCell ⟨r14, 0, none⟩ (.bool (decide (R3 < 0)))).setCell ⟨r14, 1, none⟩ (.slice slU (dg (R3).natAbs).length scU)) := BlkW.put kr rfl rvU cvU
  replace kx := kx.far (r' := r14) (by omega) kr (.bool (decide (R3 < 0))) (.slice slU (dg (R3).natAbs).length scU)
  replace k2 := k2.far (r' := r14) (by omega) kr (.bool (decide (R3 < 0))) (.slice slU (dg (R3).natAbs).length scU)
  replace k3 := k3.far (r' := r14) (by omega) kr (.bool (decide (R3 < 0))) (.slice slU (dg (R3).natAbs).length scU)
  replace kG := kG.far (r' := r14) (by omega) kr (.bool (decide (R3 < 0))) (.slice slU (dg (R3).natAbs).length scU)
  replace kT := kT.far (r' := r14) (by omega) kr (.bool (decide (R3 < 0))) (.slice slU (dg (R3).natAbs).length scU)
  replace kC := (kC.far (p := ⟨r14, 0, none⟩) (by show b ≠ r14; omega) (.bool (decide (R3 < 0)))).far (p := ⟨r14, 1, none⟩) (by show b ≠ r14; omega) (.slice slU (dg (R3).natAbs).length scU)
  replace hb0 : Below b w ((Wt.setCell ⟨r14, 0, none⟩ (.bool (decide (R3 < 0)))).setCell ⟨r14, 1, none⟩ (.slice slU (dg (R3).natAbs).length scU)) := (hb0.setCell (by show b ≤ r14; omega) _).setCell (by show b ≤ r14; omega) _
  replace hbW : b ≤ ((Wt.setCell ⟨r14, 0, none⟩ (.bool (decide (R3 < 0)))).setCell ⟨r14, 1, none⟩ (.slice slU (dg (R3).natAbs).length scU)).heap.size := by simpa [World.setCell] using hbW
  clear hV9 hBt evU rvU cvU kr
  go_upto_region 10 with (fail)
  generalize (World.setCell (World.setCell _ _ _) _ _) = W10 at *
  clear x0 x1 x2 x3 x4 kU
  have kU := kU9
  clear kU9
  refine wp_region_tab 10 [] [(0, 92), (1, 93), (2, 94), (3, 95), (4, 96), (5, 97), (6, 98), (7, 99), (8, 100), (9, 101)] [Wh b R3, Wh b x, IsV (.pointer (some ⟨b, 0, none⟩)), IsV (.int .i64 A), IsV (.int .i64 (4 * A)), IsV (.pointer (some ⟨b, 1, none⟩)), IsV (.int .i64 B), IsV (.int .i64 (4 * A * B)), Wh b (x * (4 * A * B)), Wh b (R4)] (by kernel_rfl) (by kernel_rfl) (by kernel_rfl) trivial ⟨Wh.closed _ _, Wh.closed _ _, IsV.closed _, IsV.closed _, IsV.closed _, IsV.closed _, IsV.closed _, IsV.closed _, Wh.closed _ _, Wh.closed _ _, trivial⟩ ⟨?_, ?_, ?_, ?_, ?_, ?_, ?_, ?_, ?_, ?_, trivial⟩ ?_
  · refine StepT.q _ (by rfl) (by rfl) fun ρ w' H => ?_
    have hx : ρ (.tmp 14) = .pointer (some ⟨r14, 0, none⟩) := H.bas 14 (by kernel_rfl); exact op_ldW _ rfl hx (kU.next H.bel)
  · refine StepT.q _ (by rfl) (by rfl) fun ρ w' H => ?_
    have hx : ρ (.tmp 7) = .pointer (some ⟨r7, 0, none⟩) := H.bas 7 (by kernel_rfl); exact op_ldW _ rfl hx (kx.next H.bel)
  · refine StepT.q _ (by rfl) (by rfl) fun ρ w' H => ?_
    exact op_field0 _ rfl (H.bas 3 (by kernel_rfl))
  · refine StepT.q _ (by rfl) (by rfl) fun ρ w' H => ?_
    obtain ⟨v2, e2, p2⟩ := H.dep 2 94 (by kernel_rfl)
    obtain rfl : v2 = .pointer (some ⟨b, 0, none⟩) := p2
    exact op_ldI _ rfl e2 ((kC.next H.bel).cell 0)
  · refine StepT.q _ (by rfl) (by rfl) fun ρ w' H => ?_
    obtain ⟨v3, e3, p3⟩ := H.dep 3 95 (by kernel_rfl)
    obtain rfl : v3 = .int .i64 A := p3
    exact op_mul _ _ rfl (H.con _) e3 (by omega)
  · refine StepT.q _ (by rfl) (by rfl) fun ρ w' H => ?_
    exact op_field1 _ rfl (H.bas 3 (by kernel_rfl))
  · refine StepT.q _ (by rfl) (by rfl) fun ρ w' H => ?_
    obtain ⟨v5, e5, p5⟩ := H.dep 5 97 (by kernel_rfl)
    obtain rfl : v5 = .pointer (some ⟨b, 1, none⟩) := p5
    exact op_ldI _ rfl e5 ((kC.next H.bel).cell 1)
  · refine StepT.q _ (by rfl) (by rfl) fun ρ w' H => ?_
    obtain ⟨v4, e4, p4⟩ := H.dep 4 96 (by kernel_rfl)
    obtain rfl : v4 = .int .i64 (4 * A) := p4
    obtain ⟨v6, e6, p6⟩ := H.dep 6 98 (by kernel_rfl)
    obtain rfl : v6 = .int .i64 B := p6
    exact op_mul _ _ rfl e4 e6 (by omega)
  · refine StepT.q _ (by rfl) (by rfl) fun ρ w' H => ?_
    obtain ⟨v1, e1, p1⟩ := H.dep 1 93 (by kernel_rfl)
    have p1 : (Wh b x) v1 w' := p1
    obtain ⟨v7, e7, p7⟩ := H.dep 7 99 (by kernel_rfl)
    obtain rfl : v7 = .int .i64 (4 * A * B) := p7
    exact OpTo.call 107 #[v1, .int .i64 (4 * A * B)] _ _ _ rfl (H.fn 107) (enters_of Tryz.func107 (by kernel_rfl) rfl) (by simp [e1, e7]) ((times_of zx (by omega) rfl _ w' p1.rd).mono fun e w2 ⟨v, h1, h2, h3⟩ => ⟨v, h1, h3, h2.le (Nat.le_trans hbW H.bel.size)⟩)
  · refine StepT.q _ (by rfl) (by rfl) fun ρ w' H => ?_
    obtain ⟨v0, e0, p0⟩ := H.dep 0 92 (by kernel_rfl)
    have p0 : (Wh b R3) v0 w' := p0
    obtain ⟨v8, e8, p8⟩ := H.dep 8 100 (by kernel_rfl)
    have p8 : (Wh b (x * (4 * A * B))) v8 w' := p8
    exact OpTo.call 90 #[v0, v8] _ _ _ rfl (H.fn 90) (enters_of Tryz.func90 (by kernel_rfl) rfl) (by simp [e0, e8]) ((sub_of (zR3.mono (by omega)) ((zx1.mul z4AB).mono (by omega)) HR4.out _ _ w' p0.rd p8.rd).mono fun e w2 ⟨v, h1, h2, h3⟩ => ⟨v, h1, h3, h2.le (Nat.le_trans hbW H.bel.size)⟩)
  intro vs Wt hBt hDt
  have hV9 : (Wh b (R4)) (vs 9) Wt := hDt.1 9 (by omega)
  clear hDt
  simp only [mergeS, Nat.reduceBEq, cond_true, cond_false, Nat.reduceAdd, List.drop_succ_cons, List.drop_zero]
  replace kC := kC.next hBt
  replace kx := kx.next hBt
  replace k2 := k2.next hBt
  replace k3 := k3.next hBt
  replace kG := kG.next hBt
  replace kT := kT.next hBt
  replace kU := kU.next hBt
  replace hb0 : Below b w _ := below_step hBt hbW hb0
  replace hbW := Nat.le_trans hbW hBt.size
  obtain ⟨lvU, evU, rvU, cvU⟩ := hV9.cell
  obtain ⟨slU, scU, rfl, _⟩ := id rvU.1
  simp only [evU]
  obtain ⟨lo, kr, _, _⟩ := id kU
  have x0 : Wt.cell? ⟨r14, 0, none⟩ = some (.bool (decide (R3 < 0))) := kr.cell 0
  have x1 : Wt.cell? ⟨r14, 1, none⟩ = some lo := kr.cell 1
  have x2 := kr.frozen 0
  have x3 := kr.frozen 1
  have x4 := kr.lt
  have kU9 : BlkW b r14 (R4) ((Wt.setCell ⟨r14, 0, none⟩ (.bool (decide (R4 < 0)))).setCell ⟨r14, 1, none⟩ (.slice slU (dg (R4).natAbs).length scU)) := BlkW.put kr rfl rvU cvU
  replace kx := kx.far (r' := r14) (by omega) kr (.bool (decide (R4 < 0))) (.slice slU (dg (R4).natAbs).length scU)
  replace k2 := k2.far (r' := r14) (by omega) kr (.bool (decide (R4 < 0))) (.slice slU (dg (R4).natAbs).length scU)
  replace k3 := k3.far (r' := r14) (by omega) kr (.bool (decide (R4 < 0))) (.slice slU (dg (R4).natAbs).length scU)
  replace kG := kG.far (r' := r14) (by omega) kr (.bool (decide (R4 < 0))) (.slice slU (dg (R4).natAbs).length scU)
  replace kT := kT.far (r' := r14) (by omega) kr (.bool (decide (R4 < 0))) (.slice slU (dg (R4).natAbs).length scU)
  replace kC := (kC.far (p := ⟨r14, 0, none⟩) (by show b ≠ r14; omega) (.bool (decide (R4 < 0)))).far (p := ⟨r14, 1, none⟩) (by show b ≠ r14; omega) (.slice slU (dg (R4).natAbs).length scU)
  replace hb0 : Below b w ((Wt.setCell ⟨r14, 0, none⟩ (.bool (decide (R4 < 0)))).setCell ⟨r14, 1, none⟩ (.slice slU (dg (R4).natAbs).length scU)) := (hb0.setCell (by show b ≤ r14; omega) _).setCell (by show b ≤ r14; omega) _
  replace hbW : b ≤ ((Wt.setCell ⟨r14, 0, none⟩ (.bool (decide (R4 < 0)))).setCell ⟨r14, 1, none⟩ (.slice slU (dg (R4).natAbs).length scU)).heap.size := by simpa [World.setCell] using hbW
  clear hV9 hBt evU rvU cvU kr
  go_upto_region 11 with (fail)
  generalize (World.setCell (World.setCell _ _ _) _ _) = W11 at *
  clear x0 x1 x2 x3 x4 kU
  have kU := kU9
  clear kU9
  have zR5 : Sz 100 (R4 + -(8 * B * B + A * A * A)) := (((zR4.mono (n := 60) (by omega)).add (Sz.neg (Sz.mono (Sz.of5b (x := 8 * B * B + A * A * A) (by omega)) (by omega))))).mono (by omega)
  refine wp_region_tab 19 [] [(0, 102), (1, 103), (2, 104), (3, 105), (4, 106), (5, 107), (6, 108), (7, 109), (8, 110), (9, 111), (10, 112), (11, 113), (12, 114), (13, 115), (14, 116), (15, 117), (16, 118), (17, 119), (18, 120)] [Wh b R4, IsV (.pointer (some ⟨b, 1, none⟩)), IsV (.int .i64 B), IsV (.int .i64 (8 * B)), IsV (.pointer (some ⟨b, 1, none⟩)), IsV (.int .i64 B), IsV (.int .i64 (8 * B * B)), IsV (.pointer (some ⟨b, 0, none⟩)), IsV (.int .i64 A), IsV (.pointer (some ⟨b, 0, none⟩)), IsV (.int .i64 A), IsV (.int .i64 (A * A)), IsV (.pointer (some ⟨b, 0, none⟩)), IsV (.int .i64 A), IsV (.int .i64 (A * A * A)), IsV (.int .i64 (8 * B * B + A * A * A)), Wh b (8 * B * B + A * A * A), Wh b (R4 + -(8 * B * B + A * A * A)), Wh b (dvQ A B x)] (by kernel_rfl) (by kernel_rfl) (by kernel_rfl) trivial ⟨Wh.closed _ _, IsV.closed _, IsV.closed _, IsV.closed _, IsV.closed _, IsV.closed _, IsV.closed _, IsV.closed _, IsV.closed _, IsV.closed _, IsV.closed _, IsV.closed _, IsV.closed _, IsV.closed _, IsV.closed _, IsV.closed _, Wh.closed _ _, Wh.closed _ _, Wh.closed _ _, trivial⟩ ⟨?_, ?_, ?_, ?_, ?_, ?_, ?_, ?_, ?_, ?_, ?_, ?_, ?_, ?_, ?_, ?_, ?_, ?_, ?_, trivial⟩ ?_
  · refine StepT.q _ (by rfl) (by rfl) fun ρ w' H => ?_
    have hx : ρ (.tmp 14) = .pointer (some ⟨r14, 0, none⟩) := H.bas 14 (by kernel_rfl); exact op_ldW _ rfl hx (kU.next H.bel)
  · refine StepT.q _ (by rfl) (by rfl) fun ρ w' H => ?_
    exact op_field1 _ rfl (H.bas 3 (by kernel_rfl))
  · refine StepT.q _ (by rfl) (by rfl) fun ρ w' H => ?_
    obtain ⟨v1, e1, p1⟩ := H.dep 1 103 (by kernel_rfl)
    obtain rfl : v1 = .pointer (some ⟨b, 1, none⟩) := p1
    exact op_ldI _ rfl e1 ((kC.next H.bel).cell 1)
  · refine StepT.q _ (by rfl) (by rfl) fun ρ w' H => ?_
    obtain ⟨v2, e2, p2⟩ := H.dep 2 104 (by kernel_rfl)
    obtain rfl : v2 = .int .i64 B := p2
    exact op_mul _ _ rfl (H.con _) e2 (by omega)
  · refine StepT.q _ (by rfl) (by rfl) fun ρ w' H => ?_
    exact op_field1 _ rfl (H.bas 3 (by kernel_rfl))
  · refine StepT.q _ (by rfl) (by rfl) fun ρ w' H => ?_
    obtain ⟨v4, e4, p4⟩ := H.dep 4 106 (by kernel_rfl)
    obtain rfl : v4 = .pointer (some ⟨b, 1, none⟩) := p4
    exact op_ldI _ rfl e4 ((kC.next H.bel).cell 1)
  · refine StepT.q _ (by rfl) (by rfl) fun ρ w' H => ?_
    obtain ⟨v3, e3, p3⟩ := H.dep 3 105 (by kernel_rfl)
    obtain rfl : v3 = .int .i64 (8 * B) := p3
    obtain ⟨v5, e5, p5⟩ := H.dep 5 107 (by kernel_rfl)
    obtain rfl : v5 = .int .i64 B := p5
    exact op_mul _ _ rfl e3 e5 (by omega)
  · refine StepT.q _ (by rfl) (by rfl) fun ρ w' H => ?_
    exact op_field0 _ rfl (H.bas 3 (by kernel_rfl))
  · refine StepT.q _ (by rfl) (by rfl) fun ρ w' H => ?_
    obtain ⟨v7, e7, p7⟩ := H.dep 7 109 (by kernel_rfl)
    obtain rfl : v7 = .pointer (some ⟨b, 0, none⟩) := p7
    exact op_ldI _ rfl e7 ((kC.next H.bel).cell 0)
  · refine StepT.q _ (by rfl) (by rfl) fun ρ w' H => ?_
    exact op_field0 _ rfl (H.bas 3 (by kernel_rfl))
  · refine StepT.q _ (by rfl) (by rfl) fun ρ w' H => ?_
    obtain ⟨v9, e9, p9⟩ := H.dep 9 111 (by kernel_rfl)
    obtain rfl : v9 = .pointer (some ⟨b, 0, none⟩) := p9
    exact op_ldI _ rfl e9 ((kC.next H.bel).cell 0)
  · refine StepT.q _ (by rfl) (by rfl) fun ρ w' H => ?_
    obtain ⟨v8, e8, p8⟩ := H.dep 8 110 (by kernel_rfl)
    obtain rfl : v8 = .int .i64 A := p8
    obtain ⟨v10, e10, p10⟩ := H.dep 10 112 (by kernel_rfl)
    obtain rfl : v10 = .int .i64 A := p10
    exact op_mul _ _ rfl e8 e10 (by omega)
  · refine StepT.q _ (by rfl) (by rfl) fun ρ w' H => ?_
    exact op_field0 _ rfl (H.bas 3 (by kernel_rfl))
  · refine StepT.q _ (by rfl) (by rfl) fun ρ w' H => ?_
    obtain ⟨v12, e12, p12⟩ := H.dep 12 114 (by kernel_rfl)
    obtain rfl : v12 = .pointer (some ⟨b, 0, none⟩) := p12
    exact op_ldI _ rfl e12 ((kC.next H.bel).cell 0)
  · refine StepT.q _ (by rfl) (by rfl) fun ρ w' H => ?_
    obtain ⟨v11, e11, p11⟩ := H.dep 11 113 (by kernel_rfl)
    obtain rfl : v11 = .int .i64 (A * A) := p11
    obtain ⟨v13, e13, p13⟩ := H.dep 13 115 (by kernel_rfl)
    obtain rfl : v13 = .int .i64 A := p13
    exact op_mul _ _ rfl e11 e13 (by omega)
  · refine StepT.q _ (by rfl) (by rfl) fun ρ w' H => ?_
    obtain ⟨v6, e6, p6⟩ := H.dep 6 108 (by kernel_rfl)
    obtain rfl : v6 = .int .i64 (8 * B * B) := p6
    obtain ⟨v14, e14, p14⟩ := H.dep 14 116 (by kernel_rfl)
    obtain rfl : v14 = .int .i64 (A * A * A) := p14
    exact op_add9 _ _ rfl e6 e14 (by omega)
  · refine StepT.q _ (by rfl) (by rfl) fun ρ w' H => ?_
    obtain ⟨v15, e15, p15⟩ := H.dep 15 117 (by kernel_rfl)
    obtain rfl : v15 = .int .i64 (8 * B * B + A * A * A) := p15
    exact OpTo.call 91 #[.int .i64 (8 * B * B + A * A * A)] _ _ _ rfl (H.fn 91) (enters_of Tryz.func91 (by kernel_rfl) rfl) (by simp [e15]) ((c_bgOf (8 * B * B + A * A * A) (by omega) w').mono fun e w2 ⟨v, h1, h2, h3⟩ => ⟨v, h1, h3, h2.le (Nat.le_trans hbW H.bel.size)⟩)
  · refine StepT.q _ (by rfl) (by rfl) fun ρ w' H => ?_
    obtain ⟨v0, e0, p0⟩ := H.dep 0 102 (by kernel_rfl)
    have p0 : (Wh b R4) v0 w' := p0
    obtain ⟨v16, e16, p16⟩ := H.dep 16 118 (by kernel_rfl)
    have p16 : (Wh b (8 * B * B + A * A * A)) v16 w' := p16
    exact OpTo.call 90 #[v0, v16] _ _ _ rfl (H.fn 90) (enters_of Tryz.func90 (by kernel_rfl) rfl) (by simp [e0, e16]) ((sub_of (zR4.mono (by omega)) (Sz.mono (Sz.of5b (by omega)) (by omega)) rfl _ _ w' p0.rd p16.rd).mono fun e w2 ⟨v, h1, h2, h3⟩ => ⟨v, h1, h3, h2.le (Nat.le_trans hbW H.bel.size)⟩)
  · refine StepT.q _ (by rfl) (by rfl) fun ρ w' H => ?_
    obtain ⟨v17, e17, p17⟩ := H.dep 17 119 (by kernel_rfl)
    have p17 : (Wh b (R4 + -(8 * B * B + A * A * A))) v17 w' := p17
    exact OpTo.call 107 #[v17, (Value.int IntKind.i64 2)] _ _ _ rfl (H.fn 107) (enters_of Tryz.func107 (by kernel_rfl) rfl) (by simp [e17, H.con]) ((times_of zR5 (by omega) HQ.out _ w' p17.rd).mono fun e w2 ⟨v, h1, h2, h3⟩ => ⟨v, h1, h3, h2.le (Nat.le_trans hbW H.bel.size)⟩)
  intro vs Wt hBt hDt
  have hV18 : (Wh b (dvQ A B x)) (vs 18) Wt := hDt.1 18 (by omega)
  clear hDt
  simp only [mergeS, Nat.reduceBEq, cond_true, cond_false, Nat.reduceAdd, List.drop_succ_cons, List.drop_zero]
  replace kC := kC.next hBt
  replace kx := kx.next hBt
  replace k2 := k2.next hBt
  replace k3 := k3.next hBt
  replace kG := kG.next hBt
  replace kT := kT.next hBt
  replace kU := kU.next hBt
  replace hb0 : Below b w _ := below_step hBt hbW hb0
  replace hbW := Nat.le_trans hbW hBt.size
  obtain ⟨lvU, evU, rvU, cvU⟩ := hV18.cell
  obtain ⟨slU, scU, rfl, _⟩ := id rvU.1
  simp only [evU]
  obtain ⟨lo, kr, _, _⟩ := id kU
  have x0 : Wt.cell? ⟨r14, 0, none⟩ = some (.bool (decide (R4 < 0))) := kr.cell 0
  have x1 : Wt.cell? ⟨r14, 1, none⟩ = some lo := kr.cell 1
  have x2 := kr.frozen 0
  have x3 := kr.frozen 1
  have x4 := kr.lt
  have kU9 : BlkW b r14 (dvQ A B x) ((Wt.setCell ⟨r14, 0, none⟩ (.bool (decide (dvQ A B x < 0)))).setCell ⟨r14, 1, none⟩ (.slice slU (dg (dvQ A B x).natAbs).length scU)) := BlkW.put kr rfl rvU cvU
  replace kx := kx.far (r' := r14) (by omega) kr (.bool (decide (dvQ A B x < 0))) (.slice slU (dg (dvQ A B x).natAbs).length scU)
  replace k2 := k2.far (r' := r14) (by omega) kr (.bool (decide (dvQ A B x < 0))) (.slice slU (dg (dvQ A B x).natAbs).length scU)
  replace k3 := k3.far (r' := r14) (by omega) kr (.bool (decide (dvQ A B x < 0))) (.slice slU (dg (dvQ A B x).natAbs).length scU)
  replace kG := kG.far (r' := r14) (by omega) kr (.bool (decide (dvQ A B x < 0))) (.slice slU (dg (dvQ A B x).natAbs).length scU)
  replace kT := kT.far (r' := r14) (by omega) kr (.bool (decide (dvQ A B x < 0))) (.slice slU (dg (dvQ A B x).natAbs).length scU)
  replace kC := (kC.far (p := ⟨r14, 0, none⟩) (by show b ≠ r14; omega) (.bool (decide (dvQ A B x < 0)))).far (p := ⟨r14, 1, none⟩) (by show b ≠ r14; omega) (.slice slU (dg (dvQ A B x).natAbs).length scU)
  replace hb0 : Below b w ((Wt.setCell ⟨r14, 0, none⟩ (.bool (decide (dvQ A B x < 0)))).setCell ⟨r14, 1, none⟩ (.slice slU (dg (dvQ A B x).natAbs).length scU)) := (hb0.setCell (by show b ≤ r14; omega) _).setCell (by show b ≤ r14; omega) _
  replace hbW : b ≤ ((Wt.setCell ⟨r14, 0, none⟩ (.bool (decide (dvQ A B x < 0)))).setCell ⟨r14, 1, none⟩ (.slice slU (dg (dvQ A B x).natAbs).length scU)).heap.size := by simpa [World.setCell] using hbW
  clear hV18 hBt evU rvU cvU kr
  go_upto_region 12 with (fail)
  generalize (World.setCell (World.setCell _ _ _) _ _) = W12 at *
  clear x0 x1 x2 x3 x4 kU
  have kU := kU9
  clear kU9
  refine wp_region_tab 6 [] [(0, 121), (1, 122), (2, 123), (3, 124), (4, 125), (5, 126)] [Wh b 0, Wh b 1, Wh b 1, Wh b (dvT A B x), Wh b (dvQ A B x), (fun v w => OwnsW w W12.heap.size b v [0, 1, 1, dvT A B x, dvQ A B x])] (by kernel_rfl) (by kernel_rfl) (by kernel_rfl) trivial ⟨Wh.closed _ _, Wh.closed _ _, Wh.closed _ _, Wh.closed _ _, Wh.closed _ _, fun v => OwnsW.closed W12.heap.size b v _, trivial⟩ ⟨?_, ?_, ?_, ?_, ?_, ?_, trivial⟩ ?_
  · refine StepT.q _ (by rfl) (by rfl) fun ρ w' H => ?_
    exact OpTo.call 91 #[(Value.int IntKind.i64 0)] _ _ _ rfl (H.fn 91) (enters_of Tryz.func91 (by kernel_rfl) rfl) (by simp [H.con]) ((c_bgOf 0 (by omega) w').mono fun e w2 ⟨v, h1, h2, h3⟩ => ⟨v, h1, h3, h2.le (Nat.le_trans hbW H.bel.size)⟩)
  · refine StepT.q _ (by rfl) (by rfl) fun ρ w' H => ?_
    exact OpTo.call 91 #[(Value.int IntKind.i64 1)] _ _ _ rfl (H.fn 91) (enters_of Tryz.func91 (by kernel_rfl) rfl) (by simp [H.con]) ((c_bgOf 1 (by omega) w').mono fun e w2 ⟨v, h1, h2, h3⟩ => ⟨v, h1, h3, h2.le (Nat.le_trans hbW H.bel.size)⟩)
  · refine StepT.q _ (by rfl) (by rfl) fun ρ w' H => ?_
    exact OpTo.call 91 #[(Value.int IntKind.i64 1)] _ _ _ rfl (H.fn 91) (enters_of Tryz.func91 (by kernel_rfl) rfl) (by simp [H.con]) ((c_bgOf 1 (by omega) w').mono fun e w2 ⟨v, h1, h2, h3⟩ => ⟨v, h1, h3, h2.le (Nat.le_trans hbW H.bel.size)⟩)
  · refine StepT.q _ (by rfl) (by rfl) fun ρ w' H => ?_
    have hx : ρ (.tmp 13) = .pointer (some ⟨r13, 0, none⟩) := H.bas 13 (by kernel_rfl); exact op_ldW _ rfl hx (kT.next H.bel)
  · refine StepT.q _ (by rfl) (by rfl) fun ρ w' H => ?_
    have hx : ρ (.tmp 14) = .pointer (some ⟨r14, 0, none⟩) := H.bas 14 (by kernel_rfl); exact op_ldW _ rfl hx (kU.next H.bel)
  · refine StepT.q _ (by rfl) (by rfl) fun ρ w' H => ?_
    obtain ⟨v0, e0, p0⟩ := H.dep 0 121 (by kernel_rfl)
    have p0 : (Wh b 0) v0 w' := p0
    obtain ⟨v1, e1, p1⟩ := H.dep 1 122 (by kernel_rfl)
    have p1 : (Wh b 1) v1 w' := p1
    obtain ⟨v2, e2, p2⟩ := H.dep 2 123 (by kernel_rfl)
    have p2 : (Wh b 1) v2 w' := p2
    obtain ⟨v3, e3, p3⟩ := H.dep 3 124 (by kernel_rfl)
    have p3 : (Wh b (dvT A B x)) v3 w' := p3
    obtain ⟨v4, e4, p4⟩ := H.dep 4 125 (by kernel_rfl)
    have p4 : (Wh b (dvQ A B x)) v4 w' := p4
    exact op_bo5 _ _ _ _ _ _ _ _ _ _ H.bel.size rfl (by rw [e0]; exact p0) (by rw [e1]; exact p1) (by rw [e2]; exact p2) (by rw [e3]; exact p3) (by rw [e4]; exact p4)
  intro vs Wt hBt hDt
  have hV5 : ((fun v w => OwnsW w W12.heap.size b v [0, 1, 1, dvT A B x, dvQ A B x])) (vs 5) Wt := hDt.1 5 (by omega)
  clear hDt
  simp only [mergeS, Nat.reduceBEq, cond_true, cond_false, Nat.reduceAdd, List.drop_succ_cons, List.drop_zero]
  have kGl := kG.lt
  replace kG := kG.next hBt
  replace hb0 : Below b w _ := below_step hBt hbW hb0
  replace hbW := Nat.le_trans hbW hBt.size
  obtain ⟨bd, hbd⟩ : ∃ bd, W12.heap.size = bd := ⟨_, rfl⟩
  have hbdW : bd ≤ Wt.heap.size := hbd ▸ hBt.size
  have hbd1 : r12 < bd := hbd ▸ kGl
  have hbd2 : b ≤ bd := by have := hr12b.out; omega
  clear hBt kT kU kGl kC kx k2 k3
  have hD : OwnsW Wt W12.heap.size b (vs 5) (dwL A B x 0) := hV5
  rw [hbd] at hD
  clear hV5 hbd
  generalize vs 5 = d0 at hD ⊢
  obtain ⟨g0, cap0, rfl, _, _⟩ := hD.addr (by rw [dwL_len]; omega)
  go_upto_region 14 with (fail)
  go_loopw [15, 16] (fun dv kk wr => ∃ (k g cap : Nat), kk = .int .i64 k ∧ dv = .slice (some ⟨g, 0, none⟩) k cap ∧ 5 ≤ k ∧ (k ≤ n + 1 ∨ k = 5) ∧ OwnsW wr bd b (.slice (some ⟨g, 0, none⟩) k cap) (dwL A B x (k - 5)) ∧ BlkW b r12 (dwG A B x) wr ∧ bd ≤ wr.heap.size ∧ Below b w wr) (fun _ kk _ => n + 1 - (intOf kk).toNat)
  case atStart => exact ⟨5, g0, cap0, rfl, by rw [dwL_len], by omega, .inr rfl, hD, kG, hbdW, hb0⟩
  case round =>
    clear hD kG hbdW hb0 hbW
    obtain ⟨k, g, cap, rfl, rfl, h5, hkn, hD, kG, hbdW, hb0⟩ := hrel
    have hbW : b ≤ wr.heap.size := by omega
    by_cases hlt : k ≤ n
    · have hlen : (dwL A B x (k - 5)).length = k := by rw [dwL_len]; omega
      have zE : ∀ i, Sz 3000 (eat (dwL A B x (k - 5)) i) := fun i => dw_sz hA hB hx (k - 5) (by omega) i
      have HX : Hid (dwL A B x (k + 1 - 5) = dwL A B x (k - 5) ++ [dwN (dwG A B x) (dwL A B x (k - 5)) k]) := by
        show _ = _
        rw [show k + 1 - 5 = (k - 5) + 1 by omega, dwL, show 5 + (k - 5) = k by omega]
      have zG : Sz 5 (dwG A B x) := (dv_bds hA hB hx).2.2
      have hgb := (hD.elt (by omega)).2.1
      have hgd := Lib.hid hgb
      have hg5 : g < wr.heap.size := (hD.elt (by omega)).2.2.1
      obtain ⟨xs, hxs⟩ : ∃ xs, dwL A B x (k - 5) = xs := ⟨_, rfl⟩
      rw [hxs] at hD hlen zE HX
      obtain ⟨Gv, hGv⟩ : ∃ Gv, dwG A B x = Gv := ⟨_, rfl⟩
      rw [hGv] at kG HX zG
      obtain ⟨lG, kG1, rG, cG⟩ := id kG
      have q0 : wr.cell? ⟨r12, 0, none⟩ = some (.bool (decide (Gv < 0))) := kG1.cell 0
      have q1 : wr.cell? ⟨r12, 1, none⟩ = some lG := kG1.cell 1
      have q2 := kG1.frozen 0
      have q3 := kG1.frozen 1
      have q4 := kG1.lt
      have HCL : Hid (Calls Tryz.prog 109 #[.slice (some ⟨g, 0, none⟩) k cap, .agg #[.bool (decide (Gv < 0)), lG], .int .i64 k] wr (WhP (dwN Gv xs k) wr)) := c_dpNext Gv xs k bd b (.slice (some ⟨g, 0, none⟩) k cap) (.agg #[.bool (decide (Gv < 0)), lG]) wr (by omega) hlen hD ⟨lG, rfl, rG⟩ zG zE
      have HXS := Lib.hid hxs
      have HGV := Lib.hid hGv
      have HL := Lib.hid hlen
      clear hxs hGv hgb zE zG kG1 rG cG hlen
      generalize hnn : dwN Gv xs k = Nn at HCL HX
      have HNN := Lib.hid hnn
      clear hnn
      go_upto_region 16 with (fail)
      go_wp2_with fail
      refine HCL.out.mono ?_
      rintro e w3 ⟨vN, rfl, hwh, hb3⟩
      obtain ⟨lN, rfl, rN, cN⟩ := hwh.cell
      have kG3 := kG.next hb3
      have hD3 := hD.next hb3
      have hb03 : Below b w w3 := below_step hb3 hbW hb0
      have hs3 := hb3.size
      have hVB : OwnsW (w3.alloc (.cells #[.bool (decide (Nn < 0)), lN] 37)) w3.heap.size b (.slice (some ⟨w3.heap.size, 0, none⟩) 1 1) [Nn] := ⟨[(decide (Nn < 0), lN)], OwnsV.new w3 w3.heap.size [(decide (Nn < 0), lN)] (Nat.le_refl _) (by simp) (by simp), rfl, fun i h h' => by
        match i, h, h' with
        | 0, _, _ => exact ⟨rfl, (rN.le hbW).below ((Below.refl _ _).alloc (Nat.le_refl _) _)⟩⟩
      have hBa : Below w3.heap.size w3 (w3.alloc (.cells #[.bool (decide (Nn < 0)), lN] 37)) := (Below.refl _ _).alloc (Nat.le_refl _) _
      have kG4 := kG3.next hBa
      have hD4 := hD3.next hBa
      have hb04 : Below b w _ := below_step hBa (by omega) hb03
      have hbd4 : bd ≤ (w3.alloc (.cells #[.bool (decide (Nn < 0)), lN] 37)).heap.size := by simp; omega
      have hl4 : xs.length < 100000 := by rw [HL.out]; omega
      have hg3 : g ≠ w3.heap.size := by omega
      clear kG kG3 hD hD3 hb0 hb3 hb03 hwh rN cN q0 q1 q2 q3 q4 HCL hBa
      go_wp2_with (at_builtin; refine wpList_appW rfl _ _ rfl bd b w3.heap.size (.slice (some ⟨g, 0, none⟩) k cap) (.slice (some ⟨w3.heap.size, 0, none⟩) 1 1) xs Nn rfl rfl hD4 hVB hbd4 hl4 ?_; intro v9 W9 hD9 hO9 hF9)
      rw [← HX.out] at hD9
      have hl9 : (dwL A B x (k + 1 - 5)).length = k + 1 := by rw [dwL_len]; omega
      obtain ⟨g9, cap9, rfl, _, _⟩ := hD9.addr (by omega)
      rw [hl9] at hD9 ⊢
      have hgd0 : bd ≤ g := hgd.out
      have hG9 := hF9 _ _ kG4 (by simp [Value.ownBlock]; omega)
      have hb9 : Below b w W9 := hO9.belowGe hb04 (by omega) (by simp [Value.ownBlock]; omega)
      have hs9 := Nat.le_trans hbd4 hO9.size
      rw [← HGV.out] at hG9
      clear hl9 hO9 hF9 hD4 kG4 hVB hb04 hbd4
      go_wp2
      go_roundw
      case rel => exact ⟨k + 1, g9, cap9, by go_num, rfl, by omega, .inl (by omega), hD9, hG9, hs9, hb9⟩
      case measure => simp [intOf]; omega
    · go_wp2
      have eb := HBW.out
      subst eb
      refine bodyPost_ret (v := .slice (some ⟨g, 0, none⟩) k cap) (by simp [results, Tryz.results82, go_sem]) rfl ?_
      exact ⟨_, k - 5, rfl, by omega, by omega, hD.le hbd2 (Nat.le_refl _), hb0⟩
end Go.Proofs.YtgjdgcmmlfmhmaaGreatDoor

/- DwE -/
namespace Go.Proofs.YtgjdgcmmlfmhmaaGreatDoor
open Go.RowKit

def WhRes (K : Int) (b : Bool) (w : World) (e : Ending) (w' : World) : Prop := ∃ v, e = .returned (.tuple #[v, .bool b]) ∧ Wh w.heap.size K v w' ∧ Below w.heap.size w w'
def dwOk (A B x n : Int) : Bool := curveB A B && inB x (-1000) 1000 && inB n 1 12
noncomputable def dwFine (A B x n : Int) : Bool := dwOk A B x n && okW (dwE A B x n.toNat)
noncomputable def dwVal (A B x n : Int) : Int := if dwFine A B x n then dwE A B x n.toNat else 0
theorem Wh.zero (base : Nat) (w : World) : Wh base 0 (.agg #[.bool false, .slice none 0 0]) w := by
  have hz : dg (Int.natAbs 0) = [] := dg_zero
  exact ⟨_, rfl, by rw [hz]; exact ⟨⟨none, 0, rfl, Nat.le_refl _, fun i hi => by simp at hi⟩, fun h => absurd rfl h⟩⟩
theorem curveB_bd {A B : Int} (h : curveB A B = true) : (-1000 ≤ A ∧ A ≤ 1000) ∧ (-10000 ≤ B ∧ B ≤ 10000) := by
  unfold curveB at h
  simp only [Bool.and_eq_true] at h
  exact ⟨inB_true h.1.1, inB_true h.1.2⟩
set_option maxHeartbeats 2000000 in
set_option maxRecDepth 20000 in
theorem c_dpExact (A B x n : Int) (w : World) :
    Calls Tryz.prog 47 #[.agg #[.int .i64 A, .int .i64 B], .int .i64 x, .int .i64 n] w (WhRes (dwVal A B x n) (dwFine A B x n) w) := by
  cases h1 : curveB A B
  · have ho : dwFine A B x n = false := by unfold dwFine dwOk; rw [h1]; rfl
    have hk : dwVal A B x n = 0 := by unfold dwVal; rw [ho]; rfl
    have HO := Lib.hid ho
    have HK := Lib.hid hk
    clear ho hk
    have HG : Hid (∀ W, Calls Tryz.prog 74 #[.agg #[.int .i64 A, .int .i64 B]] W fun e w' => e = .returned (.bool false) ∧ Below W.heap.size W w') := fun W => (c_ecGood A B W).mono fun e w' h => ⟨h.1.trans (by rw [h1]), h.2⟩
    clear h1
    have kC := (Blk.new w #[.int .i64 A, .int .i64 B] 24).alloc (.cells #[.bool false, .slice none 0 0] 37)
    have kR := Blk.new (w.alloc (.cells #[.int .i64 A, .int .i64 B] 24)) #[.bool false, .slice none 0 0] 37
    have hb0 : Below w.heap.size w ((w.alloc (.cells #[.int .i64 A, .int .i64 B] 24)).alloc (.cells #[.bool false, .slice none 0 0] 37)) := ((Below.refl _ _).alloc (Nat.le_refl _) _).alloc (by simp) _
    simp only [World.size_alloc] at kR
    have hsz := hb0.size
    go_enter Tryz.func47, Tryz.ntmps47
    go_upto_region 1 with (fail)
    generalize (w.alloc _).alloc _ = W at *
    generalize hrs : w.heap.size + 1 = rs at *
    have hrs2 : w.heap.size < rs := by omega
    clear hrs
    have kC0 : (W).cell? ⟨w.heap.size, 0, none⟩ = some (.int .i64 A) := kC.cell 0; have kC1 : (W).cell? ⟨w.heap.size, 1, none⟩ = some (.int .i64 B) := kC.cell 1; have kCl : w.heap.size < (W).heap.size := kC.lt
    go_wp2_with fail
    refine (HG.out _).mono ?_
    rintro e w1 ⟨rfl, hb1⟩
    have jC := kC.next hb1
    have kR1 := kR.next hb1
    have hbb : Below w.heap.size w w1 := below_step hb1 hsz hb0
    have hsz1 := hbb.size
    clear kC kR hb1 hb0 kC0 kC1 kCl
    have jC0 : (w1).cell? ⟨w.heap.size, 0, none⟩ = some (.int .i64 A) := jC.cell 0; have jC1 : (w1).cell? ⟨w.heap.size, 1, none⟩ = some (.int .i64 B) := jC.cell 1; have jCl : w.heap.size < (w1).heap.size := jC.lt
    have c0 : w1.cell? ⟨rs, 0, none⟩ = some (.bool false) := kR1.cell 0
    have c1 : w1.cell? ⟨rs, 1, none⟩ = some (.slice none 0 0) := kR1.cell 1
    have z0 := kR1.frozen 0
    have z1 := kR1.frozen 1
    have kRl := kR1.lt
    have k9 := (kR1.set 0 (.bool false)).set 1 (.slice none 0 0)
    have hB9 : Below w.heap.size w ((w1.setCell ⟨rs, 0, none⟩ (.bool false)).setCell ⟨rs, 1, none⟩ (.slice none 0 0)) := (hbb.setCell (by simp; omega) _).setCell (by simp; omega) _
    go_wp2_with ((go_at_call 60; refine (c_l1In _ _ _ _).mono ?_; rintro e w' ⟨rfl, rfl⟩))
    generalize (World.setCell (World.setCell _ _ _) _ _) = w9 at hB9 k9 ⊢
    have q0 : w9.cell? ⟨rs, 0, none⟩ = some (.bool false) := k9.cell 0
    have q1 : w9.cell? ⟨rs, 1, none⟩ = some (.slice none 0 0) := k9.cell 1
    refine bodyPost_ret (v := .tuple #[.agg #[.bool false, .slice none 0 0], .bool false]) (by simp [results, Tryz.results47, go_sem, q0, q1]) rfl ?_
    unfold WhRes
    rw [HO.out, HK.out]
    exact ⟨_, rfl, Wh.zero _ _, hB9⟩
  · have HG : Hid (∀ W, Calls Tryz.prog 74 #[.agg #[.int .i64 A, .int .i64 B]] W fun e w' => e = .returned (.bool true) ∧ Below W.heap.size W w') := fun W => (c_ecGood A B W).mono fun e w' h => ⟨h.1.trans (by rw [h1]), h.2⟩
    cases h2 : inB x (-1000) 1000
    · have ho : dwFine A B x n = false := by unfold dwFine dwOk; rw [h1, h2]; rfl
      have hk : dwVal A B x n = 0 := by unfold dwVal; rw [ho]; rfl
      have HO := Lib.hid ho
      have HK := Lib.hid hk
      clear ho hk h1
      have kC := (Blk.new w #[.int .i64 A, .int .i64 B] 24).alloc (.cells #[.bool false, .slice none 0 0] 37)
      have kR := Blk.new (w.alloc (.cells #[.int .i64 A, .int .i64 B] 24)) #[.bool false, .slice none 0 0] 37
      have hb0 : Below w.heap.size w ((w.alloc (.cells #[.int .i64 A, .int .i64 B] 24)).alloc (.cells #[.bool false, .slice none 0 0] 37)) := ((Below.refl _ _).alloc (Nat.le_refl _) _).alloc (by simp) _
      simp only [World.size_alloc] at kR
      have hsz := hb0.size
      go_enter Tryz.func47, Tryz.ntmps47
      go_upto_region 1 with (fail)
      generalize (w.alloc _).alloc _ = W at *
      generalize hrs : w.heap.size + 1 = rs at *
      have hrs2 : w.heap.size < rs := by omega
      clear hrs
      have kC0 : (W).cell? ⟨w.heap.size, 0, none⟩ = some (.int .i64 A) := kC.cell 0; have kC1 : (W).cell? ⟨w.heap.size, 1, none⟩ = some (.int .i64 B) := kC.cell 1; have kCl : w.heap.size < (W).heap.size := kC.lt
      go_wp2_with fail
      refine (HG.out _).mono ?_
      rintro e w1 ⟨rfl, hb1⟩
      have jC := kC.next hb1
      have kR1 := kR.next hb1
      have hbb : Below w.heap.size w w1 := below_step hb1 hsz hb0
      have hsz1 := hbb.size
      clear kC kR hb1 hb0 kC0 kC1 kCl
      have jC0 : (w1).cell? ⟨w.heap.size, 0, none⟩ = some (.int .i64 A) := jC.cell 0; have jC1 : (w1).cell? ⟨w.heap.size, 1, none⟩ = some (.int .i64 B) := jC.cell 1; have jCl : w.heap.size < (w1).heap.size := jC.lt
      have c0 : w1.cell? ⟨rs, 0, none⟩ = some (.bool false) := kR1.cell 0
      have c1 : w1.cell? ⟨rs, 1, none⟩ = some (.slice none 0 0) := kR1.cell 1
      have z0 := kR1.frozen 0
      have z1 := kR1.frozen 1
      have kRl := kR1.lt
      have k9 := (kR1.set 0 (.bool false)).set 1 (.slice none 0 0)
      have hB9 : Below w.heap.size w ((w1.setCell ⟨rs, 0, none⟩ (.bool false)).setCell ⟨rs, 1, none⟩ (.slice none 0 0)) := (hbb.setCell (by simp; omega) _).setCell (by simp; omega) _
      go_wp2_with ((go_at_call 60; refine (c_l1In _ _ _ _).mono ?_; rintro e w' ⟨rfl, rfl⟩))
      generalize (World.setCell (World.setCell _ _ _) _ _) = w9 at hB9 k9 ⊢
      have q0 : w9.cell? ⟨rs, 0, none⟩ = some (.bool false) := k9.cell 0
      have q1 : w9.cell? ⟨rs, 1, none⟩ = some (.slice none 0 0) := k9.cell 1
      refine bodyPost_ret (v := .tuple #[.agg #[.bool false, .slice none 0 0], .bool false]) (by simp [results, Tryz.results47, go_sem, q0, q1]) rfl ?_
      unfold WhRes
      rw [HO.out, HK.out]
      exact ⟨_, rfl, Wh.zero _ _, hB9⟩
    · cases h3 : inB n 1 12
      · have ho : dwFine A B x n = false := by unfold dwFine dwOk; rw [h1, h2, h3]; rfl
        have hk : dwVal A B x n = 0 := by unfold dwVal; rw [ho]; rfl
        have HO := Lib.hid ho
        have HK := Lib.hid hk
        clear ho hk h1
        have kC := (Blk.new w #[.int .i64 A, .int .i64 B] 24).alloc (.cells #[.bool false, .slice none 0 0] 37)
        have kR := Blk.new (w.alloc (.cells #[.int .i64 A, .int .i64 B] 24)) #[.bool false, .slice none 0 0] 37
        have hb0 : Below w.heap.size w ((w.alloc (.cells #[.int .i64 A, .int .i64 B] 24)).alloc (.cells #[.bool false, .slice none 0 0] 37)) := ((Below.refl _ _).alloc (Nat.le_refl _) _).alloc (by simp) _
        simp only [World.size_alloc] at kR
        have hsz := hb0.size
        go_enter Tryz.func47, Tryz.ntmps47
        go_upto_region 1 with (fail)
        generalize (w.alloc _).alloc _ = W at *
        generalize hrs : w.heap.size + 1 = rs at *
        have hrs2 : w.heap.size < rs := by omega
        clear hrs
        have kC0 : (W).cell? ⟨w.heap.size, 0, none⟩ = some (.int .i64 A) := kC.cell 0; have kC1 : (W).cell? ⟨w.heap.size, 1, none⟩ = some (.int .i64 B) := kC.cell 1; have kCl : w.heap.size < (W).heap.size := kC.lt
        go_wp2_with fail
        refine (HG.out _).mono ?_
        rintro e w1 ⟨rfl, hb1⟩
        have jC := kC.next hb1
        have kR1 := kR.next hb1
        have hbb : Below w.heap.size w w1 := below_step hb1 hsz hb0
        have hsz1 := hbb.size
        clear kC kR hb1 hb0 kC0 kC1 kCl
        have jC0 : (w1).cell? ⟨w.heap.size, 0, none⟩ = some (.int .i64 A) := jC.cell 0; have jC1 : (w1).cell? ⟨w.heap.size, 1, none⟩ = some (.int .i64 B) := jC.cell 1; have jCl : w.heap.size < (w1).heap.size := jC.lt
        have c0 : w1.cell? ⟨rs, 0, none⟩ = some (.bool false) := kR1.cell 0
        have c1 : w1.cell? ⟨rs, 1, none⟩ = some (.slice none 0 0) := kR1.cell 1
        have z0 := kR1.frozen 0
        have z1 := kR1.frozen 1
        have kRl := kR1.lt
        have k9 := (kR1.set 0 (.bool false)).set 1 (.slice none 0 0)
        have hB9 : Below w.heap.size w ((w1.setCell ⟨rs, 0, none⟩ (.bool false)).setCell ⟨rs, 1, none⟩ (.slice none 0 0)) := (hbb.setCell (by simp; omega) _).setCell (by simp; omega) _
        go_wp2_with ((go_at_call 60; refine (c_l1In _ _ _ _).mono ?_; rintro e w' ⟨rfl, rfl⟩))
        generalize (World.setCell (World.setCell _ _ _) _ _) = w9 at hB9 k9 ⊢
        have q0 : w9.cell? ⟨rs, 0, none⟩ = some (.bool false) := k9.cell 0
        have q1 : w9.cell? ⟨rs, 1, none⟩ = some (.slice none 0 0) := k9.cell 1
        refine bodyPost_ret (v := .tuple #[.agg #[.bool false, .slice none 0 0], .bool false]) (by simp [results, Tryz.results47, go_sem, q0, q1]) rfl ?_
        unfold WhRes
        rw [HO.out, HK.out]
        exact ⟨_, rfl, Wh.zero _ _, hB9⟩
      · have ho : dwFine A B x n = okW (dwE A B x n.toNat) := by unfold dwFine dwOk; rw [h1, h2, h3]; rfl
        have hk : dwVal A B x n = if okW (dwE A B x n.toNat) then dwE A B x n.toNat else 0 := by unfold dwVal; rw [ho]
        have HO := Lib.hid ho
        have HK := Lib.hid hk
        have hbd := curveB_bd h1
        have hx := inB_true h2
        have hn := inB_true h3
        clear ho hk h1
        obtain ⟨N, rfl⟩ := Int.eq_ofNat_of_zero_le (show 0 ≤ n by omega)
        rw [Int.toNat_natCast] at HO HK
        have hlen : (dg (dwE A B x N).natAbs).length ≤ 100000 := by
          have := (dw_sz hbd.1 hbd.2 hx (N - 4) (by omega) N).len
          unfold dwE
          omega
        have kC := (Blk.new w #[.int .i64 A, .int .i64 B] 24).alloc (.cells #[.bool false, .slice none 0 0] 37)
        have kR := Blk.new (w.alloc (.cells #[.int .i64 A, .int .i64 B] 24)) #[.bool false, .slice none 0 0] 37
        have hb0 : Below w.heap.size w ((w.alloc (.cells #[.int .i64 A, .int .i64 B] 24)).alloc (.cells #[.bool false, .slice none 0 0] 37)) := ((Below.refl _ _).alloc (Nat.le_refl _) _).alloc (by simp) _
        simp only [World.size_alloc] at kR
        have hsz := hb0.size
        go_enter Tryz.func47, Tryz.ntmps47
        go_upto_region 1 with (fail)
        generalize (w.alloc _).alloc _ = W at *
        generalize hrs : w.heap.size + 1 = rs at *
        have hrs2 : w.heap.size < rs := by omega
        clear hrs
        have kC0 : (W).cell? ⟨w.heap.size, 0, none⟩ = some (.int .i64 A) := kC.cell 0; have kC1 : (W).cell? ⟨w.heap.size, 1, none⟩ = some (.int .i64 B) := kC.cell 1; have kCl : w.heap.size < (W).heap.size := kC.lt
        go_wp2_with fail
        refine (HG.out _).mono ?_
        rintro e w1 ⟨rfl, hb1⟩
        have jC := kC.next hb1
        have kR1 := kR.next hb1
        have hbb : Below w.heap.size w w1 := below_step hb1 hsz hb0
        have hsz1 := hbb.size
        clear kC kR hb1 hb0 kC0 kC1 kCl
        have jC0 : (w1).cell? ⟨w.heap.size, 0, none⟩ = some (.int .i64 A) := jC.cell 0; have jC1 : (w1).cell? ⟨w.heap.size, 1, none⟩ = some (.int .i64 B) := jC.cell 1; have jCl : w.heap.size < (w1).heap.size := jC.lt
        have kRs := kR1.lt
        go_wp2_with ((go_at_call 60; refine (c_l1In _ _ _ _).mono ?_; rintro e w' ⟨rfl, rfl⟩))
        refine (c_dpWholes A B x N hbd.1 hbd.2 hx (by omega) _).mono ?_
        rintro e w2 ⟨v, j, rfl, hj, hj8, hD, hb2⟩
        have hE := dwE_of A B x j N hj
        obtain ⟨g, cap, rfl, _, _⟩ := hD.addr (by rw [dwL_len]; omega)
        rw [dwL_len] at hD ⊢
        obtain ⟨lv, q0, q1, hrE⟩ := (hD.elt (by omega)).2.2.2 N hj
        rw [hE] at q0 hrE
        have kR2 := kR1.next hb2
        have hbb2 : Below w.heap.size w w2 := below_step hb2 hsz1 hbb
        have i0 : (0 : Int) ≤ (N : Int) := by omega
        have i1 : (N : Int) < ((5 + j : Nat) : Int) := by omega
        generalize 5 + j = len at i1 ⊢
        have hsz2 := hbb2.size
        have HB := Lib.hid (c_bgIf w1.heap.size (dwE A B x N) (.agg #[.bool (decide (dwE A B x N < 0)), lv]) hlen w2 ⟨lv, rfl, hrE⟩)
        clear hD hb2 hE hrE kR1 hbb
        go_wp2_with fail
        refine HB.out.mono ?_
        rintro e w3 ⟨v3, rfl, hwh, hb3⟩
        obtain ⟨V, hV⟩ : ∃ V, (if okW (dwE A B x N) then dwE A B x N else 0) = V := ⟨_, rfl⟩
        rw [hV] at hwh
        have HV : Hid (dwVal A B x N = V) := HK.out.trans hV
        obtain ⟨fine, hfine⟩ : ∃ b, okW (dwE A B x N) = b := ⟨_, rfl⟩
        rw [hfine]
        have HF : Hid (dwFine A B x N = fine) := HO.out.trans hfine
        clear hV hfine HO HK
        obtain ⟨lv3, rfl, hr3⟩ := hwh
        obtain ⟨sl, scap, rfl, _⟩ := id hr3.1
        have kR3 := kR2.next hb3
        have hbb3 : Below w.heap.size w w3 := below_step hb3 hsz2 hbb2
        have c0 : w3.cell? ⟨rs, 0, none⟩ = some (.bool false) := kR3.cell 0
        have c1 : w3.cell? ⟨rs, 1, none⟩ = some (.slice none 0 0) := kR3.cell 1
        have z0 := kR3.frozen 0
        have z1 := kR3.frozen 1
        have kRl := kR3.lt
        have k9 := (kR3.set 0 (.bool (decide (V < 0)))).set 1 (.slice sl (dg V.natAbs).length scap)
        have hB9 : Below w.heap.size w ((w3.setCell ⟨rs, 0, none⟩ (.bool (decide (V < 0)))).setCell ⟨rs, 1, none⟩ (.slice sl (dg V.natAbs).length scap)) := (hbb3.setCell (by simp; omega) _).setCell (by simp; omega) _
        have ho8 := (hr3.set2 (S := rs) (by omega) (.bool (decide (V < 0))) (.slice sl (dg V.natAbs).length scap)).le (base' := w.heap.size) (by omega)
        clear hr3 hb3 kR2 hbb2
        go_wp2
        generalize (World.setCell (World.setCell _ _ _) _ _) = w9 at hB9 k9 ho8 ⊢
        have q0 : w9.cell? ⟨rs, 0, none⟩ = some (.bool (decide (V < 0))) := k9.cell 0
        have q1 : w9.cell? ⟨rs, 1, none⟩ = some (.slice sl (dg V.natAbs).length scap) := k9.cell 1
        refine bodyPost_ret (v := .tuple #[.agg #[.bool (decide (V < 0)), .slice sl (dg V.natAbs).length scap], .bool fine]) (by simp [results, Tryz.results47, go_sem, q0, q1]) rfl ?_
        unfold WhRes
        rw [HF.out, HV.out]
        exact ⟨_, rfl, ⟨_, rfl, ho8⟩, hB9⟩
set_option maxHeartbeats 2000000 in
set_option maxRecDepth 20000 in
theorem c_iDivisionWhole (A B x n : Int) (w : World) :
    Calls Tryz.prog 14 #[.agg #[.int .i64 A, .int .i64 B], .int .i64 x, .int .i64 n] w (WhRes (dwVal A B x n) (dwFine A B x n) w) := by
  cases h1 : curveB A B
  · have ho : dwFine A B x n = false := by unfold dwFine dwOk; rw [h1]; rfl
    have hk : dwVal A B x n = 0 := by unfold dwVal; rw [ho]; rfl
    have HO := Lib.hid ho
    have HK := Lib.hid hk
    clear ho hk
    have HG : Hid (∀ W, Calls Tryz.prog 44 #[.agg #[.int .i64 A, .int .i64 B]] W fun e w' => e = .returned (.bool false) ∧ Below W.heap.size W w') := fun W => (c_isCurve A B W).mono fun e w' h => ⟨h.1.trans (by rw [h1]), h.2⟩
    clear h1
    have kC := (Blk.new w #[.int .i64 A, .int .i64 B] 24).alloc (.cells #[.bool false, .slice none 0 0] 37)
    have kR := Blk.new (w.alloc (.cells #[.int .i64 A, .int .i64 B] 24)) #[.bool false, .slice none 0 0] 37
    have hb0 : Below w.heap.size w ((w.alloc (.cells #[.int .i64 A, .int .i64 B] 24)).alloc (.cells #[.bool false, .slice none 0 0] 37)) := ((Below.refl _ _).alloc (Nat.le_refl _) _).alloc (by simp) _
    simp only [World.size_alloc] at kR
    have hsz := hb0.size
    go_enter Tryz.func14, Tryz.ntmps14
    go_upto_region 1 with (fail)
    generalize (w.alloc _).alloc _ = W at *
    generalize hrs : w.heap.size + 1 = rs at *
    have hrs2 : w.heap.size < rs := by omega
    clear hrs
    have kC0 : (W).cell? ⟨w.heap.size, 0, none⟩ = some (.int .i64 A) := kC.cell 0; have kC1 : (W).cell? ⟨w.heap.size, 1, none⟩ = some (.int .i64 B) := kC.cell 1; have kCl : w.heap.size < (W).heap.size := kC.lt
    go_wp2_with fail
    refine (HG.out _).mono ?_
    rintro e w1 ⟨rfl, hb1⟩
    have jC := kC.next hb1
    have kR1 := kR.next hb1
    have hbb : Below w.heap.size w w1 := below_step hb1 hsz hb0
    have hsz1 := hbb.size
    clear kC kR hb1 hb0 kC0 kC1 kCl
    have jC0 : (w1).cell? ⟨w.heap.size, 0, none⟩ = some (.int .i64 A) := jC.cell 0; have jC1 : (w1).cell? ⟨w.heap.size, 1, none⟩ = some (.int .i64 B) := jC.cell 1; have jCl : w.heap.size < (w1).heap.size := jC.lt
    have c0 : w1.cell? ⟨rs, 0, none⟩ = some (.bool false) := kR1.cell 0
    have c1 : w1.cell? ⟨rs, 1, none⟩ = some (.slice none 0 0) := kR1.cell 1
    have z0 := kR1.frozen 0
    have z1 := kR1.frozen 1
    have kRl := kR1.lt
    have k9 := (kR1.set 0 (.bool false)).set 1 (.slice none 0 0)
    have hB9 : Below w.heap.size w ((w1.setCell ⟨rs, 0, none⟩ (.bool false)).setCell ⟨rs, 1, none⟩ (.slice none 0 0)) := (hbb.setCell (by simp; omega) _).setCell (by simp; omega) _
    go_wp2_with ((go_at_call 27; refine (c_inside _ _ _ _).mono ?_; rintro e w' ⟨rfl, rfl⟩))
    generalize (World.setCell (World.setCell _ _ _) _ _) = w9 at hB9 k9 ⊢
    have q0 : w9.cell? ⟨rs, 0, none⟩ = some (.bool false) := k9.cell 0
    have q1 : w9.cell? ⟨rs, 1, none⟩ = some (.slice none 0 0) := k9.cell 1
    refine bodyPost_ret (v := .tuple #[.agg #[.bool false, .slice none 0 0], .bool false]) (by simp [results, Tryz.results14, go_sem, q0, q1]) rfl ?_
    unfold WhRes
    rw [HO.out, HK.out]
    exact ⟨_, rfl, Wh.zero _ _, hB9⟩
  · have HG : Hid (∀ W, Calls Tryz.prog 44 #[.agg #[.int .i64 A, .int .i64 B]] W fun e w' => e = .returned (.bool true) ∧ Below W.heap.size W w') := fun W => (c_isCurve A B W).mono fun e w' h => ⟨h.1.trans (by rw [h1]), h.2⟩
    cases h2 : inB x (-1000) 1000
    · have ho : dwFine A B x n = false := by unfold dwFine dwOk; rw [h1, h2]; rfl
      have hk : dwVal A B x n = 0 := by unfold dwVal; rw [ho]; rfl
      have HO := Lib.hid ho
      have HK := Lib.hid hk
      clear ho hk h1
      have kC := (Blk.new w #[.int .i64 A, .int .i64 B] 24).alloc (.cells #[.bool false, .slice none 0 0] 37)
      have kR := Blk.new (w.alloc (.cells #[.int .i64 A, .int .i64 B] 24)) #[.bool false, .slice none 0 0] 37
      have hb0 : Below w.heap.size w ((w.alloc (.cells #[.int .i64 A, .int .i64 B] 24)).alloc (.cells #[.bool false, .slice none 0 0] 37)) := ((Below.refl _ _).alloc (Nat.le_refl _) _).alloc (by simp) _
      simp only [World.size_alloc] at kR
      have hsz := hb0.size
      go_enter Tryz.func14, Tryz.ntmps14
      go_upto_region 1 with (fail)
      generalize (w.alloc _).alloc _ = W at *
      generalize hrs : w.heap.size + 1 = rs at *
      have hrs2 : w.heap.size < rs := by omega
      clear hrs
      have kC0 : (W).cell? ⟨w.heap.size, 0, none⟩ = some (.int .i64 A) := kC.cell 0; have kC1 : (W).cell? ⟨w.heap.size, 1, none⟩ = some (.int .i64 B) := kC.cell 1; have kCl : w.heap.size < (W).heap.size := kC.lt
      go_wp2_with fail
      refine (HG.out _).mono ?_
      rintro e w1 ⟨rfl, hb1⟩
      have jC := kC.next hb1
      have kR1 := kR.next hb1
      have hbb : Below w.heap.size w w1 := below_step hb1 hsz hb0
      have hsz1 := hbb.size
      clear kC kR hb1 hb0 kC0 kC1 kCl
      have jC0 : (w1).cell? ⟨w.heap.size, 0, none⟩ = some (.int .i64 A) := jC.cell 0; have jC1 : (w1).cell? ⟨w.heap.size, 1, none⟩ = some (.int .i64 B) := jC.cell 1; have jCl : w.heap.size < (w1).heap.size := jC.lt
      have c0 : w1.cell? ⟨rs, 0, none⟩ = some (.bool false) := kR1.cell 0
      have c1 : w1.cell? ⟨rs, 1, none⟩ = some (.slice none 0 0) := kR1.cell 1
      have z0 := kR1.frozen 0
      have z1 := kR1.frozen 1
      have kRl := kR1.lt
      have k9 := (kR1.set 0 (.bool false)).set 1 (.slice none 0 0)
      have hB9 : Below w.heap.size w ((w1.setCell ⟨rs, 0, none⟩ (.bool false)).setCell ⟨rs, 1, none⟩ (.slice none 0 0)) := (hbb.setCell (by simp; omega) _).setCell (by simp; omega) _
      go_wp2_with ((go_at_call 27; refine (c_inside _ _ _ _).mono ?_; rintro e w' ⟨rfl, rfl⟩))
      generalize (World.setCell (World.setCell _ _ _) _ _) = w9 at hB9 k9 ⊢
      have q0 : w9.cell? ⟨rs, 0, none⟩ = some (.bool false) := k9.cell 0
      have q1 : w9.cell? ⟨rs, 1, none⟩ = some (.slice none 0 0) := k9.cell 1
      refine bodyPost_ret (v := .tuple #[.agg #[.bool false, .slice none 0 0], .bool false]) (by simp [results, Tryz.results14, go_sem, q0, q1]) rfl ?_
      unfold WhRes
      rw [HO.out, HK.out]
      exact ⟨_, rfl, Wh.zero _ _, hB9⟩
    · cases h3 : inB n 1 12
      · have ho : dwFine A B x n = false := by unfold dwFine dwOk; rw [h1, h2, h3]; rfl
        have hk : dwVal A B x n = 0 := by unfold dwVal; rw [ho]; rfl
        have HO := Lib.hid ho
        have HK := Lib.hid hk
        clear ho hk h1
        have kC := (Blk.new w #[.int .i64 A, .int .i64 B] 24).alloc (.cells #[.bool false, .slice none 0 0] 37)
        have kR := Blk.new (w.alloc (.cells #[.int .i64 A, .int .i64 B] 24)) #[.bool false, .slice none 0 0] 37
        have hb0 : Below w.heap.size w ((w.alloc (.cells #[.int .i64 A, .int .i64 B] 24)).alloc (.cells #[.bool false, .slice none 0 0] 37)) := ((Below.refl _ _).alloc (Nat.le_refl _) _).alloc (by simp) _
        simp only [World.size_alloc] at kR
        have hsz := hb0.size
        go_enter Tryz.func14, Tryz.ntmps14
        go_upto_region 1 with (fail)
        generalize (w.alloc _).alloc _ = W at *
        generalize hrs : w.heap.size + 1 = rs at *
        have hrs2 : w.heap.size < rs := by omega
        clear hrs
        have kC0 : (W).cell? ⟨w.heap.size, 0, none⟩ = some (.int .i64 A) := kC.cell 0; have kC1 : (W).cell? ⟨w.heap.size, 1, none⟩ = some (.int .i64 B) := kC.cell 1; have kCl : w.heap.size < (W).heap.size := kC.lt
        go_wp2_with fail
        refine (HG.out _).mono ?_
        rintro e w1 ⟨rfl, hb1⟩
        have jC := kC.next hb1
        have kR1 := kR.next hb1
        have hbb : Below w.heap.size w w1 := below_step hb1 hsz hb0
        have hsz1 := hbb.size
        clear kC kR hb1 hb0 kC0 kC1 kCl
        have jC0 : (w1).cell? ⟨w.heap.size, 0, none⟩ = some (.int .i64 A) := jC.cell 0; have jC1 : (w1).cell? ⟨w.heap.size, 1, none⟩ = some (.int .i64 B) := jC.cell 1; have jCl : w.heap.size < (w1).heap.size := jC.lt
        have c0 : w1.cell? ⟨rs, 0, none⟩ = some (.bool false) := kR1.cell 0
        have c1 : w1.cell? ⟨rs, 1, none⟩ = some (.slice none 0 0) := kR1.cell 1
        have z0 := kR1.frozen 0
        have z1 := kR1.frozen 1
        have kRl := kR1.lt
        have k9 := (kR1.set 0 (.bool false)).set 1 (.slice none 0 0)
        have hB9 : Below w.heap.size w ((w1.setCell ⟨rs, 0, none⟩ (.bool false)).setCell ⟨rs, 1, none⟩ (.slice none 0 0)) := (hbb.setCell (by simp; omega) _).setCell (by simp; omega) _
        go_wp2_with ((go_at_call 27; refine (c_inside _ _ _ _).mono ?_; rintro e w' ⟨rfl, rfl⟩))
        generalize (World.setCell (World.setCell _ _ _) _ _) = w9 at hB9 k9 ⊢
        have q0 : w9.cell? ⟨rs, 0, none⟩ = some (.bool false) := k9.cell 0
        have q1 : w9.cell? ⟨rs, 1, none⟩ = some (.slice none 0 0) := k9.cell 1
        refine bodyPost_ret (v := .tuple #[.agg #[.bool false, .slice none 0 0], .bool false]) (by simp [results, Tryz.results14, go_sem, q0, q1]) rfl ?_
        unfold WhRes
        rw [HO.out, HK.out]
        exact ⟨_, rfl, Wh.zero _ _, hB9⟩
      · have ho : dwFine A B x n = okW (dwE A B x n.toNat) := by unfold dwFine dwOk; rw [h1, h2, h3]; rfl
        have hk : dwVal A B x n = if okW (dwE A B x n.toNat) then dwE A B x n.toNat else 0 := by unfold dwVal; rw [ho]
        have HO := Lib.hid ho
        have HK := Lib.hid hk
        have hbd := curveB_bd h1
        have hx := inB_true h2
        have hn := inB_true h3
        clear ho hk h1
        obtain ⟨N, rfl⟩ := Int.eq_ofNat_of_zero_le (show 0 ≤ n by omega)
        rw [Int.toNat_natCast] at HO HK
        have hlen : (dg (dwE A B x N).natAbs).length ≤ 100000 := by
          have := (dw_sz hbd.1 hbd.2 hx (N - 4) (by omega) N).len
          unfold dwE
          omega
        have kC := (Blk.new w #[.int .i64 A, .int .i64 B] 24).alloc (.cells #[.bool false, .slice none 0 0] 37)
        have kR := Blk.new (w.alloc (.cells #[.int .i64 A, .int .i64 B] 24)) #[.bool false, .slice none 0 0] 37
        have hb0 : Below w.heap.size w ((w.alloc (.cells #[.int .i64 A, .int .i64 B] 24)).alloc (.cells #[.bool false, .slice none 0 0] 37)) := ((Below.refl _ _).alloc (Nat.le_refl _) _).alloc (by simp) _
        simp only [World.size_alloc] at kR
        have hsz := hb0.size
        go_enter Tryz.func14, Tryz.ntmps14
        go_upto_region 1 with (fail)
        generalize (w.alloc _).alloc _ = W at *
        generalize hrs : w.heap.size + 1 = rs at *
        have hrs2 : w.heap.size < rs := by omega
        clear hrs
        have kC0 : (W).cell? ⟨w.heap.size, 0, none⟩ = some (.int .i64 A) := kC.cell 0; have kC1 : (W).cell? ⟨w.heap.size, 1, none⟩ = some (.int .i64 B) := kC.cell 1; have kCl : w.heap.size < (W).heap.size := kC.lt
        go_wp2_with fail
        refine (HG.out _).mono ?_
        rintro e w1 ⟨rfl, hb1⟩
        have jC := kC.next hb1
        have kR1 := kR.next hb1
        have hbb : Below w.heap.size w w1 := below_step hb1 hsz hb0
        have hsz1 := hbb.size
        clear kC kR hb1 hb0 kC0 kC1 kCl
        have jC0 : (w1).cell? ⟨w.heap.size, 0, none⟩ = some (.int .i64 A) := jC.cell 0; have jC1 : (w1).cell? ⟨w.heap.size, 1, none⟩ = some (.int .i64 B) := jC.cell 1; have jCl : w.heap.size < (w1).heap.size := jC.lt
        have kRs := kR1.lt
        go_wp2_with ((go_at_call 27; refine (c_inside _ _ _ _).mono ?_; rintro e w' ⟨rfl, rfl⟩))
        refine (c_divisionWhole A B x N hbd.1 hbd.2 hx (by omega) _).mono ?_
        rintro e w2 ⟨v, rfl, hwh, hb2⟩
        have kR2 := kR1.next hb2
        have hbb2 : Below w.heap.size w w2 := below_step hb2 hsz1 hbb
        have hsz2 := hbb2.size
        have HB := Lib.hid (c_wholeResult w1.heap.size (dwE A B x N) v hlen w2 hwh)
        clear hwh hb2 kR1 hbb
        go_wp2_with fail
        refine HB.out.mono ?_
        rintro e w3 ⟨v3, rfl, hwh, hb3⟩
        obtain ⟨V, hV⟩ : ∃ V, (if okW (dwE A B x N) then dwE A B x N else 0) = V := ⟨_, rfl⟩
        rw [hV] at hwh
        have HV : Hid (dwVal A B x N = V) := HK.out.trans hV
        obtain ⟨fine, hfine⟩ : ∃ b, okW (dwE A B x N) = b := ⟨_, rfl⟩
        rw [hfine]
        have HF : Hid (dwFine A B x N = fine) := HO.out.trans hfine
        clear hV hfine HO HK
        obtain ⟨lv3, rfl, hr3⟩ := hwh
        obtain ⟨sl, scap, rfl, _⟩ := id hr3.1
        have kR3 := kR2.next hb3
        have hbb3 : Below w.heap.size w w3 := below_step hb3 hsz2 hbb2
        have c0 : w3.cell? ⟨rs, 0, none⟩ = some (.bool false) := kR3.cell 0
        have c1 : w3.cell? ⟨rs, 1, none⟩ = some (.slice none 0 0) := kR3.cell 1
        have z0 := kR3.frozen 0
        have z1 := kR3.frozen 1
        have kRl := kR3.lt
        have k9 := (kR3.set 0 (.bool (decide (V < 0)))).set 1 (.slice sl (dg V.natAbs).length scap)
        have hB9 : Below w.heap.size w ((w3.setCell ⟨rs, 0, none⟩ (.bool (decide (V < 0)))).setCell ⟨rs, 1, none⟩ (.slice sl (dg V.natAbs).length scap)) := (hbb3.setCell (by simp; omega) _).setCell (by simp; omega) _
        have ho8 := (hr3.set2 (S := rs) (by omega) (.bool (decide (V < 0))) (.slice sl (dg V.natAbs).length scap)).le (base' := w.heap.size) (by omega)
        clear hr3 hb3 kR2 hbb2
        go_wp2
        generalize (World.setCell (World.setCell _ _ _) _ _) = w9 at hB9 k9 ho8 ⊢
        have q0 : w9.cell? ⟨rs, 0, none⟩ = some (.bool (decide (V < 0))) := k9.cell 0
        have q1 : w9.cell? ⟨rs, 1, none⟩ = some (.slice sl (dg V.natAbs).length scap) := k9.cell 1
        refine bodyPost_ret (v := .tuple #[.agg #[.bool (decide (V < 0)), .slice sl (dg V.natAbs).length scap], .bool fine]) (by simp [results, Tryz.results14, go_sem, q0, q1]) rfl ?_
        unfold WhRes
        rw [HF.out, HV.out]
        exact ⟨_, rfl, ⟨_, rfl, ho8⟩, hB9⟩
set_option maxHeartbeats 2000000 in
set_option maxRecDepth 20000 in
theorem c_sDivisionWhole (A B x n : Int) (w : World) :
    Calls Tryz.prog 15 #[.agg #[.int .i64 A, .int .i64 B], .int .i64 x, .int .i64 n] w (WhRes (dwVal A B x n) (dwFine A B x n) w) := by
  have HE := Lib.hid (c_dpExact A B x n)
  generalize dwVal A B x n = V at *
  generalize dwFine A B x n = fine at *
  have kC := (Blk.new w #[.int .i64 A, .int .i64 B] 24).alloc (.cells #[.bool false, .slice none 0 0] 37)
  have kR := Blk.new (w.alloc (.cells #[.int .i64 A, .int .i64 B] 24)) #[.bool false, .slice none 0 0] 37
  have hb0 : Below w.heap.size w ((w.alloc (.cells #[.int .i64 A, .int .i64 B] 24)).alloc (.cells #[.bool false, .slice none 0 0] 37)) := ((Below.refl _ _).alloc (Nat.le_refl _) _).alloc (by simp) _
  simp only [World.size_alloc] at kR
  have hsz := hb0.size
  go_enter Tryz.func15, Tryz.ntmps15
  go_upto_region 1 with (fail)
  generalize (w.alloc _).alloc _ = W at *
  generalize hrs : w.heap.size + 1 = rs at *
  have hrs2 : w.heap.size < rs := by omega
  clear hrs
  have kC0 : (W).cell? ⟨w.heap.size, 0, none⟩ = some (.int .i64 A) := kC.cell 0; have kC1 : (W).cell? ⟨w.heap.size, 1, none⟩ = some (.int .i64 B) := kC.cell 1; have kCl : w.heap.size < (W).heap.size := kC.lt
  go_wp2_with fail
  refine (HE.out _).mono ?_
  rintro e w3 ⟨v3, rfl, hwh, hb3⟩
  have hrs3 : rs < W.heap.size := kR.lt
  obtain ⟨lv3, rfl, hr3⟩ := hwh
  obtain ⟨sl, scap, rfl, _⟩ := id hr3.1
  have kR3 := kR.next hb3
  have hbb3 : Below w.heap.size w w3 := below_step hb3 hsz hb0
  have c0 : w3.cell? ⟨rs, 0, none⟩ = some (.bool false) := kR3.cell 0
  have c1 : w3.cell? ⟨rs, 1, none⟩ = some (.slice none 0 0) := kR3.cell 1
  have z0 := kR3.frozen 0
  have z1 := kR3.frozen 1
  have kRl := kR3.lt
  have k9 := (kR3.set 0 (.bool (decide (V < 0)))).set 1 (.slice sl (dg V.natAbs).length scap)
  have hB9 : Below w.heap.size w ((w3.setCell ⟨rs, 0, none⟩ (.bool (decide (V < 0)))).setCell ⟨rs, 1, none⟩ (.slice sl (dg V.natAbs).length scap)) := (hbb3.setCell (by simp; omega) _).setCell (by simp; omega) _
  have ho8 := (hr3.set2 (S := rs) (by omega) (.bool (decide (V < 0))) (.slice sl (dg V.natAbs).length scap)).le (base' := w.heap.size) (by omega)
  clear hr3 hb3 kC kR hb0
  go_wp2
  generalize (World.setCell (World.setCell _ _ _) _ _) = w9 at hB9 k9 ho8 ⊢
  have q0 : w9.cell? ⟨rs, 0, none⟩ = some (.bool (decide (V < 0))) := k9.cell 0
  have q1 : w9.cell? ⟨rs, 1, none⟩ = some (.slice sl (dg V.natAbs).length scap) := k9.cell 1
  refine bodyPost_ret (v := .tuple #[.agg #[.bool (decide (V < 0)), .slice sl (dg V.natAbs).length scap], .bool fine]) (by simp [results, Tryz.results15, go_sem, q0, q1]) rfl ?_
  exact ⟨_, rfl, ⟨_, rfl, ho8⟩, hB9⟩
end Go.Proofs.YtgjdgcmmlfmhmaaGreatDoor

/- Dtx -/
namespace Go.Proofs.YtgjdgcmmlfmhmaaGreatDoor
open Go.RowKit

noncomputable def dtx (A B x n : Int) : List UInt8 := if dwFine A B x n then wtx (dwVal A B x n) else []
theorem dwVal_len (A B x n : Int) : (dg (dwVal A B x n).natAbs).length ≤ 400 := by
  unfold dwVal
  split
  · rename_i h
    unfold dwFine at h
    rw [Bool.and_eq_true] at h
    simpa [okW] using h.2
  · rw [show dg (Int.natAbs 0) = [] from dg_zero]; simp
theorem wtx_len {K : Int} (h : (dg K.natAbs).length ≤ 400) : (wtx K).length ≤ 2000 := by
  have := wtK_len (dg_Dg K.natAbs).1 (dg K.natAbs).length
  unfold wtx
  split
  · simp
  · split <;> simp <;> omega
theorem dtx_len (A B x n : Int) : (dtx A B x n).length ≤ 2000 := by
  unfold dtx
  split
  · exact wtx_len (dwVal_len A B x n)
  · simp
def DtPost (T : List UInt8) (b : Bool) (w : World) (e : Ending) (w' : World) : Prop := e = .returned (.tuple #[.string ⟨T.toArray⟩, .bool b]) ∧ Below w.heap.size w w'
set_option maxHeartbeats 2000000 in
set_option maxRecDepth 20000 in
theorem c_iDivisionText (A B x n : Int) (w : World) (ht : TabI w) :
    Calls Tryz.prog 16 #[.agg #[.int .i64 A, .int .i64 B], .int .i64 x, .int .i64 n] w (DtPost (dtx A B x n) (dwFine A B x n) w) := by
  have hlV := dwVal_len A B x n
  have HI := Lib.hid (c_iDivisionWhole A B x n)
  have HX : Hid (dtx A B x n = if dwFine A B x n then wtx (dwVal A B x n) else []) := rfl
  generalize dtx A B x n = X at *
  generalize dwVal A B x n = V at *
  generalize dwFine A B x n = fine at *
  have HT := Lib.hid ht
  clear ht
  have kC := Blk.new w #[.int .i64 A, .int .i64 B] 24
  have hb0 : Below w.heap.size w (w.alloc (.cells #[.int .i64 A, .int .i64 B] 24)) := (Below.refl _ _).alloc (Nat.le_refl _) _
  have hsz := hb0.size
  go_enter Tryz.func16, Tryz.ntmps16
  go_upto_region 1 with (fail)
  generalize w.alloc _ = W at *
  have kC0 : (W).cell? ⟨w.heap.size, 0, none⟩ = some (.int .i64 A) := kC.cell 0; have kC1 : (W).cell? ⟨w.heap.size, 1, none⟩ = some (.int .i64 B) := kC.cell 1; have kCl : w.heap.size < (W).heap.size := kC.lt
  go_wp2_with fail
  refine (HI.out _).mono ?_
  rintro e w1 ⟨v1, rfl, hwh, hb1⟩
  obtain ⟨l1, rfl, r1⟩ := hwh
  obtain ⟨s1, p1, rfl, _⟩ := id r1.1
  have hbb1 : Below w.heap.size w w1 := below_step hb1 hsz hb0
  have k2 := Blk.new w1 #[.bool (decide (V < 0)), .slice s1 (dg V.natAbs).length p1] 37
  have hb2 : Below w1.heap.size w1 (w1.alloc (.cells #[.bool (decide (V < 0)), .slice s1 (dg V.natAbs).length p1] 37)) := (Below.refl _ _).alloc (Nat.le_refl _) _
  have r2 := r1.1.below hb2
  have hbb2 : Below w.heap.size w (w1.alloc (.cells #[.bool (decide (V < 0)), .slice s1 (dg V.natAbs).length p1] 37)) := below_step hb2 hbb1.size hbb1
  go_upto_region 2 with (fail)
  generalize w1.alloc _ = w2 at *
  generalize w1.heap.size = r8 at *
  have x0 : w2.cell? ⟨r8, 0, none⟩ = some (.bool (decide (V < 0))) := k2.cell 0
  have x1 : w2.cell? ⟨r8, 1, none⟩ = some (.slice s1 (dg V.natAbs).length p1) := k2.cell 1
  have hs2 := hbb2.size
  cases fine
  · have hx : Hid (X = []) := HX.out.trans (if_neg (by decide))
    go_wp2
    refine bodyPost_ret (v := .tuple #[.string ⟨#[]⟩, .bool false]) (by simp [results, Tryz.results16, go_sem]) rfl ?_
    exact ⟨by rw [hx.out], hbb2⟩
  · have hx : Hid (X = wtx V) := HX.out.trans (if_pos rfl)
    have HW := Lib.hid (c_wholeText V _ (by omega) w2 (HT.out.below hbb2) ⟨_, rfl, r2⟩)
    clear HX HI
    go_wp2_with fail
    refine HW.out.mono ?_
    rintro e w3 ⟨rfl, hb3⟩
    have hbb3 : Below w.heap.size w w3 := below_step hb3 hs2 hbb2
    go_wp2
    refine bodyPost_ret (v := .tuple #[.string ⟨(wtx V).toArray⟩, .bool true]) (by simp [results, Tryz.results16, go_sem]) rfl ?_
    exact ⟨by rw [hx.out], hbb3⟩
set_option maxHeartbeats 2000000 in
set_option maxRecDepth 20000 in
theorem c_sDivisionText (A B x n : Int) (w : World) (ht : TabI w) :
    Calls Tryz.prog 17 #[.agg #[.int .i64 A, .int .i64 B], .int .i64 x, .int .i64 n] w (DtPost (dtx A B x n) (dwFine A B x n) w) := by
  have hlV := dwVal_len A B x n
  have HI := Lib.hid (c_dpExact A B x n)
  have HX : Hid (dtx A B x n = if dwFine A B x n then wtx (dwVal A B x n) else []) := rfl
  generalize dtx A B x n = X at *
  generalize dwVal A B x n = V at *
  generalize dwFine A B x n = fine at *
  have HT := Lib.hid ht
  clear ht
  have kC := Blk.new w #[.int .i64 A, .int .i64 B] 24
  have hb0 : Below w.heap.size w (w.alloc (.cells #[.int .i64 A, .int .i64 B] 24)) := (Below.refl _ _).alloc (Nat.le_refl _) _
  have hsz := hb0.size
  go_enter Tryz.func17, Tryz.ntmps17
  go_upto_region 1 with (fail)
  generalize w.alloc _ = W at *
  have kC0 : (W).cell? ⟨w.heap.size, 0, none⟩ = some (.int .i64 A) := kC.cell 0; have kC1 : (W).cell? ⟨w.heap.size, 1, none⟩ = some (.int .i64 B) := kC.cell 1; have kCl : w.heap.size < (W).heap.size := kC.lt
  go_wp2_with fail
  refine (HI.out _).mono ?_
  rintro e w1 ⟨v1, rfl, hwh, hb1⟩
  obtain ⟨l1, rfl, r1⟩ := hwh
  obtain ⟨s1, p1, rfl, _⟩ := id r1.1
  have hbb1 : Below w.heap.size w w1 := below_step hb1 hsz hb0
  have k2 := Blk.new w1 #[.bool (decide (V < 0)), .slice s1 (dg V.natAbs).length p1] 37
  have hb2 : Below w1.heap.size w1 (w1.alloc (.cells #[.bool (decide (V < 0)), .slice s1 (dg V.natAbs).length p1] 37)) := (Below.refl _ _).alloc (Nat.le_refl _) _
  have r2 := r1.1.below hb2
  have hbb2 : Below w.heap.size w (w1.alloc (.cells #[.bool (decide (V < 0)), .slice s1 (dg V.natAbs).length p1] 37)) := below_step hb2 hbb1.size hbb1
  go_upto_region 2 with (fail)
  generalize w1.alloc _ = w2 at *
  generalize w1.heap.size = r8 at *
  have x0 : w2.cell? ⟨r8, 0, none⟩ = some (.bool (decide (V < 0))) := k2.cell 0
  have x1 : w2.cell? ⟨r8, 1, none⟩ = some (.slice s1 (dg V.natAbs).length p1) := k2.cell 1
  have hs2 := hbb2.size
  cases fine
  · have hx : Hid (X = []) := HX.out.trans (if_neg (by decide))
    go_wp2
    refine bodyPost_ret (v := .tuple #[.string ⟨#[]⟩, .bool false]) (by simp [results, Tryz.results17, go_sem]) rfl ?_
    exact ⟨by rw [hx.out], hbb2⟩
  · have hx : Hid (X = wtx V) := HX.out.trans (if_pos rfl)
    have HW := Lib.hid (c_bgText V _ (by omega) w2 ⟨_, rfl, r2⟩)
    clear HX HI
    go_wp2_with fail
    refine HW.out.mono ?_
    rintro e w3 ⟨rfl, hb3⟩
    have hbb3 : Below w.heap.size w w3 := below_step hb3 hs2 hbb2
    go_wp2
    refine bodyPost_ret (v := .tuple #[.string ⟨(wtx V).toArray⟩, .bool true]) (by simp [results, Tryz.results17, go_sem]) rfl ?_
    exact ⟨by rw [hx.out], hbb3⟩
end Go.Proofs.YtgjdgcmmlfmhmaaGreatDoor
