/- Walks: the next division value as a whole, the reference's way (dpNext). -/
import Derived.Test.YtmlfkceafkhlaaaDoorDwS
namespace Go.Proofs.YtmlfkceafkhlaaaDoor
open Go.RowKit

theorem OwnsW.le {w : World} {base b base' b' : Nat} {v : Value} {Ns : List Int} (h : OwnsW w base b v Ns) (h1 : base' ≤ base) (h2 : b' ≤ b) : OwnsW w base' b' v Ns := by
  obtain ⟨L, k1, kl, k2⟩ := h
  refine ⟨L, ⟨k1.1, k1.2.imp id fun ⟨g, c, cur, q1, q2, q3⟩ => ⟨g, c, cur, q1, Nat.le_trans h1 q2, q3⟩⟩, kl, fun i a c => ⟨(k2 i a c).1, (k2 i a c).2.le h2⟩⟩
theorem dn_ev (a b c d e : Int) : a * (b * c ^ 2 + -(d * e ^ 2)) = a * (b * (c * c) - d * (e * e)) := by grind
theorem dn_o0 (a b c d G : Int) : G * (a * b ^ 3) + -(c * d ^ 3) = a * (b * b * b) * G - c * (d * d * d) := by grind
theorem dn_o1 (a b c d G : Int) : a * b ^ 3 + -(G * (c * d ^ 3)) = a * (b * b * b) - c * (d * d * d) * G := by grind
set_option maxHeartbeats 4000000 in
set_option maxRecDepth 100000 in
theorem c_dpNext (G : Int) (xs : List Int) (k base b0 : Nat) (v f : Value) (w : World) (hk : 5 ≤ k ∧ k ≤ 12) (hl : xs.length = k) (hD : OwnsW w base b0 v xs) (hf : Wh b0 G f w) (hzG : Sz 5 G) (hz0 : ∀ i, Sz 3000 (eat xs i)) :
    Calls Tryd.prog 32 #[v, f, .int .i64 k] w (WhP (dwN G xs k) w) := by
  have hz := Lib.hid hz0
  obtain ⟨g, cap, rfl, _, _⟩ := hD.addr (by omega)
  rw [hl] at hD ⊢
  obtain ⟨hke, hgb0, HE⟩ := hD.elt (by omega)
  clear hke hgb0 hD
  obtain ⟨lf, rfl, hr, hc1⟩ := hf.cell
  have hB0 : Below w.heap.size w ((w.alloc (.cells #[.bool (decide (G < 0)), lf] 31)).alloc (.cells #[.bool false, .slice none 0 0] 31)) := ((Below.refl _ _).alloc (Nat.le_refl _) _).alloc (by simp) _
  have kG : BlkW b0 w.heap.size G ((w.alloc (.cells #[.bool (decide (G < 0)), lf] 31)).alloc (.cells #[.bool false, .slice none 0 0] 31)) := ⟨lf, (Blk.new w _ _).alloc _, hr.below hB0, hc1⟩
  have kR := Blk.new (w.alloc (.cells #[.bool (decide (G < 0)), lf] 31)) #[.bool false, .slice none 0 0] 31
  replace HE := HE.next hB0
  have hW0 : ((w.alloc (.cells #[.bool (decide (G < 0)), lf] 31)).alloc (.cells #[.bool false, .slice none 0 0] 31)).heap.size = w.heap.size + 2 := by simp
  simp only [World.size_alloc] at kR
  obtain ⟨b, hb⟩ : ∃ b, w.heap.size = b := ⟨_, rfl⟩
  obtain ⟨K, hK⟩ : ∃ K, dwN G xs k = K := ⟨_, rfl⟩
  rw [hK]
  have HK := Lib.hid hK
  obtain ⟨m, hm⟩ : ∃ m, m = k / 2 := ⟨_, rfl⟩
  have HN : Hid (K = if k % 2 = 0 then eat xs m * (eat xs (m + 2) * (eat xs (m - 1) * eat xs (m - 1)) - eat xs (m - 2) * (eat xs (m + 1) * eat xs (m + 1))) else if m % 2 = 0 then eat xs (m + 2) * (eat xs m * eat xs m * eat xs m) * G - eat xs (m - 1) * (eat xs (m + 1) * eat xs (m + 1) * eat xs (m + 1)) else eat xs (m + 2) * (eat xs m * eat xs m * eat xs m) - eat xs (m - 1) * (eat xs (m + 1) * eat xs (m + 1) * eat xs (m + 1)) * G) := by
    show _ = _
    rw [← hK, hm]; rfl
  have hkm : (k : Int) / 2 = (m : Int) := by omega
  have hm2 : 2 ≤ m ∧ m + 2 < k := by omega
  have hk12 : k ≤ 12 := hk.2
  have h5 : 5 ≤ k := hk.1
  clear hk
  by_cases he : k % 2 = 0
  · have hkI : (k : Int) % 2 = 0 := by omega
    obtain ⟨P, hP⟩ : ∃ P, eat xs (m + 2) * (eat xs (m - 1)) ^ 2 = P := ⟨_, rfl⟩
    obtain ⟨Q, hQ⟩ : ∃ Q, eat xs (m - 2) * (eat xs (m + 1)) ^ 2 = Q := ⟨_, rfl⟩
    obtain ⟨I, hI⟩ : ∃ I, P + -Q = I := ⟨_, rfl⟩
    have HKK : Hid (eat xs m * I = K) := by
      show _ = _
      rw [HN.out, if_pos he, ← hI, ← hP, ← hQ]
      exact dn_ev _ _ _ _ _
    have zP : Sz 10000 P := by
      rw [← hP]
      exact ((hz.out _).mul (pw_sz (hz.out _) 2)).mono (by omega)
    have zQ : Sz 10000 Q := by
      rw [← hQ]
      exact ((hz.out _).mul (pw_sz (hz.out _) 2)).mono (by omega)
    have zI : Sz 10001 I := by
      rw [← hI, ← Int.sub_eq_add_neg]
      exact zP.sub zQ
    have HP := Lib.hid hP
    have HQ := Lib.hid hQ
    have HI := Lib.hid hI
    clear hP hQ hI HN
    have hP2 : Hid (∀ a c w, WhR (eat xs (m + 2)) a w → WhR ((eat xs (m - 1)) ^ 2) c w → Calls Tryd.prog 30 #[a, c] w (WhP P w)) := fun a c w h1 h2 => HP.out ▸ c_bgMul _ _ a c (Nat.le_trans (hz.out _).len (by omega)) (Nat.le_trans (pw_sz (hz.out _) 2).len (by omega)) w h1 h2
    have hQ2 : Hid (∀ a c w, WhR (eat xs (m - 2)) a w → WhR ((eat xs (m + 1)) ^ 2) c w → Calls Tryd.prog 30 #[a, c] w (WhP Q w)) := fun a c w h1 h2 => HQ.out ▸ c_bgMul _ _ a c (Nat.le_trans (hz.out _).len (by omega)) (Nat.le_trans (pw_sz (hz.out _) 2).len (by omega)) w h1 h2
    have hI2 : Hid (∀ a c w, WhR P a w → WhR Q c w → Calls Tryd.prog 31 #[a, c] w (WhP I w)) := fun a c w h1 h2 => HI.out ▸ c_bgSub P Q a c (Nat.le_trans zP.len (by omega)) (Nat.le_trans zQ.len (by omega)) w h1 h2
    have hK2 : Hid (∀ a c w, WhR (eat xs m) a w → WhR I c w → Calls Tryd.prog 30 #[a, c] w (WhP K w)) := fun a c w h1 h2 => HKK.out ▸ c_bgMul (eat xs m) I a c (Nat.le_trans (hz.out _).len (by omega)) (Nat.le_trans zI.len (by omega)) w h1 h2
    clear HP HQ HI HKK zP zQ zI
    go_enter Tryd.func32, Tryd.ntmps32
    go_upto_region 1 with (fail)
    generalize (w.alloc _).alloc _ = W at *
    rw [hb] at kG kR hB0 hW0
    have HBW := Lib.hid hb
    generalize hrR : b + 1 = rR at kR ⊢
    have hbR : b < rR := by omega
    have hbW : b ≤ W.heap.size := by omega
    have hbdW : rR + 1 ≤ W.heap.size := by omega
    have hb0 := hB0
    clear hb hW0 hrR hm hl hr hc1 hf hB0 hK hz0
    go_upto_region 9 with (fail)
    refine wp_region_tab 15 [14] [(14, 10), (0, 56), (1, 57), (2, 58), (3, 59), (4, 60), (5, 61), (6, 62), (7, 63), (8, 64), (9, 65), (10, 66), (11, 67), (12, 68), (13, 69)] [IsV (.slice (some ⟨g, 0, none⟩) k cap), IsV (.int .i64 (m : Int)), IsV (.int .i64 ((m + 2 : Nat) : Int)), IsV (.pointer (some ⟨g, (m + 2) * 2, none⟩)), Wh b0 (eat xs (m + 2)), IsV (.slice (some ⟨g, 0, none⟩) k cap), IsV (.int .i64 (m : Int)), IsV (.int .i64 ((m - 1 : Nat) : Int)), IsV (.pointer (some ⟨g, (m - 1) * 2, none⟩)), Wh b0 (eat xs (m - 1)), (fun v w => OwnsW w b b v (pwL (eat xs (m - 1)) 4)), IsE b 2 (pwL (eat xs (m - 1)) 4), Wh b ((eat xs (m - 1)) ^ 2), Wh b P, PA W.heap.size #[.bool false, .slice none 0 0] 31] (by kernel_rfl) (by kernel_rfl) (by kernel_rfl) ⟨⟨_, _, _, rfl⟩, trivial⟩ ⟨IsV.closed _, IsV.closed _, IsV.closed _, IsV.closed _, Wh.closed _ _, IsV.closed _, IsV.closed _, IsV.closed _, IsV.closed _, Wh.closed _ _, fun v => OwnsW.closed b b v _, fun v => IsE.closed b 2 _ v, Wh.closed _ _, Wh.closed _ _, PA.closed _ _ _, trivial⟩ ⟨?_, ?_, ?_, ?_, ?_, ?_, ?_, ?_, ?_, ?_, ?_, ?_, ?_, ?_, ?_, trivial⟩ ?_
    · refine StepT.q _ (by rfl) (by rfl) fun ρ w' H => ?_
      exact OpTo.move _ rfl (H.bas 0 (by kernel_rfl))
    · refine StepT.q _ (by rfl) (by rfl) fun ρ w' H => ?_
      exact OpTo.move _ rfl (H.bas 7 (by kernel_rfl))
    · refine StepT.q _ (by rfl) (by rfl) fun ρ w' H => ?_
      obtain ⟨v1, e1, p1⟩ := H.dep 1 57 (by kernel_rfl)
      obtain rfl : v1 = .int .i64 (m : Int) := p1
      exact op_addN (c := 2) _ _ rfl e1 (H.con _) (by omega)
    · refine StepT.q _ (by rfl) (by rfl) fun ρ w' H => ?_
      obtain ⟨v0, e0, p0⟩ := H.dep 0 56 (by kernel_rfl)
      obtain rfl : v0 = .slice (some ⟨g, 0, none⟩) k cap := p0
      obtain ⟨v2, e2, p2⟩ := H.dep 2 58 (by kernel_rfl)
      obtain rfl : v2 = .int .i64 ((m + 2 : Nat) : Int) := p2
      exact op_idxW _ _ rfl e0 e2 (by omega)
    · refine StepT.q _ (by rfl) (by rfl) fun ρ w' H => ?_
      obtain ⟨v3, e3, p3⟩ := H.dep 3 59 (by kernel_rfl)
      obtain rfl : v3 = .pointer (some ⟨g, (m + 2) * 2, none⟩) := p3
      exact op_eltX _ rfl e3 (HE.next H.bel) (by omega)
    · refine StepT.q _ (by rfl) (by rfl) fun ρ w' H => ?_
      exact OpTo.move _ rfl (H.bas 0 (by kernel_rfl))
    · refine StepT.q _ (by rfl) (by rfl) fun ρ w' H => ?_
      exact OpTo.move _ rfl (H.bas 7 (by kernel_rfl))
    · refine StepT.q _ (by rfl) (by rfl) fun ρ w' H => ?_
      obtain ⟨v6, e6, p6⟩ := H.dep 6 62 (by kernel_rfl)
      obtain rfl : v6 = .int .i64 (m : Int) := p6
      exact op_subN (c := 1) _ _ rfl e6 (H.con _) (by omega) (by omega)
    · refine StepT.q _ (by rfl) (by rfl) fun ρ w' H => ?_
      obtain ⟨v5, e5, p5⟩ := H.dep 5 61 (by kernel_rfl)
      obtain rfl : v5 = .slice (some ⟨g, 0, none⟩) k cap := p5
      obtain ⟨v7, e7, p7⟩ := H.dep 7 63 (by kernel_rfl)
      obtain rfl : v7 = .int .i64 ((m - 1 : Nat) : Int) := p7
      exact op_idxW _ _ rfl e5 e7 (by omega)
    · refine StepT.q _ (by rfl) (by rfl) fun ρ w' H => ?_
      obtain ⟨v8, e8, p8⟩ := H.dep 8 64 (by kernel_rfl)
      obtain rfl : v8 = .pointer (some ⟨g, (m - 1) * 2, none⟩) := p8
      exact op_eltX _ rfl e8 (HE.next H.bel) (by omega)
    · refine StepT.q _ (by rfl) (by rfl) fun ρ w' H => ?_
      obtain ⟨v9, e9, p9⟩ := H.dep 9 65 (by kernel_rfl)
      have p9 : (Wh b0 (eat xs (m - 1))) v9 w' := p9
      exact OpTo.call 27 #[v9] _ _ _ rfl (H.fn 27) (enters_of Tryd.func27 (by kernel_rfl) rfl) (by simp [e9]) ((c_dpPowers 3000 (by omega) b0 (eat xs (m - 1)) v9 w' p9 (hz.out _)).mono fun e w2 ⟨v, h1, h2, h3⟩ => ⟨v, h1, h3, h2.le (Nat.le_trans hbW H.bel.size) (Nat.le_trans hbW H.bel.size)⟩)
    · refine StepT.q _ (by rfl) (by rfl) fun ρ w' H => ?_
      obtain ⟨v10, e10, p10⟩ := H.dep 10 66 (by kernel_rfl)
      have p10 : ((fun v w => OwnsW w b b v (pwL (eat xs (m - 1)) 4))) v10 w' := p10
      exact op_idxE (i := 2) _ _ rfl (by rw [e10]; exact p10) (H.con _) (by rw [pwL_len]; omega)
    · refine StepT.q _ (by rfl) (by rfl) fun ρ w' H => ?_
      obtain ⟨v11, e11, p11⟩ := H.dep 11 67 (by kernel_rfl)
      have p11 : (IsE b 2 (pwL (eat xs (m - 1)) 4)) v11 w' := p11
      exact pwL_get (eat xs (m - 1)) 4 2 (by omega) ▸ op_ldE _ rfl (by rw [e11]; exact p11) (by rw [pwL_len]; omega)
    · refine StepT.q _ (by rfl) (by rfl) fun ρ w' H => ?_
      obtain ⟨v4, e4, p4⟩ := H.dep 4 60 (by kernel_rfl)
      have p4 : (Wh b0 (eat xs (m + 2))) v4 w' := p4
      obtain ⟨v12, e12, p12⟩ := H.dep 12 68 (by kernel_rfl)
      have p12 : (Wh b ((eat xs (m - 1)) ^ 2)) v12 w' := p12
      exact OpTo.call 30 #[v4, v12] _ _ _ rfl (H.fn 30) (enters_of Tryd.func30 (by kernel_rfl) rfl) (by simp [e4, e12]) ((hP2.out v4 v12 w' p4.rd p12.rd).mono fun e w2 ⟨v, h1, h2, h3⟩ => ⟨v, h1, h3, h2.le (Nat.le_trans hbW H.bel.size)⟩)
    · refine StepT.a _ (by rfl) fun ρ w' H => ?_
      exact OpTo.alloc rfl (fun w => by simp [go_sem]) H.bel.size
    intro vs Wt hBt hDt
    have hV13 : (Wh b P) (vs 13) Wt := hDt.1 13 (by omega)
    have hV14 : (PA W.heap.size #[.bool false, .slice none 0 0] 31) (vs 14) Wt := hDt.1 14 (by omega)
    obtain ⟨r10, ea10, hr10, kr10⟩ := hV14
    clear hDt
    simp only [mergeS, Nat.reduceBEq, cond_true, cond_false, Nat.reduceAdd, List.drop_succ_cons, List.drop_zero, ea10]
    obtain ⟨lv10, ev10, rv10, cv10⟩ := hV13.cell
    obtain ⟨sl10, sc10, rfl, _⟩ := id rv10.1
    simp only [ev10]
    have x0 : Wt.cell? ⟨r10, 0, none⟩ = some (.bool false) := kr10.cell 0
    have x1 : Wt.cell? ⟨r10, 1, none⟩ = some (.slice none 0 0) := kr10.cell 1
    have x2 := kr10.frozen 0
    have x3 := kr10.frozen 1
    have x4 := kr10.lt
    have kP : BlkW b r10 (P) ((Wt.setCell ⟨r10, 0, none⟩ (.bool (decide (P < 0)))).setCell ⟨r10, 1, none⟩ (.slice sl10 (dg (P).natAbs).length sc10)) := BlkW.put kr10 rfl rv10 cv10
    have hBf : Below W.heap.size W ((Wt.setCell ⟨r10, 0, none⟩ (.bool (decide (P < 0)))).setCell ⟨r10, 1, none⟩ (.slice sl10 (dg (P).natAbs).length sc10)) := (hBt.setCell hr10 _).setCell hr10 _
    replace kG := kG.next hBf
    replace kR := kR.next hBf
    replace HE := HE.next hBf
    replace hbdW := Nat.le_trans hbdW hBf.size
    replace hb0 : Below b w _ := below_step hBf hbW hb0
    have q10 := hr10
    replace hbW := Nat.le_trans hbW hBf.size
    clear hV13 hBt kr10 ev10 rv10 cv10
    go_upto_region 10 with (fail)
    generalize (World.setCell (World.setCell _ _ _) _ _) = W3 at *
    clear x0 x1 x2 x3 x4 hBf hr10
    refine wp_region_tab 15 [14] [(14, 11), (0, 70), (1, 71), (2, 72), (3, 73), (4, 74), (5, 75), (6, 76), (7, 77), (8, 78), (9, 79), (10, 80), (11, 81), (12, 82), (13, 83)] [IsV (.slice (some ⟨g, 0, none⟩) k cap), IsV (.int .i64 (m : Int)), IsV (.int .i64 ((m - 2 : Nat) : Int)), IsV (.pointer (some ⟨g, (m - 2) * 2, none⟩)), Wh b0 (eat xs (m - 2)), IsV (.slice (some ⟨g, 0, none⟩) k cap), IsV (.int .i64 (m : Int)), IsV (.int .i64 ((m + 1 : Nat) : Int)), IsV (.pointer (some ⟨g, (m + 1) * 2, none⟩)), Wh b0 (eat xs (m + 1)), (fun v w => OwnsW w b b v (pwL (eat xs (m + 1)) 4)), IsE b 2 (pwL (eat xs (m + 1)) 4), Wh b ((eat xs (m + 1)) ^ 2), Wh b Q, PA W3.heap.size #[.bool false, .slice none 0 0] 31] (by kernel_rfl) (by kernel_rfl) (by kernel_rfl) ⟨⟨_, _, _, rfl⟩, trivial⟩ ⟨IsV.closed _, IsV.closed _, IsV.closed _, IsV.closed _, Wh.closed _ _, IsV.closed _, IsV.closed _, IsV.closed _, IsV.closed _, Wh.closed _ _, fun v => OwnsW.closed b b v _, fun v => IsE.closed b 2 _ v, Wh.closed _ _, Wh.closed _ _, PA.closed _ _ _, trivial⟩ ⟨?_, ?_, ?_, ?_, ?_, ?_, ?_, ?_, ?_, ?_, ?_, ?_, ?_, ?_, ?_, trivial⟩ ?_
    · refine StepT.q _ (by rfl) (by rfl) fun ρ w' H => ?_
      exact OpTo.move _ rfl (H.bas 0 (by kernel_rfl))
    · refine StepT.q _ (by rfl) (by rfl) fun ρ w' H => ?_
      exact OpTo.move _ rfl (H.bas 7 (by kernel_rfl))
    · refine StepT.q _ (by rfl) (by rfl) fun ρ w' H => ?_
      obtain ⟨v1, e1, p1⟩ := H.dep 1 71 (by kernel_rfl)
      obtain rfl : v1 = .int .i64 (m : Int) := p1
      exact op_subN (c := 2) _ _ rfl e1 (H.con _) (by omega) (by omega)
    · refine StepT.q _ (by rfl) (by rfl) fun ρ w' H => ?_
      obtain ⟨v0, e0, p0⟩ := H.dep 0 70 (by kernel_rfl)
      obtain rfl : v0 = .slice (some ⟨g, 0, none⟩) k cap := p0
      obtain ⟨v2, e2, p2⟩ := H.dep 2 72 (by kernel_rfl)
      obtain rfl : v2 = .int .i64 ((m - 2 : Nat) : Int) := p2
      exact op_idxW _ _ rfl e0 e2 (by omega)
    · refine StepT.q _ (by rfl) (by rfl) fun ρ w' H => ?_
      obtain ⟨v3, e3, p3⟩ := H.dep 3 73 (by kernel_rfl)
      obtain rfl : v3 = .pointer (some ⟨g, (m - 2) * 2, none⟩) := p3
      exact op_eltX _ rfl e3 (HE.next H.bel) (by omega)
    · refine StepT.q _ (by rfl) (by rfl) fun ρ w' H => ?_
      exact OpTo.move _ rfl (H.bas 0 (by kernel_rfl))
    · refine StepT.q _ (by rfl) (by rfl) fun ρ w' H => ?_
      exact OpTo.move _ rfl (H.bas 7 (by kernel_rfl))
    · refine StepT.q _ (by rfl) (by rfl) fun ρ w' H => ?_
      obtain ⟨v6, e6, p6⟩ := H.dep 6 76 (by kernel_rfl)
      obtain rfl : v6 = .int .i64 (m : Int) := p6
      exact op_addN (c := 1) _ _ rfl e6 (H.con _) (by omega)
    · refine StepT.q _ (by rfl) (by rfl) fun ρ w' H => ?_
      obtain ⟨v5, e5, p5⟩ := H.dep 5 75 (by kernel_rfl)
      obtain rfl : v5 = .slice (some ⟨g, 0, none⟩) k cap := p5
      obtain ⟨v7, e7, p7⟩ := H.dep 7 77 (by kernel_rfl)
      obtain rfl : v7 = .int .i64 ((m + 1 : Nat) : Int) := p7
      exact op_idxW _ _ rfl e5 e7 (by omega)
    · refine StepT.q _ (by rfl) (by rfl) fun ρ w' H => ?_
      obtain ⟨v8, e8, p8⟩ := H.dep 8 78 (by kernel_rfl)
      obtain rfl : v8 = .pointer (some ⟨g, (m + 1) * 2, none⟩) := p8
      exact op_eltX _ rfl e8 (HE.next H.bel) (by omega)
    · refine StepT.q _ (by rfl) (by rfl) fun ρ w' H => ?_
      obtain ⟨v9, e9, p9⟩ := H.dep 9 79 (by kernel_rfl)
      have p9 : (Wh b0 (eat xs (m + 1))) v9 w' := p9
      exact OpTo.call 27 #[v9] _ _ _ rfl (H.fn 27) (enters_of Tryd.func27 (by kernel_rfl) rfl) (by simp [e9]) ((c_dpPowers 3000 (by omega) b0 (eat xs (m + 1)) v9 w' p9 (hz.out _)).mono fun e w2 ⟨v, h1, h2, h3⟩ => ⟨v, h1, h3, h2.le (Nat.le_trans hbW H.bel.size) (Nat.le_trans hbW H.bel.size)⟩)
    · refine StepT.q _ (by rfl) (by rfl) fun ρ w' H => ?_
      obtain ⟨v10, e10, p10⟩ := H.dep 10 80 (by kernel_rfl)
      have p10 : ((fun v w => OwnsW w b b v (pwL (eat xs (m + 1)) 4))) v10 w' := p10
      exact op_idxE (i := 2) _ _ rfl (by rw [e10]; exact p10) (H.con _) (by rw [pwL_len]; omega)
    · refine StepT.q _ (by rfl) (by rfl) fun ρ w' H => ?_
      obtain ⟨v11, e11, p11⟩ := H.dep 11 81 (by kernel_rfl)
      have p11 : (IsE b 2 (pwL (eat xs (m + 1)) 4)) v11 w' := p11
      exact pwL_get (eat xs (m + 1)) 4 2 (by omega) ▸ op_ldE _ rfl (by rw [e11]; exact p11) (by rw [pwL_len]; omega)
    · refine StepT.q _ (by rfl) (by rfl) fun ρ w' H => ?_
      obtain ⟨v4, e4, p4⟩ := H.dep 4 74 (by kernel_rfl)
      have p4 : (Wh b0 (eat xs (m - 2))) v4 w' := p4
      obtain ⟨v12, e12, p12⟩ := H.dep 12 82 (by kernel_rfl)
      have p12 : (Wh b ((eat xs (m + 1)) ^ 2)) v12 w' := p12
      exact OpTo.call 30 #[v4, v12] _ _ _ rfl (H.fn 30) (enters_of Tryd.func30 (by kernel_rfl) rfl) (by simp [e4, e12]) ((hQ2.out v4 v12 w' p4.rd p12.rd).mono fun e w2 ⟨v, h1, h2, h3⟩ => ⟨v, h1, h3, h2.le (Nat.le_trans hbW H.bel.size)⟩)
    · refine StepT.a _ (by rfl) fun ρ w' H => ?_
      exact OpTo.alloc rfl (fun w => by simp [go_sem]) H.bel.size
    intro vs Wt hBt hDt
    have hV13 : (Wh b Q) (vs 13) Wt := hDt.1 13 (by omega)
    have hV14 : (PA W3.heap.size #[.bool false, .slice none 0 0] 31) (vs 14) Wt := hDt.1 14 (by omega)
    obtain ⟨r11, ea11, hr11, kr11⟩ := hV14
    clear hDt
    simp only [mergeS, Nat.reduceBEq, cond_true, cond_false, Nat.reduceAdd, List.drop_succ_cons, List.drop_zero, ea11]
    obtain ⟨lv11, ev11, rv11, cv11⟩ := hV13.cell
    obtain ⟨sl11, sc11, rfl, _⟩ := id rv11.1
    simp only [ev11]
    have x0 : Wt.cell? ⟨r11, 0, none⟩ = some (.bool false) := kr11.cell 0
    have x1 : Wt.cell? ⟨r11, 1, none⟩ = some (.slice none 0 0) := kr11.cell 1
    have x2 := kr11.frozen 0
    have x3 := kr11.frozen 1
    have x4 := kr11.lt
    have kQ : BlkW b r11 (Q) ((Wt.setCell ⟨r11, 0, none⟩ (.bool (decide (Q < 0)))).setCell ⟨r11, 1, none⟩ (.slice sl11 (dg (Q).natAbs).length sc11)) := BlkW.put kr11 rfl rv11 cv11
    have hBf : Below W3.heap.size W3 ((Wt.setCell ⟨r11, 0, none⟩ (.bool (decide (Q < 0)))).setCell ⟨r11, 1, none⟩ (.slice sl11 (dg (Q).natAbs).length sc11)) := (hBt.setCell hr11 _).setCell hr11 _
    replace kG := kG.next hBf
    replace kR := kR.next hBf
    replace HE := HE.next hBf
    replace hbdW := Nat.le_trans hbdW hBf.size
    replace kP := kP.next hBf
    replace hb0 : Below b w _ := below_step hBf hbW hb0
    have q11 := hr11
    replace hbW := Nat.le_trans hbW hBf.size
    clear hV13 hBt kr11 ev11 rv11 cv11
    go_upto_region 11 with (fail)
    generalize (World.setCell (World.setCell _ _ _) _ _) = W4 at *
    clear x0 x1 x2 x3 x4 hBf hr11
    refine wp_region_tab 8 [] [(0, 84), (1, 85), (2, 86), (3, 87), (4, 88), (5, 89), (6, 90), (7, 91)] [IsV (.slice (some ⟨g, 0, none⟩) k cap), IsV (.int .i64 (m : Int)), IsV (.pointer (some ⟨g, (m) * 2, none⟩)), Wh b0 (eat xs m), Wh b P, Wh b Q, Wh b I, Wh b K] (by kernel_rfl) (by kernel_rfl) (by kernel_rfl) trivial ⟨IsV.closed _, IsV.closed _, IsV.closed _, Wh.closed _ _, Wh.closed _ _, Wh.closed _ _, Wh.closed _ _, Wh.closed _ _, trivial⟩ ⟨?_, ?_, ?_, ?_, ?_, ?_, ?_, ?_, trivial⟩ ?_
    · refine StepT.q _ (by rfl) (by rfl) fun ρ w' H => ?_
      exact OpTo.move _ rfl (H.bas 0 (by kernel_rfl))
    · refine StepT.q _ (by rfl) (by rfl) fun ρ w' H => ?_
      exact OpTo.move _ rfl (H.bas 7 (by kernel_rfl))
    · refine StepT.q _ (by rfl) (by rfl) fun ρ w' H => ?_
      obtain ⟨v0, e0, p0⟩ := H.dep 0 84 (by kernel_rfl)
      obtain rfl : v0 = .slice (some ⟨g, 0, none⟩) k cap := p0
      obtain ⟨v1, e1, p1⟩ := H.dep 1 85 (by kernel_rfl)
      obtain rfl : v1 = .int .i64 (m : Int) := p1
      exact op_idxW _ _ rfl e0 e1 (by omega)
    · refine StepT.q _ (by rfl) (by rfl) fun ρ w' H => ?_
      obtain ⟨v2, e2, p2⟩ := H.dep 2 86 (by kernel_rfl)
      obtain rfl : v2 = .pointer (some ⟨g, (m) * 2, none⟩) := p2
      exact op_eltX _ rfl e2 (HE.next H.bel) (by omega)
    · refine StepT.q _ (by rfl) (by rfl) fun ρ w' H => ?_
      have hx : ρ (.tmp 10) = .pointer (some ⟨r10, 0, none⟩) := H.bas 10 (by kernel_rfl); exact op_ldW _ rfl hx (kP.next H.bel)
    · refine StepT.q _ (by rfl) (by rfl) fun ρ w' H => ?_
      have hx : ρ (.tmp 11) = .pointer (some ⟨r11, 0, none⟩) := H.bas 11 (by kernel_rfl); exact op_ldW _ rfl hx (kQ.next H.bel)
    · refine StepT.q _ (by rfl) (by rfl) fun ρ w' H => ?_
      obtain ⟨v4, e4, p4⟩ := H.dep 4 88 (by kernel_rfl)
      have p4 : (Wh b P) v4 w' := p4
      obtain ⟨v5, e5, p5⟩ := H.dep 5 89 (by kernel_rfl)
      have p5 : (Wh b Q) v5 w' := p5
      exact OpTo.call 31 #[v4, v5] _ _ _ rfl (H.fn 31) (enters_of Tryd.func31 (by kernel_rfl) rfl) (by simp [e4, e5]) ((hI2.out v4 v5 w' p4.rd p5.rd).mono fun e w2 ⟨v, h1, h2, h3⟩ => ⟨v, h1, h3, h2.le (Nat.le_trans hbW H.bel.size)⟩)
    · refine StepT.q _ (by rfl) (by rfl) fun ρ w' H => ?_
      obtain ⟨v3, e3, p3⟩ := H.dep 3 87 (by kernel_rfl)
      have p3 : (Wh b0 (eat xs m)) v3 w' := p3
      obtain ⟨v6, e6, p6⟩ := H.dep 6 90 (by kernel_rfl)
      have p6 : (Wh b I) v6 w' := p6
      exact OpTo.call 30 #[v3, v6] _ _ _ rfl (H.fn 30) (enters_of Tryd.func30 (by kernel_rfl) rfl) (by simp [e3, e6]) ((hK2.out v3 v6 w' p3.rd p6.rd).mono fun e w2 ⟨v, h1, h2, h3⟩ => ⟨v, h1, h3, h2.le (Nat.le_trans hbW H.bel.size)⟩)
    intro vs Wt hBt hDt
    have hV7 : (Wh b K) (vs 7) Wt := hDt.1 7 (by omega)
    clear hDt
    simp only [mergeS, Nat.reduceBEq, cond_true, cond_false, Nat.reduceAdd, List.drop_succ_cons, List.drop_zero]
    obtain ⟨lvU, evU, rvU, cvU⟩ := hV7.cell
    obtain ⟨slU, scU, rfl, _⟩ := id rvU.1
    simp only [evU]
    have kR1 := kR.next hBt
    replace hb0 : Below b w _ := below_step hBt hbW hb0
    replace hbW := Nat.le_trans hbW hBt.size
    have x0 : Wt.cell? ⟨rR, 0, none⟩ = some (.bool false) := kR1.cell 0
    have x1 : Wt.cell? ⟨rR, 1, none⟩ = some (.slice none 0 0) := kR1.cell 1
    have x2 := kR1.frozen 0
    have x3 := kR1.frozen 1
    have x4 := kR1.lt
    have k9 := (kR1.set 0 (.bool (decide (K < 0)))).set 1 (.slice slU (dg (K).natAbs).length scU)
    have hB9 : Below b w ((Wt.setCell ⟨rR, 0, none⟩ (.bool (decide (K < 0)))).setCell ⟨rR, 1, none⟩ (.slice slU (dg (K).natAbs).length scU)) := (hb0.setCell (by show b ≤ rR; omega) _).setCell (by show b ≤ rR; omega) _
    have ho8 : RdO ((Wt.setCell ⟨rR, 0, none⟩ (.bool (decide (K < 0)))).setCell ⟨rR, 1, none⟩ (.slice slU (dg (K).natAbs).length scU)) b (.slice slU (dg (K).natAbs).length scU) (dg (K).natAbs) := rvU.far (by decide) kR1 (over_set2 _ _ _ _)
    clear kR kR1 hb0 hV7 evU rvU cvU hBt
    go_wp2
    generalize (World.setCell (World.setCell _ _ _) _ _) = w9 at hB9 k9 ho8 ⊢
    have q0 : w9.cell? ⟨rR, 0, none⟩ = some (.bool (decide (K < 0))) := k9.cell 0
    have q1 : w9.cell? ⟨rR, 1, none⟩ = some (.slice slU (dg (K).natAbs).length scU) := k9.cell 1
    refine bodyPost_ret (v := .agg #[.bool (decide (K < 0)), (.slice slU (dg (K).natAbs).length scU)]) (by simp [results, Tryd.results32, go_sem, q0, q1]) rfl ?_
    have eb := HBW.out
    subst eb
    have ek := HK.out
    subst ek
    exact ⟨_, rfl, ⟨_, rfl, ho8⟩, hB9⟩
  · have hkI : (k : Int) % 2 = 1 := by omega
    obtain ⟨P, hP⟩ : ∃ P, eat xs (m + 2) * (eat xs m) ^ 3 = P := ⟨_, rfl⟩
    obtain ⟨Q, hQ⟩ : ∃ Q, eat xs (m - 1) * (eat xs (m + 1)) ^ 3 = Q := ⟨_, rfl⟩
    have zP : Sz 13000 P := by
      rw [← hP]
      exact ((hz.out _).mul (pw_sz (hz.out _) 3)).mono (by omega)
    have zQ : Sz 13000 Q := by
      rw [← hQ]
      exact ((hz.out _).mul (pw_sz (hz.out _) 3)).mono (by omega)
    have HP := Lib.hid hP
    have HQ := Lib.hid hQ
    clear hP hQ
    have hP2 : Hid (∀ a c w, WhR (eat xs (m + 2)) a w → WhR ((eat xs m) ^ 3) c w → Calls Tryd.prog 30 #[a, c] w (WhP P w)) := fun a c w h1 h2 => HP.out ▸ c_bgMul _ _ a c (Nat.le_trans (hz.out _).len (by omega)) (Nat.le_trans (pw_sz (hz.out _) 3).len (by omega)) w h1 h2
    have hQ2 : Hid (∀ a c w, WhR (eat xs (m - 1)) a w → WhR ((eat xs (m + 1)) ^ 3) c w → Calls Tryd.prog 30 #[a, c] w (WhP Q w)) := fun a c w h1 h2 => HQ.out ▸ c_bgMul _ _ a c (Nat.le_trans (hz.out _).len (by omega)) (Nat.le_trans (pw_sz (hz.out _) 3).len (by omega)) w h1 h2
    go_enter Tryd.func32, Tryd.ntmps32
    go_upto_region 1 with (fail)
    generalize (w.alloc _).alloc _ = W at *
    rw [hb] at kG kR hB0 hW0
    have HBW := Lib.hid hb
    generalize hrR : b + 1 = rR at kR ⊢
    have hbR : b < rR := by omega
    have hbW : b ≤ W.heap.size := by omega
    have hbdW : rR + 1 ≤ W.heap.size := by omega
    have hb0 := hB0
    clear hb hW0 hrR hm hl hr hc1 hf hB0 hK hz0
    go_upto_region 3 with (fail)
    have hbd0 : rR + 1 ≤ W.heap.size := hbdW
    refine wp_region_tab 14 [13] [(13, 8), (0, 17), (1, 18), (2, 19), (3, 20), (4, 21), (5, 22), (6, 23), (7, 24), (8, 25), (9, 26), (10, 27), (11, 28), (12, 29)] [IsV (.slice (some ⟨g, 0, none⟩) k cap), IsV (.int .i64 (m : Int)), IsV (.int .i64 ((m + 2 : Nat) : Int)), IsV (.pointer (some ⟨g, (m + 2) * 2, none⟩)), Wh b0 (eat xs (m + 2)), IsV (.slice (some ⟨g, 0, none⟩) k cap), IsV (.int .i64 (m : Int)), IsV (.pointer (some ⟨g, (m) * 2, none⟩)), Wh b0 (eat xs m), (fun v w => OwnsW w b b v (pwL (eat xs m) 4)), IsE b 3 (pwL (eat xs m) 4), Wh b ((eat xs m) ^ 3), Wh b P, PA W.heap.size #[.bool false, .slice none 0 0] 31] (by kernel_rfl) (by kernel_rfl) (by kernel_rfl) ⟨⟨_, _, _, rfl⟩, trivial⟩ ⟨IsV.closed _, IsV.closed _, IsV.closed _, IsV.closed _, Wh.closed _ _, IsV.closed _, IsV.closed _, IsV.closed _, Wh.closed _ _, fun v => OwnsW.closed b b v _, fun v => IsE.closed b 3 _ v, Wh.closed _ _, Wh.closed _ _, PA.closed _ _ _, trivial⟩ ⟨?_, ?_, ?_, ?_, ?_, ?_, ?_, ?_, ?_, ?_, ?_, ?_, ?_, ?_, trivial⟩ ?_
    · refine StepT.q _ (by rfl) (by rfl) fun ρ w' H => ?_
      exact OpTo.move _ rfl (H.bas 0 (by kernel_rfl))
    · refine StepT.q _ (by rfl) (by rfl) fun ρ w' H => ?_
      exact OpTo.move _ rfl (H.bas 7 (by kernel_rfl))
    · refine StepT.q _ (by rfl) (by rfl) fun ρ w' H => ?_
      obtain ⟨v1, e1, p1⟩ := H.dep 1 18 (by kernel_rfl)
      obtain rfl : v1 = .int .i64 (m : Int) := p1
      exact op_addN (c := 2) _ _ rfl e1 (H.con _) (by omega)
    · refine StepT.q _ (by rfl) (by rfl) fun ρ w' H => ?_
      obtain ⟨v0, e0, p0⟩ := H.dep 0 17 (by kernel_rfl)
      obtain rfl : v0 = .slice (some ⟨g, 0, none⟩) k cap := p0
      obtain ⟨v2, e2, p2⟩ := H.dep 2 19 (by kernel_rfl)
      obtain rfl : v2 = .int .i64 ((m + 2 : Nat) : Int) := p2
      exact op_idxW _ _ rfl e0 e2 (by omega)
    · refine StepT.q _ (by rfl) (by rfl) fun ρ w' H => ?_
      obtain ⟨v3, e3, p3⟩ := H.dep 3 20 (by kernel_rfl)
      obtain rfl : v3 = .pointer (some ⟨g, (m + 2) * 2, none⟩) := p3
      exact op_eltX _ rfl e3 (HE.next H.bel) (by omega)
    · refine StepT.q _ (by rfl) (by rfl) fun ρ w' H => ?_
      exact OpTo.move _ rfl (H.bas 0 (by kernel_rfl))
    · refine StepT.q _ (by rfl) (by rfl) fun ρ w' H => ?_
      exact OpTo.move _ rfl (H.bas 7 (by kernel_rfl))
    · refine StepT.q _ (by rfl) (by rfl) fun ρ w' H => ?_
      obtain ⟨v5, e5, p5⟩ := H.dep 5 22 (by kernel_rfl)
      obtain rfl : v5 = .slice (some ⟨g, 0, none⟩) k cap := p5
      obtain ⟨v6, e6, p6⟩ := H.dep 6 23 (by kernel_rfl)
      obtain rfl : v6 = .int .i64 (m : Int) := p6
      exact op_idxW _ _ rfl e5 e6 (by omega)
    · refine StepT.q _ (by rfl) (by rfl) fun ρ w' H => ?_
      obtain ⟨v7, e7, p7⟩ := H.dep 7 24 (by kernel_rfl)
      obtain rfl : v7 = .pointer (some ⟨g, (m) * 2, none⟩) := p7
      exact op_eltX _ rfl e7 (HE.next H.bel) (by omega)
    · refine StepT.q _ (by rfl) (by rfl) fun ρ w' H => ?_
      obtain ⟨v8, e8, p8⟩ := H.dep 8 25 (by kernel_rfl)
      have p8 : (Wh b0 (eat xs m)) v8 w' := p8
      exact OpTo.call 27 #[v8] _ _ _ rfl (H.fn 27) (enters_of Tryd.func27 (by kernel_rfl) rfl) (by simp [e8]) ((c_dpPowers 3000 (by omega) b0 (eat xs m) v8 w' p8 (hz.out _)).mono fun e w2 ⟨v, h1, h2, h3⟩ => ⟨v, h1, h3, h2.le (Nat.le_trans hbW H.bel.size) (Nat.le_trans hbW H.bel.size)⟩)
    · refine StepT.q _ (by rfl) (by rfl) fun ρ w' H => ?_
      obtain ⟨v9, e9, p9⟩ := H.dep 9 26 (by kernel_rfl)
      have p9 : ((fun v w => OwnsW w b b v (pwL (eat xs m) 4))) v9 w' := p9
      exact op_idxE (i := 3) _ _ rfl (by rw [e9]; exact p9) (H.con _) (by rw [pwL_len]; omega)
    · refine StepT.q _ (by rfl) (by rfl) fun ρ w' H => ?_
      obtain ⟨v10, e10, p10⟩ := H.dep 10 27 (by kernel_rfl)
      have p10 : (IsE b 3 (pwL (eat xs m) 4)) v10 w' := p10
      exact pwL_get (eat xs m) 4 3 (by omega) ▸ op_ldE _ rfl (by rw [e10]; exact p10) (by rw [pwL_len]; omega)
    · refine StepT.q _ (by rfl) (by rfl) fun ρ w' H => ?_
      obtain ⟨v4, e4, p4⟩ := H.dep 4 21 (by kernel_rfl)
      have p4 : (Wh b0 (eat xs (m + 2))) v4 w' := p4
      obtain ⟨v11, e11, p11⟩ := H.dep 11 28 (by kernel_rfl)
      have p11 : (Wh b ((eat xs m) ^ 3)) v11 w' := p11
      exact OpTo.call 30 #[v4, v11] _ _ _ rfl (H.fn 30) (enters_of Tryd.func30 (by kernel_rfl) rfl) (by simp [e4, e11]) ((hP2.out v4 v11 w' p4.rd p11.rd).mono fun e w2 ⟨v, h1, h2, h3⟩ => ⟨v, h1, h3, h2.le (Nat.le_trans hbW H.bel.size)⟩)
    · refine StepT.a _ (by rfl) fun ρ w' H => ?_
      exact OpTo.alloc rfl (fun w => by simp [go_sem]) H.bel.size
    intro vs Wt hBt hDt
    have hV12 : (Wh b P) (vs 12) Wt := hDt.1 12 (by omega)
    have hV13 : (PA W.heap.size #[.bool false, .slice none 0 0] 31) (vs 13) Wt := hDt.1 13 (by omega)
    obtain ⟨r8, ea8, hr8, kr8⟩ := hV13
    clear hDt
    simp only [mergeS, Nat.reduceBEq, cond_true, cond_false, Nat.reduceAdd, List.drop_succ_cons, List.drop_zero, ea8]
    obtain ⟨lv8, ev8, rv8, cv8⟩ := hV12.cell
    obtain ⟨sl8, sc8, rfl, _⟩ := id rv8.1
    simp only [ev8]
    have x0 : Wt.cell? ⟨r8, 0, none⟩ = some (.bool false) := kr8.cell 0
    have x1 : Wt.cell? ⟨r8, 1, none⟩ = some (.slice none 0 0) := kr8.cell 1
    have x2 := kr8.frozen 0
    have x3 := kr8.frozen 1
    have x4 := kr8.lt
    have kP : BlkW b r8 (P) ((Wt.setCell ⟨r8, 0, none⟩ (.bool (decide (P < 0)))).setCell ⟨r8, 1, none⟩ (.slice sl8 (dg (P).natAbs).length sc8)) := BlkW.put kr8 rfl rv8 cv8
    have hBf : Below W.heap.size W ((Wt.setCell ⟨r8, 0, none⟩ (.bool (decide (P < 0)))).setCell ⟨r8, 1, none⟩ (.slice sl8 (dg (P).natAbs).length sc8)) := (hBt.setCell hr8 _).setCell hr8 _
    replace kG := kG.next hBf
    replace kR := kR.next hBf
    replace HE := HE.next hBf
    replace hbdW := Nat.le_trans hbdW hBf.size
    replace hb0 : Below b w _ := below_step hBf hbW hb0
    have q8 := hr8
    replace hbW := Nat.le_trans hbW hBf.size
    clear hV12 hBt kr8 ev8 rv8 cv8
    go_upto_region 4 with (fail)
    generalize (World.setCell (World.setCell _ _ _) _ _) = W3 at *
    clear x0 x1 x2 x3 x4 hBf hr8
    have hP8 : r8 < W3.heap.size := kP.lt
    refine wp_region_tab 15 [14] [(14, 9), (0, 30), (1, 31), (2, 32), (3, 33), (4, 34), (5, 35), (6, 36), (7, 37), (8, 38), (9, 39), (10, 40), (11, 41), (12, 42), (13, 43)] [IsV (.slice (some ⟨g, 0, none⟩) k cap), IsV (.int .i64 (m : Int)), IsV (.int .i64 ((m - 1 : Nat) : Int)), IsV (.pointer (some ⟨g, (m - 1) * 2, none⟩)), Wh b0 (eat xs (m - 1)), IsV (.slice (some ⟨g, 0, none⟩) k cap), IsV (.int .i64 (m : Int)), IsV (.int .i64 ((m + 1 : Nat) : Int)), IsV (.pointer (some ⟨g, (m + 1) * 2, none⟩)), Wh b0 (eat xs (m + 1)), (fun v w => OwnsW w b b v (pwL (eat xs (m + 1)) 4)), IsE b 3 (pwL (eat xs (m + 1)) 4), Wh b ((eat xs (m + 1)) ^ 3), Wh b Q, PA W3.heap.size #[.bool false, .slice none 0 0] 31] (by kernel_rfl) (by kernel_rfl) (by kernel_rfl) ⟨⟨_, _, _, rfl⟩, trivial⟩ ⟨IsV.closed _, IsV.closed _, IsV.closed _, IsV.closed _, Wh.closed _ _, IsV.closed _, IsV.closed _, IsV.closed _, IsV.closed _, Wh.closed _ _, fun v => OwnsW.closed b b v _, fun v => IsE.closed b 3 _ v, Wh.closed _ _, Wh.closed _ _, PA.closed _ _ _, trivial⟩ ⟨?_, ?_, ?_, ?_, ?_, ?_, ?_, ?_, ?_, ?_, ?_, ?_, ?_, ?_, ?_, trivial⟩ ?_
    · refine StepT.q _ (by rfl) (by rfl) fun ρ w' H => ?_
      exact OpTo.move _ rfl (H.bas 0 (by kernel_rfl))
    · refine StepT.q _ (by rfl) (by rfl) fun ρ w' H => ?_
      exact OpTo.move _ rfl (H.bas 7 (by kernel_rfl))
    · refine StepT.q _ (by rfl) (by rfl) fun ρ w' H => ?_
      obtain ⟨v1, e1, p1⟩ := H.dep 1 31 (by kernel_rfl)
      obtain rfl : v1 = .int .i64 (m : Int) := p1
      exact op_subN (c := 1) _ _ rfl e1 (H.con _) (by omega) (by omega)
    · refine StepT.q _ (by rfl) (by rfl) fun ρ w' H => ?_
      obtain ⟨v0, e0, p0⟩ := H.dep 0 30 (by kernel_rfl)
      obtain rfl : v0 = .slice (some ⟨g, 0, none⟩) k cap := p0
      obtain ⟨v2, e2, p2⟩ := H.dep 2 32 (by kernel_rfl)
      obtain rfl : v2 = .int .i64 ((m - 1 : Nat) : Int) := p2
      exact op_idxW _ _ rfl e0 e2 (by omega)
    · refine StepT.q _ (by rfl) (by rfl) fun ρ w' H => ?_
      obtain ⟨v3, e3, p3⟩ := H.dep 3 33 (by kernel_rfl)
      obtain rfl : v3 = .pointer (some ⟨g, (m - 1) * 2, none⟩) := p3
      exact op_eltX _ rfl e3 (HE.next H.bel) (by omega)
    · refine StepT.q _ (by rfl) (by rfl) fun ρ w' H => ?_
      exact OpTo.move _ rfl (H.bas 0 (by kernel_rfl))
    · refine StepT.q _ (by rfl) (by rfl) fun ρ w' H => ?_
      exact OpTo.move _ rfl (H.bas 7 (by kernel_rfl))
    · refine StepT.q _ (by rfl) (by rfl) fun ρ w' H => ?_
      obtain ⟨v6, e6, p6⟩ := H.dep 6 36 (by kernel_rfl)
      obtain rfl : v6 = .int .i64 (m : Int) := p6
      exact op_addN (c := 1) _ _ rfl e6 (H.con _) (by omega)
    · refine StepT.q _ (by rfl) (by rfl) fun ρ w' H => ?_
      obtain ⟨v5, e5, p5⟩ := H.dep 5 35 (by kernel_rfl)
      obtain rfl : v5 = .slice (some ⟨g, 0, none⟩) k cap := p5
      obtain ⟨v7, e7, p7⟩ := H.dep 7 37 (by kernel_rfl)
      obtain rfl : v7 = .int .i64 ((m + 1 : Nat) : Int) := p7
      exact op_idxW _ _ rfl e5 e7 (by omega)
    · refine StepT.q _ (by rfl) (by rfl) fun ρ w' H => ?_
      obtain ⟨v8, e8, p8⟩ := H.dep 8 38 (by kernel_rfl)
      obtain rfl : v8 = .pointer (some ⟨g, (m + 1) * 2, none⟩) := p8
      exact op_eltX _ rfl e8 (HE.next H.bel) (by omega)
    · refine StepT.q _ (by rfl) (by rfl) fun ρ w' H => ?_
      obtain ⟨v9, e9, p9⟩ := H.dep 9 39 (by kernel_rfl)
      have p9 : (Wh b0 (eat xs (m + 1))) v9 w' := p9
      exact OpTo.call 27 #[v9] _ _ _ rfl (H.fn 27) (enters_of Tryd.func27 (by kernel_rfl) rfl) (by simp [e9]) ((c_dpPowers 3000 (by omega) b0 (eat xs (m + 1)) v9 w' p9 (hz.out _)).mono fun e w2 ⟨v, h1, h2, h3⟩ => ⟨v, h1, h3, h2.le (Nat.le_trans hbW H.bel.size) (Nat.le_trans hbW H.bel.size)⟩)
    · refine StepT.q _ (by rfl) (by rfl) fun ρ w' H => ?_
      obtain ⟨v10, e10, p10⟩ := H.dep 10 40 (by kernel_rfl)
      have p10 : ((fun v w => OwnsW w b b v (pwL (eat xs (m + 1)) 4))) v10 w' := p10
      exact op_idxE (i := 3) _ _ rfl (by rw [e10]; exact p10) (H.con _) (by rw [pwL_len]; omega)
    · refine StepT.q _ (by rfl) (by rfl) fun ρ w' H => ?_
      obtain ⟨v11, e11, p11⟩ := H.dep 11 41 (by kernel_rfl)
      have p11 : (IsE b 3 (pwL (eat xs (m + 1)) 4)) v11 w' := p11
      exact pwL_get (eat xs (m + 1)) 4 3 (by omega) ▸ op_ldE _ rfl (by rw [e11]; exact p11) (by rw [pwL_len]; omega)
    · refine StepT.q _ (by rfl) (by rfl) fun ρ w' H => ?_
      obtain ⟨v4, e4, p4⟩ := H.dep 4 34 (by kernel_rfl)
      have p4 : (Wh b0 (eat xs (m - 1))) v4 w' := p4
      obtain ⟨v12, e12, p12⟩ := H.dep 12 42 (by kernel_rfl)
      have p12 : (Wh b ((eat xs (m + 1)) ^ 3)) v12 w' := p12
      exact OpTo.call 30 #[v4, v12] _ _ _ rfl (H.fn 30) (enters_of Tryd.func30 (by kernel_rfl) rfl) (by simp [e4, e12]) ((hQ2.out v4 v12 w' p4.rd p12.rd).mono fun e w2 ⟨v, h1, h2, h3⟩ => ⟨v, h1, h3, h2.le (Nat.le_trans hbW H.bel.size)⟩)
    · refine StepT.a _ (by rfl) fun ρ w' H => ?_
      exact OpTo.alloc rfl (fun w => by simp [go_sem]) H.bel.size
    intro vs Wt hBt hDt
    have hV13 : (Wh b Q) (vs 13) Wt := hDt.1 13 (by omega)
    have hV14 : (PA W3.heap.size #[.bool false, .slice none 0 0] 31) (vs 14) Wt := hDt.1 14 (by omega)
    obtain ⟨r9, ea9, hr9, kr9⟩ := hV14
    clear hDt
    simp only [mergeS, Nat.reduceBEq, cond_true, cond_false, Nat.reduceAdd, List.drop_succ_cons, List.drop_zero, ea9]
    obtain ⟨lv9, ev9, rv9, cv9⟩ := hV13.cell
    obtain ⟨sl9, sc9, rfl, _⟩ := id rv9.1
    simp only [ev9]
    have x0 : Wt.cell? ⟨r9, 0, none⟩ = some (.bool false) := kr9.cell 0
    have x1 : Wt.cell? ⟨r9, 1, none⟩ = some (.slice none 0 0) := kr9.cell 1
    have x2 := kr9.frozen 0
    have x3 := kr9.frozen 1
    have x4 := kr9.lt
    have kQ : BlkW b r9 (Q) ((Wt.setCell ⟨r9, 0, none⟩ (.bool (decide (Q < 0)))).setCell ⟨r9, 1, none⟩ (.slice sl9 (dg (Q).natAbs).length sc9)) := BlkW.put kr9 rfl rv9 cv9
    have hBf : Below W3.heap.size W3 ((Wt.setCell ⟨r9, 0, none⟩ (.bool (decide (Q < 0)))).setCell ⟨r9, 1, none⟩ (.slice sl9 (dg (Q).natAbs).length sc9)) := (hBt.setCell hr9 _).setCell hr9 _
    replace kG := kG.next hBf
    replace kR := kR.next hBf
    replace HE := HE.next hBf
    replace hbdW := Nat.le_trans hbdW hBf.size
    replace kP := kP.next hBf
    replace hb0 : Below b w _ := below_step hBf hbW hb0
    have q9 := hr9
    replace hbW := Nat.le_trans hbW hBf.size
    clear hV13 hBt kr9 ev9 rv9 cv9
    go_upto_region 5 with (fail)
    generalize (World.setCell (World.setCell _ _ _) _ _) = W4 at *
    clear x0 x1 x2 x3 x4 hBf hr9
    clear HE
    by_cases h2 : m % 2 = 0
    · have hmI : (m : Int) % 2 = 0 := by omega
      have HKK : Hid ((G * P) + -Q = K) := by
        show _ = _
        rw [HN.out, if_neg he, if_pos h2, ← HP.out, ← HQ.out]
        exact dn_o0 _ _ _ _ _
      have zM : Sz 14000 (G * P) := (hzG.mul zP).mono (by omega)
      have hM2 : Hid (∀ a c w, WhR G a w → WhR P c w → Calls Tryd.prog 30 #[a, c] w (WhP (G * P) w)) := fun a c w h1 h2 => c_bgMul G P a c (Nat.le_trans hzG.len (by omega)) (Nat.le_trans zP.len (by omega)) w h1 h2
      have hK2 : Hid (∀ a c w, WhR (G * P) a w → WhR (Q) c w → Calls Tryd.prog 31 #[a, c] w (WhP K w)) := fun a c w h1 h2 => HKK.out ▸ c_bgSub (G * P) (Q) a c (Nat.le_trans zM.len (by omega)) (Nat.le_trans zQ.len (by omega)) w h1 h2
      clear HP HQ HN HKK zP zQ zM
      go_upto_region 6 with (fail)
      refine wp_region_tabF 3 [] [(0, 47), (1, 48), (2, 49)] [Wh b0 G, Wh b P, Wh b (G * P)] (by kernel_rfl) (by kernel_rfl) (by kernel_rfl) trivial ⟨Wh.closed _ _, Wh.closed _ _, Wh.closed _ _, trivial⟩ ⟨?_, ?_, ?_, trivial⟩ ?_
      · refine StepT.q _ (by rfl) (by rfl) fun ρ w' H => ?_
        have hx : ρ (.tmp 4) = .pointer (some ⟨b, 0, none⟩) := H.bas 4 (by kernel_rfl); exact op_ldW _ rfl hx (kG.next H.bel)
      · refine StepT.q _ (by rfl) (by rfl) fun ρ w' H => ?_
        have hx : ρ (.tmp 8) = .pointer (some ⟨r8, 0, none⟩) := H.bas 8 (by kernel_rfl); exact op_ldW _ rfl hx (kP.next H.bel)
      · refine StepT.q _ (by rfl) (by rfl) fun ρ w' H => ?_
        obtain ⟨v0, e0, p0⟩ := H.dep 0 47 (by kernel_rfl)
        have p0 : (Wh b0 G) v0 w' := p0
        obtain ⟨v1, e1, p1⟩ := H.dep 1 48 (by kernel_rfl)
        have p1 : (Wh b P) v1 w' := p1
        exact OpTo.call 30 #[v0, v1] _ _ _ rfl (H.fn 30) (enters_of Tryd.func30 (by kernel_rfl) rfl) (by simp [e0, e1]) ((hM2.out v0 v1 w' p0.rd p1.rd).mono fun e w2 ⟨v, h1, h2, h3⟩ => ⟨v, h1, h3, h2.le (Nat.le_trans hbW H.bel.size)⟩)
      intro vs Wt hBt hDt
      have hV2 : (Wh b (G * P)) (vs 2) Wt := hDt.1 2 (by omega)
      clear hDt
      simp only [mergeS, Nat.reduceBEq, cond_true, cond_false, Nat.reduceAdd, List.drop_succ_cons, List.drop_zero]
      replace kR := kR.next hBt
      replace kP := kP.next hBt
      replace kQ := kQ.next hBt
      replace hb0 : Below b w _ := below_step hBt hbW hb0
      replace hbW := Nat.le_trans hbW hBt.size
      replace hbdW := Nat.le_trans hbdW hBt.size
      obtain ⟨lvUr8, evUr8, rvUr8, cvUr8⟩ := hV2.cell
      obtain ⟨slUr8, scUr8, rfl, _⟩ := id rvUr8.1
      simp only [evUr8]
      obtain ⟨lo, kr, _, _⟩ := id kP
      have x0 : Wt.cell? ⟨r8, 0, none⟩ = some (.bool (decide (P < 0))) := kr.cell 0
      have x1 : Wt.cell? ⟨r8, 1, none⟩ = some lo := kr.cell 1
      have x2 := kr.frozen 0
      have x3 := kr.frozen 1
      have x4 := kr.lt
      have kM9 : BlkW b r8 ((G * P)) ((Wt.setCell ⟨r8, 0, none⟩ (.bool (decide ((G * P) < 0)))).setCell ⟨r8, 1, none⟩ (.slice slUr8 (dg ((G * P)).natAbs).length scUr8)) := BlkW.put kr rfl rvUr8 cvUr8
      replace kQ := kQ.far (r' := r8) (by omega) kr (.bool (decide ((G * P) < 0))) (.slice slUr8 (dg ((G * P)).natAbs).length scUr8)
      replace kR := (kR.far (p := ⟨r8, 0, none⟩) (by show rR ≠ r8; omega) (.bool (decide ((G * P) < 0)))).far (p := ⟨r8, 1, none⟩) (by show rR ≠ r8; omega) (.slice slUr8 (dg ((G * P)).natAbs).length scUr8)
      replace hb0 : Below b w ((Wt.setCell ⟨r8, 0, none⟩ (.bool (decide ((G * P) < 0)))).setCell ⟨r8, 1, none⟩ (.slice slUr8 (dg ((G * P)).natAbs).length scUr8)) := (hb0.setCell (by show b ≤ r8; omega) _).setCell (by show b ≤ r8; omega) _
      replace hbW : b ≤ ((Wt.setCell ⟨r8, 0, none⟩ (.bool (decide ((G * P) < 0)))).setCell ⟨r8, 1, none⟩ (.slice slUr8 (dg ((G * P)).natAbs).length scUr8)).heap.size := by simpa [World.setCell] using hbW
      clear hV2 hBt evUr8 rvUr8 cvUr8 kr
      go_upto_region 8 with (fail)
      generalize (World.setCell (World.setCell _ _ _) _ _) = W5 at *
      clear x0 x1 x2 x3 x4
      clear kP
      have kM := kM9
      clear kM9
      refine wp_region_tabF 3 [] [(0, 53), (1, 54), (2, 55)] [Wh b (G * P), Wh b Q, Wh b K] (by kernel_rfl) (by kernel_rfl) (by kernel_rfl) trivial ⟨Wh.closed _ _, Wh.closed _ _, Wh.closed _ _, trivial⟩ ⟨?_, ?_, ?_, trivial⟩ ?_
      · refine StepT.q _ (by rfl) (by rfl) fun ρ w' H => ?_
        have hx : ρ (.tmp 8) = .pointer (some ⟨r8, 0, none⟩) := H.bas 8 (by kernel_rfl); exact op_ldW _ rfl hx (kM.next H.bel)
      · refine StepT.q _ (by rfl) (by rfl) fun ρ w' H => ?_
        have hx : ρ (.tmp 9) = .pointer (some ⟨r9, 0, none⟩) := H.bas 9 (by kernel_rfl); exact op_ldW _ rfl hx (kQ.next H.bel)
      · refine StepT.q _ (by rfl) (by rfl) fun ρ w' H => ?_
        obtain ⟨v0, e0, p0⟩ := H.dep 0 53 (by kernel_rfl)
        have p0 : (Wh b (G * P)) v0 w' := p0
        obtain ⟨v1, e1, p1⟩ := H.dep 1 54 (by kernel_rfl)
        have p1 : (Wh b Q) v1 w' := p1
        exact OpTo.call 31 #[v0, v1] _ _ _ rfl (H.fn 31) (enters_of Tryd.func31 (by kernel_rfl) rfl) (by simp [e0, e1]) ((hK2.out v0 v1 w' p0.rd p1.rd).mono fun e w2 ⟨v, h1, h2, h3⟩ => ⟨v, h1, h3, h2.le (Nat.le_trans hbW H.bel.size)⟩)
      intro vs Wt hBt hDt
      have hV2 : (Wh b K) (vs 2) Wt := hDt.1 2 (by omega)
      clear hDt
      simp only [mergeS, Nat.reduceBEq, cond_true, cond_false, Nat.reduceAdd, List.drop_succ_cons, List.drop_zero]
      obtain ⟨lvU, evU, rvU, cvU⟩ := hV2.cell
      obtain ⟨slU, scU, rfl, _⟩ := id rvU.1
      simp only [evU]
      have kR1 := kR.next hBt
      replace hb0 : Below b w _ := below_step hBt hbW hb0
      replace hbW := Nat.le_trans hbW hBt.size
      have x0 : Wt.cell? ⟨rR, 0, none⟩ = some (.bool false) := kR1.cell 0
      have x1 : Wt.cell? ⟨rR, 1, none⟩ = some (.slice none 0 0) := kR1.cell 1
      have x2 := kR1.frozen 0
      have x3 := kR1.frozen 1
      have x4 := kR1.lt
      have k9 := (kR1.set 0 (.bool (decide (K < 0)))).set 1 (.slice slU (dg (K).natAbs).length scU)
      have hB9 : Below b w ((Wt.setCell ⟨rR, 0, none⟩ (.bool (decide (K < 0)))).setCell ⟨rR, 1, none⟩ (.slice slU (dg (K).natAbs).length scU)) := (hb0.setCell (by show b ≤ rR; omega) _).setCell (by show b ≤ rR; omega) _
      have ho8 : RdO ((Wt.setCell ⟨rR, 0, none⟩ (.bool (decide (K < 0)))).setCell ⟨rR, 1, none⟩ (.slice slU (dg (K).natAbs).length scU)) b (.slice slU (dg (K).natAbs).length scU) (dg (K).natAbs) := rvU.far (by decide) kR1 (over_set2 _ _ _ _)
      clear kR kR1 hb0 hV2 evU rvU cvU hBt
      go_wp2
      generalize (World.setCell (World.setCell _ _ _) _ _) = w9 at hB9 k9 ho8 ⊢
      have q0 : w9.cell? ⟨rR, 0, none⟩ = some (.bool (decide (K < 0))) := k9.cell 0
      have q1 : w9.cell? ⟨rR, 1, none⟩ = some (.slice slU (dg (K).natAbs).length scU) := k9.cell 1
      refine bodyPost_ret (v := .agg #[.bool (decide (K < 0)), (.slice slU (dg (K).natAbs).length scU)]) (by simp [results, Tryd.results32, go_sem, q0, q1]) rfl ?_
      have eb := HBW.out
      subst eb
      have ek := HK.out
      subst ek
      exact ⟨_, rfl, ⟨_, rfl, ho8⟩, hB9⟩
    · have hmI : (m : Int) % 2 = 1 := by omega
      have HKK : Hid (P + -(G * Q) = K) := by
        show _ = _
        rw [HN.out, if_neg he, if_neg h2, ← HP.out, ← HQ.out]
        exact dn_o1 _ _ _ _ _
      have zM : Sz 14000 (G * Q) := (hzG.mul zQ).mono (by omega)
      have hM2 : Hid (∀ a c w, WhR G a w → WhR Q c w → Calls Tryd.prog 30 #[a, c] w (WhP (G * Q) w)) := fun a c w h1 h2 => c_bgMul G Q a c (Nat.le_trans hzG.len (by omega)) (Nat.le_trans zQ.len (by omega)) w h1 h2
      have hK2 : Hid (∀ a c w, WhR (P) a w → WhR (G * Q) c w → Calls Tryd.prog 31 #[a, c] w (WhP K w)) := fun a c w h1 h2 => HKK.out ▸ c_bgSub (P) (G * Q) a c (Nat.le_trans zP.len (by omega)) (Nat.le_trans zM.len (by omega)) w h1 h2
      clear HP HQ HN HKK zP zQ zM
      go_upto_region 7 with (fail)
      refine wp_region_tabF 3 [] [(0, 50), (1, 51), (2, 52)] [Wh b0 G, Wh b Q, Wh b (G * Q)] (by kernel_rfl) (by kernel_rfl) (by kernel_rfl) trivial ⟨Wh.closed _ _, Wh.closed _ _, Wh.closed _ _, trivial⟩ ⟨?_, ?_, ?_, trivial⟩ ?_
      · refine StepT.q _ (by rfl) (by rfl) fun ρ w' H => ?_
        have hx : ρ (.tmp 4) = .pointer (some ⟨b, 0, none⟩) := H.bas 4 (by kernel_rfl); exact op_ldW _ rfl hx (kG.next H.bel)
      · refine StepT.q _ (by rfl) (by rfl) fun ρ w' H => ?_
        have hx : ρ (.tmp 9) = .pointer (some ⟨r9, 0, none⟩) := H.bas 9 (by kernel_rfl); exact op_ldW _ rfl hx (kQ.next H.bel)
      · refine StepT.q _ (by rfl) (by rfl) fun ρ w' H => ?_
        obtain ⟨v0, e0, p0⟩ := H.dep 0 50 (by kernel_rfl)
        have p0 : (Wh b0 G) v0 w' := p0
        obtain ⟨v1, e1, p1⟩ := H.dep 1 51 (by kernel_rfl)
        have p1 : (Wh b Q) v1 w' := p1
        exact OpTo.call 30 #[v0, v1] _ _ _ rfl (H.fn 30) (enters_of Tryd.func30 (by kernel_rfl) rfl) (by simp [e0, e1]) ((hM2.out v0 v1 w' p0.rd p1.rd).mono fun e w2 ⟨v, h1, h2, h3⟩ => ⟨v, h1, h3, h2.le (Nat.le_trans hbW H.bel.size)⟩)
      intro vs Wt hBt hDt
      have hV2 : (Wh b (G * Q)) (vs 2) Wt := hDt.1 2 (by omega)
      clear hDt
      simp only [mergeS, Nat.reduceBEq, cond_true, cond_false, Nat.reduceAdd, List.drop_succ_cons, List.drop_zero]
      replace kR := kR.next hBt
      replace kP := kP.next hBt
      replace kQ := kQ.next hBt
      replace hb0 : Below b w _ := below_step hBt hbW hb0
      replace hbW := Nat.le_trans hbW hBt.size
      replace hbdW := Nat.le_trans hbdW hBt.size
      obtain ⟨lvUr9, evUr9, rvUr9, cvUr9⟩ := hV2.cell
      obtain ⟨slUr9, scUr9, rfl, _⟩ := id rvUr9.1
      simp only [evUr9]
      obtain ⟨lo, kr, _, _⟩ := id kQ
      have x0 : Wt.cell? ⟨r9, 0, none⟩ = some (.bool (decide (Q < 0))) := kr.cell 0
      have x1 : Wt.cell? ⟨r9, 1, none⟩ = some lo := kr.cell 1
      have x2 := kr.frozen 0
      have x3 := kr.frozen 1
      have x4 := kr.lt
      have kM9 : BlkW b r9 ((G * Q)) ((Wt.setCell ⟨r9, 0, none⟩ (.bool (decide ((G * Q) < 0)))).setCell ⟨r9, 1, none⟩ (.slice slUr9 (dg ((G * Q)).natAbs).length scUr9)) := BlkW.put kr rfl rvUr9 cvUr9
      replace kP := kP.far (r' := r9) (by omega) kr (.bool (decide ((G * Q) < 0))) (.slice slUr9 (dg ((G * Q)).natAbs).length scUr9)
      replace kR := (kR.far (p := ⟨r9, 0, none⟩) (by show rR ≠ r9; omega) (.bool (decide ((G * Q) < 0)))).far (p := ⟨r9, 1, none⟩) (by show rR ≠ r9; omega) (.slice slUr9 (dg ((G * Q)).natAbs).length scUr9)
      replace hb0 : Below b w ((Wt.setCell ⟨r9, 0, none⟩ (.bool (decide ((G * Q) < 0)))).setCell ⟨r9, 1, none⟩ (.slice slUr9 (dg ((G * Q)).natAbs).length scUr9)) := (hb0.setCell (by show b ≤ r9; omega) _).setCell (by show b ≤ r9; omega) _
      replace hbW : b ≤ ((Wt.setCell ⟨r9, 0, none⟩ (.bool (decide ((G * Q) < 0)))).setCell ⟨r9, 1, none⟩ (.slice slUr9 (dg ((G * Q)).natAbs).length scUr9)).heap.size := by simpa [World.setCell] using hbW
      clear hV2 hBt evUr9 rvUr9 cvUr9 kr
      go_upto_region 8 with (fail)
      generalize (World.setCell (World.setCell _ _ _) _ _) = W5 at *
      clear x0 x1 x2 x3 x4
      clear kQ
      have kM := kM9
      clear kM9
      refine wp_region_tabF 3 [] [(0, 53), (1, 54), (2, 55)] [Wh b P, Wh b (G * Q), Wh b K] (by kernel_rfl) (by kernel_rfl) (by kernel_rfl) trivial ⟨Wh.closed _ _, Wh.closed _ _, Wh.closed _ _, trivial⟩ ⟨?_, ?_, ?_, trivial⟩ ?_
      · refine StepT.q _ (by rfl) (by rfl) fun ρ w' H => ?_
        have hx : ρ (.tmp 8) = .pointer (some ⟨r8, 0, none⟩) := H.bas 8 (by kernel_rfl); exact op_ldW _ rfl hx (kP.next H.bel)
      · refine StepT.q _ (by rfl) (by rfl) fun ρ w' H => ?_
        have hx : ρ (.tmp 9) = .pointer (some ⟨r9, 0, none⟩) := H.bas 9 (by kernel_rfl); exact op_ldW _ rfl hx (kM.next H.bel)
      · refine StepT.q _ (by rfl) (by rfl) fun ρ w' H => ?_
        obtain ⟨v0, e0, p0⟩ := H.dep 0 53 (by kernel_rfl)
        have p0 : (Wh b P) v0 w' := p0
        obtain ⟨v1, e1, p1⟩ := H.dep 1 54 (by kernel_rfl)
        have p1 : (Wh b (G * Q)) v1 w' := p1
        exact OpTo.call 31 #[v0, v1] _ _ _ rfl (H.fn 31) (enters_of Tryd.func31 (by kernel_rfl) rfl) (by simp [e0, e1]) ((hK2.out v0 v1 w' p0.rd p1.rd).mono fun e w2 ⟨v, h1, h2, h3⟩ => ⟨v, h1, h3, h2.le (Nat.le_trans hbW H.bel.size)⟩)
      intro vs Wt hBt hDt
      have hV2 : (Wh b K) (vs 2) Wt := hDt.1 2 (by omega)
      clear hDt
      simp only [mergeS, Nat.reduceBEq, cond_true, cond_false, Nat.reduceAdd, List.drop_succ_cons, List.drop_zero]
      obtain ⟨lvU, evU, rvU, cvU⟩ := hV2.cell
      obtain ⟨slU, scU, rfl, _⟩ := id rvU.1
      simp only [evU]
      have kR1 := kR.next hBt
      replace hb0 : Below b w _ := below_step hBt hbW hb0
      replace hbW := Nat.le_trans hbW hBt.size
      have x0 : Wt.cell? ⟨rR, 0, none⟩ = some (.bool false) := kR1.cell 0
      have x1 : Wt.cell? ⟨rR, 1, none⟩ = some (.slice none 0 0) := kR1.cell 1
      have x2 := kR1.frozen 0
      have x3 := kR1.frozen 1
      have x4 := kR1.lt
      have k9 := (kR1.set 0 (.bool (decide (K < 0)))).set 1 (.slice slU (dg (K).natAbs).length scU)
      have hB9 : Below b w ((Wt.setCell ⟨rR, 0, none⟩ (.bool (decide (K < 0)))).setCell ⟨rR, 1, none⟩ (.slice slU (dg (K).natAbs).length scU)) := (hb0.setCell (by show b ≤ rR; omega) _).setCell (by show b ≤ rR; omega) _
      have ho8 : RdO ((Wt.setCell ⟨rR, 0, none⟩ (.bool (decide (K < 0)))).setCell ⟨rR, 1, none⟩ (.slice slU (dg (K).natAbs).length scU)) b (.slice slU (dg (K).natAbs).length scU) (dg (K).natAbs) := rvU.far (by decide) kR1 (over_set2 _ _ _ _)
      clear kR kR1 hb0 hV2 evU rvU cvU hBt
      go_wp2
      generalize (World.setCell (World.setCell _ _ _) _ _) = w9 at hB9 k9 ho8 ⊢
      have q0 : w9.cell? ⟨rR, 0, none⟩ = some (.bool (decide (K < 0))) := k9.cell 0
      have q1 : w9.cell? ⟨rR, 1, none⟩ = some (.slice slU (dg (K).natAbs).length scU) := k9.cell 1
      refine bodyPost_ret (v := .agg #[.bool (decide (K < 0)), (.slice slU (dg (K).natAbs).length scU)]) (by simp [results, Tryd.results32, go_sem, q0, q1]) rfl ?_
      have eb := HBW.out
      subst eb
      have ek := HK.out
      subst ek
      exact ⟨_, rfl, ⟨_, rfl, ho8⟩, hB9⟩
end Go.Proofs.YtmlfkceafkhlaaaDoor
