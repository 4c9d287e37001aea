/- The walk of the law FnTables. -/
import Derived.Test.YtilgeeaobdebhaaTbv
namespace Go.Proofs.Ytilgeeaobdebhaa
open Go.RowKit

theorem sq_nn (x : Int) : 0 ≤ x * x := by
  rcases Int.le_total 0 x with h | h
  · exact Int.mul_nonneg h h
  · have := Int.mul_nonneg (show 0 ≤ -x by omega) (show 0 ≤ -x by omega)
    rwa [Int.neg_mul_neg] at this
set_option maxRecDepth 100000 in
set_option maxHeartbeats 4000000 in
theorem walk_FnTables (v0 : Value) (xs : List Int) (v1 : Value) (ys : List Int) (w : World) (r0 : RdB w w.heap.size v0 xs) (r1 : RdB w w.heap.size v1 ys) :
    Calls Try.prog 3 #[v0, v1] w fun e w' => e = .returned (.bool true) ∧ Below w.heap.size w w' := by
  have HB := Lib.hid (c_big v0 v1 _ xs ys w r0 r1)
  have HD := Lib.hid (c_drawTrace v0 xs w r0)
  have R1 := Lib.hid r1
  clear r0 r1
  go_enter Try.func3, Try.ntmps3
  go_wp2_with fail
  refine HB.out.mono ?_
  rintro e w1 ⟨b, rfl, rfl⟩
  clear HB
  cases b
  case true =>
    go_wp2
    go_ret
    exact ⟨rfl, Below.refl _ _⟩
  go_wp2_with fail
  refine HD.out.mono ?_
  rintro e w2 ⟨p, rfl, p0, p1, hb2⟩
  clear HD
  have hz2 := hb2.size
  go_wp2_with fail
  refine (c_iTraceTable p _).mono ?_
  rintro e w3 ⟨a0, gs0, rfl, o0, hb3⟩
  have hz3 := hb3.size
  have bb3 := below_step hb3 hz2 hb2
  go_wp2_with fail
  refine (c_sTraceTable p _).mono ?_
  rintro e w4 ⟨a1, gs1, rfl, o1, hb4⟩
  have hz4 := hb4.size
  have bb4 := below_step hb4 bb3.size bb3
  replace o0 := o0.below hb4
  go_wp2_with fail
  refine (c_iSupersingularCurves p _).mono ?_
  rintro e w5 ⟨a2, rfl, o2, hb5⟩
  have hz5 := hb5.size
  have bb5 := below_step hb5 bb4.size bb4
  replace o0 := o0.below hb5
  replace o1 := o1.below hb5
  go_wp2_with fail
  refine (c_sSupersingularCurves p _).mono ?_
  rintro e w6 ⟨a3, rfl, o3, hb6⟩
  have hz6 := hb6.size
  have bb6 := below_step hb6 bb5.size bb5
  replace o0 := o0.below hb6
  replace o1 := o1.below hb6
  replace o2 := OwnsP.below o2 hb6
  have hlT := ttL_len p
  have hlC := cwT_len p 0
  go_wp2_with fail
  refine (c_sameLists _ _ _ _ _ _ (ttL p) hlT _ o0 o1).mono ?_
  rintro e w7 ⟨rfl, hb7⟩
  have hz7 := hb7.size
  have bb7 := below_step hb7 bb6.size bb6
  have q1 := o1.below hb7
  have q2 := OwnsP.below o2 hb7
  have q3 := OwnsP.below o3 hb7
  go_wp2_with fail
  refine (c_pSameCurves _ _ _ _ (cwT p 0) (by omega) _ q2 q3).mono ?_
  rintro e w8 ⟨rfl, hb8⟩
  have hz8 := hb8.size
  have bb8 := below_step hb8 bb7.size bb7
  replace q1 := q1.below hb8
  replace q3 := OwnsP.below q3 hb8
  clear o0 o1 o2 o3 q2
  go_upto_if 92 with (fail)
  go_cut [7, 9, 11, 13] from 42 (fun s7 s9 s11 s13 wc => Below w1.heap.size w1 wc)
  case rest =>
    have bbX := hcut
    apply_assumption
    refine t23 ys _ (R1.out.later bbX) (fun a w' hd => ?_)
    refine bodyPost_ret (v := .bool true) ?_ hd.2.1 ⟨rfl, below_step hd.2.2 bbX.size bbX⟩
    have h4 := hd.1
    simp [results, Try.results3, go_sem, h4]
  case first =>
    cases hp : tabP p
    · go_wp2
      go_meet
      case rel => exact bb8
    · obtain ⟨sa, cap, rfl, hf⟩ := q1.form
      have HF := Lib.hid hf
      have T1 := Lib.hid (fun c (h : c ∈ ttL p) => tt_row hp h)
      have T2 := Lib.hid (tt_asc hp)
      have T3 := Lib.hid (tt_mirror hp)
      have T4 := Lib.hid (tt_sum_bd hp)
      have T5 := Lib.hid (tt_zero_bd hp)
      have T6 := Lib.hid (tt_sum hp)
      have T7 := Lib.hid (tt_zero hp)
      obtain ⟨sb, capb, rfl, _⟩ := OwnsP.form q3
      clear hf hp
      go_wp2
      go_loopw [14, 15, 95] (fun s z i wr => ∃ k : Nat, k ≤ (ttL p).length ∧ i = .int .i64 k ∧ s = .int .i64 (sumR ((ttL p).take k)) ∧ z = .int .i64 (zR ((ttL p).take k)) ∧ Below w8.heap.size w8 wr) (fun _ _ i _ => (ttL p).length - (intOf i).toNat)
      case atStart => exact ⟨0, Nat.zero_le _, rfl, rfl, rfl, Below.refl _ _⟩
      case round =>
        obtain ⟨k, hk, rfl, rfl, rfl, hbl⟩ := hrel
        have s0 := T4.out k
        have z0 := T5.out k
        have hsz := hbl.size
        by_cases hlt : k < (ttL p).length
        · have es : sumR ((ttL p).take (k + 1)) = sumR ((ttL p).take k) + (ttL p)[k].2 := by rw [List.take_succ_eq_append_getElem hlt, sumR_snoc]
          have ez : zR ((ttL p).take (k + 1)) = if (ttL p)[k].1 = 0 then (ttL p)[k].2 else zR ((ttL p).take k) := by rw [List.take_succ_eq_append_getElem hlt, zR_snoc]
          obtain ⟨t1, t2, t3, t4⟩ := T1.out (ttL p)[k] (List.getElem_mem hlt)
          obtain ⟨m1, m2⟩ := T3.out k hlt
          obtain ⟨g, kk, rfl, _, c0, hg, hbk⟩ := HF.out k hlt
          obtain ⟨g', kd, eg, _, d0, hg', hbd⟩ := HF.out ((ttL p).length - 1 - k) (by omega)
          obtain rfl : g = g' := by simpa using eg
          have hkk := hbk.lt
          have hkd := hbd.lt
          replace hbk := hbk.next hbl
          replace hbd := hbd.next hbl
          replace c0 := (hbl.cell (p := ⟨g, k, none⟩) hg).trans c0
          replace d0 := (hbl.cell (p := ⟨g, (ttL p).length - 1 - k, none⟩) hg).trans d0
          have e0 : wr.cell? ⟨kk, 0, none⟩ = some (.int .i64 (ttL p)[k].1) := hbk.cell 0
          have e1 : wr.cell? ⟨kk, 1, none⟩ = some (.int .i64 (ttL p)[k].2) := hbk.cell 1
          have f0 : wr.cell? ⟨kd, 0, none⟩ = some (.int .i64 (-(ttL p)[k].1)) := by rw [m1, Int.neg_neg]; exact hbd.cell 0
          have f1 : wr.cell? ⟨kd, 1, none⟩ = some (.int .i64 (ttL p)[k].2) := by rw [m2]; exact hbd.cell 1
          clear hbk hbd eg m1 m2 hg'
          replace hg : g < wr.heap.size := by omega
          replace hkk : kk < wr.heap.size := by omega
          replace hkd : kd < wr.heap.size := by omega
          have t5 : 0 ≤ (ttL p)[k].1 * (ttL p)[k].1 := sq_nn _
          have i0 : (0 : Int) ≤ (k : Int) := by omega
          have i1 : (k : Int) < ((ttL p).length : Int) := by omega
          have HC0 := hbl
          generalize sumR ((ttL p).take k) = S at *
          generalize zR ((ttL p).take k) = Z at *
          cases k with
          | zero =>
            simp only [Nat.sub_zero] at d0
            generalize (ttL p)[0] = c at *
            obtain ⟨t, n⟩ := c
            simp only at *
            go_wp2
            have g1 : ¬ (4 * p < t * t) := by omega
            have g2 : ¬ (n < 1) := by omega
            have hz0 : ((0 : Nat) : Int) = 0 := rfl
            (try simp only [List.append_eq, List.cons_append, List.nil_append])
            (refine wp_region_clq (by kernel_rfl) (by kernel_rfl) ?_; (repeat (go_big_quiet_step (fail))); refine wpQuiet_nil ?_; intro w9 hb9; obtain ⟨hc9, hf9⟩ := bcell hb9; have hz9 := hb9.size; (try simp only [World.size_alloc] at hz9))
            have hb2 := below_step hb9 hsz hbl
            clear hc9 hf9 HC0
            have p1 := (hb9.cell (p := ⟨g, 0, none⟩) hg).trans c0
            have p2 := (hb9.cell (p := ⟨kk, 0, none⟩) hkk).trans e0
            have p3 := (hb9.cell (p := ⟨kk, 1, none⟩) hkk).trans e1
            by_cases ht : t = 0
            · subst ht
              simp only [if_true] at ez
              go_wp2
              go_roundw
              case rel => exact ⟨0 + 1, by omega, by simp, by rw [es], by rw [ez], hb2⟩
              case measure => simp [intOf]; omega
            · rw [if_neg ht] at ez
              go_wp2
              go_roundw
              case rel => exact ⟨0 + 1, by omega, by simp, by rw [es], by rw [ez], hb2⟩
              case measure => simp [intOf]; omega
          | succ k' =>
            obtain ⟨g2, kb, eg2, _, b0, hg2, hbb⟩ := HF.out k' (Nat.lt_of_succ_lt hlt)
            obtain rfl : g = g2 := by simpa using eg2
            have a1 := T2.out (k' + 1) (by omega) hlt
            simp only [Nat.add_sub_cancel] at a1
            have hkb := hbb.lt
            replace hbb := hbb.next hbl
            replace b0 := (hbl.cell (p := ⟨g, k', none⟩) hg2).trans b0
            have b1 : wr.cell? ⟨kb, 0, none⟩ = some (.int .i64 (ttL p)[k'].1) := hbb.cell 0
            replace hkb : kb < wr.heap.size := by omega
            have hk2 : (((k' + 1 : Nat) : Int)) - 1 = k' := by omega
            have hk3 : (0 : Int) < ((k' + 1 : Nat) : Int) := by omega
            have hk4 : (0 : Int) ≤ (k' : Int) := by omega
            have hk5 : (k' : Int) < ((ttL p).length : Int) := by omega
            clear hbb eg2 hg2
            generalize (ttL p)[k'].1 = b at a1 b1
            have hk6 : (0 : Int) < (k' : Int) + 1 := by omega
            generalize (ttL p)[k' + 1] = c at *
            obtain ⟨t, n⟩ := c
            simp only at *
            go_wp2
            have g1 : ¬ (4 * p < t * t) := by omega
            have g2 : ¬ (n < 1) := by omega
            have g3 : ¬ (t ≤ b) := by omega
            (try simp only [List.append_eq, List.cons_append, List.nil_append])
            (refine wp_region_clq (by kernel_rfl) (by kernel_rfl) ?_; (repeat (go_big_quiet_step (fail))); refine wpQuiet_nil ?_; intro w9 hb9; obtain ⟨hc9, hf9⟩ := bcell hb9; have hz9 := hb9.size; (try simp only [World.size_alloc] at hz9))
            have hb2 := below_step hb9 hsz hbl
            clear hc9 hf9 HC0
            have p1 := (hb9.cell (p := ⟨g, k' + 1, none⟩) hg).trans c0
            have p2 := (hb9.cell (p := ⟨kk, 0, none⟩) hkk).trans e0
            have p3 := (hb9.cell (p := ⟨kk, 1, none⟩) hkk).trans e1
            by_cases ht : t = 0
            · subst ht
              simp only [if_true] at ez
              go_wp2
              go_roundw
              case rel => exact ⟨k' + 1 + 1, by omega, by go_num, by rw [es], by rw [ez], hb2⟩
              case measure => simp [intOf]; omega
            · rw [if_neg ht] at ez
              go_wp2
              go_roundw
              case rel => exact ⟨k' + 1 + 1, by omega, by go_num, by rw [es], by rw [ez], hb2⟩
              case measure => simp [intOf]; omega
        · obtain rfl : k = (ttL p).length := by omega
          have hs := T6.out
          have hz := T7.out
          have hb9 := below_step hbl bb8.size bb8
          have l9 := hbl.size
          rw [List.take_length] at s0 z0
          rw [List.take_length]
          rw [hs, hz]
          have hpp : 0 ≤ p * (p - 1) ∧ p * (p - 1) ≤ 2000 := by
            rw [hs] at s0
            have : p * (p - 1) ≤ 37 * 37 := by
              rcases Int.le_total p 1 with h | h
              · have : p * (p - 1) ≤ 0 := Int.mul_nonpos_of_nonneg_of_nonpos p0 (by omega)
                omega
              · exact Int.mul_le_mul p1 (by omega) (by omega) (by omega)
            omega
          clear hs hz s0 z0 hk hlt
          go_wp2
          go_meet
          case rel => exact hb9
end Go.Proofs.Ytilgeeaobdebhaa
