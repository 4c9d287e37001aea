/- The walk of the law FnCurveClasses. -/
import Derived.Test.YtilgeeaobdebhaaCvv
namespace Go.Proofs.Ytilgeeaobdebhaa
open Go.RowKit

theorem co_facts {p A B : Int} (ht : tabB p A B = true) : tabP p = true ∧ (0 ≤ A ∧ A ≤ p - 1) ∧ (0 ≤ B ∧ B ≤ p - 1) ∧ okC p A B = true := by
  obtain ⟨_, _, hA, hB⟩ := tabB_of ht
  have hp : tabP p = true := by
    unfold tabB at ht
    simp only [Bool.and_eq_true] at ht
    exact ht.1.1.1
  exact ⟨hp, hA, hB, by rw [← tabB_ok hp hA hB]; exact ht⟩
theorem any_self {A B : Int} {L : List (Int × Int)} (h : (A, B) ∈ L) : L.any (fun d => d.1 == A && d.2 == B) = true := List.any_eq_true.2 ⟨(A, B), h, by simp⟩
theorem aut_bd (p A B : Int) (hp : 0 ≤ p ∧ p ≤ 37) : 0 ≤ autV p A B ∧ autV p A B ≤ 37 := by
  have := autTo_bd p A B (p.toNat - 1)
  unfold autV; omega
set_option maxRecDepth 1000000 in
set_option maxHeartbeats 4000000 in
theorem walk_FnCurveClasses (v0 : Value) (xs : List Int) (v1 : Value) (ys : List Int) (w : World) (r0 : RdB w w.heap.size v0 xs) (r1 : RdB w w.heap.size v1 ys) :
    Calls Try.prog 4 #[v0, v1] w fun e w' => e = .returned (.bool true) ∧ Below w.heap.size w w' := by
  have HB := Lib.hid (c_big v0 v1 _ xs ys w r0 r1)
  have HD := Lib.hid (c_drawClass v0 xs w r0)
  have R1 := Lib.hid r1
  clear r0 r1
  go_enter Try.func4, Try.ntmps4
  go_wp2_with fail
  refine HB.out.mono ?_
  rintro e w1 ⟨b, rfl, rfl⟩
  clear HB
  cases b
  case true =>
    go_wp2
    go_ret
    exact ⟨rfl, Below.refl _ _⟩
  go_wp2_with fail
  refine HD.out.mono ?_
  rintro e w2 ⟨p, A, B, rfl, hp0, hA0, hB0, hb2⟩
  clear HD
  have hz2 := hb2.size
  have KA1 := fun w => c_iAutomorphismCount p A B w
  have KA2 := fun w => c_sAutomorphismCount p A B w
  have KI1 := fun w => c_iInvariantModulo p A B w
  have KI2 := fun w => c_sInvariantModulo p A B w
  have HaV : Hid (tabB p A B = true → (if tabB p A B then autV p A B else 0) = autV p A B) := Lib.hid (fun h => by rw [if_pos h])
  have HiV : Hid (tabB p A B = true → (if tabB p A B then invV p A B else 0) = invV p A B) := Lib.hid (fun h => by rw [if_pos h])
  generalize (if tabB p A B then autV p A B else 0) = aV at KA1 KA2 HaV
  generalize (if tabB p A B then invV p A B else 0) = iV at KI1 KI2 HiV
  replace KA1 := Lib.hid KA1
  replace KA2 := Lib.hid KA2
  replace KI1 := Lib.hid KI1
  replace KI2 := Lib.hid KI2
  go_wp2_with fail
  refine (c_iClassOf p A B _).mono ?_
  rintro e w3 ⟨a0, rfl, o0, hb3⟩
  have x3 := Bx.new hb3
  have hz3 : w2.heap.size ≤ w3.heap.size := by have := hb3.size; simp at this; omega
  have bb3 : Below w1.heap.size w1 w3 := by (repeat' (first | (with_reducible exact Below.refl _ _) | (with_reducible refine below_step (by assumption) ?_ ?_) | (with_reducible refine Below.alloc ?_ ?_ _) | (with_reducible refine Below.setCell ?_ ?_ _) | (with_reducible refine below_drewN ?_ _) | (with_reducible refine Below.drew ?_) | omega | (simp; omega) | (simp; done)))
  obtain ⟨f0, f1, _, _, f4⟩ := id x3
  go_wp2_with fail
  refine (c_sClassOf p A B _).mono ?_
  rintro e w4 ⟨a1, rfl, o1, hb4⟩
  have hz4 := hb4.size
  have bb4 := below_step hb4 bb3.size bb3
  have x4 := x3.below hb4
  replace o0 := OwnsP.below o0 hb4
  clear f0 f1 f4 x3
  obtain ⟨f0, f1, _, _, f4⟩ := id x4
  go_wp2_with fail
  (go_at_call 25; refine (KA1.out _).mono ?_; rintro e w5 ⟨rfl, hb5⟩; obtain ⟨hc5, hf5⟩ := bcell hb5; have hz5 := hb5.size; (try simp only [World.size_alloc] at hz5); (try (have hy5 : w.heap.size < w5.heap.size := by omega)); (try (have hx5 := Nat.lt_of_succ_le hz5)); (try (have hv5 := Nat.lt_of_succ_le (Nat.le_of_lt hx5))); (try (have hy5_1 : w1.heap.size < w5.heap.size := by omega)); (try (have hy5_2 : w2.heap.size < w5.heap.size := by omega)); (try (have hy5_3 : w3.heap.size < w5.heap.size := by omega)); (try (have hy5_4 : w4.heap.size < w5.heap.size := by omega)))
  clear hc5 hf5
  have bb5 := below_step hb5 bb4.size bb4
  have x5 := x4.below hb5
  replace o0 := OwnsP.below o0 hb5
  replace o1 := OwnsP.below o1 hb5
  clear f0 f1 f4 x4
  obtain ⟨f0, f1, _, _, f4⟩ := id x5
  go_wp2_with fail
  (go_at_call 26; refine (KA2.out _).mono ?_; rintro e w6 ⟨rfl, hb6⟩; obtain ⟨hc6, hf6⟩ := bcell hb6; have hz6 := hb6.size; (try simp only [World.size_alloc] at hz6); (try (have hy6 : w.heap.size < w6.heap.size := by omega)); (try (have hx6 := Nat.lt_of_succ_le hz6)); (try (have hv6 := Nat.lt_of_succ_le (Nat.le_of_lt hx6))); (try (have hy6_1 : w1.heap.size < w6.heap.size := by omega)); (try (have hy6_2 : w2.heap.size < w6.heap.size := by omega)); (try (have hy6_3 : w3.heap.size < w6.heap.size := by omega)); (try (have hy6_4 : w4.heap.size < w6.heap.size := by omega)); (try (have hy6_5 : w5.heap.size < w6.heap.size := by omega)))
  clear hc6 hf6
  have bb6 := below_step hb6 bb5.size bb5
  have x6 := x5.below hb6
  replace o0 := OwnsP.below o0 hb6
  replace o1 := OwnsP.below o1 hb6
  clear f0 f1 f4 x5
  obtain ⟨f0, f1, _, _, f4⟩ := id x6
  go_wp2_with fail
  (go_at_call 27; refine (KI1.out _).mono ?_; rintro e w7 ⟨rfl, hb7⟩; obtain ⟨hc7, hf7⟩ := bcell hb7; have hz7 := hb7.size; (try simp only [World.size_alloc] at hz7); (try (have hy7 : w.heap.size < w7.heap.size := by omega)); (try (have hx7 := Nat.lt_of_succ_le hz7)); (try (have hv7 := Nat.lt_of_succ_le (Nat.le_of_lt hx7))); (try (have hy7_1 : w1.heap.size < w7.heap.size := by omega)); (try (have hy7_2 : w2.heap.size < w7.heap.size := by omega)); (try (have hy7_3 : w3.heap.size < w7.heap.size := by omega)); (try (have hy7_4 : w4.heap.size < w7.heap.size := by omega)); (try (have hy7_5 : w5.heap.size < w7.heap.size := by omega)); (try (have hy7_6 : w6.heap.size < w7.heap.size := by omega)))
  clear hc7 hf7
  have bb7 := below_step hb7 bb6.size bb6
  have x7 := x6.below hb7
  replace o0 := OwnsP.below o0 hb7
  replace o1 := OwnsP.below o1 hb7
  clear f0 f1 f4 x6
  obtain ⟨f0, f1, _, _, f4⟩ := id x7
  go_wp2_with fail
  (go_at_call 28; refine (KI2.out _).mono ?_; rintro e w8 ⟨rfl, hb8⟩; obtain ⟨hc8, hf8⟩ := bcell hb8; have hz8 := hb8.size; (try simp only [World.size_alloc] at hz8); (try (have hy8 : w.heap.size < w8.heap.size := by omega)); (try (have hx8 := Nat.lt_of_succ_le hz8)); (try (have hv8 := Nat.lt_of_succ_le (Nat.le_of_lt hx8))); (try (have hy8_1 : w1.heap.size < w8.heap.size := by omega)); (try (have hy8_2 : w2.heap.size < w8.heap.size := by omega)); (try (have hy8_3 : w3.heap.size < w8.heap.size := by omega)); (try (have hy8_4 : w4.heap.size < w8.heap.size := by omega)); (try (have hy8_5 : w5.heap.size < w8.heap.size := by omega)); (try (have hy8_6 : w6.heap.size < w8.heap.size := by omega)); (try (have hy8_7 : w7.heap.size < w8.heap.size := by omega)))
  clear hc8 hf8
  have bb8 := below_step hb8 bb7.size bb7
  have x8 := x7.below hb8
  replace o0 := OwnsP.below o0 hb8
  replace o1 := OwnsP.below o1 hb8
  clear f0 f1 f4 x7
  have hlC := coL_len p A B
  go_wp2_with fail
  refine (c_pSameCurves _ _ _ _ (coL p A B) (by omega) _ o0 o1).mono ?_
  rintro e w9 ⟨rfl, hb9⟩
  have hz9 := hb9.size
  have bb9 := below_step hb9 bb8.size bb8
  have x9 := x8.below hb9
  replace o1 := OwnsP.below o1 hb9
  clear o0 x8
  go_upto_if 133 with (fail)
  go_cut [8, 10, 11, 12, 13, 14, 15, 16, 17, 18] from 50 (fun s8 s10 s11 s12 s13 s14 s15 s16 s17 s18 wc => Below w1.heap.size w1 wc)
  case rest =>
    have bbX := hcut
    apply_assumption
    refine t33 ys _ (R1.out.later bbX) (fun a w' hd => ?_)
    refine bodyPost_ret (v := .bool true) ?_ hd.2.1 ⟨rfl, below_step hd.2.2 bbX.size bbX⟩
    have h4 := hd.1
    simp [results, Try.results4, go_sem, h4]
  case first =>
    cases ht : tabB p A B
    · go_wp2
      go_meet
      case rel => exact bb9
    · obtain ⟨hp, hA, hB, hok⟩ := co_facts ht
      have h5 := tabP_of hp
      have ea := HaV.out ht
      have ei := HiV.out ht
      have hco : coL p A B = clS p A B := by unfold coL; rw [if_pos ht]
      have hsz : ((coL p A B).length : Int) * aV = p - 1 := by rw [hco, ea]; exact cl_size hp hA hB hok
      have HM := Lib.hid (fun d (h : d ∈ coL p A B) => cl_mem hp hA hB hok (hco ▸ h))
      have HS := any_self (show (A, B) ∈ coL p A B from hco ▸ cl_self hp hA hB hok)
      have HS' := Lib.hid HS
      obtain ⟨_, cb, gd⟩ := cv_ok hp hA hB hok
      have HC := fun w => c_CountPoints A B p (by omega) (by omega) (by omega) h5.2.2 cb gd w
      have HT1 := fun w => c_iTwistModulo p A B w
      have HT2 := fun w => c_sTwistModulo p A B w
      rw [ht] at HT1 HT2
      simp only [if_true] at HT1 HT2
      obtain ⟨hm2, _⟩ := tw_mem hp (tabL_mk hA hB hok)
      obtain ⟨hA2, hB2, hok2⟩ := tabL_mem hm2
      have ht2 := (cv_ok hp hA2 hB2 hok2).1
      have HI2 := fun w => c_iInvariantModulo p (twA p A) (twB p B) w
      have ht2' : tabB p (twA p A) (twB p B) = true := ht2
      rw [ht2'] at HI2
      simp only [if_true] at HI2
      rw [tw_inv hp hA hB hok] at HI2
      have HEI := Lib.hid ei
      have HP := Lib.hid hp
      rw [← ei] at HI2
      clear hA2 hB2 hok2 hm2 ht2 ht2' cb gd HS hok hco ea ei ht HaV HiV KA1 KA2 KI1 KI2 hA0 hB0
      generalize twA p A = X at *
      generalize twB p B = Y at *
      have hcn : ∃ cV, cV = cntV A B p := ⟨_, rfl⟩
      obtain ⟨cV, hcV⟩ := hcn
      rw [← hcV] at HC
      have HCV := Lib.hid hcV
      clear hcV hp
      replace HC := Lib.hid HC
      replace HT1 := Lib.hid HT1
      replace HT2 := Lib.hid HT2
      replace HI2 := Lib.hid HI2
      obtain ⟨sc, capc, rfl, hf2⟩ := OwnsP.form o1
      have HF2 := Lib.hid hf2
      clear hf2 o1
      obtain ⟨f0, f1, _, _, f4⟩ := id x9
      go_wp2_with fail
      (go_at_call 16; refine (HC.out _).mono ?_; rintro e w20 ⟨rfl, hb20⟩; obtain ⟨hc20, hf20⟩ := bcell hb20; have hz20 := hb20.size; (try simp only [World.size_alloc] at hz20); (try (have hy20 : w.heap.size < w20.heap.size := by omega)); (try (have hx20 := Nat.lt_of_succ_le hz20)); (try (have hv20 := Nat.lt_of_succ_le (Nat.le_of_lt hx20))); (try (have hy20_1 : w1.heap.size < w20.heap.size := by omega)); (try (have hy20_2 : w2.heap.size < w20.heap.size := by omega)); (try (have hy20_3 : w3.heap.size < w20.heap.size := by omega)); (try (have hy20_4 : w4.heap.size < w20.heap.size := by omega)); (try (have hy20_5 : w5.heap.size < w20.heap.size := by omega)); (try (have hy20_6 : w6.heap.size < w20.heap.size := by omega)); (try (have hy20_7 : w7.heap.size < w20.heap.size := by omega)); (try (have hy20_8 : w8.heap.size < w20.heap.size := by omega)); (try (have hy20_9 : w9.heap.size < w20.heap.size := by omega)); (try (have hy20_10 : w10.heap.size < w20.heap.size := by omega)); (try (have hy20_11 : w11.heap.size < w20.heap.size := by omega)); (try (have hy20_12 : w12.heap.size < w20.heap.size := by omega)); (try (have hy20_13 : w13.heap.size < w20.heap.size := by omega)); (try (have hy20_14 : w14.heap.size < w20.heap.size := by omega)); (try (have hy20_15 : w15.heap.size < w20.heap.size := by omega)); (try (have hy20_16 : w16.heap.size < w20.heap.size := by omega)); (try (have hy20_17 : w17.heap.size < w20.heap.size := by omega)); (try (have hy20_18 : w18.heap.size < w20.heap.size := by omega)); (try (have hy20_19 : w19.heap.size < w20.heap.size := by omega)))
      clear hc20 hf20 f0 f1 f4 hsz
      have x20 := x9.below hb20
      have bb20 := below_step hb20 bb9.size bb9
      have b920 : Below w9.heap.size w9 w20 := hb20
      go_wp2
      go_loopw [21, 149] (fun f i wr => ∃ k : Nat, k ≤ (coL p A B).length ∧ i = .int .i64 k ∧ f = .bool (((coL p A B).take k).any (fun d => d.1 == A && d.2 == B)) ∧ Below w20.heap.size w20 wr) (fun _ i _ => (coL p A B).length - (intOf i).toNat)
      case atStart => exact ⟨0, Nat.zero_le _, rfl, rfl, Below.refl _ _⟩
      case round =>
        obtain ⟨k, hk, rfl, rfl, hbl⟩ := hrel
        have zl := hbl.size
        have xr := x20.below hbl
        by_cases hlt : k < (coL p A B).length
        · have hany : ((coL p A B).take (k + 1)).any (fun d => d.1 == A && d.2 == B) = (((coL p A B).take k).any (fun d => d.1 == A && d.2 == B) || ((coL p A B)[k].1 == A && (coL p A B)[k].2 == B)) := by
            rw [List.take_succ_eq_append_getElem hlt, List.any_append]; simp
          obtain ⟨m1, m2, m3⟩ := HM.out _ (List.getElem_mem hlt)
          obtain ⟨c1, c2, c3⟩ := tabL_mem m1
          obtain ⟨tb, cb, gd⟩ := cv_ok HP.out c1 c2 c3
          have HI := fun w => c_iInvariantModulo p (coL p A B)[k].1 (coL p A B)[k].2 w
          rw [tb] at HI
          simp only [if_true] at HI
          rw [m2, ← HEI.out] at HI
          have HC2 := fun w => c_CountPoints _ _ p (by omega) (by omega) (by omega) h5.2.2 cb gd w
          have hct : cntV (coL p A B)[k].1 (coL p A B)[k].2 p = cV := by
            have := HCV.out
            unfold trC trV at m3
            omega
          rw [hct] at HC2
          obtain ⟨g, rfl, p1, p2, _, hg, _⟩ := HF2.out k hlt
          have e1 := ((hb20.trans (hbl.mono hb20.size)).cell (p := ⟨g, k * 2, none⟩) hg).trans p1
          have e2 := ((hb20.trans (hbl.mono hb20.size)).cell (p := ⟨g, k * 2 + 1, none⟩) hg).trans p2
          have hgr : g < wr.heap.size := by have := hb20.size; omega
          clear p1 p2 m1 m2 m3 c1 c2 c3 tb cb gd hct hg
          generalize (coL p A B)[k].1 = x at *
          generalize (coL p A B)[k].2 = y at *
          generalize ((coL p A B).take k).any (fun d => d.1 == A && d.2 == B) = fk at hany ⊢
          replace HI := Lib.hid HI
          replace HC2 := Lib.hid HC2
          have HAN := Lib.hid hany
          clear hany
          have i0 : (0 : Int) ≤ (k : Int) := by omega
          have i1 : (k : Int) < ((coL p A B).length : Int) := by omega
          obtain ⟨f0, f1, _, _, f4⟩ := id xr
          go_wp2_with fail
          (go_at_call 27; refine (HI.out _).mono ?_; rintro e w21 ⟨rfl, hb21⟩; obtain ⟨hc21, hf21⟩ := bcell hb21; have hz21 := hb21.size; (try simp only [World.size_alloc] at hz21); (try (have hy21 : w.heap.size < w21.heap.size := by omega)); (try (have hx21 := Nat.lt_of_succ_le hz21)); (try (have hv21 := Nat.lt_of_succ_le (Nat.le_of_lt hx21))); (try (have hy21_1 : w1.heap.size < w21.heap.size := by omega)); (try (have hy21_2 : w2.heap.size < w21.heap.size := by omega)); (try (have hy21_3 : w3.heap.size < w21.heap.size := by omega)); (try (have hy21_4 : w4.heap.size < w21.heap.size := by omega)); (try (have hy21_5 : w5.heap.size < w21.heap.size := by omega)); (try (have hy21_6 : w6.heap.size < w21.heap.size := by omega)); (try (have hy21_7 : w7.heap.size < w21.heap.size := by omega)); (try (have hy21_8 : w8.heap.size < w21.heap.size := by omega)); (try (have hy21_9 : w9.heap.size < w21.heap.size := by omega)); (try (have hy21_10 : w10.heap.size < w21.heap.size := by omega)); (try (have hy21_11 : w11.heap.size < w21.heap.size := by omega)); (try (have hy21_12 : w12.heap.size < w21.heap.size := by omega)); (try (have hy21_13 : w13.heap.size < w21.heap.size := by omega)); (try (have hy21_14 : w14.heap.size < w21.heap.size := by omega)); (try (have hy21_15 : w15.heap.size < w21.heap.size := by omega)); (try (have hy21_16 : w16.heap.size < w21.heap.size := by omega)); (try (have hy21_17 : w17.heap.size < w21.heap.size := by omega)); (try (have hy21_18 : w18.heap.size < w21.heap.size := by omega)); (try (have hy21_19 : w19.heap.size < w21.heap.size := by omega)); (try (have hy21_20 : w20.heap.size < w21.heap.size := by omega)))
          clear hc21 hf21 f0 f1 f4 e1 e2
          have y21 := Bx.new hb21
          have x21 := Bx.below (xr.alloc' _) hb21
          obtain ⟨f0, f1, _, _, f4⟩ := id y21
          go_wp2_with fail
          (go_at_call 16; refine (HC2.out _).mono ?_; rintro e w22 ⟨rfl, hb22⟩; obtain ⟨hc22, hf22⟩ := bcell hb22; have hz22 := hb22.size; (try simp only [World.size_alloc] at hz22); (try (have hy22 : w.heap.size < w22.heap.size := by omega)); (try (have hx22 := Nat.lt_of_succ_le hz22)); (try (have hv22 := Nat.lt_of_succ_le (Nat.le_of_lt hx22))); (try (have hy22_1 : w1.heap.size < w22.heap.size := by omega)); (try (have hy22_2 : w2.heap.size < w22.heap.size := by omega)); (try (have hy22_3 : w3.heap.size < w22.heap.size := by omega)); (try (have hy22_4 : w4.heap.size < w22.heap.size := by omega)); (try (have hy22_5 : w5.heap.size < w22.heap.size := by omega)); (try (have hy22_6 : w6.heap.size < w22.heap.size := by omega)); (try (have hy22_7 : w7.heap.size < w22.heap.size := by omega)); (try (have hy22_8 : w8.heap.size < w22.heap.size := by omega)); (try (have hy22_9 : w9.heap.size < w22.heap.size := by omega)); (try (have hy22_10 : w10.heap.size < w22.heap.size := by omega)); (try (have hy22_11 : w11.heap.size < w22.heap.size := by omega)); (try (have hy22_12 : w12.heap.size < w22.heap.size := by omega)); (try (have hy22_13 : w13.heap.size < w22.heap.size := by omega)); (try (have hy22_14 : w14.heap.size < w22.heap.size := by omega)); (try (have hy22_15 : w15.heap.size < w22.heap.size := by omega)); (try (have hy22_16 : w16.heap.size < w22.heap.size := by omega)); (try (have hy22_17 : w17.heap.size < w22.heap.size := by omega)); (try (have hy22_18 : w18.heap.size < w22.heap.size := by omega)); (try (have hy22_19 : w19.heap.size < w22.heap.size := by omega)); (try (have hy22_20 : w20.heap.size < w22.heap.size := by omega)); (try (have hy22_21 : w21.heap.size < w22.heap.size := by omega)))
          clear hc22 hf22 f0 f1 f4
          have y22 := y21.below hb22
          have x22 := x21.below hb22
          obtain ⟨f0, f1, _, _, f4⟩ := y22
          obtain ⟨s0, s1, _, _, s4⟩ := x22
          have hbA : Below w20.heap.size w20 w22 := by (repeat' (first | (with_reducible exact Below.refl _ _) | (with_reducible refine below_step (by assumption) ?_ ?_) | (with_reducible refine Below.alloc ?_ ?_ _) | (with_reducible refine Below.setCell ?_ ?_ _) | (with_reducible refine below_drewN ?_ _) | (with_reducible refine Below.drew ?_) | omega | (simp; omega) | (simp; done)))
          cases fk
          · by_cases hx : x = A
            · subst hx
              by_cases hy : y = B
              · subst hy
                go_wp2
                go_roundw
                case rel => exact ⟨k + 1, by omega, by go_num, by rw [HAN.out]; simp, hbA⟩
                case measure => simp [intOf]; omega
              · go_wp2
                go_roundw
                case rel => exact ⟨k + 1, by omega, by go_num, by rw [HAN.out]; simp [hy], hbA⟩
                case measure => simp [intOf]; omega
            · go_wp2
              go_roundw
              case rel => exact ⟨k + 1, by omega, by go_num, by rw [HAN.out]; simp [hx], hbA⟩
              case measure => simp [intOf]; omega
          · go_wp2
            go_roundw
            case rel => exact ⟨k + 1, by omega, by go_num, by rw [HAN.out]; simp, hbA⟩
            case measure => simp [intOf]; omega
        · obtain rfl : k = (coL p A B).length := by omega
          have hall := HS'.out
          rw [List.take_length, hall]
          clear hall
          obtain ⟨f0, f1, _, _, f4⟩ := id xr
          go_wp2_with fail
          (go_at_call 17; refine (HT1.out _).mono ?_; rintro e w23 ⟨rfl, hb23⟩; obtain ⟨hc23, hf23⟩ := bcell hb23; have hz23 := hb23.size; (try simp only [World.size_alloc] at hz23); (try (have hy23 : w.heap.size < w23.heap.size := by omega)); (try (have hx23 := Nat.lt_of_succ_le hz23)); (try (have hv23 := Nat.lt_of_succ_le (Nat.le_of_lt hx23))); (try (have hy23_1 : w1.heap.size < w23.heap.size := by omega)); (try (have hy23_2 : w2.heap.size < w23.heap.size := by omega)); (try (have hy23_3 : w3.heap.size < w23.heap.size := by omega)); (try (have hy23_4 : w4.heap.size < w23.heap.size := by omega)); (try (have hy23_5 : w5.heap.size < w23.heap.size := by omega)); (try (have hy23_6 : w6.heap.size < w23.heap.size := by omega)); (try (have hy23_7 : w7.heap.size < w23.heap.size := by omega)); (try (have hy23_8 : w8.heap.size < w23.heap.size := by omega)); (try (have hy23_9 : w9.heap.size < w23.heap.size := by omega)); (try (have hy23_10 : w10.heap.size < w23.heap.size := by omega)); (try (have hy23_11 : w11.heap.size < w23.heap.size := by omega)); (try (have hy23_12 : w12.heap.size < w23.heap.size := by omega)); (try (have hy23_13 : w13.heap.size < w23.heap.size := by omega)); (try (have hy23_14 : w14.heap.size < w23.heap.size := by omega)); (try (have hy23_15 : w15.heap.size < w23.heap.size := by omega)); (try (have hy23_16 : w16.heap.size < w23.heap.size := by omega)); (try (have hy23_17 : w17.heap.size < w23.heap.size := by omega)); (try (have hy23_18 : w18.heap.size < w23.heap.size := by omega)); (try (have hy23_19 : w19.heap.size < w23.heap.size := by omega)); (try (have hy23_20 : w20.heap.size < w23.heap.size := by omega)); (try (have hy23_21 : w21.heap.size < w23.heap.size := by omega)); (try (have hy23_22 : w22.heap.size < w23.heap.size := by omega)))
          clear hc23 hf23 f0 f1 f4
          have x23 := xr.below hb23
          obtain ⟨f0, f1, _, _, f4⟩ := id x23
          go_wp2_with fail
          (go_at_call 18; refine (HT2.out _).mono ?_; rintro e w24 ⟨rfl, hb24⟩; obtain ⟨hc24, hf24⟩ := bcell hb24; have hz24 := hb24.size; (try simp only [World.size_alloc] at hz24); (try (have hy24 : w.heap.size < w24.heap.size := by omega)); (try (have hx24 := Nat.lt_of_succ_le hz24)); (try (have hv24 := Nat.lt_of_succ_le (Nat.le_of_lt hx24))); (try (have hy24_1 : w1.heap.size < w24.heap.size := by omega)); (try (have hy24_2 : w2.heap.size < w24.heap.size := by omega)); (try (have hy24_3 : w3.heap.size < w24.heap.size := by omega)); (try (have hy24_4 : w4.heap.size < w24.heap.size := by omega)); (try (have hy24_5 : w5.heap.size < w24.heap.size := by omega)); (try (have hy24_6 : w6.heap.size < w24.heap.size := by omega)); (try (have hy24_7 : w7.heap.size < w24.heap.size := by omega)); (try (have hy24_8 : w8.heap.size < w24.heap.size := by omega)); (try (have hy24_9 : w9.heap.size < w24.heap.size := by omega)); (try (have hy24_10 : w10.heap.size < w24.heap.size := by omega)); (try (have hy24_11 : w11.heap.size < w24.heap.size := by omega)); (try (have hy24_12 : w12.heap.size < w24.heap.size := by omega)); (try (have hy24_13 : w13.heap.size < w24.heap.size := by omega)); (try (have hy24_14 : w14.heap.size < w24.heap.size := by omega)); (try (have hy24_15 : w15.heap.size < w24.heap.size := by omega)); (try (have hy24_16 : w16.heap.size < w24.heap.size := by omega)); (try (have hy24_17 : w17.heap.size < w24.heap.size := by omega)); (try (have hy24_18 : w18.heap.size < w24.heap.size := by omega)); (try (have hy24_19 : w19.heap.size < w24.heap.size := by omega)); (try (have hy24_20 : w20.heap.size < w24.heap.size := by omega)); (try (have hy24_21 : w21.heap.size < w24.heap.size := by omega)); (try (have hy24_22 : w22.heap.size < w24.heap.size := by omega)); (try (have hy24_23 : w23.heap.size < w24.heap.size := by omega)))
          clear hc24 hf24 f0 f1 f4
          have y24 := Bx.new hb24
          obtain ⟨f0, f1, _, _, f4⟩ := id y24
          go_wp2_with fail
          (go_at_call 27; refine (HI2.out _).mono ?_; rintro e w25 ⟨rfl, hb25⟩; obtain ⟨hc25, hf25⟩ := bcell hb25; have hz25 := hb25.size; (try simp only [World.size_alloc] at hz25); (try (have hy25 : w.heap.size < w25.heap.size := by omega)); (try (have hx25 := Nat.lt_of_succ_le hz25)); (try (have hv25 := Nat.lt_of_succ_le (Nat.le_of_lt hx25))); (try (have hy25_1 : w1.heap.size < w25.heap.size := by omega)); (try (have hy25_2 : w2.heap.size < w25.heap.size := by omega)); (try (have hy25_3 : w3.heap.size < w25.heap.size := by omega)); (try (have hy25_4 : w4.heap.size < w25.heap.size := by omega)); (try (have hy25_5 : w5.heap.size < w25.heap.size := by omega)); (try (have hy25_6 : w6.heap.size < w25.heap.size := by omega)); (try (have hy25_7 : w7.heap.size < w25.heap.size := by omega)); (try (have hy25_8 : w8.heap.size < w25.heap.size := by omega)); (try (have hy25_9 : w9.heap.size < w25.heap.size := by omega)); (try (have hy25_10 : w10.heap.size < w25.heap.size := by omega)); (try (have hy25_11 : w11.heap.size < w25.heap.size := by omega)); (try (have hy25_12 : w12.heap.size < w25.heap.size := by omega)); (try (have hy25_13 : w13.heap.size < w25.heap.size := by omega)); (try (have hy25_14 : w14.heap.size < w25.heap.size := by omega)); (try (have hy25_15 : w15.heap.size < w25.heap.size := by omega)); (try (have hy25_16 : w16.heap.size < w25.heap.size := by omega)); (try (have hy25_17 : w17.heap.size < w25.heap.size := by omega)); (try (have hy25_18 : w18.heap.size < w25.heap.size := by omega)); (try (have hy25_19 : w19.heap.size < w25.heap.size := by omega)); (try (have hy25_20 : w20.heap.size < w25.heap.size := by omega)); (try (have hy25_21 : w21.heap.size < w25.heap.size := by omega)); (try (have hy25_22 : w22.heap.size < w25.heap.size := by omega)); (try (have hy25_23 : w23.heap.size < w25.heap.size := by omega)); (try (have hy25_24 : w24.heap.size < w25.heap.size := by omega)))
          clear hc25 hf25 f0 f1 f4
          have y25 := Bx.below (y24.alloc' _) hb25
          have v25 := Bx.new hb25
          obtain ⟨f0, f1, _, _, f4⟩ := y25
          obtain ⟨s0, s1, _, _, s4⟩ := v25
          have hbA : Below w20.heap.size w20 w25 := by (repeat' (first | (with_reducible exact Below.refl _ _) | (with_reducible refine below_step (by assumption) ?_ ?_) | (with_reducible refine Below.alloc ?_ ?_ _) | (with_reducible refine Below.setCell ?_ ?_ _) | (with_reducible refine below_drewN ?_ _) | (with_reducible refine Below.drew ?_) | omega | (simp; omega) | (simp; done)))
          have hbZ := below_step hbA bb20.size bb20
          go_wp2
          go_meet
          case rel => exact hbZ
end Go.Proofs.Ytilgeeaobdebhaa
