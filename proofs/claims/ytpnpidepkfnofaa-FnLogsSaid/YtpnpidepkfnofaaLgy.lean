/- The walk of the law FnLogs. -/
import Derived.Test.YtpnpidepkfnofaaLgx
namespace Go.Proofs.Ytpnpidepkfnofaa
open Go.RowKit

set_option maxRecDepth 1000000 in
set_option maxHeartbeats 4000000 in
theorem walk_FnLogs (v0 : Value) (xs : List Int) (v1 : Value) (ys : List Int) (w : World) (r0 : RdB w w.heap.size v0 xs) (r1 : RdB w w.heap.size v1 ys) :
    Calls Try.prog 3 #[v0, v1] w fun e w' => e = .returned (.bool true) ∧ Below w.heap.size w w' := by
  have HB := Lib.hid (c_big v0 v1 _ xs ys w r0 r1)
  have HD := Lib.hid (d_drawReplay v0 xs w r0)
  have R1 := Lib.hid r1
  clear r0 r1
  go_enter Try.func3, Try.ntmps3
  go_wp2_with fail
  refine HB.out.mono ?_
  rintro e w1 ⟨q, rfl, rfl⟩
  clear HB
  cases q
  case true =>
    go_wp2
    go_ret
    exact ⟨rfl, Below.refl _ _⟩
  go_wp2_with fail
  refine HD.out.mono ?_
  rintro e w2 ⟨a, b, u, L, rfl, hab, hL, hu, bb2⟩
  clear HD
  have K1 := Lib.hid (fun W ho => c_iReplayLog w1.heap.size u a b L (by omega) W ho)
  have K2 := Lib.hid (fun W ho => c_sReplayLog w1.heap.size u a b L (by omega) W ho)
  have K3 := Lib.hid (fun W ho => c_iCurvesOfLog w1.heap.size u a b L (by omega) W ho)
  have K4 := Lib.hid (fun W ho => c_sCurvesOfLog w1.heap.size u a b L (by omega) W ho)
  have HF : Hid (ccO (a, b) L = true → LogF a b L (rpE a b L)) := Lib.hid log_facts
  have hcl := ccL_len (a, b) L
  generalize rpE a b L = E at K1 K2 HF
  generalize ccO (a, b) L = o at K1 K2 K3 K4 HF
  obtain ⟨E1, E2⟩ := E
  have x5 := Bx.alloc w2 (.int .i64 a) (.int .i64 b) 25
  replace hu := OwnsP.below hu (w1 := w2.alloc (.cells #[.int .i64 a, .int .i64 b] 25)) ((Below.refl _ _).alloc (Nat.le_refl _) _)
  replace bb2 : Below w1.heap.size w1 (w2.alloc (.cells #[.int .i64 a, .int .i64 b] 25)) := bb2.alloc bb2.size _
  go_upto_region 4 with (fail)
  generalize w2.alloc _ = W2 at x5 bb2 hu ⊢
  generalize w2.heap.size = g5 at x5 ⊢
  obtain ⟨f0, f1, _, _, f4⟩ := id x5
  go_wp2_with fail
  refine (K1.out _ hu).mono ?_
  rintro e w3 ⟨rfl, hb3⟩
  have hz3 := hb3.size
  have bb3 := below_step hb3 bb2.size bb2
  replace hu := OwnsP.below hu hb3
  replace x5 := (x5.below hb3).alloc' (.cells #[.int .i64 E1, .int .i64 E2] 25)
  have x7 := Bx.alloc w3 (.int .i64 E1) (.int .i64 E2) 25
  replace hu := OwnsP.below hu (w1 := w3.alloc (.cells #[.int .i64 E1, .int .i64 E2] 25)) ((Below.refl _ _).alloc (Nat.le_refl _) _)
  replace bb3 : Below w1.heap.size w1 (w3.alloc (.cells #[.int .i64 E1, .int .i64 E2] 25)) := bb3.alloc bb3.size _
  clear f0 f1 f4 K1
  go_upto_region 5 with (fail)
  generalize w3.alloc _ = W3 at x5 x7 bb3 hu ⊢
  generalize w3.heap.size = g7 at x7 ⊢
  obtain ⟨f0, f1, _, _, f4⟩ := id x5
  go_wp2_with fail
  refine (K2.out _ hu).mono ?_
  rintro e w4 ⟨rfl, hb4⟩
  have hz4 := hb4.size
  have bb4 := below_step hb4 bb3.size bb3
  replace hu := OwnsP.below hu hb4
  replace x5 := (x5.below hb4).alloc' (.cells #[.int .i64 E1, .int .i64 E2] 25)
  replace x7 := (x7.below hb4).alloc' (.cells #[.int .i64 E1, .int .i64 E2] 25)
  have x9 := Bx.alloc w4 (.int .i64 E1) (.int .i64 E2) 25
  replace hu := OwnsP.below hu (w1 := w4.alloc (.cells #[.int .i64 E1, .int .i64 E2] 25)) ((Below.refl _ _).alloc (Nat.le_refl _) _)
  replace bb4 : Below w1.heap.size w1 (w4.alloc (.cells #[.int .i64 E1, .int .i64 E2] 25)) := bb4.alloc bb4.size _
  clear f0 f1 f4 K2
  go_upto_region 6 with (fail)
  generalize w4.alloc _ = W4 at x5 x7 x9 bb4 hu ⊢
  generalize w4.heap.size = g9 at x9 ⊢
  obtain ⟨f0, f1, _, _, f4⟩ := id x5
  go_wp2_with fail
  refine (K3.out _ hu).mono ?_
  rintro e w5 ⟨l11, rfl, o11, hb5⟩
  have hz5 := hb5.size
  have bb5 := below_step hb5 bb4.size bb4
  replace hu := OwnsP.below hu hb5
  replace x5 := x5.below hb5
  replace x7 := x7.below hb5
  replace x9 := x9.below hb5
  clear f0 f1 f4 K3
  obtain ⟨f0, f1, _, _, f4⟩ := id x5
  go_wp2_with fail
  refine (K4.out _ hu).mono ?_
  rintro e w6 ⟨l13, rfl, o13, hb6⟩
  have hz6 := hb6.size
  have bb6 := below_step hb6 bb5.size bb5
  replace hu := OwnsP.below hu hb6
  replace x5 := x5.below hb6
  replace x7 := x7.below hb6
  replace x9 := x9.below hb6
  replace o11 := OwnsP.below o11 hb6
  clear f0 f1 f4 K4
  go_upto_region 8 with (fail)
  go_cut [103] from 325 (fun s wc => s = .bool false ∧ Below w6.heap.size w6 wc)
  case first =>
    obtain ⟨c0, c1, _, _⟩ := id x7
    obtain ⟨d0, d1, _, _⟩ := id x9
    go_wp2_with fail
    refine (c_pSameCurves _ _ _ _ (ccL (a, b) L) (by omega) _ o11 o13).mono ?_
    rintro e w7 ⟨rfl, hb7⟩
    go_wp2
    go_meet
    case rel => exact ⟨rfl, hb7⟩
  case rest =>
    obtain ⟨rfl, hbc⟩ := hcut
    have bbc := below_step hbc bb6.size bb6
    go_upto_if 103 with (fail)
    go_cut [] from 325 (fun wd => wc = wd)
    case first =>
      go_wp2
      go_meet
      case rel => rfl
    subst hcut
    replace x5 := x5.below hbc
    replace x7 := x7.below hbc
    replace x9 := x9.below hbc
    replace hu := OwnsP.below hu hbc
    replace o13 := OwnsP.below o13 hbc
    clear o11 hbc
    obtain ⟨sc, capc, rfl, hfc⟩ := OwnsP.form o13
    generalize hm : (ccL (a, b) L).length = m at o13 ⊢
    have HM := Lib.hid hm
    replace hfc := Lib.hid hfc
    clear hm
    go_upto_if 104 with (fail)
    go_cut [] from 325 (fun wd => Below wc.heap.size wc wd)
    case rest =>
      have bbd := below_step hcut bbc.size bbc
      apply_assumption
      refine r32 _ ys _ (R1.out.later bbd) (fun a w' hd => ?_)
      refine bodyPost_ret (v := .bool true) ?_ hd.2.1 ⟨rfl, below_step hd.2.2 bbd.size bbd⟩
      have h4 := hd.1
      simp [results, Try.results3, go_sem, h4]
    case first =>
      clear bb2 bb3 bb4 bb5 bb6 hb3 hb4 hb5 hb6 hz3 hz4 hz5 hz6
      cases o
      · go_wp2
        go_meet
        case rel => exact Below.refl _ _
      · have F := Lib.hid (HF.out rfl)
        clear HF
        have hlen := F.out.len
        have C1 : Hid (∀ W ho, _) := Lib.hid (fun W ho => c_iCheckLog w1.heap.size u a b L E1 E2 (by omega) W ho)
        rw [F.out.chk.1, F.out.chk.2] at C1
        have I1 := Lib.hid (fun W ho => c_iInverse w1.heap.size u L (by omega) W ho)
        have I2 := Lib.hid (fun W ho => c_sInverse w1.heap.size u L (by omega) W ho)
        have S1 := Lib.hid (fun W ho => c_iShorten w1.heap.size u L (by omega) W ho)
        have S2 := Lib.hid (fun W ho => c_sShorten w1.heap.size u L (by omega) W ho)
        rw [F.out.inv.1] at I1 I2 S1 S2
        have P1 : Hid (∀ (B : Nat) (v : Value) (W : World), OwnsS W B v (ivL L) → Calls Try.prog 6 #[.agg #[.int .i64 E1, .int .i64 E2], v] W (PairPost W (a, b) true)) := Lib.hid fun B v W ho => by
          have := c_iReplayLog B v E1 E2 (ivL L) (by have := ivL_len L; omega) W ho
          have h2 : ccO (E1, E2) (ivL L) = true := F.out.inv.2.1
          have h3 : rpE E1 E2 (ivL L) = (a, b) := F.out.inv.2.2
          rw [h2, h3] at this
          exact this
        have P2 : Hid (∀ (B : Nat) (v : Value) (W : World), OwnsS W B v (shR L) → Calls Try.prog 6 #[.agg #[.int .i64 a, .int .i64 b], v] W (PairPost W (E1, E2) true)) := Lib.hid fun B v W ho => by
          have := c_iReplayLog B v a b (shR L) (by have := shR_len L; omega) W ho
          rw [F.out.sho.1, F.out.sho.2.1] at this
          exact this
        have hiv := ivL_len L
        have hsh := shR_len L
        have hle := F.out.sho.2.2
        obtain ⟨su, capu, rfl, hfu⟩ := OwnsP.form hu
        obtain rfl : m = L.length + 1 := by rw [← HM.out]; exact hlen
        have HC0 := hfc.out 0 (by omega)
        have HC1 := hfc.out L.length (by omega)
        rw [F.out.fst] at HC0
        rw [F.out.lst] at HC1
        replace HC0 := Lib.hid HC0
        replace HC1 := Lib.hid HC1
        clear hfu hfc HM
        go_upto_region 11 with (fail)
        go_cut [126] from 325 (fun s we => s = .bool false ∧ Below wc.heap.size wc we)
        case first =>
          obtain ⟨g, rfl, p1, p2, _, hg, _⟩ := HC0.out
          obtain ⟨g', eg, q1, q2, _, _, _⟩ := HC1.out
          obtain rfl : g = g' := by simpa using eg
          obtain ⟨c0, c1, _, _, c4⟩ := id x5
          obtain ⟨d0, d1, _, _, d4⟩ := id x9
          simp only [Nat.zero_mul, Nat.zero_add] at p1 p2
          clear HC0 HC1 eg
          (refine wp_region_clq (by kernel_rfl) (by kernel_rfl) ?_; (repeat (go_big_quiet_step (fail))); refine wpQuiet_nil ?_; intro w8 hb8; obtain ⟨hc8, hf8⟩ := bcell hb8; have hz8 := hb8.size; (try simp only [World.size_alloc] at hz8))
          clear hc8 hf8
          go_wp2
          go_meet
          case rel => exact ⟨rfl, hb8⟩
        case rest =>
          obtain ⟨rfl, hb2⟩ := hcut
          have bb2 := hb2
          replace x5 := x5.below hb2
          replace x7 := x7.below hb2
          replace x9 := x9.below hb2
          replace hu := OwnsP.below hu hb2
          replace o13 := OwnsP.below o13 hb2
          clear HC0 HC1 bbc
          go_upto_if 126 with (fail)
          go_cut [] from 325 (fun we => wc = we)
          case first =>
            go_wp2
            go_meet
            case rel => rfl
          subst hcut
          obtain ⟨f0, f1, _, _, f4⟩ := id x5
          obtain ⟨h0, h1, _, _, h4⟩ := id x7
          go_wp2_with fail
          refine (C1.out _ hu).mono ?_
          rintro e w13 ⟨rfl, hb3⟩
          have bb3 := below_step hb3 bb2.size bb2
          replace x5 := x5.below hb3
          replace x7 := x7.below hb3
          replace x9 := x9.below hb3
          replace hu := OwnsP.below hu hb3
          replace o13 := OwnsP.below o13 hb3
          clear C1 f0 f1 f4 h0 h1 h4
          go_wp2_with fail
          refine (I1.out _ hu).mono ?_
          rintro e w14 ⟨v17, rfl, o17, hb4⟩
          have bb4 := below_step hb4 bb3.size bb3
          replace x5 := x5.below hb4
          replace x7 := x7.below hb4
          replace x9 := x9.below hb4
          replace hu := OwnsP.below hu hb4
          replace o13 := OwnsP.below o13 hb4
          clear I1
          go_wp2_with fail
          refine (I2.out _ hu).mono ?_
          rintro e w15 ⟨v19, rfl, o19, hb5⟩
          have bb5 := below_step hb5 bb4.size bb4
          replace x5 := x5.below hb5
          replace x7 := x7.below hb5
          replace x9 := x9.below hb5
          replace hu := OwnsP.below hu hb5
          replace o13 := OwnsP.below o13 hb5
          replace o17 := OwnsP.below o17 hb5
          clear I2
          obtain ⟨h0, h1, _, _, h4⟩ := id x7
          go_wp2_with fail
          refine (P1.out _ _ _ o17).mono ?_
          rintro e w16 ⟨rfl, hb6⟩
          have hb6' : Below w15.heap.size w15 (w16.alloc (.cells #[.int .i64 a, .int .i64 b] 25)) := hb6.alloc hb6.size _
          have x21 := Bx.alloc w16 (.int .i64 a) (.int .i64 b) 25
          clear h0 h1 h4 P1
          go_upto_region 17 with (fail)
          generalize w16.alloc _ = W16 at hb6' x21 ⊢
          generalize w16.heap.size = g21 at x21 ⊢
          have bb6 := below_step hb6' bb5.size bb5
          replace x5 := x5.below hb6'
          replace x7 := x7.below hb6'
          replace x9 := x9.below hb6'
          replace hu := OwnsP.below hu hb6'
          replace o13 := OwnsP.below o13 hb6'
          replace o17 := OwnsP.below o17 hb6'
          replace o19 := OwnsP.below o19 hb6'
          clear hb6 hb6'
          go_wp2_with fail
          refine (S1.out _ hu).mono ?_
          rintro e w17 ⟨v23, rfl, o23, hb7⟩
          have bb7 := below_step hb7 bb6.size bb6
          replace x5 := x5.below hb7
          replace x7 := x7.below hb7
          replace x9 := x9.below hb7
          replace hu := OwnsP.below hu hb7
          replace o13 := OwnsP.below o13 hb7
          replace o17 := OwnsP.below o17 hb7
          replace o19 := OwnsP.below o19 hb7
          replace x21 := x21.below hb7
          clear S1
          go_wp2_with fail
          refine (S2.out _ hu).mono ?_
          rintro e w18 ⟨v25, rfl, o25, hb8⟩
          have bb8 := below_step hb8 bb7.size bb7
          replace x5 := x5.below hb8
          replace x7 := x7.below hb8
          replace x9 := x9.below hb8
          replace hu := OwnsP.below hu hb8
          replace o13 := OwnsP.below o13 hb8
          replace o17 := OwnsP.below o17 hb8
          replace o19 := OwnsP.below o19 hb8
          replace o23 := OwnsP.below o23 hb8
          replace x21 := x21.below hb8
          clear S2
          obtain ⟨f0, f1, _, _, f4⟩ := id x5
          go_wp2_with fail
          refine (P2.out _ _ _ o23).mono ?_
          rintro e w19 ⟨rfl, hb9⟩
          have hb9' : Below w18.heap.size w18 (w19.alloc (.cells #[.int .i64 E1, .int .i64 E2] 25)) := hb9.alloc hb9.size _
          have x27 := Bx.alloc w19 (.int .i64 E1) (.int .i64 E2) 25
          clear f0 f1 f4 P2
          go_upto_region 20 with (fail)
          generalize w19.alloc _ = W19 at hb9' x27 ⊢
          generalize w19.heap.size = g27 at x27 ⊢
          have bb9 := below_step hb9' bb8.size bb8
          replace x5 := x5.below hb9'
          replace x7 := x7.below hb9'
          replace x9 := x9.below hb9'
          replace hu := OwnsP.below hu hb9'
          replace o13 := OwnsP.below o13 hb9'
          replace o17 := OwnsP.below o17 hb9'
          replace o19 := OwnsP.below o19 hb9'
          replace o23 := OwnsP.below o23 hb9'
          replace o25 := OwnsP.below o25 hb9'
          replace x21 := x21.below hb9'
          obtain ⟨s25, cap25, rfl, _⟩ := OwnsP.form o25
          clear hb9 hb9' bb3 bb4 bb5 bb6 bb7 bb8 hb3 hb4 hb5 hb7 hb8
          go_cut [224] from 325 (fun s we => s = .bool false ∧ Below W19.heap.size W19 we)
          case first =>
            obtain ⟨f0, f1, _, _, f4⟩ := id x5
            obtain ⟨h0, h1, _, _, h4⟩ := id x21
            obtain ⟨i0, i1, _, _, i4⟩ := id x9
            obtain ⟨j0, j1, _, _, j4⟩ := id x27
            have hnle : ¬ (L.length < (shR L).length) := by omega
            go_wp2_with fail
            refine (c_pSameSteps _ _ _ _ (ivL L) (by omega) _ o17 o19).mono ?_
            rintro e w21 ⟨rfl, hb21⟩
            replace o23 := OwnsP.below o23 hb21
            replace o25 := OwnsP.below o25 hb21
            replace x5 := x5.below hb21
            replace x9 := x9.below hb21
            replace x21 := x21.below hb21
            replace x27 := x27.below hb21
            clear f0 f1 f4 h0 h1 h4 i0 i1 i4 j0 j1 j4
            obtain ⟨f0, f1, _, _, f4⟩ := id x5
            obtain ⟨h0, h1, _, _, h4⟩ := id x21
            obtain ⟨i0, i1, _, _, i4⟩ := id x9
            obtain ⟨j0, j1, _, _, j4⟩ := id x27
            go_wp2_with fail
            refine (c_pSameSteps _ _ _ _ (shR L) (by omega) _ o23 o25).mono ?_
            rintro e w22 ⟨rfl, hb22⟩
            replace x5 := x5.below hb22
            replace x9 := x9.below hb22
            replace x21 := x21.below hb22
            replace x27 := x27.below hb22
            clear f0 f1 f4 h0 h1 h4 i0 i1 i4 j0 j1 j4
            obtain ⟨f0, f1, _, _, f4⟩ := id x5
            obtain ⟨h0, h1, _, _, h4⟩ := id x21
            obtain ⟨i0, i1, _, _, i4⟩ := id x9
            obtain ⟨j0, j1, _, _, j4⟩ := id x27
            go_wp2
            go_meet
            case rel => exact ⟨rfl, below_step hb22 hb21.size hb21⟩
          case rest =>
            obtain ⟨rfl, hb20⟩ := hcut
            have bb20 := below_step hb20 bb9.size bb9
            replace x5 := x5.below hb20
            replace x7 := x7.below hb20
            replace x9 := x9.below hb20
            replace hu := OwnsP.below hu hb20
            replace o13 := OwnsP.below o13 hb20
            clear o17 o19 o23 o25 x9 x21 x27 bb9 hb20
            go_upto_if 224 with (fail)
            go_cut [] from 325 (fun we => wc = we)
            case first =>
              go_wp2
              go_meet
              case rel => rfl
            subst hcut
            apply_assumption
            refine r22 g5 g7 _ _ a b (E1, E2) L hL _ _ _ x5 x7 hu o13 F ?_
            intros
            apply_assumption
            go_meet
            case rel => exact below_step (by assumption) bb20.size bb20
end Go.Proofs.Ytpnpidepkfnofaa
