/- Walks: logs to smallest models. -/
import Derived.Test.YtfepjeemcodcgaaPairS
import Derived.Test.YtfepjeemcodcgaaSmall
import Derived.Test.YtfepjeemcodcgaaFac
namespace Go.Proofs.Ytfepjeemcodcgaa
open Go.RowKit

def spTo (u : Int) (i : Nat) : List (Int × Int) := ((factL u).take i).flatMap fun f => List.replicate f.2.toNat (1, f.1)
theorem spTo_succ (u : Int) (i : Nat) (h : i < (factL u).length) : spTo u (i + 1) = spTo u i ++ List.replicate (factL u)[i].2.toNat (1, (factL u)[i].1) := by
  unfold spTo
  rw [List.take_add_one, List.getElem?_eq_getElem h, List.flatMap_append]; simp
theorem spTo_le (u : Int) (i : Nat) (j : Nat) (hu : 0 ≤ u ∧ u ≤ 5) (hi : i < (factL u).length) (hj : j ≤ (factL u)[i].2.toNat) : (spTo u i ++ List.replicate j ((1 : Int), (factL u)[i].1)).length ≤ 5 := by
  have h1 := (sl_len u.toNat (by omega)).1
  rw [show ((u.toNat : Nat) : Int) = u by omega] at h1
  have h2 : spL u = spTo u (i + 1) ++ ((factL u).drop (i + 1)).flatMap fun f => List.replicate f.2.toNat (1, f.1) := by
    unfold spTo spL; rw [← List.flatMap_append, List.take_append_drop]
  rw [h2, spTo_succ u i hi] at h1
  simp only [List.length_append, List.length_replicate] at h1 ⊢
  omega
noncomputable def slRes (A B : Int) : List (Int × Int) := if curveB A B then spL (smU A B) else []
set_option maxHeartbeats 1000000 in
theorem c_sSmallestLog (A B : Int) (w : World) :
    Calls Try.prog 38 #[.agg #[.int .i64 A, .int .i64 B]] w (ListPost 34 w (slRes A B) (curveB A B)) := by
  unfold slRes
  cases h0 : curveB A B
  · go_enter Try.func38, Try.ntmps38
    go_wp2_with ((go_at_call 66; refine (c_ecGood _ _ _).mono ?_; rintro e w1 ⟨rfl, hb1⟩; obtain ⟨hc1, hf1⟩ := bcell hb1; have hz1 := hb1.size; (try simp only [World.size_alloc] at hz1); (try (have hy1 : w.heap.size < w1.heap.size := by omega)); (try (have hx1 := Nat.lt_of_succ_le hz1)); (try (have hv1 := Nat.lt_of_succ_le (Nat.le_of_lt hx1)))))
    go_ret2
    refine ⟨_, rfl, OwnsP.nil _ _ _, ?_⟩
    (repeat' (first | (with_reducible exact Below.refl _ _) | (with_reducible refine below_step (by assumption) ?_ ?_) | (with_reducible refine Below.alloc ?_ ?_ _) | (with_reducible refine Below.setCell ?_ ?_ _) | (with_reducible refine below_drewN ?_ _) | (with_reducible refine Below.drew ?_) | omega | (simp; omega) | (simp; done)))
  · have hu := smU_bd A B
    go_enter Try.func38, Try.ntmps38
    go_wp2_with (first | (go_at_call 66; refine (c_ecGood _ _ _).mono ?_; rintro e w1 ⟨rfl, hb1⟩; obtain ⟨hc1, hf1⟩ := bcell hb1; have hz1 := hb1.size; (try simp only [World.size_alloc] at hz1); (try (have hy1 : w.heap.size < w1.heap.size := by omega)); (try (have hx1 := Nat.lt_of_succ_le hz1)); (try (have hv1 := Nat.lt_of_succ_le (Nat.le_of_lt hx1)))))
    refine (c_ecSmallest _ _ h0 _).mono ?_
    rintro e w2 ⟨rfl, hb2⟩
    have hz2 := hb2.size
    generalize hue : smU A B = u at *
    have HU := Lib.hid hue
    clear hue
    go_wp2_with fail
    refine (c_mdFactors _ (by omega) _).mono ?_
    rintro e w3 ⟨fv, rfl, hown, hb3⟩
    have hz3 := hb3.size
    simp only [World.size_alloc] at hz2 hz3
    have hbl : Below w.heap.size w w3 := by (repeat' (first | (with_reducible exact Below.refl _ _) | (with_reducible refine below_step (by assumption) ?_ ?_) | (with_reducible refine Below.alloc ?_ ?_ _) | (with_reducible refine Below.setCell ?_ ?_ _) | (with_reducible refine below_drewN ?_ _) | (with_reducible refine Below.drew ?_) | omega | (simp; omega) | (simp; done)))
    have hsz := hbl.size
    have HL := Lib.hid (spTo_le u)
    have hF5 := (sl_len u.toNat (by omega)).2.1
    have hFb := (sl_len u.toNat (by omega)).2.2
    rw [show ((u.toNat : Nat) : Int) = u by omega] at hF5 hFb
    have HFb : Hid (∀ i (h : i < (factL u).length), (1 ≤ (factL u)[i].2 ∧ (factL u)[i].2 ≤ 5) ∧ 2 ≤ (factL u)[i].1 ∧ (factL u)[i].1 ≤ 5) := fun i h => by
      have := List.all_eq_true.1 hFb _ (List.getElem_mem h)
      simp only [Bool.and_eq_true, decide_eq_true_eq] at this
      exact ⟨this.1.1, this.1.2, this.2⟩
    clear hFb
    obtain ⟨a, cap, rfl, hcell⟩ := hown.form
    have Hc := Lib.hid hcell
    clear hcell hown hb2 hb3
    go_wp2
    go_loopw [4, 21] (fun v i wr => ∃ k : Nat, k ≤ (factL u).length ∧ i = .int .i64 k ∧ OwnsS wr w3.heap.size v (spTo u k) ∧ Below w3.heap.size w3 wr) (fun _ i _ => (factL u).length - (intOf i).toNat)
    case atStart => exact ⟨0, Nat.zero_le _, rfl, OwnsP.nil _ _ _, Below.refl _ _⟩
    case round =>
      obtain ⟨k, hk, rfl, ho, hbr⟩ := hrel
      by_cases hlt : k < (factL u).length
      · obtain ⟨g, g', rfl, hcx, hc0, hc1, hg, _, hg', _⟩ := Hc.out k hlt
        have hfb := HFb.out k hlt
        have HS := Lib.hid (spTo_succ u k hlt)
        have HLk : Hid (∀ j : Nat, j ≤ (factL u)[k].2.toNat → (spTo u k ++ List.replicate j ((1 : Int), (factL u)[k].1)).length ≤ 5) := fun j hj => HL.out k j (by omega) hlt hj
        generalize hx : (factL u)[k].1 = x at hc0 hfb HS HLk
        generalize hy : (factL u)[k].2 = y at hc1 hfb HS HLk
        clear hx hy
        obtain ⟨n, rfl⟩ := Int.eq_ofNat_of_zero_le (show 0 ≤ y by omega)
        rw [Int.toNat_natCast] at HS HLk
        have d1 : wr.cell? ⟨g, k, none⟩ = some (.slice (some ⟨g', 0, none⟩) 2 2) := (hbr.cell (p := ⟨g, k, none⟩) hg).trans hcx
        clear hcx
        obtain ⟨wo, rfl⟩ : ∃ wo : World, wo = wr := ⟨_, rfl⟩
        go_wp2
        go_loopw [4, 9] (fun v c wq => ∃ j : Nat, j ≤ n ∧ c = .int .i64 j ∧ OwnsS wq w3.heap.size v (spTo u k ++ List.replicate j (1, x)) ∧ Below w3.heap.size w3 wq) (fun _ c _ => n - (intOf c).toNat)
        case atStart => exact ⟨0, Nat.zero_le _, rfl, by simpa using ho, hbr⟩
        case round =>
          obtain ⟨j, hj, rfl, ho2, hbq⟩ := hrel
          have c0 : wr.cell? ⟨g', 0, none⟩ = some (.int .i64 x) := (hbq.cell (p := ⟨g', 0, none⟩) hg').trans hc0
          have c1 : wr.cell? ⟨g', 1, none⟩ = some (.int .i64 n) := (hbq.cell (p := ⟨g', 1, none⟩) hg').trans hc1
          have hzq := hbq.size
          have hl := HLk.out j hj
          by_cases hjn : j < n
          · go_wp2_with (at_builtin; refine wpList_appS (p := (1, x)) rfl _ _ rfl w3.heap.size _ _ rfl ho2 rfl (by omega) hzq ?_; intro v' w4 ho4 hb4 hg4)
            have hb5 := hbq.trans hb4
            have HE : Hid (spTo u k ++ List.replicate (j + 1) (1, x) = (spTo u k ++ List.replicate j (1, x)) ++ [(1, x)]) := by show _ = _; rw [List.replicate_succ', List.append_assoc]
            clear hg4 hb4
            go_wp2
            go_roundw
            case rel => exact ⟨j + 1, by omega, by go_num, by rw [HE.out]; exact ho4, hb5⟩
            case measure => simp [intOf]; omega
          · obtain rfl : j = n := by omega
            go_wp2
            go_roundw
            case rel => exact ⟨k + 1, by omega, by go_num, by rw [HS.out]; exact ho2, hbq⟩
            case measure => simp [intOf]; omega
      · obtain rfl : k = (factL u).length := by omega
        go_wp2
        go_ret2
        refine ⟨_, rfl, ?_, ?_⟩
        · have : spTo u (factL u).length = spL u := by unfold spTo spL; rw [List.take_length]
          rw [this] at ho
          first | exact ho.le hsz | (rw [if_pos rfl, HU.out]; exact ho.le hsz)
        · exact below_step hbr hsz hbl
def msS (u p : Int) : Nat := if 1 < u then (6 - p).toNat + 1 else 0
theorem slF_step (f : Nat) {u p : Int} (h : 1 < u) : slF (f + 1) u p = List.replicate (val u p).toNat (1, p) ++ slF f (strip u p) (p + 1) := by simp [slF, h]
theorem msS_step {u y p : Int} (h : 1 < u) (hp : p ≤ 5) : msS y (p + 1) < msS u p := by
  unfold msS; rw [if_pos h]; split <;> omega
set_option maxHeartbeats 1000000 in
theorem c_iSmallestLog (A B : Int) (w : World) :
    Calls Try.prog 39 #[.agg #[.int .i64 A, .int .i64 B]] w (ListPost 34 w (slRes A B) (curveB A B)) := by
  unfold slRes
  cases h0 : curveB A B
  · go_enter Try.func39, Try.ntmps39
    go_wp2_with ((go_at_call 69; refine (c_isCurve _ _ _).mono ?_; rintro e w1 ⟨rfl, hb1⟩; obtain ⟨hc1, hf1⟩ := bcell hb1; have hz1 := hb1.size; (try simp only [World.size_alloc] at hz1); (try (have hy1 : w.heap.size < w1.heap.size := by omega)); (try (have hx1 := Nat.lt_of_succ_le hz1)); (try (have hv1 := Nat.lt_of_succ_le (Nat.le_of_lt hx1)))))
    go_ret2
    refine ⟨_, rfl, OwnsP.nil _ _ _, ?_⟩
    (repeat' (first | (with_reducible exact Below.refl _ _) | (with_reducible refine below_step (by assumption) ?_ ?_) | (with_reducible refine Below.alloc ?_ ?_ _) | (with_reducible refine Below.setCell ?_ ?_ _) | (with_reducible refine below_drewN ?_ _) | (with_reducible refine Below.drew ?_) | omega | (simp; omega) | (simp; done)))
  · have hu := smU_bd A B
    go_enter Try.func39, Try.ntmps39
    go_wp2_with (first | (go_at_call 69; refine (c_isCurve _ _ _).mono ?_; rintro e w1 ⟨rfl, hb1⟩; obtain ⟨hc1, hf1⟩ := bcell hb1; have hz1 := hb1.size; (try simp only [World.size_alloc] at hz1); (try (have hy1 : w.heap.size < w1.heap.size := by omega)); (try (have hx1 := Nat.lt_of_succ_le hz1)); (try (have hv1 := Nat.lt_of_succ_le (Nat.le_of_lt hx1)))))
    refine (c_smallest _ _ h0 _).mono ?_
    rintro e w2 ⟨rfl, hb2⟩
    have hz2 := hb2.size
    have HE := Lib.hid (sl_eq (u := smU A B) (by omega) (by omega))
    generalize hue : smU A B = u0 at *
    have HU := Lib.hid hue
    clear hue
    have hlen := (sl_len u0.toNat (by omega)).1
    rw [show ((u0.toNat : Nat) : Int) = u0 by omega, ← HE.out] at hlen
    have hbl : Below w.heap.size w w2 := by (repeat' (first | (with_reducible exact Below.refl _ _) | (with_reducible refine below_step (by assumption) ?_ ?_) | (with_reducible refine Below.alloc ?_ ?_ _) | (with_reducible refine Below.setCell ?_ ?_ _) | (with_reducible refine below_drewN ?_ _) | (with_reducible refine Below.drew ?_) | omega | (simp; omega) | (simp; done)))
    have hsz := hbl.size
    go_wp2
    go_loopw [5, 6, 7] (fun x v y wr => ∃ (u p : Int) (xs : List (Int × Int)) (f : Nat), x = .int .i64 u ∧ y = .int .i64 p ∧ (1 ≤ u ∧ u ≤ 5) ∧ (2 ≤ p ∧ p ≤ 6) ∧ (f : Int) + p = 8 ∧ Hid (NoSm u p) ∧ OwnsS wr w.heap.size v xs ∧ Below w.heap.size w wr ∧ Hid (xs ++ slF f u p = slL u0)) (fun x _ y _ => msS (intOf x) (intOf y))
    case atStart => exact ⟨u0, 2, [], 6, rfl, rfl, hu, by omega, by omega, NoSm.two _, OwnsP.nil _ _ _, by (repeat' (first | (with_reducible exact Below.refl _ _) | (with_reducible refine below_step (by assumption) ?_ ?_) | (with_reducible refine Below.alloc ?_ ?_ _) | (with_reducible refine Below.setCell ?_ ?_ _) | (with_reducible refine below_drewN ?_ _) | (with_reducible refine Below.drew ?_) | omega | (simp; omega) | (simp; done))), rfl⟩
    case round =>
      obtain ⟨u, p, xs, f, rfl, rfl, hu1, hp, hf, HN, ho, hbr, H⟩ := hrel
      by_cases h1 : 1 < u
      · have hpu := HN.out.le h1
        obtain ⟨f', rfl⟩ : ∃ f', f = f' + 1 := ⟨f - 1, by omega⟩
        have HS := Lib.hid (slF_step f' (p := p) h1)
        have HN2 := Lib.hid (HN.out.step (by omega) (by omega))
        have hsb := strip_bd u.toNat u p (by omega) (by omega)
        have HM : Hid (∀ y, msS y (p + 1) < msS u p) := fun y => msS_step h1 (by omega)
        have hxl : xs.length + (val u p).toNat ≤ 5 := by
          have := congrArg List.length H.out
          rw [HS.out] at this
          simp only [List.length_append, List.length_replicate] at this
          omega
        obtain ⟨wo, rfl⟩ : ∃ wo : World, wo = wr := ⟨_, rfl⟩
        go_wp2
        go_loopw [5, 6] (fun x v wq => ∃ (y : Int) (j g : Nat), x = .int .i64 y ∧ (1 ≤ y ∧ y ≤ u) ∧ y.toNat ≤ g ∧ OwnsS wq w.heap.size v (xs ++ List.replicate j (1, p)) ∧ Below w.heap.size w wq ∧ Hid ((j : Int) + valF g y p = val u p) ∧ Hid (stripF g y p = strip u p)) (fun x _ _ => (intOf x).toNat)
        case atStart => exact ⟨u, 0, u.toNat, rfl, by omega, Nat.le_refl _, by simpa using ho, hbr, by show _ = _; unfold val; rw [show u.natAbs = u.toNat by omega]; omega, rfl⟩
        case round =>
          obtain ⟨y, j, g, rfl, hy, hg, ho2, hbq, HV, HT⟩ := hrel
          have hzq := hbq.size
          by_cases h5 : y % p = 0
          · obtain ⟨d1, d2⟩ := div_pos_facts hy.1 hp.1 h5
            obtain ⟨g', rfl⟩ : ∃ g', g = g' + 1 := ⟨g - 1, by omega⟩
            have HV2 : Hid ((j : Int) + 1 + valF g' (y / p) p = val u p) := by have := HV.out; rw [valF_yes g' h5] at this; show _ = _; omega
            have HT2 : Hid (stripF g' (y / p) p = strip u p) := by have := HT.out; rw [stripF_yes g' h5] at this; exact this
            have hjl : j + 1 ≤ (val u p).toNat := by have := HV2.out; have := valF_nonneg g' (y / p) p; omega
            have hl : (xs ++ List.replicate j ((1 : Int), p)).length < 10 := by simp; omega
            have hh5 : (y % p == 0) = true := by simp [h5]
            clear h5 HV HT
            go_wp2_with (at_builtin; refine wpList_appS (p := (1, p)) rfl _ _ rfl w.heap.size _ _ rfl ho2 rfl (by omega) hzq ?_; intro v' w4 ho4 hb4 hg4)
            have hb5 := hbq.trans hb4
            have HE2 : Hid (xs ++ List.replicate (j + 1) (1, p) = (xs ++ List.replicate j (1, p)) ++ [(1, p)]) := by show _ = _; rw [List.replicate_succ', List.append_assoc]
            clear hg4 hb4
            go_wp2
            go_roundw
            case rel => exact ⟨y / p, j + 1, g', rfl, by omega, by omega, by rw [HE2.out]; exact ho4, hb5, HV2, HT2⟩
            case measure => simp [intOf]; omega
          · have HZ : Hid (y = strip u p) := by have := HT.out; rw [stripF_no g h5] at this; exact this
            have HJ : Hid (j = (val u p).toNat) := by have := HV.out; rw [valF_no g h5] at this; show _ = _; omega
            have hh5 : (y % p == 0) = false := by simp [h5]
            clear h5 HV HT
            go_wp2
            go_roundw
            case rel => exact ⟨y, p + 1, xs ++ List.replicate j (1, p), f', rfl, rfl, by omega, by omega, by omega, by rw [HZ.out]; exact HN2, ho2, hbq, by show _ = _; rw [HZ.out, HJ.out, List.append_assoc, ← HS.out]; exact H⟩
            case measure => have := HM.out y; simpa [intOf] using this
      · have HO := Lib.hid (slF_one f (p := p) (show u ≤ 1 by omega))
        go_wp2
        go_ret2
        refine ⟨_, rfl, ?_, hbr⟩
        have hx := H.out
        rw [HO.out, List.append_nil, HE.out] at hx
        rw [hx] at ho
        first | exact ho | (rw [if_pos rfl, HU.out]; exact ho)
theorem slRes_len (A B : Int) : (slRes A B).length ≤ 5 := by
  unfold slRes
  split
  · have hu := smU_bd A B
    have := (sl_len (smU A B).toNat (by omega)).1
    rwa [show (((smU A B).toNat : Nat) : Int) = smU A B by omega] at this
  · simp
set_option maxHeartbeats 1000000 in
theorem walk_FnExactSmallestLog (A B : Int) (_ : (Lit.int .i64 A).wf = true) (_ : (Lit.int .i64 B).wf = true) (w : World) :
    Calls Try.prog 13 #[.agg #[.int .i64 A, .int .i64 B]] w fun e w' => e = .returned (.bool true) ∧ Below w.heap.size w w' := by
  have h1 := c_sSmallestLog A B
  have h2 := c_iSmallestLog A B
  have hL := slRes_len A B
  generalize slRes A B = L at h1 h2 hL
  generalize curveB A B = b at h1 h2
  have H1 := Lib.hid h1
  have H2 := Lib.hid h2
  clear h1 h2
  cases b
  all_goals
    go_enter Try.func13, Try.ntmps13
    go_wp2_with fail
    (go_at_call 20; refine (c_toCurve _ _ _).mono ?_; rintro e w1 ⟨rfl, hb1⟩; obtain ⟨hc1, hf1⟩ := bcell hb1; have hz1 := hb1.size; (try simp only [World.size_alloc] at hz1); (try (have hy1 : w.heap.size < w1.heap.size := by omega)); (try (have hx1 := Nat.lt_of_succ_le hz1)); (try (have hv1 := Nat.lt_of_succ_le (Nat.le_of_lt hx1))))
    go_wp2_with fail
    refine (H1.out _).mono ?_
    rintro e w2 ⟨v0, rfl, o0, hb2⟩
    obtain ⟨hc2, hf2⟩ := bcell hb2
    have hz2 := hb2.size
    have hy2 : w.heap.size < w2.heap.size := by omega
    go_wp2_with fail
    (go_at_call 20; refine (c_toCurve _ _ _).mono ?_; rintro e w3 ⟨rfl, hb3⟩; obtain ⟨hc3, hf3⟩ := bcell hb3; have hz3 := hb3.size; (try simp only [World.size_alloc] at hz3); (try (have hy3 : w.heap.size < w3.heap.size := by omega)); (try (have hx3 := Nat.lt_of_succ_le hz3)); (try (have hv3 := Nat.lt_of_succ_le (Nat.le_of_lt hx3))); (try (have hy3_1 : w1.heap.size < w3.heap.size := by omega)); (try (have hy3_2 : w2.heap.size < w3.heap.size := by omega)))
    go_wp2_with fail
    refine (H2.out _).mono ?_
    rintro e w4 ⟨v1, rfl, o1, hb4⟩
    obtain ⟨hc4, hf4⟩ := bcell hb4
    have hz4 := hb4.size
    have hy4 : w.heap.size < w4.heap.size := by omega
    have p0 := o0.below (hb3.trans (hb4.mono hz3))
    go_wp2_with fail
    refine (c_eqStepS _ _ _ _ L (by omega) _ o1 p0).mono ?_
    rintro e w5 ⟨rfl, hb5⟩
    obtain ⟨hc5, hf5⟩ := bcell hb5
    have hz5 := hb5.size
    have hy5 : w.heap.size < w5.heap.size := by omega
    have p1 := o1.below hb5
    have p0' := p0.below hb5
    have l0 := o0.lt
    have l1 := o1.lt
    go_wp2_with fail
    refine (c_markStepS _ _ L (by omega) _ p1).mono ?_
    rintro e w6 ⟨rfl, m1, hg6⟩
    have hb6 := below_of_grown (B := w3.heap.size) hg6 (by omega) (fun k hk => (l1 k hk).1)
    have hz6 := hb6.size
    have hy6 : w.heap.size < w6.heap.size := by omega
    have q0 := p0'.grown hg6 (base' := w3.heap.size) (fun k hk => by have := (l0 k hk).2; omega) (fun k hk => (l1 k hk).1)
    have hc6 : ∀ b o, b < w3.heap.size → w6.cell? ⟨b, o, none⟩ = w5.cell? ⟨b, o, none⟩ := fun b o h => hb6.cell (p := ⟨b, o, none⟩) h
    have hy3' : w.heap.size < w3.heap.size := by omega
    go_wp2_with fail
    refine (c_heldStepS _ _ L.length (by omega) _ m1).mono ?_
    rintro e w' ⟨rfl, rfl⟩
    go_wp2_with fail
    (go_at_call 20; refine (c_toCurve _ _ _).mono ?_; rintro e w7 ⟨rfl, hb7⟩; obtain ⟨hc7, hf7⟩ := bcell hb7; have hz7 := hb7.size; (try simp only [World.size_alloc] at hz7); (try (have hy7 : w.heap.size < w7.heap.size := by omega)); (try (have hx7 := Nat.lt_of_succ_le hz7)); (try (have hv7 := Nat.lt_of_succ_le (Nat.le_of_lt hx7))); (try (have hy7_1 : w1.heap.size < w7.heap.size := by omega)); (try (have hy7_2 : w2.heap.size < w7.heap.size := by omega)); (try (have hy7_3 : w3.heap.size < w7.heap.size := by omega)); (try (have hy7_4 : w4.heap.size < w7.heap.size := by omega)); (try (have hy7_5 : w5.heap.size < w7.heap.size := by omega)); (try (have hy7_6 : w6.heap.size < w7.heap.size := by omega)))
    go_wp2_with fail
    refine (H2.out _).mono ?_
    rintro e w8 ⟨v2, rfl, o2, hb8⟩
    have hz8 := hb8.size
    have r0 := (q0.below hb7).below hb8
    have m2 := (m1.below hb7).below hb8
    go_wp2_with fail
    refine (c_eqStepS _ _ _ _ L (by omega) _ o2 r0).mono ?_
    rintro e w9 ⟨rfl, hb9⟩
    have m3 := m2.below hb9
    go_wp2_with fail
    refine (c_heldStepS _ _ L.length (by omega) _ m3).mono ?_
    rintro e w' ⟨rfl, rfl⟩
    go_wp2
    go_ret
    refine ⟨rfl, ?_⟩
    (repeat' (first | (with_reducible exact Below.refl _ _) | (with_reducible refine below_step (by assumption) ?_ ?_) | (with_reducible refine Below.alloc ?_ ?_ _) | (with_reducible refine Below.setCell ?_ ?_ _) | (with_reducible refine below_drewN ?_ _) | (with_reducible refine Below.drew ?_) | omega | (simp; omega) | (simp; done)))
end Go.Proofs.Ytfepjeemcodcgaa
