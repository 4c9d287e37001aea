/- Walks: is a list a group of classes (isClassGroup, dsIsGroup). -/
import Derived.Test.YtbmcabphjfpkhaaGreatPcI
namespace Go.Proofs.YtbmcabphjfpkhaaGreat
open Go.RowKit

noncomputable def mulAt (L : List Int) (d e : Int) : Bool := hasB (cdV (codeOf d ^^^ codeOf e)) L
noncomputable def mulsB (L : List Int) : Bool := L.all fun d => L.all fun e => mulAt L d e
/-- is a list a group of classes -/
noncomputable def gpB (L : List Int) : Bool := inB L.length 1 64 && (hasB 1 L && (L.all clB && (risB L && mulsB L)))
theorem muls_no {L : List Int} {d e : Int} (hd : d ∈ L) (he : e ∈ L) (h : mulAt L d e = false) : mulsB L = false := by
  unfold mulsB
  rw [List.all_eq_false]
  refine ⟨d, hd, ?_⟩
  rw [Bool.not_eq_true, List.all_eq_false]
  exact ⟨e, he, by simp [h]⟩
theorem muls_yes {L : List Int} (h : ∀ i, i < L.length → ∀ j, j < L.length → mulAt L (L[i]?.getD 0) (L[j]?.getD 0) = true) : mulsB L = true := by
  unfold mulsB
  rw [List.all_eq_true]
  intro d hd
  rw [List.all_eq_true]
  intro e he
  obtain ⟨i, hi, rfl⟩ := List.getElem_of_mem hd
  obtain ⟨j, hj, rfl⟩ := List.getElem_of_mem he
  have := h i hi j hj
  rwa [List.getElem?_eq_getElem hi, List.getElem?_eq_getElem hj] at this
theorem gp1 {L : List Int} (h : inB L.length 1 64 = false) : gpB L = false := by unfold gpB; rw [h, Bool.false_and]
theorem gp2 {L : List Int} (h : hasB 1 L = false) : gpB L = false := by unfold gpB; rw [h, Bool.false_and, Bool.and_false]
theorem gp3 {L : List Int} (h : L.all clB = false) : gpB L = false := by unfold gpB; rw [h, Bool.false_and, Bool.and_false, Bool.and_false]
theorem gp4 {L : List Int} (h : risB L = false) : gpB L = false := by unfold gpB; rw [h, Bool.false_and, Bool.and_false, Bool.and_false, Bool.and_false]
theorem gp5 {L : List Int} (h : mulsB L = false) : gpB L = false := by unfold gpB; rw [h, Bool.and_false, Bool.and_false, Bool.and_false, Bool.and_false]
theorem gp6 {L : List Int} (h1 : inB L.length 1 64 = true) (h2 : hasB 1 L = true) (h3 : L.all clB = true) (h4 : risB L = true) (h5 : mulsB L = true) : gpB L = true := by unfold gpB; rw [h1, h2, h3, h4, h5]; decide
/-- a product that is too large is in no list of classes -/
theorem mul_big {L : List Int} {d e : Int} (hL : L.all clB = true) (hd : codeOf d < 512) (he : codeOf e < 512) (h : decide (cdN (codeOf d ^^^ codeOf e) ≤ 1000000) = false) : mulAt L d e = false := by
  cases hx : mulAt L d e
  · rfl
  · exfalso
    unfold mulAt at hx
    have h1 := List.all_eq_true.1 hL _ ((has_mem _ _).1 hx)
    rw [clB_cd (xor_lt hd he), h] at h1
    cases h1
set_option maxHeartbeats 2000000 in
theorem c_isClassGroup (L : List Int) (v : Value) (hL : L.length ≤ 100) (hc : ∀ x ∈ L, ClsV x) (w : World) (h : RdI w v L) :
    Calls Tryz.prog 36 #[v] w fun e w' => e = .returned (.bool (gpB L)) ∧ Below w.heap.size w w' := by
  have hR := h
  obtain ⟨a, cap, rfl, hf⟩ := h
  have HF := Lib.hid hf
  have HC := Lib.hid hc
  have HH := Lib.hid (fun (n : Int) (W : World) (hb : Below w.heap.size w W) => c_containsI L n _ (by omega) W (hR.below hb))
  clear hf hc hR
  cases h1 : inB L.length 1 64
  · have hg := gp1 h1
    have H1 := Lib.hid (fun W => (c_inside L.length 1 64 W).mono fun e w' (h : _ ∧ _) => (⟨h.1.trans (by rw [h1]), h.2⟩ : e = .returned (.bool false) ∧ W = w'))
    go_enter Tryz.func36, Tryz.ntmps36
    go_wp2_with ((go_at_call 28; refine (H1.out _).mono ?_; rintro e w' ⟨rfl, rfl⟩))
    go_ret
    exact ⟨by rw [hg]; rfl, Below.refl _ _⟩
  have H1 := Lib.hid (fun W => (c_inside L.length 1 64 W).mono fun e w' (h : _ ∧ _) => (⟨h.1.trans (by rw [h1]), h.2⟩ : e = .returned (.bool true) ∧ W = w'))
  cases h2 : hasB 1 L
  · have hg := gp2 h2
    have H2 := Lib.hid (HH.out 1 w (Below.refl _ _))
    rw [h2] at H2
    go_enter Tryz.func36, Tryz.ntmps36
    go_wp2_with (first | (go_at_call 28; refine (H1.out _).mono ?_; rintro e w' ⟨rfl, rfl⟩) | (go_at_call 45; refine (H2.out).mono ?_; rintro e w' ⟨rfl, kd, rfl⟩))
    go_ret
    exact ⟨by rw [hg]; rfl, below_drewN (Below.refl _ _) _⟩
  have H2 := Lib.hid (HH.out 1 w (Below.refl _ _))
  rw [h2] at H2
  have HG := Lib.hid (fun a b c => @gp6 L h1 h2 a b c)
  clear h1 h2
  go_enter Tryz.func36, Tryz.ntmps36
  go_wp2_with (first | (go_at_call 28; refine (H1.out _).mono ?_; rintro e w' ⟨rfl, rfl⟩) | (go_at_call 45; refine (H2.out).mono ?_; rintro e w' ⟨rfl, kd, rfl⟩))
  have hb0 := below_drewN (Below.refl w.heap.size w) kd
  generalize w.drewN kd = W at *
  clear H1 H2
  go_wp2
  go_loopw [22] (fun i wr => ∃ k : Nat, k ≤ L.length ∧ i = .int .i64 k ∧ Below w.heap.size w wr ∧ Hid ((L.take k).all clB = true) ∧ Hid (∀ j, j < k → risAt L j = true)) (fun i _ => L.length - (intOf i).toNat)
  case atStart => exact ⟨0, Nat.zero_le _, rfl, hb0, rfl, Lib.hid (fun j hj => by omega)⟩
  case round =>
    obtain ⟨k, hk, rfl, hb, HN, HM⟩ := hrel
    by_cases hlt : k < L.length
    · obtain ⟨g, o, rfl, q, hg⟩ := HF.out k hlt
      replace q := (hb.cell (p := ⟨g, o + k, none⟩) hg).trans q
      have i0 : (0 : Int) ≤ (k : Int) := by omega
      have i1 : (k : Int) < (L.length : Int) := by omega
      have H1 := Lib.hid (fun W => c_isClass (L[k]?.getD 0) (HC.out _ (getD_mem L hlt)) W)
      have HS := Lib.hid (all_step clB L hlt)
      have HX := Lib.hid (fun h => gp3 (all_no clB L hlt h))
      have HX2 := Lib.hid (fun h => gp4 (ris_no L hlt h))
      have HR : Hid (risAt L k = (k == 0 || decide (L[k - 1]?.getD 0 < L[k]?.getD 0))) := rfl
      have HS2 : Hid (risAt L k = true → ∀ j, j < k + 1 → risAt L j = true) := Lib.hid (fun hr j hj => by
        rcases Nat.lt_or_ge j k with h1 | h1
        · exact HM.out j h1
        · obtain rfl : j = k := by omega
          exact hr)
      rw [HN.out] at HS
      clear HN HM
      generalize L[k]?.getD 0 = y at *
      generalize clB y = c at *
      go_upto_region 6 with (fail)
      go_wp2_with fail
      refine (H1.out _).mono ?_
      rintro e w1 ⟨rfl, hb1⟩
      have hb2 := below_step hb1 hb.size hb
      have hgw : g < w1.heap.size := by have := hb2.size; omega
      cases c
      · have hn := HX.out rfl
        go_wp2
        go_ret
        exact ⟨by rw [hn]; rfl, hb2⟩
      · rcases k with _ | k
        · have hz : ¬ ((0 : Int) < ((0 : Nat) : Int)) := by omega
          go_wp2
          go_roundw
          case rel => exact ⟨1, by omega, by go_num, hb2, HS, Lib.hid (HS2.out rfl)⟩
          case measure => simp [intOf]; omega
        · obtain ⟨g', o', e', q', _⟩ := HF.out k (by omega)
          obtain ⟨rfl, rfl⟩ : g = g' ∧ o = o' := by simpa using e'
          replace q' := (hb2.cell (p := ⟨g, o + k, none⟩) hg).trans q'
          have hk2 : (((k + 1 : Nat) : Int)) - 1 = k := by omega
          have hk3 : (0 : Int) < ((k + 1 : Nat) : Int) := by omega
          have hk4 : (0 : Int) ≤ (k : Int) := by omega
          have hk5 : (k : Int) < (L.length : Int) := by omega
          have hk6 : (0 : Int) < (k : Int) + 1 := by omega
          have hR : risAt L (k + 1) = decide (L[k]?.getD 0 < y) := by rw [HR.out]; simp
          rw [hR] at HX2 HS2
          clear hR HR e' HX q
          generalize L[k]?.getD 0 = z at *
          by_cases hyz : z < y
          · have hyz' : ¬ y ≤ z := by omega
            have HS' := Lib.hid (HS2.out (by simpa using hyz))
            go_wp2
            go_roundw
            case rel => exact ⟨k + 1 + 1, by omega, by go_num, hb2, HS, HS'⟩
            case measure => simp [intOf]; omega
          · have hyz' : y ≤ z := by omega
            have hn := HX2.out (by simpa using hyz)
            go_wp2
            go_ret
            exact ⟨by rw [hn]; rfl, hb2⟩
    · obtain rfl : k = L.length := by omega
      have hall := HN.out
      rw [List.take_length] at hall
      have hris : risB L = true := by
        unfold risB
        rw [List.all_eq_true]
        intro j hj
        exact HM.out j (by simpa using hj)
      have HG2 := Lib.hid (HG.out hall hris)
      have HA := Lib.hid (fun x hx => code_of (HC.out x hx) (List.all_eq_true.1 hall x hx))
      have HB := Lib.hid (fun d e a b c => @mul_big L d e hall a b c)
      clear hall hris HN HM HG HC
      go_wp2
      go_loopw [46] (fun i wr => ∃ k : Nat, k ≤ L.length ∧ i = .int .i64 k ∧ Below w.heap.size w wr ∧ Hid (∀ i, i < k → ∀ j, j < L.length → mulAt L (L[i]?.getD 0) (L[j]?.getD 0) = true)) (fun i _ => L.length - (intOf i).toNat)
      case atStart => exact ⟨0, Nat.zero_le _, rfl, hb, Lib.hid (fun i hi => by omega)⟩
      case round =>
        clear hb
        obtain ⟨k, hk, rfl, hb, HN⟩ := hrel
        by_cases hlt : k < L.length
        · obtain ⟨g, o, rfl, q, hg⟩ := HF.out k hlt
          replace q := (hb.cell (p := ⟨g, o + k, none⟩) hg).trans q
          have i0 : (0 : Int) ≤ (k : Int) := by omega
          have i1 : (k : Int) < (L.length : Int) := by omega
          have hd := getD_mem L hlt
          have HD := Lib.hid (HA.out _ hd)
          have HD2 := Lib.hid hd
          have HS : Hid ((∀ j, j < L.length → mulAt L (L[k]?.getD 0) (L[j]?.getD 0) = true) → ∀ i, i < k + 1 → ∀ j, j < L.length → mulAt L (L[i]?.getD 0) (L[j]?.getD 0) = true) := Lib.hid (fun hr i hi => by
            rcases Nat.lt_or_ge i k with h1 | h1
            · exact HN.out i h1
            · obtain rfl : i = k := by omega
              exact hr)
          clear HN hd
          generalize L[k]?.getD 0 = d at *
          go_wp2
          go_loopw [52] (fun i wr => ∃ j : Nat, j ≤ L.length ∧ i = .int .i64 j ∧ Below w.heap.size w wr ∧ Hid (∀ i, i < j → mulAt L d (L[i]?.getD 0) = true)) (fun i _ => L.length - (intOf i).toNat)
          case atStart => exact ⟨0, Nat.zero_le _, rfl, hb, Lib.hid (fun i hi => by omega)⟩
          case round =>
            clear hb q
            obtain ⟨j, hj, rfl, hb, HN⟩ := hrel
            by_cases hlt2 : j < L.length
            · obtain ⟨g', o', e', q, _⟩ := HF.out j hlt2
              obtain ⟨rfl, rfl⟩ : g = g' ∧ o = o' := by simpa using e'
              replace q := (hb.cell (p := ⟨g, o + j, none⟩) hg).trans q
              have j0 : (0 : Int) ≤ (j : Int) := by omega
              have j1 : (j : Int) < (L.length : Int) := by omega
              have he := getD_mem L hlt2
              obtain ⟨x1, x2, x3⟩ := HD.out
              obtain ⟨y1, y2, y3⟩ := HA.out _ he
              have hB := HB.out _ _ x1 y1
              have hP := fun W => c_productClass (codeOf d) (codeOf (L[j]?.getD 0)) x1 y1 x3 y3 W
              unfold PrP at hP
              rw [← x2, ← y2] at hP
              have hC := fun W hW => HH.out (cdV (codeOf d ^^^ codeOf (L[j]?.getD 0))) W hW
              have hm : hasB (cdV (codeOf d ^^^ codeOf (L[j]?.getD 0))) L = mulAt L d (L[j]?.getD 0) := by rw [mulAt]
              rw [hm] at hC
              have HX := Lib.hid (fun h => gp5 (muls_no HD2.out he h))
              have HS2 : Hid (mulAt L d (L[j]?.getD 0) = true → ∀ i, i < j + 1 → mulAt L d (L[i]?.getD 0) = true) := Lib.hid (fun hr i hi => by
                rcases Nat.lt_or_ge i j with h1 | h1
                · exact HN.out i h1
                · obtain rfl : i = j := by omega
                  exact hr)
              generalize mulAt L d (L[j]?.getD 0) = c at *
              generalize cdV (codeOf d ^^^ codeOf (L[j]?.getD 0)) = z at *
              generalize decide (cdN (codeOf d ^^^ codeOf (L[j]?.getD 0)) ≤ 1000000) = ok at *
              have H1 := Lib.hid hP
              have H2 := Lib.hid hC
              clear hP hC hm HN e' x1 x2 x3 y1 y2 y3 he
              generalize L[j]?.getD 0 = y at *
              cases ok
              · have hn := HX.out (hB rfl)
                go_wp2_with fail
                refine (H1.out _).mono ?_
                rintro e w1 ⟨rfl, hb1⟩
                have hb2 := below_step hb1 hb.size hb
                go_wp2
                go_ret
                exact ⟨by rw [hn]; rfl, hb2⟩
              · clear hB
                go_wp2_with fail
                refine (H1.out _).mono ?_
                rintro e w1 ⟨rfl, hb1⟩
                have hb2 := below_step hb1 hb.size hb
                go_wp2_with fail
                refine (H2.out _ hb2).mono ?_
                rintro e w2 ⟨rfl, kq, rfl⟩
                have hb3 := below_drewN hb2 kq
                cases c
                · have hn := HX.out rfl
                  go_wp2
                  go_ret
                  exact ⟨by rw [hn]; rfl, hb3⟩
                · go_wp2
                  go_roundw
                  case rel => exact ⟨j + 1, by omega, by go_num, hb3, Lib.hid (HS2.out (by trivial))⟩
                  case measure => simp [intOf]; omega
            · obtain rfl : j = L.length := by omega
              have HS' := Lib.hid (HS.out HN.out)
              go_wp2
              go_roundw
              case rel => exact ⟨k + 1, by omega, by go_num, hb, HS'⟩
              case measure => simp [intOf]; omega
        · obtain rfl : k = L.length := by omega
          have hn := HG2.out (muls_yes HN.out)
          go_wp2
          go_ret
          exact ⟨by rw [hn]; rfl, hb⟩
theorem cls_in {x : Int} (h : clB x = true) : inB x (-1000000) 1000000 = true := by
  unfold clB at h
  rw [Bool.and_eq_true] at h
  exact h.1
set_option maxHeartbeats 2000000 in
theorem c_dsIsGroup (L : List Int) (v : Value) (hL : L.length ≤ 100) (hc : ∀ x ∈ L, ClsV x) (w : World) (h : RdI w v L) :
    Calls Tryz.prog 38 #[v] w fun e w' => e = .returned (.bool (gpB L)) ∧ Below w.heap.size w w' := by
  have hR := h
  obtain ⟨a, cap, rfl, hf⟩ := h
  have HF := Lib.hid hf
  have HC := Lib.hid hc
  have HH := Lib.hid (fun (n : Int) (W : World) (hb : Below w.heap.size w W) => c_l1Has L n _ (by omega) W (hR.below hb))
  have H0 := Lib.hid (c_dsList L 64 _ hL hc w hR)
  have HRis := Lib.hid (fun (W : World) (hb : Below w.heap.size w W) (ha : ∀ x ∈ L, inB x (-1000000) 1000000 = true) => c_l1Rising L (-1000000) 1000000 _ hL ha W (hR.below hb))
  clear hf hc hR
  cases h0 : (L.all clB && inB L.length 1 64)
  · have hg : gpB L = false := by
      rw [Bool.and_eq_false_iff] at h0
      rcases h0 with h0 | h0
      · exact gp3 h0
      · exact gp1 h0
    rw [h0] at H0
    go_enter Tryz.func38, Tryz.ntmps38
    go_wp2_with fail
    refine H0.out.mono ?_
    rintro e w1 ⟨rfl, hb1⟩
    go_wp2
    go_ret
    exact ⟨by rw [hg]; rfl, hb1⟩
  rw [h0] at H0
  rw [Bool.and_eq_true] at h0
  have ha := fun x hx => cls_in (List.all_eq_true.1 h0.1 x hx)
  have HRs := Lib.hid (fun W hb => HRis.out W hb ha)
  clear HRis ha
  cases hr : risB L
  · have hg := gp4 hr
    rw [hr] at HRs
    go_enter Tryz.func38, Tryz.ntmps38
    go_wp2_with fail
    refine H0.out.mono ?_
    rintro e w1 ⟨rfl, hb1⟩
    go_wp2_with fail
    refine (HRs.out _ hb1).mono ?_
    rintro e _ ⟨rfl, rfl⟩
    go_wp2
    go_ret
    exact ⟨by rw [hg]; rfl, hb1⟩
  rw [hr] at HRs
  cases h2 : hasB 1 L
  · have hg := gp2 h2
    have H2 := Lib.hid (fun W hb => HH.out 1 W hb)
    rw [h2] at H2
    go_enter Tryz.func38, Tryz.ntmps38
    go_wp2_with fail
    refine H0.out.mono ?_
    rintro e w1 ⟨rfl, hb1⟩
    go_wp2_with fail
    refine (HRs.out _ hb1).mono ?_
    rintro e _ ⟨rfl, rfl⟩
    go_wp2_with fail
    refine (H2.out _ hb1).mono ?_
    rintro e _ ⟨rfl, rfl⟩
    go_wp2
    go_ret
    exact ⟨by rw [hg]; rfl, hb1⟩
  have H2 := Lib.hid (fun W hb => HH.out 1 W hb)
  rw [h2] at H2
  have HG2 := Lib.hid (fun c => @gp6 L h0.2 h2 h0.1 hr c)
  have HA := Lib.hid (fun x hx => code_of (HC.out x hx) (List.all_eq_true.1 h0.1 x hx))
  clear h0 h2 hr HC
  go_enter Tryz.func38, Tryz.ntmps38
  go_wp2_with fail
  refine H0.out.mono ?_
  rintro e w1 ⟨rfl, hb1⟩
  go_wp2_with fail
  refine (HRs.out _ hb1).mono ?_
  rintro e _ ⟨rfl, rfl⟩
  go_wp2_with fail
  refine (H2.out _ hb1).mono ?_
  rintro e w1 ⟨rfl, rfl⟩
  clear H0 HRs H2
  go_wp2
  go_loopw [22] (fun i wr => ∃ k : Nat, k ≤ L.length ∧ i = .int .i64 k ∧ Below w.heap.size w wr ∧ Hid (∀ i, i < k → ∀ j, j < L.length → mulAt L (L[i]?.getD 0) (L[j]?.getD 0) = true)) (fun i _ => L.length - (intOf i).toNat)
  case atStart => exact ⟨0, Nat.zero_le _, rfl, hb1, Lib.hid (fun i hi => by omega)⟩
  case round =>
    obtain ⟨k, hk, rfl, hb, HN⟩ := hrel
    by_cases hlt : k < L.length
    · obtain ⟨g, o, rfl, q, hg⟩ := HF.out k hlt
      replace q := (hb.cell (p := ⟨g, o + k, none⟩) hg).trans q
      have i0 : (0 : Int) ≤ (k : Int) := by omega
      have i1 : (k : Int) < (L.length : Int) := by omega
      have hd := getD_mem L hlt
      have HD := Lib.hid (HA.out _ hd)
      have HD2 := Lib.hid hd
      have HS : Hid ((∀ j, j < L.length → mulAt L (L[k]?.getD 0) (L[j]?.getD 0) = true) → ∀ i, i < k + 1 → ∀ j, j < L.length → mulAt L (L[i]?.getD 0) (L[j]?.getD 0) = true) := Lib.hid (fun hr i hi => by
        rcases Nat.lt_or_ge i k with h1 | h1
        · exact HN.out i h1
        · obtain rfl : i = k := by omega
          exact hr)
      clear HN hd
      generalize L[k]?.getD 0 = d at *
      go_wp2
      go_loopw [28] (fun i wr => ∃ j : Nat, j ≤ L.length ∧ i = .int .i64 j ∧ Below w.heap.size w wr ∧ Hid (∀ i, i < j → mulAt L d (L[i]?.getD 0) = true)) (fun i _ => L.length - (intOf i).toNat)
      case atStart => exact ⟨0, Nat.zero_le _, rfl, hb, Lib.hid (fun i hi => by omega)⟩
      case round =>
        clear hb q
        obtain ⟨j, hj, rfl, hb, HN⟩ := hrel
        by_cases hlt2 : j < L.length
        · obtain ⟨g', o', e', q, _⟩ := HF.out j hlt2
          obtain ⟨rfl, rfl⟩ : g = g' ∧ o = o' := by simpa using e'
          replace q := (hb.cell (p := ⟨g, o + j, none⟩) hg).trans q
          have j0 : (0 : Int) ≤ (j : Int) := by omega
          have j1 : (j : Int) < (L.length : Int) := by omega
          have he := getD_mem L hlt2
          obtain ⟨x1, x2, x3⟩ := HD.out
          obtain ⟨y1, y2, y3⟩ := HA.out _ he
          have hP := fun W => c_dsProduct (codeOf d) (codeOf (L[j]?.getD 0)) x3 y3 W
          rw [← x2, ← y2] at hP
          have hC := fun W hW => HH.out (cdV (codeOf d ^^^ codeOf (L[j]?.getD 0))) W hW
          have hm : hasB (cdV (codeOf d ^^^ codeOf (L[j]?.getD 0))) L = mulAt L d (L[j]?.getD 0) := by rw [mulAt]
          rw [hm] at hC
          have HX := Lib.hid (fun h => gp5 (muls_no HD2.out he h))
          have HS2 : Hid (mulAt L d (L[j]?.getD 0) = true → ∀ i, i < j + 1 → mulAt L d (L[i]?.getD 0) = true) := Lib.hid (fun hr i hi => by
            rcases Nat.lt_or_ge i j with h1 | h1
            · exact HN.out i h1
            · obtain rfl : i = j := by omega
              exact hr)
          generalize mulAt L d (L[j]?.getD 0) = c at *
          generalize cdV (codeOf d ^^^ codeOf (L[j]?.getD 0)) = z at *
          have H1 := Lib.hid hP
          have H2 := Lib.hid hC
          clear hP hC hm HN e' x1 x2 x3 y1 y2 y3 he
          generalize L[j]?.getD 0 = y at *
          go_wp2_with fail
          refine (H1.out _).mono ?_
          rintro e w1 ⟨rfl, kq, rfl⟩
          have hb3 := below_drewN hb kq
          go_wp2_with fail
          refine (H2.out _ hb3).mono ?_
          rintro e w2 ⟨rfl, rfl⟩
          cases c
          · have hn := HX.out rfl
            go_wp2
            go_ret
            exact ⟨by rw [hn]; rfl, hb3⟩
          · go_wp2
            go_roundw
            case rel => exact ⟨j + 1, by omega, by go_num, hb3, Lib.hid (HS2.out (by trivial))⟩
            case measure => simp [intOf]; omega
        · obtain rfl : j = L.length := by omega
          have HS' := Lib.hid (HS.out HN.out)
          go_wp2
          go_roundw
          case rel => exact ⟨k + 1, by omega, by go_num, hb, HS'⟩
          case measure => simp [intOf]; omega
    · obtain rfl : k = L.length := by omega
      have hn := HG2.out (muls_yes HN.out)
      go_wp2
      go_ret
      exact ⟨by rw [hn]; rfl, hb⟩
end Go.Proofs.YtbmcabphjfpkhaaGreat
