/- Walks: the twist of a log. -/
import Derived.Test.YtmahgnmacakfnaaTolPlain
import Derived.Test.YtmahgnmacakfnaaGcd
import Derived.Test.YtmahgnmacakfnaaShort
namespace Go.Proofs.Ytmahgnmacakfnaa
open Go.RowKit

set_option maxHeartbeats 1000000 in
theorem c_tlFree (x r : Int) (h : Nat) (hx : x = r * ((h : Int) * h)) (H : TlR r h 2) (hb : -200000000000 ≤ x ∧ x ≤ 200000000000) (w : World) :
    Calls Try.prog 45 #[.int .i64 x] w fun e w' => e = .returned (.int .i64 r) ∧ w = w' := by
  have HX := Lib.hid hx
  have HH := Lib.hid H
  clear hx H
  go_enter Try.func45, Try.ntmps45
  go_wp2
  go_loop [0, 3] (fun xx kk => ∃ (y : Int) (k g : Nat), xx = .int .i64 y ∧ kk = .int .i64 k ∧ (2 ≤ k ∧ k ≤ 31) ∧ (-200000000000 ≤ y ∧ y ≤ 200000000000) ∧ Hid (y = r * ((g : Int) * g)) ∧ Hid (TlR r g k)) (fun _ kk => 31 - (intOf kk).toNat)
  case atStart => exact ⟨x, 2, h, rfl, by go_num, by omega, hb, HX, HH⟩
  case round =>
    clear HX HH hb
    obtain ⟨y, k, g, rfl, rfl, hk, hy, HX, HH⟩ := hrel
    by_cases hlt : k ≤ 30
    · have hkk : (4 : Int) ≤ (k : Int) * k ∧ (k : Int) * k ≤ 900 := ⟨by have := Int.mul_le_mul (show (2 : Int) ≤ k by omega) (show (2 : Int) ≤ k by omega) (by omega) (by omega); omega, by have := Int.mul_le_mul (show (k : Int) ≤ 30 by omega) (show (k : Int) ≤ 30 by omega) (by omega) (by omega); omega⟩
      go_wp2
      go_loop [0] (fun xx => ∃ (y : Int) (g : Nat), xx = .int .i64 y ∧ (-200000000000 ≤ y ∧ y ≤ 200000000000) ∧ Hid (y = r * ((g : Int) * g)) ∧ Hid (TlR r g k)) (fun xx => (intOf xx).natAbs)
      case atStart => exact ⟨y, g, rfl, hy, HX, HH⟩
      case round =>
        clear HX HH hy
        obtain ⟨y, g, rfl, hy, HX, HH⟩ := hrel
        have HL := Lib.hid (HH.out.less HX.out hk.1)
        by_cases hd : y.tmod ((k : Int) * k) = 0
        · obtain ⟨g1, g2, g3⟩ := HH.out.yes hk.1 (by rw [← HX.out]; exact hd)
          rw [← HX.out] at g3
          have HX2 := Lib.hid g3
          have HH2 := Lib.hid g1
          have hd' : (y.tmod ((k : Int) * k) == 0) = true := by simpa using hd
          have hyy : -200000000000 ≤ y.tdiv ((k : Int) * k) ∧ y.tdiv ((k : Int) * k) ≤ 200000000000 := by have := HL.out; omega
          clear hd g1 g2 g3 HX HH
          go_wp2
          go_round
          case rel => exact ⟨_, _, rfl, hyy, HX2, HH2⟩
          case measure => simpa [intOf] using HL.out
        · have HH2 := Lib.hid (HH.out.no hk.1 (by rw [← HX.out]; exact hd))
          have hd' : (y.tmod ((k : Int) * k) == 0) = false := by simpa using hd
          clear hd
          go_wp2
          go_round
          case rel => exact ⟨y, k + 1, g, rfl, by go_num, by omega, hy, HX, HH2⟩
          case measure => simp [intOf]; omega
    · obtain rfl : k = 31 := by omega
      have hg := HH.out.end
      have hyr : y = r := by have := HX.out; rw [hg] at this; simpa using this
      subst hyr
      clear hg HX HH
      go_wp2
      go_ret
      exact ⟨rfl, rfl⟩
noncomputable def toO (L : List (Int × Int)) : Bool := logB L && inB (tolL L) (-1000000) 1000000
noncomputable def toV (L : List (Int × Int)) : Int := if toO L then tolL L else 0
theorem stepB_tw {k v : Int} (h : stepB k v = true) : k = 0 ∨ k = 1 ∨ ((k = 2 ∨ k = 3) ∧ Tw30 v ∧ v.natAbs ≤ 30) := by
  rcases stepB_cases h with ⟨h, _⟩ | ⟨h, _⟩ | ⟨h, h2, _⟩ | ⟨h, h2, _⟩
  · exact .inl h
  · exact .inr (.inl h)
  · exact .inr (.inr ⟨.inl h, tw30_of h2⟩)
  · exact .inr (.inr ⟨.inr h, tw30_of h2⟩)
theorem toE0 {L : List (Int × Int)} (h : toO L = false) : Ending.returned (.tuple #[.int .i64 0, .bool false]) = .returned (.tuple #[.int .i64 (toV L), .bool (toO L)]) := by unfold toV; rw [h]; rfl
theorem toE1 {L : List (Int × Int)} {D : Int} (h : toO L = true) (hd : D = tolL L) : Ending.returned (.tuple #[.int .i64 D, .bool true]) = .returned (.tuple #[.int .i64 (toV L), .bool (toO L)]) := by unfold toV; rw [h, hd]; rfl
theorem toO0 {L : List (Int × Int)} (h : logB L = false) : toO L = false := by unfold toO; rw [h]; rfl
theorem toO1 {L : List (Int × Int)} {D : Int} (h : logB L = true) (hd : D = tolL L) : toO L = inB D (-1000000) 1000000 := by unfold toO; rw [h, hd]; rfl
set_option maxHeartbeats 1000000 in
theorem c_sTwistOfLog (base : Nat) (v : Value) (L : List (Int × Int)) (hL : L.length ≤ 100000000) (w : World) (hown : OwnsS w base v L) :
    Calls Try.prog 12 #[v] w fun e w' => e = .returned (.tuple #[.int .i64 (toV L), .bool (toO L)]) ∧ Below w.heap.size w w' := by
  cases h0 : logB L
  · have HO := Lib.hid (toO0 h0)
    have H0 := Lib.hid (c_tlLog base v L hL)
    rw [h0] at H0
    go_enter Try.func12, Try.ntmps12
    go_wp2_with ((go_at_call 44; refine (H0.out _ hown).mono ?_; rintro e w1 ⟨rfl, hb1⟩; obtain ⟨hc1, hf1⟩ := bcell hb1; have hz1 := hb1.size; (try simp only [World.size_alloc] at hz1); (try (have hy1 : w.heap.size < w1.heap.size := by omega)); (try (have hx1 := Nat.lt_of_succ_le hz1)); (try (have hv1 := Nat.lt_of_succ_le (Nat.le_of_lt hx1)))))
    go_ret2
    refine ⟨toE0 HO.out, ?_⟩
    (repeat' (first | (with_reducible exact Below.refl _ _) | (with_reducible refine below_step (by assumption) ?_ ?_) | (with_reducible refine Below.alloc ?_ ?_ _) | (with_reducible refine Below.setCell ?_ ?_ _) | (with_reducible refine below_drewN ?_ _) | (with_reducible refine Below.drew ?_) | omega | (simp; omega) | (simp; done)))
  · have H0 := Lib.hid (c_tlLog base v L hL)
    rw [h0] at H0
    obtain ⟨hl, hst⟩ := logB_of h0
    have HO : Hid (∀ D : Int, D = tolL L → toO L = inB D (-1000000) 1000000) := fun D hd => toO1 h0 hd
    have HK : Hid (∀ k (hk : k < L.length), stepB L[k].1 L[k].2 = true) := hst
    clear hst h0
    go_enter Try.func12, Try.ntmps12
    go_wp2_with fail
    (go_at_call 44; refine (H0.out _ hown).mono ?_; rintro e w1 ⟨rfl, hb1⟩; obtain ⟨hc1, hf1⟩ := bcell hb1; have hz1 := hb1.size; (try simp only [World.size_alloc] at hz1); (try (have hy1 : w.heap.size < w1.heap.size := by omega)); (try (have hx1 := Nat.lt_of_succ_le hz1)); (try (have hv1 := Nat.lt_of_succ_le (Nat.le_of_lt hx1))))
    obtain ⟨a, cap, rfl, hform⟩ := OwnsP.form (OwnsP.below hown hb1)
    have HF := Lib.hid hform
    clear hform hown H0
    have hw1 := hb1.size
    go_wp2
    go_loopw [4, 12] (fun d i wr => ∃ (k : Nat) (D : Int), k ≤ L.length ∧ i = .int .i64 k ∧ d = .int .i64 D ∧ Hid (D = tolL (L.take k)) ∧ Hid (Tw30 D) ∧ Below w1.heap.size w1 wr) (fun _ i _ => L.length - (intOf i).toNat)
    case atStart => exact ⟨0, 1, Nat.zero_le _, rfl, rfl, rfl, Tw30.one, Below.refl _ _⟩
    case round =>
      obtain ⟨k, D, hk, rfl, rfl, HD, HT, hbr⟩ := hrel
      have hzr := hbr.size
      by_cases hlt : k < L.length
      · obtain ⟨g, rfl, q1, q2, _, hg, _⟩ := HF.out k hlt
        have d1 : wr.cell? ⟨g, k * 2, none⟩ = _ := (hbr.cell (p := ⟨g, k * 2, none⟩) hg).trans q1
        have d2 : wr.cell? ⟨g, k * 2 + 1, none⟩ = _ := (hbr.cell (p := ⟨g, k * 2 + 1, none⟩) hg).trans q2
        have hx := stepB_tw (HK.out k hlt)
        have HS : Hid (tolL (L.take (k + 1)) = tolF D L[k]) := by show _ = _; rw [tolL_take L hlt, HD.out]
        have hT := HT.out.bd
        clear q1 q2
        generalize L[k] = c at d1 d2 hx HS
        obtain ⟨x, y⟩ := c
        simp only at d1 d2 hx
        have hA := (Below.refl wr.heap.size wr).alloc (Nat.le_refl _) (.cells #[.int .i64 x, .int .i64 y] 38)
        have hb3 := below_step hA hzr hbr
        rcases hx with rfl | rfl | ⟨hx, hv, hv30⟩
        · have HE : Hid (D = tolL (L.take (k + 1))) := HS.out.symm
          go_wp2
          go_roundw
          case rel => exact ⟨k + 1, D, by omega, by go_num, rfl, HE, HT, hb3⟩
          case measure => simp [intOf]; omega
        · have HE : Hid (D = tolL (L.take (k + 1))) := HS.out.symm
          go_wp2
          go_roundw
          case rel => exact ⟨k + 1, D, by omega, by go_num, rfl, HE, HT, hb3⟩
          case measure => simp [intOf]; omega
        · obtain ⟨t1, G, _, t2, t3⟩ := Tw30.step HT.out hv hv30
          have HT2 := Lib.hid t1
          have HC : Hid (∀ w, _) := fun w => c_tlFree (D * y) _ G t2 t3 (by have := mulb (x := D) (y := y) 6469693230 30 (by omega) (by omega); omega) w
          have hmul := mulb (x := D) (y := y) 6469693230 30 (by omega) (by omega)
          have HE : Hid (tlStep D y = tolL (L.take (k + 1))) := by show _ = _; rw [HS.out]; unfold tolF; rw [if_pos hx]
          clear t1 t2 t3 hv HS HD HT
          generalize tlStep D y = R at HT2 HC HE
          rcases hx with rfl | rfl
          all_goals
            go_wp2_with (go_at_call 45; refine (HC.out _).mono ?_; rintro e w' ⟨rfl, rfl⟩)
            go_roundw
            case rel => exact ⟨k + 1, R, by omega, by go_num, rfl, HE, HT2, hb3⟩
            case measure => simp [intOf]; omega
      · obtain rfl : k = L.length := by omega
        rw [List.take_length] at HD
        have hbl : Below w.heap.size w wr := below_step hbr hw1 hb1
        have HP := Lib.hid (HO.out D HD.out)
        have HCI : Hid (∀ w, _) := fun w => c_l1In D (-1000000) 1000000 w
        cases hin : inB D (-1000000) 1000000
        · rw [hin] at HCI HP
          clear hin
          go_wp2_with (go_at_call 46; refine (HCI.out _).mono ?_; rintro e w' ⟨rfl, rfl⟩)
          go_ret2
          exact ⟨toE0 HP.out, hbl⟩
        · rw [hin] at HCI HP
          clear hin
          go_wp2_with (go_at_call 46; refine (HCI.out _).mono ?_; rintro e w' ⟨rfl, rfl⟩)
          go_ret2
          exact ⟨toE1 HP.out HD.out, hbl⟩
set_option maxHeartbeats 1000000 in
theorem c_iTwistOfLog (base : Nat) (v : Value) (L : List (Int × Int)) (hL : L.length ≤ 100000000) (w : World) (hown : OwnsS w base v L) :
    Calls Try.prog 14 #[v] w fun e w' => e = .returned (.tuple #[.int .i64 (toV L), .bool (toO L)]) ∧ Below w.heap.size w w' := by
  cases h0 : logB L
  · have HO := Lib.hid (toO0 h0)
    have H0 := Lib.hid (c_isLog base v L hL)
    rw [h0] at H0
    go_enter Try.func14, Try.ntmps14
    go_wp2_with ((go_at_call 47; refine (H0.out _ hown).mono ?_; rintro e w1 ⟨rfl, hb1⟩; obtain ⟨hc1, hf1⟩ := bcell hb1; have hz1 := hb1.size; (try simp only [World.size_alloc] at hz1); (try (have hy1 : w.heap.size < w1.heap.size := by omega)); (try (have hx1 := Nat.lt_of_succ_le hz1)); (try (have hv1 := Nat.lt_of_succ_le (Nat.le_of_lt hx1)))))
    go_ret2
    refine ⟨toE0 HO.out, ?_⟩
    (repeat' (first | (with_reducible exact Below.refl _ _) | (with_reducible refine below_step (by assumption) ?_ ?_) | (with_reducible refine Below.alloc ?_ ?_ _) | (with_reducible refine Below.setCell ?_ ?_ _) | (with_reducible refine below_drewN ?_ _) | (with_reducible refine Below.drew ?_) | omega | (simp; omega) | (simp; done)))
  · have H0 := Lib.hid (c_isLog base v L hL)
    rw [h0] at H0
    obtain ⟨hl, hst⟩ := logB_of h0
    have HO : Hid (∀ D : Int, D = tolL L → toO L = inB D (-1000000) 1000000) := fun D hd => toO1 h0 hd
    have HK : Hid (∀ k (hk : k < L.length), stepB L[k].1 L[k].2 = true) := hst
    clear hst h0
    go_enter Try.func14, Try.ntmps14
    go_wp2_with fail
    (go_at_call 47; refine (H0.out _ hown).mono ?_; rintro e w1 ⟨rfl, hb1⟩; obtain ⟨hc1, hf1⟩ := bcell hb1; have hz1 := hb1.size; (try simp only [World.size_alloc] at hz1); (try (have hy1 : w.heap.size < w1.heap.size := by omega)); (try (have hx1 := Nat.lt_of_succ_le hz1)); (try (have hv1 := Nat.lt_of_succ_le (Nat.le_of_lt hx1))))
    obtain ⟨a, cap, rfl, hform⟩ := OwnsP.form (OwnsP.below hown hb1)
    have HF := Lib.hid hform
    clear hform hown H0
    have hw1 := hb1.size
    go_wp2
    go_loopw [4, 13] (fun d i wr => ∃ (k : Nat) (D : Int), k ≤ L.length ∧ i = .int .i64 k ∧ d = .int .i64 D ∧ Hid (D = tolL (L.take k)) ∧ Hid (Tw30 D) ∧ Below w1.heap.size w1 wr) (fun _ i _ => L.length - (intOf i).toNat)
    case atStart => exact ⟨0, 1, Nat.zero_le _, rfl, rfl, rfl, Tw30.one, Below.refl _ _⟩
    case round =>
      obtain ⟨k, D, hk, rfl, rfl, HD, HT, hbr⟩ := hrel
      have hzr := hbr.size
      by_cases hlt : k < L.length
      · obtain ⟨g, rfl, q1, q2, _, hg, _⟩ := HF.out k hlt
        have d1 : wr.cell? ⟨g, k * 2, none⟩ = _ := (hbr.cell (p := ⟨g, k * 2, none⟩) hg).trans q1
        have d2 : wr.cell? ⟨g, k * 2 + 1, none⟩ = _ := (hbr.cell (p := ⟨g, k * 2 + 1, none⟩) hg).trans q2
        have hx := stepB_tw (HK.out k hlt)
        have HS : Hid (tolL (L.take (k + 1)) = tolF D L[k]) := by show _ = _; rw [tolL_take L hlt, HD.out]
        have hT := HT.out.bd
        clear q1 q2
        generalize L[k] = c at d1 d2 hx HS
        obtain ⟨x, y⟩ := c
        simp only at d1 d2 hx
        have hA := (Below.refl wr.heap.size wr).alloc (Nat.le_refl _) (.cells #[.int .i64 x, .int .i64 y] 38)
        have hb3 := below_step hA hzr hbr
        rcases hx with rfl | rfl | ⟨hx, hv, hv30⟩
        · have HE : Hid (D = tolL (L.take (k + 1))) := HS.out.symm
          go_wp2
          go_roundw
          case rel => exact ⟨k + 1, D, by omega, by go_num, rfl, HE, HT, hb3⟩
          case measure => simp [intOf]; omega
        · have HE : Hid (D = tolL (L.take (k + 1))) := HS.out.symm
          go_wp2
          go_roundw
          case rel => exact ⟨k + 1, D, by omega, by go_num, rfl, HE, HT, hb3⟩
          case measure => simp [intOf]; omega
        · obtain ⟨t1, G, ⟨g1, g2, g3⟩, _, _⟩ := Tw30.step HT.out hv hv30
          have HT2 := Lib.hid t1
          have hvb := hv.bd
          have HE : Hid (tlStep D y = tolL (L.take (k + 1))) := by show _ = _; rw [HS.out]; unfold tolF; rw [if_pos hx]
          have HRB := Lib.hid t1.bd
          have HC : Hid (∀ w, _) := fun w => c_gcd D y (by omega) (by omega) w
          have e1 : gcdI D y = (G : Int) := by unfold gcdI; rw [g1]
          have e2 : tlStep D y = D.tdiv G * y.tdiv G := by unfold tlStep; rw [g1]
          rw [e1] at HC
          rw [e2] at HE HT2 HRB
          have hGz : ((G : Int) == 0) = false := by simp; omega
          have b1 : (D.tdiv (G : Int)).natAbs ≤ D.natAbs := by rw [Int.natAbs_tdiv]; exact Nat.div_le_self _ _
          have b2 : (y.tdiv (G : Int)).natAbs ≤ y.natAbs := by rw [Int.natAbs_tdiv]; exact Nat.div_le_self _ _
          have k1 : IntKind.i64.wrap (D.tdiv (G : Int)) = D.tdiv (G : Int) := IntWalk.i64_in _ (by omega)
          have k2 : IntKind.i64.wrap (y.tdiv (G : Int)) = y.tdiv (G : Int) := IntWalk.i64_in _ (by omega)
          have k3 : IntKind.i64.wrap (D.tdiv (G : Int) * y.tdiv (G : Int)) = D.tdiv (G : Int) * y.tdiv (G : Int) := IntWalk.i64_in _ (by have := HRB.out; omega)
          have kS := Blk.new wr #[.int .i64 x, .int .i64 y] 38
          clear t1 hv HS HD HT e1 e2 g1 b1 b2
          rcases hx with rfl | rfl
          all_goals
            go_wp2_with (go_at_call 48; refine (HC.out _).mono ?_; rintro e w' ⟨rfl, kd, rfl⟩)
            have kW := kS.drewN kd
            have hbW := below_drewN hb3 kd
            generalize (wr.alloc _).drewN kd = W at *
            have c0 := kW.cell 0
            have c1 := kW.cell 1
            simp only [List.getElem?_toArray, List.getElem?_cons_zero, List.getElem?_cons_succ] at c0 c1
            have hlW := kW.lt
            (refine wp_region_clq (by kernel_rfl) (by kernel_rfl) ?_; (repeat (go_big_quiet_step (fail))); refine wpQuiet_nil ?_; intro w2 hb2; obtain ⟨hc2, hf2⟩ := bcell hb2; have hz2 := hb2.size; (try simp only [World.size_alloc] at hz2))
            have hb4 : Below w1.heap.size w1 w2 := below_step hb2 hbW.size hbW
            go_wp2
            go_roundw
            case rel => exact ⟨k + 1, _, by omega, by go_num, rfl, HE, HT2, hb4⟩
            case measure => simp [intOf]; omega
      · obtain rfl : k = L.length := by omega
        rw [List.take_length] at HD
        have hbl : Below w.heap.size w wr := below_step hbr hw1 hb1
        have HP := Lib.hid (HO.out D HD.out)
        have HCI : Hid (∀ w, _) := fun w => c_inside D (-1000000) 1000000 w
        cases hin : inB D (-1000000) 1000000
        · rw [hin] at HCI HP
          clear hin
          go_wp2_with (go_at_call 49; refine (HCI.out _).mono ?_; rintro e w' ⟨rfl, rfl⟩)
          go_ret2
          exact ⟨toE0 HP.out, hbl⟩
        · rw [hin] at HCI HP
          clear hin
          go_wp2_with (go_at_call 49; refine (HCI.out _).mono ?_; rintro e w' ⟨rfl, rfl⟩)
          go_ret2
          exact ⟨toE1 HP.out HD.out, hbl⟩
set_option maxHeartbeats 4000000 in
theorem walk_FnExactTwistOfLog (v : Value) (L : List (Int × Int)) (_ : ∀ c ∈ L, (Lit.int .i64 c.1).wf = true ∧ (Lit.int .i64 c.2).wf = true) (w : World) (o : RdP w v L) :
    Calls Try.prog 3 #[v] w fun e w' => e = .returned (.bool true) ∧ Below w.heap.size w w' := by
  have h0 := c_szStepS v L w o
  by_cases hL : L.length ≤ 1048576
  · rw [if_pos hL] at h0
    have hs : (0 : Int) ≤ 1048576 - L.length := by omega
    have h1 := fun base u W => c_sTwistOfLog base u L (by omega) W
    have h2 := fun base u W => c_iTwistOfLog base u L (by omega) W
    generalize toV L = R at h1 h2
    generalize toO L = b at h1 h2
    have H0 := Lib.hid h0
    have H1 := Lib.hid h1
    have H2 := Lib.hid h2
    have HO := Lib.hid o
    clear h0 h1 h2 o
    generalize hz : (1048576 - L.length : Int) = z at H0 hs
    clear hz
    cases b
    all_goals
      go_enter Try.func3, Try.ntmps3
      go_wp2_with fail
      refine H0.out.mono ?_
      rintro e w' ⟨rfl, rfl⟩
      go_wp2_with fail
      refine (c_toStepS v L hL _ (RdP.belowN HO.out (by (repeat' (first | (with_reducible exact Below.refl _ _) | (with_reducible refine below_step (by assumption) ?_ ?_) | (with_reducible refine Below.alloc ?_ ?_ _) | (with_reducible refine Below.setCell ?_ ?_ _) | (with_reducible refine below_drewN ?_ _) | (with_reducible refine Below.drew ?_) | omega | (simp; omega) | (simp; done)))))).mono ?_
      rintro e w1 ⟨u1, rfl, a1, hb1⟩
      have bb1 : Below w.heap.size w w1 := by (repeat' (first | (with_reducible exact Below.refl _ _) | (with_reducible refine below_step (by assumption) ?_ ?_) | (with_reducible refine Below.alloc ?_ ?_ _) | (with_reducible refine Below.setCell ?_ ?_ _) | (with_reducible refine below_drewN ?_ _) | (with_reducible refine Below.drew ?_) | omega | (simp; omega) | (simp; done)))
      go_wp2_with fail
      refine (H1.out _ _ _ a1).mono ?_
      rintro e w2 ⟨rfl, hb2⟩
      have bb2 : Below w.heap.size w w2 := below_step hb2 bb1.size bb1
      go_wp2_with fail
      refine (c_toStepS v L hL _ (RdP.belowN HO.out (by (repeat' (first | (with_reducible exact Below.refl _ _) | (with_reducible refine below_step (by assumption) ?_ ?_) | (with_reducible refine Below.alloc ?_ ?_ _) | (with_reducible refine Below.setCell ?_ ?_ _) | (with_reducible refine below_drewN ?_ _) | (with_reducible refine Below.drew ?_) | omega | (simp; omega) | (simp; done)))))).mono ?_
      rintro e w3 ⟨u3, rfl, a3, hb3⟩
      have bb3 : Below w.heap.size w w3 := below_step hb3 bb2.size bb2
      go_wp2_with fail
      refine (H2.out _ _ _ a3).mono ?_
      rintro e w4 ⟨rfl, hb4⟩
      have bb4 : Below w.heap.size w w4 := below_step hb4 bb3.size bb3
      have a34 := OwnsP.below a3 hb4
      go_wp2_with fail
      refine (c_toStepS v L hL _ (RdP.belowN HO.out (by (repeat' (first | (with_reducible exact Below.refl _ _) | (with_reducible refine below_step (by assumption) ?_ ?_) | (with_reducible refine Below.alloc ?_ ?_ _) | (with_reducible refine Below.setCell ?_ ?_ _) | (with_reducible refine below_drewN ?_ _) | (with_reducible refine Below.drew ?_) | omega | (simp; omega) | (simp; done)))))).mono ?_
      rintro e w6 ⟨u6, rfl, a6, hb6⟩
      have bb6 : Below w.heap.size w w6 := below_step hb6 bb4.size bb4
      have a36 := OwnsP.below a34 hb6
      go_wp2_with fail
      refine (c_eqStepS _ _ _ _ L (by omega) _ a36 a6).mono ?_
      rintro e w7 ⟨rfl, hb7⟩
      have bb7 : Below w.heap.size w w7 := below_step hb7 bb6.size bb6
      go_wp2
      go_ret
      exact ⟨rfl, bb7⟩
  · rw [if_neg hL] at h0
    go_enter Try.func3, Try.ntmps3
    go_wp2_with fail
    refine h0.mono ?_
    rintro e w' ⟨rfl, rfl⟩
    go_wp2
    go_ret
    exact ⟨rfl, Below.refl _ _⟩
end Go.Proofs.Ytmahgnmacakfnaa
