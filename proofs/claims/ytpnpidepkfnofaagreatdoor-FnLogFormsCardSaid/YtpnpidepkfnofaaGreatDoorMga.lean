/- Several texts joined: Short Inv TolPlain Gcd Tol Prime Euler Table Twm Small FacList Fac Slog. -/
import Derived.Test.YtpnpidepkfnofaaGreatDoorUndo
import Derived.Test.YtpnpidepkfnofaaGreatDoorCls
import Derived.BigRegion
import Derived.Test.YtpnpidepkfnofaaGreatDoorTwist
import Derived.Test.YtpnpidepkfnofaaGreatDoorNum
import Derived.Deep.RegionHeld3
import Derived.BigQuiet
import Derived.Test.YtpnpidepkfnofaaGreatDoorCurve
import Derived.Test.YtpnpidepkfnofaaGreatDoorPlain
import Derived.Test.YtpnpidepkfnofaaGreatDoorSmallPlain
import Derived.Test.YtpnpidepkfnofaaGreatDoorList
import Derived.Test.YtpnpidepkfnofaaGreatDoorFacPlain
import Derived.Test.YtpnpidepkfnofaaGreatDoorPairS
/- Short -/
namespace Go.Proofs.YtpnpidepkfnofaaGreatDoor
open Go.RowKit

theorem stepB_k {k v : Int} (h : stepB k v = true) : k = 0 ∨ k = 1 ∨ k = 2 ∨ k = 3 := by
  rcases stepB_cases h with ⟨h, _⟩ | ⟨h, _⟩ | ⟨h, _⟩ | ⟨h, _⟩ <;> simp [h]
theorem undK_bd {x : Int} (h : x = 0 ∨ x = 1 ∨ x = 2 ∨ x = 3) : 0 ≤ undK x ∧ undK x ≤ 3 := by
  rcases h with rfl | rfl | rfl | rfl <;> decide
theorem OwnsP.short {T : TypeId} {wr : World} {base n cap i : Nat} {a : Option Addr} {M : List (Int × Int)} (ho : OwnsP T wr base (.slice a n cap) M) (hn : n = M.length) (hi : i < n) :
    OwnsP T wr base (.slice a i cap) (M.take i) := by
  subst hn
  refine ⟨by rw [cellsP_length], ?_⟩
  rcases ho.2 with ⟨h0, h1⟩ | ⟨g', cap', cur, hv, hg, hh, hnc, hcm, hcs, ht⟩
  · omega
  · have el : (M.take i).length = i := by simp; omega
    injection hv with e1 _ e3
    subst e1 e3
    refine .inr ⟨g', _, cur, by rw [el], hg, hh, by omega, hcm, hcs, ?_⟩
    rw [el, cellsP_take, ← ht, List.take_take, Nat.min_eq_left (by omega)]
theorem OwnsP.cap {T : TypeId} {wr : World} {base n cap : Nat} {a : Option Addr} {M : List (Int × Int)} (ho : OwnsP T wr base (.slice a n cap) M) : n ≤ cap := by
  rcases ho.2 with ⟨h0, _⟩ | ⟨g', cap', cur, hv, _, _, hnc, _⟩
  · simp only [Value.slice.injEq] at h0; omega
  · simp only [Value.slice.injEq] at hv; omega
noncomputable def shR (L : List (Int × Int)) : List (Int × Int) := if logB L then shL L else []
theorem shR_len (L : List (Int × Int)) : (shR L).length ≤ 20 := by
  unfold shR
  split
  · rename_i h
    have := (logB_of h).1
    have := shL_len L []
    unfold shL; simp at this; omega
  · simp
set_option maxHeartbeats 2000000 in
theorem c_sShorten (base : Nat) (v : Value) (L : List (Int × Int)) (hL : L.length ≤ 100000000) (w : World) (hown : OwnsS w base v L) :
    Calls Tryz.prog 9 #[v] w (ListPost 44 w (shR L) (logB L)) := by
  unfold shR
  cases h0 : logB L
  · have H0 := Lib.hid (c_tlLog base v L hL)
    rw [h0] at H0
    go_enter Tryz.func9, Tryz.ntmps9
    go_wp2_with ((go_at_call 30; refine (H0.out _ hown).mono ?_; rintro e w1 ⟨rfl, hb1⟩; obtain ⟨hc1, hf1⟩ := bcell hb1; have hz1 := hb1.size; (try simp only [World.size_alloc] at hz1); (try (have hy1 : w.heap.size < w1.heap.size := by omega)); (try (have hx1 := Nat.lt_of_succ_le hz1)); (try (have hv1 := Nat.lt_of_succ_le (Nat.le_of_lt hx1)))))
    go_ret2
    refine ⟨_, rfl, OwnsP.nil _ _ _, ?_⟩
    (repeat' (first | (with_reducible exact Below.refl _ _) | (with_reducible refine below_step (by assumption) ?_ ?_) | (with_reducible refine Below.alloc ?_ ?_ _) | (with_reducible refine Below.setCell ?_ ?_ _) | (with_reducible refine below_drewN ?_ _) | (with_reducible refine Below.drew ?_) | omega | (simp; omega) | (simp; done)))
  · rw [if_pos rfl]
    have H0 := Lib.hid (c_tlLog base v L hL)
    rw [h0] at H0
    obtain ⟨hl, hst⟩ := logB_of h0
    have HK : Hid (∀ k (hk : k < L.length), L[k].1 = 0 ∨ L[k].1 = 1 ∨ L[k].1 = 2 ∨ L[k].1 = 3) := fun k hk => stepB_k (hst k hk)
    clear hst h0
    go_enter Tryz.func9, Tryz.ntmps9
    go_wp2_with fail
    (go_at_call 30; refine (H0.out _ hown).mono ?_; rintro e w1 ⟨rfl, hb1⟩; obtain ⟨hc1, hf1⟩ := bcell hb1; have hz1 := hb1.size; (try simp only [World.size_alloc] at hz1); (try (have hy1 : w.heap.size < w1.heap.size := by omega)); (try (have hx1 := Nat.lt_of_succ_le hz1)); (try (have hv1 := Nat.lt_of_succ_le (Nat.le_of_lt hx1))))
    obtain ⟨a, cap, rfl, hform⟩ := OwnsP.form (OwnsP.below hown hb1)
    have HF := Lib.hid hform
    clear hform hown H0
    have hw1 := hb1.size
    go_wp2
    go_loopw [4, 13] (fun out i wr => ∃ k : Nat, k ≤ L.length ∧ i = .int .i64 k ∧ OwnsS wr w1.heap.size out (shL (L.take k)) ∧ Below w1.heap.size w1 wr) (fun _ i _ => L.length - (intOf i).toNat)
    case atStart => exact ⟨0, Nat.zero_le _, rfl, OwnsP.nil _ _ _, Below.refl _ _⟩
    case round =>
      obtain ⟨k, hk, rfl, ho, hbr⟩ := hrel
      have hzr := hbr.size
      by_cases hlt : k < L.length
      · obtain ⟨g, rfl, q1, q2, _, hg, _⟩ := HF.out k hlt
        have d1 : wr.cell? ⟨g, k * 2, none⟩ = _ := (hbr.cell (p := ⟨g, k * 2, none⟩) hg).trans q1
        have d2 : wr.cell? ⟨g, k * 2 + 1, none⟩ = _ := (hbr.cell (p := ⟨g, k * 2 + 1, none⟩) hg).trans q2
        have hx := HK.out k hlt
        have HS := Lib.hid (shL_take L hlt)
        have hml : (shL (L.take k)).length ≤ 20 := by
          have := shL_len (L.take k) []
          have := List.length_take_le k L
          simp at this; unfold shL; simp at *; omega
        clear q1 q2
        generalize L[k] = c at d1 d2 hx HS
        generalize shL (L.take k) = M at ho HS hml
        obtain ⟨x, y⟩ := c
        simp only at d1 d2 hx
        rcases Nat.eq_zero_or_pos M.length with hm | hm
        · obtain rfl : M = [] := List.eq_nil_of_length_eq_zero hm
          obtain ⟨a', cap', rfl, hf⟩ := OwnsP.form ho
          clear hf hm
          have kS := Blk.new wr #[.int .i64 x, .int .i64 y] 44
          have hB : Below wr.heap.size wr (wr.alloc (.cells #[.int .i64 x, .int .i64 y] 44)) := (Below.refl _ _).alloc (Nat.le_refl _) _
          have ho1 := OwnsP.below ho hB
          have HZ : Hid (shL (L.take (k + 1)) = [] ++ [(x, y)]) := by show _ = _; rw [HS.out, shS_nil]
          clear HS ho
          go_wp2
          generalize wr.alloc _ = W at *
          (refine wp_region_clq (by kernel_rfl) (by kernel_rfl) ?_; (repeat (go_big_quiet_step (fail))); refine wpQuiet_nil ?_; intro w2 hb2; obtain ⟨hc2, hf2⟩ := bcell hb2; have hz2 := hb2.size; (try simp only [World.size_alloc] at hz2))
          have ho2 := OwnsP.below ho1 hb2
          have k2 := kS.next hb2
          have hb3 : Below w1.heap.size w1 w2 := below_step hb2 (by have := hB.size; omega) (below_step hB hzr hbr)
          have hs3 := hb3.size
          have k20 : (w2).cell? ⟨wr.heap.size, 0, none⟩ = some (.int .i64 x) := k2.cell 0; have k21 : (w2).cell? ⟨wr.heap.size, 1, none⟩ = some (.int .i64 y) := k2.cell 1; have k2l : wr.heap.size < (w2).heap.size := k2.lt
          go_wp2_with (at_builtin; refine wpList_appS (p := (x, y)) rfl _ _ rfl w1.heap.size _ _ rfl ho2 rfl (by simp) hs3 ?_; intro v' w4 ho4 hb4 hg4)
          have hb5 := hb3.trans hb4
          go_wp2
          go_roundw
          case rel => exact ⟨k + 1, by omega, by go_num, by rw [HZ.out]; exact ho4, hb5⟩
          case measure => simp [intOf]; omega
        · obtain ⟨n, hn⟩ : ∃ n, M.length = n + 1 := ⟨M.length - 1, by omega⟩
          obtain ⟨a', cap', hv, hf⟩ := OwnsP.form ho
          rw [hn] at hv
          subst hv
          obtain ⟨g2, rfl, r1, r2, _, hg2, _⟩ := hf n (by omega)
          have HY : Hid (M[n] = und (x, y) → shL (L.take (k + 1)) = M.take n) := fun h => by rw [HS.out]; exact shS_yes _ hn h
          have HN : Hid (M[n] ≠ und (x, y) → shL (L.take (k + 1)) = M ++ [(x, y)]) := fun h => by rw [HS.out]; exact shS_no _ hn h
          have hshort := OwnsP.short (i := n) ho hn.symm (by omega)
          clear hf HS hm
          generalize M[n] = d at r1 r2 HY HN
          obtain ⟨x', y'⟩ := d
          simp only at r1 r2
          have kS := Blk.new wr #[.int .i64 x, .int .i64 y] 44
          have hB : Below wr.heap.size wr (wr.alloc (.cells #[.int .i64 x, .int .i64 y] 44)) := (Below.refl _ _).alloc (Nat.le_refl _) _
          have ho1 := OwnsP.below ho hB
          have hshort1 := OwnsP.below hshort hB
          have s1 := (hB.cell (p := ⟨g2, n * 2, none⟩) hg2).trans r1
          have s2 := (hB.cell (p := ⟨g2, n * 2 + 1, none⟩) hg2).trans r2
          have hg2' := Nat.lt_of_lt_of_le hg2 hB.size
          have hn20 : n + 1 ≤ 20 := by omega
          have hcap := OwnsP.cap ho
          have hM : M.length < 1000000000000 := by omega
          go_wp2
          clear r1 r2 ho hshort hn
          generalize wr.alloc _ = W at *
          have kS0 : (W).cell? ⟨wr.heap.size, 0, none⟩ = some (.int .i64 x) := kS.cell 0; have kS1 : (W).cell? ⟨wr.heap.size, 1, none⟩ = some (.int .i64 y) := kS.cell 1; have kSl : wr.heap.size < (W).heap.size := kS.lt
          have hxu := undK_bd hx
          by_cases e1 : x' = undK x
          · subst e1
            by_cases e2 : y' = y
            · subst e2
              have HE : Hid (_ = _) := HY.out rfl
              clear HY HN
              (refine wp_region_clq (by kernel_rfl) (by kernel_rfl) ?_; (repeat (go_big_quiet_step ((go_at_call 33; exact Calls.quiet_cls Closed.true _ (c_tlUndo _ _ hx _))))); refine wpQuiet_nil ?_; intro w2 hb2; obtain ⟨hc2, hf2⟩ := bcell hb2; have hz2 := hb2.size; (try simp only [World.size_alloc] at hz2))
              have ho2 := OwnsP.below hshort1 hb2
              have hb3 : Below w1.heap.size w1 w2 := below_step hb2 (by have := hB.size; omega) (below_step hB hzr hbr)
              go_wp2
              go_roundw
              case rel => exact ⟨k + 1, by omega, by go_num, by rw [HE.out]; exact ho2, hb3⟩
              case measure => simp [intOf]; omega
            · have e3 : (y' == y) = false := by simpa using e2
              have HE : Hid (_ = _) := HN.out (fun h => e2 (congrArg Prod.snd h))
              clear HY HN e2
              (refine wp_region_clq (by kernel_rfl) (by kernel_rfl) ?_; (repeat (go_big_quiet_step ((go_at_call 33; exact Calls.quiet_cls Closed.true _ (c_tlUndo _ _ hx _))))); refine wpQuiet_nil ?_; intro w2 hb2; obtain ⟨hc2, hf2⟩ := bcell hb2; have hz2 := hb2.size; (try simp only [World.size_alloc] at hz2))
              have ho2 := OwnsP.below ho1 hb2
              have k2 := kS.next hb2
              have hb3 : Below w1.heap.size w1 w2 := below_step hb2 (by have := hB.size; omega) (below_step hB hzr hbr)
              have hs3 := hb3.size
              have k20 : (w2).cell? ⟨wr.heap.size, 0, none⟩ = some (.int .i64 x) := k2.cell 0; have k21 : (w2).cell? ⟨wr.heap.size, 1, none⟩ = some (.int .i64 y) := k2.cell 1; have k2l : wr.heap.size < (w2).heap.size := k2.lt
              go_wp2_with (at_builtin; refine wpList_appS (p := (x, y)) rfl _ _ rfl w1.heap.size _ _ rfl ho2 rfl hM hs3 ?_; intro v' w4 ho4 hb4 hg4)
              have hb5 := hb3.trans hb4
              go_wp2
              go_roundw
              case rel => exact ⟨k + 1, by omega, by go_num, by rw [HE.out]; exact ho4, hb5⟩
              case measure => simp [intOf]; omega
          · have e3 : (x' == undK x) = false := by simpa using e1
            have HE : Hid (_ = _) := HN.out (fun h => e1 (congrArg Prod.fst h))
            clear HY HN e1
            (refine wp_region_clq (by kernel_rfl) (by kernel_rfl) ?_; (repeat (go_big_quiet_step ((go_at_call 33; exact Calls.quiet_cls Closed.true _ (c_tlUndo _ _ hx _))))); refine wpQuiet_nil ?_; intro w2 hb2; obtain ⟨hc2, hf2⟩ := bcell hb2; have hz2 := hb2.size; (try simp only [World.size_alloc] at hz2))
            have ho2 := OwnsP.below ho1 hb2
            have k2 := kS.next hb2
            have hb3 : Below w1.heap.size w1 w2 := below_step hb2 (by have := hB.size; omega) (below_step hB hzr hbr)
            have hs3 := hb3.size
            have k20 : (w2).cell? ⟨wr.heap.size, 0, none⟩ = some (.int .i64 x) := k2.cell 0; have k21 : (w2).cell? ⟨wr.heap.size, 1, none⟩ = some (.int .i64 y) := k2.cell 1; have k2l : wr.heap.size < (w2).heap.size := k2.lt
            go_wp2_with (at_builtin; refine wpList_appS (p := (x, y)) rfl _ _ rfl w1.heap.size _ _ rfl ho2 rfl hM hs3 ?_; intro v' w4 ho4 hb4 hg4)
            have hb5 := hb3.trans hb4
            go_wp2
            go_roundw
            case rel => exact ⟨k + 1, by omega, by go_num, by rw [HE.out]; exact ho4, hb5⟩
            case measure => simp [intOf]; omega
      · obtain rfl : k = L.length := by omega
        rw [List.take_length] at ho
        go_wp2
        go_ret2
        exact ⟨_, rfl, ho.le hw1, by (repeat' (first | (with_reducible exact Below.refl _ _) | (with_reducible refine below_step (by assumption) ?_ ?_) | (with_reducible refine Below.alloc ?_ ?_ _) | (with_reducible refine Below.setCell ?_ ?_ _) | (with_reducible refine below_drewN ?_ _) | (with_reducible refine Below.drew ?_) | omega | (simp; omega) | (simp; done)))⟩
set_option maxHeartbeats 2000000 in
theorem c_iShorten (base : Nat) (v : Value) (L : List (Int × Int)) (hL : L.length ≤ 100000000) (w : World) (hown : OwnsS w base v L) :
    Calls Tryz.prog 8 #[v] w (ListPost 44 w (shR L) (logB L)) := by
  unfold shR
  cases h0 : logB L
  · have H0 := Lib.hid (c_isLog base v L hL)
    rw [h0] at H0
    go_enter Tryz.func8, Tryz.ntmps8
    go_wp2_with ((go_at_call 28; refine (H0.out _ hown).mono ?_; rintro e w1 ⟨rfl, hb1⟩; obtain ⟨hc1, hf1⟩ := bcell hb1; have hz1 := hb1.size; (try simp only [World.size_alloc] at hz1); (try (have hy1 : w.heap.size < w1.heap.size := by omega)); (try (have hx1 := Nat.lt_of_succ_le hz1)); (try (have hv1 := Nat.lt_of_succ_le (Nat.le_of_lt hx1)))))
    go_ret2
    refine ⟨_, rfl, OwnsP.nil _ _ _, ?_⟩
    (repeat' (first | (with_reducible exact Below.refl _ _) | (with_reducible refine below_step (by assumption) ?_ ?_) | (with_reducible refine Below.alloc ?_ ?_ _) | (with_reducible refine Below.setCell ?_ ?_ _) | (with_reducible refine below_drewN ?_ _) | (with_reducible refine Below.drew ?_) | omega | (simp; omega) | (simp; done)))
  · rw [if_pos rfl]
    have H0 := Lib.hid (c_isLog base v L hL)
    rw [h0] at H0
    obtain ⟨hl, hst⟩ := logB_of h0
    have HK : Hid (∀ k (hk : k < L.length), L[k].1 = 0 ∨ L[k].1 = 1 ∨ L[k].1 = 2 ∨ L[k].1 = 3) := fun k hk => stepB_k (hst k hk)
    clear hst h0
    go_enter Tryz.func8, Tryz.ntmps8
    go_wp2_with fail
    (go_at_call 28; refine (H0.out _ hown).mono ?_; rintro e w1 ⟨rfl, hb1⟩; obtain ⟨hc1, hf1⟩ := bcell hb1; have hz1 := hb1.size; (try simp only [World.size_alloc] at hz1); (try (have hy1 : w.heap.size < w1.heap.size := by omega)); (try (have hx1 := Nat.lt_of_succ_le hz1)); (try (have hv1 := Nat.lt_of_succ_le (Nat.le_of_lt hx1))))
    obtain ⟨a, cap, rfl, hform⟩ := OwnsP.form (OwnsP.below hown hb1)
    have HF := Lib.hid hform
    clear hform hown H0
    have hw1 := hb1.size
    go_wp2
    go_loopw [4, 13] (fun out i wr => ∃ k : Nat, k ≤ L.length ∧ i = .int .i64 k ∧ OwnsS wr w1.heap.size out (shL (L.take k)) ∧ Below w1.heap.size w1 wr) (fun _ i _ => L.length - (intOf i).toNat)
    case atStart => exact ⟨0, Nat.zero_le _, rfl, OwnsP.nil _ _ _, Below.refl _ _⟩
    case round =>
      obtain ⟨k, hk, rfl, ho, hbr⟩ := hrel
      have hzr := hbr.size
      by_cases hlt : k < L.length
      · obtain ⟨g, rfl, q1, q2, _, hg, _⟩ := HF.out k hlt
        have d1 : wr.cell? ⟨g, k * 2, none⟩ = _ := (hbr.cell (p := ⟨g, k * 2, none⟩) hg).trans q1
        have d2 : wr.cell? ⟨g, k * 2 + 1, none⟩ = _ := (hbr.cell (p := ⟨g, k * 2 + 1, none⟩) hg).trans q2
        have hx := HK.out k hlt
        have HS := Lib.hid (shL_take L hlt)
        have hml : (shL (L.take k)).length ≤ 20 := by
          have := shL_len (L.take k) []
          have := List.length_take_le k L
          simp at this; unfold shL; simp at *; omega
        clear q1 q2
        generalize L[k] = c at d1 d2 hx HS
        generalize shL (L.take k) = M at ho HS hml
        obtain ⟨x, y⟩ := c
        simp only at d1 d2 hx
        rcases Nat.eq_zero_or_pos M.length with hm | hm
        · obtain rfl : M = [] := List.eq_nil_of_length_eq_zero hm
          obtain ⟨a', cap', rfl, hf⟩ := OwnsP.form ho
          clear hf hm
          have kS := Blk.new wr #[.int .i64 x, .int .i64 y] 44
          have hB : Below wr.heap.size wr (wr.alloc (.cells #[.int .i64 x, .int .i64 y] 44)) := (Below.refl _ _).alloc (Nat.le_refl _) _
          have ho1 := OwnsP.below ho hB
          have HZ : Hid (shL (L.take (k + 1)) = [] ++ [(x, y)]) := by show _ = _; rw [HS.out, shS_nil]
          clear HS ho
          go_wp2
          generalize wr.alloc _ = W at *
          (refine wp_region_clq (by kernel_rfl) (by kernel_rfl) ?_; (repeat (go_big_quiet_step (fail))); refine wpQuiet_nil ?_; intro w2 hb2; obtain ⟨hc2, hf2⟩ := bcell hb2; have hz2 := hb2.size; (try simp only [World.size_alloc] at hz2))
          have ho2 := OwnsP.below ho1 hb2
          have k2 := kS.next hb2
          have hb3 : Below w1.heap.size w1 w2 := below_step hb2 (by have := hB.size; omega) (below_step hB hzr hbr)
          have hs3 := hb3.size
          have k20 : (w2).cell? ⟨wr.heap.size, 0, none⟩ = some (.int .i64 x) := k2.cell 0; have k21 : (w2).cell? ⟨wr.heap.size, 1, none⟩ = some (.int .i64 y) := k2.cell 1; have k2l : wr.heap.size < (w2).heap.size := k2.lt
          go_wp2_with (at_builtin; refine wpList_appS (p := (x, y)) rfl _ _ rfl w1.heap.size _ _ rfl ho2 rfl (by simp) hs3 ?_; intro v' w4 ho4 hb4 hg4)
          have hb5 := hb3.trans hb4
          go_wp2
          go_roundw
          case rel => exact ⟨k + 1, by omega, by go_num, by rw [HZ.out]; exact ho4, hb5⟩
          case measure => simp [intOf]; omega
        · obtain ⟨n, hn⟩ : ∃ n, M.length = n + 1 := ⟨M.length - 1, by omega⟩
          obtain ⟨a', cap', hv, hf⟩ := OwnsP.form ho
          rw [hn] at hv
          subst hv
          obtain ⟨g2, rfl, r1, r2, _, hg2, _⟩ := hf n (by omega)
          have HY : Hid (M[n] = und (x, y) → shL (L.take (k + 1)) = M.take n) := fun h => by rw [HS.out]; exact shS_yes _ hn h
          have HN : Hid (M[n] ≠ und (x, y) → shL (L.take (k + 1)) = M ++ [(x, y)]) := fun h => by rw [HS.out]; exact shS_no _ hn h
          have hshort := OwnsP.short (i := n) ho hn.symm (by omega)
          clear hf HS hm
          generalize M[n] = d at r1 r2 HY HN
          obtain ⟨x', y'⟩ := d
          simp only at r1 r2
          have kS := Blk.new wr #[.int .i64 x, .int .i64 y] 44
          have hB : Below wr.heap.size wr (wr.alloc (.cells #[.int .i64 x, .int .i64 y] 44)) := (Below.refl _ _).alloc (Nat.le_refl _) _
          have ho1 := OwnsP.below ho hB
          have hshort1 := OwnsP.below hshort hB
          have s1 := (hB.cell (p := ⟨g2, n * 2, none⟩) hg2).trans r1
          have s2 := (hB.cell (p := ⟨g2, n * 2 + 1, none⟩) hg2).trans r2
          have hg2' := Nat.lt_of_lt_of_le hg2 hB.size
          have hn20 : n + 1 ≤ 20 := by omega
          have hcap := OwnsP.cap ho
          have hM : M.length < 1000000000000 := by omega
          go_wp2
          clear r1 r2 ho hshort hn
          generalize wr.alloc _ = W at *
          have kS0 : (W).cell? ⟨wr.heap.size, 0, none⟩ = some (.int .i64 x) := kS.cell 0; have kS1 : (W).cell? ⟨wr.heap.size, 1, none⟩ = some (.int .i64 y) := kS.cell 1; have kSl : wr.heap.size < (W).heap.size := kS.lt
          have hxu := undK_bd hx
          by_cases e1 : x' = undK x
          · subst e1
            by_cases e2 : y' = y
            · subst e2
              have HE : Hid (_ = _) := HY.out rfl
              clear HY HN
              (refine wp_region_clq (by kernel_rfl) (by kernel_rfl) ?_; (repeat (go_big_quiet_step ((go_at_call 32; exact Calls.quiet_cls Closed.true _ (c_undone _ _ hx _))))); refine wpQuiet_nil ?_; intro w2 hb2; obtain ⟨hc2, hf2⟩ := bcell hb2; have hz2 := hb2.size; (try simp only [World.size_alloc] at hz2))
              have ho2 := OwnsP.below hshort1 hb2
              have hb3 : Below w1.heap.size w1 w2 := below_step hb2 (by have := hB.size; omega) (below_step hB hzr hbr)
              go_wp2
              go_roundw
              case rel => exact ⟨k + 1, by omega, by go_num, by rw [HE.out]; exact ho2, hb3⟩
              case measure => simp [intOf]; omega
            · have e3 : (y' == y) = false := by simpa using e2
              have HE : Hid (_ = _) := HN.out (fun h => e2 (congrArg Prod.snd h))
              clear HY HN e2
              (refine wp_region_clq (by kernel_rfl) (by kernel_rfl) ?_; (repeat (go_big_quiet_step ((go_at_call 32; exact Calls.quiet_cls Closed.true _ (c_undone _ _ hx _))))); refine wpQuiet_nil ?_; intro w2 hb2; obtain ⟨hc2, hf2⟩ := bcell hb2; have hz2 := hb2.size; (try simp only [World.size_alloc] at hz2))
              have ho2 := OwnsP.below ho1 hb2
              have k2 := kS.next hb2
              have hb3 : Below w1.heap.size w1 w2 := below_step hb2 (by have := hB.size; omega) (below_step hB hzr hbr)
              have hs3 := hb3.size
              have k20 : (w2).cell? ⟨wr.heap.size, 0, none⟩ = some (.int .i64 x) := k2.cell 0; have k21 : (w2).cell? ⟨wr.heap.size, 1, none⟩ = some (.int .i64 y) := k2.cell 1; have k2l : wr.heap.size < (w2).heap.size := k2.lt
              go_wp2_with (at_builtin; refine wpList_appS (p := (x, y)) rfl _ _ rfl w1.heap.size _ _ rfl ho2 rfl hM hs3 ?_; intro v' w4 ho4 hb4 hg4)
              have hb5 := hb3.trans hb4
              go_wp2
              go_roundw
              case rel => exact ⟨k + 1, by omega, by go_num, by rw [HE.out]; exact ho4, hb5⟩
              case measure => simp [intOf]; omega
          · have e3 : (x' == undK x) = false := by simpa using e1
            have HE : Hid (_ = _) := HN.out (fun h => e1 (congrArg Prod.fst h))
            clear HY HN e1
            (refine wp_region_clq (by kernel_rfl) (by kernel_rfl) ?_; (repeat (go_big_quiet_step ((go_at_call 32; exact Calls.quiet_cls Closed.true _ (c_undone _ _ hx _))))); refine wpQuiet_nil ?_; intro w2 hb2; obtain ⟨hc2, hf2⟩ := bcell hb2; have hz2 := hb2.size; (try simp only [World.size_alloc] at hz2))
            have ho2 := OwnsP.below ho1 hb2
            have k2 := kS.next hb2
            have hb3 : Below w1.heap.size w1 w2 := below_step hb2 (by have := hB.size; omega) (below_step hB hzr hbr)
            have hs3 := hb3.size
            have k20 : (w2).cell? ⟨wr.heap.size, 0, none⟩ = some (.int .i64 x) := k2.cell 0; have k21 : (w2).cell? ⟨wr.heap.size, 1, none⟩ = some (.int .i64 y) := k2.cell 1; have k2l : wr.heap.size < (w2).heap.size := k2.lt
            go_wp2_with (at_builtin; refine wpList_appS (p := (x, y)) rfl _ _ rfl w1.heap.size _ _ rfl ho2 rfl hM hs3 ?_; intro v' w4 ho4 hb4 hg4)
            have hb5 := hb3.trans hb4
            go_wp2
            go_roundw
            case rel => exact ⟨k + 1, by omega, by go_num, by rw [HE.out]; exact ho4, hb5⟩
            case measure => simp [intOf]; omega
      · obtain rfl : k = L.length := by omega
        rw [List.take_length] at ho
        go_wp2
        go_ret2
        exact ⟨_, rfl, ho.le hw1, by (repeat' (first | (with_reducible exact Below.refl _ _) | (with_reducible refine below_step (by assumption) ?_ ?_) | (with_reducible refine Below.alloc ?_ ?_ _) | (with_reducible refine Below.setCell ?_ ?_ _) | (with_reducible refine below_drewN ?_ _) | (with_reducible refine Below.drew ?_) | omega | (simp; omega) | (simp; done)))⟩
end Go.Proofs.YtpnpidepkfnofaaGreatDoor

/- Inv -/
namespace Go.Proofs.YtpnpidepkfnofaaGreatDoor
open Go.RowKit

set_option maxHeartbeats 2000000 in
theorem c_reverse (base : Nat) (v : Value) (L : List (Int × Int)) (hL : L.length ≤ 100000000) (w : World) (hown : OwnsS w base v L) :
    Calls Tryz.prog 56 #[v] w fun e w' => e = .returned (.tuple #[]) ∧ OwnsS w' base v L.reverse ∧ w.grownBy w' v.ownBlock := by
  obtain ⟨a, cap, rfl, hform⟩ := OwnsP.form hown
  clear hform
  go_enter Tryz.func56, Tryz.ntmps56
  go_wp2
  go_loopw [2, 3] (fun ii jj wr => ∃ (k : Nat) (j : Int) (M : List (Int × Int)), ii = .int .i64 k ∧ jj = .int .i64 j ∧ j + k + 1 = L.length ∧ (2 * k ≤ L.length) ∧ M.length = L.length ∧ Hid (RvR L M k) ∧ OwnsS wr base (.slice a L.length cap) M ∧ w.grownBy wr (Value.slice a L.length cap).ownBlock) (fun _ jj _ => (intOf jj + 1).toNat)
  case atStart => exact ⟨0, L.length - 1, L, rfl, rfl, by omega, by omega, rfl, RvR.start L, hown, ⟨rfl, rfl, rfl, Nat.le_refl _, fun _ _ _ => rfl⟩⟩
  case round =>
    clear hown
    obtain ⟨i, j, M, rfl, rfl, hij, h2, hM, HR, ho, hg⟩ := hrel
    by_cases hlt : (i : Int) < j
    · obtain ⟨jn, rfl⟩ : ∃ jn : Nat, j = jn := ⟨j.toNat, by omega⟩
      obtain ⟨m1, m2, hst⟩ := HR.out.step (by omega)
      have hj : L.length - 1 - i = jn := by omega
      simp only [hj] at m2 hst
      obtain ⟨a', cap', hv, hf⟩ := OwnsP.form ho
      rw [hM] at hv
      obtain ⟨rfl, rfl⟩ : a = a' ∧ cap = cap' := by simp only [Value.slice.injEq] at hv; exact ⟨hv.1, hv.2.2⟩
      obtain ⟨g, rfl, q1, q2, hfr, hgs, _⟩ := hf i m1
      obtain ⟨g', e, r1, r2, _⟩ := hf jn m2
      obtain rfl : g = g' := by simpa using e
      have f1 := hfr (i * 2)
      have f2 := hfr (i * 2 + 1)
      have f3 := hfr (jn * 2)
      have f4 := hfr (jn * 2 + 1)
      have ho1 := OwnsP.store ho hM.symm (show i < L.length by omega) M[jn]
      have ho2 := OwnsP.store ho1 (by simpa using hM.symm) (show jn < L.length by omega) M[i]
      have hg2 := grown_setCell (grown_setCell (grown_setCell (grown_setCell (show w.grownBy wr (some g) from hg) (i * 2) (.int .i64 M[jn].1)) (i * 2 + 1) (.int .i64 M[jn].2)) (jn * 2) (.int .i64 M[i].1)) (jn * 2 + 1) (.int .i64 M[i].2)
      have HS := Lib.hid hst
      have HMM : ((M.set i M[jn]).set jn M[i]).length = L.length := by simpa using hM
      generalize (M.set i M[jn]).set jn M[i] = M' at ho2 HS HMM
      generalize M[i] = c at q1 q2 ho2 hg2
      generalize M[jn] = d at r1 r2 ho2 hg2
      obtain ⟨x, y⟩ := c
      obtain ⟨x', y'⟩ := d
      simp only at q1 q2 r1 r2
      have HO := Lib.hid (And.intro ho2 hg2)
      clear ho ho1 ho2 hg hg2 hst hf hv e hfr HR
      go_wp2
      go_big_region
      all_goals go_wp2
      go_roundw
      case rel => exact ⟨i + 1, (jn : Int) - 1, M', by go_num, rfl, by omega, by omega, HMM, HS.out, HO.out.1, ⟨HO.out.2.os, HO.out.2.tape, HO.out.2.output, HO.out.2.size, HO.out.2.block⟩⟩
      case measure => simp [intOf] <;> omega
    · have hd := HR.out.done (by omega)
      subst hd
      go_wp2
      go_end0
      exact ⟨rfl, ho, hg⟩
def ivR (L : List (Int × Int)) (k : Nat) : List (Int × Int) := (L.reverse.take k).map und
theorem ivR_succ (L : List (Int × Int)) {k : Nat} (h : k < L.length) : ivR L (k + 1) = ivR L k ++ [und (L[L.length - 1 - k]'(by omega))] := by
  unfold ivR
  rw [List.take_succ_eq_append_getElem (by simpa using h), List.map_append, List.getElem_reverse]; rfl
theorem ivR_at (L : List (Int × Int)) {k n : Nat} (h : n + k + 1 = L.length) : ivR L (k + 1) = ivR L k ++ [und (L[n]'(by omega))] := by
  have e : L.length - 1 - k = n := by omega
  have := ivR_succ L (k := k) (by omega)
  simp only [e] at this
  exact this
theorem ivR_len (L : List (Int × Int)) (k : Nat) : (ivR L k).length ≤ k := by unfold ivR; simp; omega
theorem ivR_all (L : List (Int × Int)) : ivR L L.length = invL L := by
  unfold ivR invL
  rw [List.take_of_length_le (by simp)]
noncomputable def ivL (L : List (Int × Int)) : List (Int × Int) := if logB L then invL L else []
theorem ivL_len (L : List (Int × Int)) : (ivL L).length ≤ 20 := by
  unfold ivL
  split
  · rename_i h
    have := (logB_of h).1
    unfold invL; simpa using this
  · simp
set_option maxHeartbeats 2000000 in
theorem c_sInverse (base : Nat) (v : Value) (L : List (Int × Int)) (hL : L.length ≤ 100000000) (w : World) (hown : OwnsS w base v L) :
    Calls Tryz.prog 21 #[v] w (ListPost 44 w (ivL L) (logB L)) := by
  unfold ivL
  cases h0 : logB L
  · have H0 := Lib.hid (c_tlLog base v L hL)
    rw [h0] at H0
    go_enter Tryz.func21, Tryz.ntmps21
    go_wp2_with ((go_at_call 30; refine (H0.out _ hown).mono ?_; rintro e w1 ⟨rfl, hb1⟩; obtain ⟨hc1, hf1⟩ := bcell hb1; have hz1 := hb1.size; (try simp only [World.size_alloc] at hz1); (try (have hy1 : w.heap.size < w1.heap.size := by omega)); (try (have hx1 := Nat.lt_of_succ_le hz1)); (try (have hv1 := Nat.lt_of_succ_le (Nat.le_of_lt hx1)))))
    go_ret2
    refine ⟨_, rfl, OwnsP.nil _ _ _, ?_⟩
    (repeat' (first | (with_reducible exact Below.refl _ _) | (with_reducible refine below_step (by assumption) ?_ ?_) | (with_reducible refine Below.alloc ?_ ?_ _) | (with_reducible refine Below.setCell ?_ ?_ _) | (with_reducible refine below_drewN ?_ _) | (with_reducible refine Below.drew ?_) | omega | (simp; omega) | (simp; done)))
  · rw [if_pos rfl]
    have H0 := Lib.hid (c_tlLog base v L hL)
    rw [h0] at H0
    obtain ⟨hl, hst⟩ := logB_of h0
    have HK : Hid (∀ k (hk : k < L.length), L[k].1 = 0 ∨ L[k].1 = 1 ∨ L[k].1 = 2 ∨ L[k].1 = 3) := fun k hk => stepB_k (hst k hk)
    clear hst h0
    go_enter Tryz.func21, Tryz.ntmps21
    go_wp2_with fail
    (go_at_call 30; refine (H0.out _ hown).mono ?_; rintro e w1 ⟨rfl, hb1⟩; obtain ⟨hc1, hf1⟩ := bcell hb1; have hz1 := hb1.size; (try simp only [World.size_alloc] at hz1); (try (have hy1 : w.heap.size < w1.heap.size := by omega)); (try (have hx1 := Nat.lt_of_succ_le hz1)); (try (have hv1 := Nat.lt_of_succ_le (Nat.le_of_lt hx1))))
    obtain ⟨a, cap, rfl, hform⟩ := OwnsP.form (OwnsP.below hown hb1)
    have HF := Lib.hid hform
    clear hform hown H0
    have hw1 := hb1.size
    go_wp2
    go_loopw [4, 5] (fun out i wr => ∃ (k : Nat) (j : Int), i = .int .i64 j ∧ j + k + 1 = L.length ∧ k ≤ L.length ∧ OwnsS wr w1.heap.size out (ivR L k) ∧ Below w1.heap.size w1 wr) (fun _ i _ => (intOf i + 1).toNat)
    case atStart => exact ⟨0, (L.length : Int) - 1, rfl, by omega, by omega, OwnsP.nil _ _ _, Below.refl _ _⟩
    case round =>
      obtain ⟨k, j, rfl, hj, hk, ho, hbr⟩ := hrel
      have hzr := hbr.size
      by_cases hlt : k < L.length
      · obtain ⟨n, rfl⟩ : ∃ n : Nat, j = n := ⟨j.toNat, by omega⟩
        have hn : n < L.length := by omega
        obtain ⟨g, rfl, q1, q2, _, hg, _⟩ := HF.out n hn
        have d1 : wr.cell? ⟨g, n * 2, none⟩ = _ := (hbr.cell (p := ⟨g, n * 2, none⟩) hg).trans q1
        have d2 : wr.cell? ⟨g, n * 2 + 1, none⟩ = _ := (hbr.cell (p := ⟨g, n * 2 + 1, none⟩) hg).trans q2
        have hx := HK.out n hn
        have HS := Lib.hid (ivR_at L (show n + k + 1 = L.length by omega))
        have hml := ivR_len L k
        have hm20 : (ivR L k).length < 1000000000000 := by omega
        clear q1 q2
        generalize L[n] = c at d1 d2 hx HS
        obtain ⟨x, y⟩ := c
        simp only at d1 d2 hx
        go_wp2_with fail
        (go_at_call 33; refine (c_tlUndo _ _ hx _).mono ?_; rintro e w2 ⟨rfl, hb2⟩; obtain ⟨hc2, hf2⟩ := bcell hb2; have hz2 := hb2.size; (try simp only [World.size_alloc] at hz2); (try (have hy2 : w.heap.size < w2.heap.size := by omega)); (try (have hx2 := Nat.lt_of_succ_le hz2)); (try (have hv2 := Nat.lt_of_succ_le (Nat.le_of_lt hx2))); (try (have hy2_1 : w1.heap.size < w2.heap.size := by omega)))
        have ho2 := OwnsP.below ho hb2
        have hb3 : Below w1.heap.size w1 w2 := below_step hb2 hzr hbr
        have hs3 := hb3.size
        go_wp2_with (at_builtin; refine wpList_appS (p := (undK x, y)) rfl _ _ rfl w1.heap.size _ _ rfl ho2 rfl hm20 hs3 ?_; intro v' w4 ho4 hb4 hg4)
        have hb5 := hb3.trans hb4
        go_wp2
        go_roundw
        case rel => exact ⟨k + 1, (n : Int) - 1, by go_num, by omega, by omega, by rw [HS.out]; exact ho4, hb5⟩
        case measure => simp [intOf] <;> omega
      · obtain rfl : k = L.length := by omega
        obtain rfl : j = -1 := by omega
        rw [ivR_all] at ho
        go_wp2
        go_ret2
        exact ⟨_, rfl, ho.le hw1, by (repeat' (first | (with_reducible exact Below.refl _ _) | (with_reducible refine below_step (by assumption) ?_ ?_) | (with_reducible refine Below.alloc ?_ ?_ _) | (with_reducible refine Below.setCell ?_ ?_ _) | (with_reducible refine below_drewN ?_ _) | (with_reducible refine Below.drew ?_) | omega | (simp; omega) | (simp; done)))⟩
theorem und_take (L : List (Int × Int)) {k : Nat} (h : k < L.length) : (L.take (k + 1)).map und = (L.take k).map und ++ [und L[k]] := by
  rw [List.take_succ_eq_append_getElem h, List.map_append]; rfl
set_option maxHeartbeats 2000000 in
theorem c_iInverse (base : Nat) (v : Value) (L : List (Int × Int)) (hL : L.length ≤ 100000000) (w : World) (hown : OwnsS w base v L) :
    Calls Tryz.prog 20 #[v] w (ListPost 44 w (ivL L) (logB L)) := by
  unfold ivL
  cases h0 : logB L
  · have H0 := Lib.hid (c_isLog base v L hL)
    rw [h0] at H0
    go_enter Tryz.func20, Tryz.ntmps20
    go_wp2_with ((go_at_call 28; refine (H0.out _ hown).mono ?_; rintro e w1 ⟨rfl, hb1⟩; obtain ⟨hc1, hf1⟩ := bcell hb1; have hz1 := hb1.size; (try simp only [World.size_alloc] at hz1); (try (have hy1 : w.heap.size < w1.heap.size := by omega)); (try (have hx1 := Nat.lt_of_succ_le hz1)); (try (have hv1 := Nat.lt_of_succ_le (Nat.le_of_lt hx1)))))
    go_ret2
    refine ⟨_, rfl, OwnsP.nil _ _ _, ?_⟩
    (repeat' (first | (with_reducible exact Below.refl _ _) | (with_reducible refine below_step (by assumption) ?_ ?_) | (with_reducible refine Below.alloc ?_ ?_ _) | (with_reducible refine Below.setCell ?_ ?_ _) | (with_reducible refine below_drewN ?_ _) | (with_reducible refine Below.drew ?_) | omega | (simp; omega) | (simp; done)))
  · rw [if_pos rfl]
    have H0 := Lib.hid (c_isLog base v L hL)
    rw [h0] at H0
    obtain ⟨hl, hst⟩ := logB_of h0
    have HK : Hid (∀ k (hk : k < L.length), L[k].1 = 0 ∨ L[k].1 = 1 ∨ L[k].1 = 2 ∨ L[k].1 = 3) := fun k hk => stepB_k (hst k hk)
    clear hst h0
    go_enter Tryz.func20, Tryz.ntmps20
    go_wp2_with fail
    (go_at_call 28; refine (H0.out _ hown).mono ?_; rintro e w1 ⟨rfl, hb1⟩; obtain ⟨hc1, hf1⟩ := bcell hb1; have hz1 := hb1.size; (try simp only [World.size_alloc] at hz1); (try (have hy1 : w.heap.size < w1.heap.size := by omega)); (try (have hx1 := Nat.lt_of_succ_le hz1)); (try (have hv1 := Nat.lt_of_succ_le (Nat.le_of_lt hx1))))
    obtain ⟨a, cap, rfl, hform⟩ := OwnsP.form (OwnsP.below hown hb1)
    have HF := Lib.hid hform
    clear hform hown H0
    have hw1 := hb1.size
    go_wp2
    go_loopw [4, 12] (fun out i wr => ∃ k : Nat, k ≤ L.length ∧ i = .int .i64 k ∧ OwnsS wr w1.heap.size out ((L.take k).map und) ∧ Below w1.heap.size w1 wr) (fun _ i _ => L.length - (intOf i).toNat)
    case atStart => exact ⟨0, Nat.zero_le _, rfl, OwnsP.nil _ _ _, Below.refl _ _⟩
    case round =>
      obtain ⟨k, hk, rfl, ho, hbr⟩ := hrel
      have hzr := hbr.size
      by_cases hlt : k < L.length
      · obtain ⟨g, rfl, q1, q2, _, hg, _⟩ := HF.out k hlt
        have d1 : wr.cell? ⟨g, k * 2, none⟩ = _ := (hbr.cell (p := ⟨g, k * 2, none⟩) hg).trans q1
        have d2 : wr.cell? ⟨g, k * 2 + 1, none⟩ = _ := (hbr.cell (p := ⟨g, k * 2 + 1, none⟩) hg).trans q2
        have hx := HK.out k hlt
        have HS := Lib.hid (und_take L hlt)
        have hm20 : ((L.take k).map und).length < 1000000000000 := by simp; omega
        clear q1 q2
        generalize L[k] = c at d1 d2 hx HS
        obtain ⟨x, y⟩ := c
        simp only at d1 d2 hx
        generalize (L.take k).map und = M at ho HS hm20
        go_wp2_with fail
        (go_at_call 32; refine (c_undone _ _ hx _).mono ?_; rintro e w2 ⟨rfl, hb2⟩; obtain ⟨hc2, hf2⟩ := bcell hb2; have hz2 := hb2.size; (try simp only [World.size_alloc] at hz2); (try (have hy2 : w.heap.size < w2.heap.size := by omega)); (try (have hx2 := Nat.lt_of_succ_le hz2)); (try (have hv2 := Nat.lt_of_succ_le (Nat.le_of_lt hx2))); (try (have hy2_1 : w1.heap.size < w2.heap.size := by omega)))
        have hA := (Below.refl wr.heap.size wr).alloc (Nat.le_refl _) (.cells #[.int .i64 x, .int .i64 y] 44)
        have ho2 := OwnsP.below (OwnsP.below ho hA) hb2
        have hb3 : Below w1.heap.size w1 w2 := below_step hb2 (by simp; omega) (below_step hA hzr hbr)
        have hs3 := hb3.size
        go_wp2_with (at_builtin; refine wpList_appS (p := (undK x, y)) rfl _ _ rfl w1.heap.size _ _ rfl ho2 rfl hm20 hs3 ?_; intro v' w4 ho4 hb4 hg4)
        have hb5 := hb3.trans hb4
        go_wp2
        go_roundw
        case rel => exact ⟨k + 1, by omega, by go_num, by rw [HS.out]; exact ho4, hb5⟩
        case measure => simp [intOf]; omega
      · obtain rfl : k = L.length := by omega
        rw [List.take_length] at ho
        have hml : (L.map und).length ≤ 100000000 := by simp; omega
        have HR : Hid ((L.map und).reverse = invL L) := by show _ = _; unfold invL; rw [List.map_reverse]
        generalize L.map und = M at ho hml HR
        go_wp2_with fail
        refine (c_reverse _ _ M hml _ ho).mono ?_
        rintro e w4 ⟨rfl, ho4, hg4⟩
        rw [HR.out] at ho4
        have hb4 := below_of_grown (B := w1.heap.size) hg4 hzr (fun k hk => (ho.lt k hk).1)
        have hb5 := hbr.trans hb4
        go_wp2
        go_ret2
        exact ⟨_, rfl, ho4.le hw1, by (repeat' (first | (with_reducible exact Below.refl _ _) | (with_reducible refine below_step (by assumption) ?_ ?_) | (with_reducible refine Below.alloc ?_ ?_ _) | (with_reducible refine Below.setCell ?_ ?_ _) | (with_reducible refine below_drewN ?_ _) | (with_reducible refine Below.drew ?_) | omega | (simp; omega) | (simp; done)))⟩
end Go.Proofs.YtpnpidepkfnofaaGreatDoor

/- TolPlain -/
namespace Go.Proofs.YtpnpidepkfnofaaGreatDoor
open Go.RowKit

def SqN (n : Nat) : Prop := ∀ k, 2 ≤ k → ¬ k * k ∣ n
theorem SqN.of_dvd {n m : Nat} (h : SqN n) (hd : m ∣ n) : SqN m := fun k hk hm => h k hk (Nat.dvd_trans hm hd)
theorem sqN_mul {a b : Nat} (ha : SqN a) (hb : SqN b) (hc : Nat.Coprime a b) : SqN (a * b) := fun k hk hd => by
  have hj : Nat.gcd k a ∣ k := Nat.gcd_dvd_left k a
  have hja : Nat.gcd k a ∣ a := Nat.gcd_dvd_right k a
  have hpos : 0 < Nat.gcd k a := Nat.gcd_pos_of_pos_left _ (by omega)
  rcases Nat.lt_or_ge (Nat.gcd k a) 2 with h2 | h2
  · have h1 : Nat.Coprime k a := by unfold Nat.Coprime; omega
    have h3 : Nat.Coprime (k * k) a := Nat.Coprime.mul_left h1 h1
    exact hb k hk (h3.dvd_of_dvd_mul_left hd)
  · have h1 : Nat.Coprime (Nat.gcd k a) b := Nat.Coprime.coprime_dvd_left hja hc
    have h3 : Nat.Coprime (Nat.gcd k a * Nat.gcd k a) b := Nat.Coprime.mul_left h1 h1
    exact ha _ h2 (h3.dvd_of_dvd_mul_right (Nat.dvd_trans (Nat.mul_dvd_mul hj hj) hd))
theorem sq_key {m h k : Nat} (hm : SqN m) (hk : 2 ≤ k) (hd : k * k ∣ m * (h * h)) (hno : ∀ j, 2 ≤ j → j < k → ¬ j ∣ h) : k ∣ h := by
  have hj : Nat.gcd k h ∣ k := Nat.gcd_dvd_left k h
  have hjh : Nat.gcd k h ∣ h := Nat.gcd_dvd_right k h
  have hle : Nat.gcd k h ≤ k := Nat.le_of_dvd (by omega) hj
  have hpos : 0 < Nat.gcd k h := Nat.gcd_pos_of_pos_left _ (by omega)
  rcases Nat.lt_or_ge (Nat.gcd k h) 2 with h2 | h2
  · have h1 : Nat.Coprime k h := by unfold Nat.Coprime; omega
    have h3 : Nat.Coprime (k * k) (h * h) := Nat.Coprime.mul_left (Nat.Coprime.mul_right h1 h1) (Nat.Coprime.mul_right h1 h1)
    exact absurd (h3.dvd_of_dvd_mul_right hd) (hm k hk)
  · rcases Nat.lt_or_ge (Nat.gcd k h) k with h3 | h3
    · exact absurd hjh (hno _ h2 h3)
    · have : Nat.gcd k h = k := by omega
      rwa [this] at hjh
/-- d is r, but for a square of a number up to 30 -/
def TlR (r : Int) (h k : Nat) : Prop := SqN r.natAbs ∧ 1 ≤ h ∧ h ≤ 30 ∧ ∀ j, 2 ≤ j → j < k → ¬ j ∣ h
theorem TlR.yes {r : Int} {h k : Nat} (H : TlR r h k) (hk : 2 ≤ k) (hd : (r * ((h : Int) * h)).tmod ((k : Int) * k) = 0) :
    TlR r (h / k) k ∧ h / k < h ∧ (r * ((h : Int) * h)).tdiv ((k : Int) * k) = r * (((h / k : Nat) : Int) * ((h / k : Nat) : Int)) := by
  obtain ⟨h1, h2, h3, h4⟩ := H
  have hd' : (k * k) ∣ r.natAbs * (h * h) := by
    have := Int.dvd_of_tmod_eq_zero hd
    have := Int.natAbs_dvd_natAbs.2 this
    simpa [Int.natAbs_mul] using this
  obtain ⟨c, rfl⟩ := sq_key h1 hk hd' h4
  have e : k * c / k = c := Nat.mul_div_cancel_left c (by omega)
  rw [e]
  have hc : 1 ≤ c := by
    rcases Nat.eq_zero_or_pos c with rfl | h
    · simp at h2
    · exact h
  have hlt : c < k * c := by
    have := Nat.mul_le_mul_right c hk
    omega
  refine ⟨⟨h1, hc, by omega, fun j hj hjk hjc => h4 j hj hjk (Nat.dvd_trans hjc (Nat.dvd_mul_left c k))⟩, hlt, ?_⟩
  have : r * (((k * c : Nat) : Int) * ((k * c : Nat) : Int)) = ((k : Int) * k) * (r * ((c : Int) * c)) := by
    rw [Int.natCast_mul]; ac_rfl
  rw [this, Int.mul_tdiv_cancel_left]
  intro h0
  simp only [Int.mul_eq_zero] at h0
  omega
theorem TlR.no {r : Int} {h k : Nat} (H : TlR r h k) (hk : 2 ≤ k) (hd : (r * ((h : Int) * h)).tmod ((k : Int) * k) ≠ 0) : TlR r h (k + 1) := by
  obtain ⟨h1, h2, h3, h4⟩ := H
  refine ⟨h1, h2, h3, fun j hj hjk => ?_⟩
  rcases Nat.lt_or_ge j k with h5 | h5
  · exact h4 j hj h5
  · obtain rfl : j = k := by omega
    rintro ⟨c, rfl⟩
    apply hd
    have : r * (((j * c : Nat) : Int) * ((j * c : Nat) : Int)) = ((j : Int) * j) * (r * ((c : Int) * c)) := by
      rw [Int.natCast_mul]; ac_rfl
    rw [this]; exact Int.mul_tmod_right _ _
theorem TlR.end {r : Int} {h : Nat} (H : TlR r h 31) : h = 1 := by
  obtain ⟨h1, h2, h3, h4⟩ := H
  rcases Nat.lt_or_ge h 2 with h5 | h5
  · omega
  · exact absurd (Nat.dvd_refl h) (h4 h h5 (by omega))
theorem TlR.ne {r : Int} {h k : Nat} (H : TlR r h k) : r ≠ 0 := by
  rintro rfl
  exact H.1 2 (by omega) (by simp)
theorem TlR.less {r x : Int} {h k : Nat} (H : TlR r h k) (hx : x = r * ((h : Int) * h)) (hk : 2 ≤ k) : (x.tdiv ((k : Int) * k)).natAbs < x.natAbs := by
  have h0 := H.ne
  have h1 := H.2.1
  have hx0 : x ≠ 0 := by
    rw [hx]
    intro e
    simp only [Int.mul_eq_zero] at e
    omega
  rw [Int.natAbs_tdiv]
  have : 4 ≤ ((k : Int) * k).natAbs := by rw [Int.natAbs_mul]; exact Nat.mul_le_mul hk hk
  exact Nat.div_lt_self (by omega) (by omega)
/-- what the walks keep: the product of some primes -/
def Tw30 (d : Int) : Prop := SqN d.natAbs ∧ d.natAbs ∣ 6469693230
def tlStep (d v : Int) : Int := d.tdiv (Int.gcd d v) * v.tdiv (Int.gcd d v)
theorem Tw30.bd {d : Int} (h : Tw30 d) : d ≠ 0 ∧ -6469693230 ≤ d ∧ d ≤ 6469693230 := by
  have := Nat.le_of_dvd (by decide) h.2
  refine ⟨?_, by omega, by omega⟩
  rintro rfl
  have := h.2
  simp at this
theorem Tw30.one : Tw30 1 := by
  refine ⟨fun k hk h => ?_, by decide⟩
  have := Nat.le_of_dvd (by decide) h
  have := Nat.mul_le_mul hk hk
  simp at *; omega
theorem Tw30.step {d v : Int} (hd : Tw30 d) (hv : Tw30 v) (hb : v.natAbs ≤ 30) :
    Tw30 (tlStep d v) ∧ ∃ g : Nat, (Int.gcd d v = g ∧ 1 ≤ g ∧ g ≤ 30) ∧ d * v = tlStep d v * ((g : Int) * g) ∧ TlR (tlStep d v) g 2 := by
  obtain ⟨dz, db⟩ := hd.bd
  obtain ⟨vz, vb⟩ := hv.bd
  have hg0 : 0 < Int.gcd d v := Int.gcd_pos_iff.2 (.inl dz)
  have hgd : Int.gcd d v ∣ d.natAbs := Nat.gcd_dvd_left d.natAbs v.natAbs
  have hgv : Int.gcd d v ∣ v.natAbs := Nat.gcd_dvd_right d.natAbs v.natAbs
  have hgl : Int.gcd d v ≤ 30 := Nat.le_trans (Nat.le_of_dvd (by omega) hgv) hb
  have hco : Nat.Coprime (d.natAbs / Int.gcd d v) (v.natAbs / Int.gcd d v) := Nat.coprime_div_gcd_div_gcd hg0
  have ea : (d.tdiv (Int.gcd d v)).natAbs = d.natAbs / Int.gcd d v := by rw [Int.natAbs_tdiv]; simp; rfl
  have eb : (v.tdiv (Int.gcd d v)).natAbs = v.natAbs / Int.gcd d v := by rw [Int.natAbs_tdiv]; simp; rfl
  have hn : (tlStep d v).natAbs = d.natAbs / Int.gcd d v * (v.natAbs / Int.gcd d v) := by unfold tlStep; rw [Int.natAbs_mul, ea, eb]
  have hsq : SqN (tlStep d v).natAbs := by
    rw [hn]
    exact sqN_mul (hd.1.of_dvd (Nat.div_dvd_of_dvd hgd)) (hv.1.of_dvd (Nat.div_dvd_of_dvd hgv)) hco
  refine ⟨⟨hsq, ?_⟩, Int.gcd d v, ⟨rfl, hg0, hgl⟩, ?_, hsq, hg0, hgl, fun j h1 h2 => by omega⟩
  · rw [hn]
    refine Nat.dvd_trans ?_ (Nat.lcm_dvd hd.2 hv.2)
    have : Nat.lcm d.natAbs v.natAbs = d.natAbs / Int.gcd d v * v.natAbs := by
      unfold Nat.lcm
      exact Nat.div_mul_right_comm hgd _ |>.symm ▸ rfl
    rw [this]
    exact Nat.mul_dvd_mul_left _ (Nat.div_dvd_of_dvd hgv)
  · unfold tlStep
    have h1 : d.tdiv (Int.gcd d v) * (Int.gcd d v) = d := Int.tdiv_mul_cancel (Int.gcd_dvd_left d v)
    have h2 : v.tdiv (Int.gcd d v) * (Int.gcd d v) = v := Int.tdiv_mul_cancel (Int.gcd_dvd_right d v)
    calc d * v = (d.tdiv (Int.gcd d v) * (Int.gcd d v)) * (v.tdiv (Int.gcd d v) * (Int.gcd d v)) := by rw [h1, h2]
      _ = _ := by ac_rfl
def sq30 (n : Nat) : Bool := (6469693230 % n == 0) && (n % 4 != 0) && (n % 9 != 0) && (n % 16 != 0) && (n % 25 != 0)
theorem sq30_ok {v : Int} (_ : v ≠ 0) (hb : v.natAbs ≤ 30) (h : sq30 v.natAbs = true) : Tw30 v := by
  unfold sq30 at h
  simp only [Bool.and_eq_true, bne_iff_ne, beq_iff_eq] at h
  refine ⟨fun k hk hd => ?_, Nat.dvd_of_mod_eq_zero (by simp only [h.1.1.1.1])⟩
  have h1 := Nat.le_of_dvd (by omega) hd
  have : k < 6 := by
    rcases Nat.lt_or_ge k 6 with h' | h'
    · exact h'
    · have := Nat.mul_le_mul h' h'; omega
  have := Nat.mod_eq_zero_of_dvd hd
  rcases (by omega : k = 2 ∨ k = 3 ∨ k = 4 ∨ k = 5) with rfl | rfl | rfl | rfl <;> simp_all
theorem tw30_all : ∀ k : Nat, k < 63 → free4 ((k : Int) - 31) = true → ((k : Int) - 31).natAbs ≤ 30 → (k : Int) - 31 ≠ 0 → sq30 ((k : Int) - 31).natAbs = true := by decide +kernel
theorem tw30_of {v : Int} (h : twistB v = true) : Tw30 v ∧ v.natAbs ≤ 30 := by
  unfold twistB at h
  simp only [Bool.and_eq_true, Bool.not_eq_true', beq_eq_false_iff_ne] at h
  have hb := inB_true h.1.1
  have h3 := h.2
  rw [free_small (by omega) (by omega)] at h3
  have := tw30_all (v + 31).toNat (by omega)
  rw [show ((v + 31).toNat : Int) - 31 = v by omega] at this
  exact ⟨sq30_ok h.1.2 (by omega) (this h3 (by omega) h.1.2), by omega⟩
/-- what TwistOfLog gathers -/
def tolF (d : Int) (c : Int × Int) : Int := if c.1 = 2 ∨ c.1 = 3 then tlStep d c.2 else d
def tolL (L : List (Int × Int)) : Int := L.foldl tolF 1
theorem tolL_take (L : List (Int × Int)) {k : Nat} (h : k < L.length) : tolL (L.take (k + 1)) = tolF (tolL (L.take k)) L[k] := by
  unfold tolL
  rw [List.take_succ_eq_append_getElem h, List.foldl_append]; rfl
end Go.Proofs.YtpnpidepkfnofaaGreatDoor

/- Gcd -/
namespace Go.Proofs.YtpnpidepkfnofaaGreatDoor
open Go.RowKit

def gcdI (a b : Int) : Int := (Int.gcd a b : Nat)
theorem gcdI_zero (a : Int) : gcdI a 0 = a.natAbs := by simp [gcdI]
theorem gcdI_tmod (a b : Int) : gcdI b (a.tmod b) = gcdI a b := by
  show ((Nat.gcd b.natAbs (a.tmod b).natAbs : Nat) : Int) = (Nat.gcd a.natAbs b.natAbs : Nat)
  rw [Int.natAbs_tmod, Nat.gcd_comm, ← Nat.gcd_rec, Nat.gcd_comm]
theorem gcdI_bd (a b : Int) (h : a ≠ 0 ∨ b ≠ 0) : 1 ≤ gcdI a b ∧ (a ≠ 0 → gcdI a b ≤ a.natAbs) ∧ (b ≠ 0 → gcdI a b ≤ b.natAbs) := by
  unfold gcdI
  have h0 : 0 < Int.gcd a b := Int.gcd_pos_iff.2 h
  refine ⟨by omega, fun ha => ?_, fun hb => ?_⟩
  · have := Nat.le_of_dvd (by omega) (show Int.gcd a b ∣ a.natAbs from Nat.gcd_dvd_left a.natAbs b.natAbs)
    omega
  · have := Nat.le_of_dvd (by omega) (show Int.gcd a b ∣ b.natAbs from Nat.gcd_dvd_right a.natAbs b.natAbs)
    omega
theorem tmod_lt {x y : Int} (hy : y ≠ 0) : (x.tmod y).natAbs < y.natAbs := by rw [Int.natAbs_tmod]; exact Nat.mod_lt _ (by omega)
theorem tmod_abs (x y : Int) : (x.tmod y).natAbs ≤ x.natAbs := by rw [Int.natAbs_tmod]; exact Nat.mod_le _ _
theorem c_gcd (a b : Int) (ha : -9000000000000000000 ≤ a ∧ a ≤ 9000000000000000000) (hb : -9000000000000000000 ≤ b ∧ b ≤ 9000000000000000000) (w : World) :
    Calls Tryz.prog 52 #[.int .i64 a, .int .i64 b] w fun e w' => e = .returned (.int .i64 (gcdI a b)) ∧ ∃ k, w' = w.drewN k := by
  go_enter Tryz.func52, Tryz.ntmps52
  go_wp2
  go_loopw [0, 1] (fun x y wr => ∃ c d : Int, x = .int .i64 c ∧ y = .int .i64 d ∧ (-9000000000000000000 ≤ c ∧ c ≤ 9000000000000000000) ∧ (-9000000000000000000 ≤ d ∧ d ≤ 9000000000000000000) ∧ Hid (gcdI c d = gcdI a b) ∧ ∃ k, wr = w.drewN k) (fun _ y _ => (intOf y).natAbs)
  case atStart => exact ⟨a, b, rfl, rfl, ha, hb, rfl, 0, rfl⟩
  case round =>
    obtain ⟨c, d, rfl, rfl, hc, hd, H, k, rfl⟩ := hrel
    by_cases h0 : d = 0
    · subst h0
      have HE : Hid (gcdI a b = c.natAbs) := by show _ = _; rw [← H.out, gcdI_zero]
      clear H
      rcases Int.lt_or_le c 0 with hs | hs
      · have hm : (c.natAbs : Int) = -c := by omega
        go_wp2
        go_ret
        exact ⟨by rw [HE.out, hm]; simp, k, rfl⟩
      · have hm : (c.natAbs : Int) = c := by omega
        go_wp2
        go_ret
        exact ⟨by rw [HE.out, hm]; simp, k, rfl⟩
    · have HE : Hid (gcdI d (c.tmod d) = gcdI a b) := by show _ = _; rw [gcdI_tmod]; exact H.out
      have b1 := tmod_lt (x := c) h0
      have hd0 : (d == 0) = false := by simpa using h0
      clear H
      go_wp2
      go_region
      all_goals go_wp2
      all_goals
        go_roundw
        case rel => exact ⟨d, c.tmod d, by go_num, by go_num, by omega, by omega, HE, k + 1, rfl⟩
        case measure => exact b1
end Go.Proofs.YtpnpidepkfnofaaGreatDoor

/- Tol -/
namespace Go.Proofs.YtpnpidepkfnofaaGreatDoor
open Go.RowKit

set_option maxHeartbeats 1000000 in
theorem c_tlFree (x r : Int) (h : Nat) (hx : x = r * ((h : Int) * h)) (H : TlR r h 2) (hb : -200000000000 ≤ x ∧ x ≤ 200000000000) (w : World) :
    Calls Tryz.prog 54 #[.int .i64 x] w fun e w' => e = .returned (.int .i64 r) ∧ w = w' := by
  have HX := Lib.hid hx
  have HH := Lib.hid H
  clear hx H
  go_enter Tryz.func54, Tryz.ntmps54
  go_wp2
  go_loop [0, 3] (fun xx kk => ∃ (y : Int) (k g : Nat), xx = .int .i64 y ∧ kk = .int .i64 k ∧ (2 ≤ k ∧ k ≤ 31) ∧ (-200000000000 ≤ y ∧ y ≤ 200000000000) ∧ Hid (y = r * ((g : Int) * g)) ∧ Hid (TlR r g k)) (fun _ kk => 31 - (intOf kk).toNat)
  case atStart => exact ⟨x, 2, h, rfl, by go_num, by omega, hb, HX, HH⟩
  case round =>
    clear HX HH hb
    obtain ⟨y, k, g, rfl, rfl, hk, hy, HX, HH⟩ := hrel
    by_cases hlt : k ≤ 30
    · have hkk : (4 : Int) ≤ (k : Int) * k ∧ (k : Int) * k ≤ 900 := ⟨by have := Int.mul_le_mul (show (2 : Int) ≤ k by omega) (show (2 : Int) ≤ k by omega) (by omega) (by omega); omega, by have := Int.mul_le_mul (show (k : Int) ≤ 30 by omega) (show (k : Int) ≤ 30 by omega) (by omega) (by omega); omega⟩
      go_wp2
      go_loop [0] (fun xx => ∃ (y : Int) (g : Nat), xx = .int .i64 y ∧ (-200000000000 ≤ y ∧ y ≤ 200000000000) ∧ Hid (y = r * ((g : Int) * g)) ∧ Hid (TlR r g k)) (fun xx => (intOf xx).natAbs)
      case atStart => exact ⟨y, g, rfl, hy, HX, HH⟩
      case round =>
        clear HX HH hy
        obtain ⟨y, g, rfl, hy, HX, HH⟩ := hrel
        have HL := Lib.hid (HH.out.less HX.out hk.1)
        by_cases hd : y.tmod ((k : Int) * k) = 0
        · obtain ⟨g1, g2, g3⟩ := HH.out.yes hk.1 (by rw [← HX.out]; exact hd)
          rw [← HX.out] at g3
          have HX2 := Lib.hid g3
          have HH2 := Lib.hid g1
          have hd' : (y.tmod ((k : Int) * k) == 0) = true := by simpa using hd
          have hyy : -200000000000 ≤ y.tdiv ((k : Int) * k) ∧ y.tdiv ((k : Int) * k) ≤ 200000000000 := by have := HL.out; omega
          clear hd g1 g2 g3 HX HH
          go_wp2
          go_round
          case rel => exact ⟨_, _, rfl, hyy, HX2, HH2⟩
          case measure => simpa [intOf] using HL.out
        · have HH2 := Lib.hid (HH.out.no hk.1 (by rw [← HX.out]; exact hd))
          have hd' : (y.tmod ((k : Int) * k) == 0) = false := by simpa using hd
          clear hd
          go_wp2
          go_round
          case rel => exact ⟨y, k + 1, g, rfl, by go_num, by omega, hy, HX, HH2⟩
          case measure => simp [intOf]; omega
    · obtain rfl : k = 31 := by omega
      have hg := HH.out.end
      have hyr : y = r := by have := HX.out; rw [hg] at this; simpa using this
      subst hyr
      clear hg HX HH
      go_wp2
      go_ret
      exact ⟨rfl, rfl⟩
noncomputable def toO (L : List (Int × Int)) : Bool := logB L && inB (tolL L) (-1000000) 1000000
noncomputable def toV (L : List (Int × Int)) : Int := if toO L then tolL L else 0
theorem stepB_tw {k v : Int} (h : stepB k v = true) : k = 0 ∨ k = 1 ∨ ((k = 2 ∨ k = 3) ∧ Tw30 v ∧ v.natAbs ≤ 30) := by
  rcases stepB_cases h with ⟨h, _⟩ | ⟨h, _⟩ | ⟨h, h2, _⟩ | ⟨h, h2, _⟩
  · exact .inl h
  · exact .inr (.inl h)
  · exact .inr (.inr ⟨.inl h, tw30_of h2⟩)
  · exact .inr (.inr ⟨.inr h, tw30_of h2⟩)
theorem toE0 {L : List (Int × Int)} (h : toO L = false) : Ending.returned (.tuple #[.int .i64 0, .bool false]) = .returned (.tuple #[.int .i64 (toV L), .bool (toO L)]) := by unfold toV; rw [h]; rfl
theorem toE1 {L : List (Int × Int)} {D : Int} (h : toO L = true) (hd : D = tolL L) : Ending.returned (.tuple #[.int .i64 D, .bool true]) = .returned (.tuple #[.int .i64 (toV L), .bool (toO L)]) := by unfold toV; rw [h, hd]; rfl
theorem toO0 {L : List (Int × Int)} (h : logB L = false) : toO L = false := by unfold toO; rw [h]; rfl
theorem toO1 {L : List (Int × Int)} {D : Int} (h : logB L = true) (hd : D = tolL L) : toO L = inB D (-1000000) 1000000 := by unfold toO; rw [h, hd]; rfl
set_option maxHeartbeats 1000000 in
theorem c_sTwistOfLog (base : Nat) (v : Value) (L : List (Int × Int)) (hL : L.length ≤ 100000000) (w : World) (hown : OwnsS w base v L) :
    Calls Tryz.prog 19 #[v] w fun e w' => e = .returned (.tuple #[.int .i64 (toV L), .bool (toO L)]) ∧ Below w.heap.size w w' := by
  cases h0 : logB L
  · have HO := Lib.hid (toO0 h0)
    have H0 := Lib.hid (c_tlLog base v L hL)
    rw [h0] at H0
    go_enter Tryz.func19, Tryz.ntmps19
    go_wp2_with ((go_at_call 30; refine (H0.out _ hown).mono ?_; rintro e w1 ⟨rfl, hb1⟩; obtain ⟨hc1, hf1⟩ := bcell hb1; have hz1 := hb1.size; (try simp only [World.size_alloc] at hz1); (try (have hy1 : w.heap.size < w1.heap.size := by omega)); (try (have hx1 := Nat.lt_of_succ_le hz1)); (try (have hv1 := Nat.lt_of_succ_le (Nat.le_of_lt hx1)))))
    go_ret2
    refine ⟨toE0 HO.out, ?_⟩
    (repeat' (first | (with_reducible exact Below.refl _ _) | (with_reducible refine below_step (by assumption) ?_ ?_) | (with_reducible refine Below.alloc ?_ ?_ _) | (with_reducible refine Below.setCell ?_ ?_ _) | (with_reducible refine below_drewN ?_ _) | (with_reducible refine Below.drew ?_) | omega | (simp; omega) | (simp; done)))
  · have H0 := Lib.hid (c_tlLog base v L hL)
    rw [h0] at H0
    obtain ⟨hl, hst⟩ := logB_of h0
    have HO : Hid (∀ D : Int, D = tolL L → toO L = inB D (-1000000) 1000000) := fun D hd => toO1 h0 hd
    have HK : Hid (∀ k (hk : k < L.length), stepB L[k].1 L[k].2 = true) := hst
    clear hst h0
    go_enter Tryz.func19, Tryz.ntmps19
    go_wp2_with fail
    (go_at_call 30; refine (H0.out _ hown).mono ?_; rintro e w1 ⟨rfl, hb1⟩; obtain ⟨hc1, hf1⟩ := bcell hb1; have hz1 := hb1.size; (try simp only [World.size_alloc] at hz1); (try (have hy1 : w.heap.size < w1.heap.size := by omega)); (try (have hx1 := Nat.lt_of_succ_le hz1)); (try (have hv1 := Nat.lt_of_succ_le (Nat.le_of_lt hx1))))
    obtain ⟨a, cap, rfl, hform⟩ := OwnsP.form (OwnsP.below hown hb1)
    have HF := Lib.hid hform
    clear hform hown H0
    have hw1 := hb1.size
    go_wp2
    go_loopw [4, 12] (fun d i wr => ∃ (k : Nat) (D : Int), k ≤ L.length ∧ i = .int .i64 k ∧ d = .int .i64 D ∧ Hid (D = tolL (L.take k)) ∧ Hid (Tw30 D) ∧ Below w1.heap.size w1 wr) (fun _ i _ => L.length - (intOf i).toNat)
    case atStart => exact ⟨0, 1, Nat.zero_le _, rfl, rfl, rfl, Tw30.one, Below.refl _ _⟩
    case round =>
      obtain ⟨k, D, hk, rfl, rfl, HD, HT, hbr⟩ := hrel
      have hzr := hbr.size
      by_cases hlt : k < L.length
      · obtain ⟨g, rfl, q1, q2, _, hg, _⟩ := HF.out k hlt
        have d1 : wr.cell? ⟨g, k * 2, none⟩ = _ := (hbr.cell (p := ⟨g, k * 2, none⟩) hg).trans q1
        have d2 : wr.cell? ⟨g, k * 2 + 1, none⟩ = _ := (hbr.cell (p := ⟨g, k * 2 + 1, none⟩) hg).trans q2
        have hx := stepB_tw (HK.out k hlt)
        have HS : Hid (tolL (L.take (k + 1)) = tolF D L[k]) := by show _ = _; rw [tolL_take L hlt, HD.out]
        have hT := HT.out.bd
        clear q1 q2
        generalize L[k] = c at d1 d2 hx HS
        obtain ⟨x, y⟩ := c
        simp only at d1 d2 hx
        have hA := (Below.refl wr.heap.size wr).alloc (Nat.le_refl _) (.cells #[.int .i64 x, .int .i64 y] 44)
        have hb3 := below_step hA hzr hbr
        rcases hx with rfl | rfl | ⟨hx, hv, hv30⟩
        · have HE : Hid (D = tolL (L.take (k + 1))) := HS.out.symm
          go_wp2
          go_roundw
          case rel => exact ⟨k + 1, D, by omega, by go_num, rfl, HE, HT, hb3⟩
          case measure => simp [intOf]; omega
        · have HE : Hid (D = tolL (L.take (k + 1))) := HS.out.symm
          go_wp2
          go_roundw
          case rel => exact ⟨k + 1, D, by omega, by go_num, rfl, HE, HT, hb3⟩
          case measure => simp [intOf]; omega
        · obtain ⟨t1, G, _, t2, t3⟩ := Tw30.step HT.out hv hv30
          have HT2 := Lib.hid t1
          have HC : Hid (∀ w, _) := fun w => c_tlFree (D * y) _ G t2 t3 (by have := mulb (x := D) (y := y) 6469693230 30 (by omega) (by omega); omega) w
          have hmul := mulb (x := D) (y := y) 6469693230 30 (by omega) (by omega)
          have HE : Hid (tlStep D y = tolL (L.take (k + 1))) := by show _ = _; rw [HS.out]; unfold tolF; rw [if_pos hx]
          clear t1 t2 t3 hv HS HD HT
          generalize tlStep D y = R at HT2 HC HE
          rcases hx with rfl | rfl
          all_goals
            go_wp2_with (go_at_call 54; refine (HC.out _).mono ?_; rintro e w' ⟨rfl, rfl⟩)
            go_roundw
            case rel => exact ⟨k + 1, R, by omega, by go_num, rfl, HE, HT2, hb3⟩
            case measure => simp [intOf]; omega
      · obtain rfl : k = L.length := by omega
        rw [List.take_length] at HD
        have hbl : Below w.heap.size w wr := below_step hbr hw1 hb1
        have HP := Lib.hid (HO.out D HD.out)
        have HCI : Hid (∀ w, _) := fun w => c_l1In D (-1000000) 1000000 w
        cases hin : inB D (-1000000) 1000000
        · rw [hin] at HCI HP
          clear hin
          go_wp2_with (go_at_call 55; refine (HCI.out _).mono ?_; rintro e w' ⟨rfl, rfl⟩)
          go_ret2
          exact ⟨toE0 HP.out, hbl⟩
        · rw [hin] at HCI HP
          clear hin
          go_wp2_with (go_at_call 55; refine (HCI.out _).mono ?_; rintro e w' ⟨rfl, rfl⟩)
          go_ret2
          exact ⟨toE1 HP.out HD.out, hbl⟩
set_option maxHeartbeats 1000000 in
theorem c_iTwistOfLog (base : Nat) (v : Value) (L : List (Int × Int)) (hL : L.length ≤ 100000000) (w : World) (hown : OwnsS w base v L) :
    Calls Tryz.prog 18 #[v] w fun e w' => e = .returned (.tuple #[.int .i64 (toV L), .bool (toO L)]) ∧ Below w.heap.size w w' := by
  cases h0 : logB L
  · have HO := Lib.hid (toO0 h0)
    have H0 := Lib.hid (c_isLog base v L hL)
    rw [h0] at H0
    go_enter Tryz.func18, Tryz.ntmps18
    go_wp2_with ((go_at_call 28; refine (H0.out _ hown).mono ?_; rintro e w1 ⟨rfl, hb1⟩; obtain ⟨hc1, hf1⟩ := bcell hb1; have hz1 := hb1.size; (try simp only [World.size_alloc] at hz1); (try (have hy1 : w.heap.size < w1.heap.size := by omega)); (try (have hx1 := Nat.lt_of_succ_le hz1)); (try (have hv1 := Nat.lt_of_succ_le (Nat.le_of_lt hx1)))))
    go_ret2
    refine ⟨toE0 HO.out, ?_⟩
    (repeat' (first | (with_reducible exact Below.refl _ _) | (with_reducible refine below_step (by assumption) ?_ ?_) | (with_reducible refine Below.alloc ?_ ?_ _) | (with_reducible refine Below.setCell ?_ ?_ _) | (with_reducible refine below_drewN ?_ _) | (with_reducible refine Below.drew ?_) | omega | (simp; omega) | (simp; done)))
  · have H0 := Lib.hid (c_isLog base v L hL)
    rw [h0] at H0
    obtain ⟨hl, hst⟩ := logB_of h0
    have HO : Hid (∀ D : Int, D = tolL L → toO L = inB D (-1000000) 1000000) := fun D hd => toO1 h0 hd
    have HK : Hid (∀ k (hk : k < L.length), stepB L[k].1 L[k].2 = true) := hst
    clear hst h0
    go_enter Tryz.func18, Tryz.ntmps18
    go_wp2_with fail
    (go_at_call 28; refine (H0.out _ hown).mono ?_; rintro e w1 ⟨rfl, hb1⟩; obtain ⟨hc1, hf1⟩ := bcell hb1; have hz1 := hb1.size; (try simp only [World.size_alloc] at hz1); (try (have hy1 : w.heap.size < w1.heap.size := by omega)); (try (have hx1 := Nat.lt_of_succ_le hz1)); (try (have hv1 := Nat.lt_of_succ_le (Nat.le_of_lt hx1))))
    obtain ⟨a, cap, rfl, hform⟩ := OwnsP.form (OwnsP.below hown hb1)
    have HF := Lib.hid hform
    clear hform hown H0
    have hw1 := hb1.size
    go_wp2
    go_loopw [4, 13] (fun d i wr => ∃ (k : Nat) (D : Int), k ≤ L.length ∧ i = .int .i64 k ∧ d = .int .i64 D ∧ Hid (D = tolL (L.take k)) ∧ Hid (Tw30 D) ∧ Below w1.heap.size w1 wr) (fun _ i _ => L.length - (intOf i).toNat)
    case atStart => exact ⟨0, 1, Nat.zero_le _, rfl, rfl, rfl, Tw30.one, Below.refl _ _⟩
    case round =>
      obtain ⟨k, D, hk, rfl, rfl, HD, HT, hbr⟩ := hrel
      have hzr := hbr.size
      by_cases hlt : k < L.length
      · obtain ⟨g, rfl, q1, q2, _, hg, _⟩ := HF.out k hlt
        have d1 : wr.cell? ⟨g, k * 2, none⟩ = _ := (hbr.cell (p := ⟨g, k * 2, none⟩) hg).trans q1
        have d2 : wr.cell? ⟨g, k * 2 + 1, none⟩ = _ := (hbr.cell (p := ⟨g, k * 2 + 1, none⟩) hg).trans q2
        have hx := stepB_tw (HK.out k hlt)
        have HS : Hid (tolL (L.take (k + 1)) = tolF D L[k]) := by show _ = _; rw [tolL_take L hlt, HD.out]
        have hT := HT.out.bd
        clear q1 q2
        generalize L[k] = c at d1 d2 hx HS
        obtain ⟨x, y⟩ := c
        simp only at d1 d2 hx
        have hA := (Below.refl wr.heap.size wr).alloc (Nat.le_refl _) (.cells #[.int .i64 x, .int .i64 y] 44)
        have hb3 := below_step hA hzr hbr
        rcases hx with rfl | rfl | ⟨hx, hv, hv30⟩
        · have HE : Hid (D = tolL (L.take (k + 1))) := HS.out.symm
          go_wp2
          go_roundw
          case rel => exact ⟨k + 1, D, by omega, by go_num, rfl, HE, HT, hb3⟩
          case measure => simp [intOf]; omega
        · have HE : Hid (D = tolL (L.take (k + 1))) := HS.out.symm
          go_wp2
          go_roundw
          case rel => exact ⟨k + 1, D, by omega, by go_num, rfl, HE, HT, hb3⟩
          case measure => simp [intOf]; omega
        · obtain ⟨t1, G, ⟨g1, g2, g3⟩, _, _⟩ := Tw30.step HT.out hv hv30
          have HT2 := Lib.hid t1
          have hvb := hv.bd
          have HE : Hid (tlStep D y = tolL (L.take (k + 1))) := by show _ = _; rw [HS.out]; unfold tolF; rw [if_pos hx]
          have HRB := Lib.hid t1.bd
          have HC : Hid (∀ w, _) := fun w => c_gcd D y (by omega) (by omega) w
          have e1 : gcdI D y = (G : Int) := by unfold gcdI; rw [g1]
          have e2 : tlStep D y = D.tdiv G * y.tdiv G := by unfold tlStep; rw [g1]
          rw [e1] at HC
          rw [e2] at HE HT2 HRB
          have hGz : ((G : Int) == 0) = false := by simp; omega
          have b1 : (D.tdiv (G : Int)).natAbs ≤ D.natAbs := by rw [Int.natAbs_tdiv]; exact Nat.div_le_self _ _
          have b2 : (y.tdiv (G : Int)).natAbs ≤ y.natAbs := by rw [Int.natAbs_tdiv]; exact Nat.div_le_self _ _
          have k1 : IntKind.i64.wrap (D.tdiv (G : Int)) = D.tdiv (G : Int) := IntWalk.i64_in _ (by omega)
          have k2 : IntKind.i64.wrap (y.tdiv (G : Int)) = y.tdiv (G : Int) := IntWalk.i64_in _ (by omega)
          have k3 : IntKind.i64.wrap (D.tdiv (G : Int) * y.tdiv (G : Int)) = D.tdiv (G : Int) * y.tdiv (G : Int) := IntWalk.i64_in _ (by have := HRB.out; omega)
          have kS := Blk.new wr #[.int .i64 x, .int .i64 y] 44
          clear t1 hv HS HD HT e1 e2 g1 b1 b2
          rcases hx with rfl | rfl
          all_goals
            go_wp2_with (go_at_call 52; refine (HC.out _).mono ?_; rintro e w' ⟨rfl, kd, rfl⟩)
            have kW := kS.drewN kd
            have hbW := below_drewN hb3 kd
            generalize (wr.alloc _).drewN kd = W at *
            have c0 := kW.cell 0
            have c1 := kW.cell 1
            simp only [List.getElem?_toArray, List.getElem?_cons_zero, List.getElem?_cons_succ] at c0 c1
            have hlW := kW.lt
            (refine wp_region_clq (by kernel_rfl) (by kernel_rfl) ?_; (repeat (go_big_quiet_step (fail))); refine wpQuiet_nil ?_; intro w2 hb2; obtain ⟨hc2, hf2⟩ := bcell hb2; have hz2 := hb2.size; (try simp only [World.size_alloc] at hz2))
            have hb4 : Below w1.heap.size w1 w2 := below_step hb2 hbW.size hbW
            go_wp2
            go_roundw
            case rel => exact ⟨k + 1, _, by omega, by go_num, rfl, HE, HT2, hb4⟩
            case measure => simp [intOf]; omega
      · obtain rfl : k = L.length := by omega
        rw [List.take_length] at HD
        have hbl : Below w.heap.size w wr := below_step hbr hw1 hb1
        have HP := Lib.hid (HO.out D HD.out)
        have HCI : Hid (∀ w, _) := fun w => c_inside D (-1000000) 1000000 w
        cases hin : inB D (-1000000) 1000000
        · rw [hin] at HCI HP
          clear hin
          go_wp2_with (go_at_call 53; refine (HCI.out _).mono ?_; rintro e w' ⟨rfl, rfl⟩)
          go_ret2
          exact ⟨toE0 HP.out, hbl⟩
        · rw [hin] at HCI HP
          clear hin
          go_wp2_with (go_at_call 53; refine (HCI.out _).mono ?_; rintro e w' ⟨rfl, rfl⟩)
          go_ret2
          exact ⟨toE1 HP.out HD.out, hbl⟩
end Go.Proofs.YtpnpidepkfnofaaGreatDoor

/- Prime -/
namespace Go.Proofs.YtpnpidepkfnofaaGreatDoor
open Go.RowKit

theorem root_le {d n : Int} (hd : 0 ≤ d) (h : d * d ≤ n) (hn : n ≤ 1000000000000) : d ≤ 1000000 := by
  rcases Int.lt_or_le 1000000 d with h' | h'
  · have := Int.mul_le_mul (show (1000001 : Int) ≤ d by omega) (show (1000001 : Int) ≤ d by omega) (by omega) (by omega); omega
  · exact h'
noncomputable def goodP (A B p : Int) : Bool := inB p 5 997 && primeB p && !(disc A B % p == 0)
theorem disc_range {A B : Int} (hA : -1000 ≤ A ∧ A ≤ 1000) (hB : -10000 ≤ B ∧ B ≤ 10000) : -7000000000 ≤ disc A B ∧ disc A B ≤ 7000000000 := by
  have := disc_bd hA hB; unfold disc; omega
theorem tmod_bne (a p : Int) : (a.tmod p != 0) = !(a % p == 0) := by
  rw [Bool.eq_iff_iff]
  simp only [bne_iff_ne, ne_eq, Bool.not_eq_true', beq_eq_false_iff_ne]
  constructor
  · intro h e; exact h (Int.tmod_eq_zero_of_dvd (Int.dvd_of_emod_eq_zero e))
  · exact tmod_ne0
where tmod_ne0 {a p : Int} (h : a % p ≠ 0) : a.tmod p ≠ 0 := fun e => h (Int.emod_eq_zero_of_dvd (Int.dvd_of_tmod_eq_zero e))
end Go.Proofs.YtpnpidepkfnofaaGreatDoor

/- Euler -/
namespace Go.Proofs.YtpnpidepkfnofaaGreatDoor
open Go.RowKit
/-! Euler's law for the primes up to 997, reckoned by the kernel -/
def primeN (p : Nat) : Bool := decide (2 ≤ p) && (List.range 32).all fun d => decide (d < 2) || decide (p < d * d) || decide (p % d ≠ 0)
def eulerAll (p : Nat) : Bool := !primeN p || decide (p < 3) || (List.range p).all fun a => (a ^ ((p - 1) / 2)) % p == 0 || (a ^ ((p - 1) / 2)) % p == 1 || (a ^ ((p - 1) / 2)) % p == p - 1
theorem euler_0 : (List.range 400).all eulerAll = true := by decide +kernel
theorem euler_1 : (List.range 250).all (fun k => eulerAll (k + 400)) = true := by decide +kernel
theorem euler_2 : (List.range 200).all (fun k => eulerAll (k + 650)) = true := by decide +kernel
theorem euler_3 : (List.range 150).all (fun k => eulerAll (k + 850)) = true := by decide +kernel
theorem euler_nat (p : Nat) (h : p < 1000) : eulerAll p = true := by
  by_cases h0 : p < 400
  · exact List.all_eq_true.1 euler_0 p (by simpa using h0)
  by_cases h1 : p < 650
  · have := List.all_eq_true.1 euler_1 (p - 400) (by simp; omega)
    rwa [show p - 400 + 400 = p by omega] at this
  by_cases h2 : p < 850
  · have := List.all_eq_true.1 euler_2 (p - 650) (by simp; omega)
    rwa [show p - 650 + 650 = p by omega] at this
  · have := List.all_eq_true.1 euler_3 (p - 850) (by simp; omega)
    rwa [show p - 850 + 850 = p by omega] at this
theorem primeN_of (p : Nat) (h : primeB p = true) (hl : p < 1000) : primeN p = true := by
  obtain ⟨h2, hn⟩ := primeB_true h
  unfold primeN
  rw [Bool.and_eq_true]
  refine ⟨by simpa using (by omega : 2 ≤ p), ?_⟩
  rw [List.all_eq_true]
  intro d hd
  by_cases hd2 : d < 2
  · simp [hd2]
  by_cases hdd : p < d * d
  · simp [hdd]
  · have h1 := hn d (by omega) (by
      have : ((d * d : Nat) : Int) ≤ (p : Nat) := by omega
      simpa using this)
    have h3 : p % d ≠ 0 := fun e => h1 (by
      have : ((p % d : Nat) : Int) = 0 := by omega
      simpa using this)
    simp [h3]
theorem euler (a p : Int) (h : primeB p = true) (h3 : 3 ≤ p) (h1 : p < 1000) :
    powM a ((p - 1) / 2) p = 0 ∨ powM a ((p - 1) / 2) p = 1 ∨ powM a ((p - 1) / 2) p = p - 1 := by
  obtain ⟨q, rfl⟩ := Int.eq_ofNat_of_zero_le (show 0 ≤ p by omega)
  obtain ⟨b, hb⟩ := Int.eq_ofNat_of_zero_le (Int.emod_nonneg a (show (q : Int) ≠ 0 by omega))
  have hlt := Int.emod_lt_of_pos a (show (0 : Int) < q by omega)
  have hp := primeN_of q h (by omega)
  have he := euler_nat q (by omega)
  unfold eulerAll at he
  rw [hp] at he
  have hq3 : ¬ q < 3 := by omega
  simp only [hq3, decide_false, Bool.not_true, Bool.false_or, Bool.or_false] at he
  have hb2 := List.all_eq_true.1 he b (by simp; omega)
  have e : powM a (((q : Int) - 1) / 2) q = ((b ^ ((q - 1) / 2) % q : Nat) : Int) := by
    unfold powM
    rw [← pow_mod, hb]
    have : (((q : Int) - 1) / 2).toNat = (q - 1) / 2 := by omega
    rw [this]; simp
  rw [e]
  simp only [Bool.or_eq_true, beq_iff_eq] at hb2
  omega
theorem sym_eq (a p : Int) (h : primeB p = true) (h3 : 3 ≤ p) (h1 : p < 1000) : symI a p = symS a p := by
  unfold symI symS symN
  rcases euler a p h h3 h1 with e | e | e <;> rw [e]
  · rw [if_pos rfl, if_neg (by omega)]
  · rw [if_neg (by omega), if_pos rfl, if_neg (by omega)]
  · rw [if_neg (by omega), if_neg (by omega), if_pos rfl]
end Go.Proofs.YtpnpidepkfnofaaGreatDoor

/- Table -/
namespace Go.Proofs.YtpnpidepkfnofaaGreatDoor
open Go.RowKit

theorem keep2 {w W w1 : World} {b B : Nat} {v0 v1 : Value} (h : W.cell? ⟨b, 0, none⟩ = some v0 ∧ W.cell? ⟨b, 1, none⟩ = some v1 ∧ b < W.heap.size ∧ B ≤ W.heap.size ∧ Below B w W) (hb : Below W.heap.size W w1) :
    w1.cell? ⟨b, 0, none⟩ = some v0 ∧ w1.cell? ⟨b, 1, none⟩ = some v1 ∧ b < w1.heap.size ∧ B ≤ w1.heap.size ∧ Below B w w1 :=
  ⟨(hb.cell (p := ⟨b, 0, none⟩) h.2.2.1).trans h.1, (hb.cell (p := ⟨b, 1, none⟩) h.2.2.1).trans h.2.1, Nat.lt_of_lt_of_le h.2.2.1 hb.size, Nat.le_trans h.2.2.2.1 hb.size, h.2.2.2.2.trans (hb.mono h.2.2.2.1)⟩
theorem keep2d {w W : World} {b B n : Nat} {v0 v1 : Value} (h : W.cell? ⟨b, 0, none⟩ = some v0 ∧ W.cell? ⟨b, 1, none⟩ = some v1 ∧ b < W.heap.size ∧ B ≤ W.heap.size ∧ Below B w W) :
    (W.drewN n).cell? ⟨b, 0, none⟩ = some v0 ∧ (W.drewN n).cell? ⟨b, 1, none⟩ = some v1 ∧ b < (W.drewN n).heap.size ∧ B ≤ (W.drewN n).heap.size ∧ Below B w (W.drewN n) :=
  ⟨h.1, h.2.1, h.2.2.1, h.2.2.2.1, below_drewN h.2.2.2.2 n⟩
theorem ret_int {k : IntKind} {a b : Int} (h : a = b) : Ending.returned (.int k a) = .returned (.int k b) := by rw [h]
def invV (p A B : Int) : Int := (6912 * A * A * A % p) * invM (disc A B) p % p
theorem cube_bd {A : Int} (h : 0 ≤ A) (h1 : A ≤ 1000) : (0 ≤ 6912 * A * A ∧ 6912 * A * A ≤ 6912000000) ∧ (0 ≤ 6912 * A * A * A ∧ 6912 * A * A * A ≤ 6912000000000) := by
  have e1 : 0 ≤ 6912 * A * A := Int.mul_nonneg (by omega) h
  have e2 : 6912 * A * A ≤ 6912000 * 1000 := Int.mul_le_mul (by omega) h1 h (by omega)
  have e3 : 6912 * A * A * A ≤ 6912000000 * 1000 := Int.mul_le_mul (by omega) h1 h (by omega)
  exact ⟨⟨e1, by omega⟩, Int.mul_nonneg e1 h, by omega⟩
theorem invM_bd (a p : Int) (h : 1 ≤ p) : 0 ≤ invM a p ∧ invM a p < p := powM_bd _ _ _ h
theorem mod_bd (a p : Int) (h : 1 ≤ p) : 0 ≤ a % p ∧ a % p < p := ⟨Int.emod_nonneg _ (by omega), Int.emod_lt_of_pos _ (by omega)⟩
noncomputable def tabP (p : Int) : Bool := inB p 5 31 && primeB p
noncomputable def tabB (p A B : Int) : Bool := tabP p && inB A 0 (p - 1) && inB B 0 (p - 1) && !(disc A B % p == 0)
theorem tabP_of {p : Int} (h : tabP p = true) : 5 ≤ p ∧ p ≤ 31 ∧ primeB p = true := by unfold tabP at h; simp at h; exact ⟨(inB_true h.1).1, (inB_true h.1).2, h.2⟩
theorem tabB_of {p A B : Int} (h : tabB p A B = true) : (5 ≤ p ∧ p ≤ 31) ∧ primeB p = true ∧ (0 ≤ A ∧ A ≤ p - 1) ∧ (0 ≤ B ∧ B ≤ p - 1) := by
  unfold tabB at h; simp at h
  exact ⟨⟨(tabP_of h.1.1.1).1, (tabP_of h.1.1.1).2.1⟩, (tabP_of h.1.1.1).2.2, inB_true h.1.1.2, inB_true h.1.2⟩
end Go.Proofs.YtpnpidepkfnofaaGreatDoor

/- Twm -/
namespace Go.Proofs.YtpnpidepkfnofaaGreatDoor
open Go.RowKit

/-! the least residue that is no square -/
def nrN (p : Nat) : Nat := ((List.range 32).find? fun d => d ^ ((p - 1) / 2) % p == p - 1).getD 0
def nrOk (p : Nat) : Bool := !primeN p || decide (p < 5) || (decide (2 ≤ nrN p) && decide (nrN p ≤ 11) && (nrN p ^ ((p - 1) / 2) % p == p - 1) && (List.range 12).all fun d => decide (nrN p ≤ d) || decide (d < 1) || d ^ ((p - 1) / 2) % p == 1)
theorem nr_all : ∀ p : Nat, p < 32 → nrOk p = true := by decide +kernel
def nr (p : Int) : Int := nrN p.toNat
theorem powM_nat (d p : Nat) : powM d (((p : Int) - 1) / 2) p = ((d ^ ((p - 1) / 2) % p : Nat) : Int) := by
  unfold powM
  rw [show (((p : Int) - 1) / 2).toNat = (p - 1) / 2 by omega]; simp
theorem nr_facts {p : Int} (h : tabP p = true) : 2 ≤ nr p ∧ nr p ≤ 11 ∧ symI (nr p) p = -1 ∧ symS (nr p) p = -1 ∧ ∀ d : Int, 1 ≤ d → d < nr p → symI d p = 1 ∧ symS d p = 1 := by
  obtain ⟨h5, h31, hp⟩ := tabP_of h
  obtain ⟨q, rfl⟩ := Int.eq_ofNat_of_zero_le (show 0 ≤ p by omega)
  have ha := nr_all q (by omega)
  unfold nrOk at ha
  rw [primeN_of q hp (by omega)] at ha
  have hq : ¬ q < 5 := by omega
  simp only [hq, Bool.not_true, decide_false, Bool.false_or, Bool.and_eq_true, decide_eq_true_eq, beq_iff_eq] at ha
  obtain ⟨⟨⟨h2, h11⟩, hn⟩, hall⟩ := ha
  have e : nr (q : Int) = (nrN q : Nat) := by unfold nr; simp
  have hm := powM_nat (nrN q) q
  rw [hn] at hm
  refine ⟨by omega, by omega, ?_, ?_, fun d hd1 hd2 => ?_⟩
  · rw [e]; unfold symI; rw [hm, if_neg (by omega), if_neg (by omega)]
  · rw [e]; unfold symS symN; rw [hm, if_pos (by omega)]
  · obtain ⟨c, rfl⟩ := Int.eq_ofNat_of_zero_le (show 0 ≤ d by omega)
    have hc := List.all_eq_true.1 hall c (by simp; omega)
    have h1 : ¬ nrN q ≤ c := by omega
    have h2 : ¬ c < 1 := by omega
    simp only [h1, h2, decide_false, Bool.false_or, beq_iff_eq] at hc
    have hd := powM_nat c q
    rw [hc] at hd
    constructor
    · unfold symI; rw [hd, if_neg (by omega), if_pos (by omega)]
    · unfold symS symN; rw [hd, if_neg (by omega)]; rfl
def twA (p A : Int) : Int := A * nr p * nr p % p
def twB (p B : Int) : Int := B * nr p * nr p * nr p % p
theorem tw_bd {A d : Int} (h : 0 ≤ A ∧ A ≤ 1000) (hd : 0 ≤ d ∧ d ≤ 11) : (0 ≤ A * d ∧ A * d ≤ 11000) ∧ (0 ≤ A * d * d ∧ A * d * d ≤ 121000) ∧ (0 ≤ A * d * d * d ∧ A * d * d * d ≤ 1331000) := by
  have a1 : 0 ≤ A * d := Int.mul_nonneg h.1 hd.1
  have a2 : A * d ≤ 1000 * 11 := Int.mul_le_mul h.2 hd.2 hd.1 (by omega)
  have a3 : 0 ≤ A * d * d := Int.mul_nonneg a1 hd.1
  have a4 : A * d * d ≤ 11000 * 11 := Int.mul_le_mul (by omega) hd.2 hd.1 (by omega)
  have a5 : A * d * d * d ≤ 121000 * 11 := Int.mul_le_mul (by omega) hd.2 hd.1 (by omega)
  exact ⟨⟨a1, by omega⟩, ⟨a3, by omega⟩, Int.mul_nonneg a3 hd.1, by omega⟩
end Go.Proofs.YtpnpidepkfnofaaGreatDoor

/- Small -/
namespace Go.Proofs.YtpnpidepkfnofaaGreatDoor
open Go.RowKit

theorem pow_bds {u : Int} (h : 1 ≤ u) (h1 : u ≤ 10) : (1 ≤ u * u ∧ u * u ≤ 100) ∧ (1 ≤ u * u * u ∧ u * u * u ≤ 1000) ∧ (1 ≤ u * u * u * u ∧ u * u * u * u ≤ 10000) ∧ (1 ≤ u * u * u * u * u ∧ u * u * u * u * u ≤ 100000) ∧ (1 ≤ u * u * u * u * u * u ∧ u * u * u * u * u * u ≤ 1000000) := by
  rcases (by omega : u = 1 ∨ u = 2 ∨ u = 3 ∨ u = 4 ∨ u = 5 ∨ u = 6 ∨ u = 7 ∨ u = 8 ∨ u = 9 ∨ u = 10) with rfl | rfl | rfl | rfl | rfl | rfl | rfl | rfl | rfl | rfl <;> decide
theorem disc_ne {A B : Int} (h : curveB A B = true) : A ≠ 0 ∨ B ≠ 0 := by
  rcases Decidable.em (A = 0) with rfl | hA
  · right; rintro rfl
    revert h; decide
  · exact .inl hA
theorem q_bd {A m : Int} (hA : -10000 ≤ A ∧ A ≤ 10000) (_hm : 1 ≤ m) : -10000 ≤ A.tdiv m ∧ A.tdiv m ≤ 10000 := by
  have h := Int.natAbs_tdiv_le_natAbs A m
  omega
set_option maxHeartbeats 1000000 in
theorem c_smallest (A B : Int) (hc : curveB A B = true) (w : World) :
    Calls Tryz.prog 47 #[.agg #[.int .i64 A, .int .i64 B]] w fun e w' => e = .returned (.tuple #[.agg #[.int .i64 (sm4 A (smU A B)), .int .i64 (sm6 B (smU A B))], .int .i64 (smU A B)]) ∧ Below w.heap.size w w' := by
  obtain ⟨hA, hB⟩ := (by unfold curveB at hc; simp at hc; exact ⟨inB_true hc.1.1, inB_true hc.1.2⟩ : (-1000 ≤ A ∧ A ≤ 1000) ∧ (-10000 ≤ B ∧ B ≤ 10000))
  have HM := Lib.hid (fun u => @smU_max A B u hA hB (disc_ne hc))
  have hsm := smU_bd A B
  have HD : Hid (dvB A B (smU A B) = true) := bestF_dv A B 4
  clear hc
  go_enter Tryz.func47, Tryz.ntmps47
  go_wp2
  go_loop [4] (fun x => ∃ u : Int, x = .int .i64 u ∧ smU A B ≤ u ∧ u ≤ 10) (fun x => (intOf x).toNat)
  case atStart => exact ⟨10, rfl, by omega, by omega⟩
  case round =>
    obtain ⟨u, rfl, hu, hu10⟩ := hrel
    obtain ⟨p2, p3, p4, p5, p6⟩ := pow_bds (show 1 ≤ u by omega) hu10
    by_cases he : smU A B < u
    · have hd := HM.out u he hu10
      unfold dvB at hd
      cases ht : (A % (u * u * u * u) == 0)
      · have h1 : (A.tmod (u * u * u * u) == 0) = false := by rw [tmod_beq]; exact ht
        clear hd ht
        go_wp2
        go_round
        case rel => exact ⟨u - 1, rfl, by omega, by omega⟩
        case measure => simp [intOf]; omega
      · have h1 : (A.tmod (u * u * u * u) == 0) = true := by rw [tmod_beq]; exact ht
        have h2 : (B.tmod (u * u * u * u * u * u) == 0) = false := by rw [tmod_beq]; rw [ht] at hd; simpa using hd
        clear hd ht
        go_wp2
        go_round
        case rel => exact ⟨u - 1, rfl, by omega, by omega⟩
        case measure => simp [intOf]; omega
    · obtain rfl : u = smU A B := by omega
      have hd := HD.out
      unfold dvB at hd
      simp only [Bool.and_eq_true] at hd
      have h1 : (A.tmod (smU A B * smU A B * smU A B * smU A B) == 0) = true := by rw [tmod_beq]; exact hd.1
      have h2 : (B.tmod (smU A B * smU A B * smU A B * smU A B * smU A B * smU A B) == 0) = true := by rw [tmod_beq]; exact hd.2
      have E1 := Lib.hid (tdiv_eq (by simpa using hd.1))
      have E2 := Lib.hid (tdiv_eq (by simpa using hd.2))
      have b1 := q_bd (A := A) (m := smU A B * smU A B * smU A B * smU A B) (by omega) (by omega)
      have b2 := q_bd (A := B) (m := smU A B * smU A B * smU A B * smU A B * smU A B * smU A B) (by omega) (by omega)
      clear hd HM HD he hu hu10
      go_wp2
      go_region
      all_goals go_wp2
      all_goals
        rw [E1.out, E2.out]
        refine bodyPost_ret (v := .tuple #[.agg #[.int .i64 (A / (smU A B * smU A B * smU A B * smU A B)), .int .i64 (B / (smU A B * smU A B * smU A B * smU A B * smU A B * smU A B))], .int .i64 (smU A B)]) (by simp [results, Tryz.results47, go_sem]) rfl ⟨rfl, ?_⟩
        (repeat' (first | (with_reducible exact Below.refl _ _) | (with_reducible refine below_step (by assumption) ?_ ?_) | (with_reducible refine Below.alloc ?_ ?_ _) | (with_reducible refine Below.setCell ?_ ?_ _) | (with_reducible refine below_drewN ?_ _) | (with_reducible refine Below.drew ?_) | omega | (simp; omega) | (simp; done)))
theorem sq4 (b : Int) : b * b * (b * b) = b * b * b * b := by simp only [Int.mul_assoc]
theorem sq6 (b : Int) : b * b * (b * b) * (b * b) = b * b * b * b * b * b := by simp only [Int.mul_assoc]
set_option maxHeartbeats 1000000 in
theorem c_ecSmallest (A B : Int) (hc : curveB A B = true) (w : World) :
    Calls Tryz.prog 48 #[.agg #[.int .i64 A, .int .i64 B]] w fun e w' => e = .returned (.tuple #[.agg #[.int .i64 (sm4 A (smU A B)), .int .i64 (sm6 B (smU A B))], .int .i64 (smU A B)]) ∧ Below w.heap.size w w' := by
  obtain ⟨hA, hB⟩ := (by unfold curveB at hc; simp at hc; exact ⟨inB_true hc.1.1, inB_true hc.1.2⟩ : (-1000 ≤ A ∧ A ≤ 1000) ∧ (-10000 ≤ B ∧ B ≤ 10000))
  have hsm := smU_bd A B
  have HD : Hid (dvB A B (smU A B) = true) := bestF_dv A B 4
  clear hc
  go_enter Tryz.func48, Tryz.ntmps48
  go_wp2
  go_loop [4, 5] (fun b x => ∃ k : Nat, k ≤ 4 ∧ b = .int .i64 (bestF A B k) ∧ x = .int .i64 ((k : Int) + 2)) (fun _ x => (6 - intOf x).toNat)
  case atStart => exact ⟨0, by omega, rfl, rfl⟩
  case round =>
    obtain ⟨k, hk, rfl, rfl⟩ := hrel
    by_cases hlt : k < 4
    · obtain ⟨u, hu⟩ : ∃ u : Int, u = (k : Int) + 2 := ⟨_, rfl⟩
      obtain ⟨p2, p3, p4, p5, p6⟩ := pow_bds (u := (k : Int) + 2) (by omega) (by omega)
      have HB : Hid (bestF A B (k + 1) = if dvB A B ((k : Int) + 2) = true then (k : Int) + 2 else bestF A B k) := rfl
      cases ht : (A % (((k : Int) + 2) * ((k : Int) + 2) * ((k : Int) + 2) * ((k : Int) + 2)) == 0)
      · have hd : dvB A B ((k : Int) + 2) = false := by unfold dvB; rw [ht]; rfl
        have h1 : (A.tmod (((k : Int) + 2) * ((k : Int) + 2) * ((k : Int) + 2) * ((k : Int) + 2)) == 0) = false := by rw [tmod_beq]; exact ht
        have HC : Hid (bestF A B (k + 1) = bestF A B k) := by show _ = _; rw [HB.out, hd]; rfl
        clear ht hd hu
        go_wp2
        go_round
        case rel => exact ⟨k + 1, by omega, by rw [HC.out], by go_num⟩
        case measure => simp [intOf]; omega
      · have h1 : (A.tmod (((k : Int) + 2) * ((k : Int) + 2) * ((k : Int) + 2) * ((k : Int) + 2)) == 0) = true := by rw [tmod_beq]; exact ht
        cases hs : (B % (((k : Int) + 2) * ((k : Int) + 2) * ((k : Int) + 2) * ((k : Int) + 2) * ((k : Int) + 2) * ((k : Int) + 2)) == 0)
        · have hd : dvB A B ((k : Int) + 2) = false := by unfold dvB; rw [ht, hs]; rfl
          have h2 : (B.tmod (((k : Int) + 2) * ((k : Int) + 2) * ((k : Int) + 2) * ((k : Int) + 2) * ((k : Int) + 2) * ((k : Int) + 2)) == 0) = false := by rw [tmod_beq]; exact hs
          have HC : Hid (bestF A B (k + 1) = bestF A B k) := by show _ = _; rw [HB.out, hd]; rfl
          clear ht hs hd hu
          go_wp2
          go_round
          case rel => exact ⟨k + 1, by omega, by rw [HC.out], by go_num⟩
          case measure => simp [intOf]; omega
        · have hd : dvB A B ((k : Int) + 2) = true := by unfold dvB; rw [ht, hs]; rfl
          have h2 : (B.tmod (((k : Int) + 2) * ((k : Int) + 2) * ((k : Int) + 2) * ((k : Int) + 2) * ((k : Int) + 2) * ((k : Int) + 2)) == 0) = true := by rw [tmod_beq]; exact hs
          have HC : Hid (bestF A B (k + 1) = (k : Int) + 2) := by show _ = _; rw [HB.out, hd]; rfl
          clear ht hs hd hu
          go_wp2
          go_round
          case rel => exact ⟨k + 1, by omega, by rw [HC.out], by go_num⟩
          case measure => simp [intOf]; omega
    · obtain rfl : k = 4 := by omega
      have hd := HD.out
      unfold dvB at hd
      simp only [Bool.and_eq_true] at hd
      obtain ⟨p2, p3, p4, p5, p6⟩ := pow_bds (u := smU A B) (by omega) (by omega)
      have E1 : Hid (A.tdiv (smU A B * smU A B * (smU A B * smU A B)) = sm4 A (smU A B)) := by show _ = _; rw [sq4]; exact tdiv_eq (by simpa using hd.1)
      have E2 : Hid (B.tdiv (smU A B * smU A B * (smU A B * smU A B) * (smU A B * smU A B)) = sm6 B (smU A B)) := by show _ = _; rw [sq6]; exact tdiv_eq (by simpa using hd.2)
      have s4 := sq4 (smU A B)
      have s6 := sq6 (smU A B)
      have c1 : 1 ≤ smU A B * smU A B * (smU A B * smU A B) ∧ smU A B * smU A B * (smU A B * smU A B) ≤ 10000 := by rw [s4]; exact p4
      have c2 : 1 ≤ smU A B * smU A B * (smU A B * smU A B) * (smU A B * smU A B) ∧ smU A B * smU A B * (smU A B * smU A B) * (smU A B * smU A B) ≤ 1000000 := by rw [s6]; exact p6
      have b1 := q_bd (A := A) (m := smU A B * smU A B * (smU A B * smU A B)) (by omega) (by omega)
      have b2 := q_bd (A := B) (m := smU A B * smU A B * (smU A B * smU A B) * (smU A B * smU A B)) (by omega) (by omega)
      clear hd HD s4 s6
      have hf : bestF A B 4 = smU A B := rfl
      rw [hf]
      clear hf
      generalize hz : sm4 A (smU A B) = z4 at *
      generalize hz6 : sm6 B (smU A B) = z6 at *
      generalize hu : smU A B = u at *
      have HZ := Lib.hid hz
      have HZ6 := Lib.hid hz6
      have HU := Lib.hid hu
      clear hz hz6 hu
      go_wp2
      go_region
      all_goals go_wp2
      all_goals
        rw [E1.out, E2.out]
        refine bodyPost_ret (v := .tuple #[.agg #[.int .i64 z4, .int .i64 z6], .int .i64 u]) (by simp [results, Tryz.results48, go_sem]) rfl ⟨by rw [HU.out, HZ.out, HZ6.out], ?_⟩
        (repeat' (first | (with_reducible exact Below.refl _ _) | (with_reducible refine below_step (by assumption) ?_ ?_) | (with_reducible refine Below.alloc ?_ ?_ _) | (with_reducible refine Below.setCell ?_ ?_ _) | (with_reducible refine below_drewN ?_ _) | (with_reducible refine Below.drew ?_) | omega | (simp; omega) | (simp; done)))
end Go.Proofs.YtpnpidepkfnofaaGreatDoor

/- FacList -/
namespace Go.Proofs.YtpnpidepkfnofaaGreatDoor
open Go.RowKit

theorem Tryz.infoR : (Tryz.prog.info? 71).map (fun i => (i.zero, i.size, i.bytes)) = some (some (.slice none 0 0), 1, 24) := by kernel_rfl

def OwnsF (w : World) (base : Nat) (v : Value) (L : List (Int × Int)) : Prop :=
  ∃ rows : List Value, w.ownsRow base 71 1 v L.length rows ∧ ∀ i (_ : i < L.length), ∃ g, rows[i]? = some (.slice (some ⟨g, 0, none⟩) 2 2) ∧ base ≤ g ∧
    w.heap[g]? = some (.cells #[.int .i64 L[i].1, .int .i64 L[i].2] 3 (0, 0))
theorem OwnsF.nil (w : World) (base : Nat) : OwnsF w base (.slice none 0 0) [] := ⟨[], World.ownsRow_nil _ _ _ _, fun i hi => by simp at hi⟩
theorem OwnsF.below {w w1 : World} {base : Nat} {v : Value} {L : List (Int × Int)} (h : OwnsF w base v L) (hb : Below w.heap.size w w1) : OwnsF w1 base v L := by
  obtain ⟨rows, ho, hr⟩ := h
  refine ⟨rows, ⟨ho.1, ?_⟩, fun i hi => ?_⟩
  · rcases ho.2 with h0 | ⟨g, cap, cur, hv, hg, hh, r⟩
    · exact .inl h0
    · exact .inr ⟨g, cap, cur, hv, hg, (hb.block g (Array.getElem?_eq_some_iff.1 hh).1).trans hh, r⟩
  · obtain ⟨g, h1, h2, h3⟩ := hr i hi
    exact ⟨g, h1, h2, (hb.block g (Array.getElem?_eq_some_iff.1 h3).1).trans h3⟩
theorem OwnsF.form {w : World} {base : Nat} {v : Value} {L : List (Int × Int)} (h : OwnsF w base v L) :
    ∃ (a : Option Addr) (cap : Nat), v = .slice a L.length cap ∧ ∀ i (_ : i < L.length), ∃ g g', a = some ⟨g, 0, none⟩ ∧ w.cell? ⟨g, i, none⟩ = some (.slice (some ⟨g', 0, none⟩) 2 2) ∧
      w.cell? ⟨g', 0, none⟩ = some (.int .i64 L[i].1) ∧ w.cell? ⟨g', 1, none⟩ = some (.int .i64 L[i].2) ∧ g < w.heap.size ∧ base ≤ g ∧ g' < w.heap.size ∧ base ≤ g' := by
  obtain ⟨rows, ho, hr⟩ := h
  rcases ho.2 with ⟨hv, hn⟩ | ⟨g, cap, cur, hv, hg, hh, hnc, hcm, hcs, ht⟩
  · exact ⟨none, 0, by rw [hv, hn], fun i hi => by omega⟩
  · refine ⟨some ⟨g, 0, none⟩, cap, hv, fun i hi => ?_⟩
    obtain ⟨g', h1, h2, h3⟩ := hr i hi
    refine ⟨g, g', rfl, ?_, ?_, ?_, (Array.getElem?_eq_some_iff.1 hh).1, hg, (Array.getElem?_eq_some_iff.1 h3).1, h2⟩
    · have h4 : (cur.toList.take (L.length * 1))[i]? = cur.toList[i]? := List.getElem?_take_of_lt (by omega)
      rw [ht, h1] at h4
      rw [Array.getElem?_toList] at h4
      show (match w.heap[g]? with | some (.cells cs _ _) => _ | _ => _) = _
      rw [hh]
      exact h4.symm
    · show (match w.heap[g']? with | some (.cells cs _ _) => _ | _ => _) = _
      rw [h3]; rfl
    · show (match w.heap[g']? with | some (.cells cs _ _) => _ | _ => _) = _
      rw [h3]; rfl

theorem wpList_app_fac {ops : Array Oper} {rest : List Oper} {o : Oper} {a : Act} {Q : Exit → Act → World → Prop} {wr : World} {p k : Int} (hgd : o.guard = none) (s x : Operand)
    (ho : o.op = .call { callee := .builtin .append, args := #[s, x], argTypes := #[74, 74] })
    (base : Nat) (v : Value) (L : List (Int × Int)) (hs : a.eval s = v) (hown : OwnsF wr base v L) (hx : a.eval x = .slice (some ⟨wr.heap.size + 1, 0, none⟩) 1 1)
    (hlen : L.length < 1000000000000) (hbase : base ≤ wr.heap.size)
    (h : ∀ v' w1, OwnsF w1 base v' (L ++ [(p, k)]) → Below base wr w1 → wpList Tryz.prog ops Q rest (a.put o.dst v') w1) :
    wpList Tryz.prog ops Q (o :: rest) a ((wr.alloc (.cells #[.int .i64 p, .int .i64 k] 3)).alloc (.cells #[.slice (some ⟨wr.heap.size, 0, none⟩) 2 2] 71)) := by
  obtain ⟨i0, hi, hz0, hz1, hz2⟩ := info_parts Tryz.infoR
  obtain ⟨rows, hown, hr⟩ := hown
  have hrl : rows.length = L.length := by have := hown.1; omega
  refine wpList_append_own _ hgd s x 74 ho base 71 i0 (.slice none 0 0) 1 24 Tryz.underlying74 hi hz0 hz1 hz2 rfl (by decide) v L.length rows hs ((hown.alloc _).alloc _) ⟨wr.heap.size + 1, 0, none⟩ 1 1 [.slice (some ⟨wr.heap.size, 0, none⟩) 2 2] hx rfl ?_ ?_ ?_ ?_ ?_ ?_
  · intro j u hj
    match j, hj with
    | 0, hj =>
      simp at hj; subst hj
      show ((wr.alloc (.cells #[.int .i64 p, .int .i64 k] 3)).alloc (.cells #[.slice (some ⟨wr.heap.size, 0, none⟩) 2 2] 71)).cell? ⟨wr.heap.size + 1, 0, none⟩ = _
      rw [World.cell?_alloc_at _ _ _ _ (by simp)]; rfl
  · intro u hu; simp at hu; subst hu; rfl
  · unfold maxLen; omega
  · omega
  · simp; omega
  · intro v' w1 hown' hgrow _
    refine h v' w1 ⟨_, by rw [List.length_append]; exact hown', fun i hi => ?_⟩ ?_
    · have hkeep : ∀ g, g < wr.heap.size → some g ≠ v.ownBlock → w1.heap[g]? = wr.heap[g]? := fun g hg hne => by
        rw [hgrow.block g (by simp; omega) hne, Below.heap_alloc _ _ _ (by simp; omega), Below.heap_alloc _ _ _ hg]
      have hne : ∀ g, wr.heap[g]? ≠ none → (∀ cs, wr.heap[g]? ≠ some (.cells cs 71 (0, 0))) → some g ≠ v.ownBlock := fun g hg hcs e => by
        rcases hown.2 with ⟨hv, _⟩ | ⟨g1, cap, cur, hv, _, hh, _⟩
        · rw [hv] at e; cases e
        · rw [hv] at e
          have : g = g1 := by injection e
          rw [this] at hcs; exact hcs _ hh
      by_cases hlt : i < L.length
      · obtain ⟨g, h1, h2, h3⟩ := hr i hlt
        refine ⟨g, by rw [List.getElem?_append_left (by omega)]; exact h1, h2, ?_⟩
        rw [hkeep g (Array.getElem?_eq_some_iff.1 h3).1 (hne g (by rw [h3]; simp) (fun cs e => by rw [h3] at e; simp at e)), h3]
        rw [List.getElem_append_left hlt]
      · have hil : i = L.length := by simp at hi; omega
        subst hil
        refine ⟨wr.heap.size, by rw [List.getElem?_append_right (by omega), hrl]; simp, hbase, ?_⟩
        have hne2 : some wr.heap.size ≠ v.ownBlock := fun e => by
          have := (hown.lt wr.heap.size e.symm).2; omega
        rw [hgrow.block wr.heap.size (by simp; omega) hne2, Below.heap_alloc _ _ _ (by simp)]
        show (wr.heap.push _)[wr.heap.size]? = _
        simp
    · refine (((Below.refl base wr).alloc hbase _).alloc (by simp; omega) _).grown hgrow (by simp; omega) (fun k hk => ?_)
      exact (hown.lt k hk).1
end Go.Proofs.YtpnpidepkfnofaaGreatDoor

/- Fac -/
namespace Go.Proofs.YtpnpidepkfnofaaGreatDoor
open Go.RowKit
set_option maxHeartbeats 1000000 in
theorem c_mdFactors (m : Int) (hb : 0 ≤ m ∧ m ≤ 10000000000) (w : World) :
    Calls Tryz.prog 49 #[.int .i64 m] w fun e w' => ∃ v, e = .returned v ∧ OwnsF w' w.heap.size v (factL m) ∧ Below w.heap.size w w' := by
  go_enter Tryz.func49, Tryz.ntmps49
  go_wp2
  go_loopw [0, 3, 4] (fun x v y wr => ∃ (n p : Int) (xs : List (Int × Int)) (f : Nat), x = .int .i64 n ∧ y = .int .i64 p ∧ OwnsF wr w.heap.size v xs ∧ Below w.heap.size w wr ∧ 0 ≤ n ∧ n ≤ 10000000000 ∧ 2 ≤ p ∧ p ≤ 10000000001 ∧ ((xs.length : Int) + 2 ≤ p ∧ p ≤ 100001 ∨ n ≤ 1 ∧ xs.length ≤ 100001) ∧ (msP n p ≤ f ∧ True) ∧ Hid (xs ++ factF f n p = factL m)) (fun x _ y _ => msP (intOf x) (intOf y))
  case atStart =>
    refine ⟨_, 2, [], 2 * m.toNat, rfl, rfl, OwnsF.nil _ _, Below.refl _ _, by omega, by omega, by omega, by omega, .inl ⟨by simp, by omega⟩, ⟨?_, trivial⟩, ?_⟩
    · unfold msP; split <;> omega
    · show _ = _
      rw [List.nil_append]; rfl
  case round =>
    obtain ⟨n, p, xs, f, rfl, rfl, hown, hbl, hn0, hn1, hp2, hpm, hps, ⟨hf, _⟩, H⟩ := hrel
    have hz := hbl.size
    by_cases h1 : 1 < n
    · have hps' : (xs.length : Int) + 2 ≤ p ∧ p ≤ 100001 := by omega
      have hpp : 0 ≤ p * p ∧ p * p ≤ 10000200001 := ⟨Int.mul_nonneg (by omega) (by omega), by have := Int.mul_le_mul hps'.2 hps'.2 (by omega) (by omega); omega⟩
      obtain ⟨f', rfl⟩ : ∃ f', f = f' + 1 := ⟨f - 1, by unfold msP at hf; rw [if_pos h1] at hf; omega⟩
      clear hps
      by_cases h2 : n < p * p
      · have HF : Hid (xs ++ factF (f' + 1) n p = (xs ++ [(n, val n n)]) ++ factF f' (strip n n) (n + 1)) := by
          show _ = _
          rw [factF_big f' h1 h2, strip_self (by omega), factF_one _ (by omega), List.append_nil]
        have HB : ∀ y : Int, Hid (y = strip n n) → (((xs ++ [(n, val n n)]).length : Int) + 2 ≤ n + 1 ∧ n + 1 ≤ 100001 ∨ y ≤ 1 ∧ (xs ++ [(n, val n n)]).length ≤ 100001) := fun y hy => .inr ⟨by rw [hy.out, strip_self (by omega)]; omega, by simp; omega⟩
        have HM : ∀ y : Int, Hid (y = strip n n) → y ≤ n → (msP y (n + 1) ≤ f' ∧ msP y (n + 1) < msP n p) := fun y hy _ => ms_big h1 hf hy.out
        have hk1 := val_pos (q := n) (show 1 ≤ n by omega) Int.emod_self
        have hk0 : 0 ≤ val n n := by omega
        have hk2 : val n n ≤ n.natAbs := valF_le _ _ _
        have hq : 2 ≤ n := by omega
        go_wp2_with (first | (at_builtin; refine wpList_app_fac (p := n) (k := val n n) rfl _ _ rfl w.heap.size _ _ rfl hown rfl (by omega) hz ?_; intro v' w1 hown1 hb1) | (go_at_call 76; refine (c_mdValuation _ _ (by omega) (by omega) (by omega) _).mono ?_; rintro e w' ⟨rfl, rfl⟩))
        have hbl1 := hbl.trans hb1
        clear hb1 hown hbl
        go_loop [0, 5] (fun x j => ∃ (y : Int) (i : Nat), x = .int .i64 y ∧ j = .int .i64 (i : Int) ∧ 0 ≤ y ∧ y ≤ n ∧ (i : Int) ≤ 10000000000 ∧ Hid (divF i y n = strip n n)) (fun _ j => (intOf j).toNat)
        case atStart => exact ⟨n, (val n n).toNat, rfl, by rw [Int.toNat_of_nonneg hk0], by omega, by omega, by omega, div_strip' (by omega)⟩
        case round =>
          obtain ⟨y, i, rfl, rfl, hy1, hyn, hi, HS⟩ := hrel
          by_cases h5 : 0 < i
          · obtain ⟨i', rfl⟩ : ∃ i', i = i' + 1 := ⟨i - 1, by omega⟩
            have d1 : 0 ≤ y / n := Int.ediv_nonneg hy1 (by omega)
            have d2 : y / n ≤ n := Int.le_trans (Int.ediv_le_self _ hy1) hyn
            go_wp2
            go_round
            case rel => exact ⟨y / n, i', rfl, by go_num, d1, d2, by omega, HS⟩
            case measure => simp [intOf]
          · have hi0 : i = 0 := by omega
            subst hi0
            have HZ : Hid (y = strip n n) := HS
            clear HS
            go_wp2
            go_roundw
            case rel => exact ⟨y, n + 1, xs ++ [(n, val n n)], f', rfl, rfl, hown1, hbl1, by omega, by omega, by omega, by omega, HB y HZ, ⟨(HM y HZ hyn).1, trivial⟩, by show _ = _; rw [HZ.out, ← HF.out]; exact H⟩
            case measure => have := HM y HZ hyn; simp [intOf]; omega
      · obtain ⟨hr1, hr2⟩ := root_bd hp2 h2 hn1
        by_cases h3 : n % p = 0
        · have HF : Hid (xs ++ factF (f' + 1) n p = (xs ++ [(p, val n p)]) ++ factF f' (strip n p) (p + 1)) := by
            show _ = _
            rw [factF_yes f' h1 h2 h3]; simp
          have HB : ∀ y : Int, Hid (y = strip n p) → (((xs ++ [(p, val n p)]).length : Int) + 2 ≤ p + 1 ∧ p + 1 ≤ 100001 ∨ y ≤ 1 ∧ (xs ++ [(p, val n p)]).length ≤ 100001) := fun y hy => .inl ⟨by simp; omega, by omega⟩
          have HM : ∀ y : Int, Hid (y = strip n p) → y ≤ n → (msP y (p + 1) ≤ f' ∧ msP y (p + 1) < msP n p) := fun y _ hyn => ms_small h1 hr2 hf hyn
          have hk1 := val_pos (show 1 ≤ n by omega) h3
          have hk0 : 0 ≤ val n p := by omega
          have hk2 : val n p ≤ n.natAbs := valF_le _ _ _
          have hq : 2 ≤ p := by omega
          clear h3
          go_wp2_with (first | (at_builtin; refine wpList_app_fac (p := p) (k := val n p) rfl _ _ rfl w.heap.size _ _ rfl hown rfl (by omega) hz ?_; intro v' w1 hown1 hb1) | (go_at_call 76; refine (c_mdValuation _ _ (by omega) (by omega) (by omega) _).mono ?_; rintro e w' ⟨rfl, rfl⟩))
          have hbl1 := hbl.trans hb1
          clear hb1 hown hbl
          go_loop [0, 5] (fun x j => ∃ (y : Int) (i : Nat), x = .int .i64 y ∧ j = .int .i64 (i : Int) ∧ 0 ≤ y ∧ y ≤ n ∧ (i : Int) ≤ 10000000000 ∧ Hid (divF i y p = strip n p)) (fun _ j => (intOf j).toNat)
          case atStart => exact ⟨n, (val n p).toNat, rfl, by rw [Int.toNat_of_nonneg hk0], by omega, by omega, by omega, div_strip' (by omega)⟩
          case round =>
            obtain ⟨y, i, rfl, rfl, hy1, hyn, hi, HS⟩ := hrel
            by_cases h5 : 0 < i
            · obtain ⟨i', rfl⟩ : ∃ i', i = i' + 1 := ⟨i - 1, by omega⟩
              have d1 : 0 ≤ y / p := Int.ediv_nonneg hy1 (by omega)
              have d2 : y / p ≤ n := Int.le_trans (Int.ediv_le_self _ hy1) hyn
              go_wp2
              go_round
              case rel => exact ⟨y / p, i', rfl, by go_num, d1, d2, by omega, HS⟩
              case measure => simp [intOf]
            · have hi0 : i = 0 := by omega
              subst hi0
              have HZ : Hid (y = strip n p) := HS
              clear HS
              go_wp2
              go_roundw
              case rel => exact ⟨y, p + 1, xs ++ [(p, val n p)], f', rfl, rfl, hown1, hbl1, by omega, by omega, by omega, by omega, HB y HZ, ⟨(HM y HZ hyn).1, trivial⟩, by show _ = _; rw [HZ.out, ← HF.out]; exact H⟩
              case measure => have := HM y HZ hyn; simp [intOf]; omega
        · have HF := Lib.hid (factF_no f' h1 h2 h3)
          have hv := val_zero h3
          have HM := ms_small h1 hr2 hf (Int.le_refl n)
          clear h3
          go_wp2_with (first | (go_at_call 76; refine (c_mdValuation _ _ (by omega) (by omega) (by omega) _).mono ?_; rintro e w' ⟨rfl, rfl⟩))
          go_roundw
          case rel => exact ⟨n, p + 1, xs, f', rfl, rfl, hown, hbl, by omega, by omega, by omega, by omega, .inl ⟨by omega, by omega⟩, ⟨HM.1, trivial⟩, by show _ = _; rw [← HF.out]; exact H⟩
          case measure => simp [intOf]; omega
    · have HF := Lib.hid (factF_one f (p := p) (show n ≤ 1 by omega))
      go_wp2
      go_ret
      refine ⟨_, rfl, ?_, hbl⟩
      have := H.out
      rw [HF.out, List.append_nil] at this
      rw [← this]; exact hown
noncomputable def areaB (n : Int) : Bool := inB n 1 31 && freeB n
def congA (n : Int) : Int := -n * n
theorem congA_bd {n : Int} (h : 1 ≤ n) (h1 : n ≤ 31) : -961 ≤ -n * n ∧ -n * n ≤ 0 := by
  have h2 := Int.mul_le_mul h1 h1 (by omega) (by omega)
  have h3 := Int.mul_nonneg (show 0 ≤ n by omega) (show 0 ≤ n by omega)
  rw [Int.neg_mul]
  omega
theorem congA_of {n : Int} (hs : areaB n = true) : 1 ≤ n ∧ n ≤ 31 := by unfold areaB at hs; simp at hs; exact inB_true hs.1
end Go.Proofs.YtpnpidepkfnofaaGreatDoor

/- Slog -/
namespace Go.Proofs.YtpnpidepkfnofaaGreatDoor
open Go.RowKit

def spTo (u : Int) (i : Nat) : List (Int × Int) := ((factL u).take i).flatMap fun f => List.replicate f.2.toNat (1, f.1)
theorem spTo_succ (u : Int) (i : Nat) (h : i < (factL u).length) : spTo u (i + 1) = spTo u i ++ List.replicate (factL u)[i].2.toNat (1, (factL u)[i].1) := by
  unfold spTo
  rw [List.take_add_one, List.getElem?_eq_getElem h, List.flatMap_append]; simp
theorem spTo_le (u : Int) (i : Nat) (j : Nat) (hu : 0 ≤ u ∧ u ≤ 5) (hi : i < (factL u).length) (hj : j ≤ (factL u)[i].2.toNat) : (spTo u i ++ List.replicate j ((1 : Int), (factL u)[i].1)).length ≤ 5 := by
  have h1 := (sl_len u.toNat (by omega)).1
  rw [show ((u.toNat : Nat) : Int) = u by omega] at h1
  have h2 : spL u = spTo u (i + 1) ++ ((factL u).drop (i + 1)).flatMap fun f => List.replicate f.2.toNat (1, f.1) := by
    unfold spTo spL; rw [← List.flatMap_append, List.take_append_drop]
  rw [h2, spTo_succ u i hi] at h1
  simp only [List.length_append, List.length_replicate] at h1 ⊢
  omega
noncomputable def slRes (A B : Int) : List (Int × Int) := if curveB A B then spL (smU A B) else []
set_option maxHeartbeats 1000000 in
theorem c_sSmallestLog (A B : Int) (w : World) :
    Calls Tryz.prog 14 #[.agg #[.int .i64 A, .int .i64 B]] w (ListPost 44 w (slRes A B) (curveB A B)) := by
  unfold slRes
  cases h0 : curveB A B
  · go_enter Tryz.func14, Tryz.ntmps14
    go_wp2_with ((go_at_call 41; refine (c_ecGood _ _ _).mono ?_; rintro e w1 ⟨rfl, hb1⟩; obtain ⟨hc1, hf1⟩ := bcell hb1; have hz1 := hb1.size; (try simp only [World.size_alloc] at hz1); (try (have hy1 : w.heap.size < w1.heap.size := by omega)); (try (have hx1 := Nat.lt_of_succ_le hz1)); (try (have hv1 := Nat.lt_of_succ_le (Nat.le_of_lt hx1)))))
    go_ret2
    refine ⟨_, rfl, OwnsP.nil _ _ _, ?_⟩
    (repeat' (first | (with_reducible exact Below.refl _ _) | (with_reducible refine below_step (by assumption) ?_ ?_) | (with_reducible refine Below.alloc ?_ ?_ _) | (with_reducible refine Below.setCell ?_ ?_ _) | (with_reducible refine below_drewN ?_ _) | (with_reducible refine Below.drew ?_) | omega | (simp; omega) | (simp; done)))
  · have hu := smU_bd A B
    go_enter Tryz.func14, Tryz.ntmps14
    go_wp2_with (first | (go_at_call 41; refine (c_ecGood _ _ _).mono ?_; rintro e w1 ⟨rfl, hb1⟩; obtain ⟨hc1, hf1⟩ := bcell hb1; have hz1 := hb1.size; (try simp only [World.size_alloc] at hz1); (try (have hy1 : w.heap.size < w1.heap.size := by omega)); (try (have hx1 := Nat.lt_of_succ_le hz1)); (try (have hv1 := Nat.lt_of_succ_le (Nat.le_of_lt hx1)))))
    refine (c_ecSmallest _ _ h0 _).mono ?_
    rintro e w2 ⟨rfl, hb2⟩
    have hz2 := hb2.size
    generalize hue : smU A B = u at *
    have HU := Lib.hid hue
    clear hue
    go_wp2_with fail
    refine (c_mdFactors _ (by omega) _).mono ?_
    rintro e w3 ⟨fv, rfl, hown, hb3⟩
    have hz3 := hb3.size
    simp only [World.size_alloc] at hz2 hz3
    have hbl : Below w.heap.size w w3 := by (repeat' (first | (with_reducible exact Below.refl _ _) | (with_reducible refine below_step (by assumption) ?_ ?_) | (with_reducible refine Below.alloc ?_ ?_ _) | (with_reducible refine Below.setCell ?_ ?_ _) | (with_reducible refine below_drewN ?_ _) | (with_reducible refine Below.drew ?_) | omega | (simp; omega) | (simp; done)))
    have hsz := hbl.size
    have HL := Lib.hid (spTo_le u)
    have hF5 := (sl_len u.toNat (by omega)).2.1
    have hFb := (sl_len u.toNat (by omega)).2.2
    rw [show ((u.toNat : Nat) : Int) = u by omega] at hF5 hFb
    have HFb : Hid (∀ i (h : i < (factL u).length), (1 ≤ (factL u)[i].2 ∧ (factL u)[i].2 ≤ 5) ∧ 2 ≤ (factL u)[i].1 ∧ (factL u)[i].1 ≤ 5) := fun i h => by
      have := List.all_eq_true.1 hFb _ (List.getElem_mem h)
      simp only [Bool.and_eq_true, decide_eq_true_eq] at this
      exact ⟨this.1.1, this.1.2, this.2⟩
    clear hFb
    obtain ⟨a, cap, rfl, hcell⟩ := hown.form
    have Hc := Lib.hid hcell
    clear hcell hown hb2 hb3
    go_wp2
    go_loopw [4, 21] (fun v i wr => ∃ k : Nat, k ≤ (factL u).length ∧ i = .int .i64 k ∧ OwnsS wr w3.heap.size v (spTo u k) ∧ Below w3.heap.size w3 wr) (fun _ i _ => (factL u).length - (intOf i).toNat)
    case atStart => exact ⟨0, Nat.zero_le _, rfl, OwnsP.nil _ _ _, Below.refl _ _⟩
    case round =>
      obtain ⟨k, hk, rfl, ho, hbr⟩ := hrel
      by_cases hlt : k < (factL u).length
      · obtain ⟨g, g', rfl, hcx, hc0, hc1, hg, _, hg', _⟩ := Hc.out k hlt
        have hfb := HFb.out k hlt
        have HS := Lib.hid (spTo_succ u k hlt)
        have HLk : Hid (∀ j : Nat, j ≤ (factL u)[k].2.toNat → (spTo u k ++ List.replicate j ((1 : Int), (factL u)[k].1)).length ≤ 5) := fun j hj => HL.out k j (by omega) hlt hj
        generalize hx : (factL u)[k].1 = x at hc0 hfb HS HLk
        generalize hy : (factL u)[k].2 = y at hc1 hfb HS HLk
        clear hx hy
        obtain ⟨n, rfl⟩ := Int.eq_ofNat_of_zero_le (show 0 ≤ y by omega)
        rw [Int.toNat_natCast] at HS HLk
        have d1 : wr.cell? ⟨g, k, none⟩ = some (.slice (some ⟨g', 0, none⟩) 2 2) := (hbr.cell (p := ⟨g, k, none⟩) hg).trans hcx
        clear hcx
        obtain ⟨wo, rfl⟩ : ∃ wo : World, wo = wr := ⟨_, rfl⟩
        go_wp2
        go_loopw [4, 9] (fun v c wq => ∃ j : Nat, j ≤ n ∧ c = .int .i64 j ∧ OwnsS wq w3.heap.size v (spTo u k ++ List.replicate j (1, x)) ∧ Below w3.heap.size w3 wq) (fun _ c _ => n - (intOf c).toNat)
        case atStart => exact ⟨0, Nat.zero_le _, rfl, by simpa using ho, hbr⟩
        case round =>
          obtain ⟨j, hj, rfl, ho2, hbq⟩ := hrel
          have c0 : wr.cell? ⟨g', 0, none⟩ = some (.int .i64 x) := (hbq.cell (p := ⟨g', 0, none⟩) hg').trans hc0
          have c1 : wr.cell? ⟨g', 1, none⟩ = some (.int .i64 n) := (hbq.cell (p := ⟨g', 1, none⟩) hg').trans hc1
          have hzq := hbq.size
          have hl := HLk.out j hj
          by_cases hjn : j < n
          · go_wp2_with (at_builtin; refine wpList_appS (p := (1, x)) rfl _ _ rfl w3.heap.size _ _ rfl ho2 rfl (by omega) hzq ?_; intro v' w4 ho4 hb4 hg4)
            have hb5 := hbq.trans hb4
            have HE : Hid (spTo u k ++ List.replicate (j + 1) (1, x) = (spTo u k ++ List.replicate j (1, x)) ++ [(1, x)]) := by show _ = _; rw [List.replicate_succ', List.append_assoc]
            clear hg4 hb4
            go_wp2
            go_roundw
            case rel => exact ⟨j + 1, by omega, by go_num, by rw [HE.out]; exact ho4, hb5⟩
            case measure => simp [intOf]; omega
          · obtain rfl : j = n := by omega
            go_wp2
            go_roundw
            case rel => exact ⟨k + 1, by omega, by go_num, by rw [HS.out]; exact ho2, hbq⟩
            case measure => simp [intOf]; omega
      · obtain rfl : k = (factL u).length := by omega
        go_wp2
        go_ret2
        refine ⟨_, rfl, ?_, ?_⟩
        · have : spTo u (factL u).length = spL u := by unfold spTo spL; rw [List.take_length]
          rw [this] at ho
          first | exact ho.le hsz | (rw [if_pos rfl, HU.out]; exact ho.le hsz)
        · exact below_step hbr hsz hbl
def msS (u p : Int) : Nat := if 1 < u then (6 - p).toNat + 1 else 0
theorem slF_step (f : Nat) {u p : Int} (h : 1 < u) : slF (f + 1) u p = List.replicate (val u p).toNat (1, p) ++ slF f (strip u p) (p + 1) := by simp [slF, h]
theorem msS_step {u y p : Int} (h : 1 < u) (hp : p ≤ 5) : msS y (p + 1) < msS u p := by
  unfold msS; rw [if_pos h]; split <;> omega
set_option maxHeartbeats 1000000 in
theorem c_iSmallestLog (A B : Int) (w : World) :
    Calls Tryz.prog 13 #[.agg #[.int .i64 A, .int .i64 B]] w (ListPost 44 w (slRes A B) (curveB A B)) := by
  unfold slRes
  cases h0 : curveB A B
  · go_enter Tryz.func13, Tryz.ntmps13
    go_wp2_with ((go_at_call 46; refine (c_isCurve _ _ _).mono ?_; rintro e w1 ⟨rfl, hb1⟩; obtain ⟨hc1, hf1⟩ := bcell hb1; have hz1 := hb1.size; (try simp only [World.size_alloc] at hz1); (try (have hy1 : w.heap.size < w1.heap.size := by omega)); (try (have hx1 := Nat.lt_of_succ_le hz1)); (try (have hv1 := Nat.lt_of_succ_le (Nat.le_of_lt hx1)))))
    go_ret2
    refine ⟨_, rfl, OwnsP.nil _ _ _, ?_⟩
    (repeat' (first | (with_reducible exact Below.refl _ _) | (with_reducible refine below_step (by assumption) ?_ ?_) | (with_reducible refine Below.alloc ?_ ?_ _) | (with_reducible refine Below.setCell ?_ ?_ _) | (with_reducible refine below_drewN ?_ _) | (with_reducible refine Below.drew ?_) | omega | (simp; omega) | (simp; done)))
  · have hu := smU_bd A B
    go_enter Tryz.func13, Tryz.ntmps13
    go_wp2_with (first | (go_at_call 46; refine (c_isCurve _ _ _).mono ?_; rintro e w1 ⟨rfl, hb1⟩; obtain ⟨hc1, hf1⟩ := bcell hb1; have hz1 := hb1.size; (try simp only [World.size_alloc] at hz1); (try (have hy1 : w.heap.size < w1.heap.size := by omega)); (try (have hx1 := Nat.lt_of_succ_le hz1)); (try (have hv1 := Nat.lt_of_succ_le (Nat.le_of_lt hx1)))))
    refine (c_smallest _ _ h0 _).mono ?_
    rintro e w2 ⟨rfl, hb2⟩
    have hz2 := hb2.size
    have HE := Lib.hid (sl_eq (u := smU A B) (by omega) (by omega))
    generalize hue : smU A B = u0 at *
    have HU := Lib.hid hue
    clear hue
    have hlen := (sl_len u0.toNat (by omega)).1
    rw [show ((u0.toNat : Nat) : Int) = u0 by omega, ← HE.out] at hlen
    have hbl : Below w.heap.size w w2 := by (repeat' (first | (with_reducible exact Below.refl _ _) | (with_reducible refine below_step (by assumption) ?_ ?_) | (with_reducible refine Below.alloc ?_ ?_ _) | (with_reducible refine Below.setCell ?_ ?_ _) | (with_reducible refine below_drewN ?_ _) | (with_reducible refine Below.drew ?_) | omega | (simp; omega) | (simp; done)))
    have hsz := hbl.size
    go_wp2
    go_loopw [5, 6, 7] (fun x v y wr => ∃ (u p : Int) (xs : List (Int × Int)) (f : Nat), x = .int .i64 u ∧ y = .int .i64 p ∧ (1 ≤ u ∧ u ≤ 5) ∧ (2 ≤ p ∧ p ≤ 6) ∧ (f : Int) + p = 8 ∧ Hid (NoSm u p) ∧ OwnsS wr w.heap.size v xs ∧ Below w.heap.size w wr ∧ Hid (xs ++ slF f u p = slL u0)) (fun x _ y _ => msS (intOf x) (intOf y))
    case atStart => exact ⟨u0, 2, [], 6, rfl, rfl, hu, by omega, by omega, NoSm.two _, OwnsP.nil _ _ _, by (repeat' (first | (with_reducible exact Below.refl _ _) | (with_reducible refine below_step (by assumption) ?_ ?_) | (with_reducible refine Below.alloc ?_ ?_ _) | (with_reducible refine Below.setCell ?_ ?_ _) | (with_reducible refine below_drewN ?_ _) | (with_reducible refine Below.drew ?_) | omega | (simp; omega) | (simp; done))), rfl⟩
    case round =>
      obtain ⟨u, p, xs, f, rfl, rfl, hu1, hp, hf, HN, ho, hbr, H⟩ := hrel
      by_cases h1 : 1 < u
      · have hpu := HN.out.le h1
        obtain ⟨f', rfl⟩ : ∃ f', f = f' + 1 := ⟨f - 1, by omega⟩
        have HS := Lib.hid (slF_step f' (p := p) h1)
        have HN2 := Lib.hid (HN.out.step (by omega) (by omega))
        have hsb := strip_bd u.toNat u p (by omega) (by omega)
        have HM : Hid (∀ y, msS y (p + 1) < msS u p) := fun y => msS_step h1 (by omega)
        have hxl : xs.length + (val u p).toNat ≤ 5 := by
          have := congrArg List.length H.out
          rw [HS.out] at this
          simp only [List.length_append, List.length_replicate] at this
          omega
        obtain ⟨wo, rfl⟩ : ∃ wo : World, wo = wr := ⟨_, rfl⟩
        go_wp2
        go_loopw [5, 6] (fun x v wq => ∃ (y : Int) (j g : Nat), x = .int .i64 y ∧ (1 ≤ y ∧ y ≤ u) ∧ y.toNat ≤ g ∧ OwnsS wq w.heap.size v (xs ++ List.replicate j (1, p)) ∧ Below w.heap.size w wq ∧ Hid ((j : Int) + valF g y p = val u p) ∧ Hid (stripF g y p = strip u p)) (fun x _ _ => (intOf x).toNat)
        case atStart => exact ⟨u, 0, u.toNat, rfl, by omega, Nat.le_refl _, by simpa using ho, hbr, by show _ = _; unfold val; rw [show u.natAbs = u.toNat by omega]; omega, rfl⟩
        case round =>
          obtain ⟨y, j, g, rfl, hy, hg, ho2, hbq, HV, HT⟩ := hrel
          have hzq := hbq.size
          by_cases h5 : y % p = 0
          · obtain ⟨d1, d2⟩ := div_pos_facts hy.1 hp.1 h5
            obtain ⟨g', rfl⟩ : ∃ g', g = g' + 1 := ⟨g - 1, by omega⟩
            have HV2 : Hid ((j : Int) + 1 + valF g' (y / p) p = val u p) := by have := HV.out; rw [valF_yes g' h5] at this; show _ = _; omega
            have HT2 : Hid (stripF g' (y / p) p = strip u p) := by have := HT.out; rw [stripF_yes g' h5] at this; exact this
            have hjl : j + 1 ≤ (val u p).toNat := by have := HV2.out; have := valF_nonneg g' (y / p) p; omega
            have hl : (xs ++ List.replicate j ((1 : Int), p)).length < 10 := by simp; omega
            have hh5 : (y % p == 0) = true := by simp [h5]
            clear h5 HV HT
            go_wp2_with (at_builtin; refine wpList_appS (p := (1, p)) rfl _ _ rfl w.heap.size _ _ rfl ho2 rfl (by omega) hzq ?_; intro v' w4 ho4 hb4 hg4)
            have hb5 := hbq.trans hb4
            have HE2 : Hid (xs ++ List.replicate (j + 1) (1, p) = (xs ++ List.replicate j (1, p)) ++ [(1, p)]) := by show _ = _; rw [List.replicate_succ', List.append_assoc]
            clear hg4 hb4
            go_wp2
            go_roundw
            case rel => exact ⟨y / p, j + 1, g', rfl, by omega, by omega, by rw [HE2.out]; exact ho4, hb5, HV2, HT2⟩
            case measure => simp [intOf]; omega
          · have HZ : Hid (y = strip u p) := by have := HT.out; rw [stripF_no g h5] at this; exact this
            have HJ : Hid (j = (val u p).toNat) := by have := HV.out; rw [valF_no g h5] at this; show _ = _; omega
            have hh5 : (y % p == 0) = false := by simp [h5]
            clear h5 HV HT
            go_wp2
            go_roundw
            case rel => exact ⟨y, p + 1, xs ++ List.replicate j (1, p), f', rfl, rfl, by omega, by omega, by omega, by rw [HZ.out]; exact HN2, ho2, hbq, by show _ = _; rw [HZ.out, HJ.out, List.append_assoc, ← HS.out]; exact H⟩
            case measure => have := HM.out y; simpa [intOf] using this
      · have HO := Lib.hid (slF_one f (p := p) (show u ≤ 1 by omega))
        go_wp2
        go_ret2
        refine ⟨_, rfl, ?_, hbr⟩
        have hx := H.out
        rw [HO.out, List.append_nil, HE.out] at hx
        rw [hx] at ho
        first | exact ho | (rw [if_pos rfl, HU.out]; exact ho)
theorem slRes_len (A B : Int) : (slRes A B).length ≤ 5 := by
  unfold slRes
  split
  · have hu := smU_bd A B
    have := (sl_len (smU A B).toNat (by omega)).1
    rwa [show (((smU A B).toNat : Nat) : Int) = smU A B by omega] at this
  · simp
end Go.Proofs.YtpnpidepkfnofaaGreatDoor
