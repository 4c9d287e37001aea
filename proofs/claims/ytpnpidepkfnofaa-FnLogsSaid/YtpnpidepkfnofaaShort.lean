/- Walks: logs shortened. -/
import Derived.Test.YtpnpidepkfnofaaUndo
import Derived.Test.YtpnpidepkfnofaaCls
namespace Go.Proofs.Ytpnpidepkfnofaa
open Go.RowKit

theorem stepB_k {k v : Int} (h : stepB k v = true) : k = 0 ∨ k = 1 ∨ k = 2 ∨ k = 3 := by
  rcases stepB_cases h with ⟨h, _⟩ | ⟨h, _⟩ | ⟨h, _⟩ | ⟨h, _⟩ <;> simp [h]
theorem undK_bd {x : Int} (h : x = 0 ∨ x = 1 ∨ x = 2 ∨ x = 3) : 0 ≤ undK x ∧ undK x ≤ 3 := by
  rcases h with rfl | rfl | rfl | rfl <;> decide
theorem OwnsP.short {T : TypeId} {wr : World} {base n cap i : Nat} {a : Option Addr} {M : List (Int × Int)} (ho : OwnsP T wr base (.slice a n cap) M) (hn : n = M.length) (hi : i < n) :
    OwnsP T wr base (.slice a i cap) (M.take i) := by
  subst hn
  refine ⟨by rw [cellsP_length], ?_⟩
  rcases ho.2 with ⟨h0, h1⟩ | ⟨g', cap', cur, hv, hg, hh, hnc, hcm, hcs, ht⟩
  · omega
  · have el : (M.take i).length = i := by simp; omega
    injection hv with e1 _ e3
    subst e1 e3
    refine .inr ⟨g', _, cur, by rw [el], hg, hh, by omega, hcm, hcs, ?_⟩
    rw [el, cellsP_take, ← ht, List.take_take, Nat.min_eq_left (by omega)]
theorem OwnsP.cap {T : TypeId} {wr : World} {base n cap : Nat} {a : Option Addr} {M : List (Int × Int)} (ho : OwnsP T wr base (.slice a n cap) M) : n ≤ cap := by
  rcases ho.2 with ⟨h0, _⟩ | ⟨g', cap', cur, hv, _, _, hnc, _⟩
  · simp only [Value.slice.injEq] at h0; omega
  · simp only [Value.slice.injEq] at hv; omega
noncomputable def shR (L : List (Int × Int)) : List (Int × Int) := if logB L then shL L else []
theorem shR_len (L : List (Int × Int)) : (shR L).length ≤ 20 := by
  unfold shR
  split
  · rename_i h
    have := (logB_of h).1
    have := shL_len L []
    unfold shL; simp at this; omega
  · simp
set_option maxHeartbeats 2000000 in
theorem c_sShorten (base : Nat) (v : Value) (L : List (Int × Int)) (hL : L.length ≤ 100000000) (w : World) (hown : OwnsS w base v L) :
    Calls Try.prog 15 #[v] w (ListPost 41 w (shR L) (logB L)) := by
  unfold shR
  cases h0 : logB L
  · have H0 := Lib.hid (c_tlLog base v L hL)
    rw [h0] at H0
    go_enter Try.func15, Try.ntmps15
    go_wp2_with ((go_at_call 30; refine (H0.out _ hown).mono ?_; rintro e w1 ⟨rfl, hb1⟩; obtain ⟨hc1, hf1⟩ := bcell hb1; have hz1 := hb1.size; (try simp only [World.size_alloc] at hz1); (try (have hy1 : w.heap.size < w1.heap.size := by omega)); (try (have hx1 := Nat.lt_of_succ_le hz1)); (try (have hv1 := Nat.lt_of_succ_le (Nat.le_of_lt hx1)))))
    go_ret2
    refine ⟨_, rfl, OwnsP.nil _ _ _, ?_⟩
    (repeat' (first | (with_reducible exact Below.refl _ _) | (with_reducible refine below_step (by assumption) ?_ ?_) | (with_reducible refine Below.alloc ?_ ?_ _) | (with_reducible refine Below.setCell ?_ ?_ _) | (with_reducible refine below_drewN ?_ _) | (with_reducible refine Below.drew ?_) | omega | (simp; omega) | (simp; done)))
  · rw [if_pos rfl]
    have H0 := Lib.hid (c_tlLog base v L hL)
    rw [h0] at H0
    obtain ⟨hl, hst⟩ := logB_of h0
    have HK : Hid (∀ k (hk : k < L.length), L[k].1 = 0 ∨ L[k].1 = 1 ∨ L[k].1 = 2 ∨ L[k].1 = 3) := fun k hk => stepB_k (hst k hk)
    clear hst h0
    go_enter Try.func15, Try.ntmps15
    go_wp2_with fail
    (go_at_call 30; refine (H0.out _ hown).mono ?_; rintro e w1 ⟨rfl, hb1⟩; obtain ⟨hc1, hf1⟩ := bcell hb1; have hz1 := hb1.size; (try simp only [World.size_alloc] at hz1); (try (have hy1 : w.heap.size < w1.heap.size := by omega)); (try (have hx1 := Nat.lt_of_succ_le hz1)); (try (have hv1 := Nat.lt_of_succ_le (Nat.le_of_lt hx1))))
    obtain ⟨a, cap, rfl, hform⟩ := OwnsP.form (OwnsP.below hown hb1)
    have HF := Lib.hid hform
    clear hform hown H0
    have hw1 := hb1.size
    go_wp2
    go_loopw [4, 13] (fun out i wr => ∃ k : Nat, k ≤ L.length ∧ i = .int .i64 k ∧ OwnsS wr w1.heap.size out (shL (L.take k)) ∧ Below w1.heap.size w1 wr) (fun _ i _ => L.length - (intOf i).toNat)
    case atStart => exact ⟨0, Nat.zero_le _, rfl, OwnsP.nil _ _ _, Below.refl _ _⟩
    case round =>
      obtain ⟨k, hk, rfl, ho, hbr⟩ := hrel
      have hzr := hbr.size
      by_cases hlt : k < L.length
      · obtain ⟨g, rfl, q1, q2, _, hg, _⟩ := HF.out k hlt
        have d1 : wr.cell? ⟨g, k * 2, none⟩ = _ := (hbr.cell (p := ⟨g, k * 2, none⟩) hg).trans q1
        have d2 : wr.cell? ⟨g, k * 2 + 1, none⟩ = _ := (hbr.cell (p := ⟨g, k * 2 + 1, none⟩) hg).trans q2
        have hx := HK.out k hlt
        have HS := Lib.hid (shL_take L hlt)
        have hml : (shL (L.take k)).length ≤ 20 := by
          have := shL_len (L.take k) []
          have := List.length_take_le k L
          simp at this; unfold shL; simp at *; omega
        clear q1 q2
        generalize L[k] = c at d1 d2 hx HS
        generalize shL (L.take k) = M at ho HS hml
        obtain ⟨x, y⟩ := c
        simp only at d1 d2 hx
        rcases Nat.eq_zero_or_pos M.length with hm | hm
        · obtain rfl : M = [] := List.eq_nil_of_length_eq_zero hm
          obtain ⟨a', cap', rfl, hf⟩ := OwnsP.form ho
          clear hf hm
          have kS := Blk.new wr #[.int .i64 x, .int .i64 y] 41
          have hB : Below wr.heap.size wr (wr.alloc (.cells #[.int .i64 x, .int .i64 y] 41)) := (Below.refl _ _).alloc (Nat.le_refl _) _
          have ho1 := OwnsP.below ho hB
          have HZ : Hid (shL (L.take (k + 1)) = [] ++ [(x, y)]) := by show _ = _; rw [HS.out, shS_nil]
          clear HS ho
          go_wp2
          generalize wr.alloc _ = W at *
          (refine wp_region_clq (by kernel_rfl) (by kernel_rfl) ?_; (repeat (go_big_quiet_step (fail))); refine wpQuiet_nil ?_; intro w2 hb2; obtain ⟨hc2, hf2⟩ := bcell hb2; have hz2 := hb2.size; (try simp only [World.size_alloc] at hz2))
          have ho2 := OwnsP.below ho1 hb2
          have k2 := kS.next hb2
          have hb3 : Below w1.heap.size w1 w2 := below_step hb2 (by have := hB.size; omega) (below_step hB hzr hbr)
          have hs3 := hb3.size
          have k20 : (w2).cell? ⟨wr.heap.size, 0, none⟩ = some (.int .i64 x) := k2.cell 0; have k21 : (w2).cell? ⟨wr.heap.size, 1, none⟩ = some (.int .i64 y) := k2.cell 1; have k2l : wr.heap.size < (w2).heap.size := k2.lt
          go_wp2_with (at_builtin; refine wpList_appS (p := (x, y)) rfl _ _ rfl w1.heap.size _ _ rfl ho2 rfl (by simp) hs3 ?_; intro v' w4 ho4 hb4 hg4)
          have hb5 := hb3.trans hb4
          go_wp2
          go_roundw
          case rel => exact ⟨k + 1, by omega, by go_num, by rw [HZ.out]; exact ho4, hb5⟩
          case measure => simp [intOf]; omega
        · obtain ⟨n, hn⟩ : ∃ n, M.length = n + 1 := ⟨M.length - 1, by omega⟩
          obtain ⟨a', cap', hv, hf⟩ := OwnsP.form ho
          rw [hn] at hv
          subst hv
          obtain ⟨g2, rfl, r1, r2, _, hg2, _⟩ := hf n (by omega)
          have HY : Hid (M[n] = und (x, y) → shL (L.take (k + 1)) = M.take n) := fun h => by rw [HS.out]; exact shS_yes _ hn h
          have HN : Hid (M[n] ≠ und (x, y) → shL (L.take (k + 1)) = M ++ [(x, y)]) := fun h => by rw [HS.out]; exact shS_no _ hn h
          have hshort := OwnsP.short (i := n) ho hn.symm (by omega)
          clear hf HS hm
          generalize M[n] = d at r1 r2 HY HN
          obtain ⟨x', y'⟩ := d
          simp only at r1 r2
          have kS := Blk.new wr #[.int .i64 x, .int .i64 y] 41
          have hB : Below wr.heap.size wr (wr.alloc (.cells #[.int .i64 x, .int .i64 y] 41)) := (Below.refl _ _).alloc (Nat.le_refl _) _
          have ho1 := OwnsP.below ho hB
          have hshort1 := OwnsP.below hshort hB
          have s1 := (hB.cell (p := ⟨g2, n * 2, none⟩) hg2).trans r1
          have s2 := (hB.cell (p := ⟨g2, n * 2 + 1, none⟩) hg2).trans r2
          have hg2' := Nat.lt_of_lt_of_le hg2 hB.size
          have hn20 : n + 1 ≤ 20 := by omega
          have hcap := OwnsP.cap ho
          have hM : M.length < 1000000000000 := by omega
          go_wp2
          clear r1 r2 ho hshort hn
          generalize wr.alloc _ = W at *
          have kS0 : (W).cell? ⟨wr.heap.size, 0, none⟩ = some (.int .i64 x) := kS.cell 0; have kS1 : (W).cell? ⟨wr.heap.size, 1, none⟩ = some (.int .i64 y) := kS.cell 1; have kSl : wr.heap.size < (W).heap.size := kS.lt
          have hxu := undK_bd hx
          by_cases e1 : x' = undK x
          · subst e1
            by_cases e2 : y' = y
            · subst e2
              have HE : Hid (_ = _) := HY.out rfl
              clear HY HN
              (refine wp_region_clq (by kernel_rfl) (by kernel_rfl) ?_; (repeat (go_big_quiet_step ((go_at_call 34; exact Calls.quiet_cls Closed.true _ (c_tlUndo _ _ hx _))))); refine wpQuiet_nil ?_; intro w2 hb2; obtain ⟨hc2, hf2⟩ := bcell hb2; have hz2 := hb2.size; (try simp only [World.size_alloc] at hz2))
              have ho2 := OwnsP.below hshort1 hb2
              have hb3 : Below w1.heap.size w1 w2 := below_step hb2 (by have := hB.size; omega) (below_step hB hzr hbr)
              go_wp2
              go_roundw
              case rel => exact ⟨k + 1, by omega, by go_num, by rw [HE.out]; exact ho2, hb3⟩
              case measure => simp [intOf]; omega
            · have e3 : (y' == y) = false := by simpa using e2
              have HE : Hid (_ = _) := HN.out (fun h => e2 (congrArg Prod.snd h))
              clear HY HN e2
              (refine wp_region_clq (by kernel_rfl) (by kernel_rfl) ?_; (repeat (go_big_quiet_step ((go_at_call 34; exact Calls.quiet_cls Closed.true _ (c_tlUndo _ _ hx _))))); refine wpQuiet_nil ?_; intro w2 hb2; obtain ⟨hc2, hf2⟩ := bcell hb2; have hz2 := hb2.size; (try simp only [World.size_alloc] at hz2))
              have ho2 := OwnsP.below ho1 hb2
              have k2 := kS.next hb2
              have hb3 : Below w1.heap.size w1 w2 := below_step hb2 (by have := hB.size; omega) (below_step hB hzr hbr)
              have hs3 := hb3.size
              have k20 : (w2).cell? ⟨wr.heap.size, 0, none⟩ = some (.int .i64 x) := k2.cell 0; have k21 : (w2).cell? ⟨wr.heap.size, 1, none⟩ = some (.int .i64 y) := k2.cell 1; have k2l : wr.heap.size < (w2).heap.size := k2.lt
              go_wp2_with (at_builtin; refine wpList_appS (p := (x, y)) rfl _ _ rfl w1.heap.size _ _ rfl ho2 rfl hM hs3 ?_; intro v' w4 ho4 hb4 hg4)
              have hb5 := hb3.trans hb4
              go_wp2
              go_roundw
              case rel => exact ⟨k + 1, by omega, by go_num, by rw [HE.out]; exact ho4, hb5⟩
              case measure => simp [intOf]; omega
          · have e3 : (x' == undK x) = false := by simpa using e1
            have HE : Hid (_ = _) := HN.out (fun h => e1 (congrArg Prod.fst h))
            clear HY HN e1
            (refine wp_region_clq (by kernel_rfl) (by kernel_rfl) ?_; (repeat (go_big_quiet_step ((go_at_call 34; exact Calls.quiet_cls Closed.true _ (c_tlUndo _ _ hx _))))); refine wpQuiet_nil ?_; intro w2 hb2; obtain ⟨hc2, hf2⟩ := bcell hb2; have hz2 := hb2.size; (try simp only [World.size_alloc] at hz2))
            have ho2 := OwnsP.below ho1 hb2
            have k2 := kS.next hb2
            have hb3 : Below w1.heap.size w1 w2 := below_step hb2 (by have := hB.size; omega) (below_step hB hzr hbr)
            have hs3 := hb3.size
            have k20 : (w2).cell? ⟨wr.heap.size, 0, none⟩ = some (.int .i64 x) := k2.cell 0; have k21 : (w2).cell? ⟨wr.heap.size, 1, none⟩ = some (.int .i64 y) := k2.cell 1; have k2l : wr.heap.size < (w2).heap.size := k2.lt
            go_wp2_with (at_builtin; refine wpList_appS (p := (x, y)) rfl _ _ rfl w1.heap.size _ _ rfl ho2 rfl hM hs3 ?_; intro v' w4 ho4 hb4 hg4)
            have hb5 := hb3.trans hb4
            go_wp2
            go_roundw
            case rel => exact ⟨k + 1, by omega, by go_num, by rw [HE.out]; exact ho4, hb5⟩
            case measure => simp [intOf]; omega
      · obtain rfl : k = L.length := by omega
        rw [List.take_length] at ho
        go_wp2
        go_ret2
        exact ⟨_, rfl, ho.le hw1, by (repeat' (first | (with_reducible exact Below.refl _ _) | (with_reducible refine below_step (by assumption) ?_ ?_) | (with_reducible refine Below.alloc ?_ ?_ _) | (with_reducible refine Below.setCell ?_ ?_ _) | (with_reducible refine below_drewN ?_ _) | (with_reducible refine Below.drew ?_) | omega | (simp; omega) | (simp; done)))⟩
set_option maxHeartbeats 2000000 in
theorem c_iShorten (base : Nat) (v : Value) (L : List (Int × Int)) (hL : L.length ≤ 100000000) (w : World) (hown : OwnsS w base v L) :
    Calls Try.prog 14 #[v] w (ListPost 41 w (shR L) (logB L)) := by
  unfold shR
  cases h0 : logB L
  · have H0 := Lib.hid (c_isLog base v L hL)
    rw [h0] at H0
    go_enter Try.func14, Try.ntmps14
    go_wp2_with ((go_at_call 27; refine (H0.out _ hown).mono ?_; rintro e w1 ⟨rfl, hb1⟩; obtain ⟨hc1, hf1⟩ := bcell hb1; have hz1 := hb1.size; (try simp only [World.size_alloc] at hz1); (try (have hy1 : w.heap.size < w1.heap.size := by omega)); (try (have hx1 := Nat.lt_of_succ_le hz1)); (try (have hv1 := Nat.lt_of_succ_le (Nat.le_of_lt hx1)))))
    go_ret2
    refine ⟨_, rfl, OwnsP.nil _ _ _, ?_⟩
    (repeat' (first | (with_reducible exact Below.refl _ _) | (with_reducible refine below_step (by assumption) ?_ ?_) | (with_reducible refine Below.alloc ?_ ?_ _) | (with_reducible refine Below.setCell ?_ ?_ _) | (with_reducible refine below_drewN ?_ _) | (with_reducible refine Below.drew ?_) | omega | (simp; omega) | (simp; done)))
  · rw [if_pos rfl]
    have H0 := Lib.hid (c_isLog base v L hL)
    rw [h0] at H0
    obtain ⟨hl, hst⟩ := logB_of h0
    have HK : Hid (∀ k (hk : k < L.length), L[k].1 = 0 ∨ L[k].1 = 1 ∨ L[k].1 = 2 ∨ L[k].1 = 3) := fun k hk => stepB_k (hst k hk)
    clear hst h0
    go_enter Try.func14, Try.ntmps14
    go_wp2_with fail
    (go_at_call 27; refine (H0.out _ hown).mono ?_; rintro e w1 ⟨rfl, hb1⟩; obtain ⟨hc1, hf1⟩ := bcell hb1; have hz1 := hb1.size; (try simp only [World.size_alloc] at hz1); (try (have hy1 : w.heap.size < w1.heap.size := by omega)); (try (have hx1 := Nat.lt_of_succ_le hz1)); (try (have hv1 := Nat.lt_of_succ_le (Nat.le_of_lt hx1))))
    obtain ⟨a, cap, rfl, hform⟩ := OwnsP.form (OwnsP.below hown hb1)
    have HF := Lib.hid hform
    clear hform hown H0
    have hw1 := hb1.size
    go_wp2
    go_loopw [4, 13] (fun out i wr => ∃ k : Nat, k ≤ L.length ∧ i = .int .i64 k ∧ OwnsS wr w1.heap.size out (shL (L.take k)) ∧ Below w1.heap.size w1 wr) (fun _ i _ => L.length - (intOf i).toNat)
    case atStart => exact ⟨0, Nat.zero_le _, rfl, OwnsP.nil _ _ _, Below.refl _ _⟩
    case round =>
      obtain ⟨k, hk, rfl, ho, hbr⟩ := hrel
      have hzr := hbr.size
      by_cases hlt : k < L.length
      · obtain ⟨g, rfl, q1, q2, _, hg, _⟩ := HF.out k hlt
        have d1 : wr.cell? ⟨g, k * 2, none⟩ = _ := (hbr.cell (p := ⟨g, k * 2, none⟩) hg).trans q1
        have d2 : wr.cell? ⟨g, k * 2 + 1, none⟩ = _ := (hbr.cell (p := ⟨g, k * 2 + 1, none⟩) hg).trans q2
        have hx := HK.out k hlt
        have HS := Lib.hid (shL_take L hlt)
        have hml : (shL (L.take k)).length ≤ 20 := by
          have := shL_len (L.take k) []
          have := List.length_take_le k L
          simp at this; unfold shL; simp at *; omega
        clear q1 q2
        generalize L[k] = c at d1 d2 hx HS
        generalize shL (L.take k) = M at ho HS hml
        obtain ⟨x, y⟩ := c
        simp only at d1 d2 hx
        rcases Nat.eq_zero_or_pos M.length with hm | hm
        · obtain rfl : M = [] := List.eq_nil_of_length_eq_zero hm
          obtain ⟨a', cap', rfl, hf⟩ := OwnsP.form ho
          clear hf hm
          have kS := Blk.new wr #[.int .i64 x, .int .i64 y] 41
          have hB : Below wr.heap.size wr (wr.alloc (.cells #[.int .i64 x, .int .i64 y] 41)) := (Below.refl _ _).alloc (Nat.le_refl _) _
          have ho1 := OwnsP.below ho hB
          have HZ : Hid (shL (L.take (k + 1)) = [] ++ [(x, y)]) := by show _ = _; rw [HS.out, shS_nil]
          clear HS ho
          go_wp2
          generalize wr.alloc _ = W at *
          (refine wp_region_clq (by kernel_rfl) (by kernel_rfl) ?_; (repeat (go_big_quiet_step (fail))); refine wpQuiet_nil ?_; intro w2 hb2; obtain ⟨hc2, hf2⟩ := bcell hb2; have hz2 := hb2.size; (try simp only [World.size_alloc] at hz2))
          have ho2 := OwnsP.below ho1 hb2
          have k2 := kS.next hb2
          have hb3 : Below w1.heap.size w1 w2 := below_step hb2 (by have := hB.size; omega) (below_step hB hzr hbr)
          have hs3 := hb3.size
          have k20 : (w2).cell? ⟨wr.heap.size, 0, none⟩ = some (.int .i64 x) := k2.cell 0; have k21 : (w2).cell? ⟨wr.heap.size, 1, none⟩ = some (.int .i64 y) := k2.cell 1; have k2l : wr.heap.size < (w2).heap.size := k2.lt
          go_wp2_with (at_builtin; refine wpList_appS (p := (x, y)) rfl _ _ rfl w1.heap.size _ _ rfl ho2 rfl (by simp) hs3 ?_; intro v' w4 ho4 hb4 hg4)
          have hb5 := hb3.trans hb4
          go_wp2
          go_roundw
          case rel => exact ⟨k + 1, by omega, by go_num, by rw [HZ.out]; exact ho4, hb5⟩
          case measure => simp [intOf]; omega
        · obtain ⟨n, hn⟩ : ∃ n, M.length = n + 1 := ⟨M.length - 1, by omega⟩
          obtain ⟨a', cap', hv, hf⟩ := OwnsP.form ho
          rw [hn] at hv
          subst hv
          obtain ⟨g2, rfl, r1, r2, _, hg2, _⟩ := hf n (by omega)
          have HY : Hid (M[n] = und (x, y) → shL (L.take (k + 1)) = M.take n) := fun h => by rw [HS.out]; exact shS_yes _ hn h
          have HN : Hid (M[n] ≠ und (x, y) → shL (L.take (k + 1)) = M ++ [(x, y)]) := fun h => by rw [HS.out]; exact shS_no _ hn h
          have hshort := OwnsP.short (i := n) ho hn.symm (by omega)
          clear hf HS hm
          generalize M[n] = d at r1 r2 HY HN
          obtain ⟨x', y'⟩ := d
          simp only at r1 r2
          have kS := Blk.new wr #[.int .i64 x, .int .i64 y] 41
          have hB : Below wr.heap.size wr (wr.alloc (.cells #[.int .i64 x, .int .i64 y] 41)) := (Below.refl _ _).alloc (Nat.le_refl _) _
          have ho1 := OwnsP.below ho hB
          have hshort1 := OwnsP.below hshort hB
          have s1 := (hB.cell (p := ⟨g2, n * 2, none⟩) hg2).trans r1
          have s2 := (hB.cell (p := ⟨g2, n * 2 + 1, none⟩) hg2).trans r2
          have hg2' := Nat.lt_of_lt_of_le hg2 hB.size
          have hn20 : n + 1 ≤ 20 := by omega
          have hcap := OwnsP.cap ho
          have hM : M.length < 1000000000000 := by omega
          go_wp2
          clear r1 r2 ho hshort hn
          generalize wr.alloc _ = W at *
          have kS0 : (W).cell? ⟨wr.heap.size, 0, none⟩ = some (.int .i64 x) := kS.cell 0; have kS1 : (W).cell? ⟨wr.heap.size, 1, none⟩ = some (.int .i64 y) := kS.cell 1; have kSl : wr.heap.size < (W).heap.size := kS.lt
          have hxu := undK_bd hx
          by_cases e1 : x' = undK x
          · subst e1
            by_cases e2 : y' = y
            · subst e2
              have HE : Hid (_ = _) := HY.out rfl
              clear HY HN
              (refine wp_region_clq (by kernel_rfl) (by kernel_rfl) ?_; (repeat (go_big_quiet_step ((go_at_call 32; exact Calls.quiet_cls Closed.true _ (c_undone _ _ hx _))))); refine wpQuiet_nil ?_; intro w2 hb2; obtain ⟨hc2, hf2⟩ := bcell hb2; have hz2 := hb2.size; (try simp only [World.size_alloc] at hz2))
              have ho2 := OwnsP.below hshort1 hb2
              have hb3 : Below w1.heap.size w1 w2 := below_step hb2 (by have := hB.size; omega) (below_step hB hzr hbr)
              go_wp2
              go_roundw
              case rel => exact ⟨k + 1, by omega, by go_num, by rw [HE.out]; exact ho2, hb3⟩
              case measure => simp [intOf]; omega
            · have e3 : (y' == y) = false := by simpa using e2
              have HE : Hid (_ = _) := HN.out (fun h => e2 (congrArg Prod.snd h))
              clear HY HN e2
              (refine wp_region_clq (by kernel_rfl) (by kernel_rfl) ?_; (repeat (go_big_quiet_step ((go_at_call 32; exact Calls.quiet_cls Closed.true _ (c_undone _ _ hx _))))); refine wpQuiet_nil ?_; intro w2 hb2; obtain ⟨hc2, hf2⟩ := bcell hb2; have hz2 := hb2.size; (try simp only [World.size_alloc] at hz2))
              have ho2 := OwnsP.below ho1 hb2
              have k2 := kS.next hb2
              have hb3 : Below w1.heap.size w1 w2 := below_step hb2 (by have := hB.size; omega) (below_step hB hzr hbr)
              have hs3 := hb3.size
              have k20 : (w2).cell? ⟨wr.heap.size, 0, none⟩ = some (.int .i64 x) := k2.cell 0; have k21 : (w2).cell? ⟨wr.heap.size, 1, none⟩ = some (.int .i64 y) := k2.cell 1; have k2l : wr.heap.size < (w2).heap.size := k2.lt
              go_wp2_with (at_builtin; refine wpList_appS (p := (x, y)) rfl _ _ rfl w1.heap.size _ _ rfl ho2 rfl hM hs3 ?_; intro v' w4 ho4 hb4 hg4)
              have hb5 := hb3.trans hb4
              go_wp2
              go_roundw
              case rel => exact ⟨k + 1, by omega, by go_num, by rw [HE.out]; exact ho4, hb5⟩
              case measure => simp [intOf]; omega
          · have e3 : (x' == undK x) = false := by simpa using e1
            have HE : Hid (_ = _) := HN.out (fun h => e1 (congrArg Prod.fst h))
            clear HY HN e1
            (refine wp_region_clq (by kernel_rfl) (by kernel_rfl) ?_; (repeat (go_big_quiet_step ((go_at_call 32; exact Calls.quiet_cls Closed.true _ (c_undone _ _ hx _))))); refine wpQuiet_nil ?_; intro w2 hb2; obtain ⟨hc2, hf2⟩ := bcell hb2; have hz2 := hb2.size; (try simp only [World.size_alloc] at hz2))
            have ho2 := OwnsP.below ho1 hb2
            have k2 := kS.next hb2
            have hb3 : Below w1.heap.size w1 w2 := below_step hb2 (by have := hB.size; omega) (below_step hB hzr hbr)
            have hs3 := hb3.size
            have k20 : (w2).cell? ⟨wr.heap.size, 0, none⟩ = some (.int .i64 x) := k2.cell 0; have k21 : (w2).cell? ⟨wr.heap.size, 1, none⟩ = some (.int .i64 y) := k2.cell 1; have k2l : wr.heap.size < (w2).heap.size := k2.lt
            go_wp2_with (at_builtin; refine wpList_appS (p := (x, y)) rfl _ _ rfl w1.heap.size _ _ rfl ho2 rfl hM hs3 ?_; intro v' w4 ho4 hb4 hg4)
            have hb5 := hb3.trans hb4
            go_wp2
            go_roundw
            case rel => exact ⟨k + 1, by omega, by go_num, by rw [HE.out]; exact ho4, hb5⟩
            case measure => simp [intOf]; omega
      · obtain rfl : k = L.length := by omega
        rw [List.take_length] at ho
        go_wp2
        go_ret2
        exact ⟨_, rfl, ho.le hw1, by (repeat' (first | (with_reducible exact Below.refl _ _) | (with_reducible refine below_step (by assumption) ?_ ?_) | (with_reducible refine Below.alloc ?_ ?_ _) | (with_reducible refine Below.setCell ?_ ?_ _) | (with_reducible refine below_drewN ?_ _) | (with_reducible refine Below.drew ?_) | omega | (simp; omega) | (simp; done)))⟩
end Go.Proofs.Ytpnpidepkfnofaa
