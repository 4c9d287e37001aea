/- Walks: logs inverted; slices.Reverse. -/
import Derived.Test.YtpnpidepkfnofaaShort
import Derived.BigRegion
namespace Go.Proofs.Ytpnpidepkfnofaa
open Go.RowKit

set_option maxHeartbeats 2000000 in
theorem c_reverse (base : Nat) (v : Value) (L : List (Int × Int)) (hL : L.length ≤ 100000000) (w : World) (hown : OwnsS w base v L) :
    Calls Try.prog 33 #[v] w fun e w' => e = .returned (.tuple #[]) ∧ OwnsS w' base v L.reverse ∧ w.grownBy w' v.ownBlock := by
  obtain ⟨a, cap, rfl, hform⟩ := OwnsP.form hown
  clear hform
  go_enter Try.func33, Try.ntmps33
  go_wp2
  go_loopw [2, 3] (fun ii jj wr => ∃ (k : Nat) (j : Int) (M : List (Int × Int)), ii = .int .i64 k ∧ jj = .int .i64 j ∧ j + k + 1 = L.length ∧ (2 * k ≤ L.length) ∧ M.length = L.length ∧ Hid (RvR L M k) ∧ OwnsS wr base (.slice a L.length cap) M ∧ w.grownBy wr (Value.slice a L.length cap).ownBlock) (fun _ jj _ => (intOf jj + 1).toNat)
  case atStart => exact ⟨0, L.length - 1, L, rfl, rfl, by omega, by omega, rfl, RvR.start L, hown, ⟨rfl, rfl, rfl, Nat.le_refl _, fun _ _ _ => rfl⟩⟩
  case round =>
    clear hown
    obtain ⟨i, j, M, rfl, rfl, hij, h2, hM, HR, ho, hg⟩ := hrel
    by_cases hlt : (i : Int) < j
    · obtain ⟨jn, rfl⟩ : ∃ jn : Nat, j = jn := ⟨j.toNat, by omega⟩
      obtain ⟨m1, m2, hst⟩ := HR.out.step (by omega)
      have hj : L.length - 1 - i = jn := by omega
      simp only [hj] at m2 hst
      obtain ⟨a', cap', hv, hf⟩ := OwnsP.form ho
      rw [hM] at hv
      obtain ⟨rfl, rfl⟩ : a = a' ∧ cap = cap' := by simp only [Value.slice.injEq] at hv; exact ⟨hv.1, hv.2.2⟩
      obtain ⟨g, rfl, q1, q2, hfr, hgs, _⟩ := hf i m1
      obtain ⟨g', e, r1, r2, _⟩ := hf jn m2
      obtain rfl : g = g' := by simpa using e
      have f1 := hfr (i * 2)
      have f2 := hfr (i * 2 + 1)
      have f3 := hfr (jn * 2)
      have f4 := hfr (jn * 2 + 1)
      have ho1 := OwnsP.store ho hM.symm (show i < L.length by omega) M[jn]
      have ho2 := OwnsP.store ho1 (by simpa using hM.symm) (show jn < L.length by omega) M[i]
      have hg2 := grown_setCell (grown_setCell (grown_setCell (grown_setCell (show w.grownBy wr (some g) from hg) (i * 2) (.int .i64 M[jn].1)) (i * 2 + 1) (.int .i64 M[jn].2)) (jn * 2) (.int .i64 M[i].1)) (jn * 2 + 1) (.int .i64 M[i].2)
      have HS := Lib.hid hst
      have HMM : ((M.set i M[jn]).set jn M[i]).length = L.length := by simpa using hM
      generalize (M.set i M[jn]).set jn M[i] = M' at ho2 HS HMM
      generalize M[i] = c at q1 q2 ho2 hg2
      generalize M[jn] = d at r1 r2 ho2 hg2
      obtain ⟨x, y⟩ := c
      obtain ⟨x', y'⟩ := d
      simp only at q1 q2 r1 r2
      have HO := Lib.hid (And.intro ho2 hg2)
      clear ho ho1 ho2 hg hg2 hst hf hv e hfr HR
      go_wp2
      go_big_region
      all_goals go_wp2
      go_roundw
      case rel => exact ⟨i + 1, (jn : Int) - 1, M', by go_num, rfl, by omega, by omega, HMM, HS.out, HO.out.1, ⟨HO.out.2.os, HO.out.2.tape, HO.out.2.output, HO.out.2.size, HO.out.2.block⟩⟩
      case measure => simp [intOf] <;> omega
    · have hd := HR.out.done (by omega)
      subst hd
      go_wp2
      go_end0
      exact ⟨rfl, ho, hg⟩
def ivR (L : List (Int × Int)) (k : Nat) : List (Int × Int) := (L.reverse.take k).map und
theorem ivR_succ (L : List (Int × Int)) {k : Nat} (h : k < L.length) : ivR L (k + 1) = ivR L k ++ [und (L[L.length - 1 - k]'(by omega))] := by
  unfold ivR
  rw [List.take_succ_eq_append_getElem (by simpa using h), List.map_append, List.getElem_reverse]; rfl
theorem ivR_at (L : List (Int × Int)) {k n : Nat} (h : n + k + 1 = L.length) : ivR L (k + 1) = ivR L k ++ [und (L[n]'(by omega))] := by
  have e : L.length - 1 - k = n := by omega
  have := ivR_succ L (k := k) (by omega)
  simp only [e] at this
  exact this
theorem ivR_len (L : List (Int × Int)) (k : Nat) : (ivR L k).length ≤ k := by unfold ivR; simp; omega
theorem ivR_all (L : List (Int × Int)) : ivR L L.length = invL L := by
  unfold ivR invL
  rw [List.take_of_length_le (by simp)]
noncomputable def ivL (L : List (Int × Int)) : List (Int × Int) := if logB L then invL L else []
theorem ivL_len (L : List (Int × Int)) : (ivL L).length ≤ 20 := by
  unfold ivL
  split
  · rename_i h
    have := (logB_of h).1
    unfold invL; simpa using this
  · simp
set_option maxHeartbeats 2000000 in
theorem c_sInverse (base : Nat) (v : Value) (L : List (Int × Int)) (hL : L.length ≤ 100000000) (w : World) (hown : OwnsS w base v L) :
    Calls Try.prog 13 #[v] w (ListPost 41 w (ivL L) (logB L)) := by
  unfold ivL
  cases h0 : logB L
  · have H0 := Lib.hid (c_tlLog base v L hL)
    rw [h0] at H0
    go_enter Try.func13, Try.ntmps13
    go_wp2_with ((go_at_call 30; refine (H0.out _ hown).mono ?_; rintro e w1 ⟨rfl, hb1⟩; obtain ⟨hc1, hf1⟩ := bcell hb1; have hz1 := hb1.size; (try simp only [World.size_alloc] at hz1); (try (have hy1 : w.heap.size < w1.heap.size := by omega)); (try (have hx1 := Nat.lt_of_succ_le hz1)); (try (have hv1 := Nat.lt_of_succ_le (Nat.le_of_lt hx1)))))
    go_ret2
    refine ⟨_, rfl, OwnsP.nil _ _ _, ?_⟩
    (repeat' (first | (with_reducible exact Below.refl _ _) | (with_reducible refine below_step (by assumption) ?_ ?_) | (with_reducible refine Below.alloc ?_ ?_ _) | (with_reducible refine Below.setCell ?_ ?_ _) | (with_reducible refine below_drewN ?_ _) | (with_reducible refine Below.drew ?_) | omega | (simp; omega) | (simp; done)))
  · rw [if_pos rfl]
    have H0 := Lib.hid (c_tlLog base v L hL)
    rw [h0] at H0
    obtain ⟨hl, hst⟩ := logB_of h0
    have HK : Hid (∀ k (hk : k < L.length), L[k].1 = 0 ∨ L[k].1 = 1 ∨ L[k].1 = 2 ∨ L[k].1 = 3) := fun k hk => stepB_k (hst k hk)
    clear hst h0
    go_enter Try.func13, Try.ntmps13
    go_wp2_with fail
    (go_at_call 30; refine (H0.out _ hown).mono ?_; rintro e w1 ⟨rfl, hb1⟩; obtain ⟨hc1, hf1⟩ := bcell hb1; have hz1 := hb1.size; (try simp only [World.size_alloc] at hz1); (try (have hy1 : w.heap.size < w1.heap.size := by omega)); (try (have hx1 := Nat.lt_of_succ_le hz1)); (try (have hv1 := Nat.lt_of_succ_le (Nat.le_of_lt hx1))))
    obtain ⟨a, cap, rfl, hform⟩ := OwnsP.form (OwnsP.below hown hb1)
    have HF := Lib.hid hform
    clear hform hown H0
    have hw1 := hb1.size
    go_wp2
    go_loopw [4, 5] (fun out i wr => ∃ (k : Nat) (j : Int), i = .int .i64 j ∧ j + k + 1 = L.length ∧ k ≤ L.length ∧ OwnsS wr w1.heap.size out (ivR L k) ∧ Below w1.heap.size w1 wr) (fun _ i _ => (intOf i + 1).toNat)
    case atStart => exact ⟨0, (L.length : Int) - 1, rfl, by omega, by omega, OwnsP.nil _ _ _, Below.refl _ _⟩
    case round =>
      obtain ⟨k, j, rfl, hj, hk, ho, hbr⟩ := hrel
      have hzr := hbr.size
      by_cases hlt : k < L.length
      · obtain ⟨n, rfl⟩ : ∃ n : Nat, j = n := ⟨j.toNat, by omega⟩
        have hn : n < L.length := by omega
        obtain ⟨g, rfl, q1, q2, _, hg, _⟩ := HF.out n hn
        have d1 : wr.cell? ⟨g, n * 2, none⟩ = _ := (hbr.cell (p := ⟨g, n * 2, none⟩) hg).trans q1
        have d2 : wr.cell? ⟨g, n * 2 + 1, none⟩ = _ := (hbr.cell (p := ⟨g, n * 2 + 1, none⟩) hg).trans q2
        have hx := HK.out n hn
        have HS := Lib.hid (ivR_at L (show n + k + 1 = L.length by omega))
        have hml := ivR_len L k
        have hm20 : (ivR L k).length < 1000000000000 := by omega
        clear q1 q2
        generalize L[n] = c at d1 d2 hx HS
        obtain ⟨x, y⟩ := c
        simp only at d1 d2 hx
        go_wp2_with fail
        (go_at_call 34; refine (c_tlUndo _ _ hx _).mono ?_; rintro e w2 ⟨rfl, hb2⟩; obtain ⟨hc2, hf2⟩ := bcell hb2; have hz2 := hb2.size; (try simp only [World.size_alloc] at hz2); (try (have hy2 : w.heap.size < w2.heap.size := by omega)); (try (have hx2 := Nat.lt_of_succ_le hz2)); (try (have hv2 := Nat.lt_of_succ_le (Nat.le_of_lt hx2))); (try (have hy2_1 : w1.heap.size < w2.heap.size := by omega)))
        have ho2 := OwnsP.below ho hb2
        have hb3 : Below w1.heap.size w1 w2 := below_step hb2 hzr hbr
        have hs3 := hb3.size
        go_wp2_with (at_builtin; refine wpList_appS (p := (undK x, y)) rfl _ _ rfl w1.heap.size _ _ rfl ho2 rfl hm20 hs3 ?_; intro v' w4 ho4 hb4 hg4)
        have hb5 := hb3.trans hb4
        go_wp2
        go_roundw
        case rel => exact ⟨k + 1, (n : Int) - 1, by go_num, by omega, by omega, by rw [HS.out]; exact ho4, hb5⟩
        case measure => simp [intOf] <;> omega
      · obtain rfl : k = L.length := by omega
        obtain rfl : j = -1 := by omega
        rw [ivR_all] at ho
        go_wp2
        go_ret2
        exact ⟨_, rfl, ho.le hw1, by (repeat' (first | (with_reducible exact Below.refl _ _) | (with_reducible refine below_step (by assumption) ?_ ?_) | (with_reducible refine Below.alloc ?_ ?_ _) | (with_reducible refine Below.setCell ?_ ?_ _) | (with_reducible refine below_drewN ?_ _) | (with_reducible refine Below.drew ?_) | omega | (simp; omega) | (simp; done)))⟩
theorem und_take (L : List (Int × Int)) {k : Nat} (h : k < L.length) : (L.take (k + 1)).map und = (L.take k).map und ++ [und L[k]] := by
  rw [List.take_succ_eq_append_getElem h, List.map_append]; rfl
set_option maxHeartbeats 2000000 in
theorem c_iInverse (base : Nat) (v : Value) (L : List (Int × Int)) (hL : L.length ≤ 100000000) (w : World) (hown : OwnsS w base v L) :
    Calls Try.prog 12 #[v] w (ListPost 41 w (ivL L) (logB L)) := by
  unfold ivL
  cases h0 : logB L
  · have H0 := Lib.hid (c_isLog base v L hL)
    rw [h0] at H0
    go_enter Try.func12, Try.ntmps12
    go_wp2_with ((go_at_call 27; refine (H0.out _ hown).mono ?_; rintro e w1 ⟨rfl, hb1⟩; obtain ⟨hc1, hf1⟩ := bcell hb1; have hz1 := hb1.size; (try simp only [World.size_alloc] at hz1); (try (have hy1 : w.heap.size < w1.heap.size := by omega)); (try (have hx1 := Nat.lt_of_succ_le hz1)); (try (have hv1 := Nat.lt_of_succ_le (Nat.le_of_lt hx1)))))
    go_ret2
    refine ⟨_, rfl, OwnsP.nil _ _ _, ?_⟩
    (repeat' (first | (with_reducible exact Below.refl _ _) | (with_reducible refine below_step (by assumption) ?_ ?_) | (with_reducible refine Below.alloc ?_ ?_ _) | (with_reducible refine Below.setCell ?_ ?_ _) | (with_reducible refine below_drewN ?_ _) | (with_reducible refine Below.drew ?_) | omega | (simp; omega) | (simp; done)))
  · rw [if_pos rfl]
    have H0 := Lib.hid (c_isLog base v L hL)
    rw [h0] at H0
    obtain ⟨hl, hst⟩ := logB_of h0
    have HK : Hid (∀ k (hk : k < L.length), L[k].1 = 0 ∨ L[k].1 = 1 ∨ L[k].1 = 2 ∨ L[k].1 = 3) := fun k hk => stepB_k (hst k hk)
    clear hst h0
    go_enter Try.func12, Try.ntmps12
    go_wp2_with fail
    (go_at_call 27; refine (H0.out _ hown).mono ?_; rintro e w1 ⟨rfl, hb1⟩; obtain ⟨hc1, hf1⟩ := bcell hb1; have hz1 := hb1.size; (try simp only [World.size_alloc] at hz1); (try (have hy1 : w.heap.size < w1.heap.size := by omega)); (try (have hx1 := Nat.lt_of_succ_le hz1)); (try (have hv1 := Nat.lt_of_succ_le (Nat.le_of_lt hx1))))
    obtain ⟨a, cap, rfl, hform⟩ := OwnsP.form (OwnsP.below hown hb1)
    have HF := Lib.hid hform
    clear hform hown H0
    have hw1 := hb1.size
    go_wp2
    go_loopw [4, 12] (fun out i wr => ∃ k : Nat, k ≤ L.length ∧ i = .int .i64 k ∧ OwnsS wr w1.heap.size out ((L.take k).map und) ∧ Below w1.heap.size w1 wr) (fun _ i _ => L.length - (intOf i).toNat)
    case atStart => exact ⟨0, Nat.zero_le _, rfl, OwnsP.nil _ _ _, Below.refl _ _⟩
    case round =>
      obtain ⟨k, hk, rfl, ho, hbr⟩ := hrel
      have hzr := hbr.size
      by_cases hlt : k < L.length
      · obtain ⟨g, rfl, q1, q2, _, hg, _⟩ := HF.out k hlt
        have d1 : wr.cell? ⟨g, k * 2, none⟩ = _ := (hbr.cell (p := ⟨g, k * 2, none⟩) hg).trans q1
        have d2 : wr.cell? ⟨g, k * 2 + 1, none⟩ = _ := (hbr.cell (p := ⟨g, k * 2 + 1, none⟩) hg).trans q2
        have hx := HK.out k hlt
        have HS := Lib.hid (und_take L hlt)
        have hm20 : ((L.take k).map und).length < 1000000000000 := by simp; omega
        clear q1 q2
        generalize L[k] = c at d1 d2 hx HS
        obtain ⟨x, y⟩ := c
        simp only at d1 d2 hx
        generalize (L.take k).map und = M at ho HS hm20
        go_wp2_with fail
        (go_at_call 32; refine (c_undone _ _ hx _).mono ?_; rintro e w2 ⟨rfl, hb2⟩; obtain ⟨hc2, hf2⟩ := bcell hb2; have hz2 := hb2.size; (try simp only [World.size_alloc] at hz2); (try (have hy2 : w.heap.size < w2.heap.size := by omega)); (try (have hx2 := Nat.lt_of_succ_le hz2)); (try (have hv2 := Nat.lt_of_succ_le (Nat.le_of_lt hx2))); (try (have hy2_1 : w1.heap.size < w2.heap.size := by omega)))
        have hA := (Below.refl wr.heap.size wr).alloc (Nat.le_refl _) (.cells #[.int .i64 x, .int .i64 y] 41)
        have ho2 := OwnsP.below (OwnsP.below ho hA) hb2
        have hb3 : Below w1.heap.size w1 w2 := below_step hb2 (by simp; omega) (below_step hA hzr hbr)
        have hs3 := hb3.size
        go_wp2_with (at_builtin; refine wpList_appS (p := (undK x, y)) rfl _ _ rfl w1.heap.size _ _ rfl ho2 rfl hm20 hs3 ?_; intro v' w4 ho4 hb4 hg4)
        have hb5 := hb3.trans hb4
        go_wp2
        go_roundw
        case rel => exact ⟨k + 1, by omega, by go_num, by rw [HS.out]; exact ho4, hb5⟩
        case measure => simp [intOf]; omega
      · obtain rfl : k = L.length := by omega
        rw [List.take_length] at ho
        have hml : (L.map und).length ≤ 100000000 := by simp; omega
        have HR : Hid ((L.map und).reverse = invL L) := by show _ = _; unfold invL; rw [List.map_reverse]
        generalize L.map und = M at ho hml HR
        go_wp2_with fail
        refine (c_reverse _ _ M hml _ ho).mono ?_
        rintro e w4 ⟨rfl, ho4, hg4⟩
        rw [HR.out] at ho4
        have hb4 := below_of_grown (B := w1.heap.size) hg4 hzr (fun k hk => (ho.lt k hk).1)
        have hb5 := hbr.trans hb4
        go_wp2
        go_ret2
        exact ⟨_, rfl, ho4.le hw1, by (repeat' (first | (with_reducible exact Below.refl _ _) | (with_reducible refine below_step (by assumption) ?_ ?_) | (with_reducible refine Below.alloc ?_ ?_ _) | (with_reducible refine Below.setCell ?_ ?_ _) | (with_reducible refine below_drewN ?_ _) | (with_reducible refine Below.drew ?_) | omega | (simp; omega) | (simp; done)))⟩
end Go.Proofs.Ytpnpidepkfnofaa
