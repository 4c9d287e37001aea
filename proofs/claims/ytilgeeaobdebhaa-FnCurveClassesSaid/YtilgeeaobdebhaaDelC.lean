/- Walks: curves of a table with a trace, with an invariant. -/
import Derived.Test.YtilgeeaobdebhaaDel
namespace Go.Proofs.Ytilgeeaobdebhaa
open Go.RowKit

def trV (A B p : Int) : Int := p + 1 - cntV A B p
theorem cntV_bd {A B p : Int} (hpr : primeB p = true) (hp : 3 ≤ p ∧ p ≤ 997) : 1 ≤ cntV A B p ∧ cntV A B p ≤ 2 * p + 1 := by
  have := sumTo_bd A B p hpr hp.1 (by omega) p.toNat
  unfold cntV
  omega
theorem c_traceAt (A B p : Int) (hA : -1000 ≤ A ∧ A ≤ 1000) (hB : -10000 ≤ B ∧ B ≤ 10000) (hp : 3 ≤ p ∧ p ≤ 997) (hpr : primeB p = true) (w : World) :
    Calls Try.prog 38 #[.agg #[.int .i64 A, .int .i64 B], .int .i64 p] w fun e w' => e = .returned (.int .i64 (trV A B p)) ∧ Below w.heap.size w w' := by
  have hb := cntV_bd (A := A) (B := B) hpr hp
  have HP := Lib.hid hpr
  clear hpr
  go_enter Try.func38, Try.ntmps38
  go_wp2_with ((go_at_call 49; refine (c_countPoints _ _ _ hA hB hp HP.out _).mono ?_; rintro e w1 ⟨rfl, hb1⟩; obtain ⟨hc1, hf1⟩ := bcell hb1; have hz1 := hb1.size; (try simp only [World.size_alloc] at hz1); (try (have hy1 : w.heap.size < w1.heap.size := by omega)); (try (have hx1 := Nat.lt_of_succ_le hz1)); (try (have hv1 := Nat.lt_of_succ_le (Nat.le_of_lt hx1)))))
  go_ret
  refine ⟨rfl, ?_⟩
  (repeat' (first | (with_reducible exact Below.refl _ _) | (with_reducible refine below_step (by assumption) ?_ ?_) | (with_reducible refine Below.alloc ?_ ?_ _) | (with_reducible refine Below.setCell ?_ ?_ _) | (with_reducible refine below_drewN ?_ _) | (with_reducible refine Below.drew ?_) | omega | (simp; omega) | (simp; done)))
theorem c_ctTrace (A B p : Int) (hA : -1000 ≤ A ∧ A ≤ 1000) (hB : -10000 ≤ B ∧ B ≤ 10000) (hp : 3 ≤ p ∧ p ≤ 997) (hpr : primeB p = true) (w : World) :
    Calls Try.prog 41 #[.int .i64 p, .agg #[.int .i64 A, .int .i64 B]] w fun e w' => e = .returned (.int .i64 (trV A B p)) ∧ Below w.heap.size w w' := by
  have hb := cntV_bd (A := A) (B := B) hpr hp
  have HP := Lib.hid hpr
  clear hpr
  go_enter Try.func41, Try.ntmps41
  go_wp2_with ((go_at_call 54; refine (c_fmCount _ _ _ hA hB hp HP.out _).mono ?_; rintro e w1 ⟨rfl, hb1⟩; obtain ⟨hc1, hf1⟩ := bcell hb1; have hz1 := hb1.size; (try simp only [World.size_alloc] at hz1); (try (have hy1 : w.heap.size < w1.heap.size := by omega)); (try (have hx1 := Nat.lt_of_succ_le hz1)); (try (have hv1 := Nat.lt_of_succ_le (Nat.le_of_lt hx1)))))
  go_ret
  refine ⟨rfl, ?_⟩
  (repeat' (first | (with_reducible exact Below.refl _ _) | (with_reducible refine below_step (by assumption) ?_ ?_) | (with_reducible refine Below.alloc ?_ ?_ _) | (with_reducible refine Below.setCell ?_ ?_ _) | (with_reducible refine below_drewN ?_ _) | (with_reducible refine Below.drew ?_) | omega | (simp; omega) | (simp; done)))
set_option maxHeartbeats 1000000 in
theorem c_closT (x y p t : Int) (hA : -1000 ≤ x ∧ x ≤ 1000) (hB : -10000 ≤ y ∧ y ≤ 10000) (hp : 3 ≤ p ∧ p ≤ 997) (hpr : primeB p = true) (b1 b2 : Nat) (w : World) (h1 : Blk b1 #[.int .i64 p] 3 w) (h2 : Blk b2 #[.int .i64 t] 3 w) :
    Calls Try.prog 46 #[.agg #[.int .i64 x, .int .i64 y], .pointer (some ⟨b1, 0, none⟩), .pointer (some ⟨b2, 0, none⟩)] w fun e w' => e = .returned (.bool (!(trV x y p == t))) ∧ Below w.heap.size w w' := by
  have kC := Blk.new w #[.int .i64 x, .int .i64 y] 38
  have k1 := h1.alloc (.cells #[.int .i64 x, .int .i64 y] 38)
  have k2 := h2.alloc (.cells #[.int .i64 x, .int .i64 y] 38)
  have hB0 : Below w.heap.size w (w.alloc (.cells #[.int .i64 x, .int .i64 y] 38)) := (Below.refl _ _).alloc (Nat.le_refl _) _
  have HP := Lib.hid hpr
  clear h1 h2 hpr
  go_enter Try.func46, Try.ntmps46
  go_wp2
  generalize w.alloc (.cells #[.int .i64 x, .int .i64 y] 38) = W at kC k1 k2 hB0 ⊢
  have hs0 := hB0.size
  have kC0 : (W).cell? ⟨w.heap.size, 0, none⟩ = some (.int .i64 x) := kC.cell 0; have kC1 : (W).cell? ⟨w.heap.size, 1, none⟩ = some (.int .i64 y) := kC.cell 1; have kCl : w.heap.size < (W).heap.size := kC.lt
  have k10 : (W).cell? ⟨b1, 0, none⟩ = some (.int .i64 p) := k1.cell 0; have k1l : b1 < (W).heap.size := k1.lt
  have k20 : (W).cell? ⟨b2, 0, none⟩ = some (.int .i64 t) := k2.cell 0; have k2l : b2 < (W).heap.size := k2.lt
  (refine wp_region_clq (by kernel_rfl) (by kernel_rfl) ?_; (repeat (go_big_quiet_step ((go_at_call 38; exact Calls.quiet_cls Closed.true _ (c_traceAt _ _ _ hA hB hp HP.out _))))); refine wpQuiet_nil ?_; intro w1 hb1; obtain ⟨hc1, hf1⟩ := bcell hb1; have hz1 := hb1.size; (try simp only [World.size_alloc] at hz1))
  go_wp2
  go_ret
  exact ⟨rfl, below_step hb1 hs0 hB0⟩
set_option maxHeartbeats 1000000 in
theorem c_closJ (x y p t : Int) (hA : 0 ≤ x ∧ x ≤ 1000) (hB : 0 ≤ y ∧ y ≤ 1000) (hp : 2 ≤ p ∧ p ≤ 1000) (b1 b2 : Nat) (w : World) (h1 : Blk b1 #[.int .i64 p] 3 w) (h2 : Blk b2 #[.int .i64 t] 3 w) :
    Calls Try.prog 64 #[.agg #[.int .i64 x, .int .i64 y], .pointer (some ⟨b1, 0, none⟩), .pointer (some ⟨b2, 0, none⟩)] w fun e w' => e = .returned (.bool (!(invV p x y == t))) ∧ Below w.heap.size w w' := by
  have kC := Blk.new w #[.int .i64 x, .int .i64 y] 38
  have k1 := h1.alloc (.cells #[.int .i64 x, .int .i64 y] 38)
  have k2 := h2.alloc (.cells #[.int .i64 x, .int .i64 y] 38)
  have hB0 : Below w.heap.size w (w.alloc (.cells #[.int .i64 x, .int .i64 y] 38)) := (Below.refl _ _).alloc (Nat.le_refl _) _
  clear h1 h2
  go_enter Try.func64, Try.ntmps64
  go_wp2
  generalize w.alloc (.cells #[.int .i64 x, .int .i64 y] 38) = W at kC k1 k2 hB0 ⊢
  have hs0 := hB0.size
  have kC0 : (W).cell? ⟨w.heap.size, 0, none⟩ = some (.int .i64 x) := kC.cell 0; have kC1 : (W).cell? ⟨w.heap.size, 1, none⟩ = some (.int .i64 y) := kC.cell 1; have kCl : w.heap.size < (W).heap.size := kC.lt
  have k10 : (W).cell? ⟨b1, 0, none⟩ = some (.int .i64 p) := k1.cell 0; have k1l : b1 < (W).heap.size := k1.lt
  have k20 : (W).cell? ⟨b2, 0, none⟩ = some (.int .i64 t) := k2.cell 0; have k2l : b2 < (W).heap.size := k2.lt
  (refine wp_region_clq (by kernel_rfl) (by kernel_rfl) ?_; (repeat (go_big_quiet_step ((go_at_call 60; exact Calls.quiet_cls Closed.true _ (c_invariantModulo _ _ _ hp hA hB _))))); refine wpQuiet_nil ?_; intro w1 hb1; obtain ⟨hc1, hf1⟩ := bcell hb1; have hz1 := hb1.size; (try simp only [World.size_alloc] at hz1))
  go_wp2
  go_ret
  exact ⟨rfl, below_step hb1 hs0 hB0⟩
def withT (p t : Int) : List (Int × Int) := (tabL p).filter fun c => trV c.1 c.2 p == t
def withJ (p j : Int) : List (Int × Int) := (tabL p).filter fun c => invV p c.1 c.2 == j
noncomputable def cwT (p t : Int) : List (Int × Int) := if tabP p then withT p t else []
noncomputable def cjB (p j : Int) : Bool := tabP p && inB j 0 (p - 1)
noncomputable def cwJ (p j : Int) : List (Int × Int) := if cjB p j then withJ p j else []
theorem cwT_len (p t : Int) : (cwT p t).length ≤ 1000 := by
  unfold cwT
  split
  · rename_i h
    have := tabL_len (p := p) (tabP_of h).2.1
    have := List.length_filter_le (fun c => trV c.1 c.2 p == t) (tabL p)
    unfold withT; omega
  · simp
theorem cwJ_len (p t : Int) : (cwJ p t).length ≤ 1000 := by
  unfold cwJ
  split
  · rename_i h
    have hp : tabP p = true := by unfold cjB at h; simp at h; exact h.1
    have := tabL_len (p := p) (tabP_of hp).2.1
    have := List.length_filter_le (fun c => invV p c.1 c.2 == t) (tabL p)
    unfold withJ; omega
  · simp
theorem filter_no {f : Int × Int → Bool} {L : List (Int × Int)} {k : Nat} (hk : k < L.length) (h : f L[k] = false) : (L.take (k + 1)).filter f = (L.take k).filter f := by
  rw [List.take_succ_eq_append_getElem hk, List.filter_append]; simp [h]
theorem filter_yes {f : Int × Int → Bool} {L : List (Int × Int)} {k : Nat} (hk : k < L.length) (h : f L[k] = true) : (L.take (k + 1)).filter f = (L.take k).filter f ++ [L[k]] := by
  rw [List.take_succ_eq_append_getElem hk, List.filter_append]; simp [h]
set_option maxHeartbeats 1000000 in
theorem c_iCurvesWithTrace (p t : Int) (w : World) :
    Calls Try.prog 14 #[.int .i64 p, .int .i64 t] w (ListPost 38 w (cwT p t) (tabP p)) := by
  have k1 := (Blk.new w #[.int .i64 p] 3).alloc (.cells #[.int .i64 t] 3)
  have k2 := Blk.new (w.alloc (.cells #[.int .i64 p] 3)) #[.int .i64 t] 3
  have hB0 : Below w.heap.size w ((w.alloc (.cells #[.int .i64 p] 3)).alloc (.cells #[.int .i64 t] 3)) := by (repeat' (first | (with_reducible exact Below.refl _ _) | (with_reducible refine below_step (by assumption) ?_ ?_) | (with_reducible refine Below.alloc ?_ ?_ _) | (with_reducible refine Below.setCell ?_ ?_ _) | (with_reducible refine below_drewN ?_ _) | (with_reducible refine Below.drew ?_) | omega | (simp; omega) | (simp; done)))
  unfold cwT
  cases hh : tabP p
  · go_enter Try.func14, Try.ntmps14
    go_wp2_with ((go_at_call 36; refine (c_isTablePrime _ _).mono ?_; rintro e w' ⟨rfl, rfl⟩))
    go_ret2
    refine ⟨_, rfl, OwnsP.nil _ _ _, ?_⟩
    (repeat' (first | (with_reducible exact Below.refl _ _) | (with_reducible refine below_step (by assumption) ?_ ?_) | (with_reducible refine Below.alloc ?_ ?_ _) | (with_reducible refine Below.setCell ?_ ?_ _) | (with_reducible refine below_drewN ?_ _) | (with_reducible refine Below.drew ?_) | omega | (simp; omega) | (simp; done)))
  · obtain ⟨h5, h31, hpr⟩ := tabP_of hh
    have eg : ∀ args w, (callFunc 46 args).run Try.prog w = .ok (.enter 46 args) w := enters_of Try.func46 (by kernel_rfl) rfl
    have hlen := tabL_len (p := p) (by omega)
    have hs : ∀ b1 b2, Says 46 b1 b2 p t (fun c => !(trV c.1 c.2 p == t)) (tabL p) := by
      intro b1 b2 W x y hm q1 q2
      have := tabL_mem hm
      exact c_closT x y p t (by omega) (by omega) (by omega) hpr b1 b2 W q1 q2
    have HD := Lib.hid (fun b1 b2 base v w h1 h2 hl1 hl2 hown => c_deleteF 46 eg b1 b2 p t _ base v (tabL p) (by omega) w (hs b1 b2) h1 h2 hl1 hl2 hown)
    have HP := Lib.hid hh
    clear eg hs hpr hlen
    rw [if_pos rfl]
    go_enter Try.func14, Try.ntmps14
    go_wp2_with ((go_at_call 36; refine (c_isTablePrime _ _).mono ?_; rintro e w' ⟨rfl, rfl⟩))
    clear hh
    refine (c_tableOf _ HP.out _).mono ?_
    rintro e w1 ⟨v, rfl, hown, hb1⟩
    have k1 := k1.next hb1
    have k2 := k2.next hb1
    have hz := hb1.size
    simp only [World.size_alloc] at hz hown k2
    have hB1 := below_step hb1 (by simp; omega) hB0
    have hlt := hown.lt
    go_wp2_with fail
    refine (HD.out _ _ _ _ _ k1 k2 (by omega) (by omega) hown).mono ?_
    rintro e w2 ⟨v2, rfl, ho2, hg2⟩
    go_wp2
    go_ret2
    refine ⟨_, rfl, ?_, hB1.trans (below_of_grown hg2 (by omega) (fun k hk => by have := (hlt k hk).1; omega))⟩
    have e : ((tabL p).filter fun c => !!(trV c.1 c.2 p == t)) = withT p t := by unfold withT; simp only [Bool.not_not]
    rw [← e]
    exact ho2.le (by omega)
set_option maxHeartbeats 1000000 in
theorem c_iCurvesWithInvariant (p t : Int) (w : World) :
    Calls Try.prog 30 #[.int .i64 p, .int .i64 t] w (ListPost 38 w (cwJ p t) (cjB p t)) := by
  have k1 := (Blk.new w #[.int .i64 p] 3).alloc (.cells #[.int .i64 t] 3)
  have k2 := Blk.new (w.alloc (.cells #[.int .i64 p] 3)) #[.int .i64 t] 3
  have hB0 : Below w.heap.size w ((w.alloc (.cells #[.int .i64 p] 3)).alloc (.cells #[.int .i64 t] 3)) := by (repeat' (first | (with_reducible exact Below.refl _ _) | (with_reducible refine below_step (by assumption) ?_ ?_) | (with_reducible refine Below.alloc ?_ ?_ _) | (with_reducible refine Below.setCell ?_ ?_ _) | (with_reducible refine below_drewN ?_ _) | (with_reducible refine Below.drew ?_) | omega | (simp; omega) | (simp; done)))
  unfold cwJ
  cases hh : tabP p
  · have hq : cjB p t = false := by unfold cjB; rw [hh]; rfl
    rw [hq]
    go_enter Try.func30, Try.ntmps30
    go_wp2_with ((go_at_call 36; refine (c_isTablePrime _ _).mono ?_; rintro e w' ⟨rfl, rfl⟩))
    go_ret2
    refine ⟨_, rfl, OwnsP.nil _ _ _, ?_⟩
    (repeat' (first | (with_reducible exact Below.refl _ _) | (with_reducible refine below_step (by assumption) ?_ ?_) | (with_reducible refine Below.alloc ?_ ?_ _) | (with_reducible refine Below.setCell ?_ ?_ _) | (with_reducible refine below_drewN ?_ _) | (with_reducible refine Below.drew ?_) | omega | (simp; omega) | (simp; done)))
  · obtain ⟨h5, h31, hpr⟩ := tabP_of hh
    cases hi : inB t 0 (p - 1)
    · have hq : cjB p t = false := by unfold cjB; rw [hh, hi]; rfl
      rw [hq]
      go_enter Try.func30, Try.ntmps30
      go_wp2_with (first | (go_at_call 36; refine (c_isTablePrime _ _).mono ?_; rintro e w' ⟨rfl, rfl⟩) | (go_at_call 63; refine (c_inside _ _ _ _).mono ?_; rintro e w' ⟨rfl, rfl⟩))
      go_ret2
      refine ⟨_, rfl, OwnsP.nil _ _ _, ?_⟩
      (repeat' (first | (with_reducible exact Below.refl _ _) | (with_reducible refine below_step (by assumption) ?_ ?_) | (with_reducible refine Below.alloc ?_ ?_ _) | (with_reducible refine Below.setCell ?_ ?_ _) | (with_reducible refine below_drewN ?_ _) | (with_reducible refine Below.drew ?_) | omega | (simp; omega) | (simp; done)))
    · have hq : cjB p t = true := by unfold cjB; rw [hh, hi]; rfl
      rw [hq]
      have eg : ∀ args w, (callFunc 64 args).run Try.prog w = .ok (.enter 64 args) w := enters_of Try.func64 (by kernel_rfl) rfl
      have hlen := tabL_len (p := p) (by omega)
      have hs : ∀ b1 b2, Says 64 b1 b2 p t (fun c => !(invV p c.1 c.2 == t)) (tabL p) := by
        intro b1 b2 W x y hm q1 q2
        have := tabL_mem hm
        exact c_closJ x y p t (by omega) (by omega) (by omega) b1 b2 W q1 q2
      have HD := Lib.hid (fun b1 b2 base v w h1 h2 hl1 hl2 hown => c_deleteF 64 eg b1 b2 p t _ base v (tabL p) (by omega) w (hs b1 b2) h1 h2 hl1 hl2 hown)
      have HP := Lib.hid hh
      clear eg hs hpr hlen hq
      rw [if_pos rfl]
      go_enter Try.func30, Try.ntmps30
      go_wp2_with (first | (go_at_call 36; refine (c_isTablePrime _ _).mono ?_; rintro e w' ⟨rfl, rfl⟩) | (go_at_call 63; refine (c_inside _ _ _ _).mono ?_; rintro e w' ⟨rfl, rfl⟩))
      clear hh hi
      refine (c_tableOf _ HP.out _).mono ?_
      rintro e w1 ⟨v, rfl, hown, hb1⟩
      have k1 := k1.next hb1
      have k2 := k2.next hb1
      have hz := hb1.size
      simp only [World.size_alloc] at hz hown k2
      have hB1 := below_step hb1 (by simp; omega) hB0
      have hlt := hown.lt
      go_wp2_with fail
      refine (HD.out _ _ _ _ _ k1 k2 (by omega) (by omega) hown).mono ?_
      rintro e w2 ⟨v2, rfl, ho2, hg2⟩
      go_wp2
      go_ret2
      refine ⟨_, rfl, ?_, hB1.trans (below_of_grown hg2 (by omega) (fun k hk => by have := (hlt k hk).1; omega))⟩
      have e : ((tabL p).filter fun c => !!(invV p c.1 c.2 == t)) = withJ p t := by unfold withJ; simp only [Bool.not_not]
      rw [← e]
      exact ho2.le (by omega)
theorem c_iSupersingularCurves (p : Int) (w : World) :
    Calls Try.prog 9 #[.int .i64 p] w (ListPost 38 w (cwT p 0) (tabP p)) := by
  have H := Lib.hid (c_iCurvesWithTrace p 0 w)
  go_enter Try.func9, Try.ntmps9
  go_wp2_with fail
  refine H.out.mono ?_
  rintro e w1 ⟨v, rfl, ho, hb⟩
  go_wp2
  go_ret2
  exact ⟨_, rfl, ho, hb⟩
set_option maxHeartbeats 1000000 in
theorem c_ctWith (p t : Int) (hp : tabP p = true) (w : World) :
    Calls Try.prog 42 #[.int .i64 p, .int .i64 t] w fun e w' => ∃ v, e = .returned v ∧ OwnsC w' w.heap.size v (withT p t) ∧ Below w.heap.size w w' := by
  obtain ⟨h5, h31, hpr⟩ := tabP_of hp
  have hlen := tabL_len (p := p) (by omega)
  have HP1 := Lib.hid hp
  have HP := Lib.hid hpr
  clear hp hpr
  have HW : Hid (withT p t = (tabL p).filter fun c => trV c.1 c.2 p == t) := rfl
  have HM : Hid (∀ k (h : k < (tabL p).length), (0 ≤ (tabL p)[k].1 ∧ (tabL p)[k].1 ≤ p - 1) ∧ (0 ≤ (tabL p)[k].2 ∧ (tabL p)[k].2 ≤ p - 1)) := fun k h => ⟨(tabL_mem (List.getElem_mem h)).1, (tabL_mem (List.getElem_mem h)).2.1⟩
  go_enter Try.func42, Try.ntmps42
  go_wp2_with fail
  refine (c_ctAll _ HP1.out _).mono ?_
  rintro e w1 ⟨v, rfl, hown, hb1⟩
  have hz1 := hb1.size
  obtain ⟨a, cap, rfl, hform⟩ := OwnsP.form hown
  have HF := Lib.hid hform
  clear hform hown
  go_wp2
  go_loopw [5, 11] (fun out i wr => ∃ k : Nat, k ≤ (tabL p).length ∧ i = .int .i64 k ∧ OwnsC wr w1.heap.size out (((tabL p).take k).filter fun c => trV c.1 c.2 p == t) ∧ Below w1.heap.size w1 wr) (fun _ i _ => (tabL p).length - (intOf i).toNat)
  case atStart => exact ⟨0, Nat.zero_le _, rfl, OwnsP.nil _ _ _, Below.refl _ _⟩
  case round =>
    obtain ⟨k, hk, rfl, ho, hbr⟩ := hrel
    have hzr := hbr.size
    by_cases hlt : k < (tabL p).length
    · obtain ⟨g, rfl, q1, q2, _, hg, _⟩ := HF.out k hlt
      have hm := HM.out k hlt
      have d1 : wr.cell? ⟨g, k * 2, none⟩ = _ := (hbr.cell (p := ⟨g, k * 2, none⟩) hg).trans q1
      have d2 : wr.cell? ⟨g, k * 2 + 1, none⟩ = _ := (hbr.cell (p := ⟨g, k * 2 + 1, none⟩) hg).trans q2
      have HN : Hid (((trV (tabL p)[k].1 (tabL p)[k].2 p == t) = false → ((tabL p).take (k + 1)).filter (fun c => trV c.1 c.2 p == t) = ((tabL p).take k).filter (fun c => trV c.1 c.2 p == t))) := fun h => filter_no hlt h
      have HY : Hid (((trV (tabL p)[k].1 (tabL p)[k].2 p == t) = true → ((tabL p).take (k + 1)).filter (fun c => trV c.1 c.2 p == t) = ((tabL p).take k).filter (fun c => trV c.1 c.2 p == t) ++ [(tabL p)[k]])) := fun h => filter_yes hlt h
      have hfl := List.length_filter_le (fun c => trV c.1 c.2 p == t) ((tabL p).take k)
      rw [List.length_take] at hfl
      have hfl2 : (((tabL p).take k).filter fun c => trV c.1 c.2 p == t).length < 1000000 := by omega
      clear q1 q2 hfl
      generalize (tabL p)[k] = c at d1 d2 hm HN HY
      obtain ⟨x, y⟩ := c
      simp only at d1 d2 hm HN HY
      cases hq : (trV x y p == t)
      · have HE : Hid (_ = _) := HN.out hq
        go_wp2_with fail
        (go_at_call 41; refine (c_ctTrace _ _ _ (by omega) (by omega) (by omega) HP.out _).mono ?_; rintro e w2 ⟨rfl, hb2⟩; obtain ⟨hc2, hf2⟩ := bcell hb2; have hz2 := hb2.size; (try simp only [World.size_alloc] at hz2); (try (have hy2 : w.heap.size < w2.heap.size := by omega)); (try (have hx2 := Nat.lt_of_succ_le hz2)); (try (have hv2 := Nat.lt_of_succ_le (Nat.le_of_lt hx2))); (try (have hy2_1 : w1.heap.size < w2.heap.size := by omega)))
        have hbl2 : Below w1.heap.size w1 w2 := by (repeat' (first | (with_reducible exact Below.refl _ _) | (with_reducible refine below_step (by assumption) ?_ ?_) | (with_reducible refine Below.alloc ?_ ?_ _) | (with_reducible refine Below.setCell ?_ ?_ _) | (with_reducible refine below_drewN ?_ _) | (with_reducible refine Below.drew ?_) | omega | (simp; omega) | (simp; done)))
        have ho2 := OwnsP.below (OwnsP.below ho (Below.alloc (Below.refl _ _) (Nat.le_refl _) _)) hb2
        go_wp2
        go_roundw
        case rel => exact ⟨k + 1, by omega, by go_num, by rw [HE.out]; exact ho2, hbl2⟩
        case measure => simp [intOf]; omega
      · have HE : Hid (_ = _) := HY.out hq
        go_wp2_with fail
        (go_at_call 41; refine (c_ctTrace _ _ _ (by omega) (by omega) (by omega) HP.out _).mono ?_; rintro e w2 ⟨rfl, hb2⟩; obtain ⟨hc2, hf2⟩ := bcell hb2; have hz2 := hb2.size; (try simp only [World.size_alloc] at hz2); (try (have hy2 : w.heap.size < w2.heap.size := by omega)); (try (have hx2 := Nat.lt_of_succ_le hz2)); (try (have hv2 := Nat.lt_of_succ_le (Nat.le_of_lt hx2))); (try (have hy2_1 : w1.heap.size < w2.heap.size := by omega)))
        have hbl2 : Below w1.heap.size w1 w2 := by (repeat' (first | (with_reducible exact Below.refl _ _) | (with_reducible refine below_step (by assumption) ?_ ?_) | (with_reducible refine Below.alloc ?_ ?_ _) | (with_reducible refine Below.setCell ?_ ?_ _) | (with_reducible refine below_drewN ?_ _) | (with_reducible refine Below.drew ?_) | omega | (simp; omega) | (simp; done)))
        have ho2 := OwnsP.below (OwnsP.below ho (Below.alloc (Below.refl _ _) (Nat.le_refl _) _)) hb2
        have hs2 := hbl2.size
        go_wp2_with (at_builtin; refine wpList_appC (p := (x, y)) rfl _ _ rfl w1.heap.size _ _ rfl ho2 rfl (by omega) hs2 ?_; intro v' w4 ho4 hb4 hg4)
        have hb5 := hbl2.trans hb4
        go_wp2
        go_roundw
        case rel => exact ⟨k + 1, by omega, by go_num, by rw [HE.out]; exact ho4, hb5⟩
        case measure => simp [intOf]; omega
    · obtain rfl : k = (tabL p).length := by omega
      rw [List.take_length] at ho
      go_wp2
      go_ret
      exact ⟨_, rfl, by rw [HW.out]; exact ho.le (by omega), by (repeat' (first | (with_reducible exact Below.refl _ _) | (with_reducible refine below_step (by assumption) ?_ ?_) | (with_reducible refine Below.alloc ?_ ?_ _) | (with_reducible refine Below.setCell ?_ ?_ _) | (with_reducible refine below_drewN ?_ _) | (with_reducible refine Below.drew ?_) | omega | (simp; omega) | (simp; done)))⟩
theorem c_sCurvesWithTrace (p t : Int) (w : World) :
    Calls Try.prog 15 #[.int .i64 p, .int .i64 t] w (ListPost 38 w (cwT p t) (tabP p)) := by
  unfold cwT
  cases hh : tabP p
  · go_enter Try.func15, Try.ntmps15
    go_wp2_with ((go_at_call 39; refine (c_ctPrime _ _).mono ?_; rintro e w' ⟨rfl, rfl⟩))
    go_ret2
    refine ⟨_, rfl, OwnsP.nil _ _ _, ?_⟩
    (repeat' (first | (with_reducible exact Below.refl _ _) | (with_reducible refine below_step (by assumption) ?_ ?_) | (with_reducible refine Below.alloc ?_ ?_ _) | (with_reducible refine Below.setCell ?_ ?_ _) | (with_reducible refine below_drewN ?_ _) | (with_reducible refine Below.drew ?_) | omega | (simp; omega) | (simp; done)))
  · rw [if_pos rfl]
    have H := Lib.hid (c_ctWith p t hh w)
    go_enter Try.func15, Try.ntmps15
    go_wp2_with ((go_at_call 39; refine (c_ctPrime _ _).mono ?_; rintro e w' ⟨rfl, rfl⟩))
    refine H.out.mono ?_
    rintro e w1 ⟨v, rfl, ho, hb⟩
    go_wp2
    go_ret2
    exact ⟨_, rfl, ho, hb⟩
theorem c_sSupersingularCurves (p : Int) (w : World) :
    Calls Try.prog 10 #[.int .i64 p] w (ListPost 38 w (cwT p 0) (tabP p)) := by
  unfold cwT
  cases hh : tabP p
  · go_enter Try.func10, Try.ntmps10
    go_wp2_with ((go_at_call 39; refine (c_ctPrime _ _).mono ?_; rintro e w' ⟨rfl, rfl⟩))
    go_ret2
    refine ⟨_, rfl, OwnsP.nil _ _ _, ?_⟩
    (repeat' (first | (with_reducible exact Below.refl _ _) | (with_reducible refine below_step (by assumption) ?_ ?_) | (with_reducible refine Below.alloc ?_ ?_ _) | (with_reducible refine Below.setCell ?_ ?_ _) | (with_reducible refine below_drewN ?_ _) | (with_reducible refine Below.drew ?_) | omega | (simp; omega) | (simp; done)))
  · rw [if_pos rfl]
    have H := Lib.hid (c_ctWith p 0 hh w)
    go_enter Try.func10, Try.ntmps10
    go_wp2_with ((go_at_call 39; refine (c_ctPrime _ _).mono ?_; rintro e w' ⟨rfl, rfl⟩))
    refine H.out.mono ?_
    rintro e w1 ⟨v, rfl, ho, hb⟩
    go_wp2
    go_ret2
    exact ⟨_, rfl, ho, hb⟩
set_option maxHeartbeats 1000000 in
theorem c_sCurvesWithInvariant (p t : Int) (w : World) :
    Calls Try.prog 31 #[.int .i64 p, .int .i64 t] w (ListPost 38 w (cwJ p t) (cjB p t)) := by
  unfold cwJ
  cases hh : tabP p
  · have hq : cjB p t = false := by unfold cjB; rw [hh]; rfl
    rw [hq]
    go_enter Try.func31, Try.ntmps31
    go_wp2_with ((go_at_call 39; refine (c_ctPrime _ _).mono ?_; rintro e w' ⟨rfl, rfl⟩))
    go_ret2
    refine ⟨_, rfl, OwnsP.nil _ _ _, ?_⟩
    (repeat' (first | (with_reducible exact Below.refl _ _) | (with_reducible refine below_step (by assumption) ?_ ?_) | (with_reducible refine Below.alloc ?_ ?_ _) | (with_reducible refine Below.setCell ?_ ?_ _) | (with_reducible refine below_drewN ?_ _) | (with_reducible refine Below.drew ?_) | omega | (simp; omega) | (simp; done)))
  · obtain ⟨h5, h31, hpr⟩ := tabP_of hh
    cases hi : inB t 0 (p - 1)
    · have hq : cjB p t = false := by unfold cjB; rw [hh, hi]; rfl
      rw [hq]
      go_enter Try.func31, Try.ntmps31
      go_wp2_with (first | (go_at_call 39; refine (c_ctPrime _ _).mono ?_; rintro e w' ⟨rfl, rfl⟩) | (go_at_call 65; refine (c_l1In _ _ _ _).mono ?_; rintro e w' ⟨rfl, rfl⟩))
      go_ret2
      refine ⟨_, rfl, OwnsP.nil _ _ _, ?_⟩
      (repeat' (first | (with_reducible exact Below.refl _ _) | (with_reducible refine below_step (by assumption) ?_ ?_) | (with_reducible refine Below.alloc ?_ ?_ _) | (with_reducible refine Below.setCell ?_ ?_ _) | (with_reducible refine below_drewN ?_ _) | (with_reducible refine Below.drew ?_) | omega | (simp; omega) | (simp; done)))
    · have hq : cjB p t = true := by unfold cjB; rw [hh, hi]; rfl
      rw [hq]
      have hlen := tabL_len (p := p) (by omega)
      have HP1 := Lib.hid hh
      have HM : Hid (∀ k (h : k < (tabL p).length), (0 ≤ (tabL p)[k].1 ∧ (tabL p)[k].1 ≤ p - 1) ∧ (0 ≤ (tabL p)[k].2 ∧ (tabL p)[k].2 ≤ p - 1)) := fun k h => ⟨(tabL_mem (List.getElem_mem h)).1, (tabL_mem (List.getElem_mem h)).2.1⟩
      have HW : Hid (withJ p t = (tabL p).filter fun c => invV p c.1 c.2 == t) := rfl
      clear hq hpr
      rw [if_pos rfl]
      go_enter Try.func31, Try.ntmps31
      go_wp2_with (first | (go_at_call 39; refine (c_ctPrime _ _).mono ?_; rintro e w' ⟨rfl, rfl⟩) | (go_at_call 65; refine (c_l1In _ _ _ _).mono ?_; rintro e w' ⟨rfl, rfl⟩))
      clear hh hi
      refine (c_ctAll _ HP1.out _).mono ?_
      rintro e w1 ⟨v, rfl, hown, hb1⟩
      have hz1 := hb1.size
      obtain ⟨a, cap, rfl, hform⟩ := OwnsP.form hown
      have HF := Lib.hid hform
      clear hform hown
      go_wp2
      go_loopw [6, 22] (fun out i wr => ∃ k : Nat, k ≤ (tabL p).length ∧ i = .int .i64 k ∧ OwnsC wr w1.heap.size out (((tabL p).take k).filter fun c => invV p c.1 c.2 == t) ∧ Below w1.heap.size w1 wr) (fun _ i _ => (tabL p).length - (intOf i).toNat)
      case atStart => exact ⟨0, Nat.zero_le _, rfl, OwnsP.nil _ _ _, Below.refl _ _⟩
      case round =>
        obtain ⟨k, hk, rfl, ho, hbr⟩ := hrel
        have hzr := hbr.size
        by_cases hlt : k < (tabL p).length
        · obtain ⟨g, rfl, q1, q2, _, hg, _⟩ := HF.out k hlt
          have hm := HM.out k hlt
          have d1 : wr.cell? ⟨g, k * 2, none⟩ = _ := (hbr.cell (p := ⟨g, k * 2, none⟩) hg).trans q1
          have d2 : wr.cell? ⟨g, k * 2 + 1, none⟩ = _ := (hbr.cell (p := ⟨g, k * 2 + 1, none⟩) hg).trans q2
          have HN : Hid (((invV p (tabL p)[k].1 (tabL p)[k].2 == t) = false → ((tabL p).take (k + 1)).filter (fun c => invV p c.1 c.2 == t) = ((tabL p).take k).filter (fun c => invV p c.1 c.2 == t))) := fun h => filter_no hlt h
          have HY : Hid (((invV p (tabL p)[k].1 (tabL p)[k].2 == t) = true → ((tabL p).take (k + 1)).filter (fun c => invV p c.1 c.2 == t) = ((tabL p).take k).filter (fun c => invV p c.1 c.2 == t) ++ [(tabL p)[k]])) := fun h => filter_yes hlt h
          have hfl := List.length_filter_le (fun c => invV p c.1 c.2 == t) ((tabL p).take k)
          rw [List.length_take] at hfl
          have hfl2 : (((tabL p).take k).filter fun c => invV p c.1 c.2 == t).length < 1000000 := by omega
          clear q1 q2 hfl
          generalize (tabL p)[k] = c at d1 d2 hm HN HY
          obtain ⟨x, y⟩ := c
          simp only at d1 d2 hm HN HY
          cases hq : (invV p x y == t)
          · have HE : Hid (_ = _) := HN.out hq
            go_wp2_with fail
            (go_at_call 61; refine (c_ctInvariant _ _ _ (by omega) (by omega) (by omega) _).mono ?_; rintro e w2 ⟨rfl, hb2⟩; obtain ⟨hc2, hf2⟩ := bcell hb2; have hz2 := hb2.size; (try simp only [World.size_alloc] at hz2); (try (have hy2 : w.heap.size < w2.heap.size := by omega)); (try (have hx2 := Nat.lt_of_succ_le hz2)); (try (have hv2 := Nat.lt_of_succ_le (Nat.le_of_lt hx2))); (try (have hy2_1 : w1.heap.size < w2.heap.size := by omega)))
            have hbl2 : Below w1.heap.size w1 w2 := by (repeat' (first | (with_reducible exact Below.refl _ _) | (with_reducible refine below_step (by assumption) ?_ ?_) | (with_reducible refine Below.alloc ?_ ?_ _) | (with_reducible refine Below.setCell ?_ ?_ _) | (with_reducible refine below_drewN ?_ _) | (with_reducible refine Below.drew ?_) | omega | (simp; omega) | (simp; done)))
            have ho2 := OwnsP.below (OwnsP.below ho (Below.alloc (Below.refl _ _) (Nat.le_refl _) _)) hb2
            go_wp2
            go_roundw
            case rel => exact ⟨k + 1, by omega, by go_num, by rw [HE.out]; exact ho2, hbl2⟩
            case measure => simp [intOf]; omega
          · have HE : Hid (_ = _) := HY.out hq
            go_wp2_with fail
            (go_at_call 61; refine (c_ctInvariant _ _ _ (by omega) (by omega) (by omega) _).mono ?_; rintro e w2 ⟨rfl, hb2⟩; obtain ⟨hc2, hf2⟩ := bcell hb2; have hz2 := hb2.size; (try simp only [World.size_alloc] at hz2); (try (have hy2 : w.heap.size < w2.heap.size := by omega)); (try (have hx2 := Nat.lt_of_succ_le hz2)); (try (have hv2 := Nat.lt_of_succ_le (Nat.le_of_lt hx2))); (try (have hy2_1 : w1.heap.size < w2.heap.size := by omega)))
            have hbl2 : Below w1.heap.size w1 w2 := by (repeat' (first | (with_reducible exact Below.refl _ _) | (with_reducible refine below_step (by assumption) ?_ ?_) | (with_reducible refine Below.alloc ?_ ?_ _) | (with_reducible refine Below.setCell ?_ ?_ _) | (with_reducible refine below_drewN ?_ _) | (with_reducible refine Below.drew ?_) | omega | (simp; omega) | (simp; done)))
            have ho2 := OwnsP.below (OwnsP.below ho (Below.alloc (Below.refl _ _) (Nat.le_refl _) _)) hb2
            have hs2 := hbl2.size
            go_wp2_with (at_builtin; refine wpList_appC (p := (x, y)) rfl _ _ rfl w1.heap.size _ _ rfl ho2 rfl (by omega) hs2 ?_; intro v' w4 ho4 hb4 hg4)
            have hb5 := hbl2.trans hb4
            go_wp2
            go_roundw
            case rel => exact ⟨k + 1, by omega, by go_num, by rw [HE.out]; exact ho4, hb5⟩
            case measure => simp [intOf]; omega
        · obtain rfl : k = (tabL p).length := by omega
          rw [List.take_length] at ho
          go_wp2
          go_ret2
          exact ⟨_, rfl, by rw [HW.out]; exact ho.le (by omega), by (repeat' (first | (with_reducible exact Below.refl _ _) | (with_reducible refine below_step (by assumption) ?_ ?_) | (with_reducible refine Below.alloc ?_ ?_ _) | (with_reducible refine Below.setCell ?_ ?_ _) | (with_reducible refine below_drewN ?_ _) | (with_reducible refine Below.drew ?_) | omega | (simp; omega) | (simp; done)))⟩
end Go.Proofs.Ytilgeeaobdebhaa
