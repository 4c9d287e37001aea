/- Walks: classes of a table: classOf, ctClass. -/
import Derived.Test.YtilgeeaobdebhaaCpt
namespace Go.Proofs.Ytilgeeaobdebhaa
open Go.RowKit

def VPost (w : World) (L : List (Int × Int)) (e : Ending) (w' : World) : Prop := ∃ v, e = .returned v ∧ OwnsC w' w.heap.size v L ∧ Below w.heap.size w w'
theorem flt_no {f : Int × Int → Bool} {L : List (Int × Int)} {k : Nat} (hk : k < L.length) (h : f L[k] = false) : (L.take (k + 1)).filter f = (L.take k).filter f := by
  rw [List.take_succ_eq_append_getElem hk, List.filter_append]; simp [h]
theorem flt_yes {f : Int × Int → Bool} {L : List (Int × Int)} {k : Nat} (hk : k < L.length) (h : f L[k] = true) : (L.take (k + 1)).filter f = (L.take k).filter f ++ [L[k]] := by
  rw [List.take_succ_eq_append_getElem hk, List.filter_append]; simp [h]
set_option maxHeartbeats 2000000 in
theorem c_classOf (p A B : Int) (hp : 5 ≤ p ∧ p ≤ 31) (hA : 0 ≤ A ∧ A ≤ p - 1) (hB : 0 ≤ B ∧ B ≤ p - 1) (w : World) :
    Calls Try.prog 56 #[.int .i64 p, .agg #[.int .i64 A, .int .i64 B]] w (VPost w (clI p A B)) := by
  have kC := Blk.new w #[.int .i64 A, .int .i64 B] 38
  have hB0 : Below w.heap.size w (w.alloc (.cells #[.int .i64 A, .int .i64 B] 38)) := by (repeat' (first | (with_reducible exact Below.refl _ _) | (with_reducible refine below_step (by assumption) ?_ ?_) | (with_reducible refine Below.alloc ?_ ?_ _) | (with_reducible refine Below.setCell ?_ ?_ _) | (with_reducible refine below_drewN ?_ _) | (with_reducible refine Below.drew ?_) | omega | (simp; omega) | (simp; done)))
  have HC : Hid (clI p A B = cpTo (stS (scL p A B (p.toNat - 1))) (stS (scL p A B (p.toNat - 1))).length) := rfl
  go_enter Try.func56, Try.ntmps56
  go_wp2
  go_loopw [5, 6] (fun out u wr => ∃ k : Nat, u = .int .i64 ((k : Int) + 1) ∧ (k : Int) ≤ p - 1 ∧ OwnsC wr (w.heap.size + 1) out (scL p A B k) ∧ Blk w.heap.size #[.int .i64 A, .int .i64 B] 38 wr ∧ Below w.heap.size w wr) (fun _ u _ => (p - intOf u).toNat)
  case atStart => exact ⟨0, rfl, by omega, OwnsP.nil _ _ _, kC, hB0⟩
  case round =>
    clear kC hB0
    obtain ⟨k, rfl, hk, ho, kC, hb⟩ := hrel
    have hsz := hb.size
    have hlt0 := kC.lt
    by_cases hlt : ((k : Int) + 1 < p)
    · have HS := Lib.hid (scL_succ p A B k)
      have hlen := scL_len p A B k
      have hsc := fun w => c_scaledModulo p A B ((k : Int) + 1) (by omega) (by omega) (by omega) w
      have HE : Hid (scAt p A B k = (scA p A ((k : Int) + 1), scB p B ((k : Int) + 1))) := rfl
      generalize scA p A ((k : Int) + 1) = x at *
      generalize scB p B ((k : Int) + 1) = y at *
      have HM := Lib.hid hsc
      clear hsc
      have kC0 : (wr).cell? ⟨w.heap.size, 0, none⟩ = some (.int .i64 A) := kC.cell 0; have kC1 : (wr).cell? ⟨w.heap.size, 1, none⟩ = some (.int .i64 B) := kC.cell 1; have kCl : w.heap.size < (wr).heap.size := kC.lt
      go_wp2_with fail
      refine (HM.out _).mono ?_
      rintro e w1 ⟨rfl, hb1⟩
      have ho1 := OwnsP.below ho hb1
      have kC2 := kC.next hb1
      have hb2 := below_step hb1 hsz hb
      have hs1 := hb1.size
      go_wp2_with (at_builtin; refine wpList_appC (p := (x, y)) rfl _ _ rfl (w.heap.size + 1) _ _ rfl ho1 rfl (by omega) (by omega) ?_; intro v' w4 ho4 hb4 hg4)
      have kC4 : Blk w.heap.size #[.int .i64 A, .int .i64 B] 38 w4 := (hb4.block w.heap.size (by omega)).trans kC2
      have hb5 : Below w.heap.size w w4 := hb2.trans (hb4.mono (by omega))
      go_wp2
      go_roundw
      case rel => exact ⟨k + 1, by go_num, by omega, by rw [HS.out, HE.out]; exact ho4, kC4, hb5⟩
      case measure => simp [intOf]; omega
    · have hk' : k = p.toNat - 1 := by omega
      subst hk'
      have hl := scL_len p A B (p.toNat - 1)
      have hls := stS_len (scL p A B (p.toNat - 1))
      have hlt1 := OwnsP.lt ho
      go_wp2_with fail
      refine (c_sortC _ _ _ (by omega) _ ho).mono ?_
      rintro e w1 ⟨rfl, ho1, hg1⟩
      have hlt2 := OwnsP.lt ho1
      have hb1 : Below w.heap.size w w1 := hb.trans (below_of_grown hg1 hsz (fun q hq => by have := (hlt1 q hq).1; omega))
      go_wp2_with fail
      refine (c_compact _ _ _ (by omega) _ ho1).mono ?_
      rintro e w2 ⟨v', rfl, ho2, hg2⟩
      have hb2 : Below w.heap.size w w2 := hb1.trans (below_of_grown hg2 hb1.size (fun q hq => by have := (hlt2 q hq).1; omega))
      go_wp2
      go_ret
      exact ⟨v', rfl, by rw [HC.out]; exact ho2.le (by omega), hb2⟩
set_option maxHeartbeats 4000000 in
theorem c_ctClass (p A B : Int) (hp : tabP p = true) (hA : 0 ≤ A ∧ A ≤ p - 1) (hB : 0 ≤ B ∧ B ≤ p - 1) (w : World) :
    Calls Try.prog 57 #[.int .i64 p, .agg #[.int .i64 A, .int .i64 B]] w (VPost w (clS p A B)) := by
  obtain ⟨h5, h31, hpr⟩ := tabP_of hp
  have hlen := tabL_len (p := p) (by omega)
  have HP1 := Lib.hid hp
  clear hp hpr
  have HW : Hid (clS p A B = (tabL p).filter (isSc p A B (p.toNat - 1))) := rfl
  have kC := Blk.new w #[.int .i64 A, .int .i64 B] 38
  have hB0 : Below w.heap.size w (w.alloc (.cells #[.int .i64 A, .int .i64 B] 38)) := by (repeat' (first | (with_reducible exact Below.refl _ _) | (with_reducible refine below_step (by assumption) ?_ ?_) | (with_reducible refine Below.alloc ?_ ?_ _) | (with_reducible refine Below.setCell ?_ ?_ _) | (with_reducible refine below_drewN ?_ _) | (with_reducible refine Below.drew ?_) | omega | (simp; omega) | (simp; done)))
  go_enter Try.func57, Try.ntmps57
  go_wp2_with fail
  generalize w.alloc _ = W0 at *
  refine (c_ctAll _ HP1.out _).mono ?_
  rintro e w1 ⟨v, rfl, hown, hb1⟩
  have hz1 := hb1.size
  replace kC := kC.next hb1
  have hBw := below_step hb1 hB0.size hB0
  have hlt0 := kC.lt
  have hBs := hB0.size
  obtain ⟨a, cap, rfl, hform⟩ := OwnsP.form hown
  have HF := Lib.hid hform
  clear hform hown hb1 hB0
  go_wp2
  go_loopw [5, 13] (fun out i wr => ∃ k : Nat, k ≤ (tabL p).length ∧ i = .int .i64 k ∧ OwnsC wr w1.heap.size out (((tabL p).take k).filter (isSc p A B (p.toNat - 1))) ∧ Below w1.heap.size w1 wr) (fun _ i _ => (tabL p).length - (intOf i).toNat)
  case atStart => exact ⟨0, Nat.zero_le _, rfl, OwnsP.nil _ _ _, Below.refl _ _⟩
  case round =>
    obtain ⟨k, hk, rfl, ho, hbr⟩ := hrel
    have hzr := hbr.size
    by_cases hlt : k < (tabL p).length
    · obtain ⟨g, rfl, q1, q2, _, hg, _⟩ := HF.out k hlt
      have d1 : wr.cell? ⟨g, k * 2, none⟩ = _ := (hbr.cell (p := ⟨g, k * 2, none⟩) hg).trans q1
      have d2 : wr.cell? ⟨g, k * 2 + 1, none⟩ = _ := (hbr.cell (p := ⟨g, k * 2 + 1, none⟩) hg).trans q2
      have HN : Hid (isSc p A B (p.toNat - 1) (tabL p)[k] = false → ((tabL p).take (k + 1)).filter (isSc p A B (p.toNat - 1)) = ((tabL p).take k).filter (isSc p A B (p.toNat - 1))) := fun h => flt_no hlt h
      have HY : Hid (isSc p A B (p.toNat - 1) (tabL p)[k] = true → ((tabL p).take (k + 1)).filter (isSc p A B (p.toNat - 1)) = ((tabL p).take k).filter (isSc p A B (p.toNat - 1)) ++ [(tabL p)[k]]) := fun h => flt_yes hlt h
      have hfl := List.length_filter_le (isSc p A B (p.toNat - 1)) ((tabL p).take k)
      rw [List.length_take] at hfl
      have hfl2 : (((tabL p).take k).filter (isSc p A B (p.toNat - 1))).length < 1000000 := by omega
      clear q1 q2 hfl
      generalize (tabL p)[k] = c at d1 d2 HN HY
      obtain ⟨x, y⟩ := c
      simp only at d1 d2
      have kCr : Blk w.heap.size #[.int .i64 A, .int .i64 B] 38 wr := (hbr.block w.heap.size hlt0).trans kC
      have kD := Blk.new wr #[.int .i64 x, .int .i64 y] 38
      have kCd := kCr.alloc (.cells #[.int .i64 x, .int .i64 y] 38)
      have ho2 := OwnsP.below ho (Below.alloc (Below.refl _ _) (Nat.le_refl _) (.cells #[.int .i64 x, .int .i64 y] 38))
      have hbl : Below w1.heap.size w1 (wr.alloc (.cells #[.int .i64 x, .int .i64 y] 38)) := by (repeat' (first | (with_reducible exact Below.refl _ _) | (with_reducible refine below_step (by assumption) ?_ ?_) | (with_reducible refine Below.alloc ?_ ?_ _) | (with_reducible refine Below.setCell ?_ ?_ _) | (with_reducible refine below_drewN ?_ _) | (with_reducible refine Below.drew ?_) | omega | (simp; omega) | (simp; done)))
      go_wp2
      generalize wr.alloc _ = WD at *
      generalize hrd : wr.heap.size = rd at *
      have HRD := Lib.hid hrd
      clear hrd
      go_loopw [8, 9] (fun f u w2 => ∃ j : Nat, u = .int .i64 ((j : Int) + 1) ∧ (j : Int) ≤ p - 1 ∧ f = .bool (isSc p A B j (x, y)) ∧ Below WD.heap.size WD w2) (fun _ u _ => (p - intOf u).toNat)
      case atStart => exact ⟨0, rfl, by omega, rfl, Below.refl _ _⟩
      case round =>
        obtain ⟨j, rfl, hj, rfl, hb2⟩ := hrel
        rename World => w2
        have k2 := kCd.next hb2
        have k3 := kD.next hb2
        have ho3 := OwnsP.below ho2 hb2
        have hb3 := below_step hb2 hbl.size hbl
        have hs3 := hb2.size
        by_cases hlt2 : ((j : Int) + 1 < p)
        · have hS := isSc_succ p A B j (x, y)
          have hsc := fun w => c_ctScaled p A B ((j : Int) + 1) (by omega) (by omega) (by omega) (by omega) w
          generalize scA p A ((j : Int) + 1) = X at *
          generalize scB p B ((j : Int) + 1) = Y at *
          have HM := Lib.hid hsc
          clear hsc
          have k20 : (w2).cell? ⟨w.heap.size, 0, none⟩ = some (.int .i64 A) := k2.cell 0; have k21 : (w2).cell? ⟨w.heap.size, 1, none⟩ = some (.int .i64 B) := k2.cell 1; have k2l : w.heap.size < (w2).heap.size := k2.lt
          have k30 : (w2).cell? ⟨rd, 0, none⟩ = some (.int .i64 x) := k3.cell 0; have k31 : (w2).cell? ⟨rd, 1, none⟩ = some (.int .i64 y) := k3.cell 1; have k3l : rd < (w2).heap.size := k3.lt
          cases hf : isSc p A B j (x, y)
          · rw [hf, Bool.false_or] at hS
            by_cases hXx : X = x
            case neg =>
              have HE : Hid (isSc p A B (j + 1) (x, y) = false) := by show _ = _; rw [hS]; simp [hXx]
              go_wp2
              (refine wp_region_clq (by kernel_rfl) (by kernel_rfl) ?_; (repeat (go_big_quiet_step ((go_at_call 59; exact Calls.quiet_cls Closed.true _ (HM.out _))))); refine wpQuiet_nil ?_; intro w4 hb4; obtain ⟨hc4, hf4⟩ := bcell hb4; have hz4 := hb4.size; (try simp only [World.size_alloc] at hz4))
              have hb5 := below_step hb4 hb2.size hb2
              go_wp2
              go_roundw
              case rel => exact ⟨j + 1, by go_num, by omega, by rw [HE.out], hb5⟩
              case measure => simp [intOf]; omega
            by_cases hYy : Y = y
            case neg =>
              have HE : Hid (isSc p A B (j + 1) (x, y) = false) := by show _ = _; rw [hS]; simp [hYy]
              subst hXx
              go_wp2
              (refine wp_region_clq (by kernel_rfl) (by kernel_rfl) ?_; (repeat (go_big_quiet_step ((go_at_call 59; exact Calls.quiet_cls Closed.true _ (HM.out _))))); refine wpQuiet_nil ?_; intro w4 hb4; obtain ⟨hc4, hf4⟩ := bcell hb4; have hz4 := hb4.size; (try simp only [World.size_alloc] at hz4))
              have hb5 := below_step hb4 hb2.size hb2
              go_wp2
              go_roundw
              case rel => exact ⟨j + 1, by go_num, by omega, by rw [HE.out], hb5⟩
              case measure => simp [intOf]; omega
            have HE : Hid (isSc p A B (j + 1) (x, y) = true) := by show _ = _; rw [hS]; simp [hXx, hYy]
            subst hXx
            subst hYy
            go_wp2
            (refine wp_region_clq (by kernel_rfl) (by kernel_rfl) ?_; (repeat (go_big_quiet_step ((go_at_call 59; exact Calls.quiet_cls Closed.true _ (HM.out _))))); refine wpQuiet_nil ?_; intro w4 hb4; obtain ⟨hc4, hf4⟩ := bcell hb4; have hz4 := hb4.size; (try simp only [World.size_alloc] at hz4))
            have hb5 := below_step hb4 hb2.size hb2
            go_wp2
            go_roundw
            case rel => exact ⟨j + 1, by go_num, by omega, by rw [HE.out], hb5⟩
            case measure => simp [intOf]; omega
          · rw [hf, Bool.true_or] at hS
            have HE := Lib.hid hS
            clear hS
            go_wp2
            (refine wp_region_clq (by kernel_rfl) (by kernel_rfl) ?_; (repeat (go_big_quiet_step (fail))); refine wpQuiet_nil ?_; intro w4 hb4; obtain ⟨hc4, hf4⟩ := bcell hb4; have hz4 := hb4.size; (try simp only [World.size_alloc] at hz4))
            have hb5 := below_step hb4 hb2.size hb2
            go_wp2
            go_roundw
            case rel => exact ⟨j + 1, by go_num, by omega, by rw [HE.out], hb5⟩
            case measure => simp [intOf]; omega
        · have hjp : j = p.toNat - 1 := by omega
          subst hjp
          have k30 : (w2).cell? ⟨rd, 0, none⟩ = some (.int .i64 x) := k3.cell 0; have k31 : (w2).cell? ⟨rd, 1, none⟩ = some (.int .i64 y) := k3.cell 1; have k3l : rd < (w2).heap.size := k3.lt
          cases hq : isSc p A B (p.toNat - 1) (x, y)
          · have HE : Hid (_ = _) := HN.out hq
            go_wp2
            go_roundw
            case rel => exact ⟨k + 1, by omega, by go_num, by rw [HE.out]; exact ho3, hb3⟩
            case measure => simp [intOf]; omega
          · have HE : Hid (_ = _) := HY.out hq
            go_wp2_with (at_builtin; refine wpList_appC (p := (x, y)) rfl _ _ rfl w1.heap.size _ _ rfl ho3 rfl (by omega) hb3.size ?_; intro v' w4 ho4 hb4 hg4)
            have hb5 := hb3.trans hb4
            go_wp2
            go_roundw
            case rel => exact ⟨k + 1, by omega, by go_num, by rw [HE.out]; exact ho4, hb5⟩
            case measure => simp [intOf]; omega
    · obtain rfl : k = (tabL p).length := by omega
      rw [List.take_length] at ho
      go_wp2
      go_ret
      exact ⟨_, rfl, by rw [HW.out]; exact ho.le (by omega), below_step hbr (by omega) hBw⟩
end Go.Proofs.Ytilgeeaobdebhaa
