/- Walks: slices.Compact over curves. -/
import Derived.Test.YtilgeeaobdebhaaSrt
namespace Go.Proofs.Ytilgeeaobdebhaa
open Go.RowKit

theorem cpTo_take {L : List (Int × Int)} {m : Nat} (h : cpTo L (m + 1) = L.take (m + 1)) (hm : m + 1 < L.length) (hne : at3 L (m + 1) ≠ at3 L m) : cpTo L (m + 2) = L.take (m + 2) := by
  rw [cpTo, if_pos (.inr hne), h]
  have e : at3 L (m + 1) = L[m + 1] := by simp [at3, hm]
  rw [e]
  exact (List.take_succ_eq_append_getElem hm).symm
theorem cpTo_dup {L : List (Int × Int)} {j : Nat} (he : at3 L (j + 1) = at3 L j) : cpTo L (j + 2) = cpTo L (j + 1) := by
  rw [cpTo, if_neg]
  rintro (h | h)
  · omega
  · exact h he
theorem cpTo_new {L : List (Int × Int)} {j : Nat} (he : at3 L (j + 1) ≠ at3 L j) : cpTo L (j + 2) = cpTo L (j + 1) ++ [at3 L (j + 1)] := by
  rw [cpTo, if_pos (.inr he)]
def CpPost (w : World) (base : Nat) (v : Value) (L : List (Int × Int)) (e : Ending) (w' : World) : Prop := ∃ v', e = .returned v' ∧ OwnsC w' base v' (cpTo L L.length) ∧ w.grownBy w' v.ownBlock
set_option maxHeartbeats 4000000 in
set_option maxRecDepth 100000 in
theorem c_compact (base : Nat) (v : Value) (L : List (Int × Int)) (hL : 2 ≤ L.length ∧ L.length ≤ 100000) (w : World) (hown : OwnsC w base v L) :
    Calls Try.prog 80 #[v] w (CpPost w base v L) := by
  obtain ⟨a, cap, rfl, hform⟩ := OwnsP.form hown
  obtain ⟨g, rfl, _, _, _, hg, hgb⟩ := hform 0 (by omega)
  clear hform
  have h2 : ¬ ((L.length : Int) < 2) := by omega
  go_enter Try.func80, Try.ntmps80
  go_wp2
  go_loopw [3] (fun kk wr => ∃ m : Nat, m + 1 ≤ L.length ∧ kk = .int .i64 ((m : Int) + 1) ∧ Hid (cpTo L (m + 1) = L.take (m + 1)) ∧ OwnsC wr base (.slice (some ⟨g, 0, none⟩) L.length cap) L ∧ w.grownBy wr (some g)) (fun i _ => L.length + 1 - (intOf i).toNat)
  case atStart =>
    refine ⟨0, by omega, rfl, ?_, hown, ⟨rfl, rfl, rfl, Nat.le_refl _, fun _ _ _ => rfl⟩⟩
    show _ = _
    obtain ⟨x, M, rfl⟩ : ∃ x M, L = x :: M := by cases L with | nil => simp at hL | cons x M => exact ⟨x, M, rfl⟩
    simp [cpTo, at3]
  case round =>
    clear hown
    obtain ⟨m, hm, rfl, HC, ho, hgr⟩ := hrel
    have hsr := hgr.size
    by_cases hlt : m + 1 < L.length
    · obtain ⟨a', cap', hv', hf⟩ := OwnsP.form ho
      obtain ⟨rfl, rfl⟩ : a' = some ⟨g, 0, none⟩ ∧ cap = cap' := by simp only [Value.slice.injEq] at hv'; exact ⟨hv'.1.symm, hv'.2.2⟩
      obtain ⟨g1, e1, q1, q2, _⟩ := hf (m + 1) hlt
      obtain rfl : g = g1 := by simpa using e1
      obtain ⟨g2, e2, r1, r2, _⟩ := hf m (by omega)
      obtain rfl : g = g2 := by simpa using e2
      have a1 : at3 L (m + 1) = L[m + 1] := by simp [at3, hlt]
      have a2 : at3 L m = L[m] := by simp [at3, show m < L.length by omega]
      clear e1 e2 hf hv'
      have hgs : g < wr.heap.size := by omega
      generalize L[m + 1] = c at q1 q2 a1
      generalize L[m] = d at r1 r2 a2
      obtain ⟨x, y⟩ := c
      obtain ⟨u, v⟩ := d
      simp only at q1 q2 r1 r2
      by_cases hxu : x = u
      case neg =>
        have hne : at3 L (m + 1) ≠ at3 L m := by rw [a1, a2]; intro h; exact hxu (congrArg Prod.fst h)
        have HE : Hid (cpTo L (m + 1 + 1) = L.take (m + 1 + 1)) := cpTo_take HC.out hlt hne
        go_wp2
        (refine wp_region_clq (by kernel_rfl) (by kernel_rfl) ?_; (repeat (go_big_quiet_step (fail))); refine wpQuiet_nil ?_; intro w1 hb1; obtain ⟨hc1, hf1⟩ := bcell hb1; have hz1 := hb1.size; (try simp only [World.size_alloc] at hz1))
        have ho1 := OwnsP.below ho hb1
        have hg1 : w.grownBy w1 (some g) := ⟨hb1.os.trans hgr.os, hb1.tape.trans hgr.tape, hb1.output.trans hgr.output, Nat.le_trans hgr.size hb1.size, fun q hq hn => (hb1.block q (Nat.lt_of_lt_of_le hq hgr.size)).trans (hgr.block q hq hn)⟩
        clear hc1 hf1 q1 q2 r1 r2 a1 a2 hne
        go_wp2
        go_roundw
        case rel => exact ⟨m + 1, by omega, by go_num, HE, ho1, hg1⟩
        case measure => simp [intOf]; omega
      by_cases hyv : y = v
      case neg =>
        have hne : at3 L (m + 1) ≠ at3 L m := by rw [a1, a2]; intro h; exact hyv (congrArg Prod.snd h)
        have HE : Hid (cpTo L (m + 1 + 1) = L.take (m + 1 + 1)) := cpTo_take HC.out hlt hne
        subst hxu
        go_wp2
        (refine wp_region_clq (by kernel_rfl) (by kernel_rfl) ?_; (repeat (go_big_quiet_step (fail))); refine wpQuiet_nil ?_; intro w1 hb1; obtain ⟨hc1, hf1⟩ := bcell hb1; have hz1 := hb1.size; (try simp only [World.size_alloc] at hz1))
        have ho1 := OwnsP.below ho hb1
        have hg1 : w.grownBy w1 (some g) := ⟨hb1.os.trans hgr.os, hb1.tape.trans hgr.tape, hb1.output.trans hgr.output, Nat.le_trans hgr.size hb1.size, fun q hq hn => (hb1.block q (Nat.lt_of_lt_of_le hq hgr.size)).trans (hgr.block q hq hn)⟩
        clear hc1 hf1 q1 q2 r1 r2 a1 a2 hne
        go_wp2
        go_roundw
        case rel => exact ⟨m + 1, by omega, by go_num, HE, ho1, hg1⟩
        case measure => simp [intOf]; omega
      subst hxu
      subst hyv
      have HD : Hid (cpTo L (m + 2) = L.take (m + 1)) := by show _ = _; rw [cpTo_dup (a1.trans a2.symm), HC.out]
      clear a1 a2
      go_wp2
      (refine wp_region_clq (by kernel_rfl) (by kernel_rfl) ?_; (repeat (go_big_quiet_step (fail))); refine wpQuiet_nil ?_; intro w1 hb1; obtain ⟨hc1, hf1⟩ := bcell hb1; have hz1 := hb1.size; (try simp only [World.size_alloc] at hz1))
      have ho1 := OwnsP.below ho hb1
      have hg1 : w.grownBy w1 (some g) := ⟨hb1.os.trans hgr.os, hb1.tape.trans hgr.tape, hb1.output.trans hgr.output, Nat.le_trans hgr.size hb1.size, fun q hq hn => (hb1.block q (Nat.lt_of_lt_of_le hq hgr.size)).trans (hgr.block q hq hn)⟩
      have hcap0 : L.length ≤ cap := by
        rcases ho.2 with ⟨h0, _⟩ | ⟨g', cap', cur, hv, _, _, hnc, _⟩
        · cases h0
        · simp only [Value.slice.injEq] at hv; omega
      have hcap1 : ¬ (m + 1 = cap) := by omega
      have hcap2 : m + 1 < cap := by omega
      clear hc1 hf1 q1 q2 r1 r2 ho hgr hb1 HC
      go_wp2
      have hN0 : ∃ N, L.length - (m + 1) = N ∧ N + (m + 1) = L.length := ⟨_, rfl, by omega⟩
      obtain ⟨N, hN, hN2⟩ := hN0
      rw [hN]
      clear hN
      go_loopw [3, 5] (fun kk k2 wr' => ∃ (i e : Nat) (M : List (Int × Int)), kk = .int .i64 i ∧ k2 = .int .i64 ((e : Int) + 1) ∧ (1 ≤ i ∧ i ≤ m + 1 + e ∧ e + 1 ≤ N ∧ M.length = L.length) ∧ Hid (cpTo L (m + 2 + e) = M.take i ∧ M.drop (m + 1 + e) = L.drop (m + 1 + e)) ∧ OwnsC wr' base (.slice (some ⟨g, 0, none⟩) L.length cap) M ∧ w.grownBy wr' (some g)) (fun _ j _ => N + 1 - (intOf j).toNat)
      case atStart => exact ⟨m + 1, 0, L, by go_num, rfl, ⟨by omega, by omega, by omega, rfl⟩, ⟨HD.out, rfl⟩, ho1, hg1⟩
      case round =>
        clear ho1 hg1 HD hsr hgs
        obtain ⟨i, e, M, rfl, rfl, ⟨hi1, hi2, heN, hM⟩, HD, ho, hgr⟩ := hrel
        have hsr := hgr.size
        rename World => wr2
        have hgs : g < wr2.heap.size := by omega
        by_cases hlt2 : e + 1 < N
        · obtain ⟨a', cap', hv', hf⟩ := OwnsP.form ho
          rw [hM] at hv'
          obtain ⟨rfl, rfl⟩ : a' = some ⟨g, 0, none⟩ ∧ cap = cap' := by simp only [Value.slice.injEq] at hv'; exact ⟨hv'.1.symm, hv'.2.2⟩
          obtain ⟨g1, e1, q1, q2, _⟩ := hf (m + 1 + e + 1) (by omega)
          obtain rfl : g = g1 := by simpa using e1
          obtain ⟨g2, e2, r1, r2, _⟩ := hf (m + 1 + e) (by omega)
          obtain rfl : g = g2 := by simpa using e2
          obtain ⟨g3, e3, o1, o2, o3, _⟩ := hf i (by omega)
          obtain rfl : g = g3 := by simpa using e3
          have b1 : M[m + 1 + e + 1] = L[m + 1 + e + 1] := by
            have h := congrArg (fun l => l[1]?) HD.out.2
            simp only [List.getElem?_drop] at h
            rw [List.getElem?_eq_getElem (by omega), List.getElem?_eq_getElem (by omega)] at h
            exact Option.some.inj h
          have b2 : M[m + 1 + e] = L[m + 1 + e] := by
            have h := congrArg (fun l => l[0]?) HD.out.2
            simp only [List.getElem?_drop, Nat.add_zero] at h
            rw [List.getElem?_eq_getElem (by omega), List.getElem?_eq_getElem (by omega)] at h
            exact Option.some.inj h
          rw [b1] at q1 q2
          rw [b2] at r1 r2
          have a1 : at3 L (m + 1 + e + 1) = L[m + 1 + e + 1] := by simp [at3, show m + 1 + e + 1 < L.length by omega]
          have a2 : at3 L (m + 1 + e) = L[m + 1 + e] := by simp [at3, show m + 1 + e < L.length by omega]
          clear e1 e2 e3 hf hv' b1 b2
          rw [show (m + 1 + e + 1) * 2 = (m + 1) * 2 + (e + 1) * 2 by omega] at q1 q2
          rw [show (m + 1 + e) * 2 = (m + 1) * 2 + e * 2 by omega] at r1 r2
          generalize L[m + 1 + e + 1] = c at q1 q2 a1
          generalize L[m + 1 + e] = d at r1 r2 a2
          generalize M[i] = old at o1 o2
          obtain ⟨x, y⟩ := c
          obtain ⟨u, v⟩ := d
          obtain ⟨ou, ov⟩ := old
          simp only at q1 q2 r1 r2 o1 o2
          by_cases hxu : x = u
          case neg =>
            have hne : at3 L (m + 1 + e + 1) ≠ at3 L (m + 1 + e) := by rw [a1, a2]; intro h; exact hxu (congrArg Prod.fst h)
            have HE : Hid (cpTo L (m + 2 + (e + 1)) = (M.set i (x, y)).take (i + 1) ∧ (M.set i (x, y)).drop (m + 1 + (e + 1)) = L.drop (m + 1 + (e + 1))) := by
              refine ⟨?_, ?_⟩
              · have h1 := cpTo_new (j := m + 1 + e) hne
                rw [show m + 2 + (e + 1) = m + 1 + e + 2 by omega, h1, a1, show m + 1 + e + 1 = m + 2 + e by omega, HD.out.1, List.take_succ_eq_append_getElem (by rw [List.length_set]; omega), List.take_set_of_le (Nat.le_refl _), List.getElem_set_self]
              · rw [List.drop_set_of_lt (by omega)]
                have h1 := congrArg (List.drop 1) HD.out.2
                rw [List.drop_drop, List.drop_drop] at h1
                exact h1
            go_wp2
            (refine wp_region_clq (by kernel_rfl) (by kernel_rfl) ?_; (repeat (go_big_quiet_step (fail))); refine wpQuiet_nil ?_; intro w2 hb2; obtain ⟨hc2, hf2⟩ := bcell hb2; have hz2 := hb2.size; (try simp only [World.size_alloc] at hz2))
            have ho2 := OwnsP.below ho hb2
            have hg2 : w.grownBy w2 (some g) := ⟨hb2.os.trans hgr.os, hb2.tape.trans hgr.tape, hb2.output.trans hgr.output, Nat.le_trans hgr.size hb2.size, fun q hq hn => (hb2.block q (Nat.lt_of_lt_of_le hq hgr.size)).trans (hgr.block q hq hn)⟩
            have s1 := (hc2 g (i * 2) hgs).trans o1
            have s2 := (hc2 g (i * 2 + 1) hgs).trans o2
            have t1 := (hc2 g ((m + 1) * 2 + (e + 1) * 2) hgs).trans q1
            have t2 := (hc2 g ((m + 1) * 2 + (e + 1) * 2 + 1) hgs).trans q2
            have f1 := (hf2 g (i * 2) hgs).trans (o3 _)
            have f2 := (hf2 g (i * 2 + 1) hgs).trans (o3 _)
            have ho3 := OwnsC.store ho2 hM.symm (show i < L.length by omega) (x, y)
            have hg3 := grown_setCell (grown_setCell hg2 (i * 2) (.int .i64 x)) (i * 2 + 1) (.int .i64 y)
            have HR := Lib.hid (And.intro ho3 hg3)
            clear ho3 hg3 hc2 hf2 q1 q2 r1 r2 o1 o2 o3 a1 a2 hne ho
            go_wp2
            go_roundw
            case rel => exact ⟨i + 1, e + 1, M.set i (x, y), by go_num, by go_num, ⟨by omega, by omega, by omega, by simpa using hM⟩, HE, HR.out.1, HR.out.2⟩
            case measure => simp [intOf]; omega
          by_cases hyv : y = v
          case neg =>
            have hne : at3 L (m + 1 + e + 1) ≠ at3 L (m + 1 + e) := by rw [a1, a2]; intro h; exact hyv (congrArg Prod.snd h)
            have HE : Hid (cpTo L (m + 2 + (e + 1)) = (M.set i (x, y)).take (i + 1) ∧ (M.set i (x, y)).drop (m + 1 + (e + 1)) = L.drop (m + 1 + (e + 1))) := by
              refine ⟨?_, ?_⟩
              · have h1 := cpTo_new (j := m + 1 + e) hne
                rw [show m + 2 + (e + 1) = m + 1 + e + 2 by omega, h1, a1, show m + 1 + e + 1 = m + 2 + e by omega, HD.out.1, List.take_succ_eq_append_getElem (by rw [List.length_set]; omega), List.take_set_of_le (Nat.le_refl _), List.getElem_set_self]
              · rw [List.drop_set_of_lt (by omega)]
                have h1 := congrArg (List.drop 1) HD.out.2
                rw [List.drop_drop, List.drop_drop] at h1
                exact h1
            subst hxu
            go_wp2
            (refine wp_region_clq (by kernel_rfl) (by kernel_rfl) ?_; (repeat (go_big_quiet_step (fail))); refine wpQuiet_nil ?_; intro w2 hb2; obtain ⟨hc2, hf2⟩ := bcell hb2; have hz2 := hb2.size; (try simp only [World.size_alloc] at hz2))
            have ho2 := OwnsP.below ho hb2
            have hg2 : w.grownBy w2 (some g) := ⟨hb2.os.trans hgr.os, hb2.tape.trans hgr.tape, hb2.output.trans hgr.output, Nat.le_trans hgr.size hb2.size, fun q hq hn => (hb2.block q (Nat.lt_of_lt_of_le hq hgr.size)).trans (hgr.block q hq hn)⟩
            have s1 := (hc2 g (i * 2) hgs).trans o1
            have s2 := (hc2 g (i * 2 + 1) hgs).trans o2
            have t1 := (hc2 g ((m + 1) * 2 + (e + 1) * 2) hgs).trans q1
            have t2 := (hc2 g ((m + 1) * 2 + (e + 1) * 2 + 1) hgs).trans q2
            have f1 := (hf2 g (i * 2) hgs).trans (o3 _)
            have f2 := (hf2 g (i * 2 + 1) hgs).trans (o3 _)
            have ho3 := OwnsC.store ho2 hM.symm (show i < L.length by omega) (x, y)
            have hg3 := grown_setCell (grown_setCell hg2 (i * 2) (.int .i64 x)) (i * 2 + 1) (.int .i64 y)
            have HR := Lib.hid (And.intro ho3 hg3)
            clear ho3 hg3 hc2 hf2 q1 q2 r1 r2 o1 o2 o3 a1 a2 hne ho
            go_wp2
            go_roundw
            case rel => exact ⟨i + 1, e + 1, M.set i (x, y), by go_num, by go_num, ⟨by omega, by omega, by omega, by simpa using hM⟩, HE, HR.out.1, HR.out.2⟩
            case measure => simp [intOf]; omega
          subst hxu
          subst hyv
          have HE : Hid (cpTo L (m + 2 + (e + 1)) = M.take i ∧ M.drop (m + 1 + (e + 1)) = L.drop (m + 1 + (e + 1))) := by
            refine ⟨?_, ?_⟩
            · have h1 := cpTo_dup (j := m + 1 + e) (a1.trans a2.symm)
              rw [show m + 2 + (e + 1) = m + 1 + e + 2 by omega, h1, show m + 1 + e + 1 = m + 2 + e by omega, HD.out.1]
            · have h1 := congrArg (List.drop 1) HD.out.2
              rw [List.drop_drop, List.drop_drop] at h1
              exact h1
          go_wp2
          (refine wp_region_clq (by kernel_rfl) (by kernel_rfl) ?_; (repeat (go_big_quiet_step (fail))); refine wpQuiet_nil ?_; intro w2 hb2; obtain ⟨hc2, hf2⟩ := bcell hb2; have hz2 := hb2.size; (try simp only [World.size_alloc] at hz2))
          have ho2 := OwnsP.below ho hb2
          have hg2 : w.grownBy w2 (some g) := ⟨hb2.os.trans hgr.os, hb2.tape.trans hgr.tape, hb2.output.trans hgr.output, Nat.le_trans hgr.size hb2.size, fun q hq hn => (hb2.block q (Nat.lt_of_lt_of_le hq hgr.size)).trans (hgr.block q hq hn)⟩
          clear hc2 hf2 q1 q2 r1 r2 o1 o2 o3 a1 a2 ho
          go_wp2
          go_roundw
          case rel => exact ⟨i, e + 1, M, rfl, by go_num, ⟨by omega, by omega, by omega, hM⟩, HE, ho2, hg2⟩
          case measure => simp [intOf]; omega
        · obtain rfl : e + 1 = N := by omega
          obtain ⟨w3, hcl, ho3, hg3⟩ := run_clearC ho hM.symm (show i < L.length by omega) (cap - i)
          have hfin : cpTo L L.length = M.take i := by rw [← HD.out.1]; congr 1; omega
          rw [← hfin] at ho3
          have hcap : L.length ≤ cap := by
            rcases ho.2 with ⟨h0, _⟩ | ⟨g', cap', cur, hv, _, _, hnc, _⟩
            · cases h0
            · simp only [Value.slice.injEq] at hv; omega
          have hg4 : w.grownBy w3 (some g) := ⟨hg3.os.trans hgr.os, hg3.tape.trans hgr.tape, hg3.output.trans hgr.output, Nat.le_trans hgr.size hg3.size, fun q hq hn => (hg3.block q (Nat.lt_of_lt_of_le hq hgr.size) hn).trans (hgr.block q hq hn)⟩
          have HR := Lib.hid (And.intro ho3 hg4)
          clear ho3 hg4 hg3 hfin
          go_wp2
          go_ret
          exact ⟨_, rfl, HR.out.1, HR.out.2⟩
    · have hme : m + 1 = L.length := by omega
      have hfin := HC.out
      rw [hme, List.take_length] at hfin
      have HR := Lib.hid hfin
      clear hfin HC
      go_wp2
      go_ret
      unfold CpPost
      rw [HR.out]
      exact ⟨_, rfl, ho, hgr⟩
end Go.Proofs.Ytilgeeaobdebhaa
