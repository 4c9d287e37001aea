/- Walks: logs that come in: their length, their copies, what is a log. -/
import Derived.Test.YtpnpidepkfnofaaGreatDoorPairS
import Derived.Test.YtpnpidepkfnofaaGreatDoorTwist
import Derived.Test.YtpnpidepkfnofaaGreatDoorRowP
import Derived.Laws.OwnMore
namespace Go.Proofs.YtpnpidepkfnofaaGreatDoor
open Go.RowKit

theorem cellsP_setP (L : List (Int × Int)) : ∀ (i : Nat) (_ : i < L.length) (c : Int × Int), cellsP (L.set i c) = ((cellsP L).set (i * 2) (.int .i64 c.1)).set (i * 2 + 1) (.int .i64 c.2) := by
  induction L with
  | nil => intro i h; simp at h
  | cons p r ih =>
    intro i h c
    cases i with
    | zero => simp [cellsP]
    | succ i =>
      have := ih i (by simpa using h) c
      rw [List.set_cons_succ, cellsP_cons, this, cellsP_cons, show (i + 1) * 2 = i * 2 + 2 by omega, show i * 2 + 2 + 1 = i * 2 + 1 + 2 by omega]
      rfl
theorem OwnsP.store {T : TypeId} {wr : World} {base g n cap i : Nat} {M : List (Int × Int)} (ho : OwnsP T wr base (.slice (some ⟨g, 0, none⟩) n cap) M) (hn : n = M.length) (hi : i < n) (c : Int × Int) :
    OwnsP T ((wr.setCell ⟨g, i * 2, none⟩ (.int .i64 c.1)).setCell ⟨g, i * 2 + 1, none⟩ (.int .i64 c.2)) base (.slice (some ⟨g, 0, none⟩) n cap) (M.set i c) := by
  subst hn
  unfold OwnsP at ho ⊢
  rw [List.length_set, cellsP_setP _ _ hi]
  exact own_set (own_set ho rfl _ _) rfl _ _
def fillL (L : List (Int × Int)) (k : Nat) : List (Int × Int) := L.take k ++ List.replicate (L.length - k) (0, 0)
theorem fillL_len (L : List (Int × Int)) (k : Nat) (h : k ≤ L.length) : (fillL L k).length = L.length := by simp [fillL]; omega
theorem fillL_step (L : List (Int × Int)) (k : Nat) (h : k < L.length) : (fillL L k).set k L[k] = fillL L (k + 1) := by
  unfold fillL
  obtain ⟨m, hm⟩ : ∃ m, L.length - k = m + 1 := ⟨L.length - k - 1, by omega⟩
  rw [hm, List.replicate_succ, List.set_append, if_neg (by rw [List.length_take]; omega), List.length_take, Nat.min_eq_left (by omega), Nat.sub_self, List.set_cons_zero, List.take_succ_eq_append_getElem h, List.append_assoc, show L.length - (k + 1) = m by omega]
  rfl
theorem fillL_all (L : List (Int × Int)) : fillL L L.length = L := by simp [fillL]
theorem made_cells (n : Nat) : (madeCells (Value.agg #[.int .i64 0, .int .i64 0]).cells (n * 2)).toList = cellsP (List.replicate n (0, 0)) := by
  apply List.ext_getElem?
  intro i
  have hl : (cellsP (List.replicate n (0, 0))).length = n * 2 := by rw [cellsP_length, List.length_replicate]
  by_cases hi : i < n * 2
  · have hk : i / 2 < (List.replicate n ((0 : Int), (0 : Int))).length := by rw [List.length_replicate]; omega
    obtain ⟨g1, g2⟩ := cellsP_get (List.replicate n (0, 0)) (i / 2) hk
    rw [List.getElem_replicate] at g1 g2
    rcases Nat.mod_two_eq_zero_or_one i with hm | hm
    · rw [show i = i / 2 * 2 by omega, g1]
      simp [madeCells, Value.cells, show i / 2 * 2 < n * 2 by omega]
    · rw [show i = i / 2 * 2 + 1 by omega, g2]
      simp [madeCells, Value.cells, show i / 2 * 2 + 1 < n * 2 by omega, Nat.add_mod]
  · rw [List.getElem?_eq_none (l := (madeCells _ _).toList) (by simp [madeCells]; omega), List.getElem?_eq_none (l := cellsP _) (by rw [hl]; omega)]
theorem RdP.belowN {w w1 : World} {v : Value} {xs : List (Int × Int)} (h : RdP w v xs) (hb : Below w.heap.size w w1) : RdP w1 v xs := h.below hb
theorem grown_up {T : TypeId} {w w1 : World} {base lim : Nat} {v v' : Value} {L : List (Int × Int)} (h : OwnsP T w base v L) (hg : w.grownBy w1 v'.ownBlock) (hne : ∀ k, v'.ownBlock = some k → k < lim) (hv : ∀ k, v.ownBlock = some k → lim ≤ k) : OwnsP T w1 base v L := by
  refine World.ownsRow.kept h hg ?_
  cases e : v.ownBlock with
  | none => exact .inl rfl
  | some k =>
    refine .inr fun e' => ?_
    have := hne k e'.symm
    have := hv k e
    omega
noncomputable def logB (L : List (Int × Int)) : Bool := (L.all fun c => stepB c.1 c.2) && decide (L.length ≤ 20)
theorem logB_of {L : List (Int × Int)} (h : logB L = true) : L.length ≤ 20 ∧ ∀ k (hk : k < L.length), stepB L[k].1 L[k].2 = true := by
  unfold logB at h
  simp only [Bool.and_eq_true, decide_eq_true_eq, List.all_eq_true] at h
  exact ⟨h.2, fun k hk => h.1 _ (List.getElem_mem hk)⟩
theorem all_no {f : Int × Int → Bool} {L : List (Int × Int)} {k : Nat} (hk : k < L.length) (h : f L[k] = false) : L.all f = false := by
  rw [Bool.eq_false_iff]
  intro h9
  rw [List.all_eq_true] at h9
  rw [h9 _ (List.getElem_mem hk)] at h
  cases h
theorem all_yes {f : Int × Int → Bool} {L : List (Int × Int)} {k : Nat} (hk : k < L.length) (h0 : (L.take k).all f = true) (h : f L[k] = true) : (L.take (k + 1)).all f = true := by
  rw [List.take_succ_eq_append_getElem hk, List.all_append, h0]; simp [h]
set_option maxHeartbeats 1000000 in
theorem c_isLog (base : Nat) (v : Value) (L : List (Int × Int)) (hL : L.length ≤ 100000000) (w : World) (hown : OwnsS w base v L) :
    Calls Tryz.prog 28 #[v] w fun e w' => e = .returned (.bool (logB L)) ∧ Below w.heap.size w w' := by
  obtain ⟨a, cap, rfl, hform⟩ := OwnsP.form hown
  have HF := Lib.hid hform
  clear hform hown
  go_enter Tryz.func28, Tryz.ntmps28
  go_wp2
  go_loopw [7] (fun i wr => ∃ k : Nat, k ≤ L.length ∧ i = .int .i64 k ∧ Hid ((L.take k).all (fun c => stepB c.1 c.2) = true) ∧ Below w.heap.size w wr) (fun i _ => L.length - (intOf i).toNat)
  case atStart => exact ⟨0, Nat.zero_le _, rfl, by show _ = _; simp, Below.refl _ _⟩
  case round =>
    obtain ⟨k, hk, rfl, HN, hb⟩ := hrel
    have hsz := hb.size
    by_cases hlt : k < L.length
    · obtain ⟨g, rfl, q1, q2, _, hg, _⟩ := HF.out k hlt
      have d1 := (hb.cell (p := ⟨g, k * 2, none⟩) hg).trans q1
      have d2 := (hb.cell (p := ⟨g, k * 2 + 1, none⟩) hg).trans q2
      have HY : Hid (stepB L[k].1 L[k].2 = true → (L.take (k + 1)).all (fun c => stepB c.1 c.2) = true) := fun h => all_yes hlt HN.out h
      have HZ : Hid (stepB L[k].1 L[k].2 = false → L.all (fun c => stepB c.1 c.2) = false) := fun h => all_no hlt h
      clear q1 q2
      generalize L[k] = c at d1 d2 HY HZ
      obtain ⟨x, y⟩ := c
      simp only at d1 d2 HY HZ
      cases hq : stepB x y
      · have HE : Hid (logB L = false) := by show _ = _; unfold logB; rw [HZ.out hq]; rfl
        go_wp2_with ((go_at_call 63; refine (c_isStep _ _ _).mono ?_; rintro e w1 ⟨rfl, hb1⟩; obtain ⟨hc1, hf1⟩ := bcell hb1; have hz1 := hb1.size; (try simp only [World.size_alloc] at hz1); (try (have hy1 : w.heap.size < w1.heap.size := by omega)); (try (have hx1 := Nat.lt_of_succ_le hz1)); (try (have hv1 := Nat.lt_of_succ_le (Nat.le_of_lt hx1)))))
        go_ret
        rw [HE.out]
        refine ⟨rfl, ?_⟩
        (repeat' (first | (with_reducible exact Below.refl _ _) | (with_reducible refine below_step (by assumption) ?_ ?_) | (with_reducible refine Below.alloc ?_ ?_ _) | (with_reducible refine Below.setCell ?_ ?_ _) | (with_reducible refine below_drewN ?_ _) | (with_reducible refine Below.drew ?_) | omega | (simp; omega) | (simp; done)))
      · have HE : Hid (_ = _) := HY.out hq
        go_wp2_with ((go_at_call 63; refine (c_isStep _ _ _).mono ?_; rintro e w1 ⟨rfl, hb1⟩; obtain ⟨hc1, hf1⟩ := bcell hb1; have hz1 := hb1.size; (try simp only [World.size_alloc] at hz1); (try (have hy1 : w.heap.size < w1.heap.size := by omega)); (try (have hx1 := Nat.lt_of_succ_le hz1)); (try (have hv1 := Nat.lt_of_succ_le (Nat.le_of_lt hx1)))))
        have hb3 : Below w.heap.size w w1 := by (repeat' (first | (with_reducible exact Below.refl _ _) | (with_reducible refine below_step (by assumption) ?_ ?_) | (with_reducible refine Below.alloc ?_ ?_ _) | (with_reducible refine Below.setCell ?_ ?_ _) | (with_reducible refine below_drewN ?_ _) | (with_reducible refine Below.drew ?_) | omega | (simp; omega) | (simp; done)))
        go_roundw
        case rel => exact ⟨k + 1, by omega, by go_num, HE, hb3⟩
        case measure => simp [intOf]; omega
    · obtain rfl : k = L.length := by omega
      have HE : Hid (logB L = decide ((L.length : Int) ≤ 20)) := by
        have := HN.out
        rw [List.take_length] at this
        show _ = _
        unfold logB
        rw [this, Bool.true_and, Bool.eq_iff_iff]
        simp only [decide_eq_true_eq]
        omega
      go_wp2
      go_ret
      rw [HE.out]
      exact ⟨rfl, hb⟩
set_option maxHeartbeats 1000000 in
theorem c_tlLog (base : Nat) (v : Value) (L : List (Int × Int)) (hL : L.length ≤ 100000000) (w : World) (hown : OwnsS w base v L) :
    Calls Tryz.prog 30 #[v] w fun e w' => e = .returned (.bool (logB L)) ∧ Below w.heap.size w w' := by
  obtain ⟨a, cap, rfl, hform⟩ := OwnsP.form hown
  have HF := Lib.hid hform
  clear hform hown
  go_enter Tryz.func30, Tryz.ntmps30
  go_wp2
  go_loopw [7] (fun i wr => ∃ k : Nat, k ≤ L.length ∧ i = .int .i64 k ∧ Hid ((L.take k).all (fun c => stepB c.1 c.2) = true) ∧ Below w.heap.size w wr) (fun i _ => L.length - (intOf i).toNat)
  case atStart => exact ⟨0, Nat.zero_le _, rfl, by show _ = _; simp, Below.refl _ _⟩
  case round =>
    obtain ⟨k, hk, rfl, HN, hb⟩ := hrel
    have hsz := hb.size
    by_cases hlt : k < L.length
    · obtain ⟨g, rfl, q1, q2, _, hg, _⟩ := HF.out k hlt
      have d1 := (hb.cell (p := ⟨g, k * 2, none⟩) hg).trans q1
      have d2 := (hb.cell (p := ⟨g, k * 2 + 1, none⟩) hg).trans q2
      have HY : Hid (stepB L[k].1 L[k].2 = true → (L.take (k + 1)).all (fun c => stepB c.1 c.2) = true) := fun h => all_yes hlt HN.out h
      have HZ : Hid (stepB L[k].1 L[k].2 = false → L.all (fun c => stepB c.1 c.2) = false) := fun h => all_no hlt h
      clear q1 q2
      generalize L[k] = c at d1 d2 HY HZ
      obtain ⟨x, y⟩ := c
      simp only at d1 d2 HY HZ
      cases hq : stepB x y
      · have HE : Hid (logB L = false) := by show _ = _; unfold logB; rw [HZ.out hq]; rfl
        go_wp2_with ((go_at_call 64; refine (c_tlGood _ _ _).mono ?_; rintro e w1 ⟨rfl, hb1⟩; obtain ⟨hc1, hf1⟩ := bcell hb1; have hz1 := hb1.size; (try simp only [World.size_alloc] at hz1); (try (have hy1 : w.heap.size < w1.heap.size := by omega)); (try (have hx1 := Nat.lt_of_succ_le hz1)); (try (have hv1 := Nat.lt_of_succ_le (Nat.le_of_lt hx1)))))
        go_ret
        rw [HE.out]
        refine ⟨rfl, ?_⟩
        (repeat' (first | (with_reducible exact Below.refl _ _) | (with_reducible refine below_step (by assumption) ?_ ?_) | (with_reducible refine Below.alloc ?_ ?_ _) | (with_reducible refine Below.setCell ?_ ?_ _) | (with_reducible refine below_drewN ?_ _) | (with_reducible refine Below.drew ?_) | omega | (simp; omega) | (simp; done)))
      · have HE : Hid (_ = _) := HY.out hq
        go_wp2_with ((go_at_call 64; refine (c_tlGood _ _ _).mono ?_; rintro e w1 ⟨rfl, hb1⟩; obtain ⟨hc1, hf1⟩ := bcell hb1; have hz1 := hb1.size; (try simp only [World.size_alloc] at hz1); (try (have hy1 : w.heap.size < w1.heap.size := by omega)); (try (have hx1 := Nat.lt_of_succ_le hz1)); (try (have hv1 := Nat.lt_of_succ_le (Nat.le_of_lt hx1)))))
        have hb3 : Below w.heap.size w w1 := by (repeat' (first | (with_reducible exact Below.refl _ _) | (with_reducible refine below_step (by assumption) ?_ ?_) | (with_reducible refine Below.alloc ?_ ?_ _) | (with_reducible refine Below.setCell ?_ ?_ _) | (with_reducible refine below_drewN ?_ _) | (with_reducible refine Below.drew ?_) | omega | (simp; omega) | (simp; done)))
        go_roundw
        case rel => exact ⟨k + 1, by omega, by go_num, HE, hb3⟩
        case measure => simp [intOf]; omega
    · obtain rfl : k = L.length := by omega
      have HE : Hid (logB L = decide ((L.length : Int) ≤ 20)) := by
        have := HN.out
        rw [List.take_length] at this
        show _ = _
        unfold logB
        rw [this, Bool.true_and, Bool.eq_iff_iff]
        simp only [decide_eq_true_eq]
        omega
      go_wp2
      go_ret
      rw [HE.out]
      exact ⟨rfl, hb⟩
end Go.Proofs.YtpnpidepkfnofaaGreatDoor
