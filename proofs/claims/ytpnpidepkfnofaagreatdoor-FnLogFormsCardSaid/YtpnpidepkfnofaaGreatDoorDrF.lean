/- Walks: logs and steps drawn for the law of forms of logs (DrawIsStep, DrawInverseLog, DrawLogText, DrawTwistOfLog). -/
import Derived.Test.YtpnpidepkfnofaaGreatDoorDrM
namespace Go.Proofs.YtpnpidepkfnofaaGreatDoor
open Go.RowKit

/-- a step, drawn by a function -/
def StepD (w : World) (e : Ending) (w' : World) : Prop :=
  ∃ a b : Int, e = .returned (.agg #[.int .i64 a, .int .i64 b]) ∧ StepIn a b ∧ Below w.heap.size w w'
set_option maxHeartbeats 1000000 in
theorem d_drawIsStep (v : Value) (xs : List Int) (w : World) (h : RdB w w.heap.size v xs) : Calls Tryz.prog 24 #[v] w (StepD w) := by
  have d1 := Dr.make1 h #[.int .i64 0, .int .i64 0] 44
  obtain ⟨a0, cap, rfl, _⟩ := h
  go_enter Tryz.func24, Tryz.ntmps24
  go_wp2_with fail
  generalize (w.alloc _).alloc _ = W0 at d1 ⊢
  generalize w.heap.size + 1 = k at d1 ⊢
  refine (d_changeStep d1 (by omega)).mono ?_
  rintro e w2 ⟨a, b, rfl, hab, d2⟩
  obtain ⟨c0, c1, z0, z1⟩ := d2.two
  have d3 := d2.s01 (.int .i64 a) (.int .i64 b)
  clear d1 d2
  go_wp2
  generalize (World.setCell (World.setCell _ _ _) _ _) = w4 at d3 ⊢
  obtain ⟨q0, q1, _⟩ := d3.two
  refine bodyPost_ret (v := .agg #[.int .i64 a, .int .i64 b]) (by simp [results, Tryz.results24, go_sem, q0, q1]) rfl ?_
  exact ⟨_, _, rfl, hab, d3.out⟩
/-- a log, drawn by a function -/
def LogOut (w : World) (e : Ending) (w' : World) : Prop :=
  ∃ (u : Value) (L : List (Int × Int)), e = .returned u ∧ L.length ≤ 60 ∧ OwnsS w' w.heap.size u L ∧ Below w.heap.size w w'
set_option maxHeartbeats 1000000 in
theorem d_drawInverse (v : Value) (xs : List Int) (w : World) (h : RdB w w.heap.size v xs) : Calls Tryz.prog 27 #[v] w (LogOut w) := by
  have d1 := Dr.make0 h
  obtain ⟨a0, cap, rfl, _⟩ := h
  go_enter Tryz.func27, Tryz.ntmps27
  go_wp2_with fail
  generalize w.alloc _ = W0 at d1 ⊢
  refine (d_twistable d1 (by omega)).mono ?_
  rintro e w2 ⟨a, b, rfl, hab, d2⟩
  go_wp2_with fail
  refine (d_changes d2 (by omega) a b).mono ?_
  rintro e w3 ⟨u, L, rl, rfl, hL, hlog, d3⟩
  have hs : w.heap.size ≤ w2.heap.size := d2.ovr.size
  clear d1 d2
  go_wp2
  refine bodyPost_ret (v := u) (by simp [results, Tryz.results27, go_sem]) rfl ?_
  exact ⟨_, L, rfl, hL, OwnsP.le (d3.owns hlog) (by omega), d3.out⟩
theorem d_drawLogText (v : Value) (xs : List Int) (w : World) (h : RdB w w.heap.size v xs) : Calls Tryz.prog 5 #[v] w (LogOut w) := by
  have HI := Lib.hid (d_drawInverse v xs w h)
  obtain ⟨a0, cap, rfl, _⟩ := h
  go_enter Tryz.func5, Tryz.ntmps5
  go_wp2_with fail
  refine HI.out.mono ?_
  rintro e w3 ⟨u, L, rfl, hL, ho, hb⟩
  clear HI
  go_wp2
  refine bodyPost_ret (v := u) (by simp [results, Tryz.results5, go_sem]) rfl ?_
  exact ⟨_, L, rfl, hL, ho, hb⟩
set_option maxHeartbeats 2000000 in
theorem d_drawTwist (v : Value) (xs : List Int) (w : World) (h : RdB w w.heap.size v xs) : Calls Tryz.prog 17 #[v] w (LogOut w) := by
  have d1 := Dr.make0 h
  obtain ⟨a0, cap, rfl, _⟩ := h
  go_enter Tryz.func17, Tryz.ntmps17
  go_wp2_with fail
  generalize w.alloc _ = W0 at d1 ⊢
  refine (d_one d1 (by omega) 3 (by omega)).mono ?_
  rintro e w2 ⟨q, rfl, d2⟩
  clear d1
  cases q
  · go_wp2_with fail
    refine (d_twistable d2 (by omega)).mono ?_
    rintro e w3 ⟨a, b, rfl, hab, d3⟩
    go_wp2_with fail
    refine (d_changes d3 (by omega) a b).mono ?_
    rintro e w4 ⟨u, L, rl, rfl, hL, hlog, d4⟩
    have hs : w.heap.size ≤ w3.heap.size := d3.ovr.size
    clear d2 d3
    go_wp2
    refine bodyPost_ret (v := u) (by simp [results, Tryz.results17, go_sem]) rfl ?_
    exact ⟨_, L, rfl, hL, OwnsP.le (d4.owns hlog) (by omega), d4.out⟩
  · go_wp2_with fail
    refine (d_pick d2 (by omega) 7 (by omega)).mono ?_
    rintro e w3 ⟨n0, rfl, hn0, d3⟩
    simp only [show ¬ ((7 : Int) ≤ 1) by omega, if_false] at hn0
    have hkb : w.heap.size < w.heap.size + 1 := by omega
    have h0b : w.heap.size ≤ w.heap.size + 1 := by omega
    generalize hbe : w.heap.size + 1 = base at hkb h0b
    have hbb : base ≤ w.heap.size + 1 := by omega
    clear hbe d2
    go_wp2
    go_loopw [4, 5] (fun lg t wr => ∃ (L : List (Int × Int)) (m : Nat), t = .int .i64 m ∧ L.length + m ≤ 7 ∧ OwnsS wr base lg L ∧ Dr w.heap.size w.heap.size (.slice a0 xs.length cap) xs (100 + 10 * L.length) w [] wr) (fun _ t _ => (intOf t).toNat)
    case atStart => exact ⟨[], (1 + n0).toNat, by rw [Int.toNat_of_nonneg (by omega)], by simp; omega, OwnsP.nil _ _ _, d3.le (by omega)⟩
    case round =>
      obtain ⟨L, m, rfl, hm, ho, dr⟩ := hrel
      obtain ⟨rl, hlog, dr2⟩ := dr.addOwn ho hkb (fun _ hb => (List.not_mem_nil hb).elim) h0b
      obtain ⟨sa, cap', rfl, _⟩ := OwnsP.form ho
      clear dr ho d3
      by_cases hgo : (0 : Int) < m
      · go_wp2_with fail
        refine (d_pick dr2 (by omega) 2 (by omega)).mono ?_
        rintro e w6 ⟨x, rfl, hx, d6⟩
        simp only [show ¬ ((2 : Int) ≤ 1) by omega, if_false] at hx
        go_wp2_with fail
        refine (d_among d6 (by omega) [2, 3, 5, 7, 11, 13, 17, 29, -1, 30] (by simp)).mono ?_
        rintro e w7 ⟨y, rfl, hy, d7⟩
        replace hy : -30 ≤ y ∧ y ≤ 31 := by simp at hy; omega
        have ho9 := d7.owns hlog
        have hs9 : base ≤ w7.heap.size := by have := d7.cur.2.1; omega
        clear dr2 d6
        go_wp2_with (at_builtin; refine wpList_appS (p := (2 + x, y)) rfl _ _ rfl base _ _ rfl ho9 rfl (by omega) hs9 ?_; intro v' w30 ho30 hb30 hg30)
        have d30 := (d7.right).grow hb30 hkb (fun _ hb => (List.not_mem_nil hb).elim) h0b
        go_wp2
        go_roundw
        case rel => exact ⟨L ++ [(2 + x, y)], m - 1, by go_num, by simp; omega, ho30, d30.le (by simp; omega)⟩
        case measure => simp [intOf]; omega
      · go_wp2
        refine bodyPost_ret (v := .slice sa L.length cap') (by simp [results, Tryz.results17, go_sem]) rfl ?_
        exact ⟨_, L, rfl, by omega, OwnsP.le (dr2.owns hlog) (by omega), dr2.out⟩
end Go.Proofs.YtpnpidepkfnofaaGreatDoor
