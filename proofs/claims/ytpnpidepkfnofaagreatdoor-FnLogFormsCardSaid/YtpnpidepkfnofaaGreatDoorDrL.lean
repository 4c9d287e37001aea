/- Walks: curves and logs drawn (twistable, changeStep, changes). -/
import Derived.Test.YtpnpidepkfnofaaGreatDoorDrA
import Derived.Test.YtpnpidepkfnofaaGreatDoorUndo
import Derived.Test.YtpnpidepkfnofaaGreatDoorApply
namespace Go.Proofs.YtpnpidepkfnofaaGreatDoor
open Go.RowKit

section
variable {B k n : Nat} {v : Value} {xs : List Int} {w0 w w1 : World} {bl : List (Nat × Array Value × TypeId)}
/-! a list of the program's own, as one block that stays -/
def LogR (T : TypeId) (base : Nat) (v : Value) (L : List (Int × Int)) (rl : List (Nat × Array Value × TypeId)) : Prop := (∀ w, MemL rl w → OwnsP T w base v L) ∧ ∀ b ∈ rl, base ≤ b.1
theorem LogR.of {T : TypeId} {base : Nat} {u : Value} {L : List (Int × Int)} (h : OwnsP T w base u L) : ∃ rl, LogR T base u L rl ∧ MemL rl w ∧ rl.Pairwise (fun a b => a.1 ≠ b.1) := by
  obtain ⟨h1, h2 | ⟨g, cap, cur, hv, hg, hh, r⟩⟩ := h
  · exact ⟨[], ⟨fun w _ => ⟨h1, .inl h2⟩, fun _ hb => (List.not_mem_nil hb).elim⟩, fun _ hb => (List.not_mem_nil hb).elim, List.Pairwise.nil⟩
  · exact ⟨[(g, cur, T)], ⟨fun w hm => ⟨h1, .inr ⟨g, cap, cur, hv, hg, hm (g, cur, T) (by simp), r⟩⟩, fun b hb => by rw [List.mem_singleton] at hb; subst hb; exact hg⟩, fun b hb => by rw [List.mem_singleton] at hb; subst hb; exact hh, by simp⟩
theorem Dr.perm {bl' : List (Nat × Array Value × TypeId)} (d : Dr B k v xs n w0 bl w) (h : bl.Perm bl') : Dr B k v xs n w0 bl' w :=
  ⟨d.cur, d.ovr, fun x hx => d.mem x (h.mem_iff.2 hx), fun b hb => d.far b (h.mem_iff.2 hb), (h.pairwise_iff (fun hab => hab.symm)).1 d.dif⟩
theorem Dr.addOwn {T : TypeId} {base : Nat} {u : Value} {L : List (Int × Int)} (d : Dr B k v xs n w0 bl w) (h : OwnsP T w base u L) (hk : k < base) (hbl : ∀ b ∈ bl, b.1 < base) (h0 : w0.heap.size ≤ base) :
    ∃ rl, LogR T base u L rl ∧ Dr B k v xs n w0 (rl ++ bl) w := by
  obtain ⟨rl, h1, h2, h3⟩ := LogR.of h
  have hB := d.cur.1
  refine ⟨rl, h1, d.cur, d.ovr, fun x hx => ?_, fun b hb => ?_, List.pairwise_append.2 ⟨h3, d.dif, fun a ha b hb => ?_⟩⟩
  · rcases List.mem_append.1 hx with hx | hx
    · exact h2 x hx
    · exact d.mem x hx
  · rcases List.mem_append.1 hb with hb | hb
    · have := h1.2 b hb
      exact ⟨by omega, by omega, by omega⟩
    · exact d.far b hb
  · have := h1.2 a ha
    have := hbl b hb
    omega
theorem Dr.left {rl : List (Nat × Array Value × TypeId)} (d : Dr B k v xs n w0 (rl ++ bl) w) : MemL rl w := fun x hx => d.mem x (List.mem_append_left _ hx)
theorem Dr.right {rl : List (Nat × Array Value × TypeId)} (d : Dr B k v xs n w0 (rl ++ bl) w) : Dr B k v xs n w0 bl w :=
  ⟨d.cur, d.ovr, fun x hx => d.mem x (List.mem_append_right _ hx), fun x hx => d.far x (List.mem_append_right _ hx), (List.pairwise_append.1 d.dif).2.1⟩
theorem Dr.owns {T : TypeId} {base : Nat} {u : Value} {L : List (Int × Int)} {rl : List (Nat × Array Value × TypeId)} (d : Dr B k v xs n w0 (rl ++ bl) w) (h : LogR T base u L rl) : OwnsP T w base u L := h.1 w d.left
/-- what grows above a bound leaves what lies below it -/
theorem Dr.grow {base : Nat} (d : Dr B k v xs n w0 bl w) (hb : Below base w w1) (hk : k < base) (hbl : ∀ b ∈ bl, b.1 < base) (h0 : w0.heap.size ≤ base) : Dr B k v xs n w0 bl w1 := by
  obtain ⟨h1, h2, h3, a, s, h4, h5, h6, h7⟩ := d.cur
  have hblk : ∀ b < base, w1.heap[b]? = w.heap[b]? := fun b h => hb.block b h
  refine ⟨⟨h1, Nat.lt_of_lt_of_le h2 hb.size, ?_, a, s, h4, h5, h6, (hblk k hk).trans h7⟩, ?_, fun x hx => (hblk _ (hbl x hx)).trans (d.mem x hx), d.far, d.dif⟩
  · obtain ⟨a', cap, hv, hm, hc⟩ := h3
    refine ⟨a', cap, hv, hm, fun i hi => ?_⟩
    obtain ⟨g, o, ha, q1, q2, q3, q4⟩ := hc i hi
    exact ⟨g, o, ha, (hb.cell (p := ⟨g, o + i, none⟩) (by show g < base; omega)).trans q1, q2, q3, q4⟩
  · exact ⟨hb.os.trans d.ovr.os, hb.tape.trans d.ovr.tape, hb.output.trans d.ovr.output, Nat.le_trans d.ovr.size hb.size, fun j hj hn => (hblk j (by omega)).trans (d.ovr.block j hj hn)⟩
theorem c_tlUndoAny (k v : Int) (w : World) :
    Calls Tryz.prog 33 #[.agg #[.int .i64 k, .int .i64 v]] w fun e w' => e = .returned (.agg #[.int .i64 (undK k), .int .i64 v]) ∧ Below w.heap.size w w' := by
  by_cases h0 : k = 0
  · exact c_tlUndo k v (.inl h0) w
  by_cases h1 : k = 1
  · exact c_tlUndo k v (.inr (.inl h1)) w
  by_cases h2 : k = 2
  · exact c_tlUndo k v (.inr (.inr (.inl h2))) w
  have hu : undK k = 2 := by unfold undK; rw [if_neg h0, if_neg h1, if_neg h2]
  rw [hu]
  go_enter Tryz.func33, Tryz.ntmps33
  go_wp2
  go_returns
  refine ⟨rfl, ?_⟩
  go_grown
set_option maxHeartbeats 1000000 in
theorem d_twistable (d : Dr B k v xs n w0 bl w) (hn : n ≤ 500000) : Calls Tryz.prog 40 #[.pointer (some ⟨k, 0, none⟩)] w (CurveD B k v xs (n + 60) w0 bl In64) := by
  have d1 := d.alloc #[.int .i64 0, .int .i64 0] 33
  go_enter Tryz.func40, Tryz.ntmps40
  go_upto_region 1 with (fail)
  generalize w.alloc _ = W at d1 ⊢
  generalize w.heap.size = S at d1 ⊢
  go_wp2_with fail
  refine (d_one d1 (by omega) 4 (by omega)).mono ?_
  rintro e w2 ⟨q, rfl, d2⟩
  clear d1
  cases q
  · go_wp2_with fail
    refine (d_pick d2 (by omega) 7 (by omega)).mono ?_
    rintro e w3 ⟨x, rfl, hx, d3⟩
    go_wp2_with fail
    refine (d_pick d3 (by omega) 5 (by omega)).mono ?_
    rintro e w4 ⟨y, rfl, hy, d4⟩
    simp only [show ¬ ((7 : Int) ≤ 1) by omega, show ¬ ((5 : Int) ≤ 1) by omega, if_false] at hx hy
    have d5 := d4.alloc #[.int .i64 (x - 3), .int .i64 (y - 2)] 33
    clear d2 d3 d4
    have bx : -3 ≤ x - 3 ∧ x - 3 ≤ 3 := by omega
    have hy' : -2 ≤ y - 2 ∧ y - 2 ≤ 2 := by omega
    go_wp2_with fail
    refine (c_ecGood _ _ _).mono ?_
    rintro e w6 ⟨rfl, hb6⟩
    have d6 := d5.below hb6
    have hE : ¬ (w4.heap.size = S) := fun e => (List.pairwise_cons.1 d5.dif).1 (S, #[.int .i64 0, .int .i64 0], 33) (by simp) e
    have hE' : ¬ (S = w4.heap.size) := fun e => hE e.symm
    obtain ⟨c0, c1, _, _⟩ := d6.two
    obtain ⟨y0, y1, z0, z1⟩ := d6.swap.two
    clear d5 hb6 hx hy
    generalize x - 3 = a at *
    generalize y - 2 = b at *
    generalize w4.heap.size = E at *
    cases hq : curveB a b
    · have d7 := d6.tail.s01 (.int .i64 (-1)) (.int .i64 0)
      go_wp2
      generalize (World.setCell (World.setCell _ _ _) _ _) = w7 at d7 ⊢
      obtain ⟨q0, q1, _, _⟩ := d7.two
      refine bodyPost_ret (v := .agg #[.int .i64 (-1), .int .i64 0]) (by simp [results, Tryz.results40, go_sem, q0, q1]) rfl ?_
      exact ⟨_, _, rfl, (by unfold In64; omega), d7.tail.le (by omega)⟩
    · have d7 := d6.tail.s01 (.int .i64 a) (.int .i64 b)
      go_wp2
      generalize (World.setCell (World.setCell _ _ _) _ _) = w7 at d7 ⊢
      obtain ⟨q0, q1, _, _⟩ := d7.two
      refine bodyPost_ret (v := .agg #[.int .i64 a, .int .i64 b]) (by simp [results, Tryz.results40, go_sem, q0, q1]) rfl ?_
      exact ⟨_, _, rfl, (by unfold In64; omega), d7.tail.le (by omega)⟩
  · go_wp2_with fail
    refine (d_anyCurve d2 (by omega)).mono ?_
    rintro e w3 ⟨a, b, rfl, hab, d3⟩
    obtain ⟨y0, y1, z0, z1⟩ := d3.two
    have d4 := d3.s01 (.int .i64 a) (.int .i64 b)
    go_wp2
    generalize (World.setCell (World.setCell _ _ _) _ _) = w7 at d4 ⊢
    obtain ⟨q0, q1, _, _⟩ := d4.two
    refine bodyPost_ret (v := .agg #[.int .i64 a, .int .i64 b]) (by simp [results, Tryz.results40, go_sem, q0, q1]) rfl ?_
    exact ⟨_, _, rfl, hab, d4.tail.le (by omega)⟩
def StepIn (a b : Int) : Prop := (-1 ≤ a ∧ a ≤ 4) ∧ (-30 ≤ b ∧ b ≤ 31)
set_option maxHeartbeats 1000000 in
theorem d_changeStep (d : Dr B k v xs n w0 bl w) (hn : n ≤ 700000) : Calls Tryz.prog 62 #[.pointer (some ⟨k, 0, none⟩)] w (CurveD B k v xs (n + 10) w0 bl StepIn) := by
  have d1 := d.alloc #[.int .i64 0, .int .i64 0] 44
  go_enter Tryz.func62, Tryz.ntmps62
  go_upto_region 1 with (fail)
  generalize w.alloc _ = W at d1 ⊢
  generalize w.heap.size = S at d1 ⊢
  go_wp2_with fail
  refine (d_pick d1 (by omega) 4 (by omega)).mono ?_
  rintro e w2 ⟨a, rfl, ha, d2⟩
  go_wp2_with fail
  refine (d_among d2 (by omega) [2, 2, 3, 5, 10, -1, 6] (by simp)).mono ?_
  rintro e w3 ⟨b, rfl, hb, d3⟩
  simp only [show ¬ ((4 : Int) ≤ 1) by omega, if_false] at ha
  replace hb : -30 ≤ b ∧ b ≤ 31 := by simp at hb; omega
  have d4 := d3.alloc #[.int .i64 a, .int .i64 b] 44
  clear d1 d2 d3
  go_upto_region 2 with (fail)
  generalize w3.alloc _ = W4 at d4 ⊢
  have hE : ¬ (w3.heap.size = S) := fun e => (List.pairwise_cons.1 d4.dif).1 (S, #[.int .i64 0, .int .i64 0], 44) (by simp) e
  have hE' : ¬ (S = w3.heap.size) := fun e => hE e.symm
  generalize w3.heap.size = E at d4 hE hE' ⊢
  obtain ⟨c0, c1, z0, z1⟩ := d4.two
  have HI := Lib.hid (fun W => c_l1In b 2 5 W)
  go_cut [18] from 38 (fun s wc => ∃ q : Bool, s = .bool q ∧ wc = W4)
  case first =>
    by_cases h2 : a < 2
    · cases hb5 : inB b 2 5
      all_goals
        rw [hb5] at HI
        go_wp2_with fail
        refine (HI.out _).mono ?_
        rintro e _ ⟨rfl, rfl⟩
        go_wp2
        go_meet
        case rel => exact ⟨_, rfl, rfl⟩
    · go_wp2
      go_meet
      case rel => exact ⟨_, rfl, rfl⟩
  case rest =>
    obtain ⟨q, rfl, hw⟩ := hcut
    clear HI
    go_upto_if 18 with (fail)
    go_cut [] from 38 (fun wd => ∃ b : Int, (-30 ≤ b ∧ b ≤ 31) ∧ Dr B k v xs (n + 6) w0 ((E, #[.int .i64 a, .int .i64 b], 44) :: (S, #[.int .i64 0, .int .i64 0], 44) :: bl) wd)
    case first =>
      rw [hw]
      cases q
      · go_wp2
        go_meet
        case rel => exact ⟨b, hb, d4.le (by omega)⟩
      · go_wp2_with fail
        refine (d_among d4 (by omega) [2, 4, 5] (by simp)).mono ?_
        rintro e w5 ⟨y, rfl, hy, d5⟩
        replace hy : -30 ≤ y ∧ y ≤ 31 := by simp at hy; omega
        clear c0 c1 z0 z1
        obtain ⟨_, c1, _, z1⟩ := d5.two
        have d6 := d5.s1 (.int .i64 y)
        go_wp2
        go_meet
        case rel => exact ⟨y, hy, d6.le (by omega)⟩
    case rest =>
      obtain ⟨b', hb', d5⟩ := hcut
      clear d4 c0 c1 z0 z1 hw hb
      go_wp2_with fail
      refine (d_pick d5 (by omega) 30 (by omega)).mono ?_
      rintro e w6 ⟨j, rfl, hj, d6⟩
      clear d5
      by_cases h0 : j = 0
      · subst h0
        go_wp2_with fail
        refine (d_among d6 (by omega) [-1, 4] (by simp)).mono ?_
        rintro e w7 ⟨y, rfl, hy, d7⟩
        replace hy : -1 ≤ y ∧ y ≤ 4 := by simp at hy; omega
        obtain ⟨c0, _, z0, _⟩ := d7.two
        have d8 := d7.s0 (.int .i64 y)
        go_upto_region 9 with (fail)
        generalize w7.setCell _ _ = W8 at d8 ⊢
        obtain ⟨c0, c1, _, _⟩ := d8.two
        obtain ⟨y0, y1, z0, z1⟩ := d8.swap.two
        have e2 := d8.swap.s01 (.int .i64 y) (.int .i64 b')
        go_wp2
        generalize (World.setCell (World.setCell _ _ _) _ _) = w16 at e2 ⊢
        obtain ⟨q0, q1, _, _⟩ := e2.two
        refine bodyPost_ret (v := .agg #[.int .i64 y, .int .i64 b']) (by simp [results, Tryz.results62, go_sem, q0, q1]) rfl ?_
        exact ⟨_, _, rfl, ⟨by omega, by omega⟩, e2.tail.tail.le (by omega)⟩
      · by_cases h1 : j = 1
        · subst h1
          go_wp2_with fail
          refine (d_among d6 (by omega) [0, 1, 6, 4, 31, -30] (by simp)).mono ?_
          rintro e w7 ⟨y, rfl, hy, d7⟩
          replace hy : -30 ≤ y ∧ y ≤ 31 := by simp at hy; omega
          obtain ⟨_, c1, _, z1⟩ := d7.two
          have d8 := d7.s1 (.int .i64 y)
          go_upto_region 9 with (fail)
          generalize w7.setCell _ _ = W8 at d8 ⊢
          obtain ⟨c0, c1, _, _⟩ := d8.two
          obtain ⟨y0, y1, z0, z1⟩ := d8.swap.two
          have e2 := d8.swap.s01 (.int .i64 a) (.int .i64 y)
          go_wp2
          generalize (World.setCell (World.setCell _ _ _) _ _) = w16 at e2 ⊢
          obtain ⟨q0, q1, _, _⟩ := e2.two
          refine bodyPost_ret (v := .agg #[.int .i64 a, .int .i64 y]) (by simp [results, Tryz.results62, go_sem, q0, q1]) rfl ?_
          exact ⟨_, _, rfl, ⟨by omega, by omega⟩, e2.tail.tail.le (by omega)⟩
        · obtain ⟨c0, c1, _, _⟩ := d6.two
          obtain ⟨y0, y1, z0, z1⟩ := d6.swap.two
          have e2 := d6.swap.s01 (.int .i64 a) (.int .i64 b')
          go_wp2
          generalize (World.setCell (World.setCell _ _ _) _ _) = w16 at e2 ⊢
          obtain ⟨q0, q1, _, _⟩ := e2.two
          refine bodyPost_ret (v := .agg #[.int .i64 a, .int .i64 b']) (by simp [results, Tryz.results62, go_sem, q0, q1]) rfl ?_
          exact ⟨_, _, rfl, ⟨by omega, by omega⟩, e2.tail.tail.le (by omega)⟩
end
end Go.Proofs.YtpnpidepkfnofaaGreatDoor
