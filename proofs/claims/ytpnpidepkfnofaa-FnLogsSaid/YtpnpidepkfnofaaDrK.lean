/- Walks: a curve, a log and a curve drawn (DrawCheckLog). -/
import Derived.Test.YtpnpidepkfnofaaDrN
import Derived.Test.YtpnpidepkfnofaaCrv2
namespace Go.Proofs.Ytpnpidepkfnofaa
open Go.RowKit

/-- a curve, a log and a curve, drawn by a function -/
def CheckD (w : World) (e : Ending) (w' : World) : Prop :=
  ∃ (a b c d : Int) (u : Value) (L : List (Int × Int)), e = .returned (.tuple #[.agg #[.int .i64 a, .int .i64 b], u, .agg #[.int .i64 c, .int .i64 d]]) ∧ L.length ≤ 60 ∧ OwnsS w' w.heap.size u L ∧ Below w.heap.size w w'
set_option maxHeartbeats 4000000 in
theorem d_drawCheck (v : Value) (xs : List Int) (w : World) (h : RdB w w.heap.size v xs) : Calls Try.prog 20 #[v] w (CheckD w) := by
  have d1 := Dr.make2 h #[.int .i64 0, .int .i64 0] #[.int .i64 0, .int .i64 0] 25 25
  have n1 : ¬ (w.heap.size + 1 = w.heap.size) := by omega
  have n2 : ¬ (w.heap.size = w.heap.size + 1) := by omega
  obtain ⟨a0, cap, rfl, _⟩ := h
  go_enter Try.func20, Try.ntmps20
  go_wp2_with fail
  generalize ((w.alloc _).alloc _).alloc _ = W0 at d1 ⊢
  generalize hk : w.heap.size + 1 + 1 = k at d1 ⊢
  have hk1 : w.heap.size < k := by omega
  have hk2 : w.heap.size + 1 < k := by omega
  clear hk
  generalize hS2 : w.heap.size + 1 = S2 at d1 n1 n2 hk2 ⊢
  have hS2' : w.heap.size ≤ S2 := by omega
  clear hS2
  refine (d_twistable d1 (by omega)).mono ?_
  rintro e w2 ⟨a, b, rfl, hab, d2⟩
  have hk3 : k < w2.heap.size := d2.cur.2.1
  have d3 := d2.alloc #[.int .i64 a, .int .i64 b] 25
  clear d1 d2
  obtain ⟨c0, c1, _, _⟩ := d3.two
  have hbz : w2.heap.size + 1 ≤ (w2.alloc (.cells #[.int .i64 a, .int .i64 b] 25)).heap.size + 1 := by simp
  go_wp2_with fail
  refine (d_changes d3 (by omega) a b).mono ?_
  rintro e w4 ⟨u, L, rl, rfl, hL, hlog, d4⟩
  replace hlog := hlog.le hbz
  clear d3 c0 c1 hbz
  generalize w2.heap.size = E at hk3 hlog d4 ⊢
  obtain ⟨c0, c1, _, _⟩ := d4.right.two
  have HR := Lib.hid (fun W ho => c_sReplayLog (E + 1) u a b L (by omega) W ho)
  generalize rpE a b L = c at HR
  generalize ccO (a, b) L = o at HR
  obtain ⟨X, Y⟩ := c
  go_wp2_with fail
  refine (HR.out _ (d4.owns hlog)).mono ?_
  rintro e w5 ⟨rfl, hb5⟩
  have d5 := (d4.below hb5).alloc #[.int .i64 X, .int .i64 Y] 25
  have hE5 : E < w5.heap.size := by have := d4.right.head.lt; have := hb5.size; omega
  clear HR d4 c0 c1 hb5
  go_upto_region 5 with (fail)
  generalize w5.alloc _ = W5 at d5 ⊢
  generalize w5.heap.size = R at d5 hE5 ⊢
  go_cut [29] from 37 (fun s wc => ∃ q : Bool, s = .bool q ∧ Dr w.heap.size k (.slice a0 xs.length cap) xs 3000 w ((R, #[.int .i64 X, .int .i64 Y], 25) :: (rl ++ [(E, #[.int .i64 a, .int .i64 b], 25), (w.heap.size, #[.int .i64 0, .int .i64 0], 25), (S2, #[.int .i64 0, .int .i64 0], 25)])) wc)
  case first =>
    cases o
    · go_wp2
      go_meet
      case rel => exact ⟨_, rfl, d5.le (by omega)⟩
    · go_wp2_with fail
      refine (d_one d5 (by omega) 4 (by omega)).mono ?_
      rintro e w6 ⟨q, rfl, d6⟩
      go_wp2
      go_meet
      case rel => exact ⟨_, rfl, d6.le (by omega)⟩
  case rest =>
    obtain ⟨q, rfl, d6⟩ := hcut
    clear d5
    have hS : w.heap.size ≤ w.heap.size := Nat.le_refl _
    have hown := d6.tail.owns hlog
    obtain ⟨r0, r1, _, _⟩ := d6.two
    have dE := d6.tail.right
    have hlE := dE.head.lt
    obtain ⟨c0, c1, _, _⟩ := dE.two
    have dS := dE.tail
    generalize hSe : w.heap.size = S at dS hk1 n1 n2 hS2' ⊢
    have hSS : S < S2 := by omega
    clear dE d6
    have m1 : ¬ (E = S) := by omega
    have m2 : ¬ (S = E) := by omega
    have m3 : ¬ (E = S2) := by omega
    have m4 : ¬ (S2 = E) := by omega
    have m5 : ¬ (R = S) := by omega
    have m6 : ¬ (S = R) := by omega
    have m7 : ¬ (R = S2) := by omega
    have m8 : ¬ (S2 = R) := by omega
    have hEk : E ∉ [k, S, S2] := by simp; omega
    have hz : (#[.int .i64 0, .int .i64 0] : Array Value) = #[.int .i64 0, .int .i64 0] := rfl
    clear hz
    cases q
    · go_upto_region 7 with (fail)
      refine wp_region_cls [k, S, S2] (fun _ => false) (fun _ => True) (fun w' => OwnsS w' (E + 1) u L ∧ Dr S k (.slice a0 xs.length cap) xs 3000 w [(S, #[.int .i64 0, .int .i64 0], 25), (S2, #[.int .i64 0, .int .i64 0], 25)] w') (by kernel_rfl) (⟨OwnsP.below hown (Below.refl _ _).drew, dS.below (Below.refl _ _).drew⟩) ?_
      apply wpAnyF_hd ⟨wc.drew, (Over.refl _ _).drew, ⟨OwnsP.below hown (Below.refl _ _).drew, dS.below (Below.refl _ _).drew⟩⟩ [true, true, true] 4 (fun _ _ h hb => ⟨OwnsP.below h.1 hb, h.2.below hb⟩) (fun _ _ => trivial) (by kernel_rfl) (by kernel_rfl) (by kernel_rfl) (by kernel_rfl) (by simp)
      · intro E hE hEN hEn; (repeat (first | (refine wpHL_take ?_; go_big_quiet_step (fail); refine wpQuiet_nil ?_) | refine wpHL_skip ?_)); exact wpHL_end rfl
      refine wpAnyF_ready [3] 3 (by kernel_rfl) (by kernel_rfl) (by simp) (AllF.cons ?_ AllF.nil)
      refine stepC_calle (some 36) (fun y => fun w' => (∃ a2 b2 : Int, y = .agg #[.int .i64 a2, .int .i64 b2]) ∧ OwnsS w' (E + 1) u L ∧ Dr S k (.slice a0 xs.length cap) xs 3060 w [(S, #[.int .i64 0, .int .i64 0], 25), (S2, #[.int .i64 0, .int .i64 0], 25)] w') (by rfl) (by rfl) (by rfl) (fun _ => by go_simp) (fun y => fun _ _ h hb => ⟨h.1, OwnsP.below h.2.1 hb, h.2.2.below hb⟩) (fun w' hO hD => (d_twistable (Dr.start hD.2.cur) (by omega)).mono fun e w2 ⟨a2, b2, h1, _, h4⟩ => ⟨_, h1, h4.ovr.sub (by simp), ⟨a2, b2, rfl⟩, OwnsP.overLt hD.1 h4.ovr (by simp; omega), hD.2.go h4.cur h4.ovr⟩) (fun y hne => ?_)
      simp only [Act.put, List.setIfInBounds_toArray, List.set_cons_succ, List.set_cons_zero]
      obtain ⟨wq, hOq, ⟨a2, b2, rfl⟩, hdq⟩ := hne; have hne : ∃ w, Over [k, S, S2] wc w ∧ (∃ a3 b3 : Int, Value.agg #[.int .i64 a2, .int .i64 b2] = .agg #[.int .i64 a3, .int .i64 b3]) ∧ OwnsS w (E + 1) u L ∧ Dr S k (.slice a0 xs.length cap) xs 3060 _ [(S, #[.int .i64 0, .int .i64 0], 25), (S2, #[.int .i64 0, .int .i64 0], 25)] w := ⟨wq, hOq, ⟨a2, b2, rfl⟩, hdq⟩
      refine wpAnyF_ready [4] 2 (by kernel_rfl) (by kernel_rfl) (by simp) (AllF.cons ?_ AllF.nil)
      refine stepC_store (v := .agg #[.int .i64 a, .int .i64 b]) (S) (#[.int .i64 0, .int .i64 0]) (fun w' => OwnsS w' (E + 1) u L ∧ Dr S k (.slice a0 xs.length cap) xs 3060 w [(S2, #[.int .i64 0, .int .i64 0], 25), (S, #[.int .i64 a, .int .i64 b], 25)] w') (by rfl) (by rfl) (by rfl) (by rfl) (by rfl) (by rfl) (fun _ => by go_simp) (by rfl) (by simp [Value.cells, one1]) (.inr (by simp)) (fun _ hd => hd.2.2.head) (fun _ _ h hb => ⟨OwnsP.below h.1 hb, h.2.below hb⟩) (fun _ _ hd ho hb => ⟨OwnsP.overLt hd.2.1 ho (by simp; omega), (hd.2.2.stored ho hb).swap⟩) (fun hne => ?_)
      try simp only [Value.cells]
      apply wpAnyF_hd hne [false, false, false, false, false, true] 1 (fun _ _ h hb => ⟨OwnsP.below h.1 hb, h.2.below hb⟩) (fun _ _ => trivial) (by kernel_rfl) (by kernel_rfl) (by kernel_rfl) (by kernel_rfl) (by simp)
      · intro E hE hEN hEn; (repeat (first | (refine wpHL_take ?_; go_big_quiet_step (fail); refine wpQuiet_nil ?_) | refine wpHL_skip ?_)); exact wpHL_end rfl
      refine wpAnyF_ready [6] 0 (by kernel_rfl) (by kernel_rfl) (by simp) (AllF.cons ?_ AllF.nil)
      refine stepC_store (v := .agg #[.int .i64 a2, .int .i64 b2]) (S2) (#[.int .i64 0, .int .i64 0]) (fun w' => OwnsS w' (E + 1) u L ∧ Dr S k (.slice a0 xs.length cap) xs 3060 w [(S2, #[.int .i64 a2, .int .i64 b2], 25), (S, #[.int .i64 a, .int .i64 b], 25)] w') (by rfl) (by rfl) (by rfl) (by rfl) (by rfl) (by rfl) (fun _ => by go_simp) (by rfl) (by simp [Value.cells, one1]) (.inr (by simp)) (fun _ hd => hd.2.head) (fun _ _ h hb => ⟨OwnsP.below h.1 hb, h.2.below hb⟩) (fun _ _ hd ho hb => ⟨OwnsP.overLt hd.1 ho (by simp; omega), hd.2.stored ho hb⟩) (fun hne => ?_)
      try simp only [Value.cells]
      refine wpAnyF_done (by kernel_rfl) (fun Wz hOz hDz => NoPanic.normal ?_) _
      try dsimp only
      obtain ⟨hown2, e2⟩ := hDz
      obtain ⟨q0, q1, _⟩ := e2.two
      obtain ⟨p0, p1, _⟩ := e2.swap.two
      clear c0 c1 r0 r1 hown
      subst hSe
      go_wp2
      refine bodyPost_ret (v := .tuple #[.agg #[.int .i64 a, .int .i64 b], u, .agg #[.int .i64 a2, .int .i64 b2]]) (by simp [results, Try.results20, go_sem, q0, q1, p0, p1]) rfl ?_
      exact ⟨_, _, _, _, _, L, rfl, hL, OwnsP.le hown2 (by omega), e2.out⟩
    · obtain ⟨y0, y1, y2, y3⟩ := dS.two
      obtain ⟨z0, z1, z2, z3⟩ := dS.swap.two
      go_upto_region 6 with (fail)
      go_big_region
      have e2 := (dS.s01 (.int .i64 a) (.int .i64 b)).swap.s01 (.int .i64 X) (.int .i64 Y)
      have hown2 := OwnsP.overLt hown (((((Over.refl [S, S2] wc).setCell (p := ⟨S, 0, none⟩) (.inr (by simp)) (.int .i64 a)).setCell (p := ⟨S, 1, none⟩) (.inr (by simp)) (.int .i64 b)).setCell (p := ⟨S2, 0, none⟩) (.inr (by simp)) (.int .i64 X)).setCell (p := ⟨S2, 1, none⟩) (.inr (by simp)) (.int .i64 Y)) (by simp; omega)
      generalize (World.setCell (World.setCell (World.setCell (World.setCell _ _ _) _ _) _ _) _ _) = w6 at e2 hown2 ⊢
      replace e2 := e2.below (Below.refl _ _).drew
      replace hown2 := OwnsP.below hown2 (Below.refl _ _).drew
      generalize w6.drew = w7 at e2 hown2 ⊢
      obtain ⟨q0, q1, _⟩ := e2.two
      obtain ⟨p0, p1, _⟩ := e2.swap.two
      clear c0 c1 r0 r1 hown y0 y1 y2 y3 z0 z1 z2 z3
      subst hSe
      go_wp2
      refine bodyPost_ret (v := .tuple #[.agg #[.int .i64 a, .int .i64 b], u, .agg #[.int .i64 X, .int .i64 Y]]) (by simp [results, Try.results20, go_sem, q0, q1, p0, p1]) rfl ?_
      exact ⟨_, _, _, _, _, L, rfl, hL, OwnsP.le hown2 (by omega), e2.out⟩
end Go.Proofs.Ytpnpidepkfnofaa
