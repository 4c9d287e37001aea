/- Walks: what is drawn for the laws of division polynomials. -/
import Derived.Test.YtmlfkceafkhlaaaDrP
import Derived.Test.YtmlfkceafkhlaaaDrawT
namespace Go.Proofs.Ytmlfkceafkhlaaa
open Go.RowKit

section
variable {B k n : Nat} {v : Value} {xs : List Int} {w0 w : World} {bl : List (Nat × Array Value × TypeId)}
theorem c_l1MostD (a b : Int) (w : World) : Calls Try.prog 54 #[.int .i64 a, .int .i64 b] w fun e w' => e = .returned (.int .i64 (if b < a then a else b)) ∧ w' = w := by
  by_cases h : b < a
  · rw [if_pos h]
    go_enter Try.func54, Try.ntmps54
    go_wp2
    go_ret
    exact ⟨rfl, rfl⟩
  · rw [if_neg h]
    go_enter Try.func54, Try.ntmps54
    go_wp2
    go_ret
    exact ⟨rfl, rfl⟩
theorem d_divisionNumber (d : Dr B k v xs n w0 bl w) (hn : n ≤ 800000) : Calls Try.prog 28 #[.pointer (some ⟨k, 0, none⟩)] w (NumD B k v xs (n + 4) w0 bl 0 41) := by
  go_enter Try.func28, Try.ntmps28
  go_wp2_with fail
  refine (d_among d (by omega) [0, 41] (by simp)).mono ?_
  rintro e w2 ⟨x, rfl, hx, d2⟩
  go_wp2_with fail
  refine (d_among d2 (by omega) [1, 2, 3, 4, 5, 6, 7, 8, 9, 12, 13, 40, x] (by simp)).mono ?_
  rintro e w4 ⟨y, rfl, hy, d4⟩
  have hx' : 0 ≤ x ∧ x ≤ 41 := by simp at hx; omega
  have hy' : 0 ≤ y ∧ y ≤ 41 := by simp at hy; omega
  go_wp2
  go_ret
  exact ⟨y, rfl, hy', d4⟩
/-- a curve, a number and a residue, drawn -/
def DividedD (B k : Nat) (v : Value) (xs : List Int) (n : Nat) (w0 : World) (bl : List (Nat × Array Value × TypeId)) (e : Ending) (w' : World) : Prop :=
  ∃ a b p x : Int, e = .returned (.tuple #[.agg #[.int .i64 a, .int .i64 b], .int .i64 p, .int .i64 x]) ∧ (In64 a b ∧ (-7 ≤ p ∧ p ≤ 1009) ∧ (-7 ≤ x ∧ x ≤ 1009)) ∧ Dr B k v xs n w0 bl w'
set_option maxHeartbeats 4000000 in
theorem d_divided (d : Dr B k v xs n w0 bl w) (hn : n ≤ 500000) : Calls Try.prog 27 #[.pointer (some ⟨k, 0, none⟩)] w (DividedD B k v xs (n + 200) w0 bl) := by
  have d1 := d.alloc #[.int .i64 0, .int .i64 0] 24
  go_enter Try.func27, Try.ntmps27
  go_upto_region 1 with (fail)
  generalize w.alloc _ = W at d1 ⊢
  generalize w.heap.size = S at d1 ⊢
  go_wp2_with fail
  refine (d_curve d1 (by omega)).mono ?_
  rintro e w2 ⟨a, b, rfl, hab, d2⟩
  have d3 := d2.alloc #[.int .i64 a, .int .i64 b] 24
  have hi := in64_of hab
  clear d1 d2 hab
  go_wp2_with fail
  generalize w2.alloc _ = W3 at d3 ⊢
  generalize w2.heap.size = E at d3 ⊢
  refine (d_one d3 (by omega) 3 (by omega)).mono ?_
  rintro e w4 ⟨q, rfl, d4⟩
  clear d3
  go_upto_if 11 with (fail)
  go_cut [] from 8 (fun wc => ∃ a b : Int, In64 a b ∧ Dr B k v xs (n + 60) w0 ((E, #[.int .i64 a, .int .i64 b], 24) :: (S, #[.int .i64 0, .int .i64 0], 24) :: bl) wc)
  case first =>
    cases q
    · go_wp2
      go_meet
      case rel => exact ⟨a, b, hi, d4.le (by omega)⟩
    · go_wp2_with fail
      refine (d_pointed d4 (by omega)).mono ?_
      rintro e w5 ⟨a5, b5, x5, y5, rfl, ⟨h5, _, _⟩, d5⟩
      obtain ⟨c0, c1, z0, z1⟩ := d5.two
      have d6 := d5.s01 (.int .i64 a5) (.int .i64 b5)
      go_wp2
      go_meet
      case rel => exact ⟨a5, b5, in64_of h5, d6.le (by omega)⟩
  case rest =>
    obtain ⟨a1, b1, hi1, d5⟩ := hcut
    clear d4 hi
    go_wp2_with fail
    refine (d_primeOf d5 (by omega)).mono ?_
    rintro e w6 ⟨p0, rfl, hp0, d6⟩
    go_wp2_with fail
    refine (d_among d6 (by omega) [5, 7, 11, 13, 17, 31, 97, p0] (by simp)).mono ?_
    rintro e w7 ⟨p, rfl, hp, d7⟩
    replace hp : -7 ≤ p ∧ p ≤ 1009 := by simp at hp; omega
    clear d5 d6 hp0
    go_wp2_with fail
    refine (c_l1MostD 1 p _).mono ?_
    rintro e w8 ⟨rfl, rfl⟩
    have hm : 1 ≤ (if p < 1 then 1 else p) ∧ (if p < 1 then 1 else p) ≤ 1009 := by split <;> omega
    generalize (if p < 1 then 1 else p) = m at hm ⊢
    go_wp2_with fail
    refine (d_pick d7 (by omega) m (by omega)).mono ?_
    rintro e w9 ⟨x, rfl, hx, d9⟩
    replace hx : -7 ≤ x ∧ x ≤ 1009 := by split at hx <;> omega
    clear d7 hm
    go_wp2_with fail
    refine (d_pick d9 (by omega) 24 (by omega)).mono ?_
    rintro e w10 ⟨j, rfl, hj, d10⟩
    clear d9
    by_cases h0 : j = 0
    · subst h0
      go_wp2_with fail
      refine (d_among d10 (by omega) [-1, p] (by simp)).mono ?_
      rintro e w11 ⟨y, rfl, hy, d11⟩
      replace hy : -7 ≤ y ∧ y ≤ 1009 := by simp at hy; omega
      obtain ⟨c0, c1, _, _⟩ := d11.two
      obtain ⟨y0, y1, y2, y3⟩ := d11.swap.two
      have e2 := d11.swap.s01 (.int .i64 a1) (.int .i64 b1)
      go_wp2
      generalize (World.setCell (World.setCell _ _ _) _ _) = w6 at e2 ⊢
      obtain ⟨q0, q1, _⟩ := e2.two
      refine bodyPost_ret (v := .tuple #[.agg #[.int .i64 a1, .int .i64 b1], .int .i64 p, .int .i64 y]) (by simp [results, Try.results27, go_sem, q0, q1]) rfl ?_
      exact ⟨_, _, _, _, rfl, ⟨hi1, hp, hy⟩, e2.tail.tail.le (by omega)⟩
    · by_cases h1 : j = 1
      · subst h1
        go_wp2_with fail
        refine (d_anyCurve d10 (by omega)).mono ?_
        rintro e w11 ⟨a2, b2, rfl, hi2, d11⟩
        obtain ⟨z0, z1, z2, z3⟩ := d11.two
        have d12 := d11.s01 (.int .i64 a2) (.int .i64 b2)
        go_upto_region 11 with (fail)
        generalize (w11.setCell _ _).setCell _ _ = W6 at d12 ⊢
        obtain ⟨c0, c1, _, _⟩ := d12.two
        obtain ⟨y0, y1, y2, y3⟩ := d12.swap.two
        have e2 := d12.swap.s01 (.int .i64 a2) (.int .i64 b2)
        go_wp2
        generalize (World.setCell (World.setCell _ _ _) _ _) = w6 at e2 ⊢
        obtain ⟨q0, q1, _⟩ := e2.two
        refine bodyPost_ret (v := .tuple #[.agg #[.int .i64 a2, .int .i64 b2], .int .i64 p, .int .i64 x]) (by simp [results, Try.results27, go_sem, q0, q1]) rfl ?_
        exact ⟨_, _, _, _, rfl, ⟨hi2, hp, hx⟩, e2.tail.tail.le (by omega)⟩
      · obtain ⟨c0, c1, _, _⟩ := d10.two
        obtain ⟨y0, y1, y2, y3⟩ := d10.swap.two
        have e2 := d10.swap.s01 (.int .i64 a1) (.int .i64 b1)
        go_wp2
        generalize (World.setCell (World.setCell _ _ _) _ _) = w6 at e2 ⊢
        obtain ⟨q0, q1, _⟩ := e2.two
        refine bodyPost_ret (v := .tuple #[.agg #[.int .i64 a1, .int .i64 b1], .int .i64 p, .int .i64 x]) (by simp [results, Try.results27, go_sem, q0, q1]) rfl ?_
        exact ⟨_, _, _, _, rfl, ⟨hi1, hp, hx⟩, e2.tail.tail.le (by omega)⟩
/-- a curve, a number and a residue, drawn by a function -/
def DividedP (w : World) (e : Ending) (w' : World) : Prop :=
  ∃ a b p x : Int, e = .returned (.tuple #[.agg #[.int .i64 a, .int .i64 b], .int .i64 p, .int .i64 x]) ∧ (In64 a b ∧ (-7 ≤ p ∧ p ≤ 1009) ∧ (-7 ≤ x ∧ x ≤ 1009)) ∧ Below w.heap.size w w'
theorem d_drawOrder (v : Value) (xs : List Int) (w : World) (h : RdB w w.heap.size v xs) : Calls Try.prog 8 #[v] w (DividedP w) := by
  have d1 := Dr.make1 h #[.int .i64 0, .int .i64 0] 24
  obtain ⟨a0, cap, rfl, _⟩ := h
  go_enter Try.func8, Try.ntmps8
  go_wp2_with fail
  generalize (w.alloc _).alloc _ = W at d1 ⊢
  generalize hk : w.heap.size + 1 = k at d1 ⊢
  have hlk : w.heap.size ≤ k := by omega
  refine (d_divided d1 (by omega)).mono ?_
  rintro e w2 ⟨a, b, p, x, rfl, hh, d2⟩
  clear d1
  obtain ⟨c0, c1, z0, z1⟩ := d2.two
  have d3 := d2.s01 (.int .i64 a) (.int .i64 b)
  go_wp2
  generalize (w2.setCell _ _).setCell _ _ = w3 at d3 ⊢
  obtain ⟨q0, q1, _⟩ := d3.two
  refine bodyPost_ret (v := .tuple #[.agg #[.int .i64 a, .int .i64 b], .int .i64 p, .int .i64 x]) (by simp [results, Try.results8, go_sem, q0, q1]) rfl ?_
  exact ⟨_, _, _, _, rfl, hh, d3.out⟩
/-- a curve and two numbers, drawn by a function -/
def RootsP (w : World) (e : Ending) (w' : World) : Prop :=
  ∃ a b p n : Int, e = .returned (.tuple #[.agg #[.int .i64 a, .int .i64 b], .int .i64 p, .int .i64 n]) ∧ (In64 a b ∧ (-7 ≤ p ∧ p ≤ 1009) ∧ (0 ≤ n ∧ n ≤ 41)) ∧ Below w.heap.size w w'
set_option maxHeartbeats 1000000 in
theorem d_drawRoots (v : Value) (xs : List Int) (w : World) (h : RdB w w.heap.size v xs) : Calls Try.prog 5 #[v] w (RootsP w) := by
  have d1 := Dr.make1 h #[.int .i64 0, .int .i64 0] 24
  obtain ⟨a0, cap, rfl, _⟩ := h
  go_enter Try.func5, Try.ntmps5
  go_wp2_with fail
  generalize (w.alloc _).alloc _ = W0 at d1 ⊢
  generalize hk : w.heap.size + 1 = k at d1 ⊢
  have hlk : w.heap.size ≤ k := by omega
  refine (d_divided d1 (by omega)).mono ?_
  rintro e w2 ⟨a, b, p, x, rfl, ⟨hab, hp, _⟩, d2⟩
  have d3 := d2.alloc #[.int .i64 a, .int .i64 b] 24
  clear d1 d2
  go_upto_region 3 with (fail)
  have hl := d3.head.lt
  have hl2 := d3.swap.head.lt
  generalize w2.alloc _ = W at d3 hl hl2 ⊢
  generalize w2.heap.size = E at d3 hl ⊢
  have hS : w.heap.size ≤ w.heap.size := Nat.le_refl _
  generalize hSe : w.heap.size = S at d3 hl2 ⊢
  have hEk : E ∉ [k, S] := by
    have h1 := (d3.far _ (List.mem_cons_self ..)).1
    have h2 := (List.pairwise_cons.1 d3.dif).1 _ (List.mem_cons_self ..)
    simp only at h1 h2
    simp [h1, h2]
  obtain ⟨c0, c1, _, _⟩ := d3.two
  refine wp_region_cls [k, S] (fun _ => false) (fun _ => True) (Dr S k (.slice a0 xs.length cap) xs 200 w [(S, #[.int .i64 0, .int .i64 0], 24)]) (by kernel_rfl) (d3.tail.below (Below.refl _ _).drew) ?_
  apply wpAnyF_hd ⟨W.drew, (Over.refl _ _).drew, d3.tail.below (Below.refl _ _).drew⟩ [true, true, true] 4 (fun _ _ h hb => h.below hb) (fun _ _ => trivial) (by kernel_rfl) (by kernel_rfl) (by kernel_rfl) (by kernel_rfl) (by simp)
  · intro E hE hEN hEn; (repeat (first | (refine wpHL_take ?_; go_big_quiet_step (fail); refine wpQuiet_nil ?_) | refine wpHL_skip ?_)); exact wpHL_end rfl
  refine wpAnyF_ready [3] 3 (by kernel_rfl) (by kernel_rfl) (by simp) (AllF.cons ?_ AllF.nil)
  refine stepC_calle (some 21) (fun y => fun w' => (∃ m : Int, y = .int .i64 m ∧ 0 ≤ m ∧ m ≤ 41) ∧ Dr S k (.slice a0 xs.length cap) xs 204 w [(S, #[.int .i64 0, .int .i64 0], 24)] w') (by rfl) (by rfl) (by rfl) (fun _ => by go_simp) (fun y => fun _ _ h hb => ⟨h.1, h.2.below hb⟩) (fun w' hO hD => (d_divisionNumber (Dr.start hD.cur) (by omega)).mono fun e w2 ⟨m, h1, h2, h3⟩ => ⟨.int .i64 m, h1, h3.ovr.sub (by simp), ⟨m, rfl, h2⟩, hD.go h3.cur h3.ovr⟩) (fun y hne => ?_)
  simp only [Act.put, List.setIfInBounds_toArray, List.set_cons_succ, List.set_cons_zero]
  refine wpAnyF_ready [4] 2 (by kernel_rfl) (by kernel_rfl) (by simp) (AllF.cons ?_ AllF.nil)
  refine stepC_store (v := .agg #[.int .i64 a, .int .i64 b]) (S) (#[.int .i64 0, .int .i64 0]) (fun w' => (∃ m : Int, y = .int .i64 m ∧ 0 ≤ m ∧ m ≤ 41) ∧ Dr S k (.slice a0 xs.length cap) xs 204 w [(S, #[.int .i64 a, .int .i64 b], 24)] w') (by rfl) (by rfl) (by rfl) (by rfl) (by rfl) (by rfl) (fun _ => by go_simp) (by rfl) (by simp [Value.cells, one1]) (.inr (by simp)) (fun _ hd => hd.2.head) (fun _ _ h hb => ⟨h.1, h.2.below hb⟩) (fun _ _ hd ho hb => ⟨hd.1, hd.2.stored ho hb⟩) (fun hne => ?_)
  try simp only [Value.cells]
  apply wpAnyF_hd hne [false, false, false, false, false, true, true] 0 (fun _ _ h hb => ⟨h.1, h.2.below hb⟩) (fun _ _ => trivial) (by kernel_rfl) (by kernel_rfl) (by kernel_rfl) (by kernel_rfl) (by simp)
  · intro E hE hEN hEn; (repeat (first | (refine wpHL_take ?_; go_big_quiet_step (fail); refine wpQuiet_nil ?_) | refine wpHL_skip ?_)); exact wpHL_end rfl
  refine wpAnyF_done (by kernel_rfl) (fun Wz hOz hDz => NoPanic.normal ?_) _
  try dsimp only
  obtain ⟨⟨m, rfl, hm⟩, d5⟩ := hDz
  obtain ⟨q0, q1, _⟩ := d5.two
  subst hSe
  go_wp2
  refine bodyPost_ret (v := .tuple #[.agg #[.int .i64 a, .int .i64 b], .int .i64 p, .int .i64 m]) (by simp [results, Try.results5, go_sem, q0, q1]) rfl ?_
  exact ⟨_, _, _, _, rfl, ⟨hab, hp, hm⟩, d5.out⟩
theorem d_drawDegree (v : Value) (xs : List Int) (w : World) (h : RdB w w.heap.size v xs) : Calls Try.prog 11 #[v] w (OnePost 0 41 w) := by
  have d1 := Dr.make0 h
  obtain ⟨a0, cap, rfl, _⟩ := h
  go_enter Try.func11, Try.ntmps11
  go_wp2_with fail
  refine (d_divisionNumber d1 (by omega)).mono ?_
  rintro e w2 ⟨a, rfl, ha, d2⟩
  go_wp2
  go_ret
  exact ⟨a, rfl, ha.1, ha.2, d2.out⟩
end
end Go.Proofs.Ytmlfkceafkhlaaa
