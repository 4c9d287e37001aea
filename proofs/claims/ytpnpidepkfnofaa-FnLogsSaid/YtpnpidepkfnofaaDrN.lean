/- Walks: what is drawn for the laws of logs. -/
import Derived.Test.YtpnpidepkfnofaaDrM
namespace Go.Proofs.Ytpnpidepkfnofaa
open Go.RowKit

theorem OwnsP.overLt {T : TypeId} {ex : List Nat} {w w1 : World} {base : Nat} {u : Value} {L : List (Int × Int)} (h : OwnsP T w base u L) (ho : Over ex w w1) (hx : ∀ x ∈ ex, x < base) : OwnsP T w1 base u L := by
  refine ⟨h.1, ?_⟩
  rcases h.2 with h0 | ⟨g, cap, cur, hv, hg, hh, r⟩
  · exact .inl h0
  · exact .inr ⟨g, cap, cur, hv, hg, (ho.block g (Array.getElem?_eq_some_iff.1 hh).1 (fun hm => by have := hx g hm; omega)).trans hh, r⟩
theorem LogR.le {T : TypeId} {base base' : Nat} {u : Value} {L : List (Int × Int)} {rl : List (Nat × Array Value × TypeId)} (h : LogR T base u L rl) (hb : base' ≤ base) : LogR T base' u L rl :=
  ⟨fun w hm => OwnsP.le (h.1 w hm) hb, fun b hm => Nat.le_trans hb (h.2 b hm)⟩
/-- a curve and a log, drawn by a function -/
def ReplayD (w : World) (e : Ending) (w' : World) : Prop :=
  ∃ (a b : Int) (u : Value) (L : List (Int × Int)), e = .returned (.tuple #[.agg #[.int .i64 a, .int .i64 b], u]) ∧ In64 a b ∧ L.length ≤ 60 ∧ OwnsS w' w.heap.size u L ∧ Below w.heap.size w w'
set_option maxHeartbeats 1000000 in
theorem d_drawReplay (v : Value) (xs : List Int) (w : World) (h : RdB w w.heap.size v xs) : Calls Try.prog 5 #[v] w (ReplayD w) := by
  have d1 := Dr.make1 h #[.int .i64 0, .int .i64 0] 25
  obtain ⟨a0, cap, rfl, _⟩ := h
  go_enter Try.func5, Try.ntmps5
  go_wp2_with fail
  generalize (w.alloc _).alloc _ = W0 at d1 ⊢
  generalize hk : w.heap.size + 1 = k at d1 ⊢
  have hlk : w.heap.size < k := by omega
  refine (d_twistable d1 (by omega)).mono ?_
  rintro e w2 ⟨a, b, rfl, hab, d2⟩
  have d3 := d2.alloc #[.int .i64 a, .int .i64 b] 25
  clear d1 d2
  go_upto_region 3 with (fail)
  have hl := d3.head.lt
  have hl2 := d3.swap.head.lt
  have hkl := d3.cur.2.1
  have hsz := d3.ovr.size
  generalize w2.alloc _ = W at d3 hl hl2 hkl hsz ⊢
  generalize w2.heap.size = E at d3 hl ⊢
  have hS : w.heap.size ≤ w.heap.size := Nat.le_refl _
  generalize hSe : w.heap.size = S at d3 hl2 hlk ⊢
  have hEk : E ∉ [k, S] := by
    have h1 := (d3.far _ (List.mem_cons_self ..)).1
    have h2 := (List.pairwise_cons.1 d3.dif).1 _ (List.mem_cons_self ..)
    simp only at h1 h2
    simp [h1, h2]
  obtain ⟨c0, c1, _, _⟩ := d3.two
  refine wp_region_cls [k, S] (fun _ => false) (fun _ => True) (Dr S k (.slice a0 xs.length cap) xs 200 w [(S, #[.int .i64 0, .int .i64 0], 25)]) (by kernel_rfl) (d3.tail.le (by omega) |>.below (Below.refl _ _).drew) ?_
  apply wpAnyF_hd ⟨W.drew, (Over.refl _ _).drew, d3.tail.le (by omega) |>.below (Below.refl _ _).drew⟩ [true, true, true] 3 (fun _ _ h hb => h.below hb) (fun _ _ => trivial) (by kernel_rfl) (by kernel_rfl) (by kernel_rfl) (by kernel_rfl) (by simp)
  · intro E hE hEN hEn; (repeat (first | (refine wpHL_take ?_; go_big_quiet_step (fail); refine wpQuiet_nil ?_) | refine wpHL_skip ?_)); exact wpHL_end rfl
  refine wpAnyF_ready [3] 2 (by kernel_rfl) (by kernel_rfl) (by simp) (AllF.cons ?_ AllF.nil)
  refine stepC_calle (some 14) (fun y => fun w' => (∃ L : List (Int × Int), L.length ≤ 60 ∧ OwnsS w' W.heap.size y L) ∧ Dr S k (.slice a0 xs.length cap) xs 2200 w [(S, #[.int .i64 0, .int .i64 0], 25)] w') (by rfl) (by rfl) (by rfl) (fun _ => by go_simp) (fun y => fun _ _ h hb => ⟨h.1.elim fun L q => ⟨L, q.1, OwnsP.below q.2 hb⟩, h.2.below hb⟩) (fun w' hO hD => (d_changes (Dr.start hD.cur) (by omega) a b).mono fun e w2 ⟨u, L, rl, h1, h2, h3, h4⟩ => ⟨u, h1, h4.ovr.sub (by simp), ⟨L, h2, OwnsP.le (h4.owns h3) (by have := hO.size; omega)⟩, hD.go h4.cur h4.ovr⟩) (fun y hne => ?_)
  simp only [Act.put, List.setIfInBounds_toArray, List.set_cons_succ, List.set_cons_zero]
  refine wpAnyF_ready [4] 1 (by kernel_rfl) (by kernel_rfl) (by simp) (AllF.cons ?_ AllF.nil)
  refine stepC_store (v := .agg #[.int .i64 a, .int .i64 b]) (S) (#[.int .i64 0, .int .i64 0]) (fun w' => (∃ L : List (Int × Int), L.length ≤ 60 ∧ OwnsS w' W.heap.size y L) ∧ Dr S k (.slice a0 xs.length cap) xs 2200 w [(S, #[.int .i64 a, .int .i64 b], 25)] w') (by rfl) (by rfl) (by rfl) (by rfl) (by rfl) (by rfl) (fun _ => by go_simp) (by rfl) (by simp [Value.cells, one1]) (.inr (by simp)) (fun _ hd => hd.2.head) (fun _ _ h hb => ⟨h.1.elim fun L q => ⟨L, q.1, OwnsP.below q.2 hb⟩, h.2.below hb⟩) (fun _ _ hd ho hb => ⟨hd.1.elim fun L q => ⟨L, q.1, OwnsP.overLt q.2 ho (by simpa using hl2)⟩, hd.2.stored ho hb⟩) (fun hne => ?_)
  try simp only [Value.cells]
  apply wpAnyF_hd hne [false, false, false, false, false, true] 0 (fun _ _ h hb => ⟨h.1.elim fun L q => ⟨L, q.1, OwnsP.below q.2 hb⟩, h.2.below hb⟩) (fun _ _ => trivial) (by kernel_rfl) (by kernel_rfl) (by kernel_rfl) (by kernel_rfl) (by simp)
  · intro E hE hEN hEn; (repeat (first | (refine wpHL_take ?_; go_big_quiet_step (fail); refine wpQuiet_nil ?_) | refine wpHL_skip ?_)); exact wpHL_end rfl
  refine wpAnyF_done (by kernel_rfl) (fun Wz hOz hDz => NoPanic.normal ?_) _
  try dsimp only
  obtain ⟨⟨L, hL, hown⟩, d5⟩ := hDz
  obtain ⟨q0, q1, _⟩ := d5.two
  subst hSe
  go_wp2
  refine bodyPost_ret (v := .tuple #[.agg #[.int .i64 a, .int .i64 b], y]) (by simp [results, Try.results5, go_sem, q0, q1]) rfl ?_
  exact ⟨_, _, _, L, rfl, hab, hL, OwnsP.le hown (by omega), d5.out⟩
/-- a curve and a step, drawn by a function -/
def ApplyD (w : World) (e : Ending) (w' : World) : Prop :=
  ∃ a b k v : Int, e = .returned (.tuple #[.agg #[.int .i64 a, .int .i64 b], .agg #[.int .i64 k, .int .i64 v]]) ∧ In64 a b ∧ StepIn k v ∧ Below w.heap.size w w'
set_option maxHeartbeats 1000000 in
theorem d_drawApply (v : Value) (xs : List Int) (w : World) (h : RdB w w.heap.size v xs) : Calls Try.prog 22 #[v] w (ApplyD w) := by
  have d1 := Dr.make2 h #[.int .i64 0, .int .i64 0] #[.int .i64 0, .int .i64 0] 25 41
  have n1 : ¬ (w.heap.size + 1 = w.heap.size) := by omega
  have n2 : ¬ (w.heap.size = w.heap.size + 1) := by omega
  obtain ⟨a0, cap, rfl, _⟩ := h
  go_enter Try.func22, Try.ntmps22
  go_wp2_with fail
  generalize ((w.alloc _).alloc _).alloc _ = W0 at d1 ⊢
  generalize hk : w.heap.size + 1 + 1 = k at d1 ⊢
  generalize hS2 : w.heap.size + 1 = S2 at d1 n1 n2 ⊢
  clear hk hS2
  refine (d_twistable d1 (by omega)).mono ?_
  rintro e w2 ⟨a, b, rfl, hab, d2⟩
  go_wp2_with fail
  refine (d_changeStep d2 (by omega)).mono ?_
  rintro e w3 ⟨x, y, rfl, hxy, d3⟩
  clear d1 d2
  obtain ⟨c0, c1, c2, c3⟩ := d3.two
  obtain ⟨z0, z1, z2, z3⟩ := d3.swap.two
  have d4 := (d3.s01 (.int .i64 a) (.int .i64 b)).swap.s01 (.int .i64 x) (.int .i64 y)
  go_wp2
  generalize (World.setCell (World.setCell (World.setCell (World.setCell _ _ _) _ _) _ _) _ _) = w4 at d4 ⊢
  obtain ⟨q0, q1, _⟩ := d4.two
  obtain ⟨r0, r1, _⟩ := d4.swap.two
  refine bodyPost_ret (v := .tuple #[.agg #[.int .i64 a, .int .i64 b], .agg #[.int .i64 x, .int .i64 y]]) (by simp [results, Try.results22, go_sem, q0, q1, r0, r1]) rfl ?_
  exact ⟨_, _, _, _, rfl, hab, hxy, d4.out⟩
end Go.Proofs.Ytpnpidepkfnofaa
