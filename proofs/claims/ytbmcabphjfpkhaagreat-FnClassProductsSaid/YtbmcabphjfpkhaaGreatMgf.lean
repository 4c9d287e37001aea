/- Several texts joined: PdD StV PdF. -/
import Derived.Test.YtbmcabphjfpkhaaGreatPcM
import Derived.Test.YtbmcabphjfpkhaaGreatDr
import Derived.Test.YtbmcabphjfpkhaaGreatDrawT
import Derived.BigRegion
import Derived.Test.YtbmcabphjfpkhaaGreatChain
/- PdD -/
namespace Go.Proofs.YtbmcabphjfpkhaaGreat
set_option linter.all false
open Go.RowKit

section
variable {B k n : Nat} {v : Value} {xs : List Int} {w0 w : World} {bl : List (Nat × Array Value × TypeId)}
/-- a two-curve, drawn -/
def TwD (B k : Nat) (v : Value) (xs : List Int) (n : Nat) (w0 : World) (bl : List (Nat × Array Value × TypeId)) (e : Ending) (w' : World) : Prop :=
  ∃ a b : Int, e = .returned (.agg #[.int .i64 a, .int .i64 b]) ∧ Dr B k v xs n w0 bl w'
set_option maxHeartbeats 1000000 in
theorem d_twoCurve (d : Dr B k v xs n w0 bl w) (hn : n ≤ 700000) : Calls Tryz.prog 81 #[.pointer (some ⟨k, 0, none⟩)] w (TwD B k v xs (n + 30) w0 bl) := by
  have d1 := d.alloc #[.int .i64 0, .int .i64 0] 38
  go_enter Tryz.func81, Tryz.ntmps81
  go_upto_region 1 with (fail)
  generalize w.alloc _ = W at d1 ⊢
  generalize w.heap.size = S at d1 ⊢
  go_wp2_with fail
  refine (d_pick d1 (by omega) 41 (by omega)).mono ?_
  rintro e w2 ⟨x2, rfl, h2, d2⟩
  go_wp2_with fail
  refine (d_among d2 (by omega) [0, 0, 3, -6, 1, 5, x2 - 20] (by simp)).mono ?_
  rintro e w4 ⟨a, rfl, h4, d4⟩
  go_wp2_with fail
  refine (d_pick d4 (by omega) 61 (by omega)).mono ?_
  rintro e w5 ⟨x5, rfl, h5, d5⟩
  go_wp2_with fail
  refine (d_among d5 (by omega) [-25, -1, 4, 17, -36, 5, x5 - 30] (by simp)).mono ?_
  rintro e w7 ⟨b, rfl, h7, d7⟩
  have d8 := d7.alloc #[.int .i64 a, .int .i64 b] 38
  clear d1 d2 d4 d5
  go_wp2_with fail
  refine (d_one d8 (by omega) 12 (by omega)).mono ?_
  rintro e w9 ⟨q, rfl, d9⟩
  clear d8
  go_upto_if 18 with (fail)
  generalize w7.heap.size = E at d9 ⊢
  go_cut [] from 4 (fun wc => ∃ a b : Int, Dr B k v xs (n + 20) w0 ((E, #[.int .i64 a, .int .i64 b], 38) :: (S, #[.int .i64 0, .int .i64 0], 38) :: bl) wc)
  case first =>
    cases q
    · go_wp2
      go_meet
      case rel => exact ⟨_, _, d9.le (by omega)⟩
    · go_wp2_with fail
      refine (d_among d9 (by omega) [300, -300, 7] (by simp)).mono ?_
      rintro e w2 ⟨x2, rfl, h2, d2⟩
      go_wp2_with fail
      refine (d_among d2 (by omega) [300, -300, 1] (by simp)).mono ?_
      rintro e w3 ⟨x3, rfl, h3, d3⟩
      have c0 := d3.head.cell 0
      have c1 := d3.head.cell 1
      have z0 := d3.head.frozen 0
      have z1 := d3.head.frozen 1
      simp only [List.getElem?_toArray, List.getElem?_cons_zero, List.getElem?_cons_succ] at c0 c1
      go_wp2
      go_meet
      case rel => exact ⟨_, _, ((d3.set 0 _).set 1 _).le (by omega)⟩
  case rest =>
    obtain ⟨a2, b2, d12⟩ := hcut
    clear d9 h4 h7
    have c0 := d12.head.cell 0
    have c1 := d12.head.cell 1
    have y0 := d12.swap.head.cell 0
    have y1 := d12.swap.head.cell 1
    simp only [List.getElem?_toArray, List.getElem?_cons_zero, List.getElem?_cons_succ] at c0 c1 y0 y1
    go_wp2_with fail
    have HG := Lib.hid (fun W => c_tcGood a2 b2 W)
    refine (HG.out _).mono ?_
    rintro e w13 ⟨rfl, hb13⟩
    have d13 := d12.below hb13
    clear d12 c0 c1 y0 y1 HG
    have c0 := d13.head.cell 0
    have c1 := d13.head.cell 1
    have y0 := d13.swap.head.cell 0
    have y1 := d13.swap.head.cell 1
    have z0 := d13.swap.head.frozen 0
    have z1 := d13.swap.head.frozen 1
    simp only [List.getElem?_toArray, List.getElem?_cons_zero, List.getElem?_cons_succ] at c0 c1 y0 y1
    cases hq : tgB a2 b2
    · have d14 := (d13.swap.set 0 (.int .i64 0)).set 1 (.int .i64 (-25))
      go_wp2
      generalize (w13.setCell _ _).setCell _ _ = w14 at d14 ⊢
      have q0 := d14.head.cell 0
      have q1 := d14.head.cell 1
      simp only [List.setIfInBounds_toArray, List.set_cons_zero, List.set_cons_succ, List.getElem?_toArray, List.getElem?_cons_zero, List.getElem?_cons_succ] at q0 q1
      refine bodyPost_ret (v := .agg #[.int .i64 0, .int .i64 (-25)]) (by simp [results, Tryz.results81, go_sem, q0, q1]) rfl ?_
      exact ⟨_, _, rfl, d14.tail.tail.le (by omega)⟩
    · have d14 := (d13.swap.set 0 (.int .i64 a2)).set 1 (.int .i64 b2)
      go_wp2
      generalize (w13.setCell _ _).setCell _ _ = w14 at d14 ⊢
      have q0 := d14.head.cell 0
      have q1 := d14.head.cell 1
      simp only [List.setIfInBounds_toArray, List.set_cons_zero, List.set_cons_succ, List.getElem?_toArray, List.getElem?_cons_zero, List.getElem?_cons_succ] at q0 q1
      refine bodyPost_ret (v := .agg #[.int .i64 a2, .int .i64 b2]) (by simp [results, Tryz.results81, go_sem, q0, q1]) rfl ?_
      exact ⟨_, _, rfl, d14.tail.tail.le (by omega)⟩
set_option maxHeartbeats 1000000 in
theorem d_anyTwoCurve (d : Dr B k v xs n w0 bl w) (hn : n ≤ 700000) : Calls Tryz.prog 68 #[.pointer (some ⟨k, 0, none⟩)] w (TwD B k v xs (n + 40) w0 bl) := by
  have d1 := d.alloc #[.int .i64 0, .int .i64 0] 38
  go_enter Tryz.func68, Tryz.ntmps68
  go_upto_region 1 with (fail)
  generalize w.alloc _ = W at d1 ⊢
  generalize w.heap.size = S at d1 ⊢
  go_wp2_with fail
  refine (d_twoCurve d1 (by omega)).mono ?_
  rintro e w2 ⟨a, b, rfl, d2⟩
  have d3 := d2.alloc #[.int .i64 a, .int .i64 b] 38
  clear d1 d2
  go_wp2_with fail
  generalize w2.alloc _ = w3 at d3 ⊢
  generalize w2.heap.size = E at d3 ⊢
  refine (d_pick d3 (by omega) 30 (by omega)).mono ?_
  rintro e w4 ⟨x, rfl, hx, d4⟩
  clear d3
  rcases (by omega : x = 0 ∨ x = 1 ∨ x = 2 ∨ 3 ≤ x) with rfl | rfl | rfl | h3
  · go_wp2_with fail
    refine (d_among d4 (by omega) [301, -301, -9223372036854775808] (by simp)).mono ?_
    rintro e w5 ⟨y, rfl, hy, d5⟩
    have f0 := d5.head.frozen 0
    have e0 := d5.head.cell 0
    simp only [List.getElem?_toArray, List.getElem?_cons_zero] at e0
    have d9 := d5.set 0 (.int .i64 y)
    clear d4
    go_upto_region 9 with (fail)
    generalize World.setCell w5 _ _ = w9 at d9 ⊢
    clear f0 e0 d5
    simp only [List.setIfInBounds_toArray, List.set_cons_zero, List.set_cons_succ] at d9
    have y0 := d9.swap.head.cell 0
    have y1 := d9.swap.head.cell 1
    have z0 := d9.swap.head.frozen 0
    have z1 := d9.swap.head.frozen 1
    have c0 := d9.head.cell 0
    have c1 := d9.head.cell 1
    simp only [List.setIfInBounds_toArray, List.set_cons_zero, List.set_cons_succ, List.getElem?_toArray, List.getElem?_cons_zero, List.getElem?_cons_succ] at c0 c1 y0 y1
    have d14 := (d9.swap.set 0 (.int .i64 y)).set 1 (.int .i64 b)
    go_wp2
    generalize World.setCell (World.setCell _ _ _) _ _ = w14 at d14 ⊢
    have q0 := d14.head.cell 0
    have q1 := d14.head.cell 1
    simp only [List.setIfInBounds_toArray, List.set_cons_zero, List.set_cons_succ, List.getElem?_toArray, List.getElem?_cons_zero, List.getElem?_cons_succ] at q0 q1
    refine bodyPost_ret (v := .agg #[.int .i64 y, .int .i64 b]) (by simp [results, Tryz.results68, go_sem, q0, q1]) rfl ?_
    exact ⟨_, _, rfl, d14.tail.tail.le (by omega)⟩
  · go_wp2_with fail
    refine (d_among d4 (by omega) [0, 301, -301, -9223372036854775808] (by simp)).mono ?_
    rintro e w5 ⟨y, rfl, hy, d5⟩
    have f0 := d5.head.frozen 1
    have e0 := d5.head.cell 1
    simp only [List.getElem?_toArray, List.getElem?_cons_zero, List.getElem?_cons_succ] at e0
    have d9 := d5.set 1 (.int .i64 y)
    clear d4
    go_upto_region 9 with (fail)
    generalize World.setCell w5 _ _ = w9 at d9 ⊢
    clear f0 e0 d5
    simp only [List.setIfInBounds_toArray, List.set_cons_zero, List.set_cons_succ] at d9
    have y0 := d9.swap.head.cell 0
    have y1 := d9.swap.head.cell 1
    have z0 := d9.swap.head.frozen 0
    have z1 := d9.swap.head.frozen 1
    have c0 := d9.head.cell 0
    have c1 := d9.head.cell 1
    simp only [List.setIfInBounds_toArray, List.set_cons_zero, List.set_cons_succ, List.getElem?_toArray, List.getElem?_cons_zero, List.getElem?_cons_succ] at c0 c1 y0 y1
    have d14 := (d9.swap.set 0 (.int .i64 a)).set 1 (.int .i64 y)
    go_wp2
    generalize World.setCell (World.setCell _ _ _) _ _ = w14 at d14 ⊢
    have q0 := d14.head.cell 0
    have q1 := d14.head.cell 1
    simp only [List.setIfInBounds_toArray, List.set_cons_zero, List.set_cons_succ, List.getElem?_toArray, List.getElem?_cons_zero, List.getElem?_cons_succ] at q0 q1
    refine bodyPost_ret (v := .agg #[.int .i64 a, .int .i64 y]) (by simp [results, Tryz.results68, go_sem, q0, q1]) rfl ?_
    exact ⟨_, _, rfl, d14.tail.tail.le (by omega)⟩
  · have f0 := d4.head.frozen 0
    have f1 := d4.head.frozen 1
    have e0 := d4.head.cell 0
    have e1 := d4.head.cell 1
    simp only [List.getElem?_toArray, List.getElem?_cons_zero, List.getElem?_cons_succ] at e0 e1
    have d9 := (d4.set 0 (.int .i64 4)).set 1 (.int .i64 4)
    go_upto_region 9 with (fail)
    generalize World.setCell (World.setCell w4 _ _) _ _ = w9 at d9 ⊢
    clear f0 e0 f1 e1 d4
    simp only [List.setIfInBounds_toArray, List.set_cons_zero, List.set_cons_succ] at d9
    have y0 := d9.swap.head.cell 0
    have y1 := d9.swap.head.cell 1
    have z0 := d9.swap.head.frozen 0
    have z1 := d9.swap.head.frozen 1
    have c0 := d9.head.cell 0
    have c1 := d9.head.cell 1
    simp only [List.setIfInBounds_toArray, List.set_cons_zero, List.set_cons_succ, List.getElem?_toArray, List.getElem?_cons_zero, List.getElem?_cons_succ] at c0 c1 y0 y1
    have d14 := (d9.swap.set 0 (.int .i64 4)).set 1 (.int .i64 4)
    go_wp2
    generalize World.setCell (World.setCell _ _ _) _ _ = w14 at d14 ⊢
    have q0 := d14.head.cell 0
    have q1 := d14.head.cell 1
    simp only [List.setIfInBounds_toArray, List.set_cons_zero, List.set_cons_succ, List.getElem?_toArray, List.getElem?_cons_zero, List.getElem?_cons_succ] at q0 q1
    refine bodyPost_ret (v := .agg #[.int .i64 4, .int .i64 4]) (by simp [results, Tryz.results68, go_sem, q0, q1]) rfl ?_
    exact ⟨_, _, rfl, d14.tail.tail.le (by omega)⟩
  · have x0 : (x == 0) = false := by simp; omega
    have x1 : (x == 1) = false := by simp; omega
    have x2 : (x == 2) = false := by simp; omega
    have d9 := d4
    clear d4
    have y0 := d9.swap.head.cell 0
    have y1 := d9.swap.head.cell 1
    have z0 := d9.swap.head.frozen 0
    have z1 := d9.swap.head.frozen 1
    have c0 := d9.head.cell 0
    have c1 := d9.head.cell 1
    simp only [List.setIfInBounds_toArray, List.set_cons_zero, List.set_cons_succ, List.getElem?_toArray, List.getElem?_cons_zero, List.getElem?_cons_succ] at c0 c1 y0 y1
    have d14 := (d9.swap.set 0 (.int .i64 a)).set 1 (.int .i64 b)
    go_wp2
    generalize World.setCell (World.setCell _ _ _) _ _ = w14 at d14 ⊢
    have q0 := d14.head.cell 0
    have q1 := d14.head.cell 1
    simp only [List.setIfInBounds_toArray, List.set_cons_zero, List.set_cons_succ, List.getElem?_toArray, List.getElem?_cons_zero, List.getElem?_cons_succ] at q0 q1
    refine bodyPost_ret (v := .agg #[.int .i64 a, .int .i64 b]) (by simp [results, Tryz.results68, go_sem, q0, q1]) rfl ?_
    exact ⟨_, _, rfl, d14.tail.tail.le (by omega)⟩
/-- a two-curve and a side, drawn -/
def SdD (B k : Nat) (v : Value) (xs : List Int) (n : Nat) (w0 : World) (bl : List (Nat × Array Value × TypeId)) (e : Ending) (w' : World) : Prop :=
  ∃ (a b : Int) (s : Bool), e = .returned (.tuple #[.agg #[.int .i64 a, .int .i64 b], .bool s]) ∧ Dr B k v xs n w0 bl w'
set_option maxHeartbeats 1000000 in
theorem d_sided (d : Dr B k v xs n w0 bl w) (hn : n ≤ 600000) : Calls Tryz.prog 39 #[.pointer (some ⟨k, 0, none⟩)] w (SdD B k v xs (n + 60) w0 bl) := by
  have d1 := d.alloc #[.int .i64 0, .int .i64 0] 38
  go_enter Tryz.func39, Tryz.ntmps39
  go_upto_region 1 with (fail)
  generalize w.alloc _ = W at d1 ⊢
  generalize w.heap.size = S at d1 ⊢
  go_wp2_with fail
  refine (d_one d1 (by omega) 2 (by omega)).mono ?_
  rintro e w2 ⟨s, rfl, d2⟩
  go_wp2_with fail
  refine (d_one d2 (by omega) 5 (by omega)).mono ?_
  rintro e w3 ⟨q, rfl, d3⟩
  clear d1 d2
  cases q
  · go_wp2_with fail
    refine (d_pick d3 (by omega) 21 (by omega)).mono ?_
    rintro e w4 ⟨x2, rfl, h2, d4⟩
    go_wp2_with fail
    refine (d_among d4 (by omega) [0, 0, 0, 1, -2, 3, x2 - 10] (by simp)).mono ?_
    rintro e w5 ⟨a, rfl, h4, d5⟩
    go_wp2_with fail
    refine (d_pick d5 (by omega) 41 (by omega)).mono ?_
    rintro e w6 ⟨x5, rfl, h5, d6⟩
    go_wp2_with fail
    refine (d_among d6 (by omega) [-25, -1, 4, 17, -36, 5, -49, x5 - 20] (by simp)).mono ?_
    rintro e w7 ⟨b, rfl, h7, d7⟩
    have d12 := d7.alloc #[.int .i64 a, .int .i64 b] 38
    clear d3 d4 d5 d6
    go_upto_region 5 with (fail)
    generalize w7.alloc _ = w12 at d12 ⊢
    generalize w7.heap.size = E at d12 ⊢
    have c0 := d12.head.cell 0
    have c1 := d12.head.cell 1
    simp only [List.getElem?_toArray, List.getElem?_cons_zero, List.getElem?_cons_succ] at c0 c1
    go_wp2_with fail
    have HG := Lib.hid (fun W => c_tcGood a b W)
    refine (HG.out _).mono ?_
    rintro e w13 ⟨rfl, hb13⟩
    have d13 := d12.below hb13
    clear d12 c0 c1 HG
    have c0 := d13.head.cell 0
    have c1 := d13.head.cell 1
    have y0 := d13.swap.head.cell 0
    have y1 := d13.swap.head.cell 1
    have z0 := d13.swap.head.frozen 0
    have z1 := d13.swap.head.frozen 1
    simp only [List.getElem?_toArray, List.getElem?_cons_zero, List.getElem?_cons_succ] at c0 c1 y0 y1
    cases hq : tgB a b
    · have d14 := (d13.swap.set 0 (.int .i64 0)).set 1 (.int .i64 (-25))
      go_wp2
      generalize (w13.setCell _ _).setCell _ _ = w14 at d14 ⊢
      have q0 := d14.head.cell 0
      have q1 := d14.head.cell 1
      simp only [List.setIfInBounds_toArray, List.set_cons_zero, List.set_cons_succ, List.getElem?_toArray, List.getElem?_cons_zero, List.getElem?_cons_succ] at q0 q1
      refine bodyPost_ret (v := .tuple #[.agg #[.int .i64 0, .int .i64 (-25)], .bool s]) (by simp [results, Tryz.results39, go_sem, q0, q1]) rfl ?_
      exact ⟨_, _, _, rfl, d14.tail.tail.le (by omega)⟩
    · have d14 := (d13.swap.set 0 (.int .i64 a)).set 1 (.int .i64 b)
      go_wp2
      generalize (w13.setCell _ _).setCell _ _ = w14 at d14 ⊢
      have q0 := d14.head.cell 0
      have q1 := d14.head.cell 1
      simp only [List.setIfInBounds_toArray, List.set_cons_zero, List.set_cons_succ, List.getElem?_toArray, List.getElem?_cons_zero, List.getElem?_cons_succ] at q0 q1
      refine bodyPost_ret (v := .tuple #[.agg #[.int .i64 a, .int .i64 b], .bool s]) (by simp [results, Tryz.results39, go_sem, q0, q1]) rfl ?_
      exact ⟨_, _, _, rfl, d14.tail.tail.le (by omega)⟩
  · go_wp2_with fail
    refine (d_anyTwoCurve d3 (by omega)).mono ?_
    rintro e w4 ⟨a, b, rfl, d4⟩
    have y0 := d4.head.cell 0
    have y1 := d4.head.cell 1
    have z0 := d4.head.frozen 0
    have z1 := d4.head.frozen 1
    simp only [List.getElem?_toArray, List.getElem?_cons_zero, List.getElem?_cons_succ] at y0 y1
    have d14 := (d4.set 0 (.int .i64 a)).set 1 (.int .i64 b)
    clear d3
    go_wp2
    generalize (w4.setCell _ _).setCell _ _ = w14 at d14 ⊢
    have q0 := d14.head.cell 0
    have q1 := d14.head.cell 1
    simp only [List.setIfInBounds_toArray, List.set_cons_zero, List.set_cons_succ, List.getElem?_toArray, List.getElem?_cons_zero, List.getElem?_cons_succ] at q0 q1
    refine bodyPost_ret (v := .tuple #[.agg #[.int .i64 a, .int .i64 b], .bool s]) (by simp [results, Tryz.results39, go_sem, q0, q1]) rfl ?_
    exact ⟨_, _, _, rfl, d14.tail.le (by omega)⟩
end
end Go.Proofs.YtbmcabphjfpkhaaGreat

/- StV -/
namespace Go.Proofs.YtbmcabphjfpkhaaGreat
open Go.RowKit

section
variable {P : Program} {ops : Array Oper} {Q : Exit → Act → World → Prop} {ex : List Nat} {W : World} {D : World → Prop}
/-- an operation that leaves a value and a world, both known up to a predicate -/
theorem stepV {a : Act} {listed : Array Bool} {f i : Nat} {o : Oper} (dd : Option Tmp) (D' : Value → World → Prop) (ho : ops[i]? = some o) (hw : Region.wanted o (yielded ops a.tmps) = true)
    (hdd : o.dst = dd) (hD' : ∀ v, Closed (D' v))
    (hrun : ∀ w, Over ex W w → D w → ∃ v w', (execOp a.eval o).run P w = .ok (.value v) w' ∧ Over ex W w' ∧ D' v w')
    (h : ∀ v, (∃ w, Over ex W w ∧ D' v w) → wpAnyF P ops Q ex W (fun _ => false) f (listed.setIfInBounds i true) (a.put dd v) (fun _ => True) (D' v)) :
    StepF P ops Q ex W (fun _ => false) f listed a (fun _ => True) D i := fun w hO hd => by
  unfold wpOp
  simp only [ho, hw, if_true]
  refine .inl ?_
  obtain ⟨v, w', h1, h2, h3⟩ := hrun w hO hd
  unfold Oper.wp
  rw [h1]
  simp only [Oper.upon]
  rw [hdd]
  exact ⟨fun _ => True, D' v, hD' v, fun _ _ => trivial, fun _ => rfl, h2, h3, h v ⟨w', h2, h3⟩⟩
end
end Go.Proofs.YtbmcabphjfpkhaaGreat

/- PdF -/
namespace Go.Proofs.YtbmcabphjfpkhaaGreat
set_option linter.all false
open Go.RowKit

/-- a list of numbers just laid -/
def NewL (B k : Nat) (y : Value) (L : List Int) (w : World) : Prop := ∃ r, y = .slice (some ⟨r, 0, none⟩) L.length L.length ∧ (B ≤ r ∧ k < r) ∧ Blk r (L.map (Value.int .i64)).toArray 3 w
theorem NewL.closed (B k : Nat) (y : Value) (L : List Int) : Closed (NewL B k y L) := fun _ _ ⟨r, h1, h2, h3⟩ hb => ⟨r, h1, h2, h3.next hb⟩
theorem d_amongAt {B k n r : Nat} {v : Value} {xs : List Int} {w0 w : World} {bl : List (Nat × Array Value × TypeId)} (d : Dr B k v xs n w0 bl w) (hn : n ≤ 900000) (L : List Int) (hL : 1 ≤ L.length ∧ L.length ≤ 200) (hl : NewL B k (.slice (some ⟨r, 0, none⟩) L.length L.length) L w) :
    Calls Tryz.prog 32 #[.pointer (some ⟨k, 0, none⟩), .slice (some ⟨r, 0, none⟩) L.length L.length] w fun e w' => ∃ b : Int, e = .returned (.int .i64 b) ∧ b ∈ L ∧ Over [k] w w' ∧ Dr B k v xs (n + 2) w0 bl w' := by
  obtain ⟨r', e, h1, h2⟩ := hl
  injection e with e _ _
  injection e with e
  injection e with e
  subst e
  exact (c_among B k v xs n hn L hL r (by omega) _ d.cur h2).mono fun _ _ ⟨b, h1, h2, h4, h5⟩ => ⟨b, h2, h1, h5, d.go h4 h5⟩
/-- a two-curve, a side and a bound, drawn by a function -/
def FoundP (w : World) (e : Ending) (w' : World) : Prop :=
  ∃ (a b n : Int) (s : Bool), e = .returned (.tuple #[.agg #[.int .i64 a, .int .i64 b], .bool s, .int .i64 n]) ∧ (0 ≤ n ∧ n ≤ 61) ∧ Below w.heap.size w w'
set_option maxHeartbeats 2000000 in
theorem d_drawFound (v : Value) (xs : List Int) (w : World) (h : RdB w w.heap.size v xs) : Calls Tryz.prog 17 #[v] w (FoundP w) := by
  have d1 := Dr.make1 h #[.int .i64 0, .int .i64 0] 38
  obtain ⟨a0, cap, rfl, _⟩ := h
  go_enter Tryz.func17, Tryz.ntmps17
  go_wp2_with fail
  generalize (w.alloc _).alloc _ = W0 at d1 ⊢
  generalize hk : w.heap.size + 1 = k at d1 ⊢
  have hlk : w.heap.size ≤ k := by omega
  refine (d_sided d1 (by omega)).mono ?_
  rintro e w2 ⟨a1, b1, s, rfl, d2⟩
  have d3 := d2.alloc #[.int .i64 a1, .int .i64 b1] 38
  clear d1 d2
  go_upto_region 3 with (fail)
  have hS : w.heap.size ≤ w.heap.size := Nat.le_refl _
  generalize w2.alloc _ = wc at d3 ⊢
  generalize w2.heap.size = E at d3 ⊢
  generalize hSe : w.heap.size = S at d3 ⊢
  have hl := d3.head.lt
  have hl2 := d3.swap.head.lt
  have hkl := d3.cur.2.1
  have hEk : E ∉ [k, S] := by
    have h1 := (d3.far _ (List.mem_cons_self ..)).1
    have h2 := (List.pairwise_cons.1 d3.dif).1 _ (List.mem_cons_self ..)
    simp only at h1 h2
    simp [h1, h2]
  obtain ⟨c0, c1, _, _⟩ := d3.two
  have dT := d3.le (m := 400) (by omega)
  refine wp_region_cls [k, S] (fun _ => false) (fun _ => True) (Dr S k (.slice a0 xs.length cap) xs 400 w [(S, #[.int .i64 0, .int .i64 0], 38)]) (by kernel_rfl) (dT.tail.below (Below.refl _ _).drew) ?_
  apply wpAnyF_hd ⟨wc.drew, (Over.refl _ _).drew, dT.tail.below (Below.refl _ _).drew⟩ [true, true, true, true] 7 (fun _ _ h hb => h.below hb) (fun _ _ => trivial) (by kernel_rfl) (by kernel_rfl) (by kernel_rfl) (by kernel_rfl) (by simp)
  · intro E hE hEN hEn; (repeat (first | (refine wpHL_take ?_; go_big_quiet_step (fail); refine wpQuiet_nil ?_) | refine wpHL_skip ?_)); exact wpHL_end rfl
  refine wpAnyF_ready [4] 6 (by kernel_rfl) (by kernel_rfl) (by simp) (AllF.cons ?_ AllF.nil)
  refine stepV (some 20) (fun y4 => fun w' => NewL S k y4 [0, 61] w' ∧ Dr S k (.slice a0 xs.length cap) xs 400 w [(S, #[.int .i64 0, .int .i64 0], 38)] w') (by rfl) (by rfl) (by rfl) (fun y4 => (NewL.closed _ _ _ _).and (fun _ _ h hb => h.below hb)) (fun w' hO hD => ⟨.slice (some ⟨w'.heap.size, 0, none⟩) 2 2, w'.alloc (.cells #[.int .i64 0, .int .i64 61] 3), by go_simp, hO.alloc _, ⟨w'.heap.size, rfl, by have := hO.size; omega, Blk.new w' _ _⟩, hD.skip _⟩) (fun y4 hne => ?_)
  simp only [Act.put, List.setIfInBounds_toArray, List.set_cons_succ, List.set_cons_zero]
  obtain ⟨w4', hO4, ⟨r4, rfl, hr4, _⟩, _⟩ := id hne
  refine wpAnyF_ready [5] 5 (by kernel_rfl) (by kernel_rfl) (by simp) (AllF.cons ?_ AllF.nil)
  refine stepC_calle (some 21) (fun y5 => fun w' => (∃ m : Int, y5 = .int .i64 m ∧ 0 ≤ m ∧ m ≤ 61) ∧ Dr S k (.slice a0 xs.length cap) xs 402 w [(S, #[.int .i64 0, .int .i64 0], 38)] w') (by rfl) (by rfl) (by rfl) (fun _ => by go_simp) (fun y5 => fun _ _ h hb => ⟨h.1, h.2.below hb⟩) (fun w' hO hD => (d_amongAt hD.2 (by omega) [0, 61] (by simp) hD.1).mono fun e w2 ⟨b, h1, h2, h3, h4⟩ => ⟨.int .i64 b, h1, h3.sub (by simp), ⟨b, rfl, by simp at h2; omega⟩, h4⟩) (fun y5 hne => ?_)
  simp only [Act.put, List.setIfInBounds_toArray, List.set_cons_succ, List.set_cons_zero]
  obtain ⟨w5', hO5, ⟨m, rfl, hm⟩, _⟩ := id hne
  refine wpAnyF_ready [6] 4 (by kernel_rfl) (by kernel_rfl) (by simp) (AllF.cons ?_ AllF.nil)
  refine stepV (some 22) (fun y6 => fun w' => NewL S k y6 [1, 2, 5, 12, 20, 60, m] w' ∧ Dr S k (.slice a0 xs.length cap) xs 402 w [(S, #[.int .i64 0, .int .i64 0], 38)] w') (by rfl) (by rfl) (by rfl) (fun y6 => (NewL.closed _ _ _ _).and (fun _ _ h hb => h.below hb)) (fun w' hO hD => ⟨.slice (some ⟨w'.heap.size, 0, none⟩) 7 7, w'.alloc (.cells #[.int .i64 1, .int .i64 2, .int .i64 5, .int .i64 12, .int .i64 20, .int .i64 60, .int .i64 m] 3), by go_simp, hO.alloc _, ⟨w'.heap.size, rfl, by have := hO.size; omega, Blk.new w' _ _⟩, hD.2.skip _⟩) (fun y6 hne => ?_)
  simp only [Act.put, List.setIfInBounds_toArray, List.set_cons_succ, List.set_cons_zero]
  obtain ⟨w6', hO6, ⟨r6, rfl, hr6, _⟩, _⟩ := id hne
  refine wpAnyF_ready [7] 3 (by kernel_rfl) (by kernel_rfl) (by simp) (AllF.cons ?_ AllF.nil)
  refine stepC_calle (some 23) (fun y => fun w' => (∃ m : Int, y = .int .i64 m ∧ 0 ≤ m ∧ m ≤ 61) ∧ Dr S k (.slice a0 xs.length cap) xs 404 w [(S, #[.int .i64 0, .int .i64 0], 38)] w') (by rfl) (by rfl) (by rfl) (fun _ => by go_simp) (fun y => fun _ _ h hb => ⟨h.1, h.2.below hb⟩) (fun w' hO hD => (d_amongAt hD.2 (by omega) [1, 2, 5, 12, 20, 60, m] (by simp) hD.1).mono fun e w2 ⟨b, h1, h2, h3, h4⟩ => ⟨.int .i64 b, h1, h3.sub (by simp), ⟨b, rfl, by simp at h2; omega⟩, h4⟩) (fun y hne => ?_)
  simp only [Act.put, List.setIfInBounds_toArray, List.set_cons_succ, List.set_cons_zero]
  refine wpAnyF_ready [8] 2 (by kernel_rfl) (by kernel_rfl) (by simp) (AllF.cons ?_ AllF.nil)
  refine stepC_store (v := .agg #[.int .i64 a1, .int .i64 b1]) (S) (#[.int .i64 0, .int .i64 0]) (fun w' => (∃ m : Int, y = .int .i64 m ∧ 0 ≤ m ∧ m ≤ 61) ∧ Dr S k (.slice a0 xs.length cap) xs 404 w [(S, #[.int .i64 a1, .int .i64 b1], 38)] w') (by rfl) (by rfl) (by rfl) (by rfl) (by rfl) (by rfl) (fun _ => by go_simp) (by rfl) (by simp [Value.cells, one1]) (.inr (by simp)) (fun _ hd => hd.2.head) (fun _ _ h hb => ⟨h.1, h.2.below hb⟩) (fun _ _ hd ho hb => ⟨hd.1, hd.2.stored ho hb⟩) (fun hne => ?_)
  try simp only [Value.cells]
  apply wpAnyF_hd hne [false, false, false, false, false, false, false, false, false, true, true] 0 (fun _ _ h hb => ⟨h.1, h.2.below hb⟩) (fun _ _ => trivial) (by kernel_rfl) (by kernel_rfl) (by kernel_rfl) (by kernel_rfl) (by simp)
  · intro E hE hEN hEn; (repeat (first | (refine wpHL_take ?_; go_big_quiet_step (fail); refine wpQuiet_nil ?_) | refine wpHL_skip ?_)); exact wpHL_end rfl
  refine wpAnyF_done (by kernel_rfl) (fun Wz hOz hDz => NoPanic.normal ?_) _
  try dsimp only
  obtain ⟨⟨m', rfl, hm'⟩, d5⟩ := hDz
  obtain ⟨q0, q1, _⟩ := d5.two
  subst hSe
  go_wp2
  refine bodyPost_ret (v := .tuple #[.agg #[.int .i64 a1, .int .i64 b1], .bool s, .int .i64 m']) (by simp [results, Tryz.results17, go_sem, q0, q1]) rfl ?_
  exact ⟨_, _, _, _, rfl, hm', d5.out⟩
end Go.Proofs.YtbmcabphjfpkhaaGreat
