/- Walks: the order of curves: cmp.Compare, cmp.Or, compareCurves. -/
import Derived.Test.YtilgeeaobdebhaaChain
import Derived.Test.YtilgeeaobdebhaaNum
import Derived.StillTailTactics
import Derived.Shelf.SlSortCmp.NoneTotal
namespace Go.Proofs.Ytilgeeaobdebhaa
open Go.RowKit Go.Sort
def cmpI (a b : Int) : Int := if a < b then -1 else if b < a then 1 else 0
def cmpC (x y : Int × Int) : Int := if cmpI x.1 y.1 = 0 then cmpI x.2 y.2 else cmpI x.1 y.1
theorem cmpI_lt {a b : Int} : (cmpI a b < 0) ↔ a < b := by unfold cmpI; split; omega; split <;> omega
theorem cmpI_eq {a b : Int} : (cmpI a b = 0) ↔ a = b := by unfold cmpI; split; omega; split <;> omega
theorem cmpC_lt {x y : Int × Int} : (cmpC x y < 0) ↔ (x.1 < y.1 ∨ (x.1 = y.1 ∧ x.2 < y.2)) := by
  unfold cmpC
  have h1 := cmpI_lt (a := x.1) (b := y.1)
  have h2 := cmpI_eq (a := x.1) (b := y.1)
  have h3 := cmpI_lt (a := x.2) (b := y.2)
  split <;> omega
set_option maxHeartbeats 1000000 in
theorem c_compare (a b : Int) (w : World) : Calls Try.prog 90 #[.int .i64 a, .int .i64 b] w fun e w' => e = .returned (.int .i64 (cmpI a b)) ∧ w' = w := by
  unfold cmpI
  by_cases h1 : a < b
  · rw [if_pos h1]
    go_enter Try.func90, Try.ntmps90
    go_wp2
    go_ret
    exact ⟨rfl, rfl⟩
  · rw [if_neg h1]
    by_cases h2 : b < a
    · rw [if_pos h2]
      go_enter Try.func90, Try.ntmps90
      go_wp2
      go_ret
      exact ⟨rfl, rfl⟩
    · rw [if_neg h2]
      go_enter Try.func90, Try.ntmps90
      go_wp2
      go_ret
      exact ⟨rfl, rfl⟩
set_option maxHeartbeats 1000000 in
theorem c_or2 (r : Nat) (x y : Int) (w : World) (h0 : w.cell? ⟨r, 0, none⟩ = some (.int .i64 x)) (h1 : w.cell? ⟨r, 1, none⟩ = some (.int .i64 y)) : Calls Try.prog 89 #[.slice (some ⟨r, 0, none⟩) 2 2] w fun e w' => e = .returned (.int .i64 (if x = 0 then y else x)) ∧ w' = w := by
  go_enter Try.func89, Try.ntmps89
  go_wp2
  go_loopw [8] (fun i wr => ∃ k : Nat, k ≤ 2 ∧ i = .int .i64 k ∧ (1 ≤ k → x = 0) ∧ (2 ≤ k → y = 0) ∧ wr = w) (fun i _ => 2 - (intOf i).toNat)
  case atStart => exact ⟨0, Nat.zero_le _, rfl, fun h => by omega, fun h => by omega, rfl⟩
  case round =>
    obtain ⟨k, hk, rfl, i1, i2, rfl⟩ := hrel
    rcases (show k = 0 ∨ k = 1 ∨ k = 2 by omega) with rfl | rfl | rfl
    · by_cases hx : x = 0
      · subst hx
        clear i1 i2
        go_wp2
        go_roundw
        case rel => exact ⟨1, by omega, by go_num, fun _ => by simp, fun h => by omega, by simp⟩
        case measure => simp [intOf]
      · clear i1 i2
        have hx' : (x != 0) = true := by simpa using hx
        go_wp2
        go_ret
        exact ⟨rfl, rfl⟩
    · have hx := i1 (by omega)
      subst hx
      clear i1 i2
      by_cases hy : y = 0
      · subst hy
        go_wp2
        go_roundw
        case rel => exact ⟨2, by omega, by go_num, fun _ => by simp, fun _ => by simp, by simp⟩
        case measure => simp [intOf]
      · have hy' : (y != 0) = true := by simpa using hy
        go_wp2
        go_ret
        exact ⟨rfl, rfl⟩
    · have hx := i1 (by omega)
      have hy := i2 (by omega)
      subst hx
      subst hy
      clear i1 i2
      go_wp2
      go_ret
      exact ⟨rfl, rfl⟩
set_option maxRecDepth 100000 in
set_option maxHeartbeats 1000000 in
theorem c_cmpCurves (x y : Int × Int) (w : World) : Calls Try.prog 79 #[.agg #[.int .i64 x.1, .int .i64 x.2], .agg #[.int .i64 y.1, .int .i64 y.2]] w fun e w' => e = .returned (.int .i64 (cmpC x y)) ∧ ∃ q os, w' = grow (w.drewN q) os := by
  have HC := Lib.hid (fun a b w => c_compare a b w)
  unfold cmpC
  obtain ⟨a, b⟩ := x
  obtain ⟨c, d⟩ := y
  simp only
  have HX := fun w => c_compare a c w
  have HY := fun w => c_compare b d w
  generalize cmpI a c = x at *
  generalize cmpI b d = y at *
  have HX' := Lib.hid HX
  have HY' := Lib.hid HY
  clear HX HY HC
  have kA := (Blk.new w #[.int .i64 a, .int .i64 b] 38).alloc (.cells #[.int .i64 c, .int .i64 d] 38)
  have kB := Blk.new (w.alloc (.cells #[.int .i64 a, .int .i64 b] 38)) #[.int .i64 c, .int .i64 d] 38
  simp only [World.size_alloc] at kB
  have hG : ∃ os, ((w.alloc (.cells #[.int .i64 a, .int .i64 b] 38)).alloc (.cells #[.int .i64 c, .int .i64 d] 38)) = grow w os := ⟨_, by rw [alloc_eq_grow, alloc_eq_grow, grow_grow]⟩
  go_enter Try.func79, Try.ntmps79
  go_wp2
  generalize (w.alloc _).alloc _ = W at *
  generalize w.heap.size + 1 = rb at *
  generalize w.heap.size = ra at *
  replace kA := kA.drew
  replace kB := kB.drew
  have kA0 : (W.drew).cell? ⟨ra, 0, none⟩ = some (.int .i64 a) := kA.cell 0; have kA1 : (W.drew).cell? ⟨ra, 1, none⟩ = some (.int .i64 b) := kA.cell 1; have kAl : ra < (W.drew).heap.size := kA.lt
  have kB0 : (W.drew).cell? ⟨rb, 0, none⟩ = some (.int .i64 c) := kB.cell 0; have kB1 : (W.drew).cell? ⟨rb, 1, none⟩ = some (.int .i64 d) := kB.cell 1; have kBl : rb < (W.drew).heap.size := kB.lt
  refine wp_region_still_tail 10 (by kernel_rfl) (by kernel_rfl) ?_
  simp only [List.take_succ_cons, List.take_zero, List.drop_succ_cons, List.drop_zero]
  change wpStill _ _ W.drew (fun a' => wpList _ _ _ _ a' W.drew) _ _
  iterate 4 still_step
  still_call (HX'.out _)
  iterate 4 still_step
  still_call (HY'.out _)
  refine wpStill_nil ?_
  obtain ⟨os, hG⟩ := hG
  have HG := Lib.hid hG
  clear hG
  go_wp2_with (go_at_call 89; refine (c_or2 _ x y _ (by simp) (by simp)).mono ?_; rintro e w' ⟨rfl, rfl⟩)
  all_goals
    go_ret
    refine ⟨rfl, ?_⟩
    rw [HG.out, alloc_eq_grow]
    exact ⟨1, _, grow_grow (w.drewN 1) os _⟩
end Go.Proofs.Ytilgeeaobdebhaa
