/- Walks: triangles, their sides without signs, the less leg first. -/
import Derived.Test.YtcnfjapoopdiaaaTri
import Derived.Test.YtcnfjapoopdiaaaChain
import Derived.BigRegion
namespace Go.Proofs.Ytcnfjapoopdiaaa
open Go.RowKit

def absI (n : Int) : Int := n.natAbs
def ordB (a x b y : Int) : Bool := decide (absI b * x < absI a * y)
/-- a/x, b/y, c/z without signs, the less one of the first two first -/
def ordV (a x b y c z : Int) : Value := if ordB a x b y then triV (absI b) y (absI a) x (absI c) z else triV (absI a) x (absI b) y (absI c) z
theorem frOk_abs {n d : Int} (h : frOk n d = true) : frOk (absI n) d = true := by
  have hb := frOk_of h
  unfold frOk at h ⊢
  simp only [Bool.and_eq_true] at h ⊢
  refine ⟨⟨h.1.1, ?_⟩, ?_⟩
  · unfold inB absI; simp; omega
  · rw [← h.2]; congr 1
set_option maxHeartbeats 1000000 in
theorem c_cnPlus (n d : Int) (hn : -4000000000000000000 ≤ n ∧ n ≤ 4000000000000000000) (w : World) :
    Calls Try.prog 96 #[.agg #[.int .i64 n, .int .i64 d]] w fun e w' => e = .returned (.agg #[.int .i64 (absI n), .int .i64 d]) ∧ Below w.heap.size w w' := by
  have k1 := (Blk.new w #[.int .i64 n, .int .i64 d] 25).alloc (.cells #[.int .i64 0, .int .i64 0] 25)
  have k2 := Blk.new (w.alloc (.cells #[.int .i64 n, .int .i64 d] 25)) #[.int .i64 0, .int .i64 0] 25
  have hB : Below w.heap.size w ((w.alloc (.cells #[.int .i64 n, .int .i64 d] 25)).alloc (.cells #[.int .i64 0, .int .i64 0] 25)) := by (repeat' (first | (with_reducible exact Below.refl _ _) | (with_reducible refine below_step (by assumption) ?_ ?_) | (with_reducible refine Below.alloc ?_ ?_ _) | (with_reducible refine Below.setCell ?_ ?_ _) | (with_reducible refine below_drewN ?_ _) | (with_reducible refine Below.drew ?_) | omega | (simp; omega) | (simp; done)))
  simp only [World.size_alloc] at k2
  go_enter Try.func96, Try.ntmps96
  go_wp2
  generalize (w.alloc _).alloc _ = W at *
  have k10 : (W).cell? ⟨w.heap.size, 0, none⟩ = some (.int .i64 n) := k1.cell 0; have k11 : (W).cell? ⟨w.heap.size, 1, none⟩ = some (.int .i64 d) := k1.cell 1; have k1f0 : (W).frozen? ⟨w.heap.size, 0, none⟩ = false := k1.frozen 0; have k1f1 : (W).frozen? ⟨w.heap.size, 1, none⟩ = false := k1.frozen 1; have k1l : w.heap.size < (W).heap.size := k1.lt
  have k20 : (W).cell? ⟨w.heap.size + 1, 0, none⟩ = some (.int .i64 0) := k2.cell 0; have k21 : (W).cell? ⟨w.heap.size + 1, 1, none⟩ = some (.int .i64 0) := k2.cell 1; have k2f0 : (W).frozen? ⟨w.heap.size + 1, 0, none⟩ = false := k2.frozen 0; have k2f1 : (W).frozen? ⟨w.heap.size + 1, 1, none⟩ = false := k2.frozen 1; have k2l : w.heap.size + 1 < (W).heap.size := k2.lt
  have hn1 : w.heap.size ∉ [w.heap.size + 1] := by simp
  refine wp_region_cls [w.heap.size + 1] (fun _ => false) (fun _ => True) (Blk (w.heap.size + 1) #[.int .i64 0, .int .i64 0] 25) (by kernel_rfl) (k2) ?_
  apply wpAnyF_hd ⟨W, Over.refl _ _, k2⟩ [true, true, true, true, true, true] 1 (Blk.closed _ _ _) (fun _ _ => trivial) (by kernel_rfl) (by kernel_rfl) (by kernel_rfl) (by kernel_rfl) (by simp)
  · intro E hE hEN hEn; (repeat (first | (refine wpHL_take ?_; go_big_quiet_step ((go_at_call 72; exact Calls.quiet_clsS _ (c_l1Abs _ hn _))); refine wpQuiet_nil ?_) | refine wpHL_skip ?_)); exact wpHL_end rfl
  refine wpAnyF_ready [6] 0 (by kernel_rfl) (by kernel_rfl) (by simp) (AllF.cons ?_ AllF.nil)
  refine stepC_store (v := .agg #[.int .i64 n.natAbs, .int .i64 d]) (w.heap.size + 1) (#[.int .i64 0, .int .i64 0]) (Blk (w.heap.size + 1) #[.int .i64 n.natAbs, .int .i64 d] 25) (by rfl) (by rfl) (by rfl) (by rfl) (by rfl) (by rfl) (fun _ => by go_simp) (by rfl) (by simp [Value.cells, one1]) (.inr (by simp)) (fun _ hd => hd) (Blk.closed _ _ _) (fun _ _ _ _ hb => hb) (fun hne => ?_)
  try simp only [Value.cells]
  refine wpAnyF_done (by kernel_rfl) (fun Wz hOz hDz => NoPanic.normal ?_) _
  try dsimp only
  have hb1 : Below w.heap.size w Wz := hOz.belowGe hB hB.size (by simp)
  have c0 := hDz.cell 0
  have c1 := hDz.cell 1
  simp only [List.getElem?_toArray, List.getElem?_cons_zero, List.getElem?_cons_succ] at c0 c1
  clear hOz hne
  go_wp2
  refine bodyPost_ret (v := .agg #[.int .i64 n.natAbs, .int .i64 d]) (by simp [results, Try.results96, go_sem, c0, c1]) rfl ?_
  exact ⟨rfl, hb1⟩
/-- three boxes and a triangle's block behind them -/
theorem box4 (w : World) (a x b y c z : Int) :
    Blk w.heap.size #[.int .i64 a, .int .i64 x] 25 ((((w.alloc (.cells #[.int .i64 a, .int .i64 x] 25)).alloc (.cells #[.int .i64 b, .int .i64 y] 25)).alloc (.cells #[.int .i64 c, .int .i64 z] 25)).alloc (.cells #[.int .i64 0, .int .i64 0, .int .i64 0, .int .i64 0, .int .i64 0, .int .i64 0] 27)) ∧
    Blk (w.heap.size + 1) #[.int .i64 b, .int .i64 y] 25 ((((w.alloc (.cells #[.int .i64 a, .int .i64 x] 25)).alloc (.cells #[.int .i64 b, .int .i64 y] 25)).alloc (.cells #[.int .i64 c, .int .i64 z] 25)).alloc (.cells #[.int .i64 0, .int .i64 0, .int .i64 0, .int .i64 0, .int .i64 0, .int .i64 0] 27)) ∧
    Blk (w.heap.size + 1 + 1) #[.int .i64 c, .int .i64 z] 25 ((((w.alloc (.cells #[.int .i64 a, .int .i64 x] 25)).alloc (.cells #[.int .i64 b, .int .i64 y] 25)).alloc (.cells #[.int .i64 c, .int .i64 z] 25)).alloc (.cells #[.int .i64 0, .int .i64 0, .int .i64 0, .int .i64 0, .int .i64 0, .int .i64 0] 27)) ∧
    Blk (w.heap.size + 1 + 1 + 1) #[.int .i64 0, .int .i64 0, .int .i64 0, .int .i64 0, .int .i64 0, .int .i64 0] 27 ((((w.alloc (.cells #[.int .i64 a, .int .i64 x] 25)).alloc (.cells #[.int .i64 b, .int .i64 y] 25)).alloc (.cells #[.int .i64 c, .int .i64 z] 25)).alloc (.cells #[.int .i64 0, .int .i64 0, .int .i64 0, .int .i64 0, .int .i64 0, .int .i64 0] 27)) ∧
    Below w.heap.size w ((((w.alloc (.cells #[.int .i64 a, .int .i64 x] 25)).alloc (.cells #[.int .i64 b, .int .i64 y] 25)).alloc (.cells #[.int .i64 c, .int .i64 z] 25)).alloc (.cells #[.int .i64 0, .int .i64 0, .int .i64 0, .int .i64 0, .int .i64 0, .int .i64 0] 27)) := by
  refine ⟨(((Blk.new w _ _).alloc _).alloc _).alloc _, ?_, ?_, ?_, by (repeat' (first | (with_reducible exact Below.refl _ _) | (with_reducible refine below_step (by assumption) ?_ ?_) | (with_reducible refine Below.alloc ?_ ?_ _) | (with_reducible refine Below.setCell ?_ ?_ _) | (with_reducible refine below_drewN ?_ _) | (with_reducible refine Below.drew ?_) | omega | (simp; omega) | (simp; done)))⟩
  · have := ((Blk.new (w.alloc (.cells #[.int .i64 a, .int .i64 x] 25)) #[.int .i64 b, .int .i64 y] 25).alloc (.cells #[.int .i64 c, .int .i64 z] 25)).alloc (.cells #[.int .i64 0, .int .i64 0, .int .i64 0, .int .i64 0, .int .i64 0, .int .i64 0] 27)
    simpa using this
  · have := (Blk.new ((w.alloc (.cells #[.int .i64 a, .int .i64 x] 25)).alloc (.cells #[.int .i64 b, .int .i64 y] 25)) #[.int .i64 c, .int .i64 z] 25).alloc (.cells #[.int .i64 0, .int .i64 0, .int .i64 0, .int .i64 0, .int .i64 0, .int .i64 0] 27)
    simpa using this
  · have := Blk.new (((w.alloc (.cells #[.int .i64 a, .int .i64 x] 25)).alloc (.cells #[.int .i64 b, .int .i64 y] 25)).alloc (.cells #[.int .i64 c, .int .i64 z] 25)) #[.int .i64 0, .int .i64 0, .int .i64 0, .int .i64 0, .int .i64 0, .int .i64 0] 27
    simpa using this
theorem ordV_yes {a x b y c z : Int} (h : ordB a x b y = true) : ordV a x b y c z = .agg #[.int .i64 (absI b), .int .i64 y, .int .i64 (absI a), .int .i64 x, .int .i64 (absI c), .int .i64 z] := by unfold ordV; rw [h]; rfl
theorem ordV_no {a x b y c z : Int} (h : ordB a x b y = false) : ordV a x b y c z = .agg #[.int .i64 (absI a), .int .i64 x, .int .i64 (absI b), .int .i64 y, .int .i64 (absI c), .int .i64 z] := by unfold ordV; rw [h]; rfl
set_option maxHeartbeats 2000000 in
theorem c_cnOrder (a x b y c z : Int) (h1 : frOk a x = true) (h2 : frOk b y = true) (h3 : frOk c z = true) (w : World) :
    Calls Try.prog 75 #[.agg #[.int .i64 a, .int .i64 x], .agg #[.int .i64 b, .int .i64 y], .agg #[.int .i64 c, .int .i64 z]] w fun e w' => e = .returned (ordV a x b y c z) ∧ Below w.heap.size w w' := by
  obtain ⟨kA, kB, kC, kT, hB⟩ := box4 w a x b y c z
  have b1 := (frOk_of h1).2
  have b2 := (frOk_of h2).2
  have b3 := (frOk_of h3).2
  have HP1 : Hid (∀ w, _) := fun w => c_cnPlus a x (by omega) w
  have HP2 : Hid (∀ w, _) := fun w => c_cnPlus b y (by omega) w
  have HP3 : Hid (∀ w, _) := fun w => c_cnPlus c z (by omega) w
  have HL : Hid (∀ w, _) := fun w => c_frLess (absI b) y (absI a) x (frOk_abs h2) (frOk_abs h1) w
  have HY := fun h => Lib.hid (ordV_yes (a := a) (x := x) (b := b) (y := y) (c := c) (z := z) h)
  have HN := fun h => Lib.hid (ordV_no (a := a) (x := x) (b := b) (y := y) (c := c) (z := z) h)
  have HD : Hid (decide (absI b * x < absI a * y) = ordB a x b y) := rfl
  rw [HD.out] at HL
  clear h1 h2 h3 b1 b2 b3 HD
  generalize absI a = a' at *
  generalize absI b = b' at *
  generalize absI c = c' at *
  generalize ordV a x b y c z = V at *
  generalize ordB a x b y = B at *
  have hs := hB.size
  go_enter Try.func75, Try.ntmps75
  go_wp2_with fail
  generalize (((w.alloc _).alloc _).alloc _).alloc _ = W at *
  refine (HP1.out _).mono ?_
  rintro e w1 ⟨rfl, hb1⟩
  replace kA := kA.next hb1
  replace kB := kB.next hb1
  replace kC := kC.next hb1
  replace kT := kT.next hb1
  replace hB := below_step hb1 hs hB
  have hs1 := hB.size
  clear hs hb1
  have kA0 : (w1).cell? ⟨w.heap.size, 0, none⟩ = some (.int .i64 a) := kA.cell 0; have kA1 : (w1).cell? ⟨w.heap.size, 1, none⟩ = some (.int .i64 x) := kA.cell 1; have kAf0 : (w1).frozen? ⟨w.heap.size, 0, none⟩ = false := kA.frozen 0; have kAf1 : (w1).frozen? ⟨w.heap.size, 1, none⟩ = false := kA.frozen 1; have kAl : w.heap.size < (w1).heap.size := kA.lt
  have kB0 : (w1).cell? ⟨w.heap.size + 1, 0, none⟩ = some (.int .i64 b) := kB.cell 0; have kB1 : (w1).cell? ⟨w.heap.size + 1, 1, none⟩ = some (.int .i64 y) := kB.cell 1; have kBl : w.heap.size + 1 < (w1).heap.size := kB.lt
  go_wp2_with fail
  have kA2 := (kA.set 0 (.int .i64 a')).set 1 (.int .i64 x)
  have kB2 := (kB.far (p := ⟨w.heap.size, 0, none⟩) (by show _ ≠ w.heap.size; omega) (.int .i64 a')).far (p := ⟨w.heap.size, 1, none⟩) (by show _ ≠ w.heap.size; omega) (.int .i64 x)
  have kC2 := (kC.far (p := ⟨w.heap.size, 0, none⟩) (by show _ ≠ w.heap.size; omega) (.int .i64 a')).far (p := ⟨w.heap.size, 1, none⟩) (by show _ ≠ w.heap.size; omega) (.int .i64 x)
  have kT2 := (kT.far (p := ⟨w.heap.size, 0, none⟩) (by show _ ≠ w.heap.size; omega) (.int .i64 a')).far (p := ⟨w.heap.size, 1, none⟩) (by show _ ≠ w.heap.size; omega) (.int .i64 x)
  have hB2 : Below w.heap.size w ((w1.setCell ⟨w.heap.size, 0, none⟩ (.int .i64 a')).setCell ⟨w.heap.size, 1, none⟩ (.int .i64 x)) := (hB.setCell (Nat.le_refl _) _).setCell (Nat.le_refl _) _
  have hs2 := hB2.size
  clear kA kB kC kT hB hs1 kA0 kA1 kAf0 kAf1 kAl kB0 kB1 kBl
  simp only [List.setIfInBounds_toArray, List.set_cons_zero, List.set_cons_succ] at kA2
  generalize (w1.setCell _ _).setCell _ _ = W2 at *
  refine (HP2.out _).mono ?_
  rintro e w3 ⟨rfl, hb3⟩
  replace kA2 := kA2.next hb3
  replace kB2 := kB2.next hb3
  replace kC2 := kC2.next hb3
  replace kT2 := kT2.next hb3
  replace hB2 := below_step hb3 hs2 hB2
  have hs3 := hB2.size
  clear hs2 hb3
  have q0 := kA2.cell 0
  have q1 := kA2.cell 1
  simp only [List.getElem?_toArray, List.getElem?_cons_zero, List.getElem?_cons_succ] at q0 q1
  have qA := kA2.lt
  have kB20 : (w3).cell? ⟨w.heap.size + 1, 0, none⟩ = some (.int .i64 b) := kB2.cell 0; have kB21 : (w3).cell? ⟨w.heap.size + 1, 1, none⟩ = some (.int .i64 y) := kB2.cell 1; have kB2f0 : (w3).frozen? ⟨w.heap.size + 1, 0, none⟩ = false := kB2.frozen 0; have kB2f1 : (w3).frozen? ⟨w.heap.size + 1, 1, none⟩ = false := kB2.frozen 1; have kB2l : w.heap.size + 1 < (w3).heap.size := kB2.lt
  go_wp2_with fail
  have kA3 := (kA2.far (p := ⟨w.heap.size + 1, 0, none⟩) (by show _ ≠ w.heap.size + 1; omega) (.int .i64 b')).far (p := ⟨w.heap.size + 1, 1, none⟩) (by show _ ≠ w.heap.size + 1; omega) (.int .i64 y)
  have kB3 := (kB2.set 0 (.int .i64 b')).set 1 (.int .i64 y)
  have kC3 := (kC2.far (p := ⟨w.heap.size + 1, 0, none⟩) (by show _ ≠ w.heap.size + 1; omega) (.int .i64 b')).far (p := ⟨w.heap.size + 1, 1, none⟩) (by show _ ≠ w.heap.size + 1; omega) (.int .i64 y)
  have kT3 := (kT2.far (p := ⟨w.heap.size + 1, 0, none⟩) (by show _ ≠ w.heap.size + 1; omega) (.int .i64 b')).far (p := ⟨w.heap.size + 1, 1, none⟩) (by show _ ≠ w.heap.size + 1; omega) (.int .i64 y)
  have hB3 : Below w.heap.size w ((w3.setCell ⟨w.heap.size + 1, 0, none⟩ (.int .i64 b')).setCell ⟨w.heap.size + 1, 1, none⟩ (.int .i64 y)) := (hB2.setCell (by show _ ≤ w.heap.size + 1; omega) _).setCell (by show _ ≤ w.heap.size + 1; omega) _
  have hs4 := hB3.size
  clear kA2 kB2 kC2 kT2 hB2 hs3 q0 q1 qA kB20 kB21 kB2f0 kB2f1 kB2l
  simp only [List.setIfInBounds_toArray, List.set_cons_zero, List.set_cons_succ] at kB3
  generalize (w3.setCell _ _).setCell _ _ = W4 at *
  refine (HL.out _).mono ?_
  rintro e W5 ⟨rfl, hb5⟩
  have kA4 := kA3.next hb5
  have kB4 := kB3.next hb5
  have kC4 := kC3.next hb5
  have kT4 := kT3.next hb5
  have hB4 := below_step hb5 hs4 hB3
  clear kA3 kB3 kC3 kT3 hB3 hs4 hb5
  have q0 := kA4.cell 0
  have q1 := kA4.cell 1
  have r0 := kB4.cell 0
  have r1 := kB4.cell 1
  have s0 := kC4.cell 0
  have s1 := kC4.cell 1
  simp only [List.getElem?_toArray, List.getElem?_cons_zero, List.getElem?_cons_succ] at q0 q1 r0 r1 s0 s1
  have hqA := kA4.lt
  have hqB := kB4.lt
  have hqC := kC4.lt
  have n1 : w.heap.size ∉ [w.heap.size + 1 + 1 + 1] := by simp; omega
  have n2 : w.heap.size + 1 ∉ [w.heap.size + 1 + 1 + 1] := by simp
  have n3 : w.heap.size + 1 + 1 ∉ [w.heap.size + 1 + 1 + 1] := by simp
  clear HP1 HP2 HL
  cases B
  · have HV := HN rfl
    clear HY HN
    go_wp2
    refine wp_region_cls [w.heap.size + 1 + 1 + 1] (fun _ => false) (fun _ => True) (Blk (w.heap.size + 1 + 1 + 1) #[.int .i64 0, .int .i64 0, .int .i64 0, .int .i64 0, .int .i64 0, .int .i64 0] 27) (by kernel_rfl) (kT4) ?_
    apply wpAnyF_hd ⟨W5, Over.refl _ _, kT4⟩ [true, true, true, true, true] 1 (Blk.closed _ _ _) (fun _ _ => trivial) (by kernel_rfl) (by kernel_rfl) (by kernel_rfl) (by kernel_rfl) (by simp)
    · intro E hE hEN hEn; (repeat (first | (refine wpHL_take ?_; go_big_quiet_step ((go_at_call 96; exact Calls.quiet_cls hE _ (HP3.out _))); refine wpQuiet_nil ?_) | refine wpHL_skip ?_)); exact wpHL_end rfl
    refine wpAnyF_ready [5] 0 (by kernel_rfl) (by kernel_rfl) (by simp) (AllF.cons ?_ AllF.nil)
    refine stepC_store (v := .agg #[.int .i64 a', .int .i64 x, .int .i64 b', .int .i64 y, .int .i64 c', .int .i64 z]) (w.heap.size + 1 + 1 + 1) (#[.int .i64 0, .int .i64 0, .int .i64 0, .int .i64 0, .int .i64 0, .int .i64 0]) (Blk (w.heap.size + 1 + 1 + 1) #[.int .i64 a', .int .i64 x, .int .i64 b', .int .i64 y, .int .i64 c', .int .i64 z] 27) (by rfl) (by rfl) (by rfl) (by rfl) (by rfl) (by rfl) (fun _ => by go_simp) (by rfl) (by simp [Value.cells, one1]) (.inr (by simp)) (fun _ hd => hd) (Blk.closed _ _ _) (fun _ _ _ _ hb => hb) (fun hne => ?_)
    try simp only [Value.cells]
    refine wpAnyF_done (by kernel_rfl) (fun Wz hOz hDz => NoPanic.normal ?_) _
    try dsimp only
    have hb6 : Below w.heap.size w Wz := hOz.belowGe hB4 hB4.size (by simp; omega)
    have c0 := hDz.cell 0
    have c1 := hDz.cell 1
    have c2 := hDz.cell 2
    have c3 := hDz.cell 3
    have c4 := hDz.cell 4
    have c5 := hDz.cell 5
    simp only [List.getElem?_toArray, List.getElem?_cons_zero, List.getElem?_cons_succ] at c0 c1 c2 c3 c4 c5
    clear hOz hne
    go_wp2
    refine bodyPost_ret (v := .agg #[.int .i64 a', .int .i64 x, .int .i64 b', .int .i64 y, .int .i64 c', .int .i64 z]) (by simp [results, Try.results75, go_sem, c0, c1, c2, c3, c4, c5]) rfl ?_
    exact ⟨by rw [HV.out], hb6⟩
  · have HV := HY rfl
    clear HY HN
    go_wp2
    refine wp_region_cls [w.heap.size + 1 + 1 + 1] (fun _ => false) (fun _ => True) (Blk (w.heap.size + 1 + 1 + 1) #[.int .i64 0, .int .i64 0, .int .i64 0, .int .i64 0, .int .i64 0, .int .i64 0] 27) (by kernel_rfl) (kT4) ?_
    apply wpAnyF_hd ⟨W5, Over.refl _ _, kT4⟩ [true, true, true, true, true] 1 (Blk.closed _ _ _) (fun _ _ => trivial) (by kernel_rfl) (by kernel_rfl) (by kernel_rfl) (by kernel_rfl) (by simp)
    · intro E hE hEN hEn; (repeat (first | (refine wpHL_take ?_; go_big_quiet_step ((go_at_call 96; exact Calls.quiet_cls hE _ (HP3.out _))); refine wpQuiet_nil ?_) | refine wpHL_skip ?_)); exact wpHL_end rfl
    refine wpAnyF_ready [5] 0 (by kernel_rfl) (by kernel_rfl) (by simp) (AllF.cons ?_ AllF.nil)
    refine stepC_store (v := .agg #[.int .i64 b', .int .i64 y, .int .i64 a', .int .i64 x, .int .i64 c', .int .i64 z]) (w.heap.size + 1 + 1 + 1) (#[.int .i64 0, .int .i64 0, .int .i64 0, .int .i64 0, .int .i64 0, .int .i64 0]) (Blk (w.heap.size + 1 + 1 + 1) #[.int .i64 b', .int .i64 y, .int .i64 a', .int .i64 x, .int .i64 c', .int .i64 z] 27) (by rfl) (by rfl) (by rfl) (by rfl) (by rfl) (by rfl) (fun _ => by go_simp) (by rfl) (by simp [Value.cells, one1]) (.inr (by simp)) (fun _ hd => hd) (Blk.closed _ _ _) (fun _ _ _ _ hb => hb) (fun hne => ?_)
    try simp only [Value.cells]
    refine wpAnyF_done (by kernel_rfl) (fun Wz hOz hDz => NoPanic.normal ?_) _
    try dsimp only
    have hb6 : Below w.heap.size w Wz := hOz.belowGe hB4 hB4.size (by simp; omega)
    have c0 := hDz.cell 0
    have c1 := hDz.cell 1
    have c2 := hDz.cell 2
    have c3 := hDz.cell 3
    have c4 := hDz.cell 4
    have c5 := hDz.cell 5
    simp only [List.getElem?_toArray, List.getElem?_cons_zero, List.getElem?_cons_succ] at c0 c1 c2 c3 c4 c5
    clear hOz hne
    go_wp2
    refine bodyPost_ret (v := .agg #[.int .i64 b', .int .i64 y, .int .i64 a', .int .i64 x, .int .i64 c', .int .i64 z]) (by simp [results, Try.results75, go_sem, c0, c1, c2, c3, c4, c5]) rfl ?_
    exact ⟨by rw [HV.out], hb6⟩
set_option maxHeartbeats 4000000 in
theorem c_sortedTriangle (a x b y c z : Int) (h1 : frOk a x = true) (h2 : frOk b y = true) (h3 : frOk c z = true) (w : World) :
    Calls Try.prog 41 #[.agg #[.int .i64 a, .int .i64 x], .agg #[.int .i64 b, .int .i64 y], .agg #[.int .i64 c, .int .i64 z]] w fun e w' => e = .returned (ordV a x b y c z) ∧ Below w.heap.size w w' := by
  obtain ⟨kA, kB, kC, kT, hB⟩ := box4 w a x b y c z
  have b1 := (frOk_of h1).2
  have b2 := (frOk_of h2).2
  have b3 := (frOk_of h3).2
  have HL : Hid (∀ w, _) := fun w => c_IsLess (absI b) y (absI a) x (frOk_abs h2) (frOk_abs h1) w
  have HY := fun h => Lib.hid (ordV_yes (a := a) (x := x) (b := b) (y := y) (c := c) (z := z) h)
  have HN := fun h => Lib.hid (ordV_no (a := a) (x := x) (b := b) (y := y) (c := c) (z := z) h)
  have HD : Hid (decide (absI b * x < absI a * y) = ordB a x b y) := rfl
  rw [HD.out] at HL
  clear h1 h2 h3 HD
  generalize ordV a x b y c z = V at *
  generalize ordB a x b y = B at *
  have kA := kA.alloc (.cells #[.pointer (some ⟨w.heap.size, 0, none⟩), .pointer (some ⟨w.heap.size + 1, 0, none⟩), .pointer (some ⟨w.heap.size + 1 + 1, 0, none⟩)] 91)
  have kB := kB.alloc (.cells #[.pointer (some ⟨w.heap.size, 0, none⟩), .pointer (some ⟨w.heap.size + 1, 0, none⟩), .pointer (some ⟨w.heap.size + 1 + 1, 0, none⟩)] 91)
  have kC := kC.alloc (.cells #[.pointer (some ⟨w.heap.size, 0, none⟩), .pointer (some ⟨w.heap.size + 1, 0, none⟩), .pointer (some ⟨w.heap.size + 1 + 1, 0, none⟩)] 91)
  have kP := Blk.new ((((w.alloc (.cells #[.int .i64 a, .int .i64 x] 25)).alloc (.cells #[.int .i64 b, .int .i64 y] 25)).alloc (.cells #[.int .i64 c, .int .i64 z] 25)).alloc (.cells #[.int .i64 0, .int .i64 0, .int .i64 0, .int .i64 0, .int .i64 0, .int .i64 0] 27)) #[.pointer (some ⟨w.heap.size, 0, none⟩), .pointer (some ⟨w.heap.size + 1, 0, none⟩), .pointer (some ⟨w.heap.size + 1 + 1, 0, none⟩)] 91
  simp only [World.size_alloc] at kP
  have kT := kT.alloc (.cells #[.pointer (some ⟨w.heap.size, 0, none⟩), .pointer (some ⟨w.heap.size + 1, 0, none⟩), .pointer (some ⟨w.heap.size + 1 + 1, 0, none⟩)] 91)
  have hB := hB.alloc hB.size (.cells #[.pointer (some ⟨w.heap.size, 0, none⟩), .pointer (some ⟨w.heap.size + 1, 0, none⟩), .pointer (some ⟨w.heap.size + 1 + 1, 0, none⟩)] 91)
  have hs := hB.size
  go_enter Try.func41, Try.ntmps41
  go_wp2
  generalize ((((w.alloc _).alloc _).alloc _).alloc _).alloc _ = W at *
  go_loopw [13] (fun i wr => ∃ k : Nat, k ≤ 3 ∧ i = .int .i64 k ∧ Blk (w.heap.size) #[.int .i64 (if 0 < k then absI a else a), .int .i64 x] 25 wr ∧ Blk (w.heap.size + 1) #[.int .i64 (if 1 < k then absI b else b), .int .i64 y] 25 wr ∧ Blk (w.heap.size + 1 + 1) #[.int .i64 (if 2 < k then absI c else c), .int .i64 z] 25 wr ∧ Blk (w.heap.size + 1 + 1 + 1) #[.int .i64 0, .int .i64 0, .int .i64 0, .int .i64 0, .int .i64 0, .int .i64 0] 27 wr ∧ Blk (w.heap.size + 1 + 1 + 1 + 1) #[.pointer (some ⟨w.heap.size, 0, none⟩), .pointer (some ⟨w.heap.size + 1, 0, none⟩), .pointer (some ⟨w.heap.size + 1 + 1, 0, none⟩)] 91 wr ∧ Below w.heap.size w wr) (fun i _ => 3 - (intOf i).toNat)
  case atStart => exact ⟨0, by omega, rfl, kA, kB, kC, kT, kP, hB⟩
  case round =>
    clear kA kB kC kT kP hB
    obtain ⟨k, hk, rfl, kA, kB, kC, kT, kP, hBr⟩ := hrel
    rcases (by omega : k = 0 ∨ k = 1 ∨ k = 2 ∨ k = 3) with rfl | rfl | rfl | rfl
    · rw [if_neg (by decide)] at kA
      rw [if_neg (by decide)] at kB
      rw [if_neg (by decide)] at kC
      rcases Int.lt_or_le a 0 with hsa | hsa
      · have ea : absI a = -a := by unfold absI; omega
        have kA0 : (wr).cell? ⟨w.heap.size, 0, none⟩ = some (.int .i64 a) := kA.cell 0; have kA1 : (wr).cell? ⟨w.heap.size, 1, none⟩ = some (.int .i64 x) := kA.cell 1; have kAf0 : (wr).frozen? ⟨w.heap.size, 0, none⟩ = false := kA.frozen 0; have kAf1 : (wr).frozen? ⟨w.heap.size, 1, none⟩ = false := kA.frozen 1; have kAl : w.heap.size < (wr).heap.size := kA.lt
        have p0 := kP.cell 0
        simp only [List.getElem?_toArray, List.getElem?_cons_zero] at p0
        have hpl := kP.lt
        clear ea
        go_wp2
        go_big_region
        all_goals go_wp2
        have ea : absI a = -a := by unfold absI; omega
        go_roundw
        case rel =>
          refine ⟨1, by omega, by go_num, ?_, ?_, ?_, ?_, ?_, ?_⟩
          · rw [if_pos (by decide), ea]; exact Blk.drew (kA.set 0 (.int .i64 (-a)))
          · rw [if_neg (by decide)]; exact Blk.drew (kB.far (by show _ ≠ w.heap.size; omega) _)
          · rw [if_neg (by decide)]; exact Blk.drew (kC.far (by show _ ≠ w.heap.size; omega) _)
          · exact Blk.drew (kT.far (by show _ ≠ w.heap.size; omega) _)
          · exact Blk.drew (kP.far (by show _ ≠ w.heap.size; omega) _)
          · exact (hBr.setCell (by show _ ≤ w.heap.size; omega) _).drew
        case measure => simp [intOf]
      · have ea : absI a = a := by unfold absI; omega
        have kA0 : (wr).cell? ⟨w.heap.size, 0, none⟩ = some (.int .i64 a) := kA.cell 0; have kA1 : (wr).cell? ⟨w.heap.size, 1, none⟩ = some (.int .i64 x) := kA.cell 1; have kAf0 : (wr).frozen? ⟨w.heap.size, 0, none⟩ = false := kA.frozen 0; have kAf1 : (wr).frozen? ⟨w.heap.size, 1, none⟩ = false := kA.frozen 1; have kAl : w.heap.size < (wr).heap.size := kA.lt
        have p0 := kP.cell 0
        simp only [List.getElem?_toArray, List.getElem?_cons_zero] at p0
        have hpl := kP.lt
        clear ea
        go_wp2
        go_big_region
        all_goals go_wp2
        have ea : absI a = a := by unfold absI; omega
        go_roundw
        case rel =>
          refine ⟨1, by omega, by go_num, ?_, ?_, ?_, ?_, ?_, ?_⟩
          · rw [if_pos (by decide), ea]; exact Blk.drew (kA.set 0 (.int .i64 (a)))
          · rw [if_neg (by decide)]; exact Blk.drew (kB.far (by show _ ≠ w.heap.size; omega) _)
          · rw [if_neg (by decide)]; exact Blk.drew (kC.far (by show _ ≠ w.heap.size; omega) _)
          · exact Blk.drew (kT.far (by show _ ≠ w.heap.size; omega) _)
          · exact Blk.drew (kP.far (by show _ ≠ w.heap.size; omega) _)
          · exact (hBr.setCell (by show _ ≤ w.heap.size; omega) _).drew
        case measure => simp [intOf]
    · rw [if_pos (by decide)] at kA
      rw [if_neg (by decide)] at kB
      rw [if_neg (by decide)] at kC
      rcases Int.lt_or_le b 0 with hsb | hsb
      · have eb : absI b = -b := by unfold absI; omega
        have kB0 : (wr).cell? ⟨w.heap.size + 1, 0, none⟩ = some (.int .i64 b) := kB.cell 0; have kB1 : (wr).cell? ⟨w.heap.size + 1, 1, none⟩ = some (.int .i64 y) := kB.cell 1; have kBf0 : (wr).frozen? ⟨w.heap.size + 1, 0, none⟩ = false := kB.frozen 0; have kBf1 : (wr).frozen? ⟨w.heap.size + 1, 1, none⟩ = false := kB.frozen 1; have kBl : w.heap.size + 1 < (wr).heap.size := kB.lt
        have p0 := kP.cell 1
        simp only [List.getElem?_toArray, List.getElem?_cons_zero, List.getElem?_cons_succ] at p0
        have hpl := kP.lt
        clear eb
        go_wp2
        go_big_region
        all_goals go_wp2
        have eb : absI b = -b := by unfold absI; omega
        go_roundw
        case rel =>
          refine ⟨2, by omega, by go_num, ?_, ?_, ?_, ?_, ?_, ?_⟩
          · rw [if_pos (by decide)]; exact Blk.drew (kA.far (by show _ ≠ w.heap.size + 1; omega) _)
          · rw [if_pos (by decide), eb]; exact Blk.drew (kB.set 0 (.int .i64 (-b)))
          · rw [if_neg (by decide)]; exact Blk.drew (kC.far (by show _ ≠ w.heap.size + 1; omega) _)
          · exact Blk.drew (kT.far (by show _ ≠ w.heap.size + 1; omega) _)
          · exact Blk.drew (kP.far (by show _ ≠ w.heap.size + 1; omega) _)
          · exact (hBr.setCell (by show _ ≤ w.heap.size + 1; omega) _).drew
        case measure => simp [intOf]
      · have eb : absI b = b := by unfold absI; omega
        have kB0 : (wr).cell? ⟨w.heap.size + 1, 0, none⟩ = some (.int .i64 b) := kB.cell 0; have kB1 : (wr).cell? ⟨w.heap.size + 1, 1, none⟩ = some (.int .i64 y) := kB.cell 1; have kBf0 : (wr).frozen? ⟨w.heap.size + 1, 0, none⟩ = false := kB.frozen 0; have kBf1 : (wr).frozen? ⟨w.heap.size + 1, 1, none⟩ = false := kB.frozen 1; have kBl : w.heap.size + 1 < (wr).heap.size := kB.lt
        have p0 := kP.cell 1
        simp only [List.getElem?_toArray, List.getElem?_cons_zero, List.getElem?_cons_succ] at p0
        have hpl := kP.lt
        clear eb
        go_wp2
        go_big_region
        all_goals go_wp2
        have eb : absI b = b := by unfold absI; omega
        go_roundw
        case rel =>
          refine ⟨2, by omega, by go_num, ?_, ?_, ?_, ?_, ?_, ?_⟩
          · rw [if_pos (by decide)]; exact Blk.drew (kA.far (by show _ ≠ w.heap.size + 1; omega) _)
          · rw [if_pos (by decide), eb]; exact Blk.drew (kB.set 0 (.int .i64 (b)))
          · rw [if_neg (by decide)]; exact Blk.drew (kC.far (by show _ ≠ w.heap.size + 1; omega) _)
          · exact Blk.drew (kT.far (by show _ ≠ w.heap.size + 1; omega) _)
          · exact Blk.drew (kP.far (by show _ ≠ w.heap.size + 1; omega) _)
          · exact (hBr.setCell (by show _ ≤ w.heap.size + 1; omega) _).drew
        case measure => simp [intOf]
    · rw [if_pos (by decide)] at kA
      rw [if_pos (by decide)] at kB
      rw [if_neg (by decide)] at kC
      rcases Int.lt_or_le c 0 with hsc | hsc
      · have ec : absI c = -c := by unfold absI; omega
        have kC0 : (wr).cell? ⟨w.heap.size + 1 + 1, 0, none⟩ = some (.int .i64 c) := kC.cell 0; have kC1 : (wr).cell? ⟨w.heap.size + 1 + 1, 1, none⟩ = some (.int .i64 z) := kC.cell 1; have kCf0 : (wr).frozen? ⟨w.heap.size + 1 + 1, 0, none⟩ = false := kC.frozen 0; have kCf1 : (wr).frozen? ⟨w.heap.size + 1 + 1, 1, none⟩ = false := kC.frozen 1; have kCl : w.heap.size + 1 + 1 < (wr).heap.size := kC.lt
        have p0 := kP.cell 2
        simp only [List.getElem?_toArray, List.getElem?_cons_zero, List.getElem?_cons_succ] at p0
        have hpl := kP.lt
        clear ec
        go_wp2
        go_big_region
        all_goals go_wp2
        have ec : absI c = -c := by unfold absI; omega
        go_roundw
        case rel =>
          refine ⟨3, by omega, by go_num, ?_, ?_, ?_, ?_, ?_, ?_⟩
          · rw [if_pos (by decide)]; exact Blk.drew (kA.far (by show _ ≠ w.heap.size + 1 + 1; omega) _)
          · rw [if_pos (by decide)]; exact Blk.drew (kB.far (by show _ ≠ w.heap.size + 1 + 1; omega) _)
          · rw [if_pos (by decide), ec]; exact Blk.drew (kC.set 0 (.int .i64 (-c)))
          · exact Blk.drew (kT.far (by show _ ≠ w.heap.size + 1 + 1; omega) _)
          · exact Blk.drew (kP.far (by show _ ≠ w.heap.size + 1 + 1; omega) _)
          · exact (hBr.setCell (by show _ ≤ w.heap.size + 1 + 1; omega) _).drew
        case measure => simp [intOf]
      · have ec : absI c = c := by unfold absI; omega
        have kC0 : (wr).cell? ⟨w.heap.size + 1 + 1, 0, none⟩ = some (.int .i64 c) := kC.cell 0; have kC1 : (wr).cell? ⟨w.heap.size + 1 + 1, 1, none⟩ = some (.int .i64 z) := kC.cell 1; have kCf0 : (wr).frozen? ⟨w.heap.size + 1 + 1, 0, none⟩ = false := kC.frozen 0; have kCf1 : (wr).frozen? ⟨w.heap.size + 1 + 1, 1, none⟩ = false := kC.frozen 1; have kCl : w.heap.size + 1 + 1 < (wr).heap.size := kC.lt
        have p0 := kP.cell 2
        simp only [List.getElem?_toArray, List.getElem?_cons_zero, List.getElem?_cons_succ] at p0
        have hpl := kP.lt
        clear ec
        go_wp2
        go_big_region
        all_goals go_wp2
        have ec : absI c = c := by unfold absI; omega
        go_roundw
        case rel =>
          refine ⟨3, by omega, by go_num, ?_, ?_, ?_, ?_, ?_, ?_⟩
          · rw [if_pos (by decide)]; exact Blk.drew (kA.far (by show _ ≠ w.heap.size + 1 + 1; omega) _)
          · rw [if_pos (by decide)]; exact Blk.drew (kB.far (by show _ ≠ w.heap.size + 1 + 1; omega) _)
          · rw [if_pos (by decide), ec]; exact Blk.drew (kC.set 0 (.int .i64 (c)))
          · exact Blk.drew (kT.far (by show _ ≠ w.heap.size + 1 + 1; omega) _)
          · exact Blk.drew (kP.far (by show _ ≠ w.heap.size + 1 + 1; omega) _)
          · exact (hBr.setCell (by show _ ≤ w.heap.size + 1 + 1; omega) _).drew
        case measure => simp [intOf]
    · rw [if_pos (by decide)] at kA kB kC
      clear b1 b2 b3
      generalize absI a = a' at *
      generalize absI b = b' at *
      generalize absI c = c' at *
      have kA0 : (wr).cell? ⟨w.heap.size, 0, none⟩ = some (.int .i64 a') := kA.cell 0; have kA1 : (wr).cell? ⟨w.heap.size, 1, none⟩ = some (.int .i64 x) := kA.cell 1; have kAl : w.heap.size < (wr).heap.size := kA.lt
      have kB0 : (wr).cell? ⟨w.heap.size + 1, 0, none⟩ = some (.int .i64 b') := kB.cell 0; have kB1 : (wr).cell? ⟨w.heap.size + 1, 1, none⟩ = some (.int .i64 y) := kB.cell 1; have kBl : w.heap.size + 1 < (wr).heap.size := kB.lt
      have hsr := hBr.size
      go_wp2_with fail
      refine (HL.out _).mono ?_
      rintro e w5 ⟨rfl, hb5⟩
      have lA := kA.next hb5
      have lB := kB.next hb5
      have lC := kC.next hb5
      have lT := kT.next hb5
      have hB5 := below_step hb5 hsr hBr
      have hs5 := hB5.size
      clear kA kB kC kT kP hBr hb5 hsr HL kA0 kA1 kB0 kB1 kAl kBl
      have lA0 : (w5).cell? ⟨w.heap.size, 0, none⟩ = some (.int .i64 a') := lA.cell 0; have lA1 : (w5).cell? ⟨w.heap.size, 1, none⟩ = some (.int .i64 x) := lA.cell 1; have lAf0 : (w5).frozen? ⟨w.heap.size, 0, none⟩ = false := lA.frozen 0; have lAf1 : (w5).frozen? ⟨w.heap.size, 1, none⟩ = false := lA.frozen 1; have lAl : w.heap.size < (w5).heap.size := lA.lt
      have lB0 : (w5).cell? ⟨w.heap.size + 1, 0, none⟩ = some (.int .i64 b') := lB.cell 0; have lB1 : (w5).cell? ⟨w.heap.size + 1, 1, none⟩ = some (.int .i64 y) := lB.cell 1; have lBf0 : (w5).frozen? ⟨w.heap.size + 1, 0, none⟩ = false := lB.frozen 0; have lBf1 : (w5).frozen? ⟨w.heap.size + 1, 1, none⟩ = false := lB.frozen 1; have lBl : w.heap.size + 1 < (w5).heap.size := lB.lt
      have lC0 : (w5).cell? ⟨w.heap.size + 1 + 1, 0, none⟩ = some (.int .i64 c') := lC.cell 0; have lC1 : (w5).cell? ⟨w.heap.size + 1 + 1, 1, none⟩ = some (.int .i64 z) := lC.cell 1; have lCl : w.heap.size + 1 + 1 < (w5).heap.size := lC.lt
      have lT0 : (w5).cell? ⟨w.heap.size + 1 + 1 + 1, 0, none⟩ = some (.int .i64 0) := lT.cell 0; have lT1 : (w5).cell? ⟨w.heap.size + 1 + 1 + 1, 1, none⟩ = some (.int .i64 0) := lT.cell 1; have lT2 : (w5).cell? ⟨w.heap.size + 1 + 1 + 1, 2, none⟩ = some (.int .i64 0) := lT.cell 2; have lT3 : (w5).cell? ⟨w.heap.size + 1 + 1 + 1, 3, none⟩ = some (.int .i64 0) := lT.cell 3; have lT4 : (w5).cell? ⟨w.heap.size + 1 + 1 + 1, 4, none⟩ = some (.int .i64 0) := lT.cell 4; have lT5 : (w5).cell? ⟨w.heap.size + 1 + 1 + 1, 5, none⟩ = some (.int .i64 0) := lT.cell 5; have lTf0 : (w5).frozen? ⟨w.heap.size + 1 + 1 + 1, 0, none⟩ = false := lT.frozen 0; have lTf1 : (w5).frozen? ⟨w.heap.size + 1 + 1 + 1, 1, none⟩ = false := lT.frozen 1; have lTf2 : (w5).frozen? ⟨w.heap.size + 1 + 1 + 1, 2, none⟩ = false := lT.frozen 2; have lTf3 : (w5).frozen? ⟨w.heap.size + 1 + 1 + 1, 3, none⟩ = false := lT.frozen 3; have lTf4 : (w5).frozen? ⟨w.heap.size + 1 + 1 + 1, 4, none⟩ = false := lT.frozen 4; have lTf5 : (w5).frozen? ⟨w.heap.size + 1 + 1 + 1, 5, none⟩ = false := lT.frozen 5; have lTl : w.heap.size + 1 + 1 + 1 < (w5).heap.size := lT.lt
      cases B
      · have HV := HN rfl
        clear HY HN
        go_wp2
        have R := ((((((lT.set 0 (.int .i64 a')).set 1 (.int .i64 x)).set 2 (.int .i64 b')).set 3 (.int .i64 y)).set 4 (.int .i64 c')).set 5 (.int .i64 z))
        have hR : Below w.heap.size w ((((((w5.setCell ⟨w.heap.size + 1 + 1 + 1, 0, none⟩ (.int .i64 a')).setCell ⟨w.heap.size + 1 + 1 + 1, 1, none⟩ (.int .i64 x)).setCell ⟨w.heap.size + 1 + 1 + 1, 2, none⟩ (.int .i64 b')).setCell ⟨w.heap.size + 1 + 1 + 1, 3, none⟩ (.int .i64 y)).setCell ⟨w.heap.size + 1 + 1 + 1, 4, none⟩ (.int .i64 c')).setCell ⟨w.heap.size + 1 + 1 + 1, 5, none⟩ (.int .i64 z)) := by (repeat' (first | (with_reducible exact Below.refl _ _) | (with_reducible refine below_step (by assumption) ?_ ?_) | (with_reducible refine Below.alloc ?_ ?_ _) | (with_reducible refine Below.setCell ?_ ?_ _) | (with_reducible refine below_drewN ?_ _) | (with_reducible refine Below.drew ?_) | omega | (simp; omega) | (simp; done)))
        simp only [List.setIfInBounds_toArray, List.set_cons_zero, List.set_cons_succ] at R
        clear lA lB lC lT lA0 lA1 lAf0 lAf1 lAl lB0 lB1 lBf0 lBf1 lBl lC0 lC1 lCl lT0 lT1 lT2 lT3 lT4 lT5 lTf0 lTf1 lTf2 lTf3 lTf4 lTf5 lTl
        generalize ((((((w5.setCell ⟨w.heap.size + 1 + 1 + 1, 0, none⟩ (.int .i64 a')).setCell ⟨w.heap.size + 1 + 1 + 1, 1, none⟩ (.int .i64 x)).setCell ⟨w.heap.size + 1 + 1 + 1, 2, none⟩ (.int .i64 b')).setCell ⟨w.heap.size + 1 + 1 + 1, 3, none⟩ (.int .i64 y)).setCell ⟨w.heap.size + 1 + 1 + 1, 4, none⟩ (.int .i64 c')).setCell ⟨w.heap.size + 1 + 1 + 1, 5, none⟩ (.int .i64 z)) = W9 at R hR ⊢
        have R0 : (W9).cell? ⟨w.heap.size + 1 + 1 + 1, 0, none⟩ = some (.int .i64 a') := R.cell 0; have R1 : (W9).cell? ⟨w.heap.size + 1 + 1 + 1, 1, none⟩ = some (.int .i64 x) := R.cell 1; have R2 : (W9).cell? ⟨w.heap.size + 1 + 1 + 1, 2, none⟩ = some (.int .i64 b') := R.cell 2; have R3 : (W9).cell? ⟨w.heap.size + 1 + 1 + 1, 3, none⟩ = some (.int .i64 y) := R.cell 3; have R4 : (W9).cell? ⟨w.heap.size + 1 + 1 + 1, 4, none⟩ = some (.int .i64 c') := R.cell 4; have R5 : (W9).cell? ⟨w.heap.size + 1 + 1 + 1, 5, none⟩ = some (.int .i64 z) := R.cell 5; have Rl : w.heap.size + 1 + 1 + 1 < (W9).heap.size := R.lt
        refine bodyPost_ret (v := .agg #[.int .i64 a', .int .i64 x, .int .i64 b', .int .i64 y, .int .i64 c', .int .i64 z]) (by simp [results, Try.results41, go_sem, R0, R1, R2, R3, R4, R5]) rfl ?_
        exact ⟨by rw [HV.out], hR⟩
      · have HV := HY rfl
        clear HY HN
        go_wp2
        have R := ((((((((((lT.far (p := ⟨w.heap.size, 0, none⟩) (by show _ ≠ w.heap.size; omega) (.int .i64 b')).far (p := ⟨w.heap.size, 1, none⟩) (by show _ ≠ w.heap.size; omega) (.int .i64 y)).far (p := ⟨w.heap.size + 1, 0, none⟩) (by show _ ≠ w.heap.size + 1; omega) (.int .i64 a')).far (p := ⟨w.heap.size + 1, 1, none⟩) (by show _ ≠ w.heap.size + 1; omega) (.int .i64 x)).set 0 (.int .i64 b')).set 1 (.int .i64 y)).set 2 (.int .i64 a')).set 3 (.int .i64 x)).set 4 (.int .i64 c')).set 5 (.int .i64 z))
        have hR : Below w.heap.size w ((((((((((w5.setCell ⟨w.heap.size, 0, none⟩ (.int .i64 b')).setCell ⟨w.heap.size, 1, none⟩ (.int .i64 y)).setCell ⟨w.heap.size + 1, 0, none⟩ (.int .i64 a')).setCell ⟨w.heap.size + 1, 1, none⟩ (.int .i64 x)).setCell ⟨w.heap.size + 1 + 1 + 1, 0, none⟩ (.int .i64 b')).setCell ⟨w.heap.size + 1 + 1 + 1, 1, none⟩ (.int .i64 y)).setCell ⟨w.heap.size + 1 + 1 + 1, 2, none⟩ (.int .i64 a')).setCell ⟨w.heap.size + 1 + 1 + 1, 3, none⟩ (.int .i64 x)).setCell ⟨w.heap.size + 1 + 1 + 1, 4, none⟩ (.int .i64 c')).setCell ⟨w.heap.size + 1 + 1 + 1, 5, none⟩ (.int .i64 z)) := by (repeat' (first | (with_reducible exact Below.refl _ _) | (with_reducible refine below_step (by assumption) ?_ ?_) | (with_reducible refine Below.alloc ?_ ?_ _) | (with_reducible refine Below.setCell ?_ ?_ _) | (with_reducible refine below_drewN ?_ _) | (with_reducible refine Below.drew ?_) | omega | (simp; omega) | (simp; done)))
        simp only [List.setIfInBounds_toArray, List.set_cons_zero, List.set_cons_succ] at R
        clear lA lB lC lT lA0 lA1 lAf0 lAf1 lAl lB0 lB1 lBf0 lBf1 lBl lC0 lC1 lCl lT0 lT1 lT2 lT3 lT4 lT5 lTf0 lTf1 lTf2 lTf3 lTf4 lTf5 lTl
        generalize ((((((((((w5.setCell ⟨w.heap.size, 0, none⟩ (.int .i64 b')).setCell ⟨w.heap.size, 1, none⟩ (.int .i64 y)).setCell ⟨w.heap.size + 1, 0, none⟩ (.int .i64 a')).setCell ⟨w.heap.size + 1, 1, none⟩ (.int .i64 x)).setCell ⟨w.heap.size + 1 + 1 + 1, 0, none⟩ (.int .i64 b')).setCell ⟨w.heap.size + 1 + 1 + 1, 1, none⟩ (.int .i64 y)).setCell ⟨w.heap.size + 1 + 1 + 1, 2, none⟩ (.int .i64 a')).setCell ⟨w.heap.size + 1 + 1 + 1, 3, none⟩ (.int .i64 x)).setCell ⟨w.heap.size + 1 + 1 + 1, 4, none⟩ (.int .i64 c')).setCell ⟨w.heap.size + 1 + 1 + 1, 5, none⟩ (.int .i64 z)) = W9 at R hR ⊢
        have R0 : (W9).cell? ⟨w.heap.size + 1 + 1 + 1, 0, none⟩ = some (.int .i64 b') := R.cell 0; have R1 : (W9).cell? ⟨w.heap.size + 1 + 1 + 1, 1, none⟩ = some (.int .i64 y) := R.cell 1; have R2 : (W9).cell? ⟨w.heap.size + 1 + 1 + 1, 2, none⟩ = some (.int .i64 a') := R.cell 2; have R3 : (W9).cell? ⟨w.heap.size + 1 + 1 + 1, 3, none⟩ = some (.int .i64 x) := R.cell 3; have R4 : (W9).cell? ⟨w.heap.size + 1 + 1 + 1, 4, none⟩ = some (.int .i64 c') := R.cell 4; have R5 : (W9).cell? ⟨w.heap.size + 1 + 1 + 1, 5, none⟩ = some (.int .i64 z) := R.cell 5; have Rl : w.heap.size + 1 + 1 + 1 < (W9).heap.size := R.lt
        refine bodyPost_ret (v := .agg #[.int .i64 b', .int .i64 y, .int .i64 a', .int .i64 x, .int .i64 c', .int .i64 z]) (by simp [results, Try.results41, go_sem, R0, R1, R2, R3, R4, R5]) rfl ?_
        exact ⟨by rw [HV.out], hR⟩
end Go.Proofs.Ytcnfjapoopdiaaa
