/- Several texts joined: Sqs SqL. -/
import Derived.Test.YtcnfjapoopdiaaaMgf
import Derived.Test.YtcnfjapoopdiaaaMgd
import Derived.Deep.Cut
/- Sqs -/
namespace Go.Proofs.Ytcnfjapoopdiaaa
open Go.RowKit

set_option maxHeartbeats 2000000 in
theorem c_cnHalf (n d : Int) (ok : Bool) (h : ok = true → frOk n d = true) (w : World) :
    Calls Try.prog 56 #[.agg #[.int .i64 n, .int .i64 d], .bool ok] w fun e w' => e = .returned (.tuple #[.agg #[.int .i64 (rsI (ok && mOk (n * 1) (d * 2)) (mkN (n * 1) (d * 2))), .int .i64 (rsI (ok && mOk (n * 1) (d * 2)) (mkD (n * 1) (d * 2)))], .bool (ok && mOk (n * 1) (d * 2))]) ∧ Below w.heap.size w w' := by
  have k1 := (Blk.new w #[.int .i64 n, .int .i64 d] 25).alloc (.cells #[.int .i64 0, .int .i64 0] 25)
  have k2 := Blk.new (w.alloc (.cells #[.int .i64 n, .int .i64 d] 25)) #[.int .i64 0, .int .i64 0] 25
  have hB : Below w.heap.size w ((w.alloc (.cells #[.int .i64 n, .int .i64 d] 25)).alloc (.cells #[.int .i64 0, .int .i64 0] 25)) := by (repeat' (first | (with_reducible exact Below.refl _ _) | (with_reducible refine below_step (by assumption) ?_ ?_) | (with_reducible refine Below.alloc ?_ ?_ _) | (with_reducible refine Below.setCell ?_ ?_ _) | (with_reducible refine below_drewN ?_ _) | (with_reducible refine Below.drew ?_) | omega | (simp; omega) | (simp; done)))
  simp only [World.size_alloc] at k2
  cases ok
  · go_enter Try.func56, Try.ntmps56
    go_wp2
    refine bodyPost_ret (v := .tuple #[.agg #[.int .i64 0, .int .i64 0], .bool false]) (by simp [results, Try.results56, go_sem]) rfl ⟨rfl, ?_⟩
    (repeat' (first | (with_reducible exact Below.refl _ _) | (with_reducible refine below_step (by assumption) ?_ ?_) | (with_reducible refine Below.alloc ?_ ?_ _) | (with_reducible refine Below.setCell ?_ ?_ _) | (with_reducible refine below_drewN ?_ _) | (with_reducible refine Below.drew ?_) | omega | (simp; omega) | (simp; done)))
  · have hd := fun w => c_frDiv n d 2 1 (h rfl) (by decide) w
    simp only [Bool.true_and]
    generalize rsI (mOk (n * 1) (d * 2)) (mkN (n * 1) (d * 2)) = U at *
    generalize rsI (mOk (n * 1) (d * 2)) (mkD (n * 1) (d * 2)) = V at *
    generalize mOk (n * 1) (d * 2) = m at *
    have HD := Lib.hid hd
    have HI : Hid (∀ w, _) := fun w => c_frInt 2 w
    clear h hd
    go_enter Try.func56, Try.ntmps56
    go_wp2
    generalize (w.alloc _).alloc _ = W at *
    have k10 : (W).cell? ⟨w.heap.size, 0, none⟩ = some (.int .i64 n) := k1.cell 0; have k11 : (W).cell? ⟨w.heap.size, 1, none⟩ = some (.int .i64 d) := k1.cell 1; have k1l : w.heap.size < (W).heap.size := k1.lt
    have hn1 : w.heap.size ∉ [w.heap.size + 1] := by simp
    refine wp_region_cls [w.heap.size + 1] (fun _ => false) (fun _ => True) (Blk (w.heap.size + 1) #[.int .i64 0, .int .i64 0] 25) (by kernel_rfl) (k2) ?_
    apply wpAnyF_hd ⟨W, Over.refl _ _, k2⟩ [true, true, true, true, true] 2 (Blk.closed _ _ _) (fun _ _ => trivial) (by kernel_rfl) (by kernel_rfl) (by kernel_rfl) (by kernel_rfl) (by simp)
    · intro E hE hEN hEn; (repeat (first | (refine wpHL_take ?_; go_big_quiet_step ((first | (go_at_call 50; exact Calls.quiet_cls hE _ (HI.out _)) | (go_at_call 51; exact Calls.quiet_cls hE _ (HD.out _)))); refine wpQuiet_nil ?_) | refine wpHL_skip ?_)); exact wpHL_end rfl
    refine wpAnyF_ready [5] 1 (by kernel_rfl) (by kernel_rfl) (by simp) (AllF.cons ?_ AllF.nil)
    refine stepC_store (v := .agg #[.int .i64 U, .int .i64 V]) (w.heap.size + 1) (#[.int .i64 0, .int .i64 0]) (Blk (w.heap.size + 1) #[.int .i64 U, .int .i64 V] 25) (by rfl) (by rfl) (by rfl) (by rfl) (by rfl) (by rfl) (fun _ => by go_simp) (by rfl) (by simp [Value.cells, one1]) (.inr (by simp)) (fun _ hd => hd) (Blk.closed _ _ _) (fun _ _ _ _ hb => hb) (fun hne => ?_)
    try simp only [Value.cells]
    apply wpAnyF_hd hne [false, false, false, false, false, false, true] 0 (Blk.closed _ _ _) (fun _ _ => trivial) (by kernel_rfl) (by kernel_rfl) (by kernel_rfl) (by kernel_rfl) (by simp)
    · intro E hE hEN hEn; (repeat (first | (refine wpHL_take ?_; go_big_quiet_step ((first | (go_at_call 50; exact Calls.quiet_cls hE _ (HI.out _)) | (go_at_call 51; exact Calls.quiet_cls hE _ (HD.out _)))); refine wpQuiet_nil ?_) | refine wpHL_skip ?_)); exact wpHL_end rfl
    refine wpAnyF_done (by kernel_rfl) (fun Wz hOz hDz => NoPanic.normal ?_) _
    try dsimp only
    have hb1 : Below w.heap.size w Wz := hOz.belowGe hB hB.size (by simp)
    have c0 := hDz.cell 0
    have c1 := hDz.cell 1
    simp only [List.getElem?_toArray, List.getElem?_cons_zero, List.getElem?_cons_succ] at c0 c1
    clear hOz hne
    go_wp2
    refine bodyPost_ret (v := .tuple #[.agg #[.int .i64 U, .int .i64 V], .bool m]) (by simp [results, Try.results56, go_sem, c0, c1]) rfl ?_
    exact ⟨rfl, hb1⟩
set_option maxHeartbeats 4000000 in
theorem c_iSquares_no (n p q r s t u a b c d e' f : Int) (h : vlB n p q r s t u = false) (w : World) :
    Calls Try.prog 14 #[.int .i64 n, .agg #[.int .i64 p, .int .i64 q, .int .i64 r, .int .i64 s, .int .i64 t, .int .i64 u]] w (fr3P w a b c d e' f false) := by
  have HG : Hid (∀ w, _) := fun w => c_isArea n w
  have HF : Hid (∀ w, _) := fun w => c_triangleFits p q r s t u w
  have HV : Hid (vlB n p q r s t u = (areaB n && triOk p q r s t u && tOk p q r s t u && tIs n p q r s t u)) := rfl
  have HH := Lib.hid h
  clear h
  obtain ⟨kT, kA, kB, kC, hB⟩ := box4s w p q r s t u
  have hs := hB.size
  go_enter Try.func14, Try.ntmps14
  go_wp2_with fail
  generalize (((w.alloc _).alloc _).alloc _).alloc _ = W0 at *
  refine (HG.out _).mono ?_
  rintro e w1 ⟨rfl, hb1⟩
  replace kT := kT.next hb1
  replace kA := kA.next hb1
  replace kB := kB.next hb1
  replace kC := kC.next hb1
  replace hB := below_step hb1 hs hB
  replace hs := hB.size
  clear hb1
  cases h1 : areaB n
  · have kA0 : (w1).cell? ⟨w.heap.size + 1, 0, none⟩ = some (.int .i64 0) := kA.cell 0; have kA1 : (w1).cell? ⟨w.heap.size + 1, 1, none⟩ = some (.int .i64 0) := kA.cell 1; have kAf0 : (w1).frozen? ⟨w.heap.size + 1, 0, none⟩ = false := kA.frozen 0; have kAf1 : (w1).frozen? ⟨w.heap.size + 1, 1, none⟩ = false := kA.frozen 1; have kAl : w.heap.size + 1 < (w1).heap.size := kA.lt
    have kB0 : (w1).cell? ⟨w.heap.size + 1 + 1, 0, none⟩ = some (.int .i64 0) := kB.cell 0; have kB1 : (w1).cell? ⟨w.heap.size + 1 + 1, 1, none⟩ = some (.int .i64 0) := kB.cell 1; have kBf0 : (w1).frozen? ⟨w.heap.size + 1 + 1, 0, none⟩ = false := kB.frozen 0; have kBf1 : (w1).frozen? ⟨w.heap.size + 1 + 1, 1, none⟩ = false := kB.frozen 1; have kBl : w.heap.size + 1 + 1 < (w1).heap.size := kB.lt
    have kC0 : (w1).cell? ⟨w.heap.size + 1 + 1 + 1, 0, none⟩ = some (.int .i64 0) := kC.cell 0; have kC1 : (w1).cell? ⟨w.heap.size + 1 + 1 + 1, 1, none⟩ = some (.int .i64 0) := kC.cell 1; have kCf0 : (w1).frozen? ⟨w.heap.size + 1 + 1 + 1, 0, none⟩ = false := kC.frozen 0; have kCf1 : (w1).frozen? ⟨w.heap.size + 1 + 1 + 1, 1, none⟩ = false := kC.frozen 1; have kCl : w.heap.size + 1 + 1 + 1 < (w1).heap.size := kC.lt
    go_wp2
    have RA := ((((((kA.set 0 (.int .i64 0)).set 1 (.int .i64 0)).far (p := ⟨w.heap.size + 1 + 1, 0, none⟩) (by show _ ≠ w.heap.size + 1 + 1; omega) (.int .i64 0)).far (p := ⟨w.heap.size + 1 + 1, 1, none⟩) (by show _ ≠ w.heap.size + 1 + 1; omega) (.int .i64 0)).far (p := ⟨w.heap.size + 1 + 1 + 1, 0, none⟩) (by show _ ≠ w.heap.size + 1 + 1 + 1; omega) (.int .i64 0)).far (p := ⟨w.heap.size + 1 + 1 + 1, 1, none⟩) (by show _ ≠ w.heap.size + 1 + 1 + 1; omega) (.int .i64 0))
    have RB := ((((((kB.far (p := ⟨w.heap.size + 1, 0, none⟩) (by show _ ≠ w.heap.size + 1; omega) (.int .i64 0)).far (p := ⟨w.heap.size + 1, 1, none⟩) (by show _ ≠ w.heap.size + 1; omega) (.int .i64 0)).set 0 (.int .i64 0)).set 1 (.int .i64 0)).far (p := ⟨w.heap.size + 1 + 1 + 1, 0, none⟩) (by show _ ≠ w.heap.size + 1 + 1 + 1; omega) (.int .i64 0)).far (p := ⟨w.heap.size + 1 + 1 + 1, 1, none⟩) (by show _ ≠ w.heap.size + 1 + 1 + 1; omega) (.int .i64 0))
    have RC := ((((((kC.far (p := ⟨w.heap.size + 1, 0, none⟩) (by show _ ≠ w.heap.size + 1; omega) (.int .i64 0)).far (p := ⟨w.heap.size + 1, 1, none⟩) (by show _ ≠ w.heap.size + 1; omega) (.int .i64 0)).far (p := ⟨w.heap.size + 1 + 1, 0, none⟩) (by show _ ≠ w.heap.size + 1 + 1; omega) (.int .i64 0)).far (p := ⟨w.heap.size + 1 + 1, 1, none⟩) (by show _ ≠ w.heap.size + 1 + 1; omega) (.int .i64 0)).set 0 (.int .i64 0)).set 1 (.int .i64 0))
    have hR : Below w.heap.size w ((((((w1.setCell ⟨w.heap.size + 1, 0, none⟩ (.int .i64 0)).setCell ⟨w.heap.size + 1, 1, none⟩ (.int .i64 0)).setCell ⟨w.heap.size + 1 + 1, 0, none⟩ (.int .i64 0)).setCell ⟨w.heap.size + 1 + 1, 1, none⟩ (.int .i64 0)).setCell ⟨w.heap.size + 1 + 1 + 1, 0, none⟩ (.int .i64 0)).setCell ⟨w.heap.size + 1 + 1 + 1, 1, none⟩ (.int .i64 0)) := by (repeat' (first | (with_reducible exact Below.refl _ _) | (with_reducible refine below_step (by assumption) ?_ ?_) | (with_reducible refine Below.alloc ?_ ?_ _) | (with_reducible refine Below.setCell ?_ ?_ _) | (with_reducible refine below_drewN ?_ _) | (with_reducible refine Below.drew ?_) | omega | (simp; omega) | (simp; done)))
    simp only [List.setIfInBounds_toArray, List.set_cons_zero, List.set_cons_succ] at RA RB RC
    clear kA kB kC hB kA0 kA1 kAf0 kAf1 kAl kB0 kB1 kBf0 kBf1 kBl kC0 kC1 kCf0 kCf1 kCl
    generalize ((((((w1.setCell ⟨w.heap.size + 1, 0, none⟩ (.int .i64 0)).setCell ⟨w.heap.size + 1, 1, none⟩ (.int .i64 0)).setCell ⟨w.heap.size + 1 + 1, 0, none⟩ (.int .i64 0)).setCell ⟨w.heap.size + 1 + 1, 1, none⟩ (.int .i64 0)).setCell ⟨w.heap.size + 1 + 1 + 1, 0, none⟩ (.int .i64 0)).setCell ⟨w.heap.size + 1 + 1 + 1, 1, none⟩ (.int .i64 0)) = W9 at RA RB RC hR ⊢
    have RA0 : (W9).cell? ⟨w.heap.size + 1, 0, none⟩ = some (.int .i64 0) := RA.cell 0; have RA1 : (W9).cell? ⟨w.heap.size + 1, 1, none⟩ = some (.int .i64 0) := RA.cell 1; have RAl : w.heap.size + 1 < (W9).heap.size := RA.lt
    have RB0 : (W9).cell? ⟨w.heap.size + 1 + 1, 0, none⟩ = some (.int .i64 0) := RB.cell 0; have RB1 : (W9).cell? ⟨w.heap.size + 1 + 1, 1, none⟩ = some (.int .i64 0) := RB.cell 1; have RBl : w.heap.size + 1 + 1 < (W9).heap.size := RB.lt
    have RC0 : (W9).cell? ⟨w.heap.size + 1 + 1 + 1, 0, none⟩ = some (.int .i64 0) := RC.cell 0; have RC1 : (W9).cell? ⟨w.heap.size + 1 + 1 + 1, 1, none⟩ = some (.int .i64 0) := RC.cell 1; have RCl : w.heap.size + 1 + 1 + 1 < (W9).heap.size := RC.lt
    refine bodyPost_ret (v := .tuple #[.agg #[.int .i64 0, .int .i64 0], .agg #[.int .i64 0, .int .i64 0], .agg #[.int .i64 0, .int .i64 0], .bool false]) (by simp [results, Try.results14, go_sem, RA0, RA1, RB0, RB1, RC0, RC1]) rfl ?_
    exact fr3P_no rfl hR
  · have ha := areaB_of h1
    have kT0 : (w1).cell? ⟨w.heap.size, 0, none⟩ = some (.int .i64 p) := kT.cell 0; have kT1 : (w1).cell? ⟨w.heap.size, 1, none⟩ = some (.int .i64 q) := kT.cell 1; have kT2 : (w1).cell? ⟨w.heap.size, 2, none⟩ = some (.int .i64 r) := kT.cell 2; have kT3 : (w1).cell? ⟨w.heap.size, 3, none⟩ = some (.int .i64 s) := kT.cell 3; have kT4 : (w1).cell? ⟨w.heap.size, 4, none⟩ = some (.int .i64 t) := kT.cell 4; have kT5 : (w1).cell? ⟨w.heap.size, 5, none⟩ = some (.int .i64 u) := kT.cell 5; have kTl : w.heap.size < (w1).heap.size := kT.lt
    go_wp2_with fail
    refine (HF.out _).mono ?_
    rintro e w2 ⟨rfl, hb2⟩
    clear kT0 kT1 kT2 kT3 kT4 kT5 kTl
    replace kT := kT.next hb2
    replace kA := kA.next hb2
    replace kB := kB.next hb2
    replace kC := kC.next hb2
    replace hB := below_step hb2 hs hB
    replace hs := hB.size
    clear hb2
    cases h2 : triOk p q r s t u
    · have kA0 : (w2).cell? ⟨w.heap.size + 1, 0, none⟩ = some (.int .i64 0) := kA.cell 0; have kA1 : (w2).cell? ⟨w.heap.size + 1, 1, none⟩ = some (.int .i64 0) := kA.cell 1; have kAf0 : (w2).frozen? ⟨w.heap.size + 1, 0, none⟩ = false := kA.frozen 0; have kAf1 : (w2).frozen? ⟨w.heap.size + 1, 1, none⟩ = false := kA.frozen 1; have kAl : w.heap.size + 1 < (w2).heap.size := kA.lt
      have kB0 : (w2).cell? ⟨w.heap.size + 1 + 1, 0, none⟩ = some (.int .i64 0) := kB.cell 0; have kB1 : (w2).cell? ⟨w.heap.size + 1 + 1, 1, none⟩ = some (.int .i64 0) := kB.cell 1; have kBf0 : (w2).frozen? ⟨w.heap.size + 1 + 1, 0, none⟩ = false := kB.frozen 0; have kBf1 : (w2).frozen? ⟨w.heap.size + 1 + 1, 1, none⟩ = false := kB.frozen 1; have kBl : w.heap.size + 1 + 1 < (w2).heap.size := kB.lt
      have kC0 : (w2).cell? ⟨w.heap.size + 1 + 1 + 1, 0, none⟩ = some (.int .i64 0) := kC.cell 0; have kC1 : (w2).cell? ⟨w.heap.size + 1 + 1 + 1, 1, none⟩ = some (.int .i64 0) := kC.cell 1; have kCf0 : (w2).frozen? ⟨w.heap.size + 1 + 1 + 1, 0, none⟩ = false := kC.frozen 0; have kCf1 : (w2).frozen? ⟨w.heap.size + 1 + 1 + 1, 1, none⟩ = false := kC.frozen 1; have kCl : w.heap.size + 1 + 1 + 1 < (w2).heap.size := kC.lt
      go_wp2
      have RA := ((((((kA.set 0 (.int .i64 0)).set 1 (.int .i64 0)).far (p := ⟨w.heap.size + 1 + 1, 0, none⟩) (by show _ ≠ w.heap.size + 1 + 1; omega) (.int .i64 0)).far (p := ⟨w.heap.size + 1 + 1, 1, none⟩) (by show _ ≠ w.heap.size + 1 + 1; omega) (.int .i64 0)).far (p := ⟨w.heap.size + 1 + 1 + 1, 0, none⟩) (by show _ ≠ w.heap.size + 1 + 1 + 1; omega) (.int .i64 0)).far (p := ⟨w.heap.size + 1 + 1 + 1, 1, none⟩) (by show _ ≠ w.heap.size + 1 + 1 + 1; omega) (.int .i64 0))
      have RB := ((((((kB.far (p := ⟨w.heap.size + 1, 0, none⟩) (by show _ ≠ w.heap.size + 1; omega) (.int .i64 0)).far (p := ⟨w.heap.size + 1, 1, none⟩) (by show _ ≠ w.heap.size + 1; omega) (.int .i64 0)).set 0 (.int .i64 0)).set 1 (.int .i64 0)).far (p := ⟨w.heap.size + 1 + 1 + 1, 0, none⟩) (by show _ ≠ w.heap.size + 1 + 1 + 1; omega) (.int .i64 0)).far (p := ⟨w.heap.size + 1 + 1 + 1, 1, none⟩) (by show _ ≠ w.heap.size + 1 + 1 + 1; omega) (.int .i64 0))
      have RC := ((((((kC.far (p := ⟨w.heap.size + 1, 0, none⟩) (by show _ ≠ w.heap.size + 1; omega) (.int .i64 0)).far (p := ⟨w.heap.size + 1, 1, none⟩) (by show _ ≠ w.heap.size + 1; omega) (.int .i64 0)).far (p := ⟨w.heap.size + 1 + 1, 0, none⟩) (by show _ ≠ w.heap.size + 1 + 1; omega) (.int .i64 0)).far (p := ⟨w.heap.size + 1 + 1, 1, none⟩) (by show _ ≠ w.heap.size + 1 + 1; omega) (.int .i64 0)).set 0 (.int .i64 0)).set 1 (.int .i64 0))
      have hR : Below w.heap.size w ((((((w2.setCell ⟨w.heap.size + 1, 0, none⟩ (.int .i64 0)).setCell ⟨w.heap.size + 1, 1, none⟩ (.int .i64 0)).setCell ⟨w.heap.size + 1 + 1, 0, none⟩ (.int .i64 0)).setCell ⟨w.heap.size + 1 + 1, 1, none⟩ (.int .i64 0)).setCell ⟨w.heap.size + 1 + 1 + 1, 0, none⟩ (.int .i64 0)).setCell ⟨w.heap.size + 1 + 1 + 1, 1, none⟩ (.int .i64 0)) := by (repeat' (first | (with_reducible exact Below.refl _ _) | (with_reducible refine below_step (by assumption) ?_ ?_) | (with_reducible refine Below.alloc ?_ ?_ _) | (with_reducible refine Below.setCell ?_ ?_ _) | (with_reducible refine below_drewN ?_ _) | (with_reducible refine Below.drew ?_) | omega | (simp; omega) | (simp; done)))
      simp only [List.setIfInBounds_toArray, List.set_cons_zero, List.set_cons_succ] at RA RB RC
      clear kA kB kC hB kA0 kA1 kAf0 kAf1 kAl kB0 kB1 kBf0 kBf1 kBl kC0 kC1 kCf0 kCf1 kCl
      generalize ((((((w2.setCell ⟨w.heap.size + 1, 0, none⟩ (.int .i64 0)).setCell ⟨w.heap.size + 1, 1, none⟩ (.int .i64 0)).setCell ⟨w.heap.size + 1 + 1, 0, none⟩ (.int .i64 0)).setCell ⟨w.heap.size + 1 + 1, 1, none⟩ (.int .i64 0)).setCell ⟨w.heap.size + 1 + 1 + 1, 0, none⟩ (.int .i64 0)).setCell ⟨w.heap.size + 1 + 1 + 1, 1, none⟩ (.int .i64 0)) = W9 at RA RB RC hR ⊢
      have RA0 : (W9).cell? ⟨w.heap.size + 1, 0, none⟩ = some (.int .i64 0) := RA.cell 0; have RA1 : (W9).cell? ⟨w.heap.size + 1, 1, none⟩ = some (.int .i64 0) := RA.cell 1; have RAl : w.heap.size + 1 < (W9).heap.size := RA.lt
      have RB0 : (W9).cell? ⟨w.heap.size + 1 + 1, 0, none⟩ = some (.int .i64 0) := RB.cell 0; have RB1 : (W9).cell? ⟨w.heap.size + 1 + 1, 1, none⟩ = some (.int .i64 0) := RB.cell 1; have RBl : w.heap.size + 1 + 1 < (W9).heap.size := RB.lt
      have RC0 : (W9).cell? ⟨w.heap.size + 1 + 1 + 1, 0, none⟩ = some (.int .i64 0) := RC.cell 0; have RC1 : (W9).cell? ⟨w.heap.size + 1 + 1 + 1, 1, none⟩ = some (.int .i64 0) := RC.cell 1; have RCl : w.heap.size + 1 + 1 + 1 < (W9).heap.size := RC.lt
      refine bodyPost_ret (v := .tuple #[.agg #[.int .i64 0, .int .i64 0], .agg #[.int .i64 0, .int .i64 0], .agg #[.int .i64 0, .int .i64 0], .bool false]) (by simp [results, Try.results14, go_sem, RA0, RA1, RB0, RB1, RC0, RC1]) rfl ?_
      exact fr3P_no rfl hR
    · have hi := fun w => c_isTriangle n p q r s t u ha h2 w
      have hm : (tOk p q r s t u && tIs n p q r s t u) = false := by have := HH.out; rw [HV.out, h1, h2] at this; simpa using this
      generalize tOk p q r s t u = o at *
      generalize tIs n p q r s t u = i at *
      have HI := Lib.hid hi
      clear hi HH HV
      have kT0 : (w2).cell? ⟨w.heap.size, 0, none⟩ = some (.int .i64 p) := kT.cell 0; have kT1 : (w2).cell? ⟨w.heap.size, 1, none⟩ = some (.int .i64 q) := kT.cell 1; have kT2 : (w2).cell? ⟨w.heap.size, 2, none⟩ = some (.int .i64 r) := kT.cell 2; have kT3 : (w2).cell? ⟨w.heap.size, 3, none⟩ = some (.int .i64 s) := kT.cell 3; have kT4 : (w2).cell? ⟨w.heap.size, 4, none⟩ = some (.int .i64 t) := kT.cell 4; have kT5 : (w2).cell? ⟨w.heap.size, 5, none⟩ = some (.int .i64 u) := kT.cell 5; have kTl : w.heap.size < (w2).heap.size := kT.lt
      go_wp2_with fail
      refine (HI.out _).mono ?_
      rintro e w3 ⟨rfl, hb3⟩
      clear kT0 kT1 kT2 kT3 kT4 kT5 kTl
      replace kT := kT.next hb3
      replace kA := kA.next hb3
      replace kB := kB.next hb3
      replace kC := kC.next hb3
      replace hB := below_step hb3 hs hB
      replace hs := hB.size
      clear hb3
      have kA0 : (w3).cell? ⟨w.heap.size + 1, 0, none⟩ = some (.int .i64 0) := kA.cell 0; have kA1 : (w3).cell? ⟨w.heap.size + 1, 1, none⟩ = some (.int .i64 0) := kA.cell 1; have kAf0 : (w3).frozen? ⟨w.heap.size + 1, 0, none⟩ = false := kA.frozen 0; have kAf1 : (w3).frozen? ⟨w.heap.size + 1, 1, none⟩ = false := kA.frozen 1; have kAl : w.heap.size + 1 < (w3).heap.size := kA.lt
      have kB0 : (w3).cell? ⟨w.heap.size + 1 + 1, 0, none⟩ = some (.int .i64 0) := kB.cell 0; have kB1 : (w3).cell? ⟨w.heap.size + 1 + 1, 1, none⟩ = some (.int .i64 0) := kB.cell 1; have kBf0 : (w3).frozen? ⟨w.heap.size + 1 + 1, 0, none⟩ = false := kB.frozen 0; have kBf1 : (w3).frozen? ⟨w.heap.size + 1 + 1, 1, none⟩ = false := kB.frozen 1; have kBl : w.heap.size + 1 + 1 < (w3).heap.size := kB.lt
      have kC0 : (w3).cell? ⟨w.heap.size + 1 + 1 + 1, 0, none⟩ = some (.int .i64 0) := kC.cell 0; have kC1 : (w3).cell? ⟨w.heap.size + 1 + 1 + 1, 1, none⟩ = some (.int .i64 0) := kC.cell 1; have kCf0 : (w3).frozen? ⟨w.heap.size + 1 + 1 + 1, 0, none⟩ = false := kC.frozen 0; have kCf1 : (w3).frozen? ⟨w.heap.size + 1 + 1 + 1, 1, none⟩ = false := kC.frozen 1; have kCl : w.heap.size + 1 + 1 + 1 < (w3).heap.size := kC.lt
      clear HI
      cases o
      · go_wp2
        have RA := ((((((kA.set 0 (.int .i64 0)).set 1 (.int .i64 0)).far (p := ⟨w.heap.size + 1 + 1, 0, none⟩) (by show _ ≠ w.heap.size + 1 + 1; omega) (.int .i64 0)).far (p := ⟨w.heap.size + 1 + 1, 1, none⟩) (by show _ ≠ w.heap.size + 1 + 1; omega) (.int .i64 0)).far (p := ⟨w.heap.size + 1 + 1 + 1, 0, none⟩) (by show _ ≠ w.heap.size + 1 + 1 + 1; omega) (.int .i64 0)).far (p := ⟨w.heap.size + 1 + 1 + 1, 1, none⟩) (by show _ ≠ w.heap.size + 1 + 1 + 1; omega) (.int .i64 0))
        have RB := ((((((kB.far (p := ⟨w.heap.size + 1, 0, none⟩) (by show _ ≠ w.heap.size + 1; omega) (.int .i64 0)).far (p := ⟨w.heap.size + 1, 1, none⟩) (by show _ ≠ w.heap.size + 1; omega) (.int .i64 0)).set 0 (.int .i64 0)).set 1 (.int .i64 0)).far (p := ⟨w.heap.size + 1 + 1 + 1, 0, none⟩) (by show _ ≠ w.heap.size + 1 + 1 + 1; omega) (.int .i64 0)).far (p := ⟨w.heap.size + 1 + 1 + 1, 1, none⟩) (by show _ ≠ w.heap.size + 1 + 1 + 1; omega) (.int .i64 0))
        have RC := ((((((kC.far (p := ⟨w.heap.size + 1, 0, none⟩) (by show _ ≠ w.heap.size + 1; omega) (.int .i64 0)).far (p := ⟨w.heap.size + 1, 1, none⟩) (by show _ ≠ w.heap.size + 1; omega) (.int .i64 0)).far (p := ⟨w.heap.size + 1 + 1, 0, none⟩) (by show _ ≠ w.heap.size + 1 + 1; omega) (.int .i64 0)).far (p := ⟨w.heap.size + 1 + 1, 1, none⟩) (by show _ ≠ w.heap.size + 1 + 1; omega) (.int .i64 0)).set 0 (.int .i64 0)).set 1 (.int .i64 0))
        have hR : Below w.heap.size w ((((((w3.setCell ⟨w.heap.size + 1, 0, none⟩ (.int .i64 0)).setCell ⟨w.heap.size + 1, 1, none⟩ (.int .i64 0)).setCell ⟨w.heap.size + 1 + 1, 0, none⟩ (.int .i64 0)).setCell ⟨w.heap.size + 1 + 1, 1, none⟩ (.int .i64 0)).setCell ⟨w.heap.size + 1 + 1 + 1, 0, none⟩ (.int .i64 0)).setCell ⟨w.heap.size + 1 + 1 + 1, 1, none⟩ (.int .i64 0)) := by (repeat' (first | (with_reducible exact Below.refl _ _) | (with_reducible refine below_step (by assumption) ?_ ?_) | (with_reducible refine Below.alloc ?_ ?_ _) | (with_reducible refine Below.setCell ?_ ?_ _) | (with_reducible refine below_drewN ?_ _) | (with_reducible refine Below.drew ?_) | omega | (simp; omega) | (simp; done)))
        simp only [List.setIfInBounds_toArray, List.set_cons_zero, List.set_cons_succ] at RA RB RC
        clear kA kB kC hB kA0 kA1 kAf0 kAf1 kAl kB0 kB1 kBf0 kBf1 kBl kC0 kC1 kCf0 kCf1 kCl
        generalize ((((((w3.setCell ⟨w.heap.size + 1, 0, none⟩ (.int .i64 0)).setCell ⟨w.heap.size + 1, 1, none⟩ (.int .i64 0)).setCell ⟨w.heap.size + 1 + 1, 0, none⟩ (.int .i64 0)).setCell ⟨w.heap.size + 1 + 1, 1, none⟩ (.int .i64 0)).setCell ⟨w.heap.size + 1 + 1 + 1, 0, none⟩ (.int .i64 0)).setCell ⟨w.heap.size + 1 + 1 + 1, 1, none⟩ (.int .i64 0)) = W9 at RA RB RC hR ⊢
        have RA0 : (W9).cell? ⟨w.heap.size + 1, 0, none⟩ = some (.int .i64 0) := RA.cell 0; have RA1 : (W9).cell? ⟨w.heap.size + 1, 1, none⟩ = some (.int .i64 0) := RA.cell 1; have RAl : w.heap.size + 1 < (W9).heap.size := RA.lt
        have RB0 : (W9).cell? ⟨w.heap.size + 1 + 1, 0, none⟩ = some (.int .i64 0) := RB.cell 0; have RB1 : (W9).cell? ⟨w.heap.size + 1 + 1, 1, none⟩ = some (.int .i64 0) := RB.cell 1; have RBl : w.heap.size + 1 + 1 < (W9).heap.size := RB.lt
        have RC0 : (W9).cell? ⟨w.heap.size + 1 + 1 + 1, 0, none⟩ = some (.int .i64 0) := RC.cell 0; have RC1 : (W9).cell? ⟨w.heap.size + 1 + 1 + 1, 1, none⟩ = some (.int .i64 0) := RC.cell 1; have RCl : w.heap.size + 1 + 1 + 1 < (W9).heap.size := RC.lt
        refine bodyPost_ret (v := .tuple #[.agg #[.int .i64 0, .int .i64 0], .agg #[.int .i64 0, .int .i64 0], .agg #[.int .i64 0, .int .i64 0], .bool false]) (by simp [results, Try.results14, go_sem, RA0, RA1, RB0, RB1, RC0, RC1]) rfl ?_
        exact fr3P_no rfl hR
      · obtain rfl : i = false := by simpa using hm
        go_wp2
        have RA := ((((((kA.set 0 (.int .i64 0)).set 1 (.int .i64 0)).far (p := ⟨w.heap.size + 1 + 1, 0, none⟩) (by show _ ≠ w.heap.size + 1 + 1; omega) (.int .i64 0)).far (p := ⟨w.heap.size + 1 + 1, 1, none⟩) (by show _ ≠ w.heap.size + 1 + 1; omega) (.int .i64 0)).far (p := ⟨w.heap.size + 1 + 1 + 1, 0, none⟩) (by show _ ≠ w.heap.size + 1 + 1 + 1; omega) (.int .i64 0)).far (p := ⟨w.heap.size + 1 + 1 + 1, 1, none⟩) (by show _ ≠ w.heap.size + 1 + 1 + 1; omega) (.int .i64 0))
        have RB := ((((((kB.far (p := ⟨w.heap.size + 1, 0, none⟩) (by show _ ≠ w.heap.size + 1; omega) (.int .i64 0)).far (p := ⟨w.heap.size + 1, 1, none⟩) (by show _ ≠ w.heap.size + 1; omega) (.int .i64 0)).set 0 (.int .i64 0)).set 1 (.int .i64 0)).far (p := ⟨w.heap.size + 1 + 1 + 1, 0, none⟩) (by show _ ≠ w.heap.size + 1 + 1 + 1; omega) (.int .i64 0)).far (p := ⟨w.heap.size + 1 + 1 + 1, 1, none⟩) (by show _ ≠ w.heap.size + 1 + 1 + 1; omega) (.int .i64 0))
        have RC := ((((((kC.far (p := ⟨w.heap.size + 1, 0, none⟩) (by show _ ≠ w.heap.size + 1; omega) (.int .i64 0)).far (p := ⟨w.heap.size + 1, 1, none⟩) (by show _ ≠ w.heap.size + 1; omega) (.int .i64 0)).far (p := ⟨w.heap.size + 1 + 1, 0, none⟩) (by show _ ≠ w.heap.size + 1 + 1; omega) (.int .i64 0)).far (p := ⟨w.heap.size + 1 + 1, 1, none⟩) (by show _ ≠ w.heap.size + 1 + 1; omega) (.int .i64 0)).set 0 (.int .i64 0)).set 1 (.int .i64 0))
        have hR : Below w.heap.size w ((((((w3.setCell ⟨w.heap.size + 1, 0, none⟩ (.int .i64 0)).setCell ⟨w.heap.size + 1, 1, none⟩ (.int .i64 0)).setCell ⟨w.heap.size + 1 + 1, 0, none⟩ (.int .i64 0)).setCell ⟨w.heap.size + 1 + 1, 1, none⟩ (.int .i64 0)).setCell ⟨w.heap.size + 1 + 1 + 1, 0, none⟩ (.int .i64 0)).setCell ⟨w.heap.size + 1 + 1 + 1, 1, none⟩ (.int .i64 0)) := by (repeat' (first | (with_reducible exact Below.refl _ _) | (with_reducible refine below_step (by assumption) ?_ ?_) | (with_reducible refine Below.alloc ?_ ?_ _) | (with_reducible refine Below.setCell ?_ ?_ _) | (with_reducible refine below_drewN ?_ _) | (with_reducible refine Below.drew ?_) | omega | (simp; omega) | (simp; done)))
        simp only [List.setIfInBounds_toArray, List.set_cons_zero, List.set_cons_succ] at RA RB RC
        clear kA kB kC hB kA0 kA1 kAf0 kAf1 kAl kB0 kB1 kBf0 kBf1 kBl kC0 kC1 kCf0 kCf1 kCl
        generalize ((((((w3.setCell ⟨w.heap.size + 1, 0, none⟩ (.int .i64 0)).setCell ⟨w.heap.size + 1, 1, none⟩ (.int .i64 0)).setCell ⟨w.heap.size + 1 + 1, 0, none⟩ (.int .i64 0)).setCell ⟨w.heap.size + 1 + 1, 1, none⟩ (.int .i64 0)).setCell ⟨w.heap.size + 1 + 1 + 1, 0, none⟩ (.int .i64 0)).setCell ⟨w.heap.size + 1 + 1 + 1, 1, none⟩ (.int .i64 0)) = W9 at RA RB RC hR ⊢
        have RA0 : (W9).cell? ⟨w.heap.size + 1, 0, none⟩ = some (.int .i64 0) := RA.cell 0; have RA1 : (W9).cell? ⟨w.heap.size + 1, 1, none⟩ = some (.int .i64 0) := RA.cell 1; have RAl : w.heap.size + 1 < (W9).heap.size := RA.lt
        have RB0 : (W9).cell? ⟨w.heap.size + 1 + 1, 0, none⟩ = some (.int .i64 0) := RB.cell 0; have RB1 : (W9).cell? ⟨w.heap.size + 1 + 1, 1, none⟩ = some (.int .i64 0) := RB.cell 1; have RBl : w.heap.size + 1 + 1 < (W9).heap.size := RB.lt
        have RC0 : (W9).cell? ⟨w.heap.size + 1 + 1 + 1, 0, none⟩ = some (.int .i64 0) := RC.cell 0; have RC1 : (W9).cell? ⟨w.heap.size + 1 + 1 + 1, 1, none⟩ = some (.int .i64 0) := RC.cell 1; have RCl : w.heap.size + 1 + 1 + 1 < (W9).heap.size := RC.lt
        refine bodyPost_ret (v := .tuple #[.agg #[.int .i64 0, .int .i64 0], .agg #[.int .i64 0, .int .i64 0], .agg #[.int .i64 0, .int .i64 0], .bool false]) (by simp [results, Try.results14, go_sem, RA0, RA1, RB0, RB1, RC0, RC1]) rfl ?_
        exact fr3P_no rfl hR
set_option maxHeartbeats 8000000 in
theorem c_sSquares_no (n p q r s t u a b c d e' f : Int) (h : vlB n p q r s t u = false) (w : World) :
    Calls Try.prog 15 #[.int .i64 n, .agg #[.int .i64 p, .int .i64 q, .int .i64 r, .int .i64 s, .int .i64 t, .int .i64 u]] w (fr3P w a b c d e' f false) := by
  have HV : Hid (∀ w, _) := fun w => c_cnValid n p q r s t u w
  rw [h] at HV
  clear h
  obtain ⟨kT, kA, kB, kC, hB⟩ := box4s w p q r s t u
  have hs := hB.size
  go_enter Try.func15, Try.ntmps15
  go_wp2_with fail
  generalize (((w.alloc _).alloc _).alloc _).alloc _ = W0 at *
  have kT0 : (W0).cell? ⟨w.heap.size, 0, none⟩ = some (.int .i64 p) := kT.cell 0; have kT1 : (W0).cell? ⟨w.heap.size, 1, none⟩ = some (.int .i64 q) := kT.cell 1; have kT2 : (W0).cell? ⟨w.heap.size, 2, none⟩ = some (.int .i64 r) := kT.cell 2; have kT3 : (W0).cell? ⟨w.heap.size, 3, none⟩ = some (.int .i64 s) := kT.cell 3; have kT4 : (W0).cell? ⟨w.heap.size, 4, none⟩ = some (.int .i64 t) := kT.cell 4; have kT5 : (W0).cell? ⟨w.heap.size, 5, none⟩ = some (.int .i64 u) := kT.cell 5; have kTl : w.heap.size < (W0).heap.size := kT.lt
  go_wp2_with fail
  refine (HV.out _).mono ?_
  rintro e w1 ⟨rfl, hb1⟩
  clear kT0 kT1 kT2 kT3 kT4 kT5 kTl
  replace kT := kT.next hb1
  replace kA := kA.next hb1
  replace kB := kB.next hb1
  replace kC := kC.next hb1
  replace hB := below_step hb1 hs hB
  replace hs := hB.size
  have kA0 : (w1).cell? ⟨w.heap.size + 1, 0, none⟩ = some (.int .i64 0) := kA.cell 0; have kA1 : (w1).cell? ⟨w.heap.size + 1, 1, none⟩ = some (.int .i64 0) := kA.cell 1; have kAf0 : (w1).frozen? ⟨w.heap.size + 1, 0, none⟩ = false := kA.frozen 0; have kAf1 : (w1).frozen? ⟨w.heap.size + 1, 1, none⟩ = false := kA.frozen 1; have kAl : w.heap.size + 1 < (w1).heap.size := kA.lt
  have kB0 : (w1).cell? ⟨w.heap.size + 1 + 1, 0, none⟩ = some (.int .i64 0) := kB.cell 0; have kB1 : (w1).cell? ⟨w.heap.size + 1 + 1, 1, none⟩ = some (.int .i64 0) := kB.cell 1; have kBf0 : (w1).frozen? ⟨w.heap.size + 1 + 1, 0, none⟩ = false := kB.frozen 0; have kBf1 : (w1).frozen? ⟨w.heap.size + 1 + 1, 1, none⟩ = false := kB.frozen 1; have kBl : w.heap.size + 1 + 1 < (w1).heap.size := kB.lt
  have kC0 : (w1).cell? ⟨w.heap.size + 1 + 1 + 1, 0, none⟩ = some (.int .i64 0) := kC.cell 0; have kC1 : (w1).cell? ⟨w.heap.size + 1 + 1 + 1, 1, none⟩ = some (.int .i64 0) := kC.cell 1; have kCf0 : (w1).frozen? ⟨w.heap.size + 1 + 1 + 1, 0, none⟩ = false := kC.frozen 0; have kCf1 : (w1).frozen? ⟨w.heap.size + 1 + 1 + 1, 1, none⟩ = false := kC.frozen 1; have kCl : w.heap.size + 1 + 1 + 1 < (w1).heap.size := kC.lt
  go_wp2
  have RA := ((((((kA.set 0 (.int .i64 0)).set 1 (.int .i64 0)).far (p := ⟨w.heap.size + 1 + 1, 0, none⟩) (by show _ ≠ w.heap.size + 1 + 1; omega) (.int .i64 0)).far (p := ⟨w.heap.size + 1 + 1, 1, none⟩) (by show _ ≠ w.heap.size + 1 + 1; omega) (.int .i64 0)).far (p := ⟨w.heap.size + 1 + 1 + 1, 0, none⟩) (by show _ ≠ w.heap.size + 1 + 1 + 1; omega) (.int .i64 0)).far (p := ⟨w.heap.size + 1 + 1 + 1, 1, none⟩) (by show _ ≠ w.heap.size + 1 + 1 + 1; omega) (.int .i64 0))
  have RB := ((((((kB.far (p := ⟨w.heap.size + 1, 0, none⟩) (by show _ ≠ w.heap.size + 1; omega) (.int .i64 0)).far (p := ⟨w.heap.size + 1, 1, none⟩) (by show _ ≠ w.heap.size + 1; omega) (.int .i64 0)).set 0 (.int .i64 0)).set 1 (.int .i64 0)).far (p := ⟨w.heap.size + 1 + 1 + 1, 0, none⟩) (by show _ ≠ w.heap.size + 1 + 1 + 1; omega) (.int .i64 0)).far (p := ⟨w.heap.size + 1 + 1 + 1, 1, none⟩) (by show _ ≠ w.heap.size + 1 + 1 + 1; omega) (.int .i64 0))
  have RC := ((((((kC.far (p := ⟨w.heap.size + 1, 0, none⟩) (by show _ ≠ w.heap.size + 1; omega) (.int .i64 0)).far (p := ⟨w.heap.size + 1, 1, none⟩) (by show _ ≠ w.heap.size + 1; omega) (.int .i64 0)).far (p := ⟨w.heap.size + 1 + 1, 0, none⟩) (by show _ ≠ w.heap.size + 1 + 1; omega) (.int .i64 0)).far (p := ⟨w.heap.size + 1 + 1, 1, none⟩) (by show _ ≠ w.heap.size + 1 + 1; omega) (.int .i64 0)).set 0 (.int .i64 0)).set 1 (.int .i64 0))
  have hR : Below w.heap.size w ((((((w1.setCell ⟨w.heap.size + 1, 0, none⟩ (.int .i64 0)).setCell ⟨w.heap.size + 1, 1, none⟩ (.int .i64 0)).setCell ⟨w.heap.size + 1 + 1, 0, none⟩ (.int .i64 0)).setCell ⟨w.heap.size + 1 + 1, 1, none⟩ (.int .i64 0)).setCell ⟨w.heap.size + 1 + 1 + 1, 0, none⟩ (.int .i64 0)).setCell ⟨w.heap.size + 1 + 1 + 1, 1, none⟩ (.int .i64 0)) := by (repeat' (first | (with_reducible exact Below.refl _ _) | (with_reducible refine below_step (by assumption) ?_ ?_) | (with_reducible refine Below.alloc ?_ ?_ _) | (with_reducible refine Below.setCell ?_ ?_ _) | (with_reducible refine below_drewN ?_ _) | (with_reducible refine Below.drew ?_) | omega | (simp; omega) | (simp; done)))
  simp only [List.setIfInBounds_toArray, List.set_cons_zero, List.set_cons_succ] at RA RB RC
  clear kA kB kC hB kA0 kA1 kAf0 kAf1 kAl kB0 kB1 kBf0 kBf1 kBl kC0 kC1 kCf0 kCf1 kCl
  generalize ((((((w1.setCell ⟨w.heap.size + 1, 0, none⟩ (.int .i64 0)).setCell ⟨w.heap.size + 1, 1, none⟩ (.int .i64 0)).setCell ⟨w.heap.size + 1 + 1, 0, none⟩ (.int .i64 0)).setCell ⟨w.heap.size + 1 + 1, 1, none⟩ (.int .i64 0)).setCell ⟨w.heap.size + 1 + 1 + 1, 0, none⟩ (.int .i64 0)).setCell ⟨w.heap.size + 1 + 1 + 1, 1, none⟩ (.int .i64 0)) = W9 at RA RB RC hR ⊢
  have RA0 : (W9).cell? ⟨w.heap.size + 1, 0, none⟩ = some (.int .i64 0) := RA.cell 0; have RA1 : (W9).cell? ⟨w.heap.size + 1, 1, none⟩ = some (.int .i64 0) := RA.cell 1; have RAl : w.heap.size + 1 < (W9).heap.size := RA.lt
  have RB0 : (W9).cell? ⟨w.heap.size + 1 + 1, 0, none⟩ = some (.int .i64 0) := RB.cell 0; have RB1 : (W9).cell? ⟨w.heap.size + 1 + 1, 1, none⟩ = some (.int .i64 0) := RB.cell 1; have RBl : w.heap.size + 1 + 1 < (W9).heap.size := RB.lt
  have RC0 : (W9).cell? ⟨w.heap.size + 1 + 1 + 1, 0, none⟩ = some (.int .i64 0) := RC.cell 0; have RC1 : (W9).cell? ⟨w.heap.size + 1 + 1 + 1, 1, none⟩ = some (.int .i64 0) := RC.cell 1; have RCl : w.heap.size + 1 + 1 + 1 < (W9).heap.size := RC.lt
  refine bodyPost_ret (v := .tuple #[.agg #[.int .i64 0, .int .i64 0], .agg #[.int .i64 0, .int .i64 0], .agg #[.int .i64 0, .int .i64 0], .bool false]) (by simp [results, Try.results15, go_sem, RA0, RA1, RB0, RB1, RC0, RC1]) rfl ?_
  exact fr3P_no rfl hR
set_option maxHeartbeats 8000000 in
theorem c_sSquares_of (n p q r s t u n1 d1 x2 y2 x3 y3 n4 d4 x5 y5 : Int) (m1 m2 m3 m4 m5 : Bool) (h : vlB n p q r s t u = true)
    (H1 : Hid (∀ w : World, Calls Try.prog 57 #[.agg #[.int .i64 r, .int .i64 s], .agg #[.int .i64 p, .int .i64 q]] w fun e w' => e = .returned (.tuple #[.agg #[.int .i64 n1, .int .i64 d1], .bool m1]) ∧ Below w.heap.size w w'))
    (H2 : Hid (∀ w : World, Calls Try.prog 56 #[.agg #[.int .i64 n1, .int .i64 d1], .bool m1] w fun e w' => e = .returned (.tuple #[.agg #[.int .i64 x2, .int .i64 y2], .bool m2]) ∧ Below w.heap.size w w'))
    (H3 : Hid (∀ w : World, Calls Try.prog 56 #[.agg #[.int .i64 t, .int .i64 u], .bool true] w fun e w' => e = .returned (.tuple #[.agg #[.int .i64 x3, .int .i64 y3], .bool m3]) ∧ Below w.heap.size w w'))
    (H4 : Hid (∀ w : World, Calls Try.prog 48 #[.agg #[.int .i64 p, .int .i64 q], .agg #[.int .i64 r, .int .i64 s]] w fun e w' => e = .returned (.tuple #[.agg #[.int .i64 n4, .int .i64 d4], .bool m4]) ∧ Below w.heap.size w w'))
    (H5 : Hid (∀ w : World, Calls Try.prog 56 #[.agg #[.int .i64 n4, .int .i64 d4], .bool m4] w fun e w' => e = .returned (.tuple #[.agg #[.int .i64 x5, .int .i64 y5], .bool m5]) ∧ Below w.heap.size w w')) (w : World) :
    Calls Try.prog 15 #[.int .i64 n, .agg #[.int .i64 p, .int .i64 q, .int .i64 r, .int .i64 s, .int .i64 t, .int .i64 u]] w (fr3P w x2 y2 x3 y3 x5 y5 (m2 && m3 && m5)) := by
  have HV : Hid (∀ w, _) := fun w => c_cnValid n p q r s t u w
  rw [h] at HV
  clear h
  obtain ⟨o, ho⟩ : ∃ o, (m2 && m3 && m5) = o := ⟨_, rfl⟩
  rw [ho]
  have HO := Lib.hid ho
  clear ho
  obtain ⟨kT, kA, kB, kC, hB⟩ := box4s w p q r s t u
  have hs := hB.size
  go_enter Try.func15, Try.ntmps15
  go_wp2_with fail
  generalize (((w.alloc _).alloc _).alloc _).alloc _ = W0 at *
  have kT0 : (W0).cell? ⟨w.heap.size, 0, none⟩ = some (.int .i64 p) := kT.cell 0; have kT1 : (W0).cell? ⟨w.heap.size, 1, none⟩ = some (.int .i64 q) := kT.cell 1; have kT2 : (W0).cell? ⟨w.heap.size, 2, none⟩ = some (.int .i64 r) := kT.cell 2; have kT3 : (W0).cell? ⟨w.heap.size, 3, none⟩ = some (.int .i64 s) := kT.cell 3; have kT4 : (W0).cell? ⟨w.heap.size, 4, none⟩ = some (.int .i64 t) := kT.cell 4; have kT5 : (W0).cell? ⟨w.heap.size, 5, none⟩ = some (.int .i64 u) := kT.cell 5; have kTl : w.heap.size < (W0).heap.size := kT.lt
  go_wp2_with fail
  refine (HV.out _).mono ?_
  rintro e w1 ⟨rfl, hb1⟩
  clear kT0 kT1 kT2 kT3 kT4 kT5 kTl
  replace kT := kT.next hb1
  replace kA := kA.next hb1
  replace kB := kB.next hb1
  replace kC := kC.next hb1
  replace hB := below_step hb1 hs hB
  replace hs := hB.size
  have kT0 : (w1).cell? ⟨w.heap.size, 0, none⟩ = some (.int .i64 p) := kT.cell 0; have kT1 : (w1).cell? ⟨w.heap.size, 1, none⟩ = some (.int .i64 q) := kT.cell 1; have kT2 : (w1).cell? ⟨w.heap.size, 2, none⟩ = some (.int .i64 r) := kT.cell 2; have kT3 : (w1).cell? ⟨w.heap.size, 3, none⟩ = some (.int .i64 s) := kT.cell 3; have kT4 : (w1).cell? ⟨w.heap.size, 4, none⟩ = some (.int .i64 t) := kT.cell 4; have kT5 : (w1).cell? ⟨w.heap.size, 5, none⟩ = some (.int .i64 u) := kT.cell 5; have kTl : w.heap.size < (w1).heap.size := kT.lt
  go_wp2_with fail
  refine (H1.out _).mono ?_
  rintro e w2 ⟨rfl, hb2⟩
  replace kT := kT.next hb2
  replace kA := kA.next hb2
  replace kB := kB.next hb2
  replace kC := kC.next hb2
  replace hB := below_step hb2 hs hB
  replace hs := hB.size
  go_wp2_with fail
  refine (H2.out _).mono ?_
  rintro e w3 ⟨rfl, hb3⟩
  clear kT0 kT1 kT2 kT3 kT4 kT5 kTl
  replace kT := kT.next hb3
  replace kA := kA.next hb3
  replace kB := kB.next hb3
  replace kC := kC.next hb3
  replace hB := below_step hb3 hs hB
  replace hs := hB.size
  have kT0 : (w3).cell? ⟨w.heap.size, 0, none⟩ = some (.int .i64 p) := kT.cell 0; have kT1 : (w3).cell? ⟨w.heap.size, 1, none⟩ = some (.int .i64 q) := kT.cell 1; have kT2 : (w3).cell? ⟨w.heap.size, 2, none⟩ = some (.int .i64 r) := kT.cell 2; have kT3 : (w3).cell? ⟨w.heap.size, 3, none⟩ = some (.int .i64 s) := kT.cell 3; have kT4 : (w3).cell? ⟨w.heap.size, 4, none⟩ = some (.int .i64 t) := kT.cell 4; have kT5 : (w3).cell? ⟨w.heap.size, 5, none⟩ = some (.int .i64 u) := kT.cell 5; have kTl : w.heap.size < (w3).heap.size := kT.lt
  have hX : w.heap.size + 1 + 1 + 1 < w3.heap.size := kC.lt
  go_wp2_with fail
  refine (H3.out _).mono ?_
  rintro e w4 ⟨rfl, hb4⟩
  clear kT0 kT1 kT2 kT3 kT4 kT5 kTl
  replace kT := kT.alloc (.cells #[.int .i64 x2, .int .i64 y2] 25)
  replace kA := kA.alloc (.cells #[.int .i64 x2, .int .i64 y2] 25)
  replace kB := kB.alloc (.cells #[.int .i64 x2, .int .i64 y2] 25)
  replace kC := kC.alloc (.cells #[.int .i64 x2, .int .i64 y2] 25)
  have hB' := hB.alloc hs (.cells #[.int .i64 x2, .int .i64 y2] 25)
  have kX := (Blk.new w3 #[.int .i64 x2, .int .i64 y2] 25).next hb4
  replace kT := kT.next hb4
  replace kA := kA.next hb4
  replace kB := kB.next hb4
  replace kC := kC.next hb4
  replace hB := below_step hb4 hB'.size hB'
  replace hs := hB.size
  clear hB' hb4
  have kT0 : (w4).cell? ⟨w.heap.size, 0, none⟩ = some (.int .i64 p) := kT.cell 0; have kT1 : (w4).cell? ⟨w.heap.size, 1, none⟩ = some (.int .i64 q) := kT.cell 1; have kT2 : (w4).cell? ⟨w.heap.size, 2, none⟩ = some (.int .i64 r) := kT.cell 2; have kT3 : (w4).cell? ⟨w.heap.size, 3, none⟩ = some (.int .i64 s) := kT.cell 3; have kT4 : (w4).cell? ⟨w.heap.size, 4, none⟩ = some (.int .i64 t) := kT.cell 4; have kT5 : (w4).cell? ⟨w.heap.size, 5, none⟩ = some (.int .i64 u) := kT.cell 5; have kTl : w.heap.size < (w4).heap.size := kT.lt
  have hY : w3.heap.size < w4.heap.size := kX.lt
  go_wp2_with fail
  refine (H4.out _).mono ?_
  rintro e w5 ⟨rfl, hb5⟩
  clear kT0 kT1 kT2 kT3 kT4 kT5 kTl
  replace kT := kT.alloc (.cells #[.int .i64 x3, .int .i64 y3] 25)
  replace kA := kA.alloc (.cells #[.int .i64 x3, .int .i64 y3] 25)
  replace kB := kB.alloc (.cells #[.int .i64 x3, .int .i64 y3] 25)
  replace kC := kC.alloc (.cells #[.int .i64 x3, .int .i64 y3] 25)
  replace kX := kX.alloc (.cells #[.int .i64 x3, .int .i64 y3] 25)
  have hB' := hB.alloc hs (.cells #[.int .i64 x3, .int .i64 y3] 25)
  have kY := (Blk.new w4 #[.int .i64 x3, .int .i64 y3] 25).next hb5
  replace kT := kT.next hb5
  replace kA := kA.next hb5
  replace kB := kB.next hb5
  replace kC := kC.next hb5
  replace kX := kX.next hb5
  replace hB := below_step hb5 hB'.size hB'
  replace hs := hB.size
  clear hB' hb5
  have hZ : w4.heap.size < w5.heap.size := kY.lt
  go_wp2_with fail
  refine (H5.out _).mono ?_
  rintro e w6 ⟨rfl, hb6⟩
  replace kT := kT.next hb6
  replace kA := kA.next hb6
  replace kB := kB.next hb6
  replace kC := kC.next hb6
  replace kX := kX.next hb6
  replace kY := kY.next hb6
  replace hB := below_step hb6 hs hB
  replace hs := hB.size
  have hz6 := hb6.size
  clear hb6 HV H1 H2 H3 H4 H5 kT
  have kV := Blk.new w6 #[.int .i64 x5, .int .i64 y5] 25
  have kA' := kA.alloc (.cells #[.int .i64 x5, .int .i64 y5] 25)
  have kB' := kB.alloc (.cells #[.int .i64 x5, .int .i64 y5] 25)
  have kC' := kC.alloc (.cells #[.int .i64 x5, .int .i64 y5] 25)
  have kX' := kX.alloc (.cells #[.int .i64 x5, .int .i64 y5] 25)
  have kY' := kY.alloc (.cells #[.int .i64 x5, .int .i64 y5] 25)
  have hB' := hB.alloc hs (.cells #[.int .i64 x5, .int .i64 y5] 25)
  clear kA kB kC kX kY hB
  cases m2 <;> cases m3 <;> cases m5
  all_goals
    simp only [Bool.and_self, Bool.and_true, Bool.and_false] at HO
    go_upto_region 6 with (fail)
    generalize w6.alloc _ = W7 at *
    have kA := kA'
    have kB := kB'
    have kC := kC'
    have kX := kX'
    have kY := kY'
    have hB := hB'
    clear kA' kB' kC' kX' kY' hB'
    have hs7 := hB.size
    have kA0 : (W7).cell? ⟨w.heap.size + 1, 0, none⟩ = some (.int .i64 0) := kA.cell 0; have kA1 : (W7).cell? ⟨w.heap.size + 1, 1, none⟩ = some (.int .i64 0) := kA.cell 1; have kAf0 : (W7).frozen? ⟨w.heap.size + 1, 0, none⟩ = false := kA.frozen 0; have kAf1 : (W7).frozen? ⟨w.heap.size + 1, 1, none⟩ = false := kA.frozen 1; have kAl : w.heap.size + 1 < (W7).heap.size := kA.lt
    have kB0 : (W7).cell? ⟨w.heap.size + 1 + 1, 0, none⟩ = some (.int .i64 0) := kB.cell 0; have kB1 : (W7).cell? ⟨w.heap.size + 1 + 1, 1, none⟩ = some (.int .i64 0) := kB.cell 1; have kBf0 : (W7).frozen? ⟨w.heap.size + 1 + 1, 0, none⟩ = false := kB.frozen 0; have kBf1 : (W7).frozen? ⟨w.heap.size + 1 + 1, 1, none⟩ = false := kB.frozen 1; have kBl : w.heap.size + 1 + 1 < (W7).heap.size := kB.lt
    have kC0 : (W7).cell? ⟨w.heap.size + 1 + 1 + 1, 0, none⟩ = some (.int .i64 0) := kC.cell 0; have kC1 : (W7).cell? ⟨w.heap.size + 1 + 1 + 1, 1, none⟩ = some (.int .i64 0) := kC.cell 1; have kCf0 : (W7).frozen? ⟨w.heap.size + 1 + 1 + 1, 0, none⟩ = false := kC.frozen 0; have kCf1 : (W7).frozen? ⟨w.heap.size + 1 + 1 + 1, 1, none⟩ = false := kC.frozen 1; have kCl : w.heap.size + 1 + 1 + 1 < (W7).heap.size := kC.lt
    have kX0 : (W7).cell? ⟨w3.heap.size, 0, none⟩ = some (.int .i64 x2) := kX.cell 0; have kX1 : (W7).cell? ⟨w3.heap.size, 1, none⟩ = some (.int .i64 y2) := kX.cell 1; have kXl : w3.heap.size < (W7).heap.size := kX.lt
    have kY0 : (W7).cell? ⟨w4.heap.size, 0, none⟩ = some (.int .i64 x3) := kY.cell 0; have kY1 : (W7).cell? ⟨w4.heap.size, 1, none⟩ = some (.int .i64 y3) := kY.cell 1; have kYl : w4.heap.size < (W7).heap.size := kY.lt
    have kV0 : (W7).cell? ⟨w6.heap.size, 0, none⟩ = some (.int .i64 x5) := kV.cell 0; have kV1 : (W7).cell? ⟨w6.heap.size, 1, none⟩ = some (.int .i64 y5) := kV.cell 1; have kVl : w6.heap.size < (W7).heap.size := kV.lt
    have e12 : w3.heap.size ≠ w.heap.size + 1 ∧ w3.heap.size ≠ w.heap.size + 1 + 1 ∧ w3.heap.size ≠ w.heap.size + 1 + 1 + 1 := by omega
    have e13 : w4.heap.size ≠ w.heap.size + 1 ∧ w4.heap.size ≠ w.heap.size + 1 + 1 ∧ w4.heap.size ≠ w.heap.size + 1 + 1 + 1 := by omega
    have e14 : w6.heap.size ≠ w.heap.size + 1 ∧ w6.heap.size ≠ w.heap.size + 1 + 1 ∧ w6.heap.size ≠ w.heap.size + 1 + 1 + 1 := by omega
    go_wp2
  · have RA := ((((((kA.set 0 (.int .i64 0)).set 1 (.int .i64 0)).far (p := ⟨w.heap.size + 1 + 1, 0, none⟩) (by show _ ≠ w.heap.size + 1 + 1; omega) (.int .i64 0)).far (p := ⟨w.heap.size + 1 + 1, 1, none⟩) (by show _ ≠ w.heap.size + 1 + 1; omega) (.int .i64 0)).far (p := ⟨w.heap.size + 1 + 1 + 1, 0, none⟩) (by show _ ≠ w.heap.size + 1 + 1 + 1; omega) (.int .i64 0)).far (p := ⟨w.heap.size + 1 + 1 + 1, 1, none⟩) (by show _ ≠ w.heap.size + 1 + 1 + 1; omega) (.int .i64 0))
    have RB := ((((((kB.far (p := ⟨w.heap.size + 1, 0, none⟩) (by show _ ≠ w.heap.size + 1; omega) (.int .i64 0)).far (p := ⟨w.heap.size + 1, 1, none⟩) (by show _ ≠ w.heap.size + 1; omega) (.int .i64 0)).set 0 (.int .i64 0)).set 1 (.int .i64 0)).far (p := ⟨w.heap.size + 1 + 1 + 1, 0, none⟩) (by show _ ≠ w.heap.size + 1 + 1 + 1; omega) (.int .i64 0)).far (p := ⟨w.heap.size + 1 + 1 + 1, 1, none⟩) (by show _ ≠ w.heap.size + 1 + 1 + 1; omega) (.int .i64 0))
    have RC := ((((((kC.far (p := ⟨w.heap.size + 1, 0, none⟩) (by show _ ≠ w.heap.size + 1; omega) (.int .i64 0)).far (p := ⟨w.heap.size + 1, 1, none⟩) (by show _ ≠ w.heap.size + 1; omega) (.int .i64 0)).far (p := ⟨w.heap.size + 1 + 1, 0, none⟩) (by show _ ≠ w.heap.size + 1 + 1; omega) (.int .i64 0)).far (p := ⟨w.heap.size + 1 + 1, 1, none⟩) (by show _ ≠ w.heap.size + 1 + 1; omega) (.int .i64 0)).set 0 (.int .i64 0)).set 1 (.int .i64 0))
    have hR : Below w.heap.size w ((((((W7.setCell ⟨w.heap.size + 1, 0, none⟩ (.int .i64 0)).setCell ⟨w.heap.size + 1, 1, none⟩ (.int .i64 0)).setCell ⟨w.heap.size + 1 + 1, 0, none⟩ (.int .i64 0)).setCell ⟨w.heap.size + 1 + 1, 1, none⟩ (.int .i64 0)).setCell ⟨w.heap.size + 1 + 1 + 1, 0, none⟩ (.int .i64 0)).setCell ⟨w.heap.size + 1 + 1 + 1, 1, none⟩ (.int .i64 0)) := by (repeat' (first | (with_reducible exact Below.refl _ _) | (with_reducible refine below_step (by assumption) ?_ ?_) | (with_reducible refine Below.alloc ?_ ?_ _) | (with_reducible refine Below.setCell ?_ ?_ _) | (with_reducible refine below_drewN ?_ _) | (with_reducible refine Below.drew ?_) | omega | (simp; omega) | (simp; done)))
    simp only [List.setIfInBounds_toArray, List.set_cons_zero, List.set_cons_succ] at RA RB RC
    clear kA kB kC hB kA0 kA1 kAf0 kAf1 kAl kB0 kB1 kBf0 kBf1 kBl kC0 kC1 kCf0 kCf1 kCl
    generalize ((((((W7.setCell ⟨w.heap.size + 1, 0, none⟩ (.int .i64 0)).setCell ⟨w.heap.size + 1, 1, none⟩ (.int .i64 0)).setCell ⟨w.heap.size + 1 + 1, 0, none⟩ (.int .i64 0)).setCell ⟨w.heap.size + 1 + 1, 1, none⟩ (.int .i64 0)).setCell ⟨w.heap.size + 1 + 1 + 1, 0, none⟩ (.int .i64 0)).setCell ⟨w.heap.size + 1 + 1 + 1, 1, none⟩ (.int .i64 0)) = W9 at RA RB RC hR ⊢
    have RA0 : (W9).cell? ⟨w.heap.size + 1, 0, none⟩ = some (.int .i64 0) := RA.cell 0; have RA1 : (W9).cell? ⟨w.heap.size + 1, 1, none⟩ = some (.int .i64 0) := RA.cell 1; have RAl : w.heap.size + 1 < (W9).heap.size := RA.lt
    have RB0 : (W9).cell? ⟨w.heap.size + 1 + 1, 0, none⟩ = some (.int .i64 0) := RB.cell 0; have RB1 : (W9).cell? ⟨w.heap.size + 1 + 1, 1, none⟩ = some (.int .i64 0) := RB.cell 1; have RBl : w.heap.size + 1 + 1 < (W9).heap.size := RB.lt
    have RC0 : (W9).cell? ⟨w.heap.size + 1 + 1 + 1, 0, none⟩ = some (.int .i64 0) := RC.cell 0; have RC1 : (W9).cell? ⟨w.heap.size + 1 + 1 + 1, 1, none⟩ = some (.int .i64 0) := RC.cell 1; have RCl : w.heap.size + 1 + 1 + 1 < (W9).heap.size := RC.lt
    refine bodyPost_ret (v := .tuple #[.agg #[.int .i64 0, .int .i64 0], .agg #[.int .i64 0, .int .i64 0], .agg #[.int .i64 0, .int .i64 0], .bool false]) (by simp [results, Try.results15, go_sem, RA0, RA1, RB0, RB1, RC0, RC1]) rfl ?_
    exact fr3P_no HO.out.symm hR
  · have RA := ((((((kA.set 0 (.int .i64 0)).set 1 (.int .i64 0)).far (p := ⟨w.heap.size + 1 + 1, 0, none⟩) (by show _ ≠ w.heap.size + 1 + 1; omega) (.int .i64 0)).far (p := ⟨w.heap.size + 1 + 1, 1, none⟩) (by show _ ≠ w.heap.size + 1 + 1; omega) (.int .i64 0)).far (p := ⟨w.heap.size + 1 + 1 + 1, 0, none⟩) (by show _ ≠ w.heap.size + 1 + 1 + 1; omega) (.int .i64 0)).far (p := ⟨w.heap.size + 1 + 1 + 1, 1, none⟩) (by show _ ≠ w.heap.size + 1 + 1 + 1; omega) (.int .i64 0))
    have RB := ((((((kB.far (p := ⟨w.heap.size + 1, 0, none⟩) (by show _ ≠ w.heap.size + 1; omega) (.int .i64 0)).far (p := ⟨w.heap.size + 1, 1, none⟩) (by show _ ≠ w.heap.size + 1; omega) (.int .i64 0)).set 0 (.int .i64 0)).set 1 (.int .i64 0)).far (p := ⟨w.heap.size + 1 + 1 + 1, 0, none⟩) (by show _ ≠ w.heap.size + 1 + 1 + 1; omega) (.int .i64 0)).far (p := ⟨w.heap.size + 1 + 1 + 1, 1, none⟩) (by show _ ≠ w.heap.size + 1 + 1 + 1; omega) (.int .i64 0))
    have RC := ((((((kC.far (p := ⟨w.heap.size + 1, 0, none⟩) (by show _ ≠ w.heap.size + 1; omega) (.int .i64 0)).far (p := ⟨w.heap.size + 1, 1, none⟩) (by show _ ≠ w.heap.size + 1; omega) (.int .i64 0)).far (p := ⟨w.heap.size + 1 + 1, 0, none⟩) (by show _ ≠ w.heap.size + 1 + 1; omega) (.int .i64 0)).far (p := ⟨w.heap.size + 1 + 1, 1, none⟩) (by show _ ≠ w.heap.size + 1 + 1; omega) (.int .i64 0)).set 0 (.int .i64 0)).set 1 (.int .i64 0))
    have hR : Below w.heap.size w ((((((W7.setCell ⟨w.heap.size + 1, 0, none⟩ (.int .i64 0)).setCell ⟨w.heap.size + 1, 1, none⟩ (.int .i64 0)).setCell ⟨w.heap.size + 1 + 1, 0, none⟩ (.int .i64 0)).setCell ⟨w.heap.size + 1 + 1, 1, none⟩ (.int .i64 0)).setCell ⟨w.heap.size + 1 + 1 + 1, 0, none⟩ (.int .i64 0)).setCell ⟨w.heap.size + 1 + 1 + 1, 1, none⟩ (.int .i64 0)) := by (repeat' (first | (with_reducible exact Below.refl _ _) | (with_reducible refine below_step (by assumption) ?_ ?_) | (with_reducible refine Below.alloc ?_ ?_ _) | (with_reducible refine Below.setCell ?_ ?_ _) | (with_reducible refine below_drewN ?_ _) | (with_reducible refine Below.drew ?_) | omega | (simp; omega) | (simp; done)))
    simp only [List.setIfInBounds_toArray, List.set_cons_zero, List.set_cons_succ] at RA RB RC
    clear kA kB kC hB kA0 kA1 kAf0 kAf1 kAl kB0 kB1 kBf0 kBf1 kBl kC0 kC1 kCf0 kCf1 kCl
    generalize ((((((W7.setCell ⟨w.heap.size + 1, 0, none⟩ (.int .i64 0)).setCell ⟨w.heap.size + 1, 1, none⟩ (.int .i64 0)).setCell ⟨w.heap.size + 1 + 1, 0, none⟩ (.int .i64 0)).setCell ⟨w.heap.size + 1 + 1, 1, none⟩ (.int .i64 0)).setCell ⟨w.heap.size + 1 + 1 + 1, 0, none⟩ (.int .i64 0)).setCell ⟨w.heap.size + 1 + 1 + 1, 1, none⟩ (.int .i64 0)) = W9 at RA RB RC hR ⊢
    have RA0 : (W9).cell? ⟨w.heap.size + 1, 0, none⟩ = some (.int .i64 0) := RA.cell 0; have RA1 : (W9).cell? ⟨w.heap.size + 1, 1, none⟩ = some (.int .i64 0) := RA.cell 1; have RAl : w.heap.size + 1 < (W9).heap.size := RA.lt
    have RB0 : (W9).cell? ⟨w.heap.size + 1 + 1, 0, none⟩ = some (.int .i64 0) := RB.cell 0; have RB1 : (W9).cell? ⟨w.heap.size + 1 + 1, 1, none⟩ = some (.int .i64 0) := RB.cell 1; have RBl : w.heap.size + 1 + 1 < (W9).heap.size := RB.lt
    have RC0 : (W9).cell? ⟨w.heap.size + 1 + 1 + 1, 0, none⟩ = some (.int .i64 0) := RC.cell 0; have RC1 : (W9).cell? ⟨w.heap.size + 1 + 1 + 1, 1, none⟩ = some (.int .i64 0) := RC.cell 1; have RCl : w.heap.size + 1 + 1 + 1 < (W9).heap.size := RC.lt
    refine bodyPost_ret (v := .tuple #[.agg #[.int .i64 0, .int .i64 0], .agg #[.int .i64 0, .int .i64 0], .agg #[.int .i64 0, .int .i64 0], .bool false]) (by simp [results, Try.results15, go_sem, RA0, RA1, RB0, RB1, RC0, RC1]) rfl ?_
    exact fr3P_no HO.out.symm hR
  · have RA := ((((((kA.set 0 (.int .i64 0)).set 1 (.int .i64 0)).far (p := ⟨w.heap.size + 1 + 1, 0, none⟩) (by show _ ≠ w.heap.size + 1 + 1; omega) (.int .i64 0)).far (p := ⟨w.heap.size + 1 + 1, 1, none⟩) (by show _ ≠ w.heap.size + 1 + 1; omega) (.int .i64 0)).far (p := ⟨w.heap.size + 1 + 1 + 1, 0, none⟩) (by show _ ≠ w.heap.size + 1 + 1 + 1; omega) (.int .i64 0)).far (p := ⟨w.heap.size + 1 + 1 + 1, 1, none⟩) (by show _ ≠ w.heap.size + 1 + 1 + 1; omega) (.int .i64 0))
    have RB := ((((((kB.far (p := ⟨w.heap.size + 1, 0, none⟩) (by show _ ≠ w.heap.size + 1; omega) (.int .i64 0)).far (p := ⟨w.heap.size + 1, 1, none⟩) (by show _ ≠ w.heap.size + 1; omega) (.int .i64 0)).set 0 (.int .i64 0)).set 1 (.int .i64 0)).far (p := ⟨w.heap.size + 1 + 1 + 1, 0, none⟩) (by show _ ≠ w.heap.size + 1 + 1 + 1; omega) (.int .i64 0)).far (p := ⟨w.heap.size + 1 + 1 + 1, 1, none⟩) (by show _ ≠ w.heap.size + 1 + 1 + 1; omega) (.int .i64 0))
    have RC := ((((((kC.far (p := ⟨w.heap.size + 1, 0, none⟩) (by show _ ≠ w.heap.size + 1; omega) (.int .i64 0)).far (p := ⟨w.heap.size + 1, 1, none⟩) (by show _ ≠ w.heap.size + 1; omega) (.int .i64 0)).far (p := ⟨w.heap.size + 1 + 1, 0, none⟩) (by show _ ≠ w.heap.size + 1 + 1; omega) (.int .i64 0)).far (p := ⟨w.heap.size + 1 + 1, 1, none⟩) (by show _ ≠ w.heap.size + 1 + 1; omega) (.int .i64 0)).set 0 (.int .i64 0)).set 1 (.int .i64 0))
    have hR : Below w.heap.size w ((((((W7.setCell ⟨w.heap.size + 1, 0, none⟩ (.int .i64 0)).setCell ⟨w.heap.size + 1, 1, none⟩ (.int .i64 0)).setCell ⟨w.heap.size + 1 + 1, 0, none⟩ (.int .i64 0)).setCell ⟨w.heap.size + 1 + 1, 1, none⟩ (.int .i64 0)).setCell ⟨w.heap.size + 1 + 1 + 1, 0, none⟩ (.int .i64 0)).setCell ⟨w.heap.size + 1 + 1 + 1, 1, none⟩ (.int .i64 0)) := by (repeat' (first | (with_reducible exact Below.refl _ _) | (with_reducible refine below_step (by assumption) ?_ ?_) | (with_reducible refine Below.alloc ?_ ?_ _) | (with_reducible refine Below.setCell ?_ ?_ _) | (with_reducible refine below_drewN ?_ _) | (with_reducible refine Below.drew ?_) | omega | (simp; omega) | (simp; done)))
    simp only [List.setIfInBounds_toArray, List.set_cons_zero, List.set_cons_succ] at RA RB RC
    clear kA kB kC hB kA0 kA1 kAf0 kAf1 kAl kB0 kB1 kBf0 kBf1 kBl kC0 kC1 kCf0 kCf1 kCl
    generalize ((((((W7.setCell ⟨w.heap.size + 1, 0, none⟩ (.int .i64 0)).setCell ⟨w.heap.size + 1, 1, none⟩ (.int .i64 0)).setCell ⟨w.heap.size + 1 + 1, 0, none⟩ (.int .i64 0)).setCell ⟨w.heap.size + 1 + 1, 1, none⟩ (.int .i64 0)).setCell ⟨w.heap.size + 1 + 1 + 1, 0, none⟩ (.int .i64 0)).setCell ⟨w.heap.size + 1 + 1 + 1, 1, none⟩ (.int .i64 0)) = W9 at RA RB RC hR ⊢
    have RA0 : (W9).cell? ⟨w.heap.size + 1, 0, none⟩ = some (.int .i64 0) := RA.cell 0; have RA1 : (W9).cell? ⟨w.heap.size + 1, 1, none⟩ = some (.int .i64 0) := RA.cell 1; have RAl : w.heap.size + 1 < (W9).heap.size := RA.lt
    have RB0 : (W9).cell? ⟨w.heap.size + 1 + 1, 0, none⟩ = some (.int .i64 0) := RB.cell 0; have RB1 : (W9).cell? ⟨w.heap.size + 1 + 1, 1, none⟩ = some (.int .i64 0) := RB.cell 1; have RBl : w.heap.size + 1 + 1 < (W9).heap.size := RB.lt
    have RC0 : (W9).cell? ⟨w.heap.size + 1 + 1 + 1, 0, none⟩ = some (.int .i64 0) := RC.cell 0; have RC1 : (W9).cell? ⟨w.heap.size + 1 + 1 + 1, 1, none⟩ = some (.int .i64 0) := RC.cell 1; have RCl : w.heap.size + 1 + 1 + 1 < (W9).heap.size := RC.lt
    refine bodyPost_ret (v := .tuple #[.agg #[.int .i64 0, .int .i64 0], .agg #[.int .i64 0, .int .i64 0], .agg #[.int .i64 0, .int .i64 0], .bool false]) (by simp [results, Try.results15, go_sem, RA0, RA1, RB0, RB1, RC0, RC1]) rfl ?_
    exact fr3P_no HO.out.symm hR
  · have RA := ((((((kA.set 0 (.int .i64 0)).set 1 (.int .i64 0)).far (p := ⟨w.heap.size + 1 + 1, 0, none⟩) (by show _ ≠ w.heap.size + 1 + 1; omega) (.int .i64 0)).far (p := ⟨w.heap.size + 1 + 1, 1, none⟩) (by show _ ≠ w.heap.size + 1 + 1; omega) (.int .i64 0)).far (p := ⟨w.heap.size + 1 + 1 + 1, 0, none⟩) (by show _ ≠ w.heap.size + 1 + 1 + 1; omega) (.int .i64 0)).far (p := ⟨w.heap.size + 1 + 1 + 1, 1, none⟩) (by show _ ≠ w.heap.size + 1 + 1 + 1; omega) (.int .i64 0))
    have RB := ((((((kB.far (p := ⟨w.heap.size + 1, 0, none⟩) (by show _ ≠ w.heap.size + 1; omega) (.int .i64 0)).far (p := ⟨w.heap.size + 1, 1, none⟩) (by show _ ≠ w.heap.size + 1; omega) (.int .i64 0)).set 0 (.int .i64 0)).set 1 (.int .i64 0)).far (p := ⟨w.heap.size + 1 + 1 + 1, 0, none⟩) (by show _ ≠ w.heap.size + 1 + 1 + 1; omega) (.int .i64 0)).far (p := ⟨w.heap.size + 1 + 1 + 1, 1, none⟩) (by show _ ≠ w.heap.size + 1 + 1 + 1; omega) (.int .i64 0))
    have RC := ((((((kC.far (p := ⟨w.heap.size + 1, 0, none⟩) (by show _ ≠ w.heap.size + 1; omega) (.int .i64 0)).far (p := ⟨w.heap.size + 1, 1, none⟩) (by show _ ≠ w.heap.size + 1; omega) (.int .i64 0)).far (p := ⟨w.heap.size + 1 + 1, 0, none⟩) (by show _ ≠ w.heap.size + 1 + 1; omega) (.int .i64 0)).far (p := ⟨w.heap.size + 1 + 1, 1, none⟩) (by show _ ≠ w.heap.size + 1 + 1; omega) (.int .i64 0)).set 0 (.int .i64 0)).set 1 (.int .i64 0))
    have hR : Below w.heap.size w ((((((W7.setCell ⟨w.heap.size + 1, 0, none⟩ (.int .i64 0)).setCell ⟨w.heap.size + 1, 1, none⟩ (.int .i64 0)).setCell ⟨w.heap.size + 1 + 1, 0, none⟩ (.int .i64 0)).setCell ⟨w.heap.size + 1 + 1, 1, none⟩ (.int .i64 0)).setCell ⟨w.heap.size + 1 + 1 + 1, 0, none⟩ (.int .i64 0)).setCell ⟨w.heap.size + 1 + 1 + 1, 1, none⟩ (.int .i64 0)) := by (repeat' (first | (with_reducible exact Below.refl _ _) | (with_reducible refine below_step (by assumption) ?_ ?_) | (with_reducible refine Below.alloc ?_ ?_ _) | (with_reducible refine Below.setCell ?_ ?_ _) | (with_reducible refine below_drewN ?_ _) | (with_reducible refine Below.drew ?_) | omega | (simp; omega) | (simp; done)))
    simp only [List.setIfInBounds_toArray, List.set_cons_zero, List.set_cons_succ] at RA RB RC
    clear kA kB kC hB kA0 kA1 kAf0 kAf1 kAl kB0 kB1 kBf0 kBf1 kBl kC0 kC1 kCf0 kCf1 kCl
    generalize ((((((W7.setCell ⟨w.heap.size + 1, 0, none⟩ (.int .i64 0)).setCell ⟨w.heap.size + 1, 1, none⟩ (.int .i64 0)).setCell ⟨w.heap.size + 1 + 1, 0, none⟩ (.int .i64 0)).setCell ⟨w.heap.size + 1 + 1, 1, none⟩ (.int .i64 0)).setCell ⟨w.heap.size + 1 + 1 + 1, 0, none⟩ (.int .i64 0)).setCell ⟨w.heap.size + 1 + 1 + 1, 1, none⟩ (.int .i64 0)) = W9 at RA RB RC hR ⊢
    have RA0 : (W9).cell? ⟨w.heap.size + 1, 0, none⟩ = some (.int .i64 0) := RA.cell 0; have RA1 : (W9).cell? ⟨w.heap.size + 1, 1, none⟩ = some (.int .i64 0) := RA.cell 1; have RAl : w.heap.size + 1 < (W9).heap.size := RA.lt
    have RB0 : (W9).cell? ⟨w.heap.size + 1 + 1, 0, none⟩ = some (.int .i64 0) := RB.cell 0; have RB1 : (W9).cell? ⟨w.heap.size + 1 + 1, 1, none⟩ = some (.int .i64 0) := RB.cell 1; have RBl : w.heap.size + 1 + 1 < (W9).heap.size := RB.lt
    have RC0 : (W9).cell? ⟨w.heap.size + 1 + 1 + 1, 0, none⟩ = some (.int .i64 0) := RC.cell 0; have RC1 : (W9).cell? ⟨w.heap.size + 1 + 1 + 1, 1, none⟩ = some (.int .i64 0) := RC.cell 1; have RCl : w.heap.size + 1 + 1 + 1 < (W9).heap.size := RC.lt
    refine bodyPost_ret (v := .tuple #[.agg #[.int .i64 0, .int .i64 0], .agg #[.int .i64 0, .int .i64 0], .agg #[.int .i64 0, .int .i64 0], .bool false]) (by simp [results, Try.results15, go_sem, RA0, RA1, RB0, RB1, RC0, RC1]) rfl ?_
    exact fr3P_no HO.out.symm hR
  · have RA := ((((((kA.set 0 (.int .i64 0)).set 1 (.int .i64 0)).far (p := ⟨w.heap.size + 1 + 1, 0, none⟩) (by show _ ≠ w.heap.size + 1 + 1; omega) (.int .i64 0)).far (p := ⟨w.heap.size + 1 + 1, 1, none⟩) (by show _ ≠ w.heap.size + 1 + 1; omega) (.int .i64 0)).far (p := ⟨w.heap.size + 1 + 1 + 1, 0, none⟩) (by show _ ≠ w.heap.size + 1 + 1 + 1; omega) (.int .i64 0)).far (p := ⟨w.heap.size + 1 + 1 + 1, 1, none⟩) (by show _ ≠ w.heap.size + 1 + 1 + 1; omega) (.int .i64 0))
    have RB := ((((((kB.far (p := ⟨w.heap.size + 1, 0, none⟩) (by show _ ≠ w.heap.size + 1; omega) (.int .i64 0)).far (p := ⟨w.heap.size + 1, 1, none⟩) (by show _ ≠ w.heap.size + 1; omega) (.int .i64 0)).set 0 (.int .i64 0)).set 1 (.int .i64 0)).far (p := ⟨w.heap.size + 1 + 1 + 1, 0, none⟩) (by show _ ≠ w.heap.size + 1 + 1 + 1; omega) (.int .i64 0)).far (p := ⟨w.heap.size + 1 + 1 + 1, 1, none⟩) (by show _ ≠ w.heap.size + 1 + 1 + 1; omega) (.int .i64 0))
    have RC := ((((((kC.far (p := ⟨w.heap.size + 1, 0, none⟩) (by show _ ≠ w.heap.size + 1; omega) (.int .i64 0)).far (p := ⟨w.heap.size + 1, 1, none⟩) (by show _ ≠ w.heap.size + 1; omega) (.int .i64 0)).far (p := ⟨w.heap.size + 1 + 1, 0, none⟩) (by show _ ≠ w.heap.size + 1 + 1; omega) (.int .i64 0)).far (p := ⟨w.heap.size + 1 + 1, 1, none⟩) (by show _ ≠ w.heap.size + 1 + 1; omega) (.int .i64 0)).set 0 (.int .i64 0)).set 1 (.int .i64 0))
    have hR : Below w.heap.size w ((((((W7.setCell ⟨w.heap.size + 1, 0, none⟩ (.int .i64 0)).setCell ⟨w.heap.size + 1, 1, none⟩ (.int .i64 0)).setCell ⟨w.heap.size + 1 + 1, 0, none⟩ (.int .i64 0)).setCell ⟨w.heap.size + 1 + 1, 1, none⟩ (.int .i64 0)).setCell ⟨w.heap.size + 1 + 1 + 1, 0, none⟩ (.int .i64 0)).setCell ⟨w.heap.size + 1 + 1 + 1, 1, none⟩ (.int .i64 0)) := by (repeat' (first | (with_reducible exact Below.refl _ _) | (with_reducible refine below_step (by assumption) ?_ ?_) | (with_reducible refine Below.alloc ?_ ?_ _) | (with_reducible refine Below.setCell ?_ ?_ _) | (with_reducible refine below_drewN ?_ _) | (with_reducible refine Below.drew ?_) | omega | (simp; omega) | (simp; done)))
    simp only [List.setIfInBounds_toArray, List.set_cons_zero, List.set_cons_succ] at RA RB RC
    clear kA kB kC hB kA0 kA1 kAf0 kAf1 kAl kB0 kB1 kBf0 kBf1 kBl kC0 kC1 kCf0 kCf1 kCl
    generalize ((((((W7.setCell ⟨w.heap.size + 1, 0, none⟩ (.int .i64 0)).setCell ⟨w.heap.size + 1, 1, none⟩ (.int .i64 0)).setCell ⟨w.heap.size + 1 + 1, 0, none⟩ (.int .i64 0)).setCell ⟨w.heap.size + 1 + 1, 1, none⟩ (.int .i64 0)).setCell ⟨w.heap.size + 1 + 1 + 1, 0, none⟩ (.int .i64 0)).setCell ⟨w.heap.size + 1 + 1 + 1, 1, none⟩ (.int .i64 0)) = W9 at RA RB RC hR ⊢
    have RA0 : (W9).cell? ⟨w.heap.size + 1, 0, none⟩ = some (.int .i64 0) := RA.cell 0; have RA1 : (W9).cell? ⟨w.heap.size + 1, 1, none⟩ = some (.int .i64 0) := RA.cell 1; have RAl : w.heap.size + 1 < (W9).heap.size := RA.lt
    have RB0 : (W9).cell? ⟨w.heap.size + 1 + 1, 0, none⟩ = some (.int .i64 0) := RB.cell 0; have RB1 : (W9).cell? ⟨w.heap.size + 1 + 1, 1, none⟩ = some (.int .i64 0) := RB.cell 1; have RBl : w.heap.size + 1 + 1 < (W9).heap.size := RB.lt
    have RC0 : (W9).cell? ⟨w.heap.size + 1 + 1 + 1, 0, none⟩ = some (.int .i64 0) := RC.cell 0; have RC1 : (W9).cell? ⟨w.heap.size + 1 + 1 + 1, 1, none⟩ = some (.int .i64 0) := RC.cell 1; have RCl : w.heap.size + 1 + 1 + 1 < (W9).heap.size := RC.lt
    refine bodyPost_ret (v := .tuple #[.agg #[.int .i64 0, .int .i64 0], .agg #[.int .i64 0, .int .i64 0], .agg #[.int .i64 0, .int .i64 0], .bool false]) (by simp [results, Try.results15, go_sem, RA0, RA1, RB0, RB1, RC0, RC1]) rfl ?_
    exact fr3P_no HO.out.symm hR
  · have RA := ((((((kA.set 0 (.int .i64 0)).set 1 (.int .i64 0)).far (p := ⟨w.heap.size + 1 + 1, 0, none⟩) (by show _ ≠ w.heap.size + 1 + 1; omega) (.int .i64 0)).far (p := ⟨w.heap.size + 1 + 1, 1, none⟩) (by show _ ≠ w.heap.size + 1 + 1; omega) (.int .i64 0)).far (p := ⟨w.heap.size + 1 + 1 + 1, 0, none⟩) (by show _ ≠ w.heap.size + 1 + 1 + 1; omega) (.int .i64 0)).far (p := ⟨w.heap.size + 1 + 1 + 1, 1, none⟩) (by show _ ≠ w.heap.size + 1 + 1 + 1; omega) (.int .i64 0))
    have RB := ((((((kB.far (p := ⟨w.heap.size + 1, 0, none⟩) (by show _ ≠ w.heap.size + 1; omega) (.int .i64 0)).far (p := ⟨w.heap.size + 1, 1, none⟩) (by show _ ≠ w.heap.size + 1; omega) (.int .i64 0)).set 0 (.int .i64 0)).set 1 (.int .i64 0)).far (p := ⟨w.heap.size + 1 + 1 + 1, 0, none⟩) (by show _ ≠ w.heap.size + 1 + 1 + 1; omega) (.int .i64 0)).far (p := ⟨w.heap.size + 1 + 1 + 1, 1, none⟩) (by show _ ≠ w.heap.size + 1 + 1 + 1; omega) (.int .i64 0))
    have RC := ((((((kC.far (p := ⟨w.heap.size + 1, 0, none⟩) (by show _ ≠ w.heap.size + 1; omega) (.int .i64 0)).far (p := ⟨w.heap.size + 1, 1, none⟩) (by show _ ≠ w.heap.size + 1; omega) (.int .i64 0)).far (p := ⟨w.heap.size + 1 + 1, 0, none⟩) (by show _ ≠ w.heap.size + 1 + 1; omega) (.int .i64 0)).far (p := ⟨w.heap.size + 1 + 1, 1, none⟩) (by show _ ≠ w.heap.size + 1 + 1; omega) (.int .i64 0)).set 0 (.int .i64 0)).set 1 (.int .i64 0))
    have hR : Below w.heap.size w ((((((W7.setCell ⟨w.heap.size + 1, 0, none⟩ (.int .i64 0)).setCell ⟨w.heap.size + 1, 1, none⟩ (.int .i64 0)).setCell ⟨w.heap.size + 1 + 1, 0, none⟩ (.int .i64 0)).setCell ⟨w.heap.size + 1 + 1, 1, none⟩ (.int .i64 0)).setCell ⟨w.heap.size + 1 + 1 + 1, 0, none⟩ (.int .i64 0)).setCell ⟨w.heap.size + 1 + 1 + 1, 1, none⟩ (.int .i64 0)) := by (repeat' (first | (with_reducible exact Below.refl _ _) | (with_reducible refine below_step (by assumption) ?_ ?_) | (with_reducible refine Below.alloc ?_ ?_ _) | (with_reducible refine Below.setCell ?_ ?_ _) | (with_reducible refine below_drewN ?_ _) | (with_reducible refine Below.drew ?_) | omega | (simp; omega) | (simp; done)))
    simp only [List.setIfInBounds_toArray, List.set_cons_zero, List.set_cons_succ] at RA RB RC
    clear kA kB kC hB kA0 kA1 kAf0 kAf1 kAl kB0 kB1 kBf0 kBf1 kBl kC0 kC1 kCf0 kCf1 kCl
    generalize ((((((W7.setCell ⟨w.heap.size + 1, 0, none⟩ (.int .i64 0)).setCell ⟨w.heap.size + 1, 1, none⟩ (.int .i64 0)).setCell ⟨w.heap.size + 1 + 1, 0, none⟩ (.int .i64 0)).setCell ⟨w.heap.size + 1 + 1, 1, none⟩ (.int .i64 0)).setCell ⟨w.heap.size + 1 + 1 + 1, 0, none⟩ (.int .i64 0)).setCell ⟨w.heap.size + 1 + 1 + 1, 1, none⟩ (.int .i64 0)) = W9 at RA RB RC hR ⊢
    have RA0 : (W9).cell? ⟨w.heap.size + 1, 0, none⟩ = some (.int .i64 0) := RA.cell 0; have RA1 : (W9).cell? ⟨w.heap.size + 1, 1, none⟩ = some (.int .i64 0) := RA.cell 1; have RAl : w.heap.size + 1 < (W9).heap.size := RA.lt
    have RB0 : (W9).cell? ⟨w.heap.size + 1 + 1, 0, none⟩ = some (.int .i64 0) := RB.cell 0; have RB1 : (W9).cell? ⟨w.heap.size + 1 + 1, 1, none⟩ = some (.int .i64 0) := RB.cell 1; have RBl : w.heap.size + 1 + 1 < (W9).heap.size := RB.lt
    have RC0 : (W9).cell? ⟨w.heap.size + 1 + 1 + 1, 0, none⟩ = some (.int .i64 0) := RC.cell 0; have RC1 : (W9).cell? ⟨w.heap.size + 1 + 1 + 1, 1, none⟩ = some (.int .i64 0) := RC.cell 1; have RCl : w.heap.size + 1 + 1 + 1 < (W9).heap.size := RC.lt
    refine bodyPost_ret (v := .tuple #[.agg #[.int .i64 0, .int .i64 0], .agg #[.int .i64 0, .int .i64 0], .agg #[.int .i64 0, .int .i64 0], .bool false]) (by simp [results, Try.results15, go_sem, RA0, RA1, RB0, RB1, RC0, RC1]) rfl ?_
    exact fr3P_no HO.out.symm hR
  · have RA := ((((((kA.set 0 (.int .i64 0)).set 1 (.int .i64 0)).far (p := ⟨w.heap.size + 1 + 1, 0, none⟩) (by show _ ≠ w.heap.size + 1 + 1; omega) (.int .i64 0)).far (p := ⟨w.heap.size + 1 + 1, 1, none⟩) (by show _ ≠ w.heap.size + 1 + 1; omega) (.int .i64 0)).far (p := ⟨w.heap.size + 1 + 1 + 1, 0, none⟩) (by show _ ≠ w.heap.size + 1 + 1 + 1; omega) (.int .i64 0)).far (p := ⟨w.heap.size + 1 + 1 + 1, 1, none⟩) (by show _ ≠ w.heap.size + 1 + 1 + 1; omega) (.int .i64 0))
    have RB := ((((((kB.far (p := ⟨w.heap.size + 1, 0, none⟩) (by show _ ≠ w.heap.size + 1; omega) (.int .i64 0)).far (p := ⟨w.heap.size + 1, 1, none⟩) (by show _ ≠ w.heap.size + 1; omega) (.int .i64 0)).set 0 (.int .i64 0)).set 1 (.int .i64 0)).far (p := ⟨w.heap.size + 1 + 1 + 1, 0, none⟩) (by show _ ≠ w.heap.size + 1 + 1 + 1; omega) (.int .i64 0)).far (p := ⟨w.heap.size + 1 + 1 + 1, 1, none⟩) (by show _ ≠ w.heap.size + 1 + 1 + 1; omega) (.int .i64 0))
    have RC := ((((((kC.far (p := ⟨w.heap.size + 1, 0, none⟩) (by show _ ≠ w.heap.size + 1; omega) (.int .i64 0)).far (p := ⟨w.heap.size + 1, 1, none⟩) (by show _ ≠ w.heap.size + 1; omega) (.int .i64 0)).far (p := ⟨w.heap.size + 1 + 1, 0, none⟩) (by show _ ≠ w.heap.size + 1 + 1; omega) (.int .i64 0)).far (p := ⟨w.heap.size + 1 + 1, 1, none⟩) (by show _ ≠ w.heap.size + 1 + 1; omega) (.int .i64 0)).set 0 (.int .i64 0)).set 1 (.int .i64 0))
    have hR : Below w.heap.size w ((((((W7.setCell ⟨w.heap.size + 1, 0, none⟩ (.int .i64 0)).setCell ⟨w.heap.size + 1, 1, none⟩ (.int .i64 0)).setCell ⟨w.heap.size + 1 + 1, 0, none⟩ (.int .i64 0)).setCell ⟨w.heap.size + 1 + 1, 1, none⟩ (.int .i64 0)).setCell ⟨w.heap.size + 1 + 1 + 1, 0, none⟩ (.int .i64 0)).setCell ⟨w.heap.size + 1 + 1 + 1, 1, none⟩ (.int .i64 0)) := by (repeat' (first | (with_reducible exact Below.refl _ _) | (with_reducible refine below_step (by assumption) ?_ ?_) | (with_reducible refine Below.alloc ?_ ?_ _) | (with_reducible refine Below.setCell ?_ ?_ _) | (with_reducible refine below_drewN ?_ _) | (with_reducible refine Below.drew ?_) | omega | (simp; omega) | (simp; done)))
    simp only [List.setIfInBounds_toArray, List.set_cons_zero, List.set_cons_succ] at RA RB RC
    clear kA kB kC hB kA0 kA1 kAf0 kAf1 kAl kB0 kB1 kBf0 kBf1 kBl kC0 kC1 kCf0 kCf1 kCl
    generalize ((((((W7.setCell ⟨w.heap.size + 1, 0, none⟩ (.int .i64 0)).setCell ⟨w.heap.size + 1, 1, none⟩ (.int .i64 0)).setCell ⟨w.heap.size + 1 + 1, 0, none⟩ (.int .i64 0)).setCell ⟨w.heap.size + 1 + 1, 1, none⟩ (.int .i64 0)).setCell ⟨w.heap.size + 1 + 1 + 1, 0, none⟩ (.int .i64 0)).setCell ⟨w.heap.size + 1 + 1 + 1, 1, none⟩ (.int .i64 0)) = W9 at RA RB RC hR ⊢
    have RA0 : (W9).cell? ⟨w.heap.size + 1, 0, none⟩ = some (.int .i64 0) := RA.cell 0; have RA1 : (W9).cell? ⟨w.heap.size + 1, 1, none⟩ = some (.int .i64 0) := RA.cell 1; have RAl : w.heap.size + 1 < (W9).heap.size := RA.lt
    have RB0 : (W9).cell? ⟨w.heap.size + 1 + 1, 0, none⟩ = some (.int .i64 0) := RB.cell 0; have RB1 : (W9).cell? ⟨w.heap.size + 1 + 1, 1, none⟩ = some (.int .i64 0) := RB.cell 1; have RBl : w.heap.size + 1 + 1 < (W9).heap.size := RB.lt
    have RC0 : (W9).cell? ⟨w.heap.size + 1 + 1 + 1, 0, none⟩ = some (.int .i64 0) := RC.cell 0; have RC1 : (W9).cell? ⟨w.heap.size + 1 + 1 + 1, 1, none⟩ = some (.int .i64 0) := RC.cell 1; have RCl : w.heap.size + 1 + 1 + 1 < (W9).heap.size := RC.lt
    refine bodyPost_ret (v := .tuple #[.agg #[.int .i64 0, .int .i64 0], .agg #[.int .i64 0, .int .i64 0], .agg #[.int .i64 0, .int .i64 0], .bool false]) (by simp [results, Try.results15, go_sem, RA0, RA1, RB0, RB1, RC0, RC1]) rfl ?_
    exact fr3P_no HO.out.symm hR
  · go_big_region
    all_goals go_wp2
    have RA := ((((((kA.set 0 (.int .i64 x2)).set 1 (.int .i64 y2)).far (p := ⟨w.heap.size + 1 + 1, 0, none⟩) (by show _ ≠ w.heap.size + 1 + 1; omega) (.int .i64 x3)).far (p := ⟨w.heap.size + 1 + 1, 1, none⟩) (by show _ ≠ w.heap.size + 1 + 1; omega) (.int .i64 y3)).far (p := ⟨w.heap.size + 1 + 1 + 1, 0, none⟩) (by show _ ≠ w.heap.size + 1 + 1 + 1; omega) (.int .i64 x5)).far (p := ⟨w.heap.size + 1 + 1 + 1, 1, none⟩) (by show _ ≠ w.heap.size + 1 + 1 + 1; omega) (.int .i64 y5))
    have RB := ((((((kB.far (p := ⟨w.heap.size + 1, 0, none⟩) (by show _ ≠ w.heap.size + 1; omega) (.int .i64 x2)).far (p := ⟨w.heap.size + 1, 1, none⟩) (by show _ ≠ w.heap.size + 1; omega) (.int .i64 y2)).set 0 (.int .i64 x3)).set 1 (.int .i64 y3)).far (p := ⟨w.heap.size + 1 + 1 + 1, 0, none⟩) (by show _ ≠ w.heap.size + 1 + 1 + 1; omega) (.int .i64 x5)).far (p := ⟨w.heap.size + 1 + 1 + 1, 1, none⟩) (by show _ ≠ w.heap.size + 1 + 1 + 1; omega) (.int .i64 y5))
    have RC := ((((((kC.far (p := ⟨w.heap.size + 1, 0, none⟩) (by show _ ≠ w.heap.size + 1; omega) (.int .i64 x2)).far (p := ⟨w.heap.size + 1, 1, none⟩) (by show _ ≠ w.heap.size + 1; omega) (.int .i64 y2)).far (p := ⟨w.heap.size + 1 + 1, 0, none⟩) (by show _ ≠ w.heap.size + 1 + 1; omega) (.int .i64 x3)).far (p := ⟨w.heap.size + 1 + 1, 1, none⟩) (by show _ ≠ w.heap.size + 1 + 1; omega) (.int .i64 y3)).set 0 (.int .i64 x5)).set 1 (.int .i64 y5))
    have hR : Below w.heap.size w ((((((W7.setCell ⟨w.heap.size + 1, 0, none⟩ (.int .i64 x2)).setCell ⟨w.heap.size + 1, 1, none⟩ (.int .i64 y2)).setCell ⟨w.heap.size + 1 + 1, 0, none⟩ (.int .i64 x3)).setCell ⟨w.heap.size + 1 + 1, 1, none⟩ (.int .i64 y3)).setCell ⟨w.heap.size + 1 + 1 + 1, 0, none⟩ (.int .i64 x5)).setCell ⟨w.heap.size + 1 + 1 + 1, 1, none⟩ (.int .i64 y5)) := by (repeat' (first | (with_reducible exact Below.refl _ _) | (with_reducible refine below_step (by assumption) ?_ ?_) | (with_reducible refine Below.alloc ?_ ?_ _) | (with_reducible refine Below.setCell ?_ ?_ _) | (with_reducible refine below_drewN ?_ _) | (with_reducible refine Below.drew ?_) | omega | (simp; omega) | (simp; done)))
    simp only [List.setIfInBounds_toArray, List.set_cons_zero, List.set_cons_succ] at RA RB RC
    replace RA := Blk.drew RA
    replace RB := Blk.drew RB
    replace RC := Blk.drew RC
    replace hR := hR.drew
    clear kA kB kC hB kA0 kA1 kAf0 kAf1 kAl kB0 kB1 kBf0 kBf1 kBl kC0 kC1 kCf0 kCf1 kCl
    generalize ((((((W7.setCell ⟨w.heap.size + 1, 0, none⟩ (.int .i64 x2)).setCell ⟨w.heap.size + 1, 1, none⟩ (.int .i64 y2)).setCell ⟨w.heap.size + 1 + 1, 0, none⟩ (.int .i64 x3)).setCell ⟨w.heap.size + 1 + 1, 1, none⟩ (.int .i64 y3)).setCell ⟨w.heap.size + 1 + 1 + 1, 0, none⟩ (.int .i64 x5)).setCell ⟨w.heap.size + 1 + 1 + 1, 1, none⟩ (.int .i64 y5)).drew = W9 at RA RB RC hR ⊢
    have RA0 : (W9).cell? ⟨w.heap.size + 1, 0, none⟩ = some (.int .i64 x2) := RA.cell 0; have RA1 : (W9).cell? ⟨w.heap.size + 1, 1, none⟩ = some (.int .i64 y2) := RA.cell 1; have RAl : w.heap.size + 1 < (W9).heap.size := RA.lt
    have RB0 : (W9).cell? ⟨w.heap.size + 1 + 1, 0, none⟩ = some (.int .i64 x3) := RB.cell 0; have RB1 : (W9).cell? ⟨w.heap.size + 1 + 1, 1, none⟩ = some (.int .i64 y3) := RB.cell 1; have RBl : w.heap.size + 1 + 1 < (W9).heap.size := RB.lt
    have RC0 : (W9).cell? ⟨w.heap.size + 1 + 1 + 1, 0, none⟩ = some (.int .i64 x5) := RC.cell 0; have RC1 : (W9).cell? ⟨w.heap.size + 1 + 1 + 1, 1, none⟩ = some (.int .i64 y5) := RC.cell 1; have RCl : w.heap.size + 1 + 1 + 1 < (W9).heap.size := RC.lt
    refine bodyPost_ret (v := .tuple #[.agg #[.int .i64 x2, .int .i64 y2], .agg #[.int .i64 x3, .int .i64 y3], .agg #[.int .i64 x5, .int .i64 y5], .bool true]) (by simp [results, Try.results15, go_sem, RA0, RA1, RB0, RB1, RC0, RC1]) rfl ?_
    exact fr3P_yes HO.out.symm hR
end Go.Proofs.Ytcnfjapoopdiaaa

/- SqL -/
namespace Go.Proofs.Ytcnfjapoopdiaaa
open Go.RowKit

theorem fr3P_congr {w w1 : World} {a b c d e f a' b' c' d' e' f' : Int} {o o' : Bool} {x : Ending} (ho : o = o') (h : o = true → a = a' ∧ b = b' ∧ c = c' ∧ d = d' ∧ e = e' ∧ f = f') (k : fr3P w a b c d e f o x w1) : fr3P w a' b' c' d' e' f' o' x w1 := by
  subst ho
  cases o
  · exact k
  · obtain ⟨rfl, rfl, rfl, rfl, rfl, rfl⟩ := h rfl
    exact k
def sN1 (p q r s : Int) : Int := mkN (r * q - p * s) (s * q)
def sD1 (p q r s : Int) : Int := mkD (r * q - p * s) (s * q)
def sN4 (p q r s : Int) : Int := mkN (p * s + r * q) (q * s)
def sD4 (p q r s : Int) : Int := mkD (p * s + r * q) (q * s)
def sqO (p q r s t u : Int) : Bool := mOk (r * q - p * s) (s * q) && mOk (sN1 p q r s * 1) (sD1 p q r s * 2) && mOk (t * 1) (u * 2) && mOk (p * s + r * q) (q * s) && mOk (sN4 p q r s * 1) (sD4 p q r s * 2)
def sqP (n p q r s t u : Int) (w : World) : Ending → World → Prop :=
  fr3P w (mkN (sN1 p q r s * 1) (sD1 p q r s * 2)) (mkD (sN1 p q r s * 1) (sD1 p q r s * 2)) (mkN (t * 1) (u * 2)) (mkD (t * 1) (u * 2)) (mkN (sN4 p q r s * 1) (sD4 p q r s * 2)) (mkD (sN4 p q r s * 1) (sD4 p q r s * 2)) (vlB n p q r s t u && sqO p q r s t u)
theorem c_sSquares (n p q r s t u : Int) (w : World) : Calls Try.prog 15 #[.int .i64 n, .agg #[.int .i64 p, .int .i64 q, .int .i64 r, .int .i64 s, .int .i64 t, .int .i64 u]] w (sqP n p q r s t u w) := by
  unfold sqP
  cases h : vlB n p q r s t u
  · exact c_sSquares_no n p q r s t u _ _ _ _ _ _ h w
  · obtain ⟨_, ht, _, _⟩ := vlB_of h
    obtain ⟨h1, h2, h3⟩ := triOk_of ht
    have k := c_sSquares_of n p q r s t u _ _ _ _ _ _ _ _ _ _ _ _ _ _ _ h (Lib.hid (c_frSub r s p q h2 h1)) (Lib.hid (c_cnHalf _ _ _ (fun hm => by rw [hm]; exact mOk_fr hm))) (Lib.hid (c_cnHalf t u true (fun _ => h3))) (Lib.hid (c_frAdd p q r s h1 h2)) (Lib.hid (c_cnHalf _ _ _ (fun hm => by rw [hm]; exact mOk_fr hm))) w
    refine k.mono fun e w1 hk => fr3P_congr ?_ ?_ hk
    · unfold sqO sN1 sD1 sN4 sD4
      cases mOk (r * q - p * s) (s * q) <;> cases mOk (p * s + r * q) (q * s) <;> simp [rsI, Bool.and_assoc]
    · intro ho
      unfold sN1 sD1 sN4 sD4
      cases hm1 : mOk (r * q - p * s) (s * q) <;> cases hm4 : mOk (p * s + r * q) (q * s) <;> rw [hm1, hm4] at ho <;> simp [rsI] at ho ⊢
      simp [ho]
theorem c_iSquares (n p q r s t u : Int) (w : World) : Calls Try.prog 14 #[.int .i64 n, .agg #[.int .i64 p, .int .i64 q, .int .i64 r, .int .i64 s, .int .i64 t, .int .i64 u]] w (sqP n p q r s t u w) := by
  unfold sqP
  cases h : vlB n p q r s t u
  · exact c_iSquares_no n p q r s t u _ _ _ _ _ _ h w
  · obtain ⟨ha, ht, ho, hi⟩ := vlB_of h
    obtain ⟨h1, h2, h3⟩ := triOk_of ht
    have hI := fun w => c_isTriangle n p q r s t u (areaB_of ha) ht w
    rw [ho, hi] at hI
    have hw := k_whole 2 true (by omega)
    obtain ⟨e1, e2, e3⟩ := mk_one (n := 2) (by omega)
    rw [e1, e2, e3] at hw
    have h21 : frOk 2 1 = true := by decide
    have k := c_iSquares_of n p q r s t u _ _ _ _ _ _ _ _ _ _ _ _ _ _ _ ha ht (Lib.hid hI) (Lib.hid hw) (Lib.hid (k_minus r s p q true h2 h1)) (Lib.hid (k_over _ _ 2 1 _ fr_if h21)) (Lib.hid (k_over t u 2 1 _ h3 h21)) (Lib.hid (k_plus p q r s _ h1 h2)) (Lib.hid (k_over _ _ 2 1 _ fr_if h21)) w
    refine k.mono fun e w1 hk => fr3P_congr ?_ ?_ hk
    · unfold sqO sN1 sD1 sN4 sD4
      cases hm1 : mOk (r * q - p * s) (s * q)
      · simp
      · simp only [Bool.true_and, if_true]
        cases hm2 : mOk (mkN (r * q - p * s) (s * q) * 1) (mkD (r * q - p * s) (s * q) * 2)
        · simp
        · cases hm3 : mOk (t * 1) (u * 2)
          · simp
          · cases hm4 : mOk (p * s + r * q) (q * s) <;> simp
    · unfold sN1 sD1 sN4 sD4
      cases hm1 : mOk (r * q - p * s) (s * q)
      · intro h; simp at h
      · simp only [Bool.true_and, if_true]
        cases hm2 : mOk (mkN (r * q - p * s) (s * q) * 1) (mkD (r * q - p * s) (s * q) * 2)
        · intro h; simp at h
        · cases hm3 : mOk (t * 1) (u * 2)
          · intro h; simp at h
          · cases hm4 : mOk (p * s + r * q) (q * s)
            · intro h; simp at h
            · intro h
              simp only [Bool.true_and, if_true] at h ⊢
              rw [h]
              simp
theorem sqP_form (n p q r s t u : Int) : ∃ (a b c d e f : Int) (o : Bool), ∀ w, sqP n p q r s t u w = fun e' w' => e' = .returned (.tuple #[.agg #[.int .i64 a, .int .i64 b], .agg #[.int .i64 c, .int .i64 d], .agg #[.int .i64 e, .int .i64 f], .bool o]) ∧ Below w.heap.size w w' := ⟨_, _, _, _, _, _, _, fun _ => rfl⟩
theorem box3 (w : World) (a b c d e0 f : Int) :
    Blk w.heap.size #[.int .i64 a, .int .i64 b] 25 (((w.alloc (.cells #[.int .i64 a, .int .i64 b] 25)).alloc (.cells #[.int .i64 c, .int .i64 d] 25)).alloc (.cells #[.int .i64 e0, .int .i64 f] 25)) ∧ Blk (w.heap.size + 1) #[.int .i64 c, .int .i64 d] 25 (((w.alloc (.cells #[.int .i64 a, .int .i64 b] 25)).alloc (.cells #[.int .i64 c, .int .i64 d] 25)).alloc (.cells #[.int .i64 e0, .int .i64 f] 25)) ∧ Blk (w.heap.size + 1 + 1) #[.int .i64 e0, .int .i64 f] 25 (((w.alloc (.cells #[.int .i64 a, .int .i64 b] 25)).alloc (.cells #[.int .i64 c, .int .i64 d] 25)).alloc (.cells #[.int .i64 e0, .int .i64 f] 25)) ∧ Below w.heap.size w (((w.alloc (.cells #[.int .i64 a, .int .i64 b] 25)).alloc (.cells #[.int .i64 c, .int .i64 d] 25)).alloc (.cells #[.int .i64 e0, .int .i64 f] 25)) := by
  refine ⟨((Blk.new w _ _).alloc _).alloc _, ?_, ?_, by (repeat' (first | (with_reducible exact Below.refl _ _) | (with_reducible refine below_step (by assumption) ?_ ?_) | (with_reducible refine Below.alloc ?_ ?_ _) | (with_reducible refine Below.setCell ?_ ?_ _) | (with_reducible refine below_drewN ?_ _) | (with_reducible refine Below.drew ?_) | omega | (simp; omega) | (simp; done)))⟩
  · have := (Blk.new (w.alloc (.cells #[.int .i64 a, .int .i64 b] 25)) #[.int .i64 c, .int .i64 d] 25).alloc (.cells #[.int .i64 e0, .int .i64 f] 25)
    simpa using this
  · have := Blk.new ((w.alloc (.cells #[.int .i64 a, .int .i64 b] 25)).alloc (.cells #[.int .i64 c, .int .i64 d] 25)) #[.int .i64 e0, .int .i64 f] 25
    simpa using this
theorem c_eqFr (A B : Int) (w : World) :
    Calls Try.prog 42 #[.agg #[.int .i64 A, .int .i64 B], .agg #[.int .i64 A, .int .i64 B]] w fun e w' => e = .returned (.bool true) ∧ Below w.heap.size w w' := by
  have h3 : (A != A) = false := by simp
  have h4 : (B != B) = false := by simp
  go_enter Try.func42, Try.ntmps42
  go_wp2
  go_ret
  refine ⟨rfl, ?_⟩
  go_grown
end Go.Proofs.Ytcnfjapoopdiaaa
