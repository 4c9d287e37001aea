/- Several texts joined: Tof TofI PtS TofS Stp TofB ScaT TofL Vl PotD. -/
import Derived.Test.YtcnfjapoopdiaaaScal
import Derived.Deep.Cut
import Derived.Test.YtcnfjapoopdiaaaCalcB
import Derived.Test.YtcnfjapoopdiaaaPt2
import Derived.Test.YtcnfjapoopdiaaaPt
import Derived.Test.YtcnfjapoopdiaaaFrOps
import Derived.Test.YtcnfjapoopdiaaaIsLaw
import Derived.Test.YtcnfjapoopdiaaaFv
/- Tof -/
namespace Go.Proofs.Ytcnfjapoopdiaaa
open Go.RowKit

def tofP (w : World) (a b c d e f : Int) (o : Bool) (x : Ending) (w' : World) : Prop := TriPost w (if o then ordV a b c d e f else tri0) o x w'
theorem tofP_no {w w' : World} {a b c d e f : Int} {o : Bool} (h : o = false) (hb : Below w.heap.size w w') : tofP w a b c d e f o (.returned (.tuple #[.agg #[.int .i64 0, .int .i64 0, .int .i64 0, .int .i64 0, .int .i64 0, .int .i64 0], .bool false])) w' := by rw [h]; exact ⟨rfl, hb⟩
theorem tofP_yes {w w' : World} {a b c d e f p1 p2 p3 p4 p5 p6 : Int} {o : Bool} (h : o = true) (hV : ordV a b c d e f = .agg #[.int .i64 p1, .int .i64 p2, .int .i64 p3, .int .i64 p4, .int .i64 p5, .int .i64 p6]) (hb : Below w.heap.size w w') : tofP w a b c d e f o (.returned (.tuple #[.agg #[.int .i64 p1, .int .i64 p2, .int .i64 p3, .int .i64 p4, .int .i64 p5, .int .i64 p6], .bool true])) w' := by
  rw [h]; unfold tofP; rw [if_pos rfl, hV]; exact ⟨rfl, hb⟩
set_option maxHeartbeats 2000000 in
set_option maxRecDepth 100000 in
theorem c_cnTriangle_of (n x1 x2 y1 y2 a1 b1 a2 b2 a3 b3 a4 b4 a5 b5 a6 b6 a7 b7 a8 b8 a9 b9 : Int) (m1 m2 m3 m4 m5 m6 m7 m8 m9 : Bool) (hn : 1 ≤ n ∧ n ≤ 31)
    (H1 : Hid (∀ w : World, Calls Try.prog 57 #[.agg #[.int .i64 x1, .int .i64 x2], .agg #[.int .i64 n, .int .i64 1]] w fun e w' => e = .returned (.tuple #[.agg #[.int .i64 a1, .int .i64 b1], .bool m1]) ∧ Below w.heap.size w w'))
    (H2 : Hid (∀ w : World, Calls Try.prog 48 #[.agg #[.int .i64 x1, .int .i64 x2], .agg #[.int .i64 n, .int .i64 1]] w fun e w' => e = .returned (.tuple #[.agg #[.int .i64 a2, .int .i64 b2], .bool m2]) ∧ Below w.heap.size w w'))
    (H3 : Hid (∀ w : World, Calls Try.prog 49 #[.agg #[.int .i64 x1, .int .i64 x2], .agg #[.int .i64 x1, .int .i64 x2]] w fun e w' => e = .returned (.tuple #[.agg #[.int .i64 a3, .int .i64 b3], .bool m3]) ∧ Below w.heap.size w w'))
    (H4 : Hid (∀ w : World, Calls Try.prog 51 #[.agg #[.int .i64 x1, .int .i64 x2], .agg #[.int .i64 y1, .int .i64 y2]] w fun e w' => e = .returned (.tuple #[.agg #[.int .i64 a4, .int .i64 b4], .bool m4]) ∧ Below w.heap.size w w'))
    (H5 : m2 = true → Hid (∀ w : World, Calls Try.prog 51 #[.agg #[.int .i64 a2, .int .i64 b2], .agg #[.int .i64 y1, .int .i64 y2]] w fun e w' => e = .returned (.tuple #[.agg #[.int .i64 a5, .int .i64 b5], .bool m5]) ∧ Below w.heap.size w w'))
    (H6 : m3 = true → Hid (∀ w : World, Calls Try.prog 48 #[.agg #[.int .i64 a3, .int .i64 b3], .agg #[.int .i64 (n * n), .int .i64 1]] w fun e w' => e = .returned (.tuple #[.agg #[.int .i64 a6, .int .i64 b6], .bool m6]) ∧ Below w.heap.size w w'))
    (H7 : m4 = true → Hid (∀ w : World, Calls Try.prog 49 #[.agg #[.int .i64 (2 * n), .int .i64 1], .agg #[.int .i64 a4, .int .i64 b4]] w fun e w' => e = .returned (.tuple #[.agg #[.int .i64 a7, .int .i64 b7], .bool m7]) ∧ Below w.heap.size w w'))
    (H8 : m1 = true → m5 = true → Hid (∀ w : World, Calls Try.prog 49 #[.agg #[.int .i64 a1, .int .i64 b1], .agg #[.int .i64 a5, .int .i64 b5]] w fun e w' => e = .returned (.tuple #[.agg #[.int .i64 a8, .int .i64 b8], .bool m8]) ∧ Below w.heap.size w w'))
    (H9 : m6 = true → Hid (∀ w : World, Calls Try.prog 51 #[.agg #[.int .i64 a6, .int .i64 b6], .agg #[.int .i64 y1, .int .i64 y2]] w fun e w' => e = .returned (.tuple #[.agg #[.int .i64 a9, .int .i64 b9], .bool m9]) ∧ Below w.heap.size w w'))
    (HO : m8 = true → m7 = true → m9 = true → ∀ w : World, Calls Try.prog 75 #[.agg #[.int .i64 a8, .int .i64 b8], .agg #[.int .i64 a7, .int .i64 b7], .agg #[.int .i64 a9, .int .i64 b9]] w fun e w' => e = .returned (ordV a8 b8 a7 b7 a9 b9) ∧ Below w.heap.size w w') (w : World) :
    Calls Try.prog 31 #[.int .i64 n, .agg #[.int .i64 x1, .int .i64 x2], .agg #[.int .i64 y1, .int .i64 y2]] w (tofP w a8 b8 a7 b7 a9 b9 (m1 && m2 && m3 && m4 && (m5 && m6 && m7) && (m8 && m9))) := by
  obtain ⟨o, ho⟩ : ∃ o, (m1 && m2 && m3 && m4 && (m5 && m6 && m7) && (m8 && m9)) = o := ⟨_, rfl⟩
  rw [ho]
  have HM := Lib.hid ho
  clear ho
  have H5' := Lib.hid H5
  have H6' := Lib.hid H6
  have H7' := Lib.hid H7
  have H8' := Lib.hid H8
  have H9' := Lib.hid H9
  have HO' := Lib.hid HO
  clear H5 H6 H7 H8 H9 HO
  have kX := ((Blk.new w #[.int .i64 x1, .int .i64 x2] 25).alloc (.cells #[.int .i64 y1, .int .i64 y2] 25)).alloc (.cells #[.int .i64 0, .int .i64 0, .int .i64 0, .int .i64 0, .int .i64 0, .int .i64 0] 27)
  have kY := (Blk.new (w.alloc (.cells #[.int .i64 x1, .int .i64 x2] 25)) #[.int .i64 y1, .int .i64 y2] 25).alloc (.cells #[.int .i64 0, .int .i64 0, .int .i64 0, .int .i64 0, .int .i64 0, .int .i64 0] 27)
  have kT := Blk.new ((w.alloc (.cells #[.int .i64 x1, .int .i64 x2] 25)).alloc (.cells #[.int .i64 y1, .int .i64 y2] 25)) #[.int .i64 0, .int .i64 0, .int .i64 0, .int .i64 0, .int .i64 0, .int .i64 0] 27
  have hB : Below w.heap.size w (((w.alloc (.cells #[.int .i64 x1, .int .i64 x2] 25)).alloc (.cells #[.int .i64 y1, .int .i64 y2] 25)).alloc (.cells #[.int .i64 0, .int .i64 0, .int .i64 0, .int .i64 0, .int .i64 0, .int .i64 0] 27)) := by (repeat' (first | (with_reducible exact Below.refl _ _) | (with_reducible refine below_step (by assumption) ?_ ?_) | (with_reducible refine Below.alloc ?_ ?_ _) | (with_reducible refine Below.setCell ?_ ?_ _) | (with_reducible refine below_drewN ?_ _) | (with_reducible refine Below.drew ?_) | omega | (simp; omega) | (simp; done)))
  simp only [World.size_alloc] at kY kT
  have hs := hB.size
  have HI := Lib.hid (fun k w => c_frInt k w)
  go_enter Try.func31, Try.ntmps31
  go_wp2
  generalize ((w.alloc _).alloc _).alloc _ = W at *
  have kX0 : (W).cell? ⟨w.heap.size, 0, none⟩ = some (.int .i64 x1) := kX.cell 0; have kX1 : (W).cell? ⟨w.heap.size, 1, none⟩ = some (.int .i64 x2) := kX.cell 1; have kXl : w.heap.size < (W).heap.size := kX.lt
  apply region_join1 (fun r8 Wz => Over [] W Wz ∧ (fun _ => True) Wz ∧ W.heap.size ≤ r8 ∧ Blk r8 #[.int .i64 a1, .int .i64 b1] 25 Wz)
  · intro hcont
    refine wp_region_cls [] (fun _ => false) (fun _ => True) (KD (fun _ => True) []) (by kernel_rfl) ⟨trivial, MemL.nil _⟩ ?_
    apply wpAnyF_hd ⟨W, Over.refl _ _, trivial, MemL.nil _⟩ [true, true, true, true, true, true, true] 3 (KD.closed (Closed.true) _) (fun _ _ => trivial) (by kernel_rfl) (by kernel_rfl) (by kernel_rfl) (by kernel_rfl) (by simp)
    · intro E hE hEN hEn; (repeat (first | (refine wpHL_take ?_; go_big_quiet_step ((first | (go_at_call 50; exact Calls.quiet_cls hE _ (HI.out _ _)) | (go_at_call 57; exact Calls.quiet_cls hE _ (H1.out _)))); refine wpQuiet_nil ?_) | refine wpHL_skip ?_)); exact wpHL_end rfl
    refine wpAnyF_ready [7] 2 (by kernel_rfl) (by kernel_rfl) (by simp) ?_
    refine AllF.cons ?_ ?_
    · refine stepK_alloc (zs := #[.int .i64 0, .int .i64 0]) (T := 25) (by rfl) (by rfl) (by rfl) (fun _ => by go_simp) (Closed.true) (fun r8 hr8 hl8 hne => ?_)
      simp only [Act.put, List.setIfInBounds_toArray, List.set_cons_succ, List.set_cons_zero]
      refine wpAnyF_ready [8] 1 (by kernel_rfl) (by kernel_rfl) (by simp) ?_
      refine AllF.cons ?_ ?_
      · refine stepK_store (v := .agg #[.int .i64 a1, .int .i64 b1]) [] [] (by rfl) (by rfl) (by rfl) (by rfl) (by rfl) (by rfl) (fun _ => by go_simp) (by rfl) (by simp [Value.cells, one1]) (.inl hr8) (Closed.true) (fun _ _ h _ => h) (by simp) (fun hne => ?_)
        try simp only [Value.cells]
        apply wpAnyF_hd hne [false, false, false, false, false, false, false, false, false, true] 0 (KD.closed (Closed.true) _) (fun _ _ => trivial) (by kernel_rfl) (by kernel_rfl) (by kernel_rfl) (by kernel_rfl) (by simp)
        · intro E hE hEN hEn; (repeat (first | (refine wpHL_take ?_; go_big_quiet_step ((first | (go_at_call 50; exact Calls.quiet_cls hE _ (HI.out _ _)) | (go_at_call 57; exact Calls.quiet_cls hE _ (H1.out _)))); refine wpQuiet_nil ?_) | refine wpHL_skip ?_)); exact wpHL_end rfl
        refine wpAnyF_done (by kernel_rfl) (fun Wz hOz hDz => ?_) _
        exact hcont r8 Wz ⟨hOz, hDz.1, (by omega), hDz.2.head⟩
      exact AllF.nil
    exact AllF.nil
  try dsimp only
  rintro r8 W1 ⟨hO1, _, hr1, k1⟩
  have hq1 := hO1.below
  clear hO1 kX0 kX1 kXl
  replace kX := kX.next hq1
  replace kY := kY.next hq1
  replace kT := kT.next hq1
  replace hB := below_step hq1 hs hB
  replace hs := hB.size
  clear hq1
  have kX0 : (W1).cell? ⟨w.heap.size, 0, none⟩ = some (.int .i64 x1) := kX.cell 0; have kX1 : (W1).cell? ⟨w.heap.size, 1, none⟩ = some (.int .i64 x2) := kX.cell 1; have kXl : w.heap.size < (W1).heap.size := kX.lt
  go_wp2
  apply region_join1 (fun r10 Wz => Over [] W1 Wz ∧ (fun _ => True) Wz ∧ W1.heap.size ≤ r10 ∧ Blk r10 #[.int .i64 a2, .int .i64 b2] 25 Wz)
  · intro hcont
    refine wp_region_cls [] (fun _ => false) (fun _ => True) (KD (fun _ => True) []) (by kernel_rfl) ⟨trivial, MemL.nil _⟩ ?_
    apply wpAnyF_hd ⟨W1, Over.refl _ _, trivial, MemL.nil _⟩ [true, true, true, true, true, true, true] 3 (KD.closed (Closed.true) _) (fun _ _ => trivial) (by kernel_rfl) (by kernel_rfl) (by kernel_rfl) (by kernel_rfl) (by simp)
    · intro E hE hEN hEn; (repeat (first | (refine wpHL_take ?_; go_big_quiet_step ((first | (go_at_call 50; exact Calls.quiet_cls hE _ (HI.out _ _)) | (go_at_call 48; exact Calls.quiet_cls hE _ (H2.out _)))); refine wpQuiet_nil ?_) | refine wpHL_skip ?_)); exact wpHL_end rfl
    refine wpAnyF_ready [7] 2 (by kernel_rfl) (by kernel_rfl) (by simp) ?_
    refine AllF.cons ?_ ?_
    · refine stepK_alloc (zs := #[.int .i64 0, .int .i64 0]) (T := 25) (by rfl) (by rfl) (by rfl) (fun _ => by go_simp) (Closed.true) (fun r10 hr10 hl10 hne => ?_)
      simp only [Act.put, List.setIfInBounds_toArray, List.set_cons_succ, List.set_cons_zero]
      refine wpAnyF_ready [8] 1 (by kernel_rfl) (by kernel_rfl) (by simp) ?_
      refine AllF.cons ?_ ?_
      · refine stepK_store (v := .agg #[.int .i64 a2, .int .i64 b2]) [] [] (by rfl) (by rfl) (by rfl) (by rfl) (by rfl) (by rfl) (fun _ => by go_simp) (by rfl) (by simp [Value.cells, one1]) (.inl hr10) (Closed.true) (fun _ _ h _ => h) (by simp) (fun hne => ?_)
        try simp only [Value.cells]
        apply wpAnyF_hd hne [false, false, false, false, false, false, false, false, false, true] 0 (KD.closed (Closed.true) _) (fun _ _ => trivial) (by kernel_rfl) (by kernel_rfl) (by kernel_rfl) (by kernel_rfl) (by simp)
        · intro E hE hEN hEn; (repeat (first | (refine wpHL_take ?_; go_big_quiet_step ((first | (go_at_call 50; exact Calls.quiet_cls hE _ (HI.out _ _)) | (go_at_call 48; exact Calls.quiet_cls hE _ (H2.out _)))); refine wpQuiet_nil ?_) | refine wpHL_skip ?_)); exact wpHL_end rfl
        refine wpAnyF_done (by kernel_rfl) (fun Wz hOz hDz => ?_) _
        exact hcont r10 Wz ⟨hOz, hDz.1, (by omega), hDz.2.head⟩
      exact AllF.nil
    exact AllF.nil
  try dsimp only
  rintro r10 W2 ⟨hO2, _, hr2, k2⟩
  have hq2 := hO2.below
  clear hO2 kX0 kX1 kXl
  replace kX := kX.next hq2
  replace kY := kY.next hq2
  replace kT := kT.next hq2
  replace k1 := k1.next hq2
  replace hB := below_step hq2 hs hB
  replace hs := hB.size
  clear hq2
  have kX0 : (W2).cell? ⟨w.heap.size, 0, none⟩ = some (.int .i64 x1) := kX.cell 0; have kX1 : (W2).cell? ⟨w.heap.size, 1, none⟩ = some (.int .i64 x2) := kX.cell 1; have kXl : w.heap.size < (W2).heap.size := kX.lt
  go_wp2_with fail
  refine (H3.out _).mono ?_
  rintro e u3 ⟨rfl, hb3⟩
  clear kX0 kX1 kXl
  replace kX := kX.next hb3
  replace kY := kY.next hb3
  replace kT := kT.next hb3
  replace k1 := k1.next hb3
  replace k2 := k2.next hb3
  replace hB := below_step hb3 hs hB
  replace hs := hB.size
  clear hb3
  replace kX := kX.alloc (.cells #[.int .i64 a3, .int .i64 b3] 25)
  replace kY := kY.alloc (.cells #[.int .i64 a3, .int .i64 b3] 25)
  replace kT := kT.alloc (.cells #[.int .i64 a3, .int .i64 b3] 25)
  replace k1 := k1.alloc (.cells #[.int .i64 a3, .int .i64 b3] 25)
  replace k2 := k2.alloc (.cells #[.int .i64 a3, .int .i64 b3] 25)
  have k3 := Blk.new u3 #[.int .i64 a3, .int .i64 b3] 25
  replace hB := hB.alloc hs (.cells #[.int .i64 a3, .int .i64 b3] 25)
  replace hs := hB.size
  go_upto_region 4 with (fail)
  generalize u3.alloc _ = W3 at *
  generalize u3.heap.size = r12 at *
  have kX0 : (W3).cell? ⟨w.heap.size, 0, none⟩ = some (.int .i64 x1) := kX.cell 0; have kX1 : (W3).cell? ⟨w.heap.size, 1, none⟩ = some (.int .i64 x2) := kX.cell 1; have kXl : w.heap.size < (W3).heap.size := kX.lt
  have kY0 : (W3).cell? ⟨w.heap.size + 1, 0, none⟩ = some (.int .i64 y1) := kY.cell 0; have kY1 : (W3).cell? ⟨w.heap.size + 1, 1, none⟩ = some (.int .i64 y2) := kY.cell 1; have kYl : w.heap.size + 1 < (W3).heap.size := kY.lt
  go_wp2_with fail
  refine (H4.out _).mono ?_
  rintro e u4 ⟨rfl, hb4⟩
  clear kX0 kX1 kXl kY0 kY1 kYl
  replace kX := kX.next hb4
  replace kY := kY.next hb4
  replace kT := kT.next hb4
  replace k1 := k1.next hb4
  replace k2 := k2.next hb4
  replace k3 := k3.next hb4
  replace hB := below_step hb4 hs hB
  replace hs := hB.size
  clear hb4
  replace kX := kX.alloc (.cells #[.int .i64 a4, .int .i64 b4] 25)
  replace kY := kY.alloc (.cells #[.int .i64 a4, .int .i64 b4] 25)
  replace kT := kT.alloc (.cells #[.int .i64 a4, .int .i64 b4] 25)
  replace k1 := k1.alloc (.cells #[.int .i64 a4, .int .i64 b4] 25)
  replace k2 := k2.alloc (.cells #[.int .i64 a4, .int .i64 b4] 25)
  replace k3 := k3.alloc (.cells #[.int .i64 a4, .int .i64 b4] 25)
  have k4 := Blk.new u4 #[.int .i64 a4, .int .i64 b4] 25
  replace hB := hB.alloc hs (.cells #[.int .i64 a4, .int .i64 b4] 25)
  replace hs := hB.size
  go_upto_region 5 with (fail)
  generalize u4.alloc _ = W4 at *
  generalize u4.heap.size = r14 at *
  have HMF : Hid ((m1 && m2 && m3 && m4) = false → o = false) := fun h => by have := HM.out; rw [h] at this; simpa using this.symm
  by_cases hm : (m1 && m2 && m3 && m4) = true
  · obtain ⟨⟨⟨rfl, rfl⟩, rfl⟩, rfl⟩ : ((m1 = true ∧ m2 = true) ∧ m3 = true) ∧ m4 = true := by simpa using hm
    have J5 := Lib.hid ((H5'.out rfl).out)
    have J6 := Lib.hid ((H6'.out rfl).out)
    have J7 := Lib.hid ((H7'.out rfl).out)
    have J8 := Lib.hid (H8'.out rfl)
    clear H5' H6' H7' H8' hm HMF H1 H2 H3 H4
    have k20 : (W4).cell? ⟨r10, 0, none⟩ = some (.int .i64 a2) := k2.cell 0; have k21 : (W4).cell? ⟨r10, 1, none⟩ = some (.int .i64 b2) := k2.cell 1; have k2l : r10 < (W4).heap.size := k2.lt
    have kY0 : (W4).cell? ⟨w.heap.size + 1, 0, none⟩ = some (.int .i64 y1) := kY.cell 0; have kY1 : (W4).cell? ⟨w.heap.size + 1, 1, none⟩ = some (.int .i64 y2) := kY.cell 1; have kYl : w.heap.size + 1 < (W4).heap.size := kY.lt
    go_wp2_with fail
    refine (J5.out _).mono ?_
    rintro e u5 ⟨rfl, hb5⟩
    clear k20 k21 k2l kY0 kY1 kYl
    replace kX := kX.next hb5
    replace kY := kY.next hb5
    replace kT := kT.next hb5
    replace k1 := k1.next hb5
    replace k2 := k2.next hb5
    replace k3 := k3.next hb5
    replace k4 := k4.next hb5
    replace hB := below_step hb5 hs hB
    replace hs := hB.size
    clear hb5
    replace kX := kX.alloc (.cells #[.int .i64 a5, .int .i64 b5] 25)
    replace kY := kY.alloc (.cells #[.int .i64 a5, .int .i64 b5] 25)
    replace kT := kT.alloc (.cells #[.int .i64 a5, .int .i64 b5] 25)
    replace k1 := k1.alloc (.cells #[.int .i64 a5, .int .i64 b5] 25)
    replace k2 := k2.alloc (.cells #[.int .i64 a5, .int .i64 b5] 25)
    replace k3 := k3.alloc (.cells #[.int .i64 a5, .int .i64 b5] 25)
    replace k4 := k4.alloc (.cells #[.int .i64 a5, .int .i64 b5] 25)
    have k5 := Blk.new u5 #[.int .i64 a5, .int .i64 b5] 25
    replace hB := hB.alloc hs (.cells #[.int .i64 a5, .int .i64 b5] 25)
    replace hs := hB.size
    go_upto_region 8 with (fail)
    generalize u5.alloc _ = W5 at *
    generalize u5.heap.size = r16 at *
    have nn : (1 ≤ n * n ∧ n * n ≤ 961) := ⟨by have := Int.mul_le_mul hn.1 hn.1 (by omega) (by omega); omega, by have := Int.mul_le_mul hn.2 hn.2 (by omega) (by omega); omega⟩
    have hwn : IntKind.i64.wrap (n * n) = n * n := IntWalk.i64_in _ (by omega)
    have hw2 : IntKind.i64.wrap (2 * n) = 2 * n := IntWalk.i64_in _ (by omega)
    have k30 : (W5).cell? ⟨r12, 0, none⟩ = some (.int .i64 a3) := k3.cell 0; have k31 : (W5).cell? ⟨r12, 1, none⟩ = some (.int .i64 b3) := k3.cell 1; have k3l : r12 < (W5).heap.size := k3.lt
    go_wp2
    apply region_join1 (fun r18 Wz => Over [] W5 Wz ∧ (fun _ => True) Wz ∧ W5.heap.size ≤ r18 ∧ Blk r18 #[.int .i64 a6, .int .i64 b6] 25 Wz)
    · intro hcont
      refine wp_region_cls [] (fun _ => false) (fun _ => True) (KD (fun _ => True) []) (by kernel_rfl) ⟨trivial, MemL.nil _⟩ ?_
      apply wpAnyF_hd ⟨W5, Over.refl _ _, trivial, MemL.nil _⟩ [true, true, true, true, true, true, true, true, true] 3 (KD.closed (Closed.true) _) (fun _ _ => trivial) (by kernel_rfl) (by kernel_rfl) (by kernel_rfl) (by kernel_rfl) (by simp)
      · intro E hE hEN hEn; (repeat (first | (refine wpHL_take ?_; go_big_quiet_step ((first | (go_at_call 50; exact Calls.quiet_cls hE _ (HI.out _ _)) | (go_at_call 48; exact Calls.quiet_cls hE _ (J6.out _)))); refine wpQuiet_nil ?_) | refine wpHL_skip ?_)); exact wpHL_end rfl
      refine wpAnyF_ready [9] 2 (by kernel_rfl) (by kernel_rfl) (by simp) ?_
      refine AllF.cons ?_ ?_
      · refine stepK_alloc (zs := #[.int .i64 0, .int .i64 0]) (T := 25) (by rfl) (by rfl) (by rfl) (fun _ => by go_simp) (Closed.true) (fun r18 hr18 hl18 hne => ?_)
        simp only [Act.put, List.setIfInBounds_toArray, List.set_cons_succ, List.set_cons_zero]
        refine wpAnyF_ready [10] 1 (by kernel_rfl) (by kernel_rfl) (by simp) ?_
        refine AllF.cons ?_ ?_
        · refine stepK_store (v := .agg #[.int .i64 a6, .int .i64 b6]) [] [] (by rfl) (by rfl) (by rfl) (by rfl) (by rfl) (by rfl) (fun _ => by go_simp) (by rfl) (by simp [Value.cells, one1]) (.inl hr18) (Closed.true) (fun _ _ h _ => h) (by simp) (fun hne => ?_)
          try simp only [Value.cells]
          apply wpAnyF_hd hne [false, false, false, false, false, false, false, false, false, false, false, true] 0 (KD.closed (Closed.true) _) (fun _ _ => trivial) (by kernel_rfl) (by kernel_rfl) (by kernel_rfl) (by kernel_rfl) (by simp)
          · intro E hE hEN hEn; (repeat (first | (refine wpHL_take ?_; go_big_quiet_step ((first | (go_at_call 50; exact Calls.quiet_cls hE _ (HI.out _ _)) | (go_at_call 48; exact Calls.quiet_cls hE _ (J6.out _)))); refine wpQuiet_nil ?_) | refine wpHL_skip ?_)); exact wpHL_end rfl
          refine wpAnyF_done (by kernel_rfl) (fun Wz hOz hDz => ?_) _
          exact hcont r18 Wz ⟨hOz, hDz.1, (by omega), hDz.2.head⟩
        exact AllF.nil
      exact AllF.nil
    try dsimp only
    rintro r18 W6 ⟨hO6, _, hr6, k6⟩
    have hq6 := hO6.below
    clear hO6 k30 k31 k3l
    replace kX := kX.next hq6
    replace kY := kY.next hq6
    replace kT := kT.next hq6
    replace k1 := k1.next hq6
    replace k2 := k2.next hq6
    replace k3 := k3.next hq6
    replace k4 := k4.next hq6
    replace k5 := k5.next hq6
    replace hB := below_step hq6 hs hB
    replace hs := hB.size
    clear hq6
    have k40 : (W6).cell? ⟨r14, 0, none⟩ = some (.int .i64 a4) := k4.cell 0; have k41 : (W6).cell? ⟨r14, 1, none⟩ = some (.int .i64 b4) := k4.cell 1; have k4l : r14 < (W6).heap.size := k4.lt
    go_wp2
    apply region_join1 (fun r20 Wz => Over [] W6 Wz ∧ (fun _ => True) Wz ∧ W6.heap.size ≤ r20 ∧ Blk r20 #[.int .i64 a7, .int .i64 b7] 25 Wz)
    · intro hcont
      refine wp_region_cls [] (fun _ => false) (fun _ => True) (KD (fun _ => True) []) (by kernel_rfl) ⟨trivial, MemL.nil _⟩ ?_
      apply wpAnyF_hd ⟨W6, Over.refl _ _, trivial, MemL.nil _⟩ [true, true, true, true, true, true, true, true] 3 (KD.closed (Closed.true) _) (fun _ _ => trivial) (by kernel_rfl) (by kernel_rfl) (by kernel_rfl) (by kernel_rfl) (by simp)
      · intro E hE hEN hEn; (repeat (first | (refine wpHL_take ?_; go_big_quiet_step ((first | (go_at_call 50; exact Calls.quiet_cls hE _ (HI.out _ _)) | (go_at_call 49; exact Calls.quiet_cls hE _ (J7.out _)))); refine wpQuiet_nil ?_) | refine wpHL_skip ?_)); exact wpHL_end rfl
      refine wpAnyF_ready [8] 2 (by kernel_rfl) (by kernel_rfl) (by simp) ?_
      refine AllF.cons ?_ ?_
      · refine stepK_alloc (zs := #[.int .i64 0, .int .i64 0]) (T := 25) (by rfl) (by rfl) (by rfl) (fun _ => by go_simp) (Closed.true) (fun r20 hr20 hl20 hne => ?_)
        simp only [Act.put, List.setIfInBounds_toArray, List.set_cons_succ, List.set_cons_zero]
        refine wpAnyF_ready [9] 1 (by kernel_rfl) (by kernel_rfl) (by simp) ?_
        refine AllF.cons ?_ ?_
        · refine stepK_store (v := .agg #[.int .i64 a7, .int .i64 b7]) [] [] (by rfl) (by rfl) (by rfl) (by rfl) (by rfl) (by rfl) (fun _ => by go_simp) (by rfl) (by simp [Value.cells, one1]) (.inl hr20) (Closed.true) (fun _ _ h _ => h) (by simp) (fun hne => ?_)
          try simp only [Value.cells]
          apply wpAnyF_hd hne [false, false, false, false, false, false, false, false, false, false, true] 0 (KD.closed (Closed.true) _) (fun _ _ => trivial) (by kernel_rfl) (by kernel_rfl) (by kernel_rfl) (by kernel_rfl) (by simp)
          · intro E hE hEN hEn; (repeat (first | (refine wpHL_take ?_; go_big_quiet_step ((first | (go_at_call 50; exact Calls.quiet_cls hE _ (HI.out _ _)) | (go_at_call 49; exact Calls.quiet_cls hE _ (J7.out _)))); refine wpQuiet_nil ?_) | refine wpHL_skip ?_)); exact wpHL_end rfl
          refine wpAnyF_done (by kernel_rfl) (fun Wz hOz hDz => ?_) _
          exact hcont r20 Wz ⟨hOz, hDz.1, (by omega), hDz.2.head⟩
        exact AllF.nil
      exact AllF.nil
    try dsimp only
    rintro r20 W7 ⟨hO7, _, hr7, k7⟩
    have hq7 := hO7.below
    clear hO7 k40 k41 k4l
    replace kX := kX.next hq7
    replace kY := kY.next hq7
    replace kT := kT.next hq7
    replace k1 := k1.next hq7
    replace k2 := k2.next hq7
    replace k3 := k3.next hq7
    replace k4 := k4.next hq7
    replace k5 := k5.next hq7
    replace k6 := k6.next hq7
    replace hB := below_step hq7 hs hB
    replace hs := hB.size
    clear hq7
    have HMF : Hid ((m5 && m6 && m7 && m8 && m9) = false → o = false) := fun h => by
      have := HM.out
      revert this h
      cases m5 <;> cases m6 <;> cases m7 <;> cases m8 <;> cases m9 <;> simp <;> intro h <;> exact h.symm
    clear J5 J6 J7
    cases m5
    · have HZ := Lib.hid (HMF.out (by simp))
      clear HMF HM
      have kT0 : (W7).cell? ⟨w.heap.size + 1 + 1, 0, none⟩ = some (.int .i64 0) := kT.cell 0; have kT1 : (W7).cell? ⟨w.heap.size + 1 + 1, 1, none⟩ = some (.int .i64 0) := kT.cell 1; have kT2 : (W7).cell? ⟨w.heap.size + 1 + 1, 2, none⟩ = some (.int .i64 0) := kT.cell 2; have kT3 : (W7).cell? ⟨w.heap.size + 1 + 1, 3, none⟩ = some (.int .i64 0) := kT.cell 3; have kT4 : (W7).cell? ⟨w.heap.size + 1 + 1, 4, none⟩ = some (.int .i64 0) := kT.cell 4; have kT5 : (W7).cell? ⟨w.heap.size + 1 + 1, 5, none⟩ = some (.int .i64 0) := kT.cell 5; have kTf0 : (W7).frozen? ⟨w.heap.size + 1 + 1, 0, none⟩ = false := kT.frozen 0; have kTf1 : (W7).frozen? ⟨w.heap.size + 1 + 1, 1, none⟩ = false := kT.frozen 1; have kTf2 : (W7).frozen? ⟨w.heap.size + 1 + 1, 2, none⟩ = false := kT.frozen 2; have kTf3 : (W7).frozen? ⟨w.heap.size + 1 + 1, 3, none⟩ = false := kT.frozen 3; have kTf4 : (W7).frozen? ⟨w.heap.size + 1 + 1, 4, none⟩ = false := kT.frozen 4; have kTf5 : (W7).frozen? ⟨w.heap.size + 1 + 1, 5, none⟩ = false := kT.frozen 5; have kTl : w.heap.size + 1 + 1 < (W7).heap.size := kT.lt
      go_wp2
      have R := ((((((kT.set 0 (.int .i64 0)).set 1 (.int .i64 0)).set 2 (.int .i64 0)).set 3 (.int .i64 0)).set 4 (.int .i64 0)).set 5 (.int .i64 0))
      have hR : Below w.heap.size w ((((((W7.setCell ⟨w.heap.size + 1 + 1, 0, none⟩ (.int .i64 0)).setCell ⟨w.heap.size + 1 + 1, 1, none⟩ (.int .i64 0)).setCell ⟨w.heap.size + 1 + 1, 2, none⟩ (.int .i64 0)).setCell ⟨w.heap.size + 1 + 1, 3, none⟩ (.int .i64 0)).setCell ⟨w.heap.size + 1 + 1, 4, none⟩ (.int .i64 0)).setCell ⟨w.heap.size + 1 + 1, 5, none⟩ (.int .i64 0)) := by (repeat' (first | (with_reducible exact Below.refl _ _) | (with_reducible refine below_step (by assumption) ?_ ?_) | (with_reducible refine Below.alloc ?_ ?_ _) | (with_reducible refine Below.setCell ?_ ?_ _) | (with_reducible refine below_drewN ?_ _) | (with_reducible refine Below.drew ?_) | omega | (simp; omega) | (simp; done)))
      simp only [List.setIfInBounds_toArray, List.set_cons_zero, List.set_cons_succ] at R
      clear kT kT0 kT1 kT2 kT3 kT4 kT5 kTf0 kTf1 kTf2 kTf3 kTf4 kTf5 kTl
      generalize ((((((W7.setCell ⟨w.heap.size + 1 + 1, 0, none⟩ (.int .i64 0)).setCell ⟨w.heap.size + 1 + 1, 1, none⟩ (.int .i64 0)).setCell ⟨w.heap.size + 1 + 1, 2, none⟩ (.int .i64 0)).setCell ⟨w.heap.size + 1 + 1, 3, none⟩ (.int .i64 0)).setCell ⟨w.heap.size + 1 + 1, 4, none⟩ (.int .i64 0)).setCell ⟨w.heap.size + 1 + 1, 5, none⟩ (.int .i64 0)) = W9 at R hR ⊢
      have R0 : (W9).cell? ⟨w.heap.size + 1 + 1, 0, none⟩ = some (.int .i64 0) := R.cell 0; have R1 : (W9).cell? ⟨w.heap.size + 1 + 1, 1, none⟩ = some (.int .i64 0) := R.cell 1; have R2 : (W9).cell? ⟨w.heap.size + 1 + 1, 2, none⟩ = some (.int .i64 0) := R.cell 2; have R3 : (W9).cell? ⟨w.heap.size + 1 + 1, 3, none⟩ = some (.int .i64 0) := R.cell 3; have R4 : (W9).cell? ⟨w.heap.size + 1 + 1, 4, none⟩ = some (.int .i64 0) := R.cell 4; have R5 : (W9).cell? ⟨w.heap.size + 1 + 1, 5, none⟩ = some (.int .i64 0) := R.cell 5; have Rl : w.heap.size + 1 + 1 < (W9).heap.size := R.lt
      refine bodyPost_ret (v := .tuple #[.agg #[.int .i64 0, .int .i64 0, .int .i64 0, .int .i64 0, .int .i64 0, .int .i64 0], .bool false]) (by simp [results, Try.results31, go_sem, R0, R1, R2, R3, R4, R5]) rfl ?_
      exact tofP_no HZ.out hR
    cases m6
    · have HZ := Lib.hid (HMF.out (by simp))
      clear HMF HM
      have kT0 : (W7).cell? ⟨w.heap.size + 1 + 1, 0, none⟩ = some (.int .i64 0) := kT.cell 0; have kT1 : (W7).cell? ⟨w.heap.size + 1 + 1, 1, none⟩ = some (.int .i64 0) := kT.cell 1; have kT2 : (W7).cell? ⟨w.heap.size + 1 + 1, 2, none⟩ = some (.int .i64 0) := kT.cell 2; have kT3 : (W7).cell? ⟨w.heap.size + 1 + 1, 3, none⟩ = some (.int .i64 0) := kT.cell 3; have kT4 : (W7).cell? ⟨w.heap.size + 1 + 1, 4, none⟩ = some (.int .i64 0) := kT.cell 4; have kT5 : (W7).cell? ⟨w.heap.size + 1 + 1, 5, none⟩ = some (.int .i64 0) := kT.cell 5; have kTf0 : (W7).frozen? ⟨w.heap.size + 1 + 1, 0, none⟩ = false := kT.frozen 0; have kTf1 : (W7).frozen? ⟨w.heap.size + 1 + 1, 1, none⟩ = false := kT.frozen 1; have kTf2 : (W7).frozen? ⟨w.heap.size + 1 + 1, 2, none⟩ = false := kT.frozen 2; have kTf3 : (W7).frozen? ⟨w.heap.size + 1 + 1, 3, none⟩ = false := kT.frozen 3; have kTf4 : (W7).frozen? ⟨w.heap.size + 1 + 1, 4, none⟩ = false := kT.frozen 4; have kTf5 : (W7).frozen? ⟨w.heap.size + 1 + 1, 5, none⟩ = false := kT.frozen 5; have kTl : w.heap.size + 1 + 1 < (W7).heap.size := kT.lt
      go_wp2
      have R := ((((((kT.set 0 (.int .i64 0)).set 1 (.int .i64 0)).set 2 (.int .i64 0)).set 3 (.int .i64 0)).set 4 (.int .i64 0)).set 5 (.int .i64 0))
      have hR : Below w.heap.size w ((((((W7.setCell ⟨w.heap.size + 1 + 1, 0, none⟩ (.int .i64 0)).setCell ⟨w.heap.size + 1 + 1, 1, none⟩ (.int .i64 0)).setCell ⟨w.heap.size + 1 + 1, 2, none⟩ (.int .i64 0)).setCell ⟨w.heap.size + 1 + 1, 3, none⟩ (.int .i64 0)).setCell ⟨w.heap.size + 1 + 1, 4, none⟩ (.int .i64 0)).setCell ⟨w.heap.size + 1 + 1, 5, none⟩ (.int .i64 0)) := by (repeat' (first | (with_reducible exact Below.refl _ _) | (with_reducible refine below_step (by assumption) ?_ ?_) | (with_reducible refine Below.alloc ?_ ?_ _) | (with_reducible refine Below.setCell ?_ ?_ _) | (with_reducible refine below_drewN ?_ _) | (with_reducible refine Below.drew ?_) | omega | (simp; omega) | (simp; done)))
      simp only [List.setIfInBounds_toArray, List.set_cons_zero, List.set_cons_succ] at R
      clear kT kT0 kT1 kT2 kT3 kT4 kT5 kTf0 kTf1 kTf2 kTf3 kTf4 kTf5 kTl
      generalize ((((((W7.setCell ⟨w.heap.size + 1 + 1, 0, none⟩ (.int .i64 0)).setCell ⟨w.heap.size + 1 + 1, 1, none⟩ (.int .i64 0)).setCell ⟨w.heap.size + 1 + 1, 2, none⟩ (.int .i64 0)).setCell ⟨w.heap.size + 1 + 1, 3, none⟩ (.int .i64 0)).setCell ⟨w.heap.size + 1 + 1, 4, none⟩ (.int .i64 0)).setCell ⟨w.heap.size + 1 + 1, 5, none⟩ (.int .i64 0)) = W9 at R hR ⊢
      have R0 : (W9).cell? ⟨w.heap.size + 1 + 1, 0, none⟩ = some (.int .i64 0) := R.cell 0; have R1 : (W9).cell? ⟨w.heap.size + 1 + 1, 1, none⟩ = some (.int .i64 0) := R.cell 1; have R2 : (W9).cell? ⟨w.heap.size + 1 + 1, 2, none⟩ = some (.int .i64 0) := R.cell 2; have R3 : (W9).cell? ⟨w.heap.size + 1 + 1, 3, none⟩ = some (.int .i64 0) := R.cell 3; have R4 : (W9).cell? ⟨w.heap.size + 1 + 1, 4, none⟩ = some (.int .i64 0) := R.cell 4; have R5 : (W9).cell? ⟨w.heap.size + 1 + 1, 5, none⟩ = some (.int .i64 0) := R.cell 5; have Rl : w.heap.size + 1 + 1 < (W9).heap.size := R.lt
      refine bodyPost_ret (v := .tuple #[.agg #[.int .i64 0, .int .i64 0, .int .i64 0, .int .i64 0, .int .i64 0, .int .i64 0], .bool false]) (by simp [results, Try.results31, go_sem, R0, R1, R2, R3, R4, R5]) rfl ?_
      exact tofP_no HZ.out hR
    cases m7
    · have HZ := Lib.hid (HMF.out (by simp))
      clear HMF HM
      have kT0 : (W7).cell? ⟨w.heap.size + 1 + 1, 0, none⟩ = some (.int .i64 0) := kT.cell 0; have kT1 : (W7).cell? ⟨w.heap.size + 1 + 1, 1, none⟩ = some (.int .i64 0) := kT.cell 1; have kT2 : (W7).cell? ⟨w.heap.size + 1 + 1, 2, none⟩ = some (.int .i64 0) := kT.cell 2; have kT3 : (W7).cell? ⟨w.heap.size + 1 + 1, 3, none⟩ = some (.int .i64 0) := kT.cell 3; have kT4 : (W7).cell? ⟨w.heap.size + 1 + 1, 4, none⟩ = some (.int .i64 0) := kT.cell 4; have kT5 : (W7).cell? ⟨w.heap.size + 1 + 1, 5, none⟩ = some (.int .i64 0) := kT.cell 5; have kTf0 : (W7).frozen? ⟨w.heap.size + 1 + 1, 0, none⟩ = false := kT.frozen 0; have kTf1 : (W7).frozen? ⟨w.heap.size + 1 + 1, 1, none⟩ = false := kT.frozen 1; have kTf2 : (W7).frozen? ⟨w.heap.size + 1 + 1, 2, none⟩ = false := kT.frozen 2; have kTf3 : (W7).frozen? ⟨w.heap.size + 1 + 1, 3, none⟩ = false := kT.frozen 3; have kTf4 : (W7).frozen? ⟨w.heap.size + 1 + 1, 4, none⟩ = false := kT.frozen 4; have kTf5 : (W7).frozen? ⟨w.heap.size + 1 + 1, 5, none⟩ = false := kT.frozen 5; have kTl : w.heap.size + 1 + 1 < (W7).heap.size := kT.lt
      go_wp2
      have R := ((((((kT.set 0 (.int .i64 0)).set 1 (.int .i64 0)).set 2 (.int .i64 0)).set 3 (.int .i64 0)).set 4 (.int .i64 0)).set 5 (.int .i64 0))
      have hR : Below w.heap.size w ((((((W7.setCell ⟨w.heap.size + 1 + 1, 0, none⟩ (.int .i64 0)).setCell ⟨w.heap.size + 1 + 1, 1, none⟩ (.int .i64 0)).setCell ⟨w.heap.size + 1 + 1, 2, none⟩ (.int .i64 0)).setCell ⟨w.heap.size + 1 + 1, 3, none⟩ (.int .i64 0)).setCell ⟨w.heap.size + 1 + 1, 4, none⟩ (.int .i64 0)).setCell ⟨w.heap.size + 1 + 1, 5, none⟩ (.int .i64 0)) := by (repeat' (first | (with_reducible exact Below.refl _ _) | (with_reducible refine below_step (by assumption) ?_ ?_) | (with_reducible refine Below.alloc ?_ ?_ _) | (with_reducible refine Below.setCell ?_ ?_ _) | (with_reducible refine below_drewN ?_ _) | (with_reducible refine Below.drew ?_) | omega | (simp; omega) | (simp; done)))
      simp only [List.setIfInBounds_toArray, List.set_cons_zero, List.set_cons_succ] at R
      clear kT kT0 kT1 kT2 kT3 kT4 kT5 kTf0 kTf1 kTf2 kTf3 kTf4 kTf5 kTl
      generalize ((((((W7.setCell ⟨w.heap.size + 1 + 1, 0, none⟩ (.int .i64 0)).setCell ⟨w.heap.size + 1 + 1, 1, none⟩ (.int .i64 0)).setCell ⟨w.heap.size + 1 + 1, 2, none⟩ (.int .i64 0)).setCell ⟨w.heap.size + 1 + 1, 3, none⟩ (.int .i64 0)).setCell ⟨w.heap.size + 1 + 1, 4, none⟩ (.int .i64 0)).setCell ⟨w.heap.size + 1 + 1, 5, none⟩ (.int .i64 0)) = W9 at R hR ⊢
      have R0 : (W9).cell? ⟨w.heap.size + 1 + 1, 0, none⟩ = some (.int .i64 0) := R.cell 0; have R1 : (W9).cell? ⟨w.heap.size + 1 + 1, 1, none⟩ = some (.int .i64 0) := R.cell 1; have R2 : (W9).cell? ⟨w.heap.size + 1 + 1, 2, none⟩ = some (.int .i64 0) := R.cell 2; have R3 : (W9).cell? ⟨w.heap.size + 1 + 1, 3, none⟩ = some (.int .i64 0) := R.cell 3; have R4 : (W9).cell? ⟨w.heap.size + 1 + 1, 4, none⟩ = some (.int .i64 0) := R.cell 4; have R5 : (W9).cell? ⟨w.heap.size + 1 + 1, 5, none⟩ = some (.int .i64 0) := R.cell 5; have Rl : w.heap.size + 1 + 1 < (W9).heap.size := R.lt
      refine bodyPost_ret (v := .tuple #[.agg #[.int .i64 0, .int .i64 0, .int .i64 0, .int .i64 0, .int .i64 0, .int .i64 0], .bool false]) (by simp [results, Try.results31, go_sem, R0, R1, R2, R3, R4, R5]) rfl ?_
      exact tofP_no HZ.out hR
    have I8 := Lib.hid ((J8.out rfl).out)
    have I9 := Lib.hid ((H9'.out rfl).out)
    have IOz := Lib.hid (fun h8 => HO'.out h8 rfl)
    clear J8 H9' HO'
    have k10 : (W7).cell? ⟨r8, 0, none⟩ = some (.int .i64 a1) := k1.cell 0; have k11 : (W7).cell? ⟨r8, 1, none⟩ = some (.int .i64 b1) := k1.cell 1; have k1l : r8 < (W7).heap.size := k1.lt
    have k50 : (W7).cell? ⟨r16, 0, none⟩ = some (.int .i64 a5) := k5.cell 0; have k51 : (W7).cell? ⟨r16, 1, none⟩ = some (.int .i64 b5) := k5.cell 1; have k5l : r16 < (W7).heap.size := k5.lt
    go_wp2_with fail
    refine (I8.out _).mono ?_
    rintro e u8 ⟨rfl, hb8⟩
    clear k10 k11 k1l k50 k51 k5l
    replace kY := kY.next hb8
    replace kT := kT.next hb8
    replace k6 := k6.next hb8
    replace k7 := k7.next hb8
    replace hB := below_step hb8 hs hB
    replace hs := hB.size
    clear hb8
    replace kY := kY.alloc (.cells #[.int .i64 a8, .int .i64 b8] 25)
    replace kT := kT.alloc (.cells #[.int .i64 a8, .int .i64 b8] 25)
    replace k6 := k6.alloc (.cells #[.int .i64 a8, .int .i64 b8] 25)
    replace k7 := k7.alloc (.cells #[.int .i64 a8, .int .i64 b8] 25)
    have k8 := Blk.new u8 #[.int .i64 a8, .int .i64 b8] 25
    replace hB := hB.alloc hs (.cells #[.int .i64 a8, .int .i64 b8] 25)
    replace hs := hB.size
    go_upto_region 13 with (fail)
    generalize u8.alloc _ = W8 at *
    generalize u8.heap.size = r22 at *
    have k60 : (W8).cell? ⟨r18, 0, none⟩ = some (.int .i64 a6) := k6.cell 0; have k61 : (W8).cell? ⟨r18, 1, none⟩ = some (.int .i64 b6) := k6.cell 1; have k6l : r18 < (W8).heap.size := k6.lt
    have kY0 : (W8).cell? ⟨w.heap.size + 1, 0, none⟩ = some (.int .i64 y1) := kY.cell 0; have kY1 : (W8).cell? ⟨w.heap.size + 1, 1, none⟩ = some (.int .i64 y2) := kY.cell 1; have kYl : w.heap.size + 1 < (W8).heap.size := kY.lt
    go_wp2_with fail
    refine (I9.out _).mono ?_
    rintro e u9 ⟨rfl, hb9⟩
    clear k60 k61 k6l kY0 kY1 kYl
    replace kT := kT.next hb9
    replace k7 := k7.next hb9
    replace k8 := k8.next hb9
    replace hB := below_step hb9 hs hB
    replace hs := hB.size
    clear hb9
    replace kT := kT.alloc (.cells #[.int .i64 a9, .int .i64 b9] 25)
    replace k7 := k7.alloc (.cells #[.int .i64 a9, .int .i64 b9] 25)
    replace k8 := k8.alloc (.cells #[.int .i64 a9, .int .i64 b9] 25)
    have k9 := Blk.new u9 #[.int .i64 a9, .int .i64 b9] 25
    replace hB := hB.alloc hs (.cells #[.int .i64 a9, .int .i64 b9] 25)
    replace hs := hB.size
    go_upto_region 14 with (fail)
    generalize u9.alloc _ = W9a at *
    generalize u9.heap.size = r24 at *
    cases m8
    · have HZ := Lib.hid (HMF.out (by simp))
      clear HMF HM
      have kT0 : (W9a).cell? ⟨w.heap.size + 1 + 1, 0, none⟩ = some (.int .i64 0) := kT.cell 0; have kT1 : (W9a).cell? ⟨w.heap.size + 1 + 1, 1, none⟩ = some (.int .i64 0) := kT.cell 1; have kT2 : (W9a).cell? ⟨w.heap.size + 1 + 1, 2, none⟩ = some (.int .i64 0) := kT.cell 2; have kT3 : (W9a).cell? ⟨w.heap.size + 1 + 1, 3, none⟩ = some (.int .i64 0) := kT.cell 3; have kT4 : (W9a).cell? ⟨w.heap.size + 1 + 1, 4, none⟩ = some (.int .i64 0) := kT.cell 4; have kT5 : (W9a).cell? ⟨w.heap.size + 1 + 1, 5, none⟩ = some (.int .i64 0) := kT.cell 5; have kTf0 : (W9a).frozen? ⟨w.heap.size + 1 + 1, 0, none⟩ = false := kT.frozen 0; have kTf1 : (W9a).frozen? ⟨w.heap.size + 1 + 1, 1, none⟩ = false := kT.frozen 1; have kTf2 : (W9a).frozen? ⟨w.heap.size + 1 + 1, 2, none⟩ = false := kT.frozen 2; have kTf3 : (W9a).frozen? ⟨w.heap.size + 1 + 1, 3, none⟩ = false := kT.frozen 3; have kTf4 : (W9a).frozen? ⟨w.heap.size + 1 + 1, 4, none⟩ = false := kT.frozen 4; have kTf5 : (W9a).frozen? ⟨w.heap.size + 1 + 1, 5, none⟩ = false := kT.frozen 5; have kTl : w.heap.size + 1 + 1 < (W9a).heap.size := kT.lt
      go_wp2
      have R := ((((((kT.set 0 (.int .i64 0)).set 1 (.int .i64 0)).set 2 (.int .i64 0)).set 3 (.int .i64 0)).set 4 (.int .i64 0)).set 5 (.int .i64 0))
      have hR : Below w.heap.size w ((((((W9a.setCell ⟨w.heap.size + 1 + 1, 0, none⟩ (.int .i64 0)).setCell ⟨w.heap.size + 1 + 1, 1, none⟩ (.int .i64 0)).setCell ⟨w.heap.size + 1 + 1, 2, none⟩ (.int .i64 0)).setCell ⟨w.heap.size + 1 + 1, 3, none⟩ (.int .i64 0)).setCell ⟨w.heap.size + 1 + 1, 4, none⟩ (.int .i64 0)).setCell ⟨w.heap.size + 1 + 1, 5, none⟩ (.int .i64 0)) := by (repeat' (first | (with_reducible exact Below.refl _ _) | (with_reducible refine below_step (by assumption) ?_ ?_) | (with_reducible refine Below.alloc ?_ ?_ _) | (with_reducible refine Below.setCell ?_ ?_ _) | (with_reducible refine below_drewN ?_ _) | (with_reducible refine Below.drew ?_) | omega | (simp; omega) | (simp; done)))
      simp only [List.setIfInBounds_toArray, List.set_cons_zero, List.set_cons_succ] at R
      clear kT kT0 kT1 kT2 kT3 kT4 kT5 kTf0 kTf1 kTf2 kTf3 kTf4 kTf5 kTl
      generalize ((((((W9a.setCell ⟨w.heap.size + 1 + 1, 0, none⟩ (.int .i64 0)).setCell ⟨w.heap.size + 1 + 1, 1, none⟩ (.int .i64 0)).setCell ⟨w.heap.size + 1 + 1, 2, none⟩ (.int .i64 0)).setCell ⟨w.heap.size + 1 + 1, 3, none⟩ (.int .i64 0)).setCell ⟨w.heap.size + 1 + 1, 4, none⟩ (.int .i64 0)).setCell ⟨w.heap.size + 1 + 1, 5, none⟩ (.int .i64 0)) = W9 at R hR ⊢
      have R0 : (W9).cell? ⟨w.heap.size + 1 + 1, 0, none⟩ = some (.int .i64 0) := R.cell 0; have R1 : (W9).cell? ⟨w.heap.size + 1 + 1, 1, none⟩ = some (.int .i64 0) := R.cell 1; have R2 : (W9).cell? ⟨w.heap.size + 1 + 1, 2, none⟩ = some (.int .i64 0) := R.cell 2; have R3 : (W9).cell? ⟨w.heap.size + 1 + 1, 3, none⟩ = some (.int .i64 0) := R.cell 3; have R4 : (W9).cell? ⟨w.heap.size + 1 + 1, 4, none⟩ = some (.int .i64 0) := R.cell 4; have R5 : (W9).cell? ⟨w.heap.size + 1 + 1, 5, none⟩ = some (.int .i64 0) := R.cell 5; have Rl : w.heap.size + 1 + 1 < (W9).heap.size := R.lt
      refine bodyPost_ret (v := .tuple #[.agg #[.int .i64 0, .int .i64 0, .int .i64 0, .int .i64 0, .int .i64 0, .int .i64 0], .bool false]) (by simp [results, Try.results31, go_sem, R0, R1, R2, R3, R4, R5]) rfl ?_
      exact tofP_no HZ.out hR
    cases m9
    · have HZ := Lib.hid (HMF.out (by simp))
      clear HMF HM
      have kT0 : (W9a).cell? ⟨w.heap.size + 1 + 1, 0, none⟩ = some (.int .i64 0) := kT.cell 0; have kT1 : (W9a).cell? ⟨w.heap.size + 1 + 1, 1, none⟩ = some (.int .i64 0) := kT.cell 1; have kT2 : (W9a).cell? ⟨w.heap.size + 1 + 1, 2, none⟩ = some (.int .i64 0) := kT.cell 2; have kT3 : (W9a).cell? ⟨w.heap.size + 1 + 1, 3, none⟩ = some (.int .i64 0) := kT.cell 3; have kT4 : (W9a).cell? ⟨w.heap.size + 1 + 1, 4, none⟩ = some (.int .i64 0) := kT.cell 4; have kT5 : (W9a).cell? ⟨w.heap.size + 1 + 1, 5, none⟩ = some (.int .i64 0) := kT.cell 5; have kTf0 : (W9a).frozen? ⟨w.heap.size + 1 + 1, 0, none⟩ = false := kT.frozen 0; have kTf1 : (W9a).frozen? ⟨w.heap.size + 1 + 1, 1, none⟩ = false := kT.frozen 1; have kTf2 : (W9a).frozen? ⟨w.heap.size + 1 + 1, 2, none⟩ = false := kT.frozen 2; have kTf3 : (W9a).frozen? ⟨w.heap.size + 1 + 1, 3, none⟩ = false := kT.frozen 3; have kTf4 : (W9a).frozen? ⟨w.heap.size + 1 + 1, 4, none⟩ = false := kT.frozen 4; have kTf5 : (W9a).frozen? ⟨w.heap.size + 1 + 1, 5, none⟩ = false := kT.frozen 5; have kTl : w.heap.size + 1 + 1 < (W9a).heap.size := kT.lt
      go_wp2
      have R := ((((((kT.set 0 (.int .i64 0)).set 1 (.int .i64 0)).set 2 (.int .i64 0)).set 3 (.int .i64 0)).set 4 (.int .i64 0)).set 5 (.int .i64 0))
      have hR : Below w.heap.size w ((((((W9a.setCell ⟨w.heap.size + 1 + 1, 0, none⟩ (.int .i64 0)).setCell ⟨w.heap.size + 1 + 1, 1, none⟩ (.int .i64 0)).setCell ⟨w.heap.size + 1 + 1, 2, none⟩ (.int .i64 0)).setCell ⟨w.heap.size + 1 + 1, 3, none⟩ (.int .i64 0)).setCell ⟨w.heap.size + 1 + 1, 4, none⟩ (.int .i64 0)).setCell ⟨w.heap.size + 1 + 1, 5, none⟩ (.int .i64 0)) := by (repeat' (first | (with_reducible exact Below.refl _ _) | (with_reducible refine below_step (by assumption) ?_ ?_) | (with_reducible refine Below.alloc ?_ ?_ _) | (with_reducible refine Below.setCell ?_ ?_ _) | (with_reducible refine below_drewN ?_ _) | (with_reducible refine Below.drew ?_) | omega | (simp; omega) | (simp; done)))
      simp only [List.setIfInBounds_toArray, List.set_cons_zero, List.set_cons_succ] at R
      clear kT kT0 kT1 kT2 kT3 kT4 kT5 kTf0 kTf1 kTf2 kTf3 kTf4 kTf5 kTl
      generalize ((((((W9a.setCell ⟨w.heap.size + 1 + 1, 0, none⟩ (.int .i64 0)).setCell ⟨w.heap.size + 1 + 1, 1, none⟩ (.int .i64 0)).setCell ⟨w.heap.size + 1 + 1, 2, none⟩ (.int .i64 0)).setCell ⟨w.heap.size + 1 + 1, 3, none⟩ (.int .i64 0)).setCell ⟨w.heap.size + 1 + 1, 4, none⟩ (.int .i64 0)).setCell ⟨w.heap.size + 1 + 1, 5, none⟩ (.int .i64 0)) = W9 at R hR ⊢
      have R0 : (W9).cell? ⟨w.heap.size + 1 + 1, 0, none⟩ = some (.int .i64 0) := R.cell 0; have R1 : (W9).cell? ⟨w.heap.size + 1 + 1, 1, none⟩ = some (.int .i64 0) := R.cell 1; have R2 : (W9).cell? ⟨w.heap.size + 1 + 1, 2, none⟩ = some (.int .i64 0) := R.cell 2; have R3 : (W9).cell? ⟨w.heap.size + 1 + 1, 3, none⟩ = some (.int .i64 0) := R.cell 3; have R4 : (W9).cell? ⟨w.heap.size + 1 + 1, 4, none⟩ = some (.int .i64 0) := R.cell 4; have R5 : (W9).cell? ⟨w.heap.size + 1 + 1, 5, none⟩ = some (.int .i64 0) := R.cell 5; have Rl : w.heap.size + 1 + 1 < (W9).heap.size := R.lt
      refine bodyPost_ret (v := .tuple #[.agg #[.int .i64 0, .int .i64 0, .int .i64 0, .int .i64 0, .int .i64 0, .int .i64 0], .bool false]) (by simp [results, Try.results31, go_sem, R0, R1, R2, R3, R4, R5]) rfl ?_
      exact tofP_no HZ.out hR
    have HZ : Hid (o = true) := HM.out.symm
    have IC := Lib.hid (IOz.out rfl rfl)
    clear IOz HM HMF I8 I9
    obtain ⟨p1, p2, p3, p4, p5, p6, hf⟩ := ordV_form a8 b8 a7 b7 a9 b9
    have HF := Lib.hid hf
    have IC' := IC.out
    rw [hf] at IC'
    have ID := Lib.hid IC'
    clear hf IC' IC
    have k80 : (W9a).cell? ⟨r22, 0, none⟩ = some (.int .i64 a8) := k8.cell 0; have k81 : (W9a).cell? ⟨r22, 1, none⟩ = some (.int .i64 b8) := k8.cell 1; have k8l : r22 < (W9a).heap.size := k8.lt
    have k70 : (W9a).cell? ⟨r20, 0, none⟩ = some (.int .i64 a7) := k7.cell 0; have k71 : (W9a).cell? ⟨r20, 1, none⟩ = some (.int .i64 b7) := k7.cell 1; have k7l : r20 < (W9a).heap.size := k7.lt
    have k90 : (W9a).cell? ⟨r24, 0, none⟩ = some (.int .i64 a9) := k9.cell 0; have k91 : (W9a).cell? ⟨r24, 1, none⟩ = some (.int .i64 b9) := k9.cell 1; have k9l : r24 < (W9a).heap.size := k9.lt
    go_wp2_with fail
    refine (ID.out _).mono ?_
    rintro e u ⟨rfl, hb⟩
    clear k80 k81 k8l k70 k71 k7l k90 k91 k9l
    replace kT := kT.next hb
    replace hB := below_step hb hs hB
    replace hs := hB.size
    clear hb
    have kT0 : (u).cell? ⟨w.heap.size + 1 + 1, 0, none⟩ = some (.int .i64 0) := kT.cell 0; have kT1 : (u).cell? ⟨w.heap.size + 1 + 1, 1, none⟩ = some (.int .i64 0) := kT.cell 1; have kT2 : (u).cell? ⟨w.heap.size + 1 + 1, 2, none⟩ = some (.int .i64 0) := kT.cell 2; have kT3 : (u).cell? ⟨w.heap.size + 1 + 1, 3, none⟩ = some (.int .i64 0) := kT.cell 3; have kT4 : (u).cell? ⟨w.heap.size + 1 + 1, 4, none⟩ = some (.int .i64 0) := kT.cell 4; have kT5 : (u).cell? ⟨w.heap.size + 1 + 1, 5, none⟩ = some (.int .i64 0) := kT.cell 5; have kTf0 : (u).frozen? ⟨w.heap.size + 1 + 1, 0, none⟩ = false := kT.frozen 0; have kTf1 : (u).frozen? ⟨w.heap.size + 1 + 1, 1, none⟩ = false := kT.frozen 1; have kTf2 : (u).frozen? ⟨w.heap.size + 1 + 1, 2, none⟩ = false := kT.frozen 2; have kTf3 : (u).frozen? ⟨w.heap.size + 1 + 1, 3, none⟩ = false := kT.frozen 3; have kTf4 : (u).frozen? ⟨w.heap.size + 1 + 1, 4, none⟩ = false := kT.frozen 4; have kTf5 : (u).frozen? ⟨w.heap.size + 1 + 1, 5, none⟩ = false := kT.frozen 5; have kTl : w.heap.size + 1 + 1 < (u).heap.size := kT.lt
    go_wp2
    have R := ((((((kT.set 0 (.int .i64 p1)).set 1 (.int .i64 p2)).set 2 (.int .i64 p3)).set 3 (.int .i64 p4)).set 4 (.int .i64 p5)).set 5 (.int .i64 p6))
    have hR : Below w.heap.size w ((((((u.setCell ⟨w.heap.size + 1 + 1, 0, none⟩ (.int .i64 p1)).setCell ⟨w.heap.size + 1 + 1, 1, none⟩ (.int .i64 p2)).setCell ⟨w.heap.size + 1 + 1, 2, none⟩ (.int .i64 p3)).setCell ⟨w.heap.size + 1 + 1, 3, none⟩ (.int .i64 p4)).setCell ⟨w.heap.size + 1 + 1, 4, none⟩ (.int .i64 p5)).setCell ⟨w.heap.size + 1 + 1, 5, none⟩ (.int .i64 p6)) := by (repeat' (first | (with_reducible exact Below.refl _ _) | (with_reducible refine below_step (by assumption) ?_ ?_) | (with_reducible refine Below.alloc ?_ ?_ _) | (with_reducible refine Below.setCell ?_ ?_ _) | (with_reducible refine below_drewN ?_ _) | (with_reducible refine Below.drew ?_) | omega | (simp; omega) | (simp; done)))
    simp only [List.setIfInBounds_toArray, List.set_cons_zero, List.set_cons_succ] at R
    clear kT kT0 kT1 kT2 kT3 kT4 kT5 kTf0 kTf1 kTf2 kTf3 kTf4 kTf5 kTl
    generalize ((((((u.setCell ⟨w.heap.size + 1 + 1, 0, none⟩ (.int .i64 p1)).setCell ⟨w.heap.size + 1 + 1, 1, none⟩ (.int .i64 p2)).setCell ⟨w.heap.size + 1 + 1, 2, none⟩ (.int .i64 p3)).setCell ⟨w.heap.size + 1 + 1, 3, none⟩ (.int .i64 p4)).setCell ⟨w.heap.size + 1 + 1, 4, none⟩ (.int .i64 p5)).setCell ⟨w.heap.size + 1 + 1, 5, none⟩ (.int .i64 p6)) = W9 at R hR ⊢
    have R0 : (W9).cell? ⟨w.heap.size + 1 + 1, 0, none⟩ = some (.int .i64 p1) := R.cell 0; have R1 : (W9).cell? ⟨w.heap.size + 1 + 1, 1, none⟩ = some (.int .i64 p2) := R.cell 1; have R2 : (W9).cell? ⟨w.heap.size + 1 + 1, 2, none⟩ = some (.int .i64 p3) := R.cell 2; have R3 : (W9).cell? ⟨w.heap.size + 1 + 1, 3, none⟩ = some (.int .i64 p4) := R.cell 3; have R4 : (W9).cell? ⟨w.heap.size + 1 + 1, 4, none⟩ = some (.int .i64 p5) := R.cell 4; have R5 : (W9).cell? ⟨w.heap.size + 1 + 1, 5, none⟩ = some (.int .i64 p6) := R.cell 5; have Rl : w.heap.size + 1 + 1 < (W9).heap.size := R.lt
    refine bodyPost_ret (v := .tuple #[.agg #[.int .i64 p1, .int .i64 p2, .int .i64 p3, .int .i64 p4, .int .i64 p5, .int .i64 p6], .bool true]) (by simp [results, Try.results31, go_sem, R0, R1, R2, R3, R4, R5]) rfl ?_
    exact tofP_yes HZ.out HF.out hR
  · have HZ := Lib.hid (HMF.out (by simpa using hm))
    clear HMF HM H5' H6' H7' H8' H9' HO' H1 H2 H3 H4
    cases m1
    · clear hm
      have kT0 : (W4).cell? ⟨w.heap.size + 1 + 1, 0, none⟩ = some (.int .i64 0) := kT.cell 0; have kT1 : (W4).cell? ⟨w.heap.size + 1 + 1, 1, none⟩ = some (.int .i64 0) := kT.cell 1; have kT2 : (W4).cell? ⟨w.heap.size + 1 + 1, 2, none⟩ = some (.int .i64 0) := kT.cell 2; have kT3 : (W4).cell? ⟨w.heap.size + 1 + 1, 3, none⟩ = some (.int .i64 0) := kT.cell 3; have kT4 : (W4).cell? ⟨w.heap.size + 1 + 1, 4, none⟩ = some (.int .i64 0) := kT.cell 4; have kT5 : (W4).cell? ⟨w.heap.size + 1 + 1, 5, none⟩ = some (.int .i64 0) := kT.cell 5; have kTf0 : (W4).frozen? ⟨w.heap.size + 1 + 1, 0, none⟩ = false := kT.frozen 0; have kTf1 : (W4).frozen? ⟨w.heap.size + 1 + 1, 1, none⟩ = false := kT.frozen 1; have kTf2 : (W4).frozen? ⟨w.heap.size + 1 + 1, 2, none⟩ = false := kT.frozen 2; have kTf3 : (W4).frozen? ⟨w.heap.size + 1 + 1, 3, none⟩ = false := kT.frozen 3; have kTf4 : (W4).frozen? ⟨w.heap.size + 1 + 1, 4, none⟩ = false := kT.frozen 4; have kTf5 : (W4).frozen? ⟨w.heap.size + 1 + 1, 5, none⟩ = false := kT.frozen 5; have kTl : w.heap.size + 1 + 1 < (W4).heap.size := kT.lt
      go_wp2
      have R := ((((((kT.set 0 (.int .i64 0)).set 1 (.int .i64 0)).set 2 (.int .i64 0)).set 3 (.int .i64 0)).set 4 (.int .i64 0)).set 5 (.int .i64 0))
      have hR : Below w.heap.size w ((((((W4.setCell ⟨w.heap.size + 1 + 1, 0, none⟩ (.int .i64 0)).setCell ⟨w.heap.size + 1 + 1, 1, none⟩ (.int .i64 0)).setCell ⟨w.heap.size + 1 + 1, 2, none⟩ (.int .i64 0)).setCell ⟨w.heap.size + 1 + 1, 3, none⟩ (.int .i64 0)).setCell ⟨w.heap.size + 1 + 1, 4, none⟩ (.int .i64 0)).setCell ⟨w.heap.size + 1 + 1, 5, none⟩ (.int .i64 0)) := by (repeat' (first | (with_reducible exact Below.refl _ _) | (with_reducible refine below_step (by assumption) ?_ ?_) | (with_reducible refine Below.alloc ?_ ?_ _) | (with_reducible refine Below.setCell ?_ ?_ _) | (with_reducible refine below_drewN ?_ _) | (with_reducible refine Below.drew ?_) | omega | (simp; omega) | (simp; done)))
      simp only [List.setIfInBounds_toArray, List.set_cons_zero, List.set_cons_succ] at R
      clear kT kT0 kT1 kT2 kT3 kT4 kT5 kTf0 kTf1 kTf2 kTf3 kTf4 kTf5 kTl
      generalize ((((((W4.setCell ⟨w.heap.size + 1 + 1, 0, none⟩ (.int .i64 0)).setCell ⟨w.heap.size + 1 + 1, 1, none⟩ (.int .i64 0)).setCell ⟨w.heap.size + 1 + 1, 2, none⟩ (.int .i64 0)).setCell ⟨w.heap.size + 1 + 1, 3, none⟩ (.int .i64 0)).setCell ⟨w.heap.size + 1 + 1, 4, none⟩ (.int .i64 0)).setCell ⟨w.heap.size + 1 + 1, 5, none⟩ (.int .i64 0)) = W9 at R hR ⊢
      have R0 : (W9).cell? ⟨w.heap.size + 1 + 1, 0, none⟩ = some (.int .i64 0) := R.cell 0; have R1 : (W9).cell? ⟨w.heap.size + 1 + 1, 1, none⟩ = some (.int .i64 0) := R.cell 1; have R2 : (W9).cell? ⟨w.heap.size + 1 + 1, 2, none⟩ = some (.int .i64 0) := R.cell 2; have R3 : (W9).cell? ⟨w.heap.size + 1 + 1, 3, none⟩ = some (.int .i64 0) := R.cell 3; have R4 : (W9).cell? ⟨w.heap.size + 1 + 1, 4, none⟩ = some (.int .i64 0) := R.cell 4; have R5 : (W9).cell? ⟨w.heap.size + 1 + 1, 5, none⟩ = some (.int .i64 0) := R.cell 5; have Rl : w.heap.size + 1 + 1 < (W9).heap.size := R.lt
      refine bodyPost_ret (v := .tuple #[.agg #[.int .i64 0, .int .i64 0, .int .i64 0, .int .i64 0, .int .i64 0, .int .i64 0], .bool false]) (by simp [results, Try.results31, go_sem, R0, R1, R2, R3, R4, R5]) rfl ?_
      exact tofP_no HZ.out hR
    cases m2
    · clear hm
      have kT0 : (W4).cell? ⟨w.heap.size + 1 + 1, 0, none⟩ = some (.int .i64 0) := kT.cell 0; have kT1 : (W4).cell? ⟨w.heap.size + 1 + 1, 1, none⟩ = some (.int .i64 0) := kT.cell 1; have kT2 : (W4).cell? ⟨w.heap.size + 1 + 1, 2, none⟩ = some (.int .i64 0) := kT.cell 2; have kT3 : (W4).cell? ⟨w.heap.size + 1 + 1, 3, none⟩ = some (.int .i64 0) := kT.cell 3; have kT4 : (W4).cell? ⟨w.heap.size + 1 + 1, 4, none⟩ = some (.int .i64 0) := kT.cell 4; have kT5 : (W4).cell? ⟨w.heap.size + 1 + 1, 5, none⟩ = some (.int .i64 0) := kT.cell 5; have kTf0 : (W4).frozen? ⟨w.heap.size + 1 + 1, 0, none⟩ = false := kT.frozen 0; have kTf1 : (W4).frozen? ⟨w.heap.size + 1 + 1, 1, none⟩ = false := kT.frozen 1; have kTf2 : (W4).frozen? ⟨w.heap.size + 1 + 1, 2, none⟩ = false := kT.frozen 2; have kTf3 : (W4).frozen? ⟨w.heap.size + 1 + 1, 3, none⟩ = false := kT.frozen 3; have kTf4 : (W4).frozen? ⟨w.heap.size + 1 + 1, 4, none⟩ = false := kT.frozen 4; have kTf5 : (W4).frozen? ⟨w.heap.size + 1 + 1, 5, none⟩ = false := kT.frozen 5; have kTl : w.heap.size + 1 + 1 < (W4).heap.size := kT.lt
      go_wp2
      have R := ((((((kT.set 0 (.int .i64 0)).set 1 (.int .i64 0)).set 2 (.int .i64 0)).set 3 (.int .i64 0)).set 4 (.int .i64 0)).set 5 (.int .i64 0))
      have hR : Below w.heap.size w ((((((W4.setCell ⟨w.heap.size + 1 + 1, 0, none⟩ (.int .i64 0)).setCell ⟨w.heap.size + 1 + 1, 1, none⟩ (.int .i64 0)).setCell ⟨w.heap.size + 1 + 1, 2, none⟩ (.int .i64 0)).setCell ⟨w.heap.size + 1 + 1, 3, none⟩ (.int .i64 0)).setCell ⟨w.heap.size + 1 + 1, 4, none⟩ (.int .i64 0)).setCell ⟨w.heap.size + 1 + 1, 5, none⟩ (.int .i64 0)) := by (repeat' (first | (with_reducible exact Below.refl _ _) | (with_reducible refine below_step (by assumption) ?_ ?_) | (with_reducible refine Below.alloc ?_ ?_ _) | (with_reducible refine Below.setCell ?_ ?_ _) | (with_reducible refine below_drewN ?_ _) | (with_reducible refine Below.drew ?_) | omega | (simp; omega) | (simp; done)))
      simp only [List.setIfInBounds_toArray, List.set_cons_zero, List.set_cons_succ] at R
      clear kT kT0 kT1 kT2 kT3 kT4 kT5 kTf0 kTf1 kTf2 kTf3 kTf4 kTf5 kTl
      generalize ((((((W4.setCell ⟨w.heap.size + 1 + 1, 0, none⟩ (.int .i64 0)).setCell ⟨w.heap.size + 1 + 1, 1, none⟩ (.int .i64 0)).setCell ⟨w.heap.size + 1 + 1, 2, none⟩ (.int .i64 0)).setCell ⟨w.heap.size + 1 + 1, 3, none⟩ (.int .i64 0)).setCell ⟨w.heap.size + 1 + 1, 4, none⟩ (.int .i64 0)).setCell ⟨w.heap.size + 1 + 1, 5, none⟩ (.int .i64 0)) = W9 at R hR ⊢
      have R0 : (W9).cell? ⟨w.heap.size + 1 + 1, 0, none⟩ = some (.int .i64 0) := R.cell 0; have R1 : (W9).cell? ⟨w.heap.size + 1 + 1, 1, none⟩ = some (.int .i64 0) := R.cell 1; have R2 : (W9).cell? ⟨w.heap.size + 1 + 1, 2, none⟩ = some (.int .i64 0) := R.cell 2; have R3 : (W9).cell? ⟨w.heap.size + 1 + 1, 3, none⟩ = some (.int .i64 0) := R.cell 3; have R4 : (W9).cell? ⟨w.heap.size + 1 + 1, 4, none⟩ = some (.int .i64 0) := R.cell 4; have R5 : (W9).cell? ⟨w.heap.size + 1 + 1, 5, none⟩ = some (.int .i64 0) := R.cell 5; have Rl : w.heap.size + 1 + 1 < (W9).heap.size := R.lt
      refine bodyPost_ret (v := .tuple #[.agg #[.int .i64 0, .int .i64 0, .int .i64 0, .int .i64 0, .int .i64 0, .int .i64 0], .bool false]) (by simp [results, Try.results31, go_sem, R0, R1, R2, R3, R4, R5]) rfl ?_
      exact tofP_no HZ.out hR
    cases m3
    · clear hm
      have kT0 : (W4).cell? ⟨w.heap.size + 1 + 1, 0, none⟩ = some (.int .i64 0) := kT.cell 0; have kT1 : (W4).cell? ⟨w.heap.size + 1 + 1, 1, none⟩ = some (.int .i64 0) := kT.cell 1; have kT2 : (W4).cell? ⟨w.heap.size + 1 + 1, 2, none⟩ = some (.int .i64 0) := kT.cell 2; have kT3 : (W4).cell? ⟨w.heap.size + 1 + 1, 3, none⟩ = some (.int .i64 0) := kT.cell 3; have kT4 : (W4).cell? ⟨w.heap.size + 1 + 1, 4, none⟩ = some (.int .i64 0) := kT.cell 4; have kT5 : (W4).cell? ⟨w.heap.size + 1 + 1, 5, none⟩ = some (.int .i64 0) := kT.cell 5; have kTf0 : (W4).frozen? ⟨w.heap.size + 1 + 1, 0, none⟩ = false := kT.frozen 0; have kTf1 : (W4).frozen? ⟨w.heap.size + 1 + 1, 1, none⟩ = false := kT.frozen 1; have kTf2 : (W4).frozen? ⟨w.heap.size + 1 + 1, 2, none⟩ = false := kT.frozen 2; have kTf3 : (W4).frozen? ⟨w.heap.size + 1 + 1, 3, none⟩ = false := kT.frozen 3; have kTf4 : (W4).frozen? ⟨w.heap.size + 1 + 1, 4, none⟩ = false := kT.frozen 4; have kTf5 : (W4).frozen? ⟨w.heap.size + 1 + 1, 5, none⟩ = false := kT.frozen 5; have kTl : w.heap.size + 1 + 1 < (W4).heap.size := kT.lt
      go_wp2
      have R := ((((((kT.set 0 (.int .i64 0)).set 1 (.int .i64 0)).set 2 (.int .i64 0)).set 3 (.int .i64 0)).set 4 (.int .i64 0)).set 5 (.int .i64 0))
      have hR : Below w.heap.size w ((((((W4.setCell ⟨w.heap.size + 1 + 1, 0, none⟩ (.int .i64 0)).setCell ⟨w.heap.size + 1 + 1, 1, none⟩ (.int .i64 0)).setCell ⟨w.heap.size + 1 + 1, 2, none⟩ (.int .i64 0)).setCell ⟨w.heap.size + 1 + 1, 3, none⟩ (.int .i64 0)).setCell ⟨w.heap.size + 1 + 1, 4, none⟩ (.int .i64 0)).setCell ⟨w.heap.size + 1 + 1, 5, none⟩ (.int .i64 0)) := by (repeat' (first | (with_reducible exact Below.refl _ _) | (with_reducible refine below_step (by assumption) ?_ ?_) | (with_reducible refine Below.alloc ?_ ?_ _) | (with_reducible refine Below.setCell ?_ ?_ _) | (with_reducible refine below_drewN ?_ _) | (with_reducible refine Below.drew ?_) | omega | (simp; omega) | (simp; done)))
      simp only [List.setIfInBounds_toArray, List.set_cons_zero, List.set_cons_succ] at R
      clear kT kT0 kT1 kT2 kT3 kT4 kT5 kTf0 kTf1 kTf2 kTf3 kTf4 kTf5 kTl
      generalize ((((((W4.setCell ⟨w.heap.size + 1 + 1, 0, none⟩ (.int .i64 0)).setCell ⟨w.heap.size + 1 + 1, 1, none⟩ (.int .i64 0)).setCell ⟨w.heap.size + 1 + 1, 2, none⟩ (.int .i64 0)).setCell ⟨w.heap.size + 1 + 1, 3, none⟩ (.int .i64 0)).setCell ⟨w.heap.size + 1 + 1, 4, none⟩ (.int .i64 0)).setCell ⟨w.heap.size + 1 + 1, 5, none⟩ (.int .i64 0)) = W9 at R hR ⊢
      have R0 : (W9).cell? ⟨w.heap.size + 1 + 1, 0, none⟩ = some (.int .i64 0) := R.cell 0; have R1 : (W9).cell? ⟨w.heap.size + 1 + 1, 1, none⟩ = some (.int .i64 0) := R.cell 1; have R2 : (W9).cell? ⟨w.heap.size + 1 + 1, 2, none⟩ = some (.int .i64 0) := R.cell 2; have R3 : (W9).cell? ⟨w.heap.size + 1 + 1, 3, none⟩ = some (.int .i64 0) := R.cell 3; have R4 : (W9).cell? ⟨w.heap.size + 1 + 1, 4, none⟩ = some (.int .i64 0) := R.cell 4; have R5 : (W9).cell? ⟨w.heap.size + 1 + 1, 5, none⟩ = some (.int .i64 0) := R.cell 5; have Rl : w.heap.size + 1 + 1 < (W9).heap.size := R.lt
      refine bodyPost_ret (v := .tuple #[.agg #[.int .i64 0, .int .i64 0, .int .i64 0, .int .i64 0, .int .i64 0, .int .i64 0], .bool false]) (by simp [results, Try.results31, go_sem, R0, R1, R2, R3, R4, R5]) rfl ?_
      exact tofP_no HZ.out hR
    cases m4
    · clear hm
      have kT0 : (W4).cell? ⟨w.heap.size + 1 + 1, 0, none⟩ = some (.int .i64 0) := kT.cell 0; have kT1 : (W4).cell? ⟨w.heap.size + 1 + 1, 1, none⟩ = some (.int .i64 0) := kT.cell 1; have kT2 : (W4).cell? ⟨w.heap.size + 1 + 1, 2, none⟩ = some (.int .i64 0) := kT.cell 2; have kT3 : (W4).cell? ⟨w.heap.size + 1 + 1, 3, none⟩ = some (.int .i64 0) := kT.cell 3; have kT4 : (W4).cell? ⟨w.heap.size + 1 + 1, 4, none⟩ = some (.int .i64 0) := kT.cell 4; have kT5 : (W4).cell? ⟨w.heap.size + 1 + 1, 5, none⟩ = some (.int .i64 0) := kT.cell 5; have kTf0 : (W4).frozen? ⟨w.heap.size + 1 + 1, 0, none⟩ = false := kT.frozen 0; have kTf1 : (W4).frozen? ⟨w.heap.size + 1 + 1, 1, none⟩ = false := kT.frozen 1; have kTf2 : (W4).frozen? ⟨w.heap.size + 1 + 1, 2, none⟩ = false := kT.frozen 2; have kTf3 : (W4).frozen? ⟨w.heap.size + 1 + 1, 3, none⟩ = false := kT.frozen 3; have kTf4 : (W4).frozen? ⟨w.heap.size + 1 + 1, 4, none⟩ = false := kT.frozen 4; have kTf5 : (W4).frozen? ⟨w.heap.size + 1 + 1, 5, none⟩ = false := kT.frozen 5; have kTl : w.heap.size + 1 + 1 < (W4).heap.size := kT.lt
      go_wp2
      have R := ((((((kT.set 0 (.int .i64 0)).set 1 (.int .i64 0)).set 2 (.int .i64 0)).set 3 (.int .i64 0)).set 4 (.int .i64 0)).set 5 (.int .i64 0))
      have hR : Below w.heap.size w ((((((W4.setCell ⟨w.heap.size + 1 + 1, 0, none⟩ (.int .i64 0)).setCell ⟨w.heap.size + 1 + 1, 1, none⟩ (.int .i64 0)).setCell ⟨w.heap.size + 1 + 1, 2, none⟩ (.int .i64 0)).setCell ⟨w.heap.size + 1 + 1, 3, none⟩ (.int .i64 0)).setCell ⟨w.heap.size + 1 + 1, 4, none⟩ (.int .i64 0)).setCell ⟨w.heap.size + 1 + 1, 5, none⟩ (.int .i64 0)) := by (repeat' (first | (with_reducible exact Below.refl _ _) | (with_reducible refine below_step (by assumption) ?_ ?_) | (with_reducible refine Below.alloc ?_ ?_ _) | (with_reducible refine Below.setCell ?_ ?_ _) | (with_reducible refine below_drewN ?_ _) | (with_reducible refine Below.drew ?_) | omega | (simp; omega) | (simp; done)))
      simp only [List.setIfInBounds_toArray, List.set_cons_zero, List.set_cons_succ] at R
      clear kT kT0 kT1 kT2 kT3 kT4 kT5 kTf0 kTf1 kTf2 kTf3 kTf4 kTf5 kTl
      generalize ((((((W4.setCell ⟨w.heap.size + 1 + 1, 0, none⟩ (.int .i64 0)).setCell ⟨w.heap.size + 1 + 1, 1, none⟩ (.int .i64 0)).setCell ⟨w.heap.size + 1 + 1, 2, none⟩ (.int .i64 0)).setCell ⟨w.heap.size + 1 + 1, 3, none⟩ (.int .i64 0)).setCell ⟨w.heap.size + 1 + 1, 4, none⟩ (.int .i64 0)).setCell ⟨w.heap.size + 1 + 1, 5, none⟩ (.int .i64 0)) = W9 at R hR ⊢
      have R0 : (W9).cell? ⟨w.heap.size + 1 + 1, 0, none⟩ = some (.int .i64 0) := R.cell 0; have R1 : (W9).cell? ⟨w.heap.size + 1 + 1, 1, none⟩ = some (.int .i64 0) := R.cell 1; have R2 : (W9).cell? ⟨w.heap.size + 1 + 1, 2, none⟩ = some (.int .i64 0) := R.cell 2; have R3 : (W9).cell? ⟨w.heap.size + 1 + 1, 3, none⟩ = some (.int .i64 0) := R.cell 3; have R4 : (W9).cell? ⟨w.heap.size + 1 + 1, 4, none⟩ = some (.int .i64 0) := R.cell 4; have R5 : (W9).cell? ⟨w.heap.size + 1 + 1, 5, none⟩ = some (.int .i64 0) := R.cell 5; have Rl : w.heap.size + 1 + 1 < (W9).heap.size := R.lt
      refine bodyPost_ret (v := .tuple #[.agg #[.int .i64 0, .int .i64 0, .int .i64 0, .int .i64 0, .int .i64 0, .int .i64 0], .bool false]) (by simp [results, Try.results31, go_sem, R0, R1, R2, R3, R4, R5]) rfl ?_
      exact tofP_no HZ.out hR
    exact absurd rfl hm
end Go.Proofs.Ytcnfjapoopdiaaa

/- TofI -/
namespace Go.Proofs.Ytcnfjapoopdiaaa
open Go.RowKit

theorem areaB_b2 {n : Int} (h : areaB n = true) : 1 ≤ n ∧ n ≤ 31 := by
  unfold areaB at h
  simp only [Bool.and_eq_true] at h
  exact inB_true h.1
theorem curve_n {n : Int} (h : 1 ≤ n ∧ n ≤ 31) : curveB (-n * n) 0 = true := by
  have hk : ∀ k : Fin 31, curveB (-(((k : Nat) : Int) + 1) * (((k : Nat) : Int) + 1)) 0 = true := by decide
  have := hk ⟨(n - 1).toNat, by omega⟩
  have he : (((n - 1).toNat : Nat) : Int) + 1 = n := by omega
  simpa only [he] using this
set_option maxHeartbeats 4000000 in
set_option maxRecDepth 100000 in
theorem c_iTofMain (n X Y E c1 d1 x1 x2 c2 d2 y1 y2 w1 w2 a1 b1 a2 b2 a3 b3 a4 b4 a5 b5 a6 b6 a7 b7 a8 b8 a9 b9 e1 f1 e2 f2 : Int) (q1 q2 o1 o2 o3 o4 o5 o6 o7 o8 o9 o10 o11 o12 o13 o14 : Bool) (hn : areaB n = true) (hP : ptF (-n * n) 0 X Y E = true) (hY : (Y == 0) = false) (hE : 1 ≤ E ∧ E ≤ 20)
    (H1 : Hid (∀ w : World, Calls Try.prog 35 #[.int .i64 X, .int .i64 (E * E)] w fun r w' => r = .returned (.tuple #[.agg #[.int .i64 c1, .int .i64 d1], .bool q1]) ∧ Below w.heap.size w w'))
    (K1 : Hid (Kq 34 [.agg #[.int .i64 c1, .int .i64 d1], .bool q1] true x1 x2 o1))
    (H2 : Hid (∀ w : World, Calls Try.prog 35 #[.int .i64 Y, .int .i64 (E * E * E)] w fun r w' => r = .returned (.tuple #[.agg #[.int .i64 c2, .int .i64 d2], .bool q2]) ∧ Below w.heap.size w w'))
    (K2 : Hid (Kq 34 [.agg #[.int .i64 c2, .int .i64 d2], .bool q2] o1 y1 y2 o2))
    (K3 : Hid (Kq 36 [.int .i64 n] o2 w1 w2 o3))
    (K4 : Hid (Kq 38 [.agg #[.int .i64 x1, .int .i64 x2], .agg #[.int .i64 w1, .int .i64 w2]] o3 a1 b1 o4))
    (K5 : Hid (Kq 40 [.agg #[.int .i64 x1, .int .i64 x2], .agg #[.int .i64 w1, .int .i64 w2]] o4 a2 b2 o5))
    (K6 : Hid (Kq 39 [.agg #[.int .i64 a2, .int .i64 b2], .agg #[.int .i64 y1, .int .i64 y2]] o5 a5 b5 o6))
    (K7 : Hid (Kq 37 [.agg #[.int .i64 a1, .int .i64 b1], .agg #[.int .i64 a5, .int .i64 b5]] o6 a8 b8 o7))
    (K8 : Hid (Kq 36 [.int .i64 (2 * n)] o7 e1 f1 o8))
    (K9 : Hid (Kq 39 [.agg #[.int .i64 x1, .int .i64 x2], .agg #[.int .i64 y1, .int .i64 y2]] o8 a4 b4 o9))
    (K10 : Hid (Kq 37 [.agg #[.int .i64 e1, .int .i64 f1], .agg #[.int .i64 a4, .int .i64 b4]] o9 a7 b7 o10))
    (K11 : Hid (Kq 37 [.agg #[.int .i64 x1, .int .i64 x2], .agg #[.int .i64 x1, .int .i64 x2]] o10 a3 b3 o11))
    (K12 : Hid (Kq 37 [.agg #[.int .i64 w1, .int .i64 w2], .agg #[.int .i64 w1, .int .i64 w2]] o11 e2 f2 o12))
    (K13 : Hid (Kq 40 [.agg #[.int .i64 a3, .int .i64 b3], .agg #[.int .i64 e2, .int .i64 f2]] o12 a6 b6 o13))
    (K14 : Hid (Kq 39 [.agg #[.int .i64 a6, .int .i64 b6], .agg #[.int .i64 y1, .int .i64 y2]] o13 a9 b9 o14))
    (HO : Hid (o14 = true → ∀ w : World, Calls Try.prog 41 #[.agg #[.int .i64 a8, .int .i64 b8], .agg #[.int .i64 a7, .int .i64 b7], .agg #[.int .i64 a9, .int .i64 b9]] w fun r w' => r = .returned (ordV a8 b8 a7 b7 a9 b9) ∧ Below w.heap.size w w'))
    (w : World) :
    Calls Try.prog 7 #[.int .i64 n, .agg #[.int .i64 X, .int .i64 Y, .int .i64 E]] w (tofP w a8 b8 a7 b7 a9 b9 o14) := by
  have hn' := areaB_b2 hn
  have HG : Hid (∀ w, _) := fun w => c_isArea n w
  rw [hn] at HG
  have hnn : 1 ≤ n * n ∧ n * n ≤ 961 := ⟨by have := Int.mul_le_mul hn'.1 hn'.1 (by omega) (by omega); omega, by have := Int.mul_le_mul hn'.2 hn'.2 (by omega) (by omega); omega⟩
  have hneg : -n * n = -(n * n) := Int.neg_mul n n
  have hwn : IntKind.i64.wrap (-n) = -n := IntWalk.i64_in _ (by omega)
  have hwm : IntKind.i64.wrap (-n * n) = -n * n := IntWalk.i64_in _ (by omega)
  have hw2 : IntKind.i64.wrap (2 * n) = 2 * n := IntWalk.i64_in _ (by omega)
  have hEE : 1 ≤ E * E ∧ E * E ≤ 400 := ⟨by have := Int.mul_le_mul hE.1 hE.1 (by omega) (by omega); omega, by have := Int.mul_le_mul hE.2 hE.2 (by omega) (by omega); omega⟩
  have hE3 : 1 ≤ E * E * E ∧ E * E * E ≤ 8000 := ⟨by have := Int.mul_le_mul hEE.1 hE.1 (by omega) (by omega); omega, by have := Int.mul_le_mul hEE.2 hE.2 (by omega) (by omega); omega⟩
  have hwE : IntKind.i64.wrap (E * E) = E * E := IntWalk.i64_in _ (by omega)
  have hwF : IntKind.i64.wrap (E * E * E) = E * E * E := IntWalk.i64_in _ (by omega)
  have HI : Hid (∀ w, _) := fun w => c_isPoint (-n * n) 0 X Y E (curve_n hn') w
  rw [hP] at HI
  clear hn hP hnn hneg hEE hE3
  have kP := (Blk.new w #[.int .i64 X, .int .i64 Y, .int .i64 E] 30).alloc (.cells #[.int .i64 0, .int .i64 0, .int .i64 0, .int .i64 0, .int .i64 0, .int .i64 0] 27)
  have kT := Blk.new (w.alloc (.cells #[.int .i64 X, .int .i64 Y, .int .i64 E] 30)) #[.int .i64 0, .int .i64 0, .int .i64 0, .int .i64 0, .int .i64 0, .int .i64 0] 27
  simp only [World.size_alloc] at kT
  have hB : Below w.heap.size w ((w.alloc (.cells #[.int .i64 X, .int .i64 Y, .int .i64 E] 30)).alloc (.cells #[.int .i64 0, .int .i64 0, .int .i64 0, .int .i64 0, .int .i64 0, .int .i64 0] 27)) := by (repeat' (first | (with_reducible exact Below.refl _ _) | (with_reducible refine below_step (by assumption) ?_ ?_) | (with_reducible refine Below.alloc ?_ ?_ _) | (with_reducible refine Below.setCell ?_ ?_ _) | (with_reducible refine below_drewN ?_ _) | (with_reducible refine Below.drew ?_) | omega | (simp; omega) | (simp; done)))
  have hs := hB.size
  have hz : w.heap.size + 2 ≤ (((w.alloc (.cells #[.int .i64 X, .int .i64 Y, .int .i64 E] 30)).alloc (.cells #[.int .i64 0, .int .i64 0, .int .i64 0, .int .i64 0, .int .i64 0, .int .i64 0] 27))).heap.size := by simp
  go_enter Try.func7, Try.ntmps7
  go_wp2_with fail
  generalize ((w.alloc (.cells #[.int .i64 X, .int .i64 Y, .int .i64 E] 30)).alloc (.cells #[.int .i64 0, .int .i64 0, .int .i64 0, .int .i64 0, .int .i64 0, .int .i64 0] 27)) = W at *
  refine (HG.out _).mono ?_
  rintro e u1 ⟨rfl, hb1⟩
  have hz1 := hb1.size
  replace kP := kP.next hb1
  replace kT := kT.next hb1
  replace hB := below_step hb1 hs hB
  replace hs := hB.size
  have kP0 : (u1).cell? ⟨w.heap.size, 0, none⟩ = some (.int .i64 X) := kP.cell 0; have kP1 : (u1).cell? ⟨w.heap.size, 1, none⟩ = some (.int .i64 Y) := kP.cell 1; have kP2 : (u1).cell? ⟨w.heap.size, 2, none⟩ = some (.int .i64 E) := kP.cell 2; have kPl : w.heap.size < (u1).heap.size := kP.lt
  go_wp2_with fail
  refine (HI.out _).mono ?_
  rintro e u2 ⟨rfl, hb2⟩
  clear kP0 kP1 kP2 kPl
  have hz2 := hb2.size
  replace kP := kP.next hb2
  replace kT := kT.next hb2
  replace hB := below_step hb2 hs hB
  replace hs := hB.size
  have kP0 : (u2).cell? ⟨w.heap.size, 0, none⟩ = some (.int .i64 X) := kP.cell 0; have kP1 : (u2).cell? ⟨w.heap.size, 1, none⟩ = some (.int .i64 Y) := kP.cell 1; have kP2 : (u2).cell? ⟨w.heap.size, 2, none⟩ = some (.int .i64 E) := kP.cell 2; have kPl : w.heap.size < (u2).heap.size := kP.lt
  go_upto_region 4 with (fail)
  clear kP0 kP1 kP2 kPl
  have kc : CB u2.heap.size true (u2.alloc (.cells #[.bool true] 63)) := ⟨by simp [go_sem], by simp [go_sem], by simp⟩
  replace kP := kP.alloc (.cells #[.bool true] 63)
  replace kT := kT.alloc (.cells #[.bool true] 63)
  replace hB := hB.alloc hs (.cells #[.bool true] 63)
  replace hs := hB.size
  generalize u2.alloc _ = W3 at *
  have hcB : w.heap.size + 2 ≤ u2.heap.size := by omega
  clear hz hz1 hz2 hb1 hb2
  generalize u2.heap.size = c at *
  have ncP : w.heap.size ≠ c := by omega
  have ncT : w.heap.size + 1 ≠ c := by omega
  replace hcB : w.heap.size ≤ c := by omega
  clear HG HI
  have kP0 : (W3).cell? ⟨w.heap.size, 0, none⟩ = some (.int .i64 X) := kP.cell 0; have kP1 : (W3).cell? ⟨w.heap.size, 1, none⟩ = some (.int .i64 Y) := kP.cell 1; have kP2 : (W3).cell? ⟨w.heap.size, 2, none⟩ = some (.int .i64 E) := kP.cell 2; have kPl : w.heap.size < (W3).heap.size := kP.lt
  have kcl := kc.2.2
  go_wp2_with fail
  refine (H1.out _).mono ?_
  rintro e u3 ⟨rfl, hb⟩
  clear kP0 kP1 kP2 kPl kcl
  replace kc := CB.closed _ _ _ _ kc hb
  replace kP := kP.next hb
  replace kT := kT.next hb
  replace hB := below_step hb hs hB
  replace hs := hB.size
  clear hb
  go_wp2_with fail
  refine (K1.out c _ kc).mono ?_
  rintro e v3 ⟨rfl, ho, hk⟩
  clear kc
  have kc := hk
  clear hk
  replace kP := kP.over ho (by simpa using ncP)
  replace kT := kT.over ho (by simpa using ncT)
  replace hB := hB.trans (ho.below1 hcB hs)
  replace hs := hB.size
  clear ho
  have hcl := kc.2.2
  replace kP := kP.alloc (.cells #[.int .i64 x1, .int .i64 x2] 25)
  replace kT := kT.alloc (.cells #[.int .i64 x1, .int .i64 x2] 25)
  have k7 := Blk.new v3 #[.int .i64 x1, .int .i64 x2] 25
  have nk7 : v3.heap.size ≠ c := by omega
  replace kc := CB.closed _ _ _ _ kc ((Below.refl _ _).alloc (Nat.le_refl _) (.cells #[.int .i64 x1, .int .i64 x2] 25))
  replace hB := hB.alloc hs (.cells #[.int .i64 x1, .int .i64 x2] 25)
  replace hs := hB.size
  clear hcl
  go_upto_region 5 with (fail)
  generalize v3.alloc _ = W4 at *
  generalize v3.heap.size = r7 at *
  have kP0 : (W4).cell? ⟨w.heap.size, 0, none⟩ = some (.int .i64 X) := kP.cell 0; have kP1 : (W4).cell? ⟨w.heap.size, 1, none⟩ = some (.int .i64 Y) := kP.cell 1; have kP2 : (W4).cell? ⟨w.heap.size, 2, none⟩ = some (.int .i64 E) := kP.cell 2; have kPl : w.heap.size < (W4).heap.size := kP.lt
  have kcl := kc.2.2
  go_wp2_with fail
  refine (H2.out _).mono ?_
  rintro e u4 ⟨rfl, hb⟩
  clear kP0 kP1 kP2 kPl kcl
  replace kc := CB.closed _ _ _ _ kc hb
  replace kP := kP.next hb
  replace kT := kT.next hb
  replace k7 := k7.next hb
  replace hB := below_step hb hs hB
  replace hs := hB.size
  clear hb
  go_wp2_with fail
  refine (K2.out c _ kc).mono ?_
  rintro e v4 ⟨rfl, ho, hk⟩
  clear kc
  have kc := hk
  clear hk
  replace kP := kP.over ho (by simpa using ncP)
  replace kT := kT.over ho (by simpa using ncT)
  replace k7 := k7.over ho (by simpa using nk7)
  replace hB := hB.trans (ho.below1 hcB hs)
  replace hs := hB.size
  clear ho
  have hcl := kc.2.2
  replace kP := kP.alloc (.cells #[.int .i64 y1, .int .i64 y2] 25)
  replace kT := kT.alloc (.cells #[.int .i64 y1, .int .i64 y2] 25)
  replace k7 := k7.alloc (.cells #[.int .i64 y1, .int .i64 y2] 25)
  have k8 := Blk.new v4 #[.int .i64 y1, .int .i64 y2] 25
  have nk8 : v4.heap.size ≠ c := by omega
  replace kc := CB.closed _ _ _ _ kc ((Below.refl _ _).alloc (Nat.le_refl _) (.cells #[.int .i64 y1, .int .i64 y2] 25))
  replace hB := hB.alloc hs (.cells #[.int .i64 y1, .int .i64 y2] 25)
  replace hs := hB.size
  clear hcl
  go_upto_region 6 with (fail)
  generalize v4.alloc _ = W5 at *
  generalize v4.heap.size = r8 at *
  go_wp2_with fail
  refine (K3.out c _ kc).mono ?_
  rintro e v5 ⟨rfl, ho, hk⟩
  clear kc
  have kc := hk
  clear hk
  replace kP := kP.over ho (by simpa using ncP)
  replace kT := kT.over ho (by simpa using ncT)
  replace k7 := k7.over ho (by simpa using nk7)
  replace k8 := k8.over ho (by simpa using nk8)
  replace hB := hB.trans (ho.below1 hcB hs)
  replace hs := hB.size
  clear ho
  have hcl := kc.2.2
  replace kP := kP.alloc (.cells #[.int .i64 w1, .int .i64 w2] 25)
  replace kT := kT.alloc (.cells #[.int .i64 w1, .int .i64 w2] 25)
  replace k7 := k7.alloc (.cells #[.int .i64 w1, .int .i64 w2] 25)
  replace k8 := k8.alloc (.cells #[.int .i64 w1, .int .i64 w2] 25)
  have k9 := Blk.new v5 #[.int .i64 w1, .int .i64 w2] 25
  have nk9 : v5.heap.size ≠ c := by omega
  replace kc := CB.closed _ _ _ _ kc ((Below.refl _ _).alloc (Nat.le_refl _) (.cells #[.int .i64 w1, .int .i64 w2] 25))
  replace hB := hB.alloc hs (.cells #[.int .i64 w1, .int .i64 w2] 25)
  replace hs := hB.size
  clear hcl
  go_upto_region 7 with (fail)
  generalize v5.alloc _ = W6 at *
  generalize v5.heap.size = r9 at *
  have k70 : (W6).cell? ⟨r7, 0, none⟩ = some (.int .i64 x1) := k7.cell 0; have k71 : (W6).cell? ⟨r7, 1, none⟩ = some (.int .i64 x2) := k7.cell 1; have k7l : r7 < (W6).heap.size := k7.lt
  have k80 : (W6).cell? ⟨r8, 0, none⟩ = some (.int .i64 y1) := k8.cell 0; have k81 : (W6).cell? ⟨r8, 1, none⟩ = some (.int .i64 y2) := k8.cell 1; have k8l : r8 < (W6).heap.size := k8.lt
  have k90 : (W6).cell? ⟨r9, 0, none⟩ = some (.int .i64 w1) := k9.cell 0; have k91 : (W6).cell? ⟨r9, 1, none⟩ = some (.int .i64 w2) := k9.cell 1; have k9l : r9 < (W6).heap.size := k9.lt
  have kcl := kc.2.2
  go_wp2
  apply region_join1 (fun r10 Wz => Over [c] W6 Wz ∧ (CB c o7) Wz ∧ W6.heap.size ≤ r10 ∧ Blk r10 #[.int .i64 a8, .int .i64 b8] 25 Wz)
  · intro hcont
    refine wp_region_cls [c] (fun _ => false) (fun _ => True) (KD (CB c o3) []) (by kernel_rfl) ⟨(CB.closed _ _) _ _ (kc) ((Below.refl _ _).drew), MemL.nil _⟩ ?_
    apply wpAnyF_hd ⟨W6, Over.refl _ _, kc, MemL.nil _⟩ [true, true, true, true, false, true, true, true, true, false, true] 6 (KD.closed (CB.closed _ _) _) (fun _ _ => trivial) (by kernel_rfl) (by kernel_rfl) (by kernel_rfl) (by kernel_rfl) (by simp)
    · intro E hE hEN hEn; (repeat (first | (refine wpHL_take ?_; go_big_quiet_step (fail); refine wpQuiet_nil ?_) | refine wpHL_skip ?_)); exact wpHL_end rfl
    refine wpAnyF_ready [4, 13] 5 (by kernel_rfl) (by kernel_rfl) (by simp) ?_
    refine AllF.cons ?_ ?_
    · refine stepK_call (v := .agg #[.int .i64 a1, .int .i64 b1]) (some 68) (CB c o4) (by rfl) (by rfl) (by rfl) (fun _ => by go_simp) (CB.closed _ _) (fun x hx => by cases hx) (fun w' hC => K4.out c w' hC) (fun hne => ?_)
      simp only [Act.put, List.setIfInBounds_toArray, List.set_cons_succ, List.set_cons_zero]
      refine wpAnyF_ready [9, 13] 4 (by kernel_rfl) (by kernel_rfl) (by simp) ?_
      refine AllF.cons ?_ ?_
      · refine stepK_call (v := .agg #[.int .i64 a2, .int .i64 b2]) (some 73) (CB c o5) (by rfl) (by rfl) (by rfl) (fun _ => by go_simp) (CB.closed _ _) (fun x hx => by cases hx) (fun w' hC => K5.out c w' hC) (fun hne => ?_)
        simp only [Act.put, List.setIfInBounds_toArray, List.set_cons_succ, List.set_cons_zero]
        refine wpAnyF_ready [11, 13] 3 (by kernel_rfl) (by kernel_rfl) (by simp) ?_
        refine AllF.cons ?_ ?_
        · refine stepK_call (v := .agg #[.int .i64 a5, .int .i64 b5]) (some 75) (CB c o6) (by rfl) (by rfl) (by rfl) (fun _ => by go_simp) (CB.closed _ _) (fun x hx => by cases hx) (fun w' hC => K6.out c w' hC) (fun hne => ?_)
          simp only [Act.put, List.setIfInBounds_toArray, List.set_cons_succ, List.set_cons_zero]
          refine wpAnyF_ready [12, 13] 2 (by kernel_rfl) (by kernel_rfl) (by simp) ?_
          refine AllF.cons ?_ ?_
          · refine stepK_call (v := .agg #[.int .i64 a8, .int .i64 b8]) (some 76) (CB c o7) (by rfl) (by rfl) (by rfl) (fun _ => by go_simp) (CB.closed _ _) (fun x hx => by cases hx) (fun w' hC => K7.out c w' hC) (fun hne => ?_)
            simp only [Act.put, List.setIfInBounds_toArray, List.set_cons_succ, List.set_cons_zero]
            refine wpAnyF_ready [13] 1 (by kernel_rfl) (by kernel_rfl) (by simp) ?_
            refine AllF.cons ?_ ?_
            · refine stepK_alloc (zs := #[.int .i64 0, .int .i64 0]) (T := 25) (by rfl) (by rfl) (by rfl) (fun _ => by go_simp) (CB.closed _ _) (fun r10 hr10 hl10 hne => ?_)
              simp only [Act.put, List.setIfInBounds_toArray, List.set_cons_succ, List.set_cons_zero]
              refine wpAnyF_ready [14] 0 (by kernel_rfl) (by kernel_rfl) (by simp) ?_
              refine AllF.cons ?_ ?_
              · refine stepK_store (v := .agg #[.int .i64 a8, .int .i64 b8]) [] [] (by rfl) (by rfl) (by rfl) (by rfl) (by rfl) (by rfl) (fun _ => by go_simp) (by rfl) (by simp [Value.cells, one1]) (.inl hr10) (CB.closed _ _) (fun _ _ h ho => CB.over h ho (by omega)) (by simp) (fun hne => ?_)
                try simp only [Value.cells]
                refine wpAnyF_done (by kernel_rfl) (fun Wz hOz hDz => ?_) _
                exact hcont r10 Wz ⟨hOz, hDz.1, (by omega), hDz.2.head⟩
              exact AllF.nil
            exact AllF.nil
          refine AllF.cons ?_ ?_
          · refine stepK_alloc (zs := #[.int .i64 0, .int .i64 0]) (T := 25) (by rfl) (by rfl) (by rfl) (fun _ => by go_simp) (CB.closed _ _) (fun r10 hr10 hl10 hne => ?_)
            simp only [Act.put, List.setIfInBounds_toArray, List.set_cons_succ, List.set_cons_zero]
            refine wpAnyF_ready [12] 1 (by kernel_rfl) (by kernel_rfl) (by simp) ?_
            refine AllF.cons ?_ ?_
            · refine stepK_call (v := .agg #[.int .i64 a8, .int .i64 b8]) (some 76) (CB c o7) (by rfl) (by rfl) (by rfl) (fun _ => by go_simp) (CB.closed _ _) (by simp; omega) (fun w' hC => K7.out c w' hC) (fun hne => ?_)
              simp only [Act.put, List.setIfInBounds_toArray, List.set_cons_succ, List.set_cons_zero]
              refine wpAnyF_ready [14] 0 (by kernel_rfl) (by kernel_rfl) (by simp) ?_
              refine AllF.cons ?_ ?_
              · refine stepK_store (v := .agg #[.int .i64 a8, .int .i64 b8]) [] [] (by rfl) (by rfl) (by rfl) (by rfl) (by rfl) (by rfl) (fun _ => by go_simp) (by rfl) (by simp [Value.cells, one1]) (.inl hr10) (CB.closed _ _) (fun _ _ h ho => CB.over h ho (by omega)) (by simp) (fun hne => ?_)
                try simp only [Value.cells]
                refine wpAnyF_done (by kernel_rfl) (fun Wz hOz hDz => ?_) _
                exact hcont r10 Wz ⟨hOz, hDz.1, (by omega), hDz.2.head⟩
              exact AllF.nil
            exact AllF.nil
          exact AllF.nil
        refine AllF.cons ?_ ?_
        · refine stepK_alloc (zs := #[.int .i64 0, .int .i64 0]) (T := 25) (by rfl) (by rfl) (by rfl) (fun _ => by go_simp) (CB.closed _ _) (fun r10 hr10 hl10 hne => ?_)
          simp only [Act.put, List.setIfInBounds_toArray, List.set_cons_succ, List.set_cons_zero]
          refine wpAnyF_ready [11] 2 (by kernel_rfl) (by kernel_rfl) (by simp) ?_
          refine AllF.cons ?_ ?_
          · refine stepK_call (v := .agg #[.int .i64 a5, .int .i64 b5]) (some 75) (CB c o6) (by rfl) (by rfl) (by rfl) (fun _ => by go_simp) (CB.closed _ _) (by simp; omega) (fun w' hC => K6.out c w' hC) (fun hne => ?_)
            simp only [Act.put, List.setIfInBounds_toArray, List.set_cons_succ, List.set_cons_zero]
            refine wpAnyF_ready [12] 1 (by kernel_rfl) (by kernel_rfl) (by simp) ?_
            refine AllF.cons ?_ ?_
            · refine stepK_call (v := .agg #[.int .i64 a8, .int .i64 b8]) (some 76) (CB c o7) (by rfl) (by rfl) (by rfl) (fun _ => by go_simp) (CB.closed _ _) (by simp; omega) (fun w' hC => K7.out c w' hC) (fun hne => ?_)
              simp only [Act.put, List.setIfInBounds_toArray, List.set_cons_succ, List.set_cons_zero]
              refine wpAnyF_ready [14] 0 (by kernel_rfl) (by kernel_rfl) (by simp) ?_
              refine AllF.cons ?_ ?_
              · refine stepK_store (v := .agg #[.int .i64 a8, .int .i64 b8]) [] [] (by rfl) (by rfl) (by rfl) (by rfl) (by rfl) (by rfl) (fun _ => by go_simp) (by rfl) (by simp [Value.cells, one1]) (.inl hr10) (CB.closed _ _) (fun _ _ h ho => CB.over h ho (by omega)) (by simp) (fun hne => ?_)
                try simp only [Value.cells]
                refine wpAnyF_done (by kernel_rfl) (fun Wz hOz hDz => ?_) _
                exact hcont r10 Wz ⟨hOz, hDz.1, (by omega), hDz.2.head⟩
              exact AllF.nil
            exact AllF.nil
          exact AllF.nil
        exact AllF.nil
      refine AllF.cons ?_ ?_
      · refine stepK_alloc (zs := #[.int .i64 0, .int .i64 0]) (T := 25) (by rfl) (by rfl) (by rfl) (fun _ => by go_simp) (CB.closed _ _) (fun r10 hr10 hl10 hne => ?_)
        simp only [Act.put, List.setIfInBounds_toArray, List.set_cons_succ, List.set_cons_zero]
        refine wpAnyF_ready [9] 3 (by kernel_rfl) (by kernel_rfl) (by simp) ?_
        refine AllF.cons ?_ ?_
        · refine stepK_call (v := .agg #[.int .i64 a2, .int .i64 b2]) (some 73) (CB c o5) (by rfl) (by rfl) (by rfl) (fun _ => by go_simp) (CB.closed _ _) (by simp; omega) (fun w' hC => K5.out c w' hC) (fun hne => ?_)
          simp only [Act.put, List.setIfInBounds_toArray, List.set_cons_succ, List.set_cons_zero]
          refine wpAnyF_ready [11] 2 (by kernel_rfl) (by kernel_rfl) (by simp) ?_
          refine AllF.cons ?_ ?_
          · refine stepK_call (v := .agg #[.int .i64 a5, .int .i64 b5]) (some 75) (CB c o6) (by rfl) (by rfl) (by rfl) (fun _ => by go_simp) (CB.closed _ _) (by simp; omega) (fun w' hC => K6.out c w' hC) (fun hne => ?_)
            simp only [Act.put, List.setIfInBounds_toArray, List.set_cons_succ, List.set_cons_zero]
            refine wpAnyF_ready [12] 1 (by kernel_rfl) (by kernel_rfl) (by simp) ?_
            refine AllF.cons ?_ ?_
            · refine stepK_call (v := .agg #[.int .i64 a8, .int .i64 b8]) (some 76) (CB c o7) (by rfl) (by rfl) (by rfl) (fun _ => by go_simp) (CB.closed _ _) (by simp; omega) (fun w' hC => K7.out c w' hC) (fun hne => ?_)
              simp only [Act.put, List.setIfInBounds_toArray, List.set_cons_succ, List.set_cons_zero]
              refine wpAnyF_ready [14] 0 (by kernel_rfl) (by kernel_rfl) (by simp) ?_
              refine AllF.cons ?_ ?_
              · refine stepK_store (v := .agg #[.int .i64 a8, .int .i64 b8]) [] [] (by rfl) (by rfl) (by rfl) (by rfl) (by rfl) (by rfl) (fun _ => by go_simp) (by rfl) (by simp [Value.cells, one1]) (.inl hr10) (CB.closed _ _) (fun _ _ h ho => CB.over h ho (by omega)) (by simp) (fun hne => ?_)
                try simp only [Value.cells]
                refine wpAnyF_done (by kernel_rfl) (fun Wz hOz hDz => ?_) _
                exact hcont r10 Wz ⟨hOz, hDz.1, (by omega), hDz.2.head⟩
              exact AllF.nil
            exact AllF.nil
          exact AllF.nil
        exact AllF.nil
      exact AllF.nil
    refine AllF.cons ?_ ?_
    · refine stepK_alloc (zs := #[.int .i64 0, .int .i64 0]) (T := 25) (by rfl) (by rfl) (by rfl) (fun _ => by go_simp) (CB.closed _ _) (fun r10 hr10 hl10 hne => ?_)
      simp only [Act.put, List.setIfInBounds_toArray, List.set_cons_succ, List.set_cons_zero]
      refine wpAnyF_ready [4] 4 (by kernel_rfl) (by kernel_rfl) (by simp) ?_
      refine AllF.cons ?_ ?_
      · refine stepK_call (v := .agg #[.int .i64 a1, .int .i64 b1]) (some 68) (CB c o4) (by rfl) (by rfl) (by rfl) (fun _ => by go_simp) (CB.closed _ _) (by simp; omega) (fun w' hC => K4.out c w' hC) (fun hne => ?_)
        simp only [Act.put, List.setIfInBounds_toArray, List.set_cons_succ, List.set_cons_zero]
        refine wpAnyF_ready [9] 3 (by kernel_rfl) (by kernel_rfl) (by simp) ?_
        refine AllF.cons ?_ ?_
        · refine stepK_call (v := .agg #[.int .i64 a2, .int .i64 b2]) (some 73) (CB c o5) (by rfl) (by rfl) (by rfl) (fun _ => by go_simp) (CB.closed _ _) (by simp; omega) (fun w' hC => K5.out c w' hC) (fun hne => ?_)
          simp only [Act.put, List.setIfInBounds_toArray, List.set_cons_succ, List.set_cons_zero]
          refine wpAnyF_ready [11] 2 (by kernel_rfl) (by kernel_rfl) (by simp) ?_
          refine AllF.cons ?_ ?_
          · refine stepK_call (v := .agg #[.int .i64 a5, .int .i64 b5]) (some 75) (CB c o6) (by rfl) (by rfl) (by rfl) (fun _ => by go_simp) (CB.closed _ _) (by simp; omega) (fun w' hC => K6.out c w' hC) (fun hne => ?_)
            simp only [Act.put, List.setIfInBounds_toArray, List.set_cons_succ, List.set_cons_zero]
            refine wpAnyF_ready [12] 1 (by kernel_rfl) (by kernel_rfl) (by simp) ?_
            refine AllF.cons ?_ ?_
            · refine stepK_call (v := .agg #[.int .i64 a8, .int .i64 b8]) (some 76) (CB c o7) (by rfl) (by rfl) (by rfl) (fun _ => by go_simp) (CB.closed _ _) (by simp; omega) (fun w' hC => K7.out c w' hC) (fun hne => ?_)
              simp only [Act.put, List.setIfInBounds_toArray, List.set_cons_succ, List.set_cons_zero]
              refine wpAnyF_ready [14] 0 (by kernel_rfl) (by kernel_rfl) (by simp) ?_
              refine AllF.cons ?_ ?_
              · refine stepK_store (v := .agg #[.int .i64 a8, .int .i64 b8]) [] [] (by rfl) (by rfl) (by rfl) (by rfl) (by rfl) (by rfl) (fun _ => by go_simp) (by rfl) (by simp [Value.cells, one1]) (.inl hr10) (CB.closed _ _) (fun _ _ h ho => CB.over h ho (by omega)) (by simp) (fun hne => ?_)
                try simp only [Value.cells]
                refine wpAnyF_done (by kernel_rfl) (fun Wz hOz hDz => ?_) _
                exact hcont r10 Wz ⟨hOz, hDz.1, (by omega), hDz.2.head⟩
              exact AllF.nil
            exact AllF.nil
          exact AllF.nil
        exact AllF.nil
      exact AllF.nil
    exact AllF.nil
  try dsimp only
  rintro r10 W7 ⟨hO, hk, hr, k10⟩
  clear kc
  have kc := hk
  clear hk
  have nk10 : r10 ≠ c := by omega
  clear kcl k70 k71 k7l k80 k81 k8l k90 k91 k9l
  replace kP := kP.over hO (by simpa using ncP)
  replace kT := kT.over hO (by simpa using ncT)
  replace k7 := k7.over hO (by simpa using nk7)
  replace k8 := k8.over hO (by simpa using nk8)
  replace k9 := k9.over hO (by simpa using nk9)
  replace hB := hB.trans (hO.below1 hcB hs)
  replace hs := hB.size
  clear hO hr
  have k70 : (W7).cell? ⟨r7, 0, none⟩ = some (.int .i64 x1) := k7.cell 0; have k71 : (W7).cell? ⟨r7, 1, none⟩ = some (.int .i64 x2) := k7.cell 1; have k7l : r7 < (W7).heap.size := k7.lt
  have k80 : (W7).cell? ⟨r8, 0, none⟩ = some (.int .i64 y1) := k8.cell 0; have k81 : (W7).cell? ⟨r8, 1, none⟩ = some (.int .i64 y2) := k8.cell 1; have k8l : r8 < (W7).heap.size := k8.lt
  have kcl := kc.2.2
  go_wp2
  apply region_join1 (fun r11 Wz => Over [c] W7 Wz ∧ (CB c o10) Wz ∧ W7.heap.size ≤ r11 ∧ Blk r11 #[.int .i64 a7, .int .i64 b7] 25 Wz)
  · intro hcont
    refine wp_region_cls [c] (fun _ => false) (fun _ => True) (KD (CB c o7) []) (by kernel_rfl) ⟨(CB.closed _ _) _ _ (kc) ((Below.refl _ _).drew), MemL.nil _⟩ ?_
    apply wpAnyF_hd ⟨W7, Over.refl _ _, kc, MemL.nil _⟩ [true, true, true, true, false, true, true, true] 5 (KD.closed (CB.closed _ _) _) (fun _ _ => trivial) (by kernel_rfl) (by kernel_rfl) (by kernel_rfl) (by kernel_rfl) (by simp)
    · intro E hE hEN hEn; (repeat (first | (refine wpHL_take ?_; go_big_quiet_step (fail); refine wpQuiet_nil ?_) | refine wpHL_skip ?_)); exact wpHL_end rfl
    refine wpAnyF_ready [4, 10] 4 (by kernel_rfl) (by kernel_rfl) (by simp) ?_
    refine AllF.cons ?_ ?_
    · refine stepK_call (v := .agg #[.int .i64 e1, .int .i64 f1]) (some 81) (CB c o8) (by rfl) (by rfl) (by rfl) (fun _ => by go_simp) (CB.closed _ _) (fun x hx => by cases hx) (fun w' hC => K8.out c w' hC) (fun hne => ?_)
      simp only [Act.put, List.setIfInBounds_toArray, List.set_cons_succ, List.set_cons_zero]
      refine wpAnyF_ready [8, 10] 3 (by kernel_rfl) (by kernel_rfl) (by simp) ?_
      refine AllF.cons ?_ ?_
      · refine stepK_call (v := .agg #[.int .i64 a4, .int .i64 b4]) (some 85) (CB c o9) (by rfl) (by rfl) (by rfl) (fun _ => by go_simp) (CB.closed _ _) (fun x hx => by cases hx) (fun w' hC => K9.out c w' hC) (fun hne => ?_)
        simp only [Act.put, List.setIfInBounds_toArray, List.set_cons_succ, List.set_cons_zero]
        refine wpAnyF_ready [9, 10] 2 (by kernel_rfl) (by kernel_rfl) (by simp) ?_
        refine AllF.cons ?_ ?_
        · refine stepK_call (v := .agg #[.int .i64 a7, .int .i64 b7]) (some 86) (CB c o10) (by rfl) (by rfl) (by rfl) (fun _ => by go_simp) (CB.closed _ _) (fun x hx => by cases hx) (fun w' hC => K10.out c w' hC) (fun hne => ?_)
          simp only [Act.put, List.setIfInBounds_toArray, List.set_cons_succ, List.set_cons_zero]
          refine wpAnyF_ready [10] 1 (by kernel_rfl) (by kernel_rfl) (by simp) ?_
          refine AllF.cons ?_ ?_
          · refine stepK_alloc (zs := #[.int .i64 0, .int .i64 0]) (T := 25) (by rfl) (by rfl) (by rfl) (fun _ => by go_simp) (CB.closed _ _) (fun r11 hr11 hl11 hne => ?_)
            simp only [Act.put, List.setIfInBounds_toArray, List.set_cons_succ, List.set_cons_zero]
            refine wpAnyF_ready [11] 0 (by kernel_rfl) (by kernel_rfl) (by simp) ?_
            refine AllF.cons ?_ ?_
            · refine stepK_store (v := .agg #[.int .i64 a7, .int .i64 b7]) [] [] (by rfl) (by rfl) (by rfl) (by rfl) (by rfl) (by rfl) (fun _ => by go_simp) (by rfl) (by simp [Value.cells, one1]) (.inl hr11) (CB.closed _ _) (fun _ _ h ho => CB.over h ho (by omega)) (by simp) (fun hne => ?_)
              try simp only [Value.cells]
              refine wpAnyF_done (by kernel_rfl) (fun Wz hOz hDz => ?_) _
              exact hcont r11 Wz ⟨hOz, hDz.1, (by omega), hDz.2.head⟩
            exact AllF.nil
          exact AllF.nil
        refine AllF.cons ?_ ?_
        · refine stepK_alloc (zs := #[.int .i64 0, .int .i64 0]) (T := 25) (by rfl) (by rfl) (by rfl) (fun _ => by go_simp) (CB.closed _ _) (fun r11 hr11 hl11 hne => ?_)
          simp only [Act.put, List.setIfInBounds_toArray, List.set_cons_succ, List.set_cons_zero]
          refine wpAnyF_ready [9] 1 (by kernel_rfl) (by kernel_rfl) (by simp) ?_
          refine AllF.cons ?_ ?_
          · refine stepK_call (v := .agg #[.int .i64 a7, .int .i64 b7]) (some 86) (CB c o10) (by rfl) (by rfl) (by rfl) (fun _ => by go_simp) (CB.closed _ _) (by simp; omega) (fun w' hC => K10.out c w' hC) (fun hne => ?_)
            simp only [Act.put, List.setIfInBounds_toArray, List.set_cons_succ, List.set_cons_zero]
            refine wpAnyF_ready [11] 0 (by kernel_rfl) (by kernel_rfl) (by simp) ?_
            refine AllF.cons ?_ ?_
            · refine stepK_store (v := .agg #[.int .i64 a7, .int .i64 b7]) [] [] (by rfl) (by rfl) (by rfl) (by rfl) (by rfl) (by rfl) (fun _ => by go_simp) (by rfl) (by simp [Value.cells, one1]) (.inl hr11) (CB.closed _ _) (fun _ _ h ho => CB.over h ho (by omega)) (by simp) (fun hne => ?_)
              try simp only [Value.cells]
              refine wpAnyF_done (by kernel_rfl) (fun Wz hOz hDz => ?_) _
              exact hcont r11 Wz ⟨hOz, hDz.1, (by omega), hDz.2.head⟩
            exact AllF.nil
          exact AllF.nil
        exact AllF.nil
      refine AllF.cons ?_ ?_
      · refine stepK_alloc (zs := #[.int .i64 0, .int .i64 0]) (T := 25) (by rfl) (by rfl) (by rfl) (fun _ => by go_simp) (CB.closed _ _) (fun r11 hr11 hl11 hne => ?_)
        simp only [Act.put, List.setIfInBounds_toArray, List.set_cons_succ, List.set_cons_zero]
        refine wpAnyF_ready [8] 2 (by kernel_rfl) (by kernel_rfl) (by simp) ?_
        refine AllF.cons ?_ ?_
        · refine stepK_call (v := .agg #[.int .i64 a4, .int .i64 b4]) (some 85) (CB c o9) (by rfl) (by rfl) (by rfl) (fun _ => by go_simp) (CB.closed _ _) (by simp; omega) (fun w' hC => K9.out c w' hC) (fun hne => ?_)
          simp only [Act.put, List.setIfInBounds_toArray, List.set_cons_succ, List.set_cons_zero]
          refine wpAnyF_ready [9] 1 (by kernel_rfl) (by kernel_rfl) (by simp) ?_
          refine AllF.cons ?_ ?_
          · refine stepK_call (v := .agg #[.int .i64 a7, .int .i64 b7]) (some 86) (CB c o10) (by rfl) (by rfl) (by rfl) (fun _ => by go_simp) (CB.closed _ _) (by simp; omega) (fun w' hC => K10.out c w' hC) (fun hne => ?_)
            simp only [Act.put, List.setIfInBounds_toArray, List.set_cons_succ, List.set_cons_zero]
            refine wpAnyF_ready [11] 0 (by kernel_rfl) (by kernel_rfl) (by simp) ?_
            refine AllF.cons ?_ ?_
            · refine stepK_store (v := .agg #[.int .i64 a7, .int .i64 b7]) [] [] (by rfl) (by rfl) (by rfl) (by rfl) (by rfl) (by rfl) (fun _ => by go_simp) (by rfl) (by simp [Value.cells, one1]) (.inl hr11) (CB.closed _ _) (fun _ _ h ho => CB.over h ho (by omega)) (by simp) (fun hne => ?_)
              try simp only [Value.cells]
              refine wpAnyF_done (by kernel_rfl) (fun Wz hOz hDz => ?_) _
              exact hcont r11 Wz ⟨hOz, hDz.1, (by omega), hDz.2.head⟩
            exact AllF.nil
          exact AllF.nil
        exact AllF.nil
      exact AllF.nil
    refine AllF.cons ?_ ?_
    · refine stepK_alloc (zs := #[.int .i64 0, .int .i64 0]) (T := 25) (by rfl) (by rfl) (by rfl) (fun _ => by go_simp) (CB.closed _ _) (fun r11 hr11 hl11 hne => ?_)
      simp only [Act.put, List.setIfInBounds_toArray, List.set_cons_succ, List.set_cons_zero]
      refine wpAnyF_ready [4] 3 (by kernel_rfl) (by kernel_rfl) (by simp) ?_
      refine AllF.cons ?_ ?_
      · refine stepK_call (v := .agg #[.int .i64 e1, .int .i64 f1]) (some 81) (CB c o8) (by rfl) (by rfl) (by rfl) (fun _ => by go_simp) (CB.closed _ _) (by simp; omega) (fun w' hC => K8.out c w' hC) (fun hne => ?_)
        simp only [Act.put, List.setIfInBounds_toArray, List.set_cons_succ, List.set_cons_zero]
        refine wpAnyF_ready [8] 2 (by kernel_rfl) (by kernel_rfl) (by simp) ?_
        refine AllF.cons ?_ ?_
        · refine stepK_call (v := .agg #[.int .i64 a4, .int .i64 b4]) (some 85) (CB c o9) (by rfl) (by rfl) (by rfl) (fun _ => by go_simp) (CB.closed _ _) (by simp; omega) (fun w' hC => K9.out c w' hC) (fun hne => ?_)
          simp only [Act.put, List.setIfInBounds_toArray, List.set_cons_succ, List.set_cons_zero]
          refine wpAnyF_ready [9] 1 (by kernel_rfl) (by kernel_rfl) (by simp) ?_
          refine AllF.cons ?_ ?_
          · refine stepK_call (v := .agg #[.int .i64 a7, .int .i64 b7]) (some 86) (CB c o10) (by rfl) (by rfl) (by rfl) (fun _ => by go_simp) (CB.closed _ _) (by simp; omega) (fun w' hC => K10.out c w' hC) (fun hne => ?_)
            simp only [Act.put, List.setIfInBounds_toArray, List.set_cons_succ, List.set_cons_zero]
            refine wpAnyF_ready [11] 0 (by kernel_rfl) (by kernel_rfl) (by simp) ?_
            refine AllF.cons ?_ ?_
            · refine stepK_store (v := .agg #[.int .i64 a7, .int .i64 b7]) [] [] (by rfl) (by rfl) (by rfl) (by rfl) (by rfl) (by rfl) (fun _ => by go_simp) (by rfl) (by simp [Value.cells, one1]) (.inl hr11) (CB.closed _ _) (fun _ _ h ho => CB.over h ho (by omega)) (by simp) (fun hne => ?_)
              try simp only [Value.cells]
              refine wpAnyF_done (by kernel_rfl) (fun Wz hOz hDz => ?_) _
              exact hcont r11 Wz ⟨hOz, hDz.1, (by omega), hDz.2.head⟩
            exact AllF.nil
          exact AllF.nil
        exact AllF.nil
      exact AllF.nil
    exact AllF.nil
  try dsimp only
  rintro r11 W8 ⟨hO, hk, hr, k11⟩
  clear kc
  have kc := hk
  clear hk
  have nk11 : r11 ≠ c := by omega
  clear kcl k70 k71 k7l k80 k81 k8l
  replace kP := kP.over hO (by simpa using ncP)
  replace kT := kT.over hO (by simpa using ncT)
  replace k7 := k7.over hO (by simpa using nk7)
  replace k8 := k8.over hO (by simpa using nk8)
  replace k9 := k9.over hO (by simpa using nk9)
  replace k10 := k10.over hO (by simpa using nk10)
  replace hB := hB.trans (hO.below1 hcB hs)
  replace hs := hB.size
  clear hO hr
  have k70 : (W8).cell? ⟨r7, 0, none⟩ = some (.int .i64 x1) := k7.cell 0; have k71 : (W8).cell? ⟨r7, 1, none⟩ = some (.int .i64 x2) := k7.cell 1; have k7l : r7 < (W8).heap.size := k7.lt
  have k80 : (W8).cell? ⟨r8, 0, none⟩ = some (.int .i64 y1) := k8.cell 0; have k81 : (W8).cell? ⟨r8, 1, none⟩ = some (.int .i64 y2) := k8.cell 1; have k8l : r8 < (W8).heap.size := k8.lt
  have k90 : (W8).cell? ⟨r9, 0, none⟩ = some (.int .i64 w1) := k9.cell 0; have k91 : (W8).cell? ⟨r9, 1, none⟩ = some (.int .i64 w2) := k9.cell 1; have k9l : r9 < (W8).heap.size := k9.lt
  have kcl := kc.2.2
  go_wp2
  apply region_join1 (fun r12 Wz => Over [c] W8 Wz ∧ (CB c o14) Wz ∧ W8.heap.size ≤ r12 ∧ Blk r12 #[.int .i64 a9, .int .i64 b9] 25 Wz)
  · intro hcont
    refine wp_region_cls [c] (fun _ => false) (fun _ => True) (KD (CB c o10) []) (by kernel_rfl) ⟨(CB.closed _ _) _ _ (kc) ((Below.refl _ _).drew), MemL.nil _⟩ ?_
    apply wpAnyF_hd ⟨W8, Over.refl _ _, kc, MemL.nil _⟩ [true, true, true, true, true, false, true, true, true, false, false, true] 6 (KD.closed (CB.closed _ _) _) (fun _ _ => trivial) (by kernel_rfl) (by kernel_rfl) (by kernel_rfl) (by kernel_rfl) (by simp)
    · intro E hE hEN hEn; (repeat (first | (refine wpHL_take ?_; go_big_quiet_step (fail); refine wpQuiet_nil ?_) | refine wpHL_skip ?_)); exact wpHL_end rfl
    refine wpAnyF_ready [5, 13] 5 (by kernel_rfl) (by kernel_rfl) (by simp) ?_
    refine AllF.cons ?_ ?_
    · refine stepK_call (v := .agg #[.int .i64 a3, .int .i64 b3]) (some 92) (CB c o11) (by rfl) (by rfl) (by rfl) (fun _ => by go_simp) (CB.closed _ _) (fun x hx => by cases hx) (fun w' hC => K11.out c w' hC) (fun hne => ?_)
      simp only [Act.put, List.setIfInBounds_toArray, List.set_cons_succ, List.set_cons_zero]
      refine wpAnyF_ready [9, 13] 4 (by kernel_rfl) (by kernel_rfl) (by simp) ?_
      refine AllF.cons ?_ ?_
      · refine stepK_call (v := .agg #[.int .i64 e2, .int .i64 f2]) (some 96) (CB c o12) (by rfl) (by rfl) (by rfl) (fun _ => by go_simp) (CB.closed _ _) (fun x hx => by cases hx) (fun w' hC => K12.out c w' hC) (fun hne => ?_)
        simp only [Act.put, List.setIfInBounds_toArray, List.set_cons_succ, List.set_cons_zero]
        refine wpAnyF_ready [10, 13] 3 (by kernel_rfl) (by kernel_rfl) (by simp) ?_
        refine AllF.cons ?_ ?_
        · refine stepK_call (v := .agg #[.int .i64 a6, .int .i64 b6]) (some 97) (CB c o13) (by rfl) (by rfl) (by rfl) (fun _ => by go_simp) (CB.closed _ _) (fun x hx => by cases hx) (fun w' hC => K13.out c w' hC) (fun hne => ?_)
          simp only [Act.put, List.setIfInBounds_toArray, List.set_cons_succ, List.set_cons_zero]
          refine wpAnyF_ready [12, 13] 2 (by kernel_rfl) (by kernel_rfl) (by simp) ?_
          refine AllF.cons ?_ ?_
          · refine stepK_call (v := .agg #[.int .i64 a9, .int .i64 b9]) (some 99) (CB c o14) (by rfl) (by rfl) (by rfl) (fun _ => by go_simp) (CB.closed _ _) (fun x hx => by cases hx) (fun w' hC => K14.out c w' hC) (fun hne => ?_)
            simp only [Act.put, List.setIfInBounds_toArray, List.set_cons_succ, List.set_cons_zero]
            refine wpAnyF_ready [13] 1 (by kernel_rfl) (by kernel_rfl) (by simp) ?_
            refine AllF.cons ?_ ?_
            · refine stepK_alloc (zs := #[.int .i64 0, .int .i64 0]) (T := 25) (by rfl) (by rfl) (by rfl) (fun _ => by go_simp) (CB.closed _ _) (fun r12 hr12 hl12 hne => ?_)
              simp only [Act.put, List.setIfInBounds_toArray, List.set_cons_succ, List.set_cons_zero]
              refine wpAnyF_ready [14] 0 (by kernel_rfl) (by kernel_rfl) (by simp) ?_
              refine AllF.cons ?_ ?_
              · refine stepK_store (v := .agg #[.int .i64 a9, .int .i64 b9]) [] [] (by rfl) (by rfl) (by rfl) (by rfl) (by rfl) (by rfl) (fun _ => by go_simp) (by rfl) (by simp [Value.cells, one1]) (.inl hr12) (CB.closed _ _) (fun _ _ h ho => CB.over h ho (by omega)) (by simp) (fun hne => ?_)
                try simp only [Value.cells]
                refine wpAnyF_done (by kernel_rfl) (fun Wz hOz hDz => ?_) _
                exact hcont r12 Wz ⟨hOz, hDz.1, (by omega), hDz.2.head⟩
              exact AllF.nil
            exact AllF.nil
          refine AllF.cons ?_ ?_
          · refine stepK_alloc (zs := #[.int .i64 0, .int .i64 0]) (T := 25) (by rfl) (by rfl) (by rfl) (fun _ => by go_simp) (CB.closed _ _) (fun r12 hr12 hl12 hne => ?_)
            simp only [Act.put, List.setIfInBounds_toArray, List.set_cons_succ, List.set_cons_zero]
            refine wpAnyF_ready [12] 1 (by kernel_rfl) (by kernel_rfl) (by simp) ?_
            refine AllF.cons ?_ ?_
            · refine stepK_call (v := .agg #[.int .i64 a9, .int .i64 b9]) (some 99) (CB c o14) (by rfl) (by rfl) (by rfl) (fun _ => by go_simp) (CB.closed _ _) (by simp; omega) (fun w' hC => K14.out c w' hC) (fun hne => ?_)
              simp only [Act.put, List.setIfInBounds_toArray, List.set_cons_succ, List.set_cons_zero]
              refine wpAnyF_ready [14] 0 (by kernel_rfl) (by kernel_rfl) (by simp) ?_
              refine AllF.cons ?_ ?_
              · refine stepK_store (v := .agg #[.int .i64 a9, .int .i64 b9]) [] [] (by rfl) (by rfl) (by rfl) (by rfl) (by rfl) (by rfl) (fun _ => by go_simp) (by rfl) (by simp [Value.cells, one1]) (.inl hr12) (CB.closed _ _) (fun _ _ h ho => CB.over h ho (by omega)) (by simp) (fun hne => ?_)
                try simp only [Value.cells]
                refine wpAnyF_done (by kernel_rfl) (fun Wz hOz hDz => ?_) _
                exact hcont r12 Wz ⟨hOz, hDz.1, (by omega), hDz.2.head⟩
              exact AllF.nil
            exact AllF.nil
          exact AllF.nil
        refine AllF.cons ?_ ?_
        · refine stepK_alloc (zs := #[.int .i64 0, .int .i64 0]) (T := 25) (by rfl) (by rfl) (by rfl) (fun _ => by go_simp) (CB.closed _ _) (fun r12 hr12 hl12 hne => ?_)
          simp only [Act.put, List.setIfInBounds_toArray, List.set_cons_succ, List.set_cons_zero]
          refine wpAnyF_ready [10] 2 (by kernel_rfl) (by kernel_rfl) (by simp) ?_
          refine AllF.cons ?_ ?_
          · refine stepK_call (v := .agg #[.int .i64 a6, .int .i64 b6]) (some 97) (CB c o13) (by rfl) (by rfl) (by rfl) (fun _ => by go_simp) (CB.closed _ _) (by simp; omega) (fun w' hC => K13.out c w' hC) (fun hne => ?_)
            simp only [Act.put, List.setIfInBounds_toArray, List.set_cons_succ, List.set_cons_zero]
            refine wpAnyF_ready [12] 1 (by kernel_rfl) (by kernel_rfl) (by simp) ?_
            refine AllF.cons ?_ ?_
            · refine stepK_call (v := .agg #[.int .i64 a9, .int .i64 b9]) (some 99) (CB c o14) (by rfl) (by rfl) (by rfl) (fun _ => by go_simp) (CB.closed _ _) (by simp; omega) (fun w' hC => K14.out c w' hC) (fun hne => ?_)
              simp only [Act.put, List.setIfInBounds_toArray, List.set_cons_succ, List.set_cons_zero]
              refine wpAnyF_ready [14] 0 (by kernel_rfl) (by kernel_rfl) (by simp) ?_
              refine AllF.cons ?_ ?_
              · refine stepK_store (v := .agg #[.int .i64 a9, .int .i64 b9]) [] [] (by rfl) (by rfl) (by rfl) (by rfl) (by rfl) (by rfl) (fun _ => by go_simp) (by rfl) (by simp [Value.cells, one1]) (.inl hr12) (CB.closed _ _) (fun _ _ h ho => CB.over h ho (by omega)) (by simp) (fun hne => ?_)
                try simp only [Value.cells]
                refine wpAnyF_done (by kernel_rfl) (fun Wz hOz hDz => ?_) _
                exact hcont r12 Wz ⟨hOz, hDz.1, (by omega), hDz.2.head⟩
              exact AllF.nil
            exact AllF.nil
          exact AllF.nil
        exact AllF.nil
      refine AllF.cons ?_ ?_
      · refine stepK_alloc (zs := #[.int .i64 0, .int .i64 0]) (T := 25) (by rfl) (by rfl) (by rfl) (fun _ => by go_simp) (CB.closed _ _) (fun r12 hr12 hl12 hne => ?_)
        simp only [Act.put, List.setIfInBounds_toArray, List.set_cons_succ, List.set_cons_zero]
        refine wpAnyF_ready [9] 3 (by kernel_rfl) (by kernel_rfl) (by simp) ?_
        refine AllF.cons ?_ ?_
        · refine stepK_call (v := .agg #[.int .i64 e2, .int .i64 f2]) (some 96) (CB c o12) (by rfl) (by rfl) (by rfl) (fun _ => by go_simp) (CB.closed _ _) (by simp; omega) (fun w' hC => K12.out c w' hC) (fun hne => ?_)
          simp only [Act.put, List.setIfInBounds_toArray, List.set_cons_succ, List.set_cons_zero]
          refine wpAnyF_ready [10] 2 (by kernel_rfl) (by kernel_rfl) (by simp) ?_
          refine AllF.cons ?_ ?_
          · refine stepK_call (v := .agg #[.int .i64 a6, .int .i64 b6]) (some 97) (CB c o13) (by rfl) (by rfl) (by rfl) (fun _ => by go_simp) (CB.closed _ _) (by simp; omega) (fun w' hC => K13.out c w' hC) (fun hne => ?_)
            simp only [Act.put, List.setIfInBounds_toArray, List.set_cons_succ, List.set_cons_zero]
            refine wpAnyF_ready [12] 1 (by kernel_rfl) (by kernel_rfl) (by simp) ?_
            refine AllF.cons ?_ ?_
            · refine stepK_call (v := .agg #[.int .i64 a9, .int .i64 b9]) (some 99) (CB c o14) (by rfl) (by rfl) (by rfl) (fun _ => by go_simp) (CB.closed _ _) (by simp; omega) (fun w' hC => K14.out c w' hC) (fun hne => ?_)
              simp only [Act.put, List.setIfInBounds_toArray, List.set_cons_succ, List.set_cons_zero]
              refine wpAnyF_ready [14] 0 (by kernel_rfl) (by kernel_rfl) (by simp) ?_
              refine AllF.cons ?_ ?_
              · refine stepK_store (v := .agg #[.int .i64 a9, .int .i64 b9]) [] [] (by rfl) (by rfl) (by rfl) (by rfl) (by rfl) (by rfl) (fun _ => by go_simp) (by rfl) (by simp [Value.cells, one1]) (.inl hr12) (CB.closed _ _) (fun _ _ h ho => CB.over h ho (by omega)) (by simp) (fun hne => ?_)
                try simp only [Value.cells]
                refine wpAnyF_done (by kernel_rfl) (fun Wz hOz hDz => ?_) _
                exact hcont r12 Wz ⟨hOz, hDz.1, (by omega), hDz.2.head⟩
              exact AllF.nil
            exact AllF.nil
          exact AllF.nil
        exact AllF.nil
      exact AllF.nil
    refine AllF.cons ?_ ?_
    · refine stepK_alloc (zs := #[.int .i64 0, .int .i64 0]) (T := 25) (by rfl) (by rfl) (by rfl) (fun _ => by go_simp) (CB.closed _ _) (fun r12 hr12 hl12 hne => ?_)
      simp only [Act.put, List.setIfInBounds_toArray, List.set_cons_succ, List.set_cons_zero]
      refine wpAnyF_ready [5] 4 (by kernel_rfl) (by kernel_rfl) (by simp) ?_
      refine AllF.cons ?_ ?_
      · refine stepK_call (v := .agg #[.int .i64 a3, .int .i64 b3]) (some 92) (CB c o11) (by rfl) (by rfl) (by rfl) (fun _ => by go_simp) (CB.closed _ _) (by simp; omega) (fun w' hC => K11.out c w' hC) (fun hne => ?_)
        simp only [Act.put, List.setIfInBounds_toArray, List.set_cons_succ, List.set_cons_zero]
        refine wpAnyF_ready [9] 3 (by kernel_rfl) (by kernel_rfl) (by simp) ?_
        refine AllF.cons ?_ ?_
        · refine stepK_call (v := .agg #[.int .i64 e2, .int .i64 f2]) (some 96) (CB c o12) (by rfl) (by rfl) (by rfl) (fun _ => by go_simp) (CB.closed _ _) (by simp; omega) (fun w' hC => K12.out c w' hC) (fun hne => ?_)
          simp only [Act.put, List.setIfInBounds_toArray, List.set_cons_succ, List.set_cons_zero]
          refine wpAnyF_ready [10] 2 (by kernel_rfl) (by kernel_rfl) (by simp) ?_
          refine AllF.cons ?_ ?_
          · refine stepK_call (v := .agg #[.int .i64 a6, .int .i64 b6]) (some 97) (CB c o13) (by rfl) (by rfl) (by rfl) (fun _ => by go_simp) (CB.closed _ _) (by simp; omega) (fun w' hC => K13.out c w' hC) (fun hne => ?_)
            simp only [Act.put, List.setIfInBounds_toArray, List.set_cons_succ, List.set_cons_zero]
            refine wpAnyF_ready [12] 1 (by kernel_rfl) (by kernel_rfl) (by simp) ?_
            refine AllF.cons ?_ ?_
            · refine stepK_call (v := .agg #[.int .i64 a9, .int .i64 b9]) (some 99) (CB c o14) (by rfl) (by rfl) (by rfl) (fun _ => by go_simp) (CB.closed _ _) (by simp; omega) (fun w' hC => K14.out c w' hC) (fun hne => ?_)
              simp only [Act.put, List.setIfInBounds_toArray, List.set_cons_succ, List.set_cons_zero]
              refine wpAnyF_ready [14] 0 (by kernel_rfl) (by kernel_rfl) (by simp) ?_
              refine AllF.cons ?_ ?_
              · refine stepK_store (v := .agg #[.int .i64 a9, .int .i64 b9]) [] [] (by rfl) (by rfl) (by rfl) (by rfl) (by rfl) (by rfl) (fun _ => by go_simp) (by rfl) (by simp [Value.cells, one1]) (.inl hr12) (CB.closed _ _) (fun _ _ h ho => CB.over h ho (by omega)) (by simp) (fun hne => ?_)
                try simp only [Value.cells]
                refine wpAnyF_done (by kernel_rfl) (fun Wz hOz hDz => ?_) _
                exact hcont r12 Wz ⟨hOz, hDz.1, (by omega), hDz.2.head⟩
              exact AllF.nil
            exact AllF.nil
          exact AllF.nil
        exact AllF.nil
      exact AllF.nil
    exact AllF.nil
  try dsimp only
  rintro r12 W9a ⟨hO, hk, hr, k12⟩
  clear kc
  have kc := hk
  clear hk
  have nk12 : r12 ≠ c := by omega
  clear kcl k70 k71 k7l k80 k81 k8l k90 k91 k9l
  replace kP := kP.over hO (by simpa using ncP)
  replace kT := kT.over hO (by simpa using ncT)
  replace k7 := k7.over hO (by simpa using nk7)
  replace k8 := k8.over hO (by simpa using nk8)
  replace k9 := k9.over hO (by simpa using nk9)
  replace k10 := k10.over hO (by simpa using nk10)
  replace k11 := k11.over hO (by simpa using nk11)
  replace hB := hB.trans (hO.below1 hcB hs)
  replace hs := hB.size
  clear hO hr
  have kc0 := kc.1
  have kcl := kc.2.2
  clear K1 K2 K3 K4 K5 K6 K7 K8 K9 K10 K11 K12 K13 K14 H1 H2 k7 k8 k9 kP
  cases o14
  · have kT0 : (W9a).cell? ⟨w.heap.size + 1, 0, none⟩ = some (.int .i64 0) := kT.cell 0; have kT1 : (W9a).cell? ⟨w.heap.size + 1, 1, none⟩ = some (.int .i64 0) := kT.cell 1; have kT2 : (W9a).cell? ⟨w.heap.size + 1, 2, none⟩ = some (.int .i64 0) := kT.cell 2; have kT3 : (W9a).cell? ⟨w.heap.size + 1, 3, none⟩ = some (.int .i64 0) := kT.cell 3; have kT4 : (W9a).cell? ⟨w.heap.size + 1, 4, none⟩ = some (.int .i64 0) := kT.cell 4; have kT5 : (W9a).cell? ⟨w.heap.size + 1, 5, none⟩ = some (.int .i64 0) := kT.cell 5; have kTf0 : (W9a).frozen? ⟨w.heap.size + 1, 0, none⟩ = false := kT.frozen 0; have kTf1 : (W9a).frozen? ⟨w.heap.size + 1, 1, none⟩ = false := kT.frozen 1; have kTf2 : (W9a).frozen? ⟨w.heap.size + 1, 2, none⟩ = false := kT.frozen 2; have kTf3 : (W9a).frozen? ⟨w.heap.size + 1, 3, none⟩ = false := kT.frozen 3; have kTf4 : (W9a).frozen? ⟨w.heap.size + 1, 4, none⟩ = false := kT.frozen 4; have kTf5 : (W9a).frozen? ⟨w.heap.size + 1, 5, none⟩ = false := kT.frozen 5; have kTl : w.heap.size + 1 < (W9a).heap.size := kT.lt
    go_wp2
    have R := ((((((kT.set 0 (.int .i64 0)).set 1 (.int .i64 0)).set 2 (.int .i64 0)).set 3 (.int .i64 0)).set 4 (.int .i64 0)).set 5 (.int .i64 0))
    have hR : Below w.heap.size w ((((((W9a.setCell ⟨w.heap.size + 1, 0, none⟩ (.int .i64 0)).setCell ⟨w.heap.size + 1, 1, none⟩ (.int .i64 0)).setCell ⟨w.heap.size + 1, 2, none⟩ (.int .i64 0)).setCell ⟨w.heap.size + 1, 3, none⟩ (.int .i64 0)).setCell ⟨w.heap.size + 1, 4, none⟩ (.int .i64 0)).setCell ⟨w.heap.size + 1, 5, none⟩ (.int .i64 0)) := by (repeat' (first | (with_reducible exact Below.refl _ _) | (with_reducible refine below_step (by assumption) ?_ ?_) | (with_reducible refine Below.alloc ?_ ?_ _) | (with_reducible refine Below.setCell ?_ ?_ _) | (with_reducible refine below_drewN ?_ _) | (with_reducible refine Below.drew ?_) | omega | (simp; omega) | (simp; done)))
    simp only [List.setIfInBounds_toArray, List.set_cons_zero, List.set_cons_succ] at R
    clear kT kT0 kT1 kT2 kT3 kT4 kT5 kTf0 kTf1 kTf2 kTf3 kTf4 kTf5 kTl
    generalize ((((((W9a.setCell ⟨w.heap.size + 1, 0, none⟩ (.int .i64 0)).setCell ⟨w.heap.size + 1, 1, none⟩ (.int .i64 0)).setCell ⟨w.heap.size + 1, 2, none⟩ (.int .i64 0)).setCell ⟨w.heap.size + 1, 3, none⟩ (.int .i64 0)).setCell ⟨w.heap.size + 1, 4, none⟩ (.int .i64 0)).setCell ⟨w.heap.size + 1, 5, none⟩ (.int .i64 0)) = W9 at R hR ⊢
    have R0 : (W9).cell? ⟨w.heap.size + 1, 0, none⟩ = some (.int .i64 0) := R.cell 0; have R1 : (W9).cell? ⟨w.heap.size + 1, 1, none⟩ = some (.int .i64 0) := R.cell 1; have R2 : (W9).cell? ⟨w.heap.size + 1, 2, none⟩ = some (.int .i64 0) := R.cell 2; have R3 : (W9).cell? ⟨w.heap.size + 1, 3, none⟩ = some (.int .i64 0) := R.cell 3; have R4 : (W9).cell? ⟨w.heap.size + 1, 4, none⟩ = some (.int .i64 0) := R.cell 4; have R5 : (W9).cell? ⟨w.heap.size + 1, 5, none⟩ = some (.int .i64 0) := R.cell 5; have Rl : w.heap.size + 1 < (W9).heap.size := R.lt
    refine bodyPost_ret (v := .tuple #[.agg #[.int .i64 0, .int .i64 0, .int .i64 0, .int .i64 0, .int .i64 0, .int .i64 0], .bool false]) (by simp [results, Try.results7, go_sem, R0, R1, R2, R3, R4, R5]) rfl ?_
    exact tofP_no rfl hR
  have IC := (HO.out rfl)
  obtain ⟨p1, p2, p3, p4, p5, p6, hf⟩ := ordV_form a8 b8 a7 b7 a9 b9
  have HF := Lib.hid hf
  rw [hf] at IC
  have ID := Lib.hid IC
  clear hf IC HO
  have k100 : (W9a).cell? ⟨r10, 0, none⟩ = some (.int .i64 a8) := k10.cell 0; have k101 : (W9a).cell? ⟨r10, 1, none⟩ = some (.int .i64 b8) := k10.cell 1; have k10l : r10 < (W9a).heap.size := k10.lt
  have k110 : (W9a).cell? ⟨r11, 0, none⟩ = some (.int .i64 a7) := k11.cell 0; have k111 : (W9a).cell? ⟨r11, 1, none⟩ = some (.int .i64 b7) := k11.cell 1; have k11l : r11 < (W9a).heap.size := k11.lt
  have k120 : (W9a).cell? ⟨r12, 0, none⟩ = some (.int .i64 a9) := k12.cell 0; have k121 : (W9a).cell? ⟨r12, 1, none⟩ = some (.int .i64 b9) := k12.cell 1; have k12l : r12 < (W9a).heap.size := k12.lt
  go_wp2_with fail
  refine (ID.out _).mono ?_
  rintro e u ⟨rfl, hb⟩
  replace kT := kT.next hb
  replace hB := below_step hb hs hB
  replace hs := hB.size
  clear k100 k101 k10l k110 k111 k11l k120 k121 k12l kc0 kcl kc
  have kT0 : (u).cell? ⟨w.heap.size + 1, 0, none⟩ = some (.int .i64 0) := kT.cell 0; have kT1 : (u).cell? ⟨w.heap.size + 1, 1, none⟩ = some (.int .i64 0) := kT.cell 1; have kT2 : (u).cell? ⟨w.heap.size + 1, 2, none⟩ = some (.int .i64 0) := kT.cell 2; have kT3 : (u).cell? ⟨w.heap.size + 1, 3, none⟩ = some (.int .i64 0) := kT.cell 3; have kT4 : (u).cell? ⟨w.heap.size + 1, 4, none⟩ = some (.int .i64 0) := kT.cell 4; have kT5 : (u).cell? ⟨w.heap.size + 1, 5, none⟩ = some (.int .i64 0) := kT.cell 5; have kTf0 : (u).frozen? ⟨w.heap.size + 1, 0, none⟩ = false := kT.frozen 0; have kTf1 : (u).frozen? ⟨w.heap.size + 1, 1, none⟩ = false := kT.frozen 1; have kTf2 : (u).frozen? ⟨w.heap.size + 1, 2, none⟩ = false := kT.frozen 2; have kTf3 : (u).frozen? ⟨w.heap.size + 1, 3, none⟩ = false := kT.frozen 3; have kTf4 : (u).frozen? ⟨w.heap.size + 1, 4, none⟩ = false := kT.frozen 4; have kTf5 : (u).frozen? ⟨w.heap.size + 1, 5, none⟩ = false := kT.frozen 5; have kTl : w.heap.size + 1 < (u).heap.size := kT.lt
  go_wp2
  have R := ((((((kT.set 0 (.int .i64 p1)).set 1 (.int .i64 p2)).set 2 (.int .i64 p3)).set 3 (.int .i64 p4)).set 4 (.int .i64 p5)).set 5 (.int .i64 p6))
  have hR : Below w.heap.size w ((((((u.setCell ⟨w.heap.size + 1, 0, none⟩ (.int .i64 p1)).setCell ⟨w.heap.size + 1, 1, none⟩ (.int .i64 p2)).setCell ⟨w.heap.size + 1, 2, none⟩ (.int .i64 p3)).setCell ⟨w.heap.size + 1, 3, none⟩ (.int .i64 p4)).setCell ⟨w.heap.size + 1, 4, none⟩ (.int .i64 p5)).setCell ⟨w.heap.size + 1, 5, none⟩ (.int .i64 p6)) := by (repeat' (first | (with_reducible exact Below.refl _ _) | (with_reducible refine below_step (by assumption) ?_ ?_) | (with_reducible refine Below.alloc ?_ ?_ _) | (with_reducible refine Below.setCell ?_ ?_ _) | (with_reducible refine below_drewN ?_ _) | (with_reducible refine Below.drew ?_) | omega | (simp; omega) | (simp; done)))
  simp only [List.setIfInBounds_toArray, List.set_cons_zero, List.set_cons_succ] at R
  clear kT kT0 kT1 kT2 kT3 kT4 kT5 kTf0 kTf1 kTf2 kTf3 kTf4 kTf5 kTl
  generalize ((((((u.setCell ⟨w.heap.size + 1, 0, none⟩ (.int .i64 p1)).setCell ⟨w.heap.size + 1, 1, none⟩ (.int .i64 p2)).setCell ⟨w.heap.size + 1, 2, none⟩ (.int .i64 p3)).setCell ⟨w.heap.size + 1, 3, none⟩ (.int .i64 p4)).setCell ⟨w.heap.size + 1, 4, none⟩ (.int .i64 p5)).setCell ⟨w.heap.size + 1, 5, none⟩ (.int .i64 p6)) = W9 at R hR ⊢
  have R0 : (W9).cell? ⟨w.heap.size + 1, 0, none⟩ = some (.int .i64 p1) := R.cell 0; have R1 : (W9).cell? ⟨w.heap.size + 1, 1, none⟩ = some (.int .i64 p2) := R.cell 1; have R2 : (W9).cell? ⟨w.heap.size + 1, 2, none⟩ = some (.int .i64 p3) := R.cell 2; have R3 : (W9).cell? ⟨w.heap.size + 1, 3, none⟩ = some (.int .i64 p4) := R.cell 3; have R4 : (W9).cell? ⟨w.heap.size + 1, 4, none⟩ = some (.int .i64 p5) := R.cell 4; have R5 : (W9).cell? ⟨w.heap.size + 1, 5, none⟩ = some (.int .i64 p6) := R.cell 5; have Rl : w.heap.size + 1 < (W9).heap.size := R.lt
  refine bodyPost_ret (v := .tuple #[.agg #[.int .i64 p1, .int .i64 p2, .int .i64 p3, .int .i64 p4, .int .i64 p5, .int .i64 p6], .bool true]) (by simp [results, Try.results7, go_sem, R0, R1, R2, R3, R4, R5]) rfl ?_
  exact tofP_yes rfl HF.out hR
end Go.Proofs.Ytcnfjapoopdiaaa

/- PtS -/
namespace Go.Proofs.Ytcnfjapoopdiaaa
open Go.RowKit

set_option maxHeartbeats 4000000 in
theorem c_ptOn (A B X Y E : Int) (hA : -1000 ≤ A ∧ A ≤ 1000) (hB' : -10000 ≤ B ∧ B ≤ 10000) (w : World) :
    Calls Try.prog 28 #[.agg #[.int .i64 A, .int .i64 B], .agg #[.int .i64 X, .int .i64 Y, .int .i64 E]] w fun r w' => r = .returned (.bool (ptF A B X Y E)) ∧ Below w.heap.size w w' := by
  have kC := (Blk.new w #[.int .i64 A, .int .i64 B] 49).alloc (.cells #[.int .i64 X, .int .i64 Y, .int .i64 E] 30)
  have kP := Blk.new (w.alloc (.cells #[.int .i64 A, .int .i64 B] 49)) #[.int .i64 X, .int .i64 Y, .int .i64 E] 30
  have hB : Below w.heap.size w ((w.alloc (.cells #[.int .i64 A, .int .i64 B] 49)).alloc (.cells #[.int .i64 X, .int .i64 Y, .int .i64 E] 30)) := by (repeat' (first | (with_reducible exact Below.refl _ _) | (with_reducible refine below_step (by assumption) ?_ ?_) | (with_reducible refine Below.alloc ?_ ?_ _) | (with_reducible refine Below.setCell ?_ ?_ _) | (with_reducible refine below_drewN ?_ _) | (with_reducible refine Below.drew ?_) | omega | (simp; omega) | (simp; done)))
  simp only [World.size_alloc] at kP
  have HPF : Hid (ptF A B X Y E = ((X == 0 && Y == 0 && E == 0) || finB A B X Y E)) := rfl
  have HFB : Hid (finB A B X Y E = (inB X (-10000) 10000 && inB E 1 20 && (gcdI X E == 1) && inB Y (-3000000) 3000000 && (Y * Y == cvV A B X E))) := rfl
  by_cases hE0 : E = 0
  · subst hE0
    have HF0 : Hid (finB A B X Y 0 = false) := by show _ = _; rw [HFB.out, show inB 0 1 20 = false by decide, Bool.and_false]; rfl
    have HR : Hid (ptF A B X Y 0 = (X == 0 && Y == 0)) := by show _ = _; rw [HPF.out, HF0.out]; simp
    clear HPF HFB HF0
    cases hx : (X == 0) <;> cases hy : (Y == 0)
    all_goals
      rw [hx, hy] at HR
      go_enter Try.func28, Try.ntmps28
      go_wp2
      go_ret
      refine ⟨by rw [HR.out]; rfl, ?_⟩
      (repeat' (first | (with_reducible exact Below.refl _ _) | (with_reducible refine below_step (by assumption) ?_ ?_) | (with_reducible refine Below.alloc ?_ ?_ _) | (with_reducible refine Below.setCell ?_ ?_ _) | (with_reducible refine below_drewN ?_ _) | (with_reducible refine Below.drew ?_) | omega | (simp; omega) | (simp; done)))
  · have hE1 : (E == 0) = false := by simpa using hE0
    have HP : Hid (ptF A B X Y E = finB A B X Y E) := by show _ = _; rw [HPF.out, hE1]; simp
    clear HPF hE0
    have H1 := Lib.hid (fun w => c_l1In X (-10000) 10000 w)
    have H2 := Lib.hid (fun w => c_l1In E 1 20 w)
    have H4 := Lib.hid (fun w => c_l1In Y (-10000000) 10000000 w)
    have HAb : Hid True := trivial
    have HG : Hid True := trivial
    cases h1 : inB X (-10000) 10000
    · have HR : Hid (ptF A B X Y E = false) := by show _ = _; rw [HP.out, HFB.out, h1]; rfl
      rw [h1] at H1
      clear h1 HP HFB
      go_enter Try.func28, Try.ntmps28
      go_wp2
      generalize (w.alloc _).alloc _ = W at *
      have kP0 : (W).cell? ⟨w.heap.size + 1, 0, none⟩ = some (.int .i64 X) := kP.cell 0; have kP1 : (W).cell? ⟨w.heap.size + 1, 1, none⟩ = some (.int .i64 Y) := kP.cell 1; have kP2 : (W).cell? ⟨w.heap.size + 1, 2, none⟩ = some (.int .i64 E) := kP.cell 2; have kPl : w.heap.size + 1 < (W).heap.size := kP.lt
      (refine wp_region_clq (by kernel_rfl) (by kernel_rfl) ?_; (repeat (go_big_quiet_step ((first | (with_reducible (go_at_call 53; exact Calls.quiet_clsS _ (H1.out _))) | (with_reducible (go_at_call 53; exact Calls.quiet_clsS _ (H2.out _))) | (with_reducible (go_at_call 53; exact Calls.quiet_clsS _ (H4.out _))) | (go_at_call 72; exact Calls.quiet_clsS _ (HAb.out _)) | (go_at_call 71; exact Calls.quiet_clsS _ (HG.out _)))))); refine wpQuiet_nil ?_; intro w3 hb3; obtain ⟨hc3, hf3⟩ := bcell hb3; have hz3 := hb3.size; (try simp only [World.size_alloc] at hz3))
      have hb9 := below_step hb3 hB.size hB
      go_wp2
      go_ret
      exact ⟨by rw [HR.out]; rfl, hb9⟩
    · have hx := inB_true h1
      rw [h1] at H1
      cases h2 : inB E 1 20
      · have HR : Hid (ptF A B X Y E = false) := by show _ = _; rw [HP.out, HFB.out, h1, h2]; rfl
        rw [h2] at H2
        clear h1 h2 HP HFB
        go_enter Try.func28, Try.ntmps28
        go_wp2
        generalize (w.alloc _).alloc _ = W at *
        have kP0 : (W).cell? ⟨w.heap.size + 1, 0, none⟩ = some (.int .i64 X) := kP.cell 0; have kP1 : (W).cell? ⟨w.heap.size + 1, 1, none⟩ = some (.int .i64 Y) := kP.cell 1; have kP2 : (W).cell? ⟨w.heap.size + 1, 2, none⟩ = some (.int .i64 E) := kP.cell 2; have kPl : w.heap.size + 1 < (W).heap.size := kP.lt
        (refine wp_region_clq (by kernel_rfl) (by kernel_rfl) ?_; (repeat (go_big_quiet_step ((first | (with_reducible (go_at_call 53; exact Calls.quiet_clsS _ (H1.out _))) | (with_reducible (go_at_call 53; exact Calls.quiet_clsS _ (H2.out _))) | (with_reducible (go_at_call 53; exact Calls.quiet_clsS _ (H4.out _))) | (go_at_call 72; exact Calls.quiet_clsS _ (HAb.out _)) | (go_at_call 71; exact Calls.quiet_clsS _ (HG.out _)))))); refine wpQuiet_nil ?_; intro w3 hb3; obtain ⟨hc3, hf3⟩ := bcell hb3; have hz3 := hb3.size; (try simp only [World.size_alloc] at hz3))
        have hb9 := below_step hb3 hB.size hB
        go_wp2
        go_ret
        exact ⟨by rw [HR.out]; rfl, hb9⟩
      · have he := inB_true h2
        rw [h2] at H2
        have HYS := Lib.hid (y_small (Y := Y) hA hB' hx he)
        cases h4 : inB Y (-10000000) 10000000
        · have HR : Hid (ptF A B X Y E = false) := by
            show _ = _
            have := HYS.out
            rw [h4, Bool.false_and] at this
            rw [HP.out, HFB.out, h1, h2, Bool.and_assoc, ← this, Bool.and_false]
          rw [h4] at H4
          clear h1 h2 h4 HP HFB HYS
          go_enter Try.func28, Try.ntmps28
          go_wp2
          generalize (w.alloc _).alloc _ = W at *
          have kP0 : (W).cell? ⟨w.heap.size + 1, 0, none⟩ = some (.int .i64 X) := kP.cell 0; have kP1 : (W).cell? ⟨w.heap.size + 1, 1, none⟩ = some (.int .i64 Y) := kP.cell 1; have kP2 : (W).cell? ⟨w.heap.size + 1, 2, none⟩ = some (.int .i64 E) := kP.cell 2; have kPl : w.heap.size + 1 < (W).heap.size := kP.lt
          (refine wp_region_clq (by kernel_rfl) (by kernel_rfl) ?_; (repeat (go_big_quiet_step ((first | (with_reducible (go_at_call 53; exact Calls.quiet_clsS _ (H1.out _))) | (with_reducible (go_at_call 53; exact Calls.quiet_clsS _ (H2.out _))) | (with_reducible (go_at_call 53; exact Calls.quiet_clsS _ (H4.out _))) | (go_at_call 72; exact Calls.quiet_clsS _ (HAb.out _)) | (go_at_call 71; exact Calls.quiet_clsS _ (HG.out _)))))); refine wpQuiet_nil ?_; intro w3 hb3; obtain ⟨hc3, hf3⟩ := bcell hb3; have hz3 := hb3.size; (try simp only [World.size_alloc] at hz3))
          have hb9 := below_step hb3 hB.size hB
          go_wp2
          go_ret
          exact ⟨by rw [HR.out]; rfl, hb9⟩
        · have hy := inB_true h4
          rw [h4] at H4
          clear HAb HG
          have HAb := Lib.hid (fun w => c_l1Abs X (by omega) w)
          have hg := fun w => c_bgCommon X.natAbs E (by omega) (by omega) w
          rw [gcdI_absl] at hg
          have HG := Lib.hid hg
          clear hg
          cases h3 : (gcdI X E == 1)
          · have HR : Hid (ptF A B X Y E = false) := by show _ = _; rw [HP.out, HFB.out, h1, h2, h3]; rfl
            have h3' : (gcdI X E != 1) = true := by unfold bne; rw [h3]; rfl
            clear h1 h2 h4 HP HFB HYS
            go_enter Try.func28, Try.ntmps28
            go_wp2
            generalize (w.alloc _).alloc _ = W at *
            have kP0 : (W).cell? ⟨w.heap.size + 1, 0, none⟩ = some (.int .i64 X) := kP.cell 0; have kP1 : (W).cell? ⟨w.heap.size + 1, 1, none⟩ = some (.int .i64 Y) := kP.cell 1; have kP2 : (W).cell? ⟨w.heap.size + 1, 2, none⟩ = some (.int .i64 E) := kP.cell 2; have kPl : w.heap.size + 1 < (W).heap.size := kP.lt
            (refine wp_region_clq (by kernel_rfl) (by kernel_rfl) ?_; (repeat (go_big_quiet_step ((first | (with_reducible (go_at_call 53; exact Calls.quiet_clsS _ (H1.out _))) | (with_reducible (go_at_call 53; exact Calls.quiet_clsS _ (H2.out _))) | (with_reducible (go_at_call 53; exact Calls.quiet_clsS _ (H4.out _))) | (go_at_call 72; exact Calls.quiet_clsS _ (HAb.out _)) | (go_at_call 71; exact Calls.quiet_clsS _ (HG.out _)))))); refine wpQuiet_nil ?_; intro w3 hb3; obtain ⟨hc3, hf3⟩ := bcell hb3; have hz3 := hb3.size; (try simp only [World.size_alloc] at hz3))
            have hb9 := below_step hb3 hB.size hB
            go_wp2
            go_ret
            exact ⟨by rw [HR.out]; rfl, hb9⟩
          · have h3' : (gcdI X E != 1) = false := by unfold bne; rw [h3]; rfl
            have HR : Hid (ptF A B X Y E = (Y * Y == cvV A B X E)) := by
              show _ = _
              have := HYS.out
              rw [h4, Bool.true_and] at this
              rw [HP.out, HFB.out, h1, h2, h3, Bool.and_assoc, ← this]; rfl
            have hyy : 0 ≤ Y * Y ∧ Y * Y ≤ 100000000000000 := ⟨by
              rcases Int.le_total 0 Y with h | h
              · exact Int.mul_nonneg h h
              · have := Int.mul_nonneg (show 0 ≤ -Y by omega) (show 0 ≤ -Y by omega); rw [Int.neg_mul_neg] at this; exact this, by have := mulq (a := 10000000) (b := 10000000) hy hy; omega⟩
            have hwy : IntKind.i64.wrap (Y * Y) = Y * Y := IntWalk.i64_in _ (by omega)
            have HCV := Lib.hid (fun w => c_ptValue A B X E hA hB' hx he w)
            clear h1 h2 h4 HP HFB HYS
            go_enter Try.func28, Try.ntmps28
            go_wp2
            generalize (w.alloc _).alloc _ = W at *
            have kP0 : (W).cell? ⟨w.heap.size + 1, 0, none⟩ = some (.int .i64 X) := kP.cell 0; have kP1 : (W).cell? ⟨w.heap.size + 1, 1, none⟩ = some (.int .i64 Y) := kP.cell 1; have kP2 : (W).cell? ⟨w.heap.size + 1, 2, none⟩ = some (.int .i64 E) := kP.cell 2; have kPl : w.heap.size + 1 < (W).heap.size := kP.lt
            (refine wp_region_clq (by kernel_rfl) (by kernel_rfl) ?_; (repeat (go_big_quiet_step ((first | (with_reducible (go_at_call 53; exact Calls.quiet_clsS _ (H1.out _))) | (with_reducible (go_at_call 53; exact Calls.quiet_clsS _ (H2.out _))) | (with_reducible (go_at_call 53; exact Calls.quiet_clsS _ (H4.out _))) | (go_at_call 72; exact Calls.quiet_clsS _ (HAb.out _)) | (go_at_call 71; exact Calls.quiet_clsS _ (HG.out _)))))); refine wpQuiet_nil ?_; intro w3 hb3; obtain ⟨hc3, hf3⟩ := bcell hb3; have hz3 := hb3.size; (try simp only [World.size_alloc] at hz3))
            have hb9 := below_step hb3 hB.size hB
            have kP2 := kP.next hb3
            have kC2 := kC.next hb3
            clear hb3 hc3 hf3 kP kC hB
            go_wp2
            have kP20 : (w3).cell? ⟨w.heap.size + 1, 0, none⟩ = some (.int .i64 X) := kP2.cell 0; have kP21 : (w3).cell? ⟨w.heap.size + 1, 1, none⟩ = some (.int .i64 Y) := kP2.cell 1; have kP22 : (w3).cell? ⟨w.heap.size + 1, 2, none⟩ = some (.int .i64 E) := kP2.cell 2; have kP2l : w.heap.size + 1 < (w3).heap.size := kP2.lt
            have kC20 : (w3).cell? ⟨w.heap.size, 0, none⟩ = some (.int .i64 A) := kC2.cell 0; have kC21 : (w3).cell? ⟨w.heap.size, 1, none⟩ = some (.int .i64 B) := kC2.cell 1; have kC2l : w.heap.size < (w3).heap.size := kC2.lt
            have hs9 := hb9.size
            (refine wp_region_clq (by kernel_rfl) (by kernel_rfl) ?_; (repeat (go_big_quiet_step ((go_at_call 73; exact Calls.quiet_cls Closed.true _ (HCV.out _))))); refine wpQuiet_nil ?_; intro w5 hb5; obtain ⟨hc5, hf5⟩ := bcell hb5; have hz5 := hb5.size; (try simp only [World.size_alloc] at hz5))
            go_wp2
            go_ret
            exact ⟨by rw [HR.out]; rfl, below_step hb5 hs9 hb9⟩
end Go.Proofs.Ytcnfjapoopdiaaa

/- TofS -/
namespace Go.Proofs.Ytcnfjapoopdiaaa
open Go.RowKit

noncomputable def gtB (n X Y E : Int) : Bool := areaB n && ptF (-n * n) 0 X Y E && !(Y == 0)
theorem tofP_form (a b c d e f : Int) (o : Bool) : ∃ p1 p2 p3 p4 p5 p6 : Int, ∀ w, tofP w a b c d e f o = fun r w' => r = .returned (.tuple #[.agg #[.int .i64 p1, .int .i64 p2, .int .i64 p3, .int .i64 p4, .int .i64 p5, .int .i64 p6], .bool o]) ∧ Below w.heap.size w w' := by
  cases o
  · exact ⟨0, 0, 0, 0, 0, 0, fun w => rfl⟩
  · obtain ⟨p1, p2, p3, p4, p5, p6, hf⟩ := ordV_form a b c d e f
    refine ⟨p1, p2, p3, p4, p5, p6, fun w => ?_⟩
    unfold tofP TriPost
    rw [if_pos rfl, hf]
theorem tofP_of {w w' : World} {a b c d e f : Int} {o : Bool} {r : Ending} {p1 p2 p3 p4 p5 p6 : Int} (h : ∀ w, tofP w a b c d e f o = fun r w' => r = .returned (.tuple #[.agg #[.int .i64 p1, .int .i64 p2, .int .i64 p3, .int .i64 p4, .int .i64 p5, .int .i64 p6], .bool o]) ∧ Below w.heap.size w w') (k : r = .returned (.tuple #[.agg #[.int .i64 p1, .int .i64 p2, .int .i64 p3, .int .i64 p4, .int .i64 p5, .int .i64 p6], .bool o]) ∧ Below w.heap.size w w') : tofP w a b c d e f o r w' := by rw [h]; exact k
set_option maxHeartbeats 2000000 in
set_option maxRecDepth 100000 in
theorem c_sTofNo (n X Y E a b c d e f : Int) (h : gtB n X Y E = false) (w : World) :
    Calls Try.prog 5 #[.int .i64 n, .agg #[.int .i64 X, .int .i64 Y, .int .i64 E]] w (tofP w a b c d e f false) := by
  have HG : Hid (∀ w, _) := fun w => c_cnGood n w
  have kP := (Blk.new w #[.int .i64 X, .int .i64 Y, .int .i64 E] 30).alloc (.cells #[.int .i64 0, .int .i64 0, .int .i64 0, .int .i64 0, .int .i64 0, .int .i64 0] 27)
  have kT := Blk.new (w.alloc (.cells #[.int .i64 X, .int .i64 Y, .int .i64 E] 30)) #[.int .i64 0, .int .i64 0, .int .i64 0, .int .i64 0, .int .i64 0, .int .i64 0] 27
  simp only [World.size_alloc] at kT
  have hB : Below w.heap.size w ((w.alloc (.cells #[.int .i64 X, .int .i64 Y, .int .i64 E] 30)).alloc (.cells #[.int .i64 0, .int .i64 0, .int .i64 0, .int .i64 0, .int .i64 0, .int .i64 0] 27)) := by (repeat' (first | (with_reducible exact Below.refl _ _) | (with_reducible refine below_step (by assumption) ?_ ?_) | (with_reducible refine Below.alloc ?_ ?_ _) | (with_reducible refine Below.setCell ?_ ?_ _) | (with_reducible refine below_drewN ?_ _) | (with_reducible refine Below.drew ?_) | omega | (simp; omega) | (simp; done)))
  have hs := hB.size
  cases ha : areaB n
  · rw [ha] at HG
    clear h ha
    go_enter Try.func5, Try.ntmps5
    go_wp2
    generalize ((w.alloc (.cells #[.int .i64 X, .int .i64 Y, .int .i64 E] 30)).alloc (.cells #[.int .i64 0, .int .i64 0, .int .i64 0, .int .i64 0, .int .i64 0, .int .i64 0] 27)) = W at *
    have kP0 : (W).cell? ⟨w.heap.size, 0, none⟩ = some (.int .i64 X) := kP.cell 0; have kP1 : (W).cell? ⟨w.heap.size, 1, none⟩ = some (.int .i64 Y) := kP.cell 1; have kP2 : (W).cell? ⟨w.heap.size, 2, none⟩ = some (.int .i64 E) := kP.cell 2; have kPl : w.heap.size < (W).heap.size := kP.lt
    (refine wp_region_clq (by kernel_rfl) (by kernel_rfl) ?_; (repeat (go_big_quiet_step ((go_at_call 27; exact Calls.quiet_cls Closed.true _ (HG.out _))))); refine wpQuiet_nil ?_; intro w1 hb1; obtain ⟨hc1, hf1⟩ := bcell hb1; have hz1 := hb1.size; (try simp only [World.size_alloc] at hz1))
    have hb9 := hb1
    clear hb1 hc1 hf1 kP0 kP1 kP2 kPl
    replace kP := kP.next hb9
    replace kT := kT.next hb9
    replace hB := below_step hb9 hs hB
    replace hs := hB.size
    clear hb9
    have kT0 : (w1).cell? ⟨w.heap.size + 1, 0, none⟩ = some (.int .i64 0) := kT.cell 0; have kT1 : (w1).cell? ⟨w.heap.size + 1, 1, none⟩ = some (.int .i64 0) := kT.cell 1; have kT2 : (w1).cell? ⟨w.heap.size + 1, 2, none⟩ = some (.int .i64 0) := kT.cell 2; have kT3 : (w1).cell? ⟨w.heap.size + 1, 3, none⟩ = some (.int .i64 0) := kT.cell 3; have kT4 : (w1).cell? ⟨w.heap.size + 1, 4, none⟩ = some (.int .i64 0) := kT.cell 4; have kT5 : (w1).cell? ⟨w.heap.size + 1, 5, none⟩ = some (.int .i64 0) := kT.cell 5; have kTf0 : (w1).frozen? ⟨w.heap.size + 1, 0, none⟩ = false := kT.frozen 0; have kTf1 : (w1).frozen? ⟨w.heap.size + 1, 1, none⟩ = false := kT.frozen 1; have kTf2 : (w1).frozen? ⟨w.heap.size + 1, 2, none⟩ = false := kT.frozen 2; have kTf3 : (w1).frozen? ⟨w.heap.size + 1, 3, none⟩ = false := kT.frozen 3; have kTf4 : (w1).frozen? ⟨w.heap.size + 1, 4, none⟩ = false := kT.frozen 4; have kTf5 : (w1).frozen? ⟨w.heap.size + 1, 5, none⟩ = false := kT.frozen 5; have kTl : w.heap.size + 1 < (w1).heap.size := kT.lt
    go_wp2
    have R := ((((((kT.set 0 (.int .i64 0)).set 1 (.int .i64 0)).set 2 (.int .i64 0)).set 3 (.int .i64 0)).set 4 (.int .i64 0)).set 5 (.int .i64 0))
    have hR : Below w.heap.size w ((((((w1.setCell ⟨w.heap.size + 1, 0, none⟩ (.int .i64 0)).setCell ⟨w.heap.size + 1, 1, none⟩ (.int .i64 0)).setCell ⟨w.heap.size + 1, 2, none⟩ (.int .i64 0)).setCell ⟨w.heap.size + 1, 3, none⟩ (.int .i64 0)).setCell ⟨w.heap.size + 1, 4, none⟩ (.int .i64 0)).setCell ⟨w.heap.size + 1, 5, none⟩ (.int .i64 0)) := by (repeat' (first | (with_reducible exact Below.refl _ _) | (with_reducible refine below_step (by assumption) ?_ ?_) | (with_reducible refine Below.alloc ?_ ?_ _) | (with_reducible refine Below.setCell ?_ ?_ _) | (with_reducible refine below_drewN ?_ _) | (with_reducible refine Below.drew ?_) | omega | (simp; omega) | (simp; done)))
    simp only [List.setIfInBounds_toArray, List.set_cons_zero, List.set_cons_succ] at R
    clear kT kT0 kT1 kT2 kT3 kT4 kT5 kTf0 kTf1 kTf2 kTf3 kTf4 kTf5 kTl
    generalize ((((((w1.setCell ⟨w.heap.size + 1, 0, none⟩ (.int .i64 0)).setCell ⟨w.heap.size + 1, 1, none⟩ (.int .i64 0)).setCell ⟨w.heap.size + 1, 2, none⟩ (.int .i64 0)).setCell ⟨w.heap.size + 1, 3, none⟩ (.int .i64 0)).setCell ⟨w.heap.size + 1, 4, none⟩ (.int .i64 0)).setCell ⟨w.heap.size + 1, 5, none⟩ (.int .i64 0)) = W9 at R hR ⊢
    have R0 : (W9).cell? ⟨w.heap.size + 1, 0, none⟩ = some (.int .i64 0) := R.cell 0; have R1 : (W9).cell? ⟨w.heap.size + 1, 1, none⟩ = some (.int .i64 0) := R.cell 1; have R2 : (W9).cell? ⟨w.heap.size + 1, 2, none⟩ = some (.int .i64 0) := R.cell 2; have R3 : (W9).cell? ⟨w.heap.size + 1, 3, none⟩ = some (.int .i64 0) := R.cell 3; have R4 : (W9).cell? ⟨w.heap.size + 1, 4, none⟩ = some (.int .i64 0) := R.cell 4; have R5 : (W9).cell? ⟨w.heap.size + 1, 5, none⟩ = some (.int .i64 0) := R.cell 5; have Rl : w.heap.size + 1 < (W9).heap.size := R.lt
    refine bodyPost_ret (v := .tuple #[.agg #[.int .i64 0, .int .i64 0, .int .i64 0, .int .i64 0, .int .i64 0, .int .i64 0], .bool false]) (by simp [results, Try.results5, go_sem, R0, R1, R2, R3, R4, R5]) rfl ?_
    exact tofP_no rfl hR
  · rw [ha] at HG
    have hn := inB_true (by unfold areaB at ha; simp only [Bool.and_eq_true] at ha; exact ha.1 : inB n 1 31 = true)
    have hq := congA_bd hn.1 hn.2
    have HC : Hid (∀ w, _) := fun w => c_cnCurve n hn.1 hn.2 w
    have HI : Hid (∀ w, _) := fun w => c_ptOn (congA n) 0 X Y E (by unfold congA; omega) (by omega) w
    have hg : (ptF (congA n) 0 X Y E && !(Y == 0)) = false := by unfold gtB at h; rw [ha, Bool.true_and] at h; exact h
    clear h ha hq
    cases hp : ptF (congA n) 0 X Y E
    · rw [hp] at HI
      clear hg hp
      generalize congA n = A at *
      go_enter Try.func5, Try.ntmps5
      go_wp2
      generalize ((w.alloc (.cells #[.int .i64 X, .int .i64 Y, .int .i64 E] 30)).alloc (.cells #[.int .i64 0, .int .i64 0, .int .i64 0, .int .i64 0, .int .i64 0, .int .i64 0] 27)) = W at *
      have kP0 : (W).cell? ⟨w.heap.size, 0, none⟩ = some (.int .i64 X) := kP.cell 0; have kP1 : (W).cell? ⟨w.heap.size, 1, none⟩ = some (.int .i64 Y) := kP.cell 1; have kP2 : (W).cell? ⟨w.heap.size, 2, none⟩ = some (.int .i64 E) := kP.cell 2; have kPl : w.heap.size < (W).heap.size := kP.lt
      (refine wp_region_clq (by kernel_rfl) (by kernel_rfl) ?_; (repeat (go_big_quiet_step ((first | (go_at_call 27; exact Calls.quiet_cls Closed.true _ (HG.out _)) | (go_at_call 29; exact Calls.quiet_cls Closed.true _ (HC.out _)) | (go_at_call 28; exact Calls.quiet_cls Closed.true _ (HI.out _)))))); refine wpQuiet_nil ?_; intro w1 hb1; obtain ⟨hc1, hf1⟩ := bcell hb1; have hz1 := hb1.size; (try simp only [World.size_alloc] at hz1))
      have hb9 := hb1
      clear hb1 hc1 hf1 kP0 kP1 kP2 kPl
      replace kP := kP.next hb9
      replace kT := kT.next hb9
      replace hB := below_step hb9 hs hB
      replace hs := hB.size
      clear hb9
      have kT0 : (w1).cell? ⟨w.heap.size + 1, 0, none⟩ = some (.int .i64 0) := kT.cell 0; have kT1 : (w1).cell? ⟨w.heap.size + 1, 1, none⟩ = some (.int .i64 0) := kT.cell 1; have kT2 : (w1).cell? ⟨w.heap.size + 1, 2, none⟩ = some (.int .i64 0) := kT.cell 2; have kT3 : (w1).cell? ⟨w.heap.size + 1, 3, none⟩ = some (.int .i64 0) := kT.cell 3; have kT4 : (w1).cell? ⟨w.heap.size + 1, 4, none⟩ = some (.int .i64 0) := kT.cell 4; have kT5 : (w1).cell? ⟨w.heap.size + 1, 5, none⟩ = some (.int .i64 0) := kT.cell 5; have kTf0 : (w1).frozen? ⟨w.heap.size + 1, 0, none⟩ = false := kT.frozen 0; have kTf1 : (w1).frozen? ⟨w.heap.size + 1, 1, none⟩ = false := kT.frozen 1; have kTf2 : (w1).frozen? ⟨w.heap.size + 1, 2, none⟩ = false := kT.frozen 2; have kTf3 : (w1).frozen? ⟨w.heap.size + 1, 3, none⟩ = false := kT.frozen 3; have kTf4 : (w1).frozen? ⟨w.heap.size + 1, 4, none⟩ = false := kT.frozen 4; have kTf5 : (w1).frozen? ⟨w.heap.size + 1, 5, none⟩ = false := kT.frozen 5; have kTl : w.heap.size + 1 < (w1).heap.size := kT.lt
      go_wp2
      have R := ((((((kT.set 0 (.int .i64 0)).set 1 (.int .i64 0)).set 2 (.int .i64 0)).set 3 (.int .i64 0)).set 4 (.int .i64 0)).set 5 (.int .i64 0))
      have hR : Below w.heap.size w ((((((w1.setCell ⟨w.heap.size + 1, 0, none⟩ (.int .i64 0)).setCell ⟨w.heap.size + 1, 1, none⟩ (.int .i64 0)).setCell ⟨w.heap.size + 1, 2, none⟩ (.int .i64 0)).setCell ⟨w.heap.size + 1, 3, none⟩ (.int .i64 0)).setCell ⟨w.heap.size + 1, 4, none⟩ (.int .i64 0)).setCell ⟨w.heap.size + 1, 5, none⟩ (.int .i64 0)) := by (repeat' (first | (with_reducible exact Below.refl _ _) | (with_reducible refine below_step (by assumption) ?_ ?_) | (with_reducible refine Below.alloc ?_ ?_ _) | (with_reducible refine Below.setCell ?_ ?_ _) | (with_reducible refine below_drewN ?_ _) | (with_reducible refine Below.drew ?_) | omega | (simp; omega) | (simp; done)))
      simp only [List.setIfInBounds_toArray, List.set_cons_zero, List.set_cons_succ] at R
      clear kT kT0 kT1 kT2 kT3 kT4 kT5 kTf0 kTf1 kTf2 kTf3 kTf4 kTf5 kTl
      generalize ((((((w1.setCell ⟨w.heap.size + 1, 0, none⟩ (.int .i64 0)).setCell ⟨w.heap.size + 1, 1, none⟩ (.int .i64 0)).setCell ⟨w.heap.size + 1, 2, none⟩ (.int .i64 0)).setCell ⟨w.heap.size + 1, 3, none⟩ (.int .i64 0)).setCell ⟨w.heap.size + 1, 4, none⟩ (.int .i64 0)).setCell ⟨w.heap.size + 1, 5, none⟩ (.int .i64 0)) = W9 at R hR ⊢
      have R0 : (W9).cell? ⟨w.heap.size + 1, 0, none⟩ = some (.int .i64 0) := R.cell 0; have R1 : (W9).cell? ⟨w.heap.size + 1, 1, none⟩ = some (.int .i64 0) := R.cell 1; have R2 : (W9).cell? ⟨w.heap.size + 1, 2, none⟩ = some (.int .i64 0) := R.cell 2; have R3 : (W9).cell? ⟨w.heap.size + 1, 3, none⟩ = some (.int .i64 0) := R.cell 3; have R4 : (W9).cell? ⟨w.heap.size + 1, 4, none⟩ = some (.int .i64 0) := R.cell 4; have R5 : (W9).cell? ⟨w.heap.size + 1, 5, none⟩ = some (.int .i64 0) := R.cell 5; have Rl : w.heap.size + 1 < (W9).heap.size := R.lt
      refine bodyPost_ret (v := .tuple #[.agg #[.int .i64 0, .int .i64 0, .int .i64 0, .int .i64 0, .int .i64 0, .int .i64 0], .bool false]) (by simp [results, Try.results5, go_sem, R0, R1, R2, R3, R4, R5]) rfl ?_
      exact tofP_no rfl hR
    · rw [hp] at hg HI
      have hY : Y = 0 := by simpa using hg
      subst hY
      clear hg hp
      generalize congA n = A at *
      by_cases hE : E = 0
      · subst hE
        go_enter Try.func5, Try.ntmps5
        go_wp2
        generalize ((w.alloc (.cells #[.int .i64 X, .int .i64 0, .int .i64 0] 30)).alloc (.cells #[.int .i64 0, .int .i64 0, .int .i64 0, .int .i64 0, .int .i64 0, .int .i64 0] 27)) = W at *
        have kP0 : (W).cell? ⟨w.heap.size, 0, none⟩ = some (.int .i64 X) := kP.cell 0; have kP1 : (W).cell? ⟨w.heap.size, 1, none⟩ = some (.int .i64 0) := kP.cell 1; have kP2 : (W).cell? ⟨w.heap.size, 2, none⟩ = some (.int .i64 0) := kP.cell 2; have kPl : w.heap.size < (W).heap.size := kP.lt
        (refine wp_region_clq (by kernel_rfl) (by kernel_rfl) ?_; (repeat (go_big_quiet_step ((first | (go_at_call 27; exact Calls.quiet_cls Closed.true _ (HG.out _)) | (go_at_call 29; exact Calls.quiet_cls Closed.true _ (HC.out _)) | (go_at_call 28; exact Calls.quiet_cls Closed.true _ (HI.out _)))))); refine wpQuiet_nil ?_; intro w1 hb1; obtain ⟨hc1, hf1⟩ := bcell hb1; have hz1 := hb1.size; (try simp only [World.size_alloc] at hz1))
        have hb9 := hb1
        clear hb1 hc1 hf1 kP0 kP1 kP2 kPl
        replace kP := kP.next hb9
        replace kT := kT.next hb9
        replace hB := below_step hb9 hs hB
        replace hs := hB.size
        clear hb9
        have kT0 : (w1).cell? ⟨w.heap.size + 1, 0, none⟩ = some (.int .i64 0) := kT.cell 0; have kT1 : (w1).cell? ⟨w.heap.size + 1, 1, none⟩ = some (.int .i64 0) := kT.cell 1; have kT2 : (w1).cell? ⟨w.heap.size + 1, 2, none⟩ = some (.int .i64 0) := kT.cell 2; have kT3 : (w1).cell? ⟨w.heap.size + 1, 3, none⟩ = some (.int .i64 0) := kT.cell 3; have kT4 : (w1).cell? ⟨w.heap.size + 1, 4, none⟩ = some (.int .i64 0) := kT.cell 4; have kT5 : (w1).cell? ⟨w.heap.size + 1, 5, none⟩ = some (.int .i64 0) := kT.cell 5; have kTf0 : (w1).frozen? ⟨w.heap.size + 1, 0, none⟩ = false := kT.frozen 0; have kTf1 : (w1).frozen? ⟨w.heap.size + 1, 1, none⟩ = false := kT.frozen 1; have kTf2 : (w1).frozen? ⟨w.heap.size + 1, 2, none⟩ = false := kT.frozen 2; have kTf3 : (w1).frozen? ⟨w.heap.size + 1, 3, none⟩ = false := kT.frozen 3; have kTf4 : (w1).frozen? ⟨w.heap.size + 1, 4, none⟩ = false := kT.frozen 4; have kTf5 : (w1).frozen? ⟨w.heap.size + 1, 5, none⟩ = false := kT.frozen 5; have kTl : w.heap.size + 1 < (w1).heap.size := kT.lt
        go_wp2
        have R := ((((((kT.set 0 (.int .i64 0)).set 1 (.int .i64 0)).set 2 (.int .i64 0)).set 3 (.int .i64 0)).set 4 (.int .i64 0)).set 5 (.int .i64 0))
        have hR : Below w.heap.size w ((((((w1.setCell ⟨w.heap.size + 1, 0, none⟩ (.int .i64 0)).setCell ⟨w.heap.size + 1, 1, none⟩ (.int .i64 0)).setCell ⟨w.heap.size + 1, 2, none⟩ (.int .i64 0)).setCell ⟨w.heap.size + 1, 3, none⟩ (.int .i64 0)).setCell ⟨w.heap.size + 1, 4, none⟩ (.int .i64 0)).setCell ⟨w.heap.size + 1, 5, none⟩ (.int .i64 0)) := by (repeat' (first | (with_reducible exact Below.refl _ _) | (with_reducible refine below_step (by assumption) ?_ ?_) | (with_reducible refine Below.alloc ?_ ?_ _) | (with_reducible refine Below.setCell ?_ ?_ _) | (with_reducible refine below_drewN ?_ _) | (with_reducible refine Below.drew ?_) | omega | (simp; omega) | (simp; done)))
        simp only [List.setIfInBounds_toArray, List.set_cons_zero, List.set_cons_succ] at R
        clear kT kT0 kT1 kT2 kT3 kT4 kT5 kTf0 kTf1 kTf2 kTf3 kTf4 kTf5 kTl
        generalize ((((((w1.setCell ⟨w.heap.size + 1, 0, none⟩ (.int .i64 0)).setCell ⟨w.heap.size + 1, 1, none⟩ (.int .i64 0)).setCell ⟨w.heap.size + 1, 2, none⟩ (.int .i64 0)).setCell ⟨w.heap.size + 1, 3, none⟩ (.int .i64 0)).setCell ⟨w.heap.size + 1, 4, none⟩ (.int .i64 0)).setCell ⟨w.heap.size + 1, 5, none⟩ (.int .i64 0)) = W9 at R hR ⊢
        have R0 : (W9).cell? ⟨w.heap.size + 1, 0, none⟩ = some (.int .i64 0) := R.cell 0; have R1 : (W9).cell? ⟨w.heap.size + 1, 1, none⟩ = some (.int .i64 0) := R.cell 1; have R2 : (W9).cell? ⟨w.heap.size + 1, 2, none⟩ = some (.int .i64 0) := R.cell 2; have R3 : (W9).cell? ⟨w.heap.size + 1, 3, none⟩ = some (.int .i64 0) := R.cell 3; have R4 : (W9).cell? ⟨w.heap.size + 1, 4, none⟩ = some (.int .i64 0) := R.cell 4; have R5 : (W9).cell? ⟨w.heap.size + 1, 5, none⟩ = some (.int .i64 0) := R.cell 5; have Rl : w.heap.size + 1 < (W9).heap.size := R.lt
        refine bodyPost_ret (v := .tuple #[.agg #[.int .i64 0, .int .i64 0, .int .i64 0, .int .i64 0, .int .i64 0, .int .i64 0], .bool false]) (by simp [results, Try.results5, go_sem, R0, R1, R2, R3, R4, R5]) rfl ?_
        exact tofP_no rfl hR
      · have hE' : (E == 0) = false := by simpa using hE
        go_enter Try.func5, Try.ntmps5
        go_wp2
        generalize ((w.alloc (.cells #[.int .i64 X, .int .i64 0, .int .i64 E] 30)).alloc (.cells #[.int .i64 0, .int .i64 0, .int .i64 0, .int .i64 0, .int .i64 0, .int .i64 0] 27)) = W at *
        have kP0 : (W).cell? ⟨w.heap.size, 0, none⟩ = some (.int .i64 X) := kP.cell 0; have kP1 : (W).cell? ⟨w.heap.size, 1, none⟩ = some (.int .i64 0) := kP.cell 1; have kP2 : (W).cell? ⟨w.heap.size, 2, none⟩ = some (.int .i64 E) := kP.cell 2; have kPl : w.heap.size < (W).heap.size := kP.lt
        (refine wp_region_clq (by kernel_rfl) (by kernel_rfl) ?_; (repeat (go_big_quiet_step ((first | (go_at_call 27; exact Calls.quiet_cls Closed.true _ (HG.out _)) | (go_at_call 29; exact Calls.quiet_cls Closed.true _ (HC.out _)) | (go_at_call 28; exact Calls.quiet_cls Closed.true _ (HI.out _)))))); refine wpQuiet_nil ?_; intro w1 hb1; obtain ⟨hc1, hf1⟩ := bcell hb1; have hz1 := hb1.size; (try simp only [World.size_alloc] at hz1))
        have hb9 := hb1
        clear hb1 hc1 hf1 kP0 kP1 kP2 kPl
        replace kP := kP.next hb9
        replace kT := kT.next hb9
        replace hB := below_step hb9 hs hB
        replace hs := hB.size
        clear hb9
        have kT0 : (w1).cell? ⟨w.heap.size + 1, 0, none⟩ = some (.int .i64 0) := kT.cell 0; have kT1 : (w1).cell? ⟨w.heap.size + 1, 1, none⟩ = some (.int .i64 0) := kT.cell 1; have kT2 : (w1).cell? ⟨w.heap.size + 1, 2, none⟩ = some (.int .i64 0) := kT.cell 2; have kT3 : (w1).cell? ⟨w.heap.size + 1, 3, none⟩ = some (.int .i64 0) := kT.cell 3; have kT4 : (w1).cell? ⟨w.heap.size + 1, 4, none⟩ = some (.int .i64 0) := kT.cell 4; have kT5 : (w1).cell? ⟨w.heap.size + 1, 5, none⟩ = some (.int .i64 0) := kT.cell 5; have kTf0 : (w1).frozen? ⟨w.heap.size + 1, 0, none⟩ = false := kT.frozen 0; have kTf1 : (w1).frozen? ⟨w.heap.size + 1, 1, none⟩ = false := kT.frozen 1; have kTf2 : (w1).frozen? ⟨w.heap.size + 1, 2, none⟩ = false := kT.frozen 2; have kTf3 : (w1).frozen? ⟨w.heap.size + 1, 3, none⟩ = false := kT.frozen 3; have kTf4 : (w1).frozen? ⟨w.heap.size + 1, 4, none⟩ = false := kT.frozen 4; have kTf5 : (w1).frozen? ⟨w.heap.size + 1, 5, none⟩ = false := kT.frozen 5; have kTl : w.heap.size + 1 < (w1).heap.size := kT.lt
        go_wp2
        have R := ((((((kT.set 0 (.int .i64 0)).set 1 (.int .i64 0)).set 2 (.int .i64 0)).set 3 (.int .i64 0)).set 4 (.int .i64 0)).set 5 (.int .i64 0))
        have hR : Below w.heap.size w ((((((w1.setCell ⟨w.heap.size + 1, 0, none⟩ (.int .i64 0)).setCell ⟨w.heap.size + 1, 1, none⟩ (.int .i64 0)).setCell ⟨w.heap.size + 1, 2, none⟩ (.int .i64 0)).setCell ⟨w.heap.size + 1, 3, none⟩ (.int .i64 0)).setCell ⟨w.heap.size + 1, 4, none⟩ (.int .i64 0)).setCell ⟨w.heap.size + 1, 5, none⟩ (.int .i64 0)) := by (repeat' (first | (with_reducible exact Below.refl _ _) | (with_reducible refine below_step (by assumption) ?_ ?_) | (with_reducible refine Below.alloc ?_ ?_ _) | (with_reducible refine Below.setCell ?_ ?_ _) | (with_reducible refine below_drewN ?_ _) | (with_reducible refine Below.drew ?_) | omega | (simp; omega) | (simp; done)))
        simp only [List.setIfInBounds_toArray, List.set_cons_zero, List.set_cons_succ] at R
        clear kT kT0 kT1 kT2 kT3 kT4 kT5 kTf0 kTf1 kTf2 kTf3 kTf4 kTf5 kTl
        generalize ((((((w1.setCell ⟨w.heap.size + 1, 0, none⟩ (.int .i64 0)).setCell ⟨w.heap.size + 1, 1, none⟩ (.int .i64 0)).setCell ⟨w.heap.size + 1, 2, none⟩ (.int .i64 0)).setCell ⟨w.heap.size + 1, 3, none⟩ (.int .i64 0)).setCell ⟨w.heap.size + 1, 4, none⟩ (.int .i64 0)).setCell ⟨w.heap.size + 1, 5, none⟩ (.int .i64 0)) = W9 at R hR ⊢
        have R0 : (W9).cell? ⟨w.heap.size + 1, 0, none⟩ = some (.int .i64 0) := R.cell 0; have R1 : (W9).cell? ⟨w.heap.size + 1, 1, none⟩ = some (.int .i64 0) := R.cell 1; have R2 : (W9).cell? ⟨w.heap.size + 1, 2, none⟩ = some (.int .i64 0) := R.cell 2; have R3 : (W9).cell? ⟨w.heap.size + 1, 3, none⟩ = some (.int .i64 0) := R.cell 3; have R4 : (W9).cell? ⟨w.heap.size + 1, 4, none⟩ = some (.int .i64 0) := R.cell 4; have R5 : (W9).cell? ⟨w.heap.size + 1, 5, none⟩ = some (.int .i64 0) := R.cell 5; have Rl : w.heap.size + 1 < (W9).heap.size := R.lt
        refine bodyPost_ret (v := .tuple #[.agg #[.int .i64 0, .int .i64 0, .int .i64 0, .int .i64 0, .int .i64 0, .int .i64 0], .bool false]) (by simp [results, Try.results5, go_sem, R0, R1, R2, R3, R4, R5]) rfl ?_
        exact tofP_no rfl hR
set_option maxHeartbeats 2000000 in
set_option maxRecDepth 100000 in
theorem c_sTofMain (n X Y E x1 x2 y1 y2 a b c d e f : Int) (q1 q2 m : Bool) (hn : areaB n = true) (hP : ptF (congA n) 0 X Y E = true) (hY : (Y == 0) = false) (hE : 1 ≤ E ∧ E ≤ 20)
    (H1 : Hid (∀ w : World, Calls Try.prog 30 #[.int .i64 X, .int .i64 (E * E)] w fun r w' => r = .returned (.tuple #[.agg #[.int .i64 x1, .int .i64 x2], .bool q1]) ∧ Below w.heap.size w w'))
    (H2 : Hid (∀ w : World, Calls Try.prog 30 #[.int .i64 Y, .int .i64 (E * E * E)] w fun r w' => r = .returned (.tuple #[.agg #[.int .i64 y1, .int .i64 y2], .bool q2]) ∧ Below w.heap.size w w'))
    (HT : Hid (q1 = true → q2 = true → ∀ w : World, Calls Try.prog 31 #[.int .i64 n, .agg #[.int .i64 x1, .int .i64 x2], .agg #[.int .i64 y1, .int .i64 y2]] w (tofP w a b c d e f m)))
    (w : World) :
    Calls Try.prog 5 #[.int .i64 n, .agg #[.int .i64 X, .int .i64 Y, .int .i64 E]] w (tofP w a b c d e f (q1 && q2 && m)) := by
  have HG : Hid (∀ w, _) := fun w => c_cnGood n w
  rw [hn] at HG
  have hn' := inB_true (by unfold areaB at hn; simp only [Bool.and_eq_true] at hn; exact hn.1 : inB n 1 31 = true)
  have hq := congA_bd hn'.1 hn'.2
  have HC : Hid (∀ w, _) := fun w => c_cnCurve n hn'.1 hn'.2 w
  have HI : Hid (∀ w, _) := fun w => c_ptOn (congA n) 0 X Y E (by unfold congA; omega) (by omega) w
  rw [hP] at HI
  have hE0 : (E == 0) = false := by simp; omega
  have hEE : 1 ≤ E * E ∧ E * E ≤ 400 := ⟨by have := Int.mul_le_mul hE.1 hE.1 (by omega) (by omega); omega, by have := Int.mul_le_mul hE.2 hE.2 (by omega) (by omega); omega⟩
  have hE3 : 1 ≤ E * E * E ∧ E * E * E ≤ 8000 := ⟨by have := Int.mul_le_mul hEE.1 hE.1 (by omega) (by omega); omega, by have := Int.mul_le_mul hEE.2 hE.2 (by omega) (by omega); omega⟩
  have hwE : IntKind.i64.wrap (E * E) = E * E := IntWalk.i64_in _ (by omega)
  have hwF : IntKind.i64.wrap (E * E * E) = E * E * E := IntWalk.i64_in _ (by omega)
  clear hn hP hq hn' hEE hE3 hE
  generalize congA n = A at *
  have kP := (Blk.new w #[.int .i64 X, .int .i64 Y, .int .i64 E] 30).alloc (.cells #[.int .i64 0, .int .i64 0, .int .i64 0, .int .i64 0, .int .i64 0, .int .i64 0] 27)
  have kT := Blk.new (w.alloc (.cells #[.int .i64 X, .int .i64 Y, .int .i64 E] 30)) #[.int .i64 0, .int .i64 0, .int .i64 0, .int .i64 0, .int .i64 0, .int .i64 0] 27
  simp only [World.size_alloc] at kT
  have hB : Below w.heap.size w ((w.alloc (.cells #[.int .i64 X, .int .i64 Y, .int .i64 E] 30)).alloc (.cells #[.int .i64 0, .int .i64 0, .int .i64 0, .int .i64 0, .int .i64 0, .int .i64 0] 27)) := by (repeat' (first | (with_reducible exact Below.refl _ _) | (with_reducible refine below_step (by assumption) ?_ ?_) | (with_reducible refine Below.alloc ?_ ?_ _) | (with_reducible refine Below.setCell ?_ ?_ _) | (with_reducible refine below_drewN ?_ _) | (with_reducible refine Below.drew ?_) | omega | (simp; omega) | (simp; done)))
  have hs := hB.size
  go_enter Try.func5, Try.ntmps5
  go_wp2
  generalize ((w.alloc (.cells #[.int .i64 X, .int .i64 Y, .int .i64 E] 30)).alloc (.cells #[.int .i64 0, .int .i64 0, .int .i64 0, .int .i64 0, .int .i64 0, .int .i64 0] 27)) = W at *
  have kP0 : (W).cell? ⟨w.heap.size, 0, none⟩ = some (.int .i64 X) := kP.cell 0; have kP1 : (W).cell? ⟨w.heap.size, 1, none⟩ = some (.int .i64 Y) := kP.cell 1; have kP2 : (W).cell? ⟨w.heap.size, 2, none⟩ = some (.int .i64 E) := kP.cell 2; have kPl : w.heap.size < (W).heap.size := kP.lt
  (refine wp_region_clq (by kernel_rfl) (by kernel_rfl) ?_; (repeat (go_big_quiet_step ((first | (go_at_call 27; exact Calls.quiet_cls Closed.true _ (HG.out _)) | (go_at_call 29; exact Calls.quiet_cls Closed.true _ (HC.out _)) | (go_at_call 28; exact Calls.quiet_cls Closed.true _ (HI.out _)))))); refine wpQuiet_nil ?_; intro w1 hb1; obtain ⟨hc1, hf1⟩ := bcell hb1; have hz1 := hb1.size; (try simp only [World.size_alloc] at hz1))
  have hb9 := hb1
  clear hb1 hc1 hf1 kP0 kP1 kP2 kPl
  replace kP := kP.next hb9
  replace kT := kT.next hb9
  replace hB := below_step hb9 hs hB
  replace hs := hB.size
  clear hb9
  clear HG HC HI hE0 hY
  have kP0 : (w1).cell? ⟨w.heap.size, 0, none⟩ = some (.int .i64 X) := kP.cell 0; have kP1 : (w1).cell? ⟨w.heap.size, 1, none⟩ = some (.int .i64 Y) := kP.cell 1; have kP2 : (w1).cell? ⟨w.heap.size, 2, none⟩ = some (.int .i64 E) := kP.cell 2; have kPl : w.heap.size < (w1).heap.size := kP.lt
  go_wp2_with fail
  refine (H1.out _).mono ?_
  rintro e u2 ⟨rfl, hb⟩
  clear kP0 kP1 kP2 kPl
  replace kP := kP.next hb
  replace kT := kT.next hb
  replace hB := below_step hb hs hB
  replace hs := hB.size
  clear hb
  replace kP := kP.alloc (.cells #[.int .i64 x1, .int .i64 x2] 25)
  replace kT := kT.alloc (.cells #[.int .i64 x1, .int .i64 x2] 25)
  have k6 := Blk.new u2 #[.int .i64 x1, .int .i64 x2] 25
  replace hB := hB.alloc hs (.cells #[.int .i64 x1, .int .i64 x2] 25)
  replace hs := hB.size
  go_upto_region 4 with (fail)
  generalize u2.alloc _ = W2 at *
  generalize u2.heap.size = r6 at *
  have kP0 : (W2).cell? ⟨w.heap.size, 0, none⟩ = some (.int .i64 X) := kP.cell 0; have kP1 : (W2).cell? ⟨w.heap.size, 1, none⟩ = some (.int .i64 Y) := kP.cell 1; have kP2 : (W2).cell? ⟨w.heap.size, 2, none⟩ = some (.int .i64 E) := kP.cell 2; have kPl : w.heap.size < (W2).heap.size := kP.lt
  go_wp2_with fail
  refine (H2.out _).mono ?_
  rintro e u3 ⟨rfl, hb⟩
  clear kP0 kP1 kP2 kPl
  replace kP := kP.next hb
  replace kT := kT.next hb
  replace k6 := k6.next hb
  replace hB := below_step hb hs hB
  replace hs := hB.size
  clear hb
  replace kP := kP.alloc (.cells #[.int .i64 y1, .int .i64 y2] 25)
  replace kT := kT.alloc (.cells #[.int .i64 y1, .int .i64 y2] 25)
  replace k6 := k6.alloc (.cells #[.int .i64 y1, .int .i64 y2] 25)
  have k8 := Blk.new u3 #[.int .i64 y1, .int .i64 y2] 25
  replace hB := hB.alloc hs (.cells #[.int .i64 y1, .int .i64 y2] 25)
  replace hs := hB.size
  go_upto_region 5 with (fail)
  generalize u3.alloc _ = W3 at *
  generalize u3.heap.size = r8 at *
  clear H1 H2
  cases q1
  · skip
    have kT0 : (W3).cell? ⟨w.heap.size + 1, 0, none⟩ = some (.int .i64 0) := kT.cell 0; have kT1 : (W3).cell? ⟨w.heap.size + 1, 1, none⟩ = some (.int .i64 0) := kT.cell 1; have kT2 : (W3).cell? ⟨w.heap.size + 1, 2, none⟩ = some (.int .i64 0) := kT.cell 2; have kT3 : (W3).cell? ⟨w.heap.size + 1, 3, none⟩ = some (.int .i64 0) := kT.cell 3; have kT4 : (W3).cell? ⟨w.heap.size + 1, 4, none⟩ = some (.int .i64 0) := kT.cell 4; have kT5 : (W3).cell? ⟨w.heap.size + 1, 5, none⟩ = some (.int .i64 0) := kT.cell 5; have kTf0 : (W3).frozen? ⟨w.heap.size + 1, 0, none⟩ = false := kT.frozen 0; have kTf1 : (W3).frozen? ⟨w.heap.size + 1, 1, none⟩ = false := kT.frozen 1; have kTf2 : (W3).frozen? ⟨w.heap.size + 1, 2, none⟩ = false := kT.frozen 2; have kTf3 : (W3).frozen? ⟨w.heap.size + 1, 3, none⟩ = false := kT.frozen 3; have kTf4 : (W3).frozen? ⟨w.heap.size + 1, 4, none⟩ = false := kT.frozen 4; have kTf5 : (W3).frozen? ⟨w.heap.size + 1, 5, none⟩ = false := kT.frozen 5; have kTl : w.heap.size + 1 < (W3).heap.size := kT.lt
    go_wp2
    have R := ((((((kT.set 0 (.int .i64 0)).set 1 (.int .i64 0)).set 2 (.int .i64 0)).set 3 (.int .i64 0)).set 4 (.int .i64 0)).set 5 (.int .i64 0))
    have hR : Below w.heap.size w ((((((W3.setCell ⟨w.heap.size + 1, 0, none⟩ (.int .i64 0)).setCell ⟨w.heap.size + 1, 1, none⟩ (.int .i64 0)).setCell ⟨w.heap.size + 1, 2, none⟩ (.int .i64 0)).setCell ⟨w.heap.size + 1, 3, none⟩ (.int .i64 0)).setCell ⟨w.heap.size + 1, 4, none⟩ (.int .i64 0)).setCell ⟨w.heap.size + 1, 5, none⟩ (.int .i64 0)) := by (repeat' (first | (with_reducible exact Below.refl _ _) | (with_reducible refine below_step (by assumption) ?_ ?_) | (with_reducible refine Below.alloc ?_ ?_ _) | (with_reducible refine Below.setCell ?_ ?_ _) | (with_reducible refine below_drewN ?_ _) | (with_reducible refine Below.drew ?_) | omega | (simp; omega) | (simp; done)))
    simp only [List.setIfInBounds_toArray, List.set_cons_zero, List.set_cons_succ] at R
    clear kT kT0 kT1 kT2 kT3 kT4 kT5 kTf0 kTf1 kTf2 kTf3 kTf4 kTf5 kTl
    generalize ((((((W3.setCell ⟨w.heap.size + 1, 0, none⟩ (.int .i64 0)).setCell ⟨w.heap.size + 1, 1, none⟩ (.int .i64 0)).setCell ⟨w.heap.size + 1, 2, none⟩ (.int .i64 0)).setCell ⟨w.heap.size + 1, 3, none⟩ (.int .i64 0)).setCell ⟨w.heap.size + 1, 4, none⟩ (.int .i64 0)).setCell ⟨w.heap.size + 1, 5, none⟩ (.int .i64 0)) = W9 at R hR ⊢
    have R0 : (W9).cell? ⟨w.heap.size + 1, 0, none⟩ = some (.int .i64 0) := R.cell 0; have R1 : (W9).cell? ⟨w.heap.size + 1, 1, none⟩ = some (.int .i64 0) := R.cell 1; have R2 : (W9).cell? ⟨w.heap.size + 1, 2, none⟩ = some (.int .i64 0) := R.cell 2; have R3 : (W9).cell? ⟨w.heap.size + 1, 3, none⟩ = some (.int .i64 0) := R.cell 3; have R4 : (W9).cell? ⟨w.heap.size + 1, 4, none⟩ = some (.int .i64 0) := R.cell 4; have R5 : (W9).cell? ⟨w.heap.size + 1, 5, none⟩ = some (.int .i64 0) := R.cell 5; have Rl : w.heap.size + 1 < (W9).heap.size := R.lt
    refine bodyPost_ret (v := .tuple #[.agg #[.int .i64 0, .int .i64 0, .int .i64 0, .int .i64 0, .int .i64 0, .int .i64 0], .bool false]) (by simp [results, Try.results5, go_sem, R0, R1, R2, R3, R4, R5]) rfl ?_
    exact tofP_no rfl hR
  cases q2
  · skip
    have kT0 : (W3).cell? ⟨w.heap.size + 1, 0, none⟩ = some (.int .i64 0) := kT.cell 0; have kT1 : (W3).cell? ⟨w.heap.size + 1, 1, none⟩ = some (.int .i64 0) := kT.cell 1; have kT2 : (W3).cell? ⟨w.heap.size + 1, 2, none⟩ = some (.int .i64 0) := kT.cell 2; have kT3 : (W3).cell? ⟨w.heap.size + 1, 3, none⟩ = some (.int .i64 0) := kT.cell 3; have kT4 : (W3).cell? ⟨w.heap.size + 1, 4, none⟩ = some (.int .i64 0) := kT.cell 4; have kT5 : (W3).cell? ⟨w.heap.size + 1, 5, none⟩ = some (.int .i64 0) := kT.cell 5; have kTf0 : (W3).frozen? ⟨w.heap.size + 1, 0, none⟩ = false := kT.frozen 0; have kTf1 : (W3).frozen? ⟨w.heap.size + 1, 1, none⟩ = false := kT.frozen 1; have kTf2 : (W3).frozen? ⟨w.heap.size + 1, 2, none⟩ = false := kT.frozen 2; have kTf3 : (W3).frozen? ⟨w.heap.size + 1, 3, none⟩ = false := kT.frozen 3; have kTf4 : (W3).frozen? ⟨w.heap.size + 1, 4, none⟩ = false := kT.frozen 4; have kTf5 : (W3).frozen? ⟨w.heap.size + 1, 5, none⟩ = false := kT.frozen 5; have kTl : w.heap.size + 1 < (W3).heap.size := kT.lt
    go_wp2
    have R := ((((((kT.set 0 (.int .i64 0)).set 1 (.int .i64 0)).set 2 (.int .i64 0)).set 3 (.int .i64 0)).set 4 (.int .i64 0)).set 5 (.int .i64 0))
    have hR : Below w.heap.size w ((((((W3.setCell ⟨w.heap.size + 1, 0, none⟩ (.int .i64 0)).setCell ⟨w.heap.size + 1, 1, none⟩ (.int .i64 0)).setCell ⟨w.heap.size + 1, 2, none⟩ (.int .i64 0)).setCell ⟨w.heap.size + 1, 3, none⟩ (.int .i64 0)).setCell ⟨w.heap.size + 1, 4, none⟩ (.int .i64 0)).setCell ⟨w.heap.size + 1, 5, none⟩ (.int .i64 0)) := by (repeat' (first | (with_reducible exact Below.refl _ _) | (with_reducible refine below_step (by assumption) ?_ ?_) | (with_reducible refine Below.alloc ?_ ?_ _) | (with_reducible refine Below.setCell ?_ ?_ _) | (with_reducible refine below_drewN ?_ _) | (with_reducible refine Below.drew ?_) | omega | (simp; omega) | (simp; done)))
    simp only [List.setIfInBounds_toArray, List.set_cons_zero, List.set_cons_succ] at R
    clear kT kT0 kT1 kT2 kT3 kT4 kT5 kTf0 kTf1 kTf2 kTf3 kTf4 kTf5 kTl
    generalize ((((((W3.setCell ⟨w.heap.size + 1, 0, none⟩ (.int .i64 0)).setCell ⟨w.heap.size + 1, 1, none⟩ (.int .i64 0)).setCell ⟨w.heap.size + 1, 2, none⟩ (.int .i64 0)).setCell ⟨w.heap.size + 1, 3, none⟩ (.int .i64 0)).setCell ⟨w.heap.size + 1, 4, none⟩ (.int .i64 0)).setCell ⟨w.heap.size + 1, 5, none⟩ (.int .i64 0)) = W9 at R hR ⊢
    have R0 : (W9).cell? ⟨w.heap.size + 1, 0, none⟩ = some (.int .i64 0) := R.cell 0; have R1 : (W9).cell? ⟨w.heap.size + 1, 1, none⟩ = some (.int .i64 0) := R.cell 1; have R2 : (W9).cell? ⟨w.heap.size + 1, 2, none⟩ = some (.int .i64 0) := R.cell 2; have R3 : (W9).cell? ⟨w.heap.size + 1, 3, none⟩ = some (.int .i64 0) := R.cell 3; have R4 : (W9).cell? ⟨w.heap.size + 1, 4, none⟩ = some (.int .i64 0) := R.cell 4; have R5 : (W9).cell? ⟨w.heap.size + 1, 5, none⟩ = some (.int .i64 0) := R.cell 5; have Rl : w.heap.size + 1 < (W9).heap.size := R.lt
    refine bodyPost_ret (v := .tuple #[.agg #[.int .i64 0, .int .i64 0, .int .i64 0, .int .i64 0, .int .i64 0, .int .i64 0], .bool false]) (by simp [results, Try.results5, go_sem, R0, R1, R2, R3, R4, R5]) rfl ?_
    exact tofP_no rfl hR
  have IT := HT.out rfl rfl
  obtain ⟨p1, p2, p3, p4, p5, p6, hf⟩ := tofP_form a b c d e f m
  simp only [hf] at IT
  have HF := Lib.hid hf
  have ID := Lib.hid IT
  clear hf IT HT
  have k60 : (W3).cell? ⟨r6, 0, none⟩ = some (.int .i64 x1) := k6.cell 0; have k61 : (W3).cell? ⟨r6, 1, none⟩ = some (.int .i64 x2) := k6.cell 1; have k6l : r6 < (W3).heap.size := k6.lt
  have k80 : (W3).cell? ⟨r8, 0, none⟩ = some (.int .i64 y1) := k8.cell 0; have k81 : (W3).cell? ⟨r8, 1, none⟩ = some (.int .i64 y2) := k8.cell 1; have k8l : r8 < (W3).heap.size := k8.lt
  go_wp2_with fail
  refine (ID.out _).mono ?_
  rintro e u ⟨rfl, hb⟩
  replace kP := kP.next hb
  replace kT := kT.next hb
  replace k6 := k6.next hb
  replace k8 := k8.next hb
  replace hB := below_step hb hs hB
  replace hs := hB.size
  clear hb k60 k61 k6l k80 k81 k8l
  have kT0 : (u).cell? ⟨w.heap.size + 1, 0, none⟩ = some (.int .i64 0) := kT.cell 0; have kT1 : (u).cell? ⟨w.heap.size + 1, 1, none⟩ = some (.int .i64 0) := kT.cell 1; have kT2 : (u).cell? ⟨w.heap.size + 1, 2, none⟩ = some (.int .i64 0) := kT.cell 2; have kT3 : (u).cell? ⟨w.heap.size + 1, 3, none⟩ = some (.int .i64 0) := kT.cell 3; have kT4 : (u).cell? ⟨w.heap.size + 1, 4, none⟩ = some (.int .i64 0) := kT.cell 4; have kT5 : (u).cell? ⟨w.heap.size + 1, 5, none⟩ = some (.int .i64 0) := kT.cell 5; have kTf0 : (u).frozen? ⟨w.heap.size + 1, 0, none⟩ = false := kT.frozen 0; have kTf1 : (u).frozen? ⟨w.heap.size + 1, 1, none⟩ = false := kT.frozen 1; have kTf2 : (u).frozen? ⟨w.heap.size + 1, 2, none⟩ = false := kT.frozen 2; have kTf3 : (u).frozen? ⟨w.heap.size + 1, 3, none⟩ = false := kT.frozen 3; have kTf4 : (u).frozen? ⟨w.heap.size + 1, 4, none⟩ = false := kT.frozen 4; have kTf5 : (u).frozen? ⟨w.heap.size + 1, 5, none⟩ = false := kT.frozen 5; have kTl : w.heap.size + 1 < (u).heap.size := kT.lt
  go_wp2
  have R := ((((((kT.set 0 (.int .i64 p1)).set 1 (.int .i64 p2)).set 2 (.int .i64 p3)).set 3 (.int .i64 p4)).set 4 (.int .i64 p5)).set 5 (.int .i64 p6))
  have hR : Below w.heap.size w ((((((u.setCell ⟨w.heap.size + 1, 0, none⟩ (.int .i64 p1)).setCell ⟨w.heap.size + 1, 1, none⟩ (.int .i64 p2)).setCell ⟨w.heap.size + 1, 2, none⟩ (.int .i64 p3)).setCell ⟨w.heap.size + 1, 3, none⟩ (.int .i64 p4)).setCell ⟨w.heap.size + 1, 4, none⟩ (.int .i64 p5)).setCell ⟨w.heap.size + 1, 5, none⟩ (.int .i64 p6)) := by (repeat' (first | (with_reducible exact Below.refl _ _) | (with_reducible refine below_step (by assumption) ?_ ?_) | (with_reducible refine Below.alloc ?_ ?_ _) | (with_reducible refine Below.setCell ?_ ?_ _) | (with_reducible refine below_drewN ?_ _) | (with_reducible refine Below.drew ?_) | omega | (simp; omega) | (simp; done)))
  simp only [List.setIfInBounds_toArray, List.set_cons_zero, List.set_cons_succ] at R
  clear kT kT0 kT1 kT2 kT3 kT4 kT5 kTf0 kTf1 kTf2 kTf3 kTf4 kTf5 kTl
  generalize ((((((u.setCell ⟨w.heap.size + 1, 0, none⟩ (.int .i64 p1)).setCell ⟨w.heap.size + 1, 1, none⟩ (.int .i64 p2)).setCell ⟨w.heap.size + 1, 2, none⟩ (.int .i64 p3)).setCell ⟨w.heap.size + 1, 3, none⟩ (.int .i64 p4)).setCell ⟨w.heap.size + 1, 4, none⟩ (.int .i64 p5)).setCell ⟨w.heap.size + 1, 5, none⟩ (.int .i64 p6)) = W9 at R hR ⊢
  have R0 : (W9).cell? ⟨w.heap.size + 1, 0, none⟩ = some (.int .i64 p1) := R.cell 0; have R1 : (W9).cell? ⟨w.heap.size + 1, 1, none⟩ = some (.int .i64 p2) := R.cell 1; have R2 : (W9).cell? ⟨w.heap.size + 1, 2, none⟩ = some (.int .i64 p3) := R.cell 2; have R3 : (W9).cell? ⟨w.heap.size + 1, 3, none⟩ = some (.int .i64 p4) := R.cell 3; have R4 : (W9).cell? ⟨w.heap.size + 1, 4, none⟩ = some (.int .i64 p5) := R.cell 4; have R5 : (W9).cell? ⟨w.heap.size + 1, 5, none⟩ = some (.int .i64 p6) := R.cell 5; have Rl : w.heap.size + 1 < (W9).heap.size := R.lt
  refine bodyPost_ret (v := .tuple #[.agg #[.int .i64 p1, .int .i64 p2, .int .i64 p3, .int .i64 p4, .int .i64 p5, .int .i64 p6], .bool m]) (by simp [results, Try.results5, go_sem, R0, R1, R2, R3, R4, R5]) rfl ?_
  exact tofP_of HF.out ⟨rfl, hR⟩
end Go.Proofs.Ytcnfjapoopdiaaa

/- Stp -/
namespace Go.Proofs.Ytcnfjapoopdiaaa
open Go.RowKit

theorem and_l {a b : Bool} (h : (a && b) = true) : a = true := by simp at h; exact h.1
theorem and_r {a b : Bool} (h : (a && b) = true) : b = true := by simp at h; exact h.2
theorem ks_times (n d m e : Int) (o : Bool) (hA : frOk n d = true) (hB : frOk m e = true) : ∃ (x y : Int) (o' : Bool), Kq 37 [.agg #[.int .i64 n, .int .i64 d], .agg #[.int .i64 m, .int .i64 e]] o x y o' ∧ frOk x y = true ∧ o' = (o && mOk (n * m) (d * e)) ∧ (o' = true → x = mkN (n * m) (d * e) ∧ y = mkD (n * m) (d * e)) :=
  ⟨_, _, _, k_times n d m e o hA hB, fr_if, rfl, fun h => by rw [h]; exact ⟨rfl, rfl⟩⟩
theorem ks_plus (n d m e : Int) (o : Bool) (hA : frOk n d = true) (hB : frOk m e = true) : ∃ (x y : Int) (o' : Bool), Kq 40 [.agg #[.int .i64 n, .int .i64 d], .agg #[.int .i64 m, .int .i64 e]] o x y o' ∧ frOk x y = true ∧ o' = (o && mOk (n * e + m * d) (d * e)) ∧ (o' = true → x = mkN (n * e + m * d) (d * e) ∧ y = mkD (n * e + m * d) (d * e)) :=
  ⟨_, _, _, k_plus n d m e o hA hB, fr_if, rfl, fun h => by rw [h]; exact ⟨rfl, rfl⟩⟩
theorem ks_minus (n d m e : Int) (o : Bool) (hA : frOk n d = true) (hB : frOk m e = true) : ∃ (x y : Int) (o' : Bool), Kq 38 [.agg #[.int .i64 n, .int .i64 d], .agg #[.int .i64 m, .int .i64 e]] o x y o' ∧ frOk x y = true ∧ o' = (o && mOk (n * e - m * d) (d * e)) ∧ (o' = true → x = mkN (n * e - m * d) (d * e) ∧ y = mkD (n * e - m * d) (d * e)) :=
  ⟨_, _, _, k_minus n d m e o hA hB, fr_if, rfl, fun h => by rw [h]; exact ⟨rfl, rfl⟩⟩
theorem ks_over (n d m e : Int) (o : Bool) (hA : frOk n d = true) (hB : frOk m e = true) : ∃ (x y : Int) (o' : Bool), Kq 39 [.agg #[.int .i64 n, .int .i64 d], .agg #[.int .i64 m, .int .i64 e]] o x y o' ∧ frOk x y = true ∧ o' = (o && mOk (n * e) (d * m)) ∧ (o' = true → x = mkN (n * e) (d * m) ∧ y = mkD (n * e) (d * m)) :=
  ⟨_, _, _, k_over n d m e o hA hB, fr_if, rfl, fun h => by rw [h]; exact ⟨rfl, rfl⟩⟩
theorem ks_whole (n : Int) (o : Bool) (h : -1000000000 ≤ n ∧ n ≤ 1000000000) : ∃ (x y : Int), Kq 36 [.int .i64 n] o x y o ∧ frOk x y = true ∧ (o = true → x = n ∧ y = 1) := by
  obtain ⟨m1, m2, m3⟩ := mk_one h
  have k := k_whole n o (by omega)
  rw [m1, m2, m3, Bool.and_true] at k
  refine ⟨_, _, k, ?_, fun h => by rw [h]; exact ⟨rfl, rfl⟩⟩
  have := fr_if (o := o) (n := n) (d := 1)
  rw [m1, m2, m3, Bool.and_true] at this
  exact this
theorem ks_keep (n d : Int) (o ok : Bool) : Kq 34 [.agg #[.int .i64 n, .int .i64 d], .bool ok] o (if o && ok then n else 0) (if o && ok then d else 1) (o && ok) :=
  fun c w ⟨h1, h2, h3⟩ => (c_keep c n d o ok w h1 h2 h3).mono fun _ _ ⟨he, ho, k1, k2⟩ => ⟨he, ho.over, k1, k2, Nat.lt_of_lt_of_le h3 ho.size⟩
theorem ts_frMul (n d m e : Int) (g : Bool) (hA : g = true → frOk n d = true) (hB : g = true → frOk m e = true) : ∃ (x y : Int) (b : Bool), (g = true → Hid (∀ w : World, Calls Try.prog 49 #[.agg #[.int .i64 n, .int .i64 d], .agg #[.int .i64 m, .int .i64 e]] w fun r w' => r = .returned (.tuple #[.agg #[.int .i64 x, .int .i64 y], .bool b]) ∧ Below w.heap.size w w')) ∧ (g = true → b = mOk (n * m) (d * e)) ∧ (g = true → b = true → frOk x y = true ∧ x = mkN (n * m) (d * e) ∧ y = mkD (n * m) (d * e)) ∧ (b = true → g = true) := by
  cases g
  · exact ⟨0, 0, false, fun h => by simp at h, fun h => by simp at h, fun h => by simp at h, fun h => by simp at h⟩
  · exact ⟨_, _, _, fun _ => Lib.hid (c_frMul n d m e (hA rfl) (hB rfl)), fun _ => rfl, fun _ h => by rw [h]; exact ⟨mOk_fr h, rfl, rfl⟩, fun _ => rfl⟩
theorem ts_frAdd (n d m e : Int) (g : Bool) (hA : g = true → frOk n d = true) (hB : g = true → frOk m e = true) : ∃ (x y : Int) (b : Bool), (g = true → Hid (∀ w : World, Calls Try.prog 48 #[.agg #[.int .i64 n, .int .i64 d], .agg #[.int .i64 m, .int .i64 e]] w fun r w' => r = .returned (.tuple #[.agg #[.int .i64 x, .int .i64 y], .bool b]) ∧ Below w.heap.size w w')) ∧ (g = true → b = mOk (n * e + m * d) (d * e)) ∧ (g = true → b = true → frOk x y = true ∧ x = mkN (n * e + m * d) (d * e) ∧ y = mkD (n * e + m * d) (d * e)) ∧ (b = true → g = true) := by
  cases g
  · exact ⟨0, 0, false, fun h => by simp at h, fun h => by simp at h, fun h => by simp at h, fun h => by simp at h⟩
  · exact ⟨_, _, _, fun _ => Lib.hid (c_frAdd n d m e (hA rfl) (hB rfl)), fun _ => rfl, fun _ h => by rw [h]; exact ⟨mOk_fr h, rfl, rfl⟩, fun _ => rfl⟩
theorem ts_frSub (n d m e : Int) (g : Bool) (hA : g = true → frOk n d = true) (hB : g = true → frOk m e = true) : ∃ (x y : Int) (b : Bool), (g = true → Hid (∀ w : World, Calls Try.prog 57 #[.agg #[.int .i64 n, .int .i64 d], .agg #[.int .i64 m, .int .i64 e]] w fun r w' => r = .returned (.tuple #[.agg #[.int .i64 x, .int .i64 y], .bool b]) ∧ Below w.heap.size w w')) ∧ (g = true → b = mOk (n * e - m * d) (d * e)) ∧ (g = true → b = true → frOk x y = true ∧ x = mkN (n * e - m * d) (d * e) ∧ y = mkD (n * e - m * d) (d * e)) ∧ (b = true → g = true) := by
  cases g
  · exact ⟨0, 0, false, fun h => by simp at h, fun h => by simp at h, fun h => by simp at h, fun h => by simp at h⟩
  · exact ⟨_, _, _, fun _ => Lib.hid (c_frSub n d m e (hA rfl) (hB rfl)), fun _ => rfl, fun _ h => by rw [h]; exact ⟨mOk_fr h, rfl, rfl⟩, fun _ => rfl⟩
theorem ts_frDiv (n d m e : Int) (g : Bool) (hA : g = true → frOk n d = true) (hB : g = true → frOk m e = true) : ∃ (x y : Int) (b : Bool), (g = true → Hid (∀ w : World, Calls Try.prog 51 #[.agg #[.int .i64 n, .int .i64 d], .agg #[.int .i64 m, .int .i64 e]] w fun r w' => r = .returned (.tuple #[.agg #[.int .i64 x, .int .i64 y], .bool b]) ∧ Below w.heap.size w w')) ∧ (g = true → b = mOk (n * e) (d * m)) ∧ (g = true → b = true → frOk x y = true ∧ x = mkN (n * e) (d * m) ∧ y = mkD (n * e) (d * m)) ∧ (b = true → g = true) := by
  cases g
  · exact ⟨0, 0, false, fun h => by simp at h, fun h => by simp at h, fun h => by simp at h, fun h => by simp at h⟩
  · exact ⟨_, _, _, fun _ => Lib.hid (c_frDiv n d m e (hA rfl) (hB rfl)), fun _ => rfl, fun _ h => by rw [h]; exact ⟨mOk_fr h, rfl, rfl⟩, fun _ => rfl⟩
end Go.Proofs.Ytcnfjapoopdiaaa

/- TofB -/
namespace Go.Proofs.Ytcnfjapoopdiaaa
open Go.RowKit

theorem tofP_congr {w w1 : World} {a b c d e f a' b' c' d' e' f' : Int} {o o' : Bool} {x : Ending} (ho : o = o') (h : o = true → a = a' ∧ b = b' ∧ c = c' ∧ d = d' ∧ e = e' ∧ f = f') (k : tofP w a b c d e f o x w1) : tofP w a' b' c' d' e' f' o' x w1 := by
  subst ho
  cases o
  · exact k
  · obtain ⟨rfl, rfl, rfl, rfl, rfl, rfl⟩ := h rfl
    exact k
/-- the triangle's sides, without their order and with their signs, by their values -/
def TofV (n X Y E a b c d e f : Int) : Prop := (frOk a b = true ∧ frOk c d = true ∧ frOk e f = true) ∧ ((Y : Rat) / ((E * E * E : Int) : Rat) ≠ 0 ∧ ((E : Rat) ≠ 0)) ∧
  fv a b = ((X : Rat) / ((E * E : Int) : Rat) - (n : Rat)) * (((X : Rat) / ((E * E : Int) : Rat) + (n : Rat)) / ((Y : Rat) / ((E * E * E : Int) : Rat))) ∧
  fv c d = 2 * (n : Rat) * (((X : Rat) / ((E * E : Int) : Rat)) / ((Y : Rat) / ((E * E * E : Int) : Rat))) ∧
  fv e f = (((X : Rat) / ((E * E : Int) : Rat)) * ((X : Rat) / ((E * E : Int) : Rat)) + (n : Rat) * (n : Rat)) / ((Y : Rat) / ((E * E * E : Int) : Rat))
theorem fv_one (n : Int) : fv n 1 = (n : Rat) := by unfold fv; rw [show ((1 : Int) : Rat) = 1 by rfl]; grind
theorem tof_both (n X Y E : Int) (hg : gtB n X Y E = true) : ∃ (a b c d e f : Int) (o : Bool),
    (∀ w : World, Calls Try.prog 5 #[.int .i64 n, .agg #[.int .i64 X, .int .i64 Y, .int .i64 E]] w (tofP w a b c d e f o)) ∧
    (∀ w : World, Calls Try.prog 7 #[.int .i64 n, .agg #[.int .i64 X, .int .i64 Y, .int .i64 E]] w (tofP w a b c d e f o)) ∧ (o = true → TofV n X Y E a b c d e f) := by
  unfold gtB at hg
  simp only [Bool.and_eq_true, Bool.not_eq_true'] at hg
  obtain ⟨⟨hn, hP⟩, hY⟩ := hg
  have hn' := areaB_b2 hn
  have hnn : 1 ≤ n * n ∧ n * n ≤ 961 := ⟨by have := Int.mul_le_mul hn'.1 hn'.1 (by omega) (by omega); omega, by have := Int.mul_le_mul hn'.2 hn'.2 (by omega) (by omega); omega⟩
  have hY0 : Y ≠ 0 := by simpa using hY
  have hf : finB (-n * n) 0 X Y E = true := by
    unfold ptF at hP
    rw [hY, Bool.and_false, Bool.false_and, Bool.false_or] at hP
    exact hP
  unfold finB at hf
  simp only [Bool.and_eq_true] at hf
  have hX := inB_true hf.1.1.1.1
  have hE := inB_true hf.1.1.1.2
  have hYb := inB_true hf.1.2
  clear hf
  have hEE : 1 ≤ E * E ∧ E * E ≤ 400 := ⟨by have := Int.mul_le_mul hE.1 hE.1 (by omega) (by omega); omega, by have := Int.mul_le_mul hE.2 hE.2 (by omega) (by omega); omega⟩
  have hE3 : 1 ≤ E * E * E ∧ E * E * E ≤ 8000 := ⟨by have := Int.mul_le_mul hEE.1 hE.1 (by omega) (by omega); omega, by have := Int.mul_le_mul hEE.2 hE.2 (by omega) (by omega); omega⟩
  have hfn : frOk n 1 = true := by have := mk_one (n := n) (by omega); have h := mOk_fr this.1; rw [this.2.1, this.2.2] at h; exact h
  have hf2 : frOk (2 * n) 1 = true := by have := mk_one (n := 2 * n) (by omega); have h := mOk_fr this.1; rw [this.2.1, this.2.2] at h; exact h
  have hf3 : frOk (n * n) 1 = true := by have := mk_one (n := n * n) (by omega); have h := mOk_fr this.1; rw [this.2.1, this.2.2] at h; exact h
  have hs1 := c_frMake X (E * E) (by omega) (by omega)
  have hs2 := c_frMake Y (E * E * E) (by omega) (by omega)
  have hi1 := c_makeFraction X (E * E) (by omega) (by omega) (by omega)
  have hi2 := c_makeFraction Y (E * E * E) (by omega) (by omega) (by omega)
  have hk1 := ks_keep (rsI (mOk X (E * E)) (mkN X (E * E))) (rsI (mOk X (E * E)) (mkD X (E * E))) true (mOk X (E * E))
  have hk2 := ks_keep (rsI (mOk Y (E * E * E)) (mkN Y (E * E * E))) (rsI (mOk Y (E * E * E)) (mkD Y (E * E * E))) (true && mOk X (E * E)) (mOk Y (E * E * E))
  have f1 : mOk X (E * E) = true → frOk (mkN X (E * E)) (mkD X (E * E)) = true := mOk_fr
  have f2 : mOk Y (E * E * E) = true → frOk (mkN Y (E * E * E)) (mkD Y (E * E * E)) = true := mOk_fr
  have fq1 : mOk X (E * E) = true → fv (mkN X (E * E)) (mkD X (E * E)) = (X : Rat) / ((E * E : Int) : Rat) := fun _ => fv_mk (by omega)
  have fq2 : mOk Y (E * E * E) = true → fv (mkN Y (E * E * E)) (mkD Y (E * E * E)) = (Y : Rat) / ((E * E * E : Int) : Rat) := fun _ => fv_mk (by omega)
  generalize mkN X (E * E) = N1 at *
  generalize mkD X (E * E) = D1 at *
  generalize mOk X (E * E) = q1 at *
  generalize mkN Y (E * E * E) = N2 at *
  generalize mkD Y (E * E * E) = D2 at *
  generalize mOk Y (E * E * E) = q2 at *
  -- the reference's steps
  obtain ⟨x1, hx1⟩ : ∃ x, x = rsI q1 N1 := ⟨_, rfl⟩
  obtain ⟨x2, hx2⟩ : ∃ x, x = rsI q1 D1 := ⟨_, rfl⟩
  obtain ⟨y1, hy1⟩ : ∃ x, x = rsI q2 N2 := ⟨_, rfl⟩
  obtain ⟨y2, hy2⟩ : ∃ x, x = rsI q2 D2 := ⟨_, rfl⟩
  have fx : q1 = true → frOk x1 x2 = true := by intro h; rw [hx1, hx2, h]; exact f1 h
  have fy : q2 = true → frOk y1 y2 = true := by intro h; rw [hy1, hy2, h]; exact f2 h
  rw [← hx1, ← hx2] at hs1 hi1 hk1
  rw [← hy1, ← hy2] at hs2 hi2 hk2
  have fvx : q1 = true → fv x1 x2 = (X : Rat) / ((E * E : Int) : Rat) := by intro h; rw [hx1, hx2, h]; exact fq1 h
  have fvy : q2 = true → fv y1 y2 = (Y : Rat) / ((E * E * E : Int) : Rat) := by intro h; rw [hy1, hy2, h]; exact fq2 h
  clear f1 f2 hx1 hx2 hy1 hy2 fq1 fq2
  obtain ⟨a1, b1, m1, h1, s1, v1, r1⟩ := ts_frSub x1 x2 n 1 q1 (fx) (fun _ => hfn)
  obtain ⟨a2, b2, m2, h2, s2, v2, r2⟩ := ts_frAdd x1 x2 n 1 q1 (fx) (fun _ => hfn)
  obtain ⟨a3, b3, m3, h3, s3, v3, r3⟩ := ts_frMul x1 x2 x1 x2 q1 (fx) (fx)
  obtain ⟨a4, b4, m4, h4, s4, v4, r4⟩ := ts_frDiv x1 x2 y1 y2 (q1 && q2) (fun h => fx (and_l h)) (fun h => fy (and_r h))
  obtain ⟨a5, b5, m5, h5, s5, v5, r5⟩ := ts_frDiv a2 b2 y1 y2 (q1 && m2 && q2) (fun h => (v2 (and_l (and_l h)) (and_r (and_l h))).1) (fun h => fy (and_r h))
  obtain ⟨a6, b6, m6, h6, s6, v6, r6⟩ := ts_frAdd a3 b3 (n * n) 1 (q1 && m3) (fun h => (v3 (and_l h) (and_r h)).1) (fun _ => hf3)
  obtain ⟨a7, b7, m7, h7, s7, v7, r7⟩ := ts_frMul (2 * n) 1 a4 b4 (q1 && q2 && m4) (fun _ => hf2) (fun h => (v4 (and_l h) (and_r h)).1)
  obtain ⟨a8, b8, m8, h8, s8, v8, r8⟩ := ts_frMul a1 b1 a5 b5 (q1 && m1 && (q1 && m2 && q2) && m5) (fun h => (v1 (and_l (and_l (and_l h))) (and_r (and_l (and_l h)))).1) (fun h => (v5 (and_r (and_l h)) (and_r h)).1)
  obtain ⟨a9, b9, m9, h9, s9, v9, r9⟩ := ts_frDiv a6 b6 y1 y2 (q1 && m3 && m6 && q2) (fun h => (v6 (and_l (and_l h)) (and_r (and_l h))).1) (fun h => fy (and_r h))
  -- the program's steps
  obtain ⟨z1, hz1⟩ : ∃ x, x = (if true && q1 then x1 else 0) := ⟨_, rfl⟩
  obtain ⟨z2, hz2⟩ : ∃ x, x = (if true && q1 then x2 else 1) := ⟨_, rfl⟩
  obtain ⟨u1, hu1⟩ : ∃ x, x = (if (true && q1) && q2 then y1 else 0) := ⟨_, rfl⟩
  obtain ⟨u2, hu2⟩ : ∃ x, x = (if (true && q1) && q2 then y2 else 1) := ⟨_, rfl⟩
  have gz : frOk z1 z2 = true := by rw [hz1, hz2]; cases q1; exact (by decide : frOk 0 1 = true); exact fx rfl
  have gu : frOk u1 u2 = true := by rw [hu1, hu2]; cases q1; exact (by decide : frOk 0 1 = true); cases q2; exact (by decide : frOk 0 1 = true); exact fy rfl
  rw [← hz1, ← hz2] at hk1
  rw [← hu1, ← hu2] at hk2
  rw [Bool.true_and] at hk1 hk2 hz1 hz2 hu1 hu2
  obtain ⟨w1, w2, kw, gw, ew⟩ := ks_whole n (q1 && q2) (by omega)
  obtain ⟨A1, B1, o1, k1, g1, e1, t1⟩ := ks_minus z1 z2 w1 w2 (q1 && q2) gz gw
  obtain ⟨A2, B2, o2, k2, g2, e2, t2⟩ := ks_plus z1 z2 w1 w2 o1 gz gw
  obtain ⟨A5, B5, o5, k5, g5, e5, t5⟩ := ks_over A2 B2 u1 u2 o2 g2 gu
  obtain ⟨A8, B8, o8, k8, g8, e8, t8⟩ := ks_times A1 B1 A5 B5 o5 g1 g5
  obtain ⟨c1, c2, kc, gc, ec⟩ := ks_whole (2 * n) o8 (by omega)
  obtain ⟨A4, B4, o4, k4, g4, e4, t4⟩ := ks_over z1 z2 u1 u2 o8 gz gu
  obtain ⟨A7, B7, o7, k7, g7, e7, t7⟩ := ks_times c1 c2 A4 B4 o4 gc g4
  obtain ⟨A3, B3, o3, k3, g3, e3, t3⟩ := ks_times z1 z2 z1 z2 o7 gz gz
  obtain ⟨d1, d2, o10, kd, gd, ed, td⟩ := ks_times w1 w2 w1 w2 o3 gw gw
  obtain ⟨A6, B6, o6, k6, g6, e6, t6⟩ := ks_plus A3 B3 d1 d2 o10 g3 gd
  obtain ⟨A9, B9, o9, k9, g9, e9, t9⟩ := ks_over A6 B6 u1 u2 o6 g6 gu
  have hI := c_iTofMain n X Y E x1 x2 z1 z2 y1 y2 u1 u2 w1 w2 A1 B1 A2 B2 A3 B3 A4 B4 A5 B5 A6 B6 A7 B7 A8 B8 A9 B9 c1 c2 d1 d2 q1 q2 q1 (q1 && q2) (q1 && q2) o1 o2 o5 o8 o8 o4 o7 o3 o10 o6 o9 hn hP hY hE
    (Lib.hid hi1) (Lib.hid hk1) (Lib.hid hi2) (Lib.hid hk2) (Lib.hid kw) (Lib.hid k1) (Lib.hid k2) (Lib.hid k5) (Lib.hid k8) (Lib.hid kc) (Lib.hid k4) (Lib.hid k7) (Lib.hid k3) (Lib.hid kd) (Lib.hid k6) (Lib.hid k9)
    (Lib.hid (fun _ w => c_sortedTriangle A8 B8 A7 B7 A9 B9 g8 g7 g9 w))
  clear k1 k2 k3 k4 k5 k6 k7 k8 k9 kc kd kw hk1 hk2 hi1 hi2
  have hS := c_sTofMain n X Y E x1 x2 y1 y2 a8 b8 a7 b7 a9 b9 q1 q2 (m1 && m2 && m3 && m4 && (m5 && m6 && m7) && (m8 && m9)) hn hP hY hE (Lib.hid hs1) (Lib.hid hs2)
    (Lib.hid (by
      rintro rfl rfl w
      exact c_cnTriangle_of n x1 x2 y1 y2 a1 b1 a2 b2 a3 b3 a4 b4 a5 b5 a6 b6 a7 b7 a8 b8 a9 b9 m1 m2 m3 m4 m5 m6 m7 m8 m9 hn' (h1 rfl) (h2 rfl) (h3 rfl) (h4 rfl) (fun h => h5 (by rw [h]; rfl)) (fun h => h6 (by rw [h]; rfl)) (fun h => h7 (by rw [h]; rfl))
        (fun p1 p5 => h8 (by rw [p1, r5 p5, p5]; rfl))
        (fun p6 => h9 (by rw [r6 p6, p6]; rfl))
        (fun p8 p7 p9 w => c_cnOrder a8 b8 a7 b7 a9 b9 (v8 (r8 p8) p8).1 (v7 (r7 p7) p7).1 (v9 (r9 p9) p9).1 w) w))
  have mo := mk_one (n := n * n) (by omega)
  have key : o9 = (q1 && q2 && (m1 && m2 && m3 && m4 && (m5 && m6 && m7) && (m8 && m9))) ∧ (o9 = true → A8 = a8 ∧ B8 = b8 ∧ A7 = a7 ∧ B7 = b7 ∧ A9 = a9 ∧ B9 = b9) := by
    clear hS hI h1 h2 h3 h4 h5 h6 h7 h8 h9 hs1 hs2 fvx fvy
    cases q1
    · skip
      have ho : o9 = false := by rw [e9, e6, ed, e3, e7, e4, e8, e5, e2, e1]; simp
      rw [ho]; exact ⟨by simp, fun h => by simp at h⟩
    cases q2
    · skip
      have ho : o9 = false := by rw [e9, e6, ed, e3, e7, e4, e8, e5, e2, e1]; simp
      rw [ho]; exact ⟨by simp, fun h => by simp at h⟩
    obtain rfl : z1 = x1 := by simpa using hz1
    obtain rfl : z2 = x2 := by simpa using hz2
    obtain rfl : u1 = y1 := by simpa using hu1
    obtain rfl : u2 = y2 := by simpa using hu2
    obtain ⟨rfl, rfl⟩ := ew rfl
    have y1 := s1 rfl
    simp only [Bool.true_and] at e1
    rw [← y1] at e1
    replace e1 := e1.symm
    subst e1
    cases m1
    · skip
      have ho : o9 = false := by rw [e9, e6, ed, e3, e7, e4, e8, e5, e2]; simp
      rw [ho]; exact ⟨by simp, fun h => by simp at h⟩
    obtain rfl : A1 = a1 := (t1 rfl).1.trans (v1 rfl rfl).2.1.symm
    obtain rfl : B1 = b1 := (t1 rfl).2.trans (v1 rfl rfl).2.2.symm
    have y2 := s2 rfl
    rw [Bool.true_and] at e2
    rw [← y2] at e2
    replace e2 := e2.symm
    subst e2
    cases m2
    · skip
      have ho : o9 = false := by rw [e9, e6, ed, e3, e7, e4, e8, e5]; simp
      rw [ho]; exact ⟨by simp, fun h => by simp at h⟩
    obtain rfl : A2 = a2 := (t2 rfl).1.trans (v2 rfl rfl).2.1.symm
    obtain rfl : B2 = b2 := (t2 rfl).2.trans (v2 rfl rfl).2.2.symm
    have y5 := s5 rfl
    rw [Bool.true_and] at e5
    rw [← y5] at e5
    replace e5 := e5.symm
    subst e5
    cases m5
    · skip
      have ho : o9 = false := by rw [e9, e6, ed, e3, e7, e4, e8]; simp
      rw [ho]; exact ⟨by simp, fun h => by simp at h⟩
    obtain rfl : A5 = a5 := (t5 rfl).1.trans (v5 rfl rfl).2.1.symm
    obtain rfl : B5 = b5 := (t5 rfl).2.trans (v5 rfl rfl).2.2.symm
    have y8 := s8 rfl
    rw [Bool.true_and] at e8
    rw [← y8] at e8
    replace e8 := e8.symm
    subst e8
    cases m8
    · skip
      have ho : o9 = false := by rw [e9, e6, ed, e3, e7, e4]; simp
      rw [ho]; exact ⟨by simp, fun h => by simp at h⟩
    obtain rfl : A8 = a8 := (t8 rfl).1.trans (v8 rfl rfl).2.1.symm
    obtain rfl : B8 = b8 := (t8 rfl).2.trans (v8 rfl rfl).2.2.symm
    obtain ⟨rfl, rfl⟩ := ec rfl
    have y4 := s4 rfl
    rw [Bool.true_and] at e4
    rw [← y4] at e4
    replace e4 := e4.symm
    subst e4
    cases m4
    · skip
      have ho : o9 = false := by rw [e9, e6, ed, e3, e7]; simp
      rw [ho]; exact ⟨by simp, fun h => by simp at h⟩
    obtain rfl : A4 = a4 := (t4 rfl).1.trans (v4 rfl rfl).2.1.symm
    obtain rfl : B4 = b4 := (t4 rfl).2.trans (v4 rfl rfl).2.2.symm
    have y7 := s7 rfl
    rw [Bool.true_and] at e7
    rw [← y7] at e7
    replace e7 := e7.symm
    subst e7
    cases m7
    · skip
      have ho : o9 = false := by rw [e9, e6, ed, e3]; simp
      rw [ho]; exact ⟨by simp, fun h => by simp at h⟩
    obtain rfl : A7 = a7 := (t7 rfl).1.trans (v7 rfl rfl).2.1.symm
    obtain rfl : B7 = b7 := (t7 rfl).2.trans (v7 rfl rfl).2.2.symm
    have y3 := s3 rfl
    rw [Bool.true_and] at e3
    rw [← y3] at e3
    replace e3 := e3.symm
    subst e3
    cases m3
    · skip
      have ho : o9 = false := by rw [e9, e6, ed]; simp
      rw [ho]; exact ⟨by simp, fun h => by simp at h⟩
    obtain rfl : A3 = a3 := (t3 rfl).1.trans (v3 rfl rfl).2.1.symm
    obtain rfl : B3 = b3 := (t3 rfl).2.trans (v3 rfl rfl).2.2.symm
    rw [show (1 : Int) * 1 = 1 from rfl] at ed td
    rw [mo.1, Bool.and_true] at ed
    subst ed
    obtain ⟨rfl, rfl⟩ := td rfl
    rw [mo.2.1, mo.2.2] at e6 t6
    have y6 := s6 rfl
    rw [Bool.true_and] at e6
    rw [← y6] at e6
    replace e6 := e6.symm
    subst e6
    cases m6
    · skip
      have ho : o9 = false := by rw [e9]; simp
      rw [ho]; exact ⟨by simp, fun h => by simp at h⟩
    obtain rfl : A6 = a6 := (t6 rfl).1.trans (v6 rfl rfl).2.1.symm
    obtain rfl : B6 = b6 := (t6 rfl).2.trans (v6 rfl rfl).2.2.symm
    have y9 := s9 rfl
    rw [Bool.true_and] at e9
    rw [← y9] at e9
    replace e9 := e9.symm
    subst e9
    cases m9
    · skip
      exact ⟨by simp, fun h => by simp at h⟩
    obtain rfl : A9 = a9 := (t9 rfl).1.trans (v9 rfl rfl).2.1.symm
    obtain rfl : B9 = b9 := (t9 rfl).2.trans (v9 rfl rfl).2.2.symm
    exact ⟨rfl, fun _ => ⟨rfl, rfl, rfl, rfl, rfl, rfl⟩⟩
  refine ⟨_, _, _, _, _, _, _, hS, fun w => (hI w).mono fun e w1 hk => tofP_congr key.1 key.2 hk, fun ho => ?_⟩
  clear hS hI key h1 h2 h3 h4 h5 h6 h7 h8 h9 hs1 hs2 r1 r2 r3 r4 r5 r6 r7 r8 r9
  simp only [Bool.and_eq_true] at ho
  obtain ⟨⟨rfl, rfl⟩, ⟨⟨⟨⟨rfl, rfl⟩, rfl⟩, rfl⟩, ⟨rfl, rfl⟩, rfl⟩, rfl, rfl⟩ := ho
  obtain ⟨_, i1, j1⟩ := v1 rfl rfl
  obtain ⟨_, i2, j2⟩ := v2 rfl rfl
  obtain ⟨_, i3, j3⟩ := v3 rfl rfl
  obtain ⟨_, i4, j4⟩ := v4 rfl rfl
  obtain ⟨_, i5, j5⟩ := v5 rfl rfl
  obtain ⟨_, i6, j6⟩ := v6 rfl rfl
  obtain ⟨k7, i7, j7⟩ := v7 rfl rfl
  obtain ⟨k8, i8, j8⟩ := v8 rfl rfl
  obtain ⟨k9, i9, j9⟩ := v9 rfl rfl
  have y2 : y2 ≠ 0 := by have := (frOk_of (fy rfl)).1; omega
  have w1 : fv a1 b1 = fv x1 x2 - fv n 1 := by rw [i1, j1]; exact fv_sub (s1 rfl).symm
  have w2 : fv a2 b2 = fv x1 x2 + fv n 1 := by rw [i2, j2]; exact fv_add (s2 rfl).symm
  have w3 : fv a3 b3 = fv x1 x2 * fv x1 x2 := by rw [i3, j3]; exact fv_mul (s3 rfl).symm
  have w4 := fv_div y2 (s4 rfl).symm
  rw [← i4, ← j4] at w4
  have w5 := fv_div y2 (s5 rfl).symm
  rw [← i5, ← j5] at w5
  have w6 : fv a6 b6 = fv a3 b3 + fv (n * n) 1 := by rw [i6, j6]; exact fv_add (s6 rfl).symm
  have w7 : fv a7 b7 = fv (2 * n) 1 * fv a4 b4 := by rw [i7, j7]; exact fv_mul (s7 rfl).symm
  have w8 : fv a8 b8 = fv a1 b1 * fv a5 b5 := by rw [i8, j8]; exact fv_mul (s8 rfl).symm
  have w9 := fv_div y2 (s9 rfl).symm
  rw [← i9, ← j9] at w9
  have hEr := cast_ne (show E ≠ 0 by omega)
  rw [fv_one, Rat.intCast_mul] at w6 w7
  rw [fv_one] at w1 w2
  have z1 := fvx rfl
  have z2 := fvy rfl
  rw [z1] at w1 w2 w3
  rw [z1, z2] at w4
  rw [z2] at w5 w9
  refine ⟨⟨k8, k7, k9⟩, ⟨w4.2, hEr⟩, ?_, ?_, ?_⟩
  · rw [w8, w1, w5.1, w2]
  · rw [w7, w4.1]; rfl
  · rw [w9.1, w6, w3]
end Go.Proofs.Ytcnfjapoopdiaaa

/- ScaT -/
namespace Go.Proofs.Ytcnfjapoopdiaaa
open Go.RowKit

theorem areaB_bd {n : Int} (h : areaB n = true) : 1 ≤ n ∧ n ≤ 31 := by
  unfold areaB at h
  simp only [Bool.and_eq_true] at h
  exact inB_true h.1
theorem scV_form (n u v : Int) : ∃ p q r s t u' : Int, scV n u v = .agg #[.int .i64 p, .int .i64 q, .int .i64 r, .int .i64 s, .int .i64 t, .int .i64 u'] := by
  unfold scV
  split
  · exact ordV_form _ _ _ _ _ _
  · exact ⟨0, 0, 0, 0, 0, 0, rfl⟩
noncomputable def stB (n u v : Int) : Bool := areaB n && inB u 1 100 && inB v 1 (u - 1)
noncomputable def stV (n u v : Int) : Value := if stB n u v then scV n u v else tri0
theorem st_no {w w' : World} {n u v : Int} (h : stB n u v = false) (hb : Below w.heap.size w w') : TriPost w (stV n u v) (stB n u v && scB n u v) (.returned (.tuple #[.agg #[.int .i64 0, .int .i64 0, .int .i64 0, .int .i64 0, .int .i64 0, .int .i64 0], .bool false])) w' := by
  unfold stV; rw [h]; exact ⟨rfl, hb⟩
theorem st_yes {w w' : World} {n u v p1 p2 p3 p4 p5 p6 : Int} {b : Bool} (h : stB n u v = true) (hV : scV n u v = .agg #[.int .i64 p1, .int .i64 p2, .int .i64 p3, .int .i64 p4, .int .i64 p5, .int .i64 p6]) (hb2 : scB n u v = b) (hb : Below w.heap.size w w') : TriPost w (stV n u v) (stB n u v && scB n u v) (.returned (.tuple #[.agg #[.int .i64 p1, .int .i64 p2, .int .i64 p3, .int .i64 p4, .int .i64 p5, .int .i64 p6], .bool b])) w' := by
  unfold stV; rw [h, if_pos rfl, hV, hb2]; exact ⟨rfl, hb⟩
theorem stV_form (n u v : Int) : ∃ p q r s t u' : Int, stV n u v = .agg #[.int .i64 p, .int .i64 q, .int .i64 r, .int .i64 s, .int .i64 t, .int .i64 u'] := by
  unfold stV
  split
  · exact scV_form _ _ _
  · exact ⟨0, 0, 0, 0, 0, 0, rfl⟩
set_option maxHeartbeats 4000000 in
theorem c_sScaled (n u v : Int) (w : World) :
    Calls Try.prog 19 #[.int .i64 n, .int .i64 u, .int .i64 v] w (TriPost w (stV n u v) (stB n u v && scB n u v)) := by
  have HG : Hid (∀ w, _) := fun w => c_cnGood n w
  have H1 : Hid (∀ w, _) := fun w => c_l1In u 1 100 w
  have H2 : Hid (∀ w, _) := fun w => c_l1In v 1 (u - 1) w
  have HD : Hid (stB n u v = (areaB n && inB u 1 100 && inB v 1 (u - 1))) := rfl
  have kT := Blk.new w #[.int .i64 0, .int .i64 0, .int .i64 0, .int .i64 0, .int .i64 0, .int .i64 0] 27
  have hb0 : Below w.heap.size w (w.alloc (.cells #[.int .i64 0, .int .i64 0, .int .i64 0, .int .i64 0, .int .i64 0, .int .i64 0] 27)) := by (repeat' (first | (with_reducible exact Below.refl _ _) | (with_reducible refine below_step (by assumption) ?_ ?_) | (with_reducible refine Below.alloc ?_ ?_ _) | (with_reducible refine Below.setCell ?_ ?_ _) | (with_reducible refine below_drewN ?_ _) | (with_reducible refine Below.drew ?_) | omega | (simp; omega) | (simp; done)))
  cases h1 : areaB n
  · have HE : Hid (stB n u v = false) := by show _ = _; rw [HD.out, h1]; rfl
    rw [h1] at HG
    go_enter Try.func19, Try.ntmps19
    go_wp2_with fail
    (go_at_call 27; refine (HG.out _).mono ?_; rintro e w1 ⟨rfl, hb1⟩; obtain ⟨hc1, hf1⟩ := bcell hb1; have hz1 := hb1.size; (try simp only [World.size_alloc] at hz1); (try (have hy1 : w.heap.size < w1.heap.size := by omega)); (try (have hx1 := Nat.lt_of_succ_le hz1)); (try (have hv1 := Nat.lt_of_succ_le (Nat.le_of_lt hx1))))
    replace kT := kT.next hb1
    have kT0 : (w1).cell? ⟨w.heap.size, 0, none⟩ = some (.int .i64 0) := kT.cell 0; have kT1 : (w1).cell? ⟨w.heap.size, 1, none⟩ = some (.int .i64 0) := kT.cell 1; have kT2 : (w1).cell? ⟨w.heap.size, 2, none⟩ = some (.int .i64 0) := kT.cell 2; have kT3 : (w1).cell? ⟨w.heap.size, 3, none⟩ = some (.int .i64 0) := kT.cell 3; have kT4 : (w1).cell? ⟨w.heap.size, 4, none⟩ = some (.int .i64 0) := kT.cell 4; have kT5 : (w1).cell? ⟨w.heap.size, 5, none⟩ = some (.int .i64 0) := kT.cell 5; have kTf0 : (w1).frozen? ⟨w.heap.size, 0, none⟩ = false := kT.frozen 0; have kTf1 : (w1).frozen? ⟨w.heap.size, 1, none⟩ = false := kT.frozen 1; have kTf2 : (w1).frozen? ⟨w.heap.size, 2, none⟩ = false := kT.frozen 2; have kTf3 : (w1).frozen? ⟨w.heap.size, 3, none⟩ = false := kT.frozen 3; have kTf4 : (w1).frozen? ⟨w.heap.size, 4, none⟩ = false := kT.frozen 4; have kTf5 : (w1).frozen? ⟨w.heap.size, 5, none⟩ = false := kT.frozen 5; have kTl : w.heap.size < (w1).heap.size := kT.lt
    go_wp2
    have R := ((((((kT.set 0 (.int .i64 0)).set 1 (.int .i64 0)).set 2 (.int .i64 0)).set 3 (.int .i64 0)).set 4 (.int .i64 0)).set 5 (.int .i64 0))
    have hR : Below w.heap.size w ((((((w1.setCell ⟨w.heap.size, 0, none⟩ (.int .i64 0)).setCell ⟨w.heap.size, 1, none⟩ (.int .i64 0)).setCell ⟨w.heap.size, 2, none⟩ (.int .i64 0)).setCell ⟨w.heap.size, 3, none⟩ (.int .i64 0)).setCell ⟨w.heap.size, 4, none⟩ (.int .i64 0)).setCell ⟨w.heap.size, 5, none⟩ (.int .i64 0)) := by (repeat' (first | (with_reducible exact Below.refl _ _) | (with_reducible refine below_step (by assumption) ?_ ?_) | (with_reducible refine Below.alloc ?_ ?_ _) | (with_reducible refine Below.setCell ?_ ?_ _) | (with_reducible refine below_drewN ?_ _) | (with_reducible refine Below.drew ?_) | omega | (simp; omega) | (simp; done)))
    simp only [List.setIfInBounds_toArray, List.set_cons_zero, List.set_cons_succ] at R
    clear kT kT0 kT1 kT2 kT3 kT4 kT5 kTf0 kTf1 kTf2 kTf3 kTf4 kTf5 kTl
    generalize ((((((w1.setCell ⟨w.heap.size, 0, none⟩ (.int .i64 0)).setCell ⟨w.heap.size, 1, none⟩ (.int .i64 0)).setCell ⟨w.heap.size, 2, none⟩ (.int .i64 0)).setCell ⟨w.heap.size, 3, none⟩ (.int .i64 0)).setCell ⟨w.heap.size, 4, none⟩ (.int .i64 0)).setCell ⟨w.heap.size, 5, none⟩ (.int .i64 0)) = W9 at R hR ⊢
    have R0 : (W9).cell? ⟨w.heap.size, 0, none⟩ = some (.int .i64 0) := R.cell 0; have R1 : (W9).cell? ⟨w.heap.size, 1, none⟩ = some (.int .i64 0) := R.cell 1; have R2 : (W9).cell? ⟨w.heap.size, 2, none⟩ = some (.int .i64 0) := R.cell 2; have R3 : (W9).cell? ⟨w.heap.size, 3, none⟩ = some (.int .i64 0) := R.cell 3; have R4 : (W9).cell? ⟨w.heap.size, 4, none⟩ = some (.int .i64 0) := R.cell 4; have R5 : (W9).cell? ⟨w.heap.size, 5, none⟩ = some (.int .i64 0) := R.cell 5; have Rl : w.heap.size < (W9).heap.size := R.lt
    refine bodyPost_ret (v := .tuple #[.agg #[.int .i64 0, .int .i64 0, .int .i64 0, .int .i64 0, .int .i64 0, .int .i64 0], .bool false]) (by simp [results, Try.results19, go_sem, R0, R1, R2, R3, R4, R5]) rfl ?_
    exact st_no HE.out hR
  · rw [h1] at HG
    cases h2 : inB u 1 100
    · have HE : Hid (stB n u v = false) := by show _ = _; rw [HD.out, h2, Bool.and_false]; rfl
      rw [h2] at H1
      go_enter Try.func19, Try.ntmps19
      go_wp2_with fail
      (go_at_call 27; refine (HG.out _).mono ?_; rintro e w1 ⟨rfl, hb1⟩; obtain ⟨hc1, hf1⟩ := bcell hb1; have hz1 := hb1.size; (try simp only [World.size_alloc] at hz1); (try (have hy1 : w.heap.size < w1.heap.size := by omega)); (try (have hx1 := Nat.lt_of_succ_le hz1)); (try (have hv1 := Nat.lt_of_succ_le (Nat.le_of_lt hx1))))
      replace kT := kT.next hb1
      have kT0 : (w1).cell? ⟨w.heap.size, 0, none⟩ = some (.int .i64 0) := kT.cell 0; have kT1 : (w1).cell? ⟨w.heap.size, 1, none⟩ = some (.int .i64 0) := kT.cell 1; have kT2 : (w1).cell? ⟨w.heap.size, 2, none⟩ = some (.int .i64 0) := kT.cell 2; have kT3 : (w1).cell? ⟨w.heap.size, 3, none⟩ = some (.int .i64 0) := kT.cell 3; have kT4 : (w1).cell? ⟨w.heap.size, 4, none⟩ = some (.int .i64 0) := kT.cell 4; have kT5 : (w1).cell? ⟨w.heap.size, 5, none⟩ = some (.int .i64 0) := kT.cell 5; have kTf0 : (w1).frozen? ⟨w.heap.size, 0, none⟩ = false := kT.frozen 0; have kTf1 : (w1).frozen? ⟨w.heap.size, 1, none⟩ = false := kT.frozen 1; have kTf2 : (w1).frozen? ⟨w.heap.size, 2, none⟩ = false := kT.frozen 2; have kTf3 : (w1).frozen? ⟨w.heap.size, 3, none⟩ = false := kT.frozen 3; have kTf4 : (w1).frozen? ⟨w.heap.size, 4, none⟩ = false := kT.frozen 4; have kTf5 : (w1).frozen? ⟨w.heap.size, 5, none⟩ = false := kT.frozen 5; have kTl : w.heap.size < (w1).heap.size := kT.lt
      go_wp2_with ((go_at_call 53; refine (H1.out _).mono ?_; rintro e w' ⟨rfl, rfl⟩))
      have R := ((((((kT.set 0 (.int .i64 0)).set 1 (.int .i64 0)).set 2 (.int .i64 0)).set 3 (.int .i64 0)).set 4 (.int .i64 0)).set 5 (.int .i64 0))
      have hR : Below w.heap.size w ((((((w1.setCell ⟨w.heap.size, 0, none⟩ (.int .i64 0)).setCell ⟨w.heap.size, 1, none⟩ (.int .i64 0)).setCell ⟨w.heap.size, 2, none⟩ (.int .i64 0)).setCell ⟨w.heap.size, 3, none⟩ (.int .i64 0)).setCell ⟨w.heap.size, 4, none⟩ (.int .i64 0)).setCell ⟨w.heap.size, 5, none⟩ (.int .i64 0)) := by (repeat' (first | (with_reducible exact Below.refl _ _) | (with_reducible refine below_step (by assumption) ?_ ?_) | (with_reducible refine Below.alloc ?_ ?_ _) | (with_reducible refine Below.setCell ?_ ?_ _) | (with_reducible refine below_drewN ?_ _) | (with_reducible refine Below.drew ?_) | omega | (simp; omega) | (simp; done)))
      simp only [List.setIfInBounds_toArray, List.set_cons_zero, List.set_cons_succ] at R
      clear kT kT0 kT1 kT2 kT3 kT4 kT5 kTf0 kTf1 kTf2 kTf3 kTf4 kTf5 kTl
      generalize ((((((w1.setCell ⟨w.heap.size, 0, none⟩ (.int .i64 0)).setCell ⟨w.heap.size, 1, none⟩ (.int .i64 0)).setCell ⟨w.heap.size, 2, none⟩ (.int .i64 0)).setCell ⟨w.heap.size, 3, none⟩ (.int .i64 0)).setCell ⟨w.heap.size, 4, none⟩ (.int .i64 0)).setCell ⟨w.heap.size, 5, none⟩ (.int .i64 0)) = W9 at R hR ⊢
      have R0 : (W9).cell? ⟨w.heap.size, 0, none⟩ = some (.int .i64 0) := R.cell 0; have R1 : (W9).cell? ⟨w.heap.size, 1, none⟩ = some (.int .i64 0) := R.cell 1; have R2 : (W9).cell? ⟨w.heap.size, 2, none⟩ = some (.int .i64 0) := R.cell 2; have R3 : (W9).cell? ⟨w.heap.size, 3, none⟩ = some (.int .i64 0) := R.cell 3; have R4 : (W9).cell? ⟨w.heap.size, 4, none⟩ = some (.int .i64 0) := R.cell 4; have R5 : (W9).cell? ⟨w.heap.size, 5, none⟩ = some (.int .i64 0) := R.cell 5; have Rl : w.heap.size < (W9).heap.size := R.lt
      refine bodyPost_ret (v := .tuple #[.agg #[.int .i64 0, .int .i64 0, .int .i64 0, .int .i64 0, .int .i64 0, .int .i64 0], .bool false]) (by simp [results, Try.results19, go_sem, R0, R1, R2, R3, R4, R5]) rfl ?_
      exact st_no HE.out hR
    · have hu := inB_true h2
      rw [h2] at H1
      cases h3 : inB v 1 (u - 1)
      · have HE : Hid (stB n u v = false) := by show _ = _; rw [HD.out, h3, Bool.and_false]
        rw [h3] at H2
        go_enter Try.func19, Try.ntmps19
        go_wp2_with fail
        (go_at_call 27; refine (HG.out _).mono ?_; rintro e w1 ⟨rfl, hb1⟩; obtain ⟨hc1, hf1⟩ := bcell hb1; have hz1 := hb1.size; (try simp only [World.size_alloc] at hz1); (try (have hy1 : w.heap.size < w1.heap.size := by omega)); (try (have hx1 := Nat.lt_of_succ_le hz1)); (try (have hv1 := Nat.lt_of_succ_le (Nat.le_of_lt hx1))))
        replace kT := kT.next hb1
        have kT0 : (w1).cell? ⟨w.heap.size, 0, none⟩ = some (.int .i64 0) := kT.cell 0; have kT1 : (w1).cell? ⟨w.heap.size, 1, none⟩ = some (.int .i64 0) := kT.cell 1; have kT2 : (w1).cell? ⟨w.heap.size, 2, none⟩ = some (.int .i64 0) := kT.cell 2; have kT3 : (w1).cell? ⟨w.heap.size, 3, none⟩ = some (.int .i64 0) := kT.cell 3; have kT4 : (w1).cell? ⟨w.heap.size, 4, none⟩ = some (.int .i64 0) := kT.cell 4; have kT5 : (w1).cell? ⟨w.heap.size, 5, none⟩ = some (.int .i64 0) := kT.cell 5; have kTf0 : (w1).frozen? ⟨w.heap.size, 0, none⟩ = false := kT.frozen 0; have kTf1 : (w1).frozen? ⟨w.heap.size, 1, none⟩ = false := kT.frozen 1; have kTf2 : (w1).frozen? ⟨w.heap.size, 2, none⟩ = false := kT.frozen 2; have kTf3 : (w1).frozen? ⟨w.heap.size, 3, none⟩ = false := kT.frozen 3; have kTf4 : (w1).frozen? ⟨w.heap.size, 4, none⟩ = false := kT.frozen 4; have kTf5 : (w1).frozen? ⟨w.heap.size, 5, none⟩ = false := kT.frozen 5; have kTl : w.heap.size < (w1).heap.size := kT.lt
        go_wp2_with fail
        refine (H1.out _).mono ?_
        rintro e w' ⟨rfl, rfl⟩
        go_wp2_with fail
        refine (H2.out _).mono ?_
        rintro e w' ⟨rfl, rfl⟩
        go_wp2
        have R := ((((((kT.set 0 (.int .i64 0)).set 1 (.int .i64 0)).set 2 (.int .i64 0)).set 3 (.int .i64 0)).set 4 (.int .i64 0)).set 5 (.int .i64 0))
        have hR : Below w.heap.size w ((((((w1.setCell ⟨w.heap.size, 0, none⟩ (.int .i64 0)).setCell ⟨w.heap.size, 1, none⟩ (.int .i64 0)).setCell ⟨w.heap.size, 2, none⟩ (.int .i64 0)).setCell ⟨w.heap.size, 3, none⟩ (.int .i64 0)).setCell ⟨w.heap.size, 4, none⟩ (.int .i64 0)).setCell ⟨w.heap.size, 5, none⟩ (.int .i64 0)) := by (repeat' (first | (with_reducible exact Below.refl _ _) | (with_reducible refine below_step (by assumption) ?_ ?_) | (with_reducible refine Below.alloc ?_ ?_ _) | (with_reducible refine Below.setCell ?_ ?_ _) | (with_reducible refine below_drewN ?_ _) | (with_reducible refine Below.drew ?_) | omega | (simp; omega) | (simp; done)))
        simp only [List.setIfInBounds_toArray, List.set_cons_zero, List.set_cons_succ] at R
        clear kT kT0 kT1 kT2 kT3 kT4 kT5 kTf0 kTf1 kTf2 kTf3 kTf4 kTf5 kTl
        generalize ((((((w1.setCell ⟨w.heap.size, 0, none⟩ (.int .i64 0)).setCell ⟨w.heap.size, 1, none⟩ (.int .i64 0)).setCell ⟨w.heap.size, 2, none⟩ (.int .i64 0)).setCell ⟨w.heap.size, 3, none⟩ (.int .i64 0)).setCell ⟨w.heap.size, 4, none⟩ (.int .i64 0)).setCell ⟨w.heap.size, 5, none⟩ (.int .i64 0)) = W9 at R hR ⊢
        have R0 : (W9).cell? ⟨w.heap.size, 0, none⟩ = some (.int .i64 0) := R.cell 0; have R1 : (W9).cell? ⟨w.heap.size, 1, none⟩ = some (.int .i64 0) := R.cell 1; have R2 : (W9).cell? ⟨w.heap.size, 2, none⟩ = some (.int .i64 0) := R.cell 2; have R3 : (W9).cell? ⟨w.heap.size, 3, none⟩ = some (.int .i64 0) := R.cell 3; have R4 : (W9).cell? ⟨w.heap.size, 4, none⟩ = some (.int .i64 0) := R.cell 4; have R5 : (W9).cell? ⟨w.heap.size, 5, none⟩ = some (.int .i64 0) := R.cell 5; have Rl : w.heap.size < (W9).heap.size := R.lt
        refine bodyPost_ret (v := .tuple #[.agg #[.int .i64 0, .int .i64 0, .int .i64 0, .int .i64 0, .int .i64 0, .int .i64 0], .bool false]) (by simp [results, Try.results19, go_sem, R0, R1, R2, R3, R4, R5]) rfl ?_
        exact st_no HE.out hR
      · have HE : Hid (stB n u v = true) := by show _ = _; rw [HD.out, h1, h2, h3]; rfl
        have hv := inB_true h3
        have hn := areaB_bd h1
        rw [h3] at H2
        obtain ⟨p1, p2, p3, p4, p5, p6, hf⟩ := scV_form n u v
        have HF := Lib.hid hf
        have hc := fun w => c_cnScaled n u v hn hu hv w
        rw [hf] at hc
        have HB : ∃ b, scB n u v = b := ⟨_, rfl⟩
        obtain ⟨b, hb⟩ := HB
        have HBB := Lib.hid hb
        rw [hb] at hc
        have HC := Lib.hid hc
        clear hf hc hb HD h1 h2 h3
        go_enter Try.func19, Try.ntmps19
        go_wp2_with fail
        (go_at_call 27; refine (HG.out _).mono ?_; rintro e w1 ⟨rfl, hb1⟩; obtain ⟨hc1, hf1⟩ := bcell hb1; have hz1 := hb1.size; (try simp only [World.size_alloc] at hz1); (try (have hy1 : w.heap.size < w1.heap.size := by omega)); (try (have hx1 := Nat.lt_of_succ_le hz1)); (try (have hv1 := Nat.lt_of_succ_le (Nat.le_of_lt hx1))))
        replace kT := kT.next hb1
        have hB1 : Below w.heap.size w w1 := by (repeat' (first | (with_reducible exact Below.refl _ _) | (with_reducible refine below_step (by assumption) ?_ ?_) | (with_reducible refine Below.alloc ?_ ?_ _) | (with_reducible refine Below.setCell ?_ ?_ _) | (with_reducible refine below_drewN ?_ _) | (with_reducible refine Below.drew ?_) | omega | (simp; omega) | (simp; done)))
        go_wp2_with fail
        refine (H1.out _).mono ?_
        rintro e w' ⟨rfl, rfl⟩
        go_wp2_with fail
        refine (H2.out _).mono ?_
        rintro e w' ⟨rfl, rfl⟩
        go_wp2_with fail
        refine (HC.out _).mono ?_
        rintro e w2 ⟨rfl, hb2⟩
        have kT2 := kT.next hb2
        have hB2 := below_step hb2 hB1.size hB1
        have kT20 : (w2).cell? ⟨w.heap.size, 0, none⟩ = some (.int .i64 0) := kT2.cell 0; have kT21 : (w2).cell? ⟨w.heap.size, 1, none⟩ = some (.int .i64 0) := kT2.cell 1; have kT22 : (w2).cell? ⟨w.heap.size, 2, none⟩ = some (.int .i64 0) := kT2.cell 2; have kT23 : (w2).cell? ⟨w.heap.size, 3, none⟩ = some (.int .i64 0) := kT2.cell 3; have kT24 : (w2).cell? ⟨w.heap.size, 4, none⟩ = some (.int .i64 0) := kT2.cell 4; have kT25 : (w2).cell? ⟨w.heap.size, 5, none⟩ = some (.int .i64 0) := kT2.cell 5; have kT2f0 : (w2).frozen? ⟨w.heap.size, 0, none⟩ = false := kT2.frozen 0; have kT2f1 : (w2).frozen? ⟨w.heap.size, 1, none⟩ = false := kT2.frozen 1; have kT2f2 : (w2).frozen? ⟨w.heap.size, 2, none⟩ = false := kT2.frozen 2; have kT2f3 : (w2).frozen? ⟨w.heap.size, 3, none⟩ = false := kT2.frozen 3; have kT2f4 : (w2).frozen? ⟨w.heap.size, 4, none⟩ = false := kT2.frozen 4; have kT2f5 : (w2).frozen? ⟨w.heap.size, 5, none⟩ = false := kT2.frozen 5; have kT2l : w.heap.size < (w2).heap.size := kT2.lt
        go_wp2
        have R := ((((((kT2.set 0 (.int .i64 p1)).set 1 (.int .i64 p2)).set 2 (.int .i64 p3)).set 3 (.int .i64 p4)).set 4 (.int .i64 p5)).set 5 (.int .i64 p6))
        have hR : Below w.heap.size w ((((((w2.setCell ⟨w.heap.size, 0, none⟩ (.int .i64 p1)).setCell ⟨w.heap.size, 1, none⟩ (.int .i64 p2)).setCell ⟨w.heap.size, 2, none⟩ (.int .i64 p3)).setCell ⟨w.heap.size, 3, none⟩ (.int .i64 p4)).setCell ⟨w.heap.size, 4, none⟩ (.int .i64 p5)).setCell ⟨w.heap.size, 5, none⟩ (.int .i64 p6)) := by (repeat' (first | (with_reducible exact Below.refl _ _) | (with_reducible refine below_step (by assumption) ?_ ?_) | (with_reducible refine Below.alloc ?_ ?_ _) | (with_reducible refine Below.setCell ?_ ?_ _) | (with_reducible refine below_drewN ?_ _) | (with_reducible refine Below.drew ?_) | omega | (simp; omega) | (simp; done)))
        simp only [List.setIfInBounds_toArray, List.set_cons_zero, List.set_cons_succ] at R
        clear kT2 kT20 kT21 kT22 kT23 kT24 kT25 kT2f0 kT2f1 kT2f2 kT2f3 kT2f4 kT2f5 kT2l
        generalize ((((((w2.setCell ⟨w.heap.size, 0, none⟩ (.int .i64 p1)).setCell ⟨w.heap.size, 1, none⟩ (.int .i64 p2)).setCell ⟨w.heap.size, 2, none⟩ (.int .i64 p3)).setCell ⟨w.heap.size, 3, none⟩ (.int .i64 p4)).setCell ⟨w.heap.size, 4, none⟩ (.int .i64 p5)).setCell ⟨w.heap.size, 5, none⟩ (.int .i64 p6)) = W9 at R hR ⊢
        have R0 : (W9).cell? ⟨w.heap.size, 0, none⟩ = some (.int .i64 p1) := R.cell 0; have R1 : (W9).cell? ⟨w.heap.size, 1, none⟩ = some (.int .i64 p2) := R.cell 1; have R2 : (W9).cell? ⟨w.heap.size, 2, none⟩ = some (.int .i64 p3) := R.cell 2; have R3 : (W9).cell? ⟨w.heap.size, 3, none⟩ = some (.int .i64 p4) := R.cell 3; have R4 : (W9).cell? ⟨w.heap.size, 4, none⟩ = some (.int .i64 p5) := R.cell 4; have R5 : (W9).cell? ⟨w.heap.size, 5, none⟩ = some (.int .i64 p6) := R.cell 5; have Rl : w.heap.size < (W9).heap.size := R.lt
        refine bodyPost_ret (v := .tuple #[.agg #[.int .i64 p1, .int .i64 p2, .int .i64 p3, .int .i64 p4, .int .i64 p5, .int .i64 p6], .bool b]) (by simp [results, Try.results19, go_sem, R0, R1, R2, R3, R4, R5]) rfl ?_
        exact st_yes HE.out HF.out HBB.out hR
set_option maxHeartbeats 4000000 in
theorem c_iScaled (n u v : Int) (w : World) :
    Calls Try.prog 18 #[.int .i64 n, .int .i64 u, .int .i64 v] w (TriPost w (stV n u v) (stB n u v && scB n u v)) := by
  have HG : Hid (∀ w, _) := fun w => c_isArea n w
  have H1 : Hid (∀ w, _) := fun w => c_inside u 1 100 w
  have H2 : Hid (∀ w, _) := fun w => c_inside v 1 (u - 1) w
  have HD : Hid (stB n u v = (areaB n && inB u 1 100 && inB v 1 (u - 1))) := rfl
  have kT := Blk.new w #[.int .i64 0, .int .i64 0, .int .i64 0, .int .i64 0, .int .i64 0, .int .i64 0] 27
  have hb0 : Below w.heap.size w (w.alloc (.cells #[.int .i64 0, .int .i64 0, .int .i64 0, .int .i64 0, .int .i64 0, .int .i64 0] 27)) := by (repeat' (first | (with_reducible exact Below.refl _ _) | (with_reducible refine below_step (by assumption) ?_ ?_) | (with_reducible refine Below.alloc ?_ ?_ _) | (with_reducible refine Below.setCell ?_ ?_ _) | (with_reducible refine below_drewN ?_ _) | (with_reducible refine Below.drew ?_) | omega | (simp; omega) | (simp; done)))
  cases h1 : areaB n
  · have HE : Hid (stB n u v = false) := by show _ = _; rw [HD.out, h1]; rfl
    rw [h1] at HG
    go_enter Try.func18, Try.ntmps18
    go_wp2_with fail
    (go_at_call 32; refine (HG.out _).mono ?_; rintro e w1 ⟨rfl, hb1⟩; obtain ⟨hc1, hf1⟩ := bcell hb1; have hz1 := hb1.size; (try simp only [World.size_alloc] at hz1); (try (have hy1 : w.heap.size < w1.heap.size := by omega)); (try (have hx1 := Nat.lt_of_succ_le hz1)); (try (have hv1 := Nat.lt_of_succ_le (Nat.le_of_lt hx1))))
    replace kT := kT.next hb1
    have kT0 : (w1).cell? ⟨w.heap.size, 0, none⟩ = some (.int .i64 0) := kT.cell 0; have kT1 : (w1).cell? ⟨w.heap.size, 1, none⟩ = some (.int .i64 0) := kT.cell 1; have kT2 : (w1).cell? ⟨w.heap.size, 2, none⟩ = some (.int .i64 0) := kT.cell 2; have kT3 : (w1).cell? ⟨w.heap.size, 3, none⟩ = some (.int .i64 0) := kT.cell 3; have kT4 : (w1).cell? ⟨w.heap.size, 4, none⟩ = some (.int .i64 0) := kT.cell 4; have kT5 : (w1).cell? ⟨w.heap.size, 5, none⟩ = some (.int .i64 0) := kT.cell 5; have kTf0 : (w1).frozen? ⟨w.heap.size, 0, none⟩ = false := kT.frozen 0; have kTf1 : (w1).frozen? ⟨w.heap.size, 1, none⟩ = false := kT.frozen 1; have kTf2 : (w1).frozen? ⟨w.heap.size, 2, none⟩ = false := kT.frozen 2; have kTf3 : (w1).frozen? ⟨w.heap.size, 3, none⟩ = false := kT.frozen 3; have kTf4 : (w1).frozen? ⟨w.heap.size, 4, none⟩ = false := kT.frozen 4; have kTf5 : (w1).frozen? ⟨w.heap.size, 5, none⟩ = false := kT.frozen 5; have kTl : w.heap.size < (w1).heap.size := kT.lt
    go_wp2
    have R := ((((((kT.set 0 (.int .i64 0)).set 1 (.int .i64 0)).set 2 (.int .i64 0)).set 3 (.int .i64 0)).set 4 (.int .i64 0)).set 5 (.int .i64 0))
    have hR : Below w.heap.size w ((((((w1.setCell ⟨w.heap.size, 0, none⟩ (.int .i64 0)).setCell ⟨w.heap.size, 1, none⟩ (.int .i64 0)).setCell ⟨w.heap.size, 2, none⟩ (.int .i64 0)).setCell ⟨w.heap.size, 3, none⟩ (.int .i64 0)).setCell ⟨w.heap.size, 4, none⟩ (.int .i64 0)).setCell ⟨w.heap.size, 5, none⟩ (.int .i64 0)) := by (repeat' (first | (with_reducible exact Below.refl _ _) | (with_reducible refine below_step (by assumption) ?_ ?_) | (with_reducible refine Below.alloc ?_ ?_ _) | (with_reducible refine Below.setCell ?_ ?_ _) | (with_reducible refine below_drewN ?_ _) | (with_reducible refine Below.drew ?_) | omega | (simp; omega) | (simp; done)))
    simp only [List.setIfInBounds_toArray, List.set_cons_zero, List.set_cons_succ] at R
    clear kT kT0 kT1 kT2 kT3 kT4 kT5 kTf0 kTf1 kTf2 kTf3 kTf4 kTf5 kTl
    generalize ((((((w1.setCell ⟨w.heap.size, 0, none⟩ (.int .i64 0)).setCell ⟨w.heap.size, 1, none⟩ (.int .i64 0)).setCell ⟨w.heap.size, 2, none⟩ (.int .i64 0)).setCell ⟨w.heap.size, 3, none⟩ (.int .i64 0)).setCell ⟨w.heap.size, 4, none⟩ (.int .i64 0)).setCell ⟨w.heap.size, 5, none⟩ (.int .i64 0)) = W9 at R hR ⊢
    have R0 : (W9).cell? ⟨w.heap.size, 0, none⟩ = some (.int .i64 0) := R.cell 0; have R1 : (W9).cell? ⟨w.heap.size, 1, none⟩ = some (.int .i64 0) := R.cell 1; have R2 : (W9).cell? ⟨w.heap.size, 2, none⟩ = some (.int .i64 0) := R.cell 2; have R3 : (W9).cell? ⟨w.heap.size, 3, none⟩ = some (.int .i64 0) := R.cell 3; have R4 : (W9).cell? ⟨w.heap.size, 4, none⟩ = some (.int .i64 0) := R.cell 4; have R5 : (W9).cell? ⟨w.heap.size, 5, none⟩ = some (.int .i64 0) := R.cell 5; have Rl : w.heap.size < (W9).heap.size := R.lt
    refine bodyPost_ret (v := .tuple #[.agg #[.int .i64 0, .int .i64 0, .int .i64 0, .int .i64 0, .int .i64 0, .int .i64 0], .bool false]) (by simp [results, Try.results18, go_sem, R0, R1, R2, R3, R4, R5]) rfl ?_
    exact st_no HE.out hR
  · rw [h1] at HG
    cases h2 : inB u 1 100
    · have HE : Hid (stB n u v = false) := by show _ = _; rw [HD.out, h2, Bool.and_false]; rfl
      rw [h2] at H1
      go_enter Try.func18, Try.ntmps18
      go_wp2_with fail
      (go_at_call 32; refine (HG.out _).mono ?_; rintro e w1 ⟨rfl, hb1⟩; obtain ⟨hc1, hf1⟩ := bcell hb1; have hz1 := hb1.size; (try simp only [World.size_alloc] at hz1); (try (have hy1 : w.heap.size < w1.heap.size := by omega)); (try (have hx1 := Nat.lt_of_succ_le hz1)); (try (have hv1 := Nat.lt_of_succ_le (Nat.le_of_lt hx1))))
      replace kT := kT.next hb1
      have kT0 : (w1).cell? ⟨w.heap.size, 0, none⟩ = some (.int .i64 0) := kT.cell 0; have kT1 : (w1).cell? ⟨w.heap.size, 1, none⟩ = some (.int .i64 0) := kT.cell 1; have kT2 : (w1).cell? ⟨w.heap.size, 2, none⟩ = some (.int .i64 0) := kT.cell 2; have kT3 : (w1).cell? ⟨w.heap.size, 3, none⟩ = some (.int .i64 0) := kT.cell 3; have kT4 : (w1).cell? ⟨w.heap.size, 4, none⟩ = some (.int .i64 0) := kT.cell 4; have kT5 : (w1).cell? ⟨w.heap.size, 5, none⟩ = some (.int .i64 0) := kT.cell 5; have kTf0 : (w1).frozen? ⟨w.heap.size, 0, none⟩ = false := kT.frozen 0; have kTf1 : (w1).frozen? ⟨w.heap.size, 1, none⟩ = false := kT.frozen 1; have kTf2 : (w1).frozen? ⟨w.heap.size, 2, none⟩ = false := kT.frozen 2; have kTf3 : (w1).frozen? ⟨w.heap.size, 3, none⟩ = false := kT.frozen 3; have kTf4 : (w1).frozen? ⟨w.heap.size, 4, none⟩ = false := kT.frozen 4; have kTf5 : (w1).frozen? ⟨w.heap.size, 5, none⟩ = false := kT.frozen 5; have kTl : w.heap.size < (w1).heap.size := kT.lt
      go_wp2_with ((go_at_call 66; refine (H1.out _).mono ?_; rintro e w' ⟨rfl, rfl⟩))
      have R := ((((((kT.set 0 (.int .i64 0)).set 1 (.int .i64 0)).set 2 (.int .i64 0)).set 3 (.int .i64 0)).set 4 (.int .i64 0)).set 5 (.int .i64 0))
      have hR : Below w.heap.size w ((((((w1.setCell ⟨w.heap.size, 0, none⟩ (.int .i64 0)).setCell ⟨w.heap.size, 1, none⟩ (.int .i64 0)).setCell ⟨w.heap.size, 2, none⟩ (.int .i64 0)).setCell ⟨w.heap.size, 3, none⟩ (.int .i64 0)).setCell ⟨w.heap.size, 4, none⟩ (.int .i64 0)).setCell ⟨w.heap.size, 5, none⟩ (.int .i64 0)) := by (repeat' (first | (with_reducible exact Below.refl _ _) | (with_reducible refine below_step (by assumption) ?_ ?_) | (with_reducible refine Below.alloc ?_ ?_ _) | (with_reducible refine Below.setCell ?_ ?_ _) | (with_reducible refine below_drewN ?_ _) | (with_reducible refine Below.drew ?_) | omega | (simp; omega) | (simp; done)))
      simp only [List.setIfInBounds_toArray, List.set_cons_zero, List.set_cons_succ] at R
      clear kT kT0 kT1 kT2 kT3 kT4 kT5 kTf0 kTf1 kTf2 kTf3 kTf4 kTf5 kTl
      generalize ((((((w1.setCell ⟨w.heap.size, 0, none⟩ (.int .i64 0)).setCell ⟨w.heap.size, 1, none⟩ (.int .i64 0)).setCell ⟨w.heap.size, 2, none⟩ (.int .i64 0)).setCell ⟨w.heap.size, 3, none⟩ (.int .i64 0)).setCell ⟨w.heap.size, 4, none⟩ (.int .i64 0)).setCell ⟨w.heap.size, 5, none⟩ (.int .i64 0)) = W9 at R hR ⊢
      have R0 : (W9).cell? ⟨w.heap.size, 0, none⟩ = some (.int .i64 0) := R.cell 0; have R1 : (W9).cell? ⟨w.heap.size, 1, none⟩ = some (.int .i64 0) := R.cell 1; have R2 : (W9).cell? ⟨w.heap.size, 2, none⟩ = some (.int .i64 0) := R.cell 2; have R3 : (W9).cell? ⟨w.heap.size, 3, none⟩ = some (.int .i64 0) := R.cell 3; have R4 : (W9).cell? ⟨w.heap.size, 4, none⟩ = some (.int .i64 0) := R.cell 4; have R5 : (W9).cell? ⟨w.heap.size, 5, none⟩ = some (.int .i64 0) := R.cell 5; have Rl : w.heap.size < (W9).heap.size := R.lt
      refine bodyPost_ret (v := .tuple #[.agg #[.int .i64 0, .int .i64 0, .int .i64 0, .int .i64 0, .int .i64 0, .int .i64 0], .bool false]) (by simp [results, Try.results18, go_sem, R0, R1, R2, R3, R4, R5]) rfl ?_
      exact st_no HE.out hR
    · have hu := inB_true h2
      rw [h2] at H1
      cases h3 : inB v 1 (u - 1)
      · have HE : Hid (stB n u v = false) := by show _ = _; rw [HD.out, h3, Bool.and_false]
        rw [h3] at H2
        go_enter Try.func18, Try.ntmps18
        go_wp2_with fail
        (go_at_call 32; refine (HG.out _).mono ?_; rintro e w1 ⟨rfl, hb1⟩; obtain ⟨hc1, hf1⟩ := bcell hb1; have hz1 := hb1.size; (try simp only [World.size_alloc] at hz1); (try (have hy1 : w.heap.size < w1.heap.size := by omega)); (try (have hx1 := Nat.lt_of_succ_le hz1)); (try (have hv1 := Nat.lt_of_succ_le (Nat.le_of_lt hx1))))
        replace kT := kT.next hb1
        have kT0 : (w1).cell? ⟨w.heap.size, 0, none⟩ = some (.int .i64 0) := kT.cell 0; have kT1 : (w1).cell? ⟨w.heap.size, 1, none⟩ = some (.int .i64 0) := kT.cell 1; have kT2 : (w1).cell? ⟨w.heap.size, 2, none⟩ = some (.int .i64 0) := kT.cell 2; have kT3 : (w1).cell? ⟨w.heap.size, 3, none⟩ = some (.int .i64 0) := kT.cell 3; have kT4 : (w1).cell? ⟨w.heap.size, 4, none⟩ = some (.int .i64 0) := kT.cell 4; have kT5 : (w1).cell? ⟨w.heap.size, 5, none⟩ = some (.int .i64 0) := kT.cell 5; have kTf0 : (w1).frozen? ⟨w.heap.size, 0, none⟩ = false := kT.frozen 0; have kTf1 : (w1).frozen? ⟨w.heap.size, 1, none⟩ = false := kT.frozen 1; have kTf2 : (w1).frozen? ⟨w.heap.size, 2, none⟩ = false := kT.frozen 2; have kTf3 : (w1).frozen? ⟨w.heap.size, 3, none⟩ = false := kT.frozen 3; have kTf4 : (w1).frozen? ⟨w.heap.size, 4, none⟩ = false := kT.frozen 4; have kTf5 : (w1).frozen? ⟨w.heap.size, 5, none⟩ = false := kT.frozen 5; have kTl : w.heap.size < (w1).heap.size := kT.lt
        go_wp2_with fail
        refine (H1.out _).mono ?_
        rintro e w' ⟨rfl, rfl⟩
        go_wp2_with fail
        refine (H2.out _).mono ?_
        rintro e w' ⟨rfl, rfl⟩
        go_wp2
        have R := ((((((kT.set 0 (.int .i64 0)).set 1 (.int .i64 0)).set 2 (.int .i64 0)).set 3 (.int .i64 0)).set 4 (.int .i64 0)).set 5 (.int .i64 0))
        have hR : Below w.heap.size w ((((((w1.setCell ⟨w.heap.size, 0, none⟩ (.int .i64 0)).setCell ⟨w.heap.size, 1, none⟩ (.int .i64 0)).setCell ⟨w.heap.size, 2, none⟩ (.int .i64 0)).setCell ⟨w.heap.size, 3, none⟩ (.int .i64 0)).setCell ⟨w.heap.size, 4, none⟩ (.int .i64 0)).setCell ⟨w.heap.size, 5, none⟩ (.int .i64 0)) := by (repeat' (first | (with_reducible exact Below.refl _ _) | (with_reducible refine below_step (by assumption) ?_ ?_) | (with_reducible refine Below.alloc ?_ ?_ _) | (with_reducible refine Below.setCell ?_ ?_ _) | (with_reducible refine below_drewN ?_ _) | (with_reducible refine Below.drew ?_) | omega | (simp; omega) | (simp; done)))
        simp only [List.setIfInBounds_toArray, List.set_cons_zero, List.set_cons_succ] at R
        clear kT kT0 kT1 kT2 kT3 kT4 kT5 kTf0 kTf1 kTf2 kTf3 kTf4 kTf5 kTl
        generalize ((((((w1.setCell ⟨w.heap.size, 0, none⟩ (.int .i64 0)).setCell ⟨w.heap.size, 1, none⟩ (.int .i64 0)).setCell ⟨w.heap.size, 2, none⟩ (.int .i64 0)).setCell ⟨w.heap.size, 3, none⟩ (.int .i64 0)).setCell ⟨w.heap.size, 4, none⟩ (.int .i64 0)).setCell ⟨w.heap.size, 5, none⟩ (.int .i64 0)) = W9 at R hR ⊢
        have R0 : (W9).cell? ⟨w.heap.size, 0, none⟩ = some (.int .i64 0) := R.cell 0; have R1 : (W9).cell? ⟨w.heap.size, 1, none⟩ = some (.int .i64 0) := R.cell 1; have R2 : (W9).cell? ⟨w.heap.size, 2, none⟩ = some (.int .i64 0) := R.cell 2; have R3 : (W9).cell? ⟨w.heap.size, 3, none⟩ = some (.int .i64 0) := R.cell 3; have R4 : (W9).cell? ⟨w.heap.size, 4, none⟩ = some (.int .i64 0) := R.cell 4; have R5 : (W9).cell? ⟨w.heap.size, 5, none⟩ = some (.int .i64 0) := R.cell 5; have Rl : w.heap.size < (W9).heap.size := R.lt
        refine bodyPost_ret (v := .tuple #[.agg #[.int .i64 0, .int .i64 0, .int .i64 0, .int .i64 0, .int .i64 0, .int .i64 0], .bool false]) (by simp [results, Try.results18, go_sem, R0, R1, R2, R3, R4, R5]) rfl ?_
        exact st_no HE.out hR
      · have HE : Hid (stB n u v = true) := by show _ = _; rw [HD.out, h1, h2, h3]; rfl
        have hv := inB_true h3
        have hn := areaB_bd h1
        rw [h3] at H2
        obtain ⟨p1, p2, p3, p4, p5, p6, hf⟩ := scV_form n u v
        have HF := Lib.hid hf
        have hc := fun w => c_scaledTriangle n u v hn hu hv w
        rw [hf] at hc
        have HB : ∃ b, scB n u v = b := ⟨_, rfl⟩
        obtain ⟨b, hb⟩ := HB
        have HBB := Lib.hid hb
        rw [hb] at hc
        have HC := Lib.hid hc
        clear hf hc hb HD h1 h2 h3
        go_enter Try.func18, Try.ntmps18
        go_wp2_with fail
        (go_at_call 32; refine (HG.out _).mono ?_; rintro e w1 ⟨rfl, hb1⟩; obtain ⟨hc1, hf1⟩ := bcell hb1; have hz1 := hb1.size; (try simp only [World.size_alloc] at hz1); (try (have hy1 : w.heap.size < w1.heap.size := by omega)); (try (have hx1 := Nat.lt_of_succ_le hz1)); (try (have hv1 := Nat.lt_of_succ_le (Nat.le_of_lt hx1))))
        replace kT := kT.next hb1
        have hB1 : Below w.heap.size w w1 := by (repeat' (first | (with_reducible exact Below.refl _ _) | (with_reducible refine below_step (by assumption) ?_ ?_) | (with_reducible refine Below.alloc ?_ ?_ _) | (with_reducible refine Below.setCell ?_ ?_ _) | (with_reducible refine below_drewN ?_ _) | (with_reducible refine Below.drew ?_) | omega | (simp; omega) | (simp; done)))
        go_wp2_with fail
        refine (H1.out _).mono ?_
        rintro e w' ⟨rfl, rfl⟩
        go_wp2_with fail
        refine (H2.out _).mono ?_
        rintro e w' ⟨rfl, rfl⟩
        go_wp2_with fail
        refine (HC.out _).mono ?_
        rintro e w2 ⟨rfl, hb2⟩
        have kT2 := kT.next hb2
        have hB2 := below_step hb2 hB1.size hB1
        have kT20 : (w2).cell? ⟨w.heap.size, 0, none⟩ = some (.int .i64 0) := kT2.cell 0; have kT21 : (w2).cell? ⟨w.heap.size, 1, none⟩ = some (.int .i64 0) := kT2.cell 1; have kT22 : (w2).cell? ⟨w.heap.size, 2, none⟩ = some (.int .i64 0) := kT2.cell 2; have kT23 : (w2).cell? ⟨w.heap.size, 3, none⟩ = some (.int .i64 0) := kT2.cell 3; have kT24 : (w2).cell? ⟨w.heap.size, 4, none⟩ = some (.int .i64 0) := kT2.cell 4; have kT25 : (w2).cell? ⟨w.heap.size, 5, none⟩ = some (.int .i64 0) := kT2.cell 5; have kT2f0 : (w2).frozen? ⟨w.heap.size, 0, none⟩ = false := kT2.frozen 0; have kT2f1 : (w2).frozen? ⟨w.heap.size, 1, none⟩ = false := kT2.frozen 1; have kT2f2 : (w2).frozen? ⟨w.heap.size, 2, none⟩ = false := kT2.frozen 2; have kT2f3 : (w2).frozen? ⟨w.heap.size, 3, none⟩ = false := kT2.frozen 3; have kT2f4 : (w2).frozen? ⟨w.heap.size, 4, none⟩ = false := kT2.frozen 4; have kT2f5 : (w2).frozen? ⟨w.heap.size, 5, none⟩ = false := kT2.frozen 5; have kT2l : w.heap.size < (w2).heap.size := kT2.lt
        go_wp2
        have R := ((((((kT2.set 0 (.int .i64 p1)).set 1 (.int .i64 p2)).set 2 (.int .i64 p3)).set 3 (.int .i64 p4)).set 4 (.int .i64 p5)).set 5 (.int .i64 p6))
        have hR : Below w.heap.size w ((((((w2.setCell ⟨w.heap.size, 0, none⟩ (.int .i64 p1)).setCell ⟨w.heap.size, 1, none⟩ (.int .i64 p2)).setCell ⟨w.heap.size, 2, none⟩ (.int .i64 p3)).setCell ⟨w.heap.size, 3, none⟩ (.int .i64 p4)).setCell ⟨w.heap.size, 4, none⟩ (.int .i64 p5)).setCell ⟨w.heap.size, 5, none⟩ (.int .i64 p6)) := by (repeat' (first | (with_reducible exact Below.refl _ _) | (with_reducible refine below_step (by assumption) ?_ ?_) | (with_reducible refine Below.alloc ?_ ?_ _) | (with_reducible refine Below.setCell ?_ ?_ _) | (with_reducible refine below_drewN ?_ _) | (with_reducible refine Below.drew ?_) | omega | (simp; omega) | (simp; done)))
        simp only [List.setIfInBounds_toArray, List.set_cons_zero, List.set_cons_succ] at R
        clear kT2 kT20 kT21 kT22 kT23 kT24 kT25 kT2f0 kT2f1 kT2f2 kT2f3 kT2f4 kT2f5 kT2l
        generalize ((((((w2.setCell ⟨w.heap.size, 0, none⟩ (.int .i64 p1)).setCell ⟨w.heap.size, 1, none⟩ (.int .i64 p2)).setCell ⟨w.heap.size, 2, none⟩ (.int .i64 p3)).setCell ⟨w.heap.size, 3, none⟩ (.int .i64 p4)).setCell ⟨w.heap.size, 4, none⟩ (.int .i64 p5)).setCell ⟨w.heap.size, 5, none⟩ (.int .i64 p6)) = W9 at R hR ⊢
        have R0 : (W9).cell? ⟨w.heap.size, 0, none⟩ = some (.int .i64 p1) := R.cell 0; have R1 : (W9).cell? ⟨w.heap.size, 1, none⟩ = some (.int .i64 p2) := R.cell 1; have R2 : (W9).cell? ⟨w.heap.size, 2, none⟩ = some (.int .i64 p3) := R.cell 2; have R3 : (W9).cell? ⟨w.heap.size, 3, none⟩ = some (.int .i64 p4) := R.cell 3; have R4 : (W9).cell? ⟨w.heap.size, 4, none⟩ = some (.int .i64 p5) := R.cell 4; have R5 : (W9).cell? ⟨w.heap.size, 5, none⟩ = some (.int .i64 p6) := R.cell 5; have Rl : w.heap.size < (W9).heap.size := R.lt
        refine bodyPost_ret (v := .tuple #[.agg #[.int .i64 p1, .int .i64 p2, .int .i64 p3, .int .i64 p4, .int .i64 p5, .int .i64 p6], .bool b]) (by simp [results, Try.results18, go_sem, R0, R1, R2, R3, R4, R5]) rfl ?_
        exact st_yes HE.out HF.out HBB.out hR
theorem c_eqFraction (A B C D : Int) (w : World) :
    Calls Try.prog 42 #[.agg #[.int .i64 A, .int .i64 B], .agg #[.int .i64 C, .int .i64 D]] w fun e w' => e = .returned (.bool (A == C && B == D)) ∧ Below w.heap.size w w' := by
  cases h1 : (A == C) <;> cases h2 : (B == D)
  all_goals
    have h3 : (A != C) = !(A == C) := rfl
    have h4 : (B != D) = !(B == D) := rfl
    rw [h1] at h3
    rw [h2] at h4
    go_enter Try.func42, Try.ntmps42
    go_wp2
    go_ret
    refine ⟨rfl, ?_⟩
    go_grown
set_option maxHeartbeats 1000000 in
theorem c_eqTriangle (p1 p2 p3 p4 p5 p6 : Int) (w : World) :
    Calls Try.prog 8 #[.agg #[.int .i64 p1, .int .i64 p2, .int .i64 p3, .int .i64 p4, .int .i64 p5, .int .i64 p6], .agg #[.int .i64 p1, .int .i64 p2, .int .i64 p3, .int .i64 p4, .int .i64 p5, .int .i64 p6]] w fun e w' => e = .returned (.bool true) ∧ Below w.heap.size w w' := by
  have hq : ∀ a b w, Calls Try.prog 42 #[.agg #[.int .i64 a, .int .i64 b], .agg #[.int .i64 a, .int .i64 b]] w fun e w' => e = .returned (.bool true) ∧ Below w.heap.size w w' := fun a b w => by
    have := c_eqFraction a b a b w
    simpa using this
  go_enter Try.func8, Try.ntmps8
  go_wp2_with fail
  (go_at_call 42; refine (hq _ _ _).mono ?_; rintro e w1 ⟨rfl, hb1⟩; obtain ⟨hc1, hf1⟩ := bcell hb1; have hz1 := hb1.size; (try simp only [World.size_alloc] at hz1); (try (have hy1 : w.heap.size < w1.heap.size := by omega)); (try (have hx1 := Nat.lt_of_succ_le hz1)); (try (have hv1 := Nat.lt_of_succ_le (Nat.le_of_lt hx1))))
  go_wp2_with fail
  (go_at_call 42; refine (hq _ _ _).mono ?_; rintro e w2 ⟨rfl, hb2⟩; obtain ⟨hc2, hf2⟩ := bcell hb2; have hz2 := hb2.size; (try simp only [World.size_alloc] at hz2); (try (have hy2 : w.heap.size < w2.heap.size := by omega)); (try (have hx2 := Nat.lt_of_succ_le hz2)); (try (have hv2 := Nat.lt_of_succ_le (Nat.le_of_lt hx2))); (try (have hy2_1 : w1.heap.size < w2.heap.size := by omega)))
  go_wp2_with fail
  (go_at_call 42; refine (hq _ _ _).mono ?_; rintro e w3 ⟨rfl, hb3⟩; obtain ⟨hc3, hf3⟩ := bcell hb3; have hz3 := hb3.size; (try simp only [World.size_alloc] at hz3); (try (have hy3 : w.heap.size < w3.heap.size := by omega)); (try (have hx3 := Nat.lt_of_succ_le hz3)); (try (have hv3 := Nat.lt_of_succ_le (Nat.le_of_lt hx3))); (try (have hy3_1 : w1.heap.size < w3.heap.size := by omega)); (try (have hy3_2 : w2.heap.size < w3.heap.size := by omega)))
  go_wp2
  go_ret
  refine ⟨rfl, ?_⟩
  (repeat' (first | (with_reducible exact Below.refl _ _) | (with_reducible refine below_step (by assumption) ?_ ?_) | (with_reducible refine Below.alloc ?_ ?_ _) | (with_reducible refine Below.setCell ?_ ?_ _) | (with_reducible refine below_drewN ?_ _) | (with_reducible refine Below.drew ?_) | omega | (simp; omega) | (simp; done)))
end Go.Proofs.Ytcnfjapoopdiaaa

/- TofL -/
namespace Go.Proofs.Ytcnfjapoopdiaaa
open Go.RowKit

set_option maxHeartbeats 2000000 in
set_option maxRecDepth 100000 in
theorem c_iTofNo (n X Y E a b c d e f : Int) (h : gtB n X Y E = false) (w : World) :
    Calls Try.prog 7 #[.int .i64 n, .agg #[.int .i64 X, .int .i64 Y, .int .i64 E]] w (tofP w a b c d e f false) := by
  have HG : Hid (∀ w, _) := fun w => c_isArea n w
  have kP := (Blk.new w #[.int .i64 X, .int .i64 Y, .int .i64 E] 30).alloc (.cells #[.int .i64 0, .int .i64 0, .int .i64 0, .int .i64 0, .int .i64 0, .int .i64 0] 27)
  have kT := Blk.new (w.alloc (.cells #[.int .i64 X, .int .i64 Y, .int .i64 E] 30)) #[.int .i64 0, .int .i64 0, .int .i64 0, .int .i64 0, .int .i64 0, .int .i64 0] 27
  simp only [World.size_alloc] at kT
  have hB : Below w.heap.size w ((w.alloc (.cells #[.int .i64 X, .int .i64 Y, .int .i64 E] 30)).alloc (.cells #[.int .i64 0, .int .i64 0, .int .i64 0, .int .i64 0, .int .i64 0, .int .i64 0] 27)) := by (repeat' (first | (with_reducible exact Below.refl _ _) | (with_reducible refine below_step (by assumption) ?_ ?_) | (with_reducible refine Below.alloc ?_ ?_ _) | (with_reducible refine Below.setCell ?_ ?_ _) | (with_reducible refine below_drewN ?_ _) | (with_reducible refine Below.drew ?_) | omega | (simp; omega) | (simp; done)))
  have hs := hB.size
  cases ha : areaB n
  · rw [ha] at HG
    clear h ha
    go_enter Try.func7, Try.ntmps7
    go_wp2_with fail
    generalize ((w.alloc (.cells #[.int .i64 X, .int .i64 Y, .int .i64 E] 30)).alloc (.cells #[.int .i64 0, .int .i64 0, .int .i64 0, .int .i64 0, .int .i64 0, .int .i64 0] 27)) = W at *
    refine (HG.out _).mono ?_
    rintro e u1 ⟨rfl, hb1⟩
    replace kP := kP.next hb1
    replace kT := kT.next hb1
    replace hB := below_step hb1 hs hB
    replace hs := hB.size
    have kT0 : (u1).cell? ⟨w.heap.size + 1, 0, none⟩ = some (.int .i64 0) := kT.cell 0; have kT1 : (u1).cell? ⟨w.heap.size + 1, 1, none⟩ = some (.int .i64 0) := kT.cell 1; have kT2 : (u1).cell? ⟨w.heap.size + 1, 2, none⟩ = some (.int .i64 0) := kT.cell 2; have kT3 : (u1).cell? ⟨w.heap.size + 1, 3, none⟩ = some (.int .i64 0) := kT.cell 3; have kT4 : (u1).cell? ⟨w.heap.size + 1, 4, none⟩ = some (.int .i64 0) := kT.cell 4; have kT5 : (u1).cell? ⟨w.heap.size + 1, 5, none⟩ = some (.int .i64 0) := kT.cell 5; have kTf0 : (u1).frozen? ⟨w.heap.size + 1, 0, none⟩ = false := kT.frozen 0; have kTf1 : (u1).frozen? ⟨w.heap.size + 1, 1, none⟩ = false := kT.frozen 1; have kTf2 : (u1).frozen? ⟨w.heap.size + 1, 2, none⟩ = false := kT.frozen 2; have kTf3 : (u1).frozen? ⟨w.heap.size + 1, 3, none⟩ = false := kT.frozen 3; have kTf4 : (u1).frozen? ⟨w.heap.size + 1, 4, none⟩ = false := kT.frozen 4; have kTf5 : (u1).frozen? ⟨w.heap.size + 1, 5, none⟩ = false := kT.frozen 5; have kTl : w.heap.size + 1 < (u1).heap.size := kT.lt
    go_wp2
    have R := ((((((kT.set 0 (.int .i64 0)).set 1 (.int .i64 0)).set 2 (.int .i64 0)).set 3 (.int .i64 0)).set 4 (.int .i64 0)).set 5 (.int .i64 0))
    have hR : Below w.heap.size w ((((((u1.setCell ⟨w.heap.size + 1, 0, none⟩ (.int .i64 0)).setCell ⟨w.heap.size + 1, 1, none⟩ (.int .i64 0)).setCell ⟨w.heap.size + 1, 2, none⟩ (.int .i64 0)).setCell ⟨w.heap.size + 1, 3, none⟩ (.int .i64 0)).setCell ⟨w.heap.size + 1, 4, none⟩ (.int .i64 0)).setCell ⟨w.heap.size + 1, 5, none⟩ (.int .i64 0)) := by (repeat' (first | (with_reducible exact Below.refl _ _) | (with_reducible refine below_step (by assumption) ?_ ?_) | (with_reducible refine Below.alloc ?_ ?_ _) | (with_reducible refine Below.setCell ?_ ?_ _) | (with_reducible refine below_drewN ?_ _) | (with_reducible refine Below.drew ?_) | omega | (simp; omega) | (simp; done)))
    simp only [List.setIfInBounds_toArray, List.set_cons_zero, List.set_cons_succ] at R
    clear kT kT0 kT1 kT2 kT3 kT4 kT5 kTf0 kTf1 kTf2 kTf3 kTf4 kTf5 kTl
    generalize ((((((u1.setCell ⟨w.heap.size + 1, 0, none⟩ (.int .i64 0)).setCell ⟨w.heap.size + 1, 1, none⟩ (.int .i64 0)).setCell ⟨w.heap.size + 1, 2, none⟩ (.int .i64 0)).setCell ⟨w.heap.size + 1, 3, none⟩ (.int .i64 0)).setCell ⟨w.heap.size + 1, 4, none⟩ (.int .i64 0)).setCell ⟨w.heap.size + 1, 5, none⟩ (.int .i64 0)) = W9 at R hR ⊢
    have R0 : (W9).cell? ⟨w.heap.size + 1, 0, none⟩ = some (.int .i64 0) := R.cell 0; have R1 : (W9).cell? ⟨w.heap.size + 1, 1, none⟩ = some (.int .i64 0) := R.cell 1; have R2 : (W9).cell? ⟨w.heap.size + 1, 2, none⟩ = some (.int .i64 0) := R.cell 2; have R3 : (W9).cell? ⟨w.heap.size + 1, 3, none⟩ = some (.int .i64 0) := R.cell 3; have R4 : (W9).cell? ⟨w.heap.size + 1, 4, none⟩ = some (.int .i64 0) := R.cell 4; have R5 : (W9).cell? ⟨w.heap.size + 1, 5, none⟩ = some (.int .i64 0) := R.cell 5; have Rl : w.heap.size + 1 < (W9).heap.size := R.lt
    refine bodyPost_ret (v := .tuple #[.agg #[.int .i64 0, .int .i64 0, .int .i64 0, .int .i64 0, .int .i64 0, .int .i64 0], .bool false]) (by simp [results, Try.results7, go_sem, R0, R1, R2, R3, R4, R5]) rfl ?_
    exact tofP_no rfl hR
  · rw [ha] at HG
    have hn' := areaB_b2 ha
    have hnn : 1 ≤ n * n ∧ n * n ≤ 961 := ⟨by have := Int.mul_le_mul hn'.1 hn'.1 (by omega) (by omega); omega, by have := Int.mul_le_mul hn'.2 hn'.2 (by omega) (by omega); omega⟩
    have hneg : -n * n = -(n * n) := Int.neg_mul n n
    have hwn : IntKind.i64.wrap (-n) = -n := IntWalk.i64_in _ (by omega)
    have hwm : IntKind.i64.wrap (-n * n) = -n * n := IntWalk.i64_in _ (by omega)
    have HI : Hid (∀ w, _) := fun w => c_isPoint (-n * n) 0 X Y E (curve_n hn') w
    have hg : (ptF (-n * n) 0 X Y E && !(Y == 0)) = false := by unfold gtB at h; rw [ha, Bool.true_and] at h; exact h
    clear h ha hneg hnn hn'
    cases hp : ptF (-n * n) 0 X Y E
    · rw [hp] at HI
      clear hg hp
      go_enter Try.func7, Try.ntmps7
      go_wp2_with fail
      generalize ((w.alloc (.cells #[.int .i64 X, .int .i64 Y, .int .i64 E] 30)).alloc (.cells #[.int .i64 0, .int .i64 0, .int .i64 0, .int .i64 0, .int .i64 0, .int .i64 0] 27)) = W at *
      refine (HG.out _).mono ?_
      rintro e u1 ⟨rfl, hb1⟩
      replace kP := kP.next hb1
      replace kT := kT.next hb1
      replace hB := below_step hb1 hs hB
      replace hs := hB.size
      have kP0 : (u1).cell? ⟨w.heap.size, 0, none⟩ = some (.int .i64 X) := kP.cell 0; have kP1 : (u1).cell? ⟨w.heap.size, 1, none⟩ = some (.int .i64 Y) := kP.cell 1; have kP2 : (u1).cell? ⟨w.heap.size, 2, none⟩ = some (.int .i64 E) := kP.cell 2; have kPl : w.heap.size < (u1).heap.size := kP.lt
      go_wp2_with fail
      refine (HI.out _).mono ?_
      rintro e u2 ⟨rfl, hb2⟩
      clear kP0 kP1 kP2 kPl
      replace kP := kP.next hb2
      replace kT := kT.next hb2
      replace hB := below_step hb2 hs hB
      replace hs := hB.size
      have kP0 : (u2).cell? ⟨w.heap.size, 0, none⟩ = some (.int .i64 X) := kP.cell 0; have kP1 : (u2).cell? ⟨w.heap.size, 1, none⟩ = some (.int .i64 Y) := kP.cell 1; have kP2 : (u2).cell? ⟨w.heap.size, 2, none⟩ = some (.int .i64 E) := kP.cell 2; have kPl : w.heap.size < (u2).heap.size := kP.lt
      have kT0 : (u2).cell? ⟨w.heap.size + 1, 0, none⟩ = some (.int .i64 0) := kT.cell 0; have kT1 : (u2).cell? ⟨w.heap.size + 1, 1, none⟩ = some (.int .i64 0) := kT.cell 1; have kT2 : (u2).cell? ⟨w.heap.size + 1, 2, none⟩ = some (.int .i64 0) := kT.cell 2; have kT3 : (u2).cell? ⟨w.heap.size + 1, 3, none⟩ = some (.int .i64 0) := kT.cell 3; have kT4 : (u2).cell? ⟨w.heap.size + 1, 4, none⟩ = some (.int .i64 0) := kT.cell 4; have kT5 : (u2).cell? ⟨w.heap.size + 1, 5, none⟩ = some (.int .i64 0) := kT.cell 5; have kTf0 : (u2).frozen? ⟨w.heap.size + 1, 0, none⟩ = false := kT.frozen 0; have kTf1 : (u2).frozen? ⟨w.heap.size + 1, 1, none⟩ = false := kT.frozen 1; have kTf2 : (u2).frozen? ⟨w.heap.size + 1, 2, none⟩ = false := kT.frozen 2; have kTf3 : (u2).frozen? ⟨w.heap.size + 1, 3, none⟩ = false := kT.frozen 3; have kTf4 : (u2).frozen? ⟨w.heap.size + 1, 4, none⟩ = false := kT.frozen 4; have kTf5 : (u2).frozen? ⟨w.heap.size + 1, 5, none⟩ = false := kT.frozen 5; have kTl : w.heap.size + 1 < (u2).heap.size := kT.lt
      go_wp2
      have R := ((((((kT.set 0 (.int .i64 0)).set 1 (.int .i64 0)).set 2 (.int .i64 0)).set 3 (.int .i64 0)).set 4 (.int .i64 0)).set 5 (.int .i64 0))
      have hR : Below w.heap.size w ((((((u2.setCell ⟨w.heap.size + 1, 0, none⟩ (.int .i64 0)).setCell ⟨w.heap.size + 1, 1, none⟩ (.int .i64 0)).setCell ⟨w.heap.size + 1, 2, none⟩ (.int .i64 0)).setCell ⟨w.heap.size + 1, 3, none⟩ (.int .i64 0)).setCell ⟨w.heap.size + 1, 4, none⟩ (.int .i64 0)).setCell ⟨w.heap.size + 1, 5, none⟩ (.int .i64 0)) := by (repeat' (first | (with_reducible exact Below.refl _ _) | (with_reducible refine below_step (by assumption) ?_ ?_) | (with_reducible refine Below.alloc ?_ ?_ _) | (with_reducible refine Below.setCell ?_ ?_ _) | (with_reducible refine below_drewN ?_ _) | (with_reducible refine Below.drew ?_) | omega | (simp; omega) | (simp; done)))
      simp only [List.setIfInBounds_toArray, List.set_cons_zero, List.set_cons_succ] at R
      clear kT kT0 kT1 kT2 kT3 kT4 kT5 kTf0 kTf1 kTf2 kTf3 kTf4 kTf5 kTl
      generalize ((((((u2.setCell ⟨w.heap.size + 1, 0, none⟩ (.int .i64 0)).setCell ⟨w.heap.size + 1, 1, none⟩ (.int .i64 0)).setCell ⟨w.heap.size + 1, 2, none⟩ (.int .i64 0)).setCell ⟨w.heap.size + 1, 3, none⟩ (.int .i64 0)).setCell ⟨w.heap.size + 1, 4, none⟩ (.int .i64 0)).setCell ⟨w.heap.size + 1, 5, none⟩ (.int .i64 0)) = W9 at R hR ⊢
      have R0 : (W9).cell? ⟨w.heap.size + 1, 0, none⟩ = some (.int .i64 0) := R.cell 0; have R1 : (W9).cell? ⟨w.heap.size + 1, 1, none⟩ = some (.int .i64 0) := R.cell 1; have R2 : (W9).cell? ⟨w.heap.size + 1, 2, none⟩ = some (.int .i64 0) := R.cell 2; have R3 : (W9).cell? ⟨w.heap.size + 1, 3, none⟩ = some (.int .i64 0) := R.cell 3; have R4 : (W9).cell? ⟨w.heap.size + 1, 4, none⟩ = some (.int .i64 0) := R.cell 4; have R5 : (W9).cell? ⟨w.heap.size + 1, 5, none⟩ = some (.int .i64 0) := R.cell 5; have Rl : w.heap.size + 1 < (W9).heap.size := R.lt
      refine bodyPost_ret (v := .tuple #[.agg #[.int .i64 0, .int .i64 0, .int .i64 0, .int .i64 0, .int .i64 0, .int .i64 0], .bool false]) (by simp [results, Try.results7, go_sem, R0, R1, R2, R3, R4, R5]) rfl ?_
      exact tofP_no rfl hR
    · rw [hp] at hg HI
      have hY : Y = 0 := by simpa using hg
      subst hY
      clear hg hp
      go_enter Try.func7, Try.ntmps7
      go_wp2_with fail
      generalize ((w.alloc (.cells #[.int .i64 X, .int .i64 0, .int .i64 E] 30)).alloc (.cells #[.int .i64 0, .int .i64 0, .int .i64 0, .int .i64 0, .int .i64 0, .int .i64 0] 27)) = W at *
      refine (HG.out _).mono ?_
      rintro e u1 ⟨rfl, hb1⟩
      replace kP := kP.next hb1
      replace kT := kT.next hb1
      replace hB := below_step hb1 hs hB
      replace hs := hB.size
      have kP0 : (u1).cell? ⟨w.heap.size, 0, none⟩ = some (.int .i64 X) := kP.cell 0; have kP1 : (u1).cell? ⟨w.heap.size, 1, none⟩ = some (.int .i64 0) := kP.cell 1; have kP2 : (u1).cell? ⟨w.heap.size, 2, none⟩ = some (.int .i64 E) := kP.cell 2; have kPl : w.heap.size < (u1).heap.size := kP.lt
      go_wp2_with fail
      refine (HI.out _).mono ?_
      rintro e u2 ⟨rfl, hb2⟩
      clear kP0 kP1 kP2 kPl
      replace kP := kP.next hb2
      replace kT := kT.next hb2
      replace hB := below_step hb2 hs hB
      replace hs := hB.size
      have kP0 : (u2).cell? ⟨w.heap.size, 0, none⟩ = some (.int .i64 X) := kP.cell 0; have kP1 : (u2).cell? ⟨w.heap.size, 1, none⟩ = some (.int .i64 0) := kP.cell 1; have kP2 : (u2).cell? ⟨w.heap.size, 2, none⟩ = some (.int .i64 E) := kP.cell 2; have kPl : w.heap.size < (u2).heap.size := kP.lt
      have kT0 : (u2).cell? ⟨w.heap.size + 1, 0, none⟩ = some (.int .i64 0) := kT.cell 0; have kT1 : (u2).cell? ⟨w.heap.size + 1, 1, none⟩ = some (.int .i64 0) := kT.cell 1; have kT2 : (u2).cell? ⟨w.heap.size + 1, 2, none⟩ = some (.int .i64 0) := kT.cell 2; have kT3 : (u2).cell? ⟨w.heap.size + 1, 3, none⟩ = some (.int .i64 0) := kT.cell 3; have kT4 : (u2).cell? ⟨w.heap.size + 1, 4, none⟩ = some (.int .i64 0) := kT.cell 4; have kT5 : (u2).cell? ⟨w.heap.size + 1, 5, none⟩ = some (.int .i64 0) := kT.cell 5; have kTf0 : (u2).frozen? ⟨w.heap.size + 1, 0, none⟩ = false := kT.frozen 0; have kTf1 : (u2).frozen? ⟨w.heap.size + 1, 1, none⟩ = false := kT.frozen 1; have kTf2 : (u2).frozen? ⟨w.heap.size + 1, 2, none⟩ = false := kT.frozen 2; have kTf3 : (u2).frozen? ⟨w.heap.size + 1, 3, none⟩ = false := kT.frozen 3; have kTf4 : (u2).frozen? ⟨w.heap.size + 1, 4, none⟩ = false := kT.frozen 4; have kTf5 : (u2).frozen? ⟨w.heap.size + 1, 5, none⟩ = false := kT.frozen 5; have kTl : w.heap.size + 1 < (u2).heap.size := kT.lt
      go_wp2
      have R := ((((((kT.set 0 (.int .i64 0)).set 1 (.int .i64 0)).set 2 (.int .i64 0)).set 3 (.int .i64 0)).set 4 (.int .i64 0)).set 5 (.int .i64 0))
      have hR : Below w.heap.size w ((((((u2.setCell ⟨w.heap.size + 1, 0, none⟩ (.int .i64 0)).setCell ⟨w.heap.size + 1, 1, none⟩ (.int .i64 0)).setCell ⟨w.heap.size + 1, 2, none⟩ (.int .i64 0)).setCell ⟨w.heap.size + 1, 3, none⟩ (.int .i64 0)).setCell ⟨w.heap.size + 1, 4, none⟩ (.int .i64 0)).setCell ⟨w.heap.size + 1, 5, none⟩ (.int .i64 0)) := by (repeat' (first | (with_reducible exact Below.refl _ _) | (with_reducible refine below_step (by assumption) ?_ ?_) | (with_reducible refine Below.alloc ?_ ?_ _) | (with_reducible refine Below.setCell ?_ ?_ _) | (with_reducible refine below_drewN ?_ _) | (with_reducible refine Below.drew ?_) | omega | (simp; omega) | (simp; done)))
      simp only [List.setIfInBounds_toArray, List.set_cons_zero, List.set_cons_succ] at R
      clear kT kT0 kT1 kT2 kT3 kT4 kT5 kTf0 kTf1 kTf2 kTf3 kTf4 kTf5 kTl
      generalize ((((((u2.setCell ⟨w.heap.size + 1, 0, none⟩ (.int .i64 0)).setCell ⟨w.heap.size + 1, 1, none⟩ (.int .i64 0)).setCell ⟨w.heap.size + 1, 2, none⟩ (.int .i64 0)).setCell ⟨w.heap.size + 1, 3, none⟩ (.int .i64 0)).setCell ⟨w.heap.size + 1, 4, none⟩ (.int .i64 0)).setCell ⟨w.heap.size + 1, 5, none⟩ (.int .i64 0)) = W9 at R hR ⊢
      have R0 : (W9).cell? ⟨w.heap.size + 1, 0, none⟩ = some (.int .i64 0) := R.cell 0; have R1 : (W9).cell? ⟨w.heap.size + 1, 1, none⟩ = some (.int .i64 0) := R.cell 1; have R2 : (W9).cell? ⟨w.heap.size + 1, 2, none⟩ = some (.int .i64 0) := R.cell 2; have R3 : (W9).cell? ⟨w.heap.size + 1, 3, none⟩ = some (.int .i64 0) := R.cell 3; have R4 : (W9).cell? ⟨w.heap.size + 1, 4, none⟩ = some (.int .i64 0) := R.cell 4; have R5 : (W9).cell? ⟨w.heap.size + 1, 5, none⟩ = some (.int .i64 0) := R.cell 5; have Rl : w.heap.size + 1 < (W9).heap.size := R.lt
      refine bodyPost_ret (v := .tuple #[.agg #[.int .i64 0, .int .i64 0, .int .i64 0, .int .i64 0, .int .i64 0, .int .i64 0], .bool false]) (by simp [results, Try.results7, go_sem, R0, R1, R2, R3, R4, R5]) rfl ?_
      exact tofP_no rfl hR
theorem tof_all (n X Y E : Int) : ∃ (p1 p2 p3 p4 p5 p6 : Int) (o : Bool),
    (∀ w : World, Calls Try.prog 5 #[.int .i64 n, .agg #[.int .i64 X, .int .i64 Y, .int .i64 E]] w fun r w' => r = .returned (.tuple #[.agg #[.int .i64 p1, .int .i64 p2, .int .i64 p3, .int .i64 p4, .int .i64 p5, .int .i64 p6], .bool o]) ∧ Below w.heap.size w w') ∧
    (∀ w : World, Calls Try.prog 7 #[.int .i64 n, .agg #[.int .i64 X, .int .i64 Y, .int .i64 E]] w fun r w' => r = .returned (.tuple #[.agg #[.int .i64 p1, .int .i64 p2, .int .i64 p3, .int .i64 p4, .int .i64 p5, .int .i64 p6], .bool o]) ∧ Below w.heap.size w w') := by
  obtain ⟨a, b, c, d, e, f, o, h1, h2⟩ : ∃ (a b c d e f : Int) (o : Bool),
    (∀ w : World, Calls Try.prog 5 #[.int .i64 n, .agg #[.int .i64 X, .int .i64 Y, .int .i64 E]] w (tofP w a b c d e f o)) ∧
    (∀ w : World, Calls Try.prog 7 #[.int .i64 n, .agg #[.int .i64 X, .int .i64 Y, .int .i64 E]] w (tofP w a b c d e f o)) := by
    cases h : gtB n X Y E
    · exact ⟨0, 0, 0, 0, 0, 0, false, c_sTofNo n X Y E _ _ _ _ _ _ h, c_iTofNo n X Y E _ _ _ _ _ _ h⟩
    · obtain ⟨a, b, c, d, e, f, o, h1, h2, _⟩ := tof_both n X Y E h
      exact ⟨a, b, c, d, e, f, o, h1, h2⟩
  obtain ⟨p1, p2, p3, p4, p5, p6, hf⟩ := tofP_form a b c d e f o
  simp only [hf] at h1 h2
  exact ⟨p1, p2, p3, p4, p5, p6, o, h1, h2⟩
set_option maxHeartbeats 2000000 in
theorem c_toPoint (X Y E : Int) (w : World) :
    Calls Try.prog 6 #[.agg #[.int .i64 X, .int .i64 Y, .int .i64 E]] w fun e w' => e = .returned (.agg #[.int .i64 X, .int .i64 Y, .int .i64 E]) ∧ Below w.heap.size w w' := by
  go_enter Try.func6, Try.ntmps6
  go_wp2
  go_returns
  refine ⟨rfl, ?_⟩
  go_grown
set_option maxHeartbeats 4000000 in
theorem walk_FnExactTriangleOf (n X Y E : Int) (_ : (Lit.int .i64 n).wf = true) (_ : (Lit.int .i64 X).wf = true) (_ : (Lit.int .i64 Y).wf = true) (_ : (Lit.int .i64 E).wf = true) (w : World) :
    Calls Try.prog 3 #[.int .i64 n, .agg #[.int .i64 X, .int .i64 Y, .int .i64 E]] w fun e w' => e = .returned (.bool true) ∧ Below w.heap.size w w' := by
  obtain ⟨p1, p2, p3, p4, p5, p6, o, h1, h2⟩ := tof_all n X Y E
  have H1 := Lib.hid h1
  have H2 := Lib.hid h2
  clear h1 h2
  have kb := Blk.new w #[.int .i64 X, .int .i64 Y, .int .i64 E] 23
  cases o
  all_goals
    go_enter Try.func3, Try.ntmps3
    go_wp2_with fail
    refine (c_toPoint _ _ _ _).mono ?_
    rintro e w1 ⟨rfl, hb1⟩
    have kb1 := kb.next hb1
    have hB1 : Below w.heap.size w w1 := by (repeat' (first | (with_reducible exact Below.refl _ _) | (with_reducible refine below_step (by assumption) ?_ ?_) | (with_reducible refine Below.alloc ?_ ?_ _) | (with_reducible refine Below.setCell ?_ ?_ _) | (with_reducible refine below_drewN ?_ _) | (with_reducible refine Below.drew ?_) | omega | (simp; omega) | (simp; done)))
    go_wp2_with fail
    refine (H1.out _).mono ?_
    rintro e w2 ⟨rfl, hb2⟩
    have kb2 := (kb1.next hb2).alloc (.cells #[.int .i64 p1, .int .i64 p2, .int .i64 p3, .int .i64 p4, .int .i64 p5, .int .i64 p6] 27)
    have hB2 := below_step hb2 hB1.size hB1
    have k1 := Blk.new w2 #[.int .i64 p1, .int .i64 p2, .int .i64 p3, .int .i64 p4, .int .i64 p5, .int .i64 p6] 27
    have hB3 := hB2.alloc hB2.size (.cells #[.int .i64 p1, .int .i64 p2, .int .i64 p3, .int .i64 p4, .int .i64 p5, .int .i64 p6] 27)
    go_upto_region 2 with (fail)
    generalize w2.alloc _ = W2 at *
    generalize w2.heap.size = r5 at *
    have kb20 : (W2).cell? ⟨w.heap.size, 0, none⟩ = some (.int .i64 X) := kb2.cell 0; have kb21 : (W2).cell? ⟨w.heap.size, 1, none⟩ = some (.int .i64 Y) := kb2.cell 1; have kb22 : (W2).cell? ⟨w.heap.size, 2, none⟩ = some (.int .i64 E) := kb2.cell 2; have kb2l : w.heap.size < (W2).heap.size := kb2.lt
    go_wp2_with fail
    refine (c_toPoint _ _ _ _).mono ?_
    rintro e w4 ⟨rfl, hb4⟩
    have k4 := k1.next hb4
    have hB4 := below_step hb4 hB3.size hB3
    go_wp2_with fail
    refine (H2.out _).mono ?_
    rintro e w5 ⟨rfl, hb5⟩
    have k5 := k4.next hb5
    have hB5 := below_step hb5 hB4.size hB4
    have k50 : (w5).cell? ⟨r5, 0, none⟩ = some (.int .i64 p1) := k5.cell 0; have k51 : (w5).cell? ⟨r5, 1, none⟩ = some (.int .i64 p2) := k5.cell 1; have k52 : (w5).cell? ⟨r5, 2, none⟩ = some (.int .i64 p3) := k5.cell 2; have k53 : (w5).cell? ⟨r5, 3, none⟩ = some (.int .i64 p4) := k5.cell 3; have k54 : (w5).cell? ⟨r5, 4, none⟩ = some (.int .i64 p5) := k5.cell 4; have k55 : (w5).cell? ⟨r5, 5, none⟩ = some (.int .i64 p6) := k5.cell 5; have k5l : r5 < (w5).heap.size := k5.lt
    go_wp2_with fail
    (go_at_call 8; refine (c_eqTriangle _ _ _ _ _ _ _).mono ?_; rintro e w6 ⟨rfl, hb6⟩; obtain ⟨hc6, hf6⟩ := bcell hb6; have hz6 := hb6.size; (try simp only [World.size_alloc] at hz6); (try (have hy6 : w.heap.size < w6.heap.size := by omega)); (try (have hx6 := Nat.lt_of_succ_le hz6)); (try (have hv6 := Nat.lt_of_succ_le (Nat.le_of_lt hx6))); (try (have hy6_1 : w1.heap.size < w6.heap.size := by omega)); (try (have hy6_2 : w2.heap.size < w6.heap.size := by omega)); (try (have hy6_3 : w3.heap.size < w6.heap.size := by omega)); (try (have hy6_4 : w4.heap.size < w6.heap.size := by omega)); (try (have hy6_5 : w5.heap.size < w6.heap.size := by omega)))
    have hs5 := hB5.size
    go_wp2
    go_ret
    refine ⟨rfl, ?_⟩
    (repeat' (first | (with_reducible exact Below.refl _ _) | (with_reducible refine below_step (by assumption) ?_ ?_) | (with_reducible refine Below.alloc ?_ ?_ _) | (with_reducible refine Below.setCell ?_ ?_ _) | (with_reducible refine below_drewN ?_ _) | (with_reducible refine Below.drew ?_) | omega | (simp; omega) | (simp; done)))
end Go.Proofs.Ytcnfjapoopdiaaa

/- Vl -/
namespace Go.Proofs.Ytcnfjapoopdiaaa
open Go.RowKit

noncomputable def vlB (n p q r s t u : Int) : Bool := itOk n p q r s t u && tIs n p q r s t u
theorem vlB_of {n p q r s t u : Int} (h : vlB n p q r s t u = true) : areaB n = true ∧ triOk p q r s t u = true ∧ tOk p q r s t u = true ∧ tIs n p q r s t u = true := by
  unfold vlB itOk at h
  simp only [Bool.and_eq_true] at h
  exact ⟨h.1.1.1, h.1.1.2, h.1.2, h.2⟩
theorem c_cnValid (n p q r s t u : Int) (w : World) :
    Calls Try.prog 47 #[.int .i64 n, .agg #[.int .i64 p, .int .i64 q, .int .i64 r, .int .i64 s, .int .i64 t, .int .i64 u]] w fun e w' => e = .returned (.bool (vlB n p q r s t u)) ∧ Below w.heap.size w w' := by
  have hc := fun w => c_sIsTriangle n p q r s t u w
  unfold vlB
  generalize itOk n p q r s t u = o at *
  generalize tIs n p q r s t u = i at *
  have HC := Lib.hid hc
  clear hc
  cases o <;> cases i
  all_goals
    go_enter Try.func47, Try.ntmps47
    go_wp2_with fail
    (go_at_call 13; refine (HC.out _).mono ?_; rintro e w1 ⟨rfl, hb1⟩; obtain ⟨hc1, hf1⟩ := bcell hb1; have hz1 := hb1.size; (try simp only [World.size_alloc] at hz1); (try (have hy1 : w.heap.size < w1.heap.size := by omega)); (try (have hx1 := Nat.lt_of_succ_le hz1)); (try (have hv1 := Nat.lt_of_succ_le (Nat.le_of_lt hx1))))
    go_wp2
    go_ret
    refine ⟨rfl, ?_⟩
    (repeat' (first | (with_reducible exact Below.refl _ _) | (with_reducible refine below_step (by assumption) ?_ ?_) | (with_reducible refine Below.alloc ?_ ?_ _) | (with_reducible refine Below.setCell ?_ ?_ _) | (with_reducible refine below_drewN ?_ _) | (with_reducible refine Below.drew ?_) | omega | (simp; omega) | (simp; done)))
end Go.Proofs.Ytcnfjapoopdiaaa

/- PotD -/
namespace Go.Proofs.Ytcnfjapoopdiaaa
open Go.RowKit

def potP (w : World) (a b c : Int) (o : Bool) (x : Ending) (w' : World) : Prop := x = .returned (.tuple #[if o then .agg #[.int .i64 a, .int .i64 b, .int .i64 c] else .agg #[.int .i64 0, .int .i64 0, .int .i64 0], .bool o]) ∧ Below w.heap.size w w'
theorem potP_no {w w' : World} {a b c : Int} {o : Bool} (h : o = false) (hb : Below w.heap.size w w') : potP w a b c o (.returned (.tuple #[.agg #[.int .i64 0, .int .i64 0, .int .i64 0], .bool false])) w' := by rw [h]; exact ⟨rfl, hb⟩
theorem potP_yes {w w' : World} {a b c : Int} {o : Bool} (h : o = true) (hb : Below w.heap.size w w') : potP w a b c o (.returned (.tuple #[.agg #[.int .i64 a, .int .i64 b, .int .i64 c], .bool true])) w' := by rw [h]; exact ⟨rfl, hb⟩
theorem neB {x y : Int} {b : Bool} (h : (x == y) = b) : (x != y) = !b := by unfold bne; rw [h]
end Go.Proofs.Ytcnfjapoopdiaaa
