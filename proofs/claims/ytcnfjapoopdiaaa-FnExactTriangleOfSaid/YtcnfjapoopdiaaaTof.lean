/- Walks: the triangle of a point, the reference's. -/
import Derived.Test.YtcnfjapoopdiaaaScal
import Derived.Deep.Cut
namespace Go.Proofs.Ytcnfjapoopdiaaa
open Go.RowKit

def tofP (w : World) (a b c d e f : Int) (o : Bool) (x : Ending) (w' : World) : Prop := TriPost w (if o then ordV a b c d e f else tri0) o x w'
theorem tofP_no {w w' : World} {a b c d e f : Int} {o : Bool} (h : o = false) (hb : Below w.heap.size w w') : tofP w a b c d e f o (.returned (.tuple #[.agg #[.int .i64 0, .int .i64 0, .int .i64 0, .int .i64 0, .int .i64 0, .int .i64 0], .bool false])) w' := by rw [h]; exact ⟨rfl, hb⟩
theorem tofP_yes {w w' : World} {a b c d e f p1 p2 p3 p4 p5 p6 : Int} {o : Bool} (h : o = true) (hV : ordV a b c d e f = .agg #[.int .i64 p1, .int .i64 p2, .int .i64 p3, .int .i64 p4, .int .i64 p5, .int .i64 p6]) (hb : Below w.heap.size w w') : tofP w a b c d e f o (.returned (.tuple #[.agg #[.int .i64 p1, .int .i64 p2, .int .i64 p3, .int .i64 p4, .int .i64 p5, .int .i64 p6], .bool true])) w' := by
  rw [h]; unfold tofP; rw [if_pos rfl, hV]; exact ⟨rfl, hb⟩
set_option maxHeartbeats 2000000 in
set_option maxRecDepth 100000 in
theorem c_cnTriangle_of (n x1 x2 y1 y2 a1 b1 a2 b2 a3 b3 a4 b4 a5 b5 a6 b6 a7 b7 a8 b8 a9 b9 : Int) (m1 m2 m3 m4 m5 m6 m7 m8 m9 : Bool) (hn : 1 ≤ n ∧ n ≤ 31)
    (H1 : Hid (∀ w : World, Calls Try.prog 57 #[.agg #[.int .i64 x1, .int .i64 x2], .agg #[.int .i64 n, .int .i64 1]] w fun e w' => e = .returned (.tuple #[.agg #[.int .i64 a1, .int .i64 b1], .bool m1]) ∧ Below w.heap.size w w'))
    (H2 : Hid (∀ w : World, Calls Try.prog 48 #[.agg #[.int .i64 x1, .int .i64 x2], .agg #[.int .i64 n, .int .i64 1]] w fun e w' => e = .returned (.tuple #[.agg #[.int .i64 a2, .int .i64 b2], .bool m2]) ∧ Below w.heap.size w w'))
    (H3 : Hid (∀ w : World, Calls Try.prog 49 #[.agg #[.int .i64 x1, .int .i64 x2], .agg #[.int .i64 x1, .int .i64 x2]] w fun e w' => e = .returned (.tuple #[.agg #[.int .i64 a3, .int .i64 b3], .bool m3]) ∧ Below w.heap.size w w'))
    (H4 : Hid (∀ w : World, Calls Try.prog 51 #[.agg #[.int .i64 x1, .int .i64 x2], .agg #[.int .i64 y1, .int .i64 y2]] w fun e w' => e = .returned (.tuple #[.agg #[.int .i64 a4, .int .i64 b4], .bool m4]) ∧ Below w.heap.size w w'))
    (H5 : m2 = true → Hid (∀ w : World, Calls Try.prog 51 #[.agg #[.int .i64 a2, .int .i64 b2], .agg #[.int .i64 y1, .int .i64 y2]] w fun e w' => e = .returned (.tuple #[.agg #[.int .i64 a5, .int .i64 b5], .bool m5]) ∧ Below w.heap.size w w'))
    (H6 : m3 = true → Hid (∀ w : World, Calls Try.prog 48 #[.agg #[.int .i64 a3, .int .i64 b3], .agg #[.int .i64 (n * n), .int .i64 1]] w fun e w' => e = .returned (.tuple #[.agg #[.int .i64 a6, .int .i64 b6], .bool m6]) ∧ Below w.heap.size w w'))
    (H7 : m4 = true → Hid (∀ w : World, Calls Try.prog 49 #[.agg #[.int .i64 (2 * n), .int .i64 1], .agg #[.int .i64 a4, .int .i64 b4]] w fun e w' => e = .returned (.tuple #[.agg #[.int .i64 a7, .int .i64 b7], .bool m7]) ∧ Below w.heap.size w w'))
    (H8 : m1 = true → m5 = true → Hid (∀ w : World, Calls Try.prog 49 #[.agg #[.int .i64 a1, .int .i64 b1], .agg #[.int .i64 a5, .int .i64 b5]] w fun e w' => e = .returned (.tuple #[.agg #[.int .i64 a8, .int .i64 b8], .bool m8]) ∧ Below w.heap.size w w'))
    (H9 : m6 = true → Hid (∀ w : World, Calls Try.prog 51 #[.agg #[.int .i64 a6, .int .i64 b6], .agg #[.int .i64 y1, .int .i64 y2]] w fun e w' => e = .returned (.tuple #[.agg #[.int .i64 a9, .int .i64 b9], .bool m9]) ∧ Below w.heap.size w w'))
    (HO : m8 = true → m7 = true → m9 = true → ∀ w : World, Calls Try.prog 75 #[.agg #[.int .i64 a8, .int .i64 b8], .agg #[.int .i64 a7, .int .i64 b7], .agg #[.int .i64 a9, .int .i64 b9]] w fun e w' => e = .returned (ordV a8 b8 a7 b7 a9 b9) ∧ Below w.heap.size w w') (w : World) :
    Calls Try.prog 31 #[.int .i64 n, .agg #[.int .i64 x1, .int .i64 x2], .agg #[.int .i64 y1, .int .i64 y2]] w (tofP w a8 b8 a7 b7 a9 b9 (m1 && m2 && m3 && m4 && (m5 && m6 && m7) && (m8 && m9))) := by
  obtain ⟨o, ho⟩ : ∃ o, (m1 && m2 && m3 && m4 && (m5 && m6 && m7) && (m8 && m9)) = o := ⟨_, rfl⟩
  rw [ho]
  have HM := Lib.hid ho
  clear ho
  have H5' := Lib.hid H5
  have H6' := Lib.hid H6
  have H7' := Lib.hid H7
  have H8' := Lib.hid H8
  have H9' := Lib.hid H9
  have HO' := Lib.hid HO
  clear H5 H6 H7 H8 H9 HO
  have kX := ((Blk.new w #[.int .i64 x1, .int .i64 x2] 25).alloc (.cells #[.int .i64 y1, .int .i64 y2] 25)).alloc (.cells #[.int .i64 0, .int .i64 0, .int .i64 0, .int .i64 0, .int .i64 0, .int .i64 0] 27)
  have kY := (Blk.new (w.alloc (.cells #[.int .i64 x1, .int .i64 x2] 25)) #[.int .i64 y1, .int .i64 y2] 25).alloc (.cells #[.int .i64 0, .int .i64 0, .int .i64 0, .int .i64 0, .int .i64 0, .int .i64 0] 27)
  have kT := Blk.new ((w.alloc (.cells #[.int .i64 x1, .int .i64 x2] 25)).alloc (.cells #[.int .i64 y1, .int .i64 y2] 25)) #[.int .i64 0, .int .i64 0, .int .i64 0, .int .i64 0, .int .i64 0, .int .i64 0] 27
  have hB : Below w.heap.size w (((w.alloc (.cells #[.int .i64 x1, .int .i64 x2] 25)).alloc (.cells #[.int .i64 y1, .int .i64 y2] 25)).alloc (.cells #[.int .i64 0, .int .i64 0, .int .i64 0, .int .i64 0, .int .i64 0, .int .i64 0] 27)) := by (repeat' (first | (with_reducible exact Below.refl _ _) | (with_reducible refine below_step (by assumption) ?_ ?_) | (with_reducible refine Below.alloc ?_ ?_ _) | (with_reducible refine Below.setCell ?_ ?_ _) | (with_reducible refine below_drewN ?_ _) | (with_reducible refine Below.drew ?_) | omega | (simp; omega) | (simp; done)))
  simp only [World.size_alloc] at kY kT
  have hs := hB.size
  have HI := Lib.hid (fun k w => c_frInt k w)
  go_enter Try.func31, Try.ntmps31
  go_wp2
  generalize ((w.alloc _).alloc _).alloc _ = W at *
  have kX0 : (W).cell? ⟨w.heap.size, 0, none⟩ = some (.int .i64 x1) := kX.cell 0; have kX1 : (W).cell? ⟨w.heap.size, 1, none⟩ = some (.int .i64 x2) := kX.cell 1; have kXl : w.heap.size < (W).heap.size := kX.lt
  apply region_join1 (fun r8 Wz => Over [] W Wz ∧ (fun _ => True) Wz ∧ W.heap.size ≤ r8 ∧ Blk r8 #[.int .i64 a1, .int .i64 b1] 25 Wz)
  · intro hcont
    refine wp_region_cls [] (fun _ => false) (fun _ => True) (KD (fun _ => True) []) (by kernel_rfl) ⟨trivial, MemL.nil _⟩ ?_
    apply wpAnyF_hd ⟨W, Over.refl _ _, trivial, MemL.nil _⟩ [true, true, true, true, true, true, true] 3 (KD.closed (Closed.true) _) (fun _ _ => trivial) (by kernel_rfl) (by kernel_rfl) (by kernel_rfl) (by kernel_rfl) (by simp)
    · intro E hE hEN hEn; (repeat (first | (refine wpHL_take ?_; go_big_quiet_step ((first | (go_at_call 50; exact Calls.quiet_cls hE _ (HI.out _ _)) | (go_at_call 57; exact Calls.quiet_cls hE _ (H1.out _)))); refine wpQuiet_nil ?_) | refine wpHL_skip ?_)); exact wpHL_end rfl
    refine wpAnyF_ready [7] 2 (by kernel_rfl) (by kernel_rfl) (by simp) ?_
    refine AllF.cons ?_ ?_
    · refine stepK_alloc (zs := #[.int .i64 0, .int .i64 0]) (T := 25) (by rfl) (by rfl) (by rfl) (fun _ => by go_simp) (Closed.true) (fun r8 hr8 hl8 hne => ?_)
      simp only [Act.put, List.setIfInBounds_toArray, List.set_cons_succ, List.set_cons_zero]
      refine wpAnyF_ready [8] 1 (by kernel_rfl) (by kernel_rfl) (by simp) ?_
      refine AllF.cons ?_ ?_
      · refine stepK_store (v := .agg #[.int .i64 a1, .int .i64 b1]) [] [] (by rfl) (by rfl) (by rfl) (by rfl) (by rfl) (by rfl) (fun _ => by go_simp) (by rfl) (by simp [Value.cells, one1]) (.inl hr8) (Closed.true) (fun _ _ h _ => h) (by simp) (fun hne => ?_)
        try simp only [Value.cells]
        apply wpAnyF_hd hne [false, false, false, false, false, false, false, false, false, true] 0 (KD.closed (Closed.true) _) (fun _ _ => trivial) (by kernel_rfl) (by kernel_rfl) (by kernel_rfl) (by kernel_rfl) (by simp)
        · intro E hE hEN hEn; (repeat (first | (refine wpHL_take ?_; go_big_quiet_step ((first | (go_at_call 50; exact Calls.quiet_cls hE _ (HI.out _ _)) | (go_at_call 57; exact Calls.quiet_cls hE _ (H1.out _)))); refine wpQuiet_nil ?_) | refine wpHL_skip ?_)); exact wpHL_end rfl
        refine wpAnyF_done (by kernel_rfl) (fun Wz hOz hDz => ?_) _
        exact hcont r8 Wz ⟨hOz, hDz.1, (by omega), hDz.2.head⟩
      exact AllF.nil
    exact AllF.nil
  try dsimp only
  rintro r8 W1 ⟨hO1, _, hr1, k1⟩
  have hq1 := hO1.below
  clear hO1 kX0 kX1 kXl
  replace kX := kX.next hq1
  replace kY := kY.next hq1
  replace kT := kT.next hq1
  replace hB := below_step hq1 hs hB
  replace hs := hB.size
  clear hq1
  have kX0 : (W1).cell? ⟨w.heap.size, 0, none⟩ = some (.int .i64 x1) := kX.cell 0; have kX1 : (W1).cell? ⟨w.heap.size, 1, none⟩ = some (.int .i64 x2) := kX.cell 1; have kXl : w.heap.size < (W1).heap.size := kX.lt
  go_wp2
  apply region_join1 (fun r10 Wz => Over [] W1 Wz ∧ (fun _ => True) Wz ∧ W1.heap.size ≤ r10 ∧ Blk r10 #[.int .i64 a2, .int .i64 b2] 25 Wz)
  · intro hcont
    refine wp_region_cls [] (fun _ => false) (fun _ => True) (KD (fun _ => True) []) (by kernel_rfl) ⟨trivial, MemL.nil _⟩ ?_
    apply wpAnyF_hd ⟨W1, Over.refl _ _, trivial, MemL.nil _⟩ [true, true, true, true, true, true, true] 3 (KD.closed (Closed.true) _) (fun _ _ => trivial) (by kernel_rfl) (by kernel_rfl) (by kernel_rfl) (by kernel_rfl) (by simp)
    · intro E hE hEN hEn; (repeat (first | (refine wpHL_take ?_; go_big_quiet_step ((first | (go_at_call 50; exact Calls.quiet_cls hE _ (HI.out _ _)) | (go_at_call 48; exact Calls.quiet_cls hE _ (H2.out _)))); refine wpQuiet_nil ?_) | refine wpHL_skip ?_)); exact wpHL_end rfl
    refine wpAnyF_ready [7] 2 (by kernel_rfl) (by kernel_rfl) (by simp) ?_
    refine AllF.cons ?_ ?_
    · refine stepK_alloc (zs := #[.int .i64 0, .int .i64 0]) (T := 25) (by rfl) (by rfl) (by rfl) (fun _ => by go_simp) (Closed.true) (fun r10 hr10 hl10 hne => ?_)
      simp only [Act.put, List.setIfInBounds_toArray, List.set_cons_succ, List.set_cons_zero]
      refine wpAnyF_ready [8] 1 (by kernel_rfl) (by kernel_rfl) (by simp) ?_
      refine AllF.cons ?_ ?_
      · refine stepK_store (v := .agg #[.int .i64 a2, .int .i64 b2]) [] [] (by rfl) (by rfl) (by rfl) (by rfl) (by rfl) (by rfl) (fun _ => by go_simp) (by rfl) (by simp [Value.cells, one1]) (.inl hr10) (Closed.true) (fun _ _ h _ => h) (by simp) (fun hne => ?_)
        try simp only [Value.cells]
        apply wpAnyF_hd hne [false, false, false, false, false, false, false, false, false, true] 0 (KD.closed (Closed.true) _) (fun _ _ => trivial) (by kernel_rfl) (by kernel_rfl) (by kernel_rfl) (by kernel_rfl) (by simp)
        · intro E hE hEN hEn; (repeat (first | (refine wpHL_take ?_; go_big_quiet_step ((first | (go_at_call 50; exact Calls.quiet_cls hE _ (HI.out _ _)) | (go_at_call 48; exact Calls.quiet_cls hE _ (H2.out _)))); refine wpQuiet_nil ?_) | refine wpHL_skip ?_)); exact wpHL_end rfl
        refine wpAnyF_done (by kernel_rfl) (fun Wz hOz hDz => ?_) _
        exact hcont r10 Wz ⟨hOz, hDz.1, (by omega), hDz.2.head⟩
      exact AllF.nil
    exact AllF.nil
  try dsimp only
  rintro r10 W2 ⟨hO2, _, hr2, k2⟩
  have hq2 := hO2.below
  clear hO2 kX0 kX1 kXl
  replace kX := kX.next hq2
  replace kY := kY.next hq2
  replace kT := kT.next hq2
  replace k1 := k1.next hq2
  replace hB := below_step hq2 hs hB
  replace hs := hB.size
  clear hq2
  have kX0 : (W2).cell? ⟨w.heap.size, 0, none⟩ = some (.int .i64 x1) := kX.cell 0; have kX1 : (W2).cell? ⟨w.heap.size, 1, none⟩ = some (.int .i64 x2) := kX.cell 1; have kXl : w.heap.size < (W2).heap.size := kX.lt
  go_wp2_with fail
  refine (H3.out _).mono ?_
  rintro e u3 ⟨rfl, hb3⟩
  clear kX0 kX1 kXl
  replace kX := kX.next hb3
  replace kY := kY.next hb3
  replace kT := kT.next hb3
  replace k1 := k1.next hb3
  replace k2 := k2.next hb3
  replace hB := below_step hb3 hs hB
  replace hs := hB.size
  clear hb3
  replace kX := kX.alloc (.cells #[.int .i64 a3, .int .i64 b3] 25)
  replace kY := kY.alloc (.cells #[.int .i64 a3, .int .i64 b3] 25)
  replace kT := kT.alloc (.cells #[.int .i64 a3, .int .i64 b3] 25)
  replace k1 := k1.alloc (.cells #[.int .i64 a3, .int .i64 b3] 25)
  replace k2 := k2.alloc (.cells #[.int .i64 a3, .int .i64 b3] 25)
  have k3 := Blk.new u3 #[.int .i64 a3, .int .i64 b3] 25
  replace hB := hB.alloc hs (.cells #[.int .i64 a3, .int .i64 b3] 25)
  replace hs := hB.size
  go_upto_region 4 with (fail)
  generalize u3.alloc _ = W3 at *
  generalize u3.heap.size = r12 at *
  have kX0 : (W3).cell? ⟨w.heap.size, 0, none⟩ = some (.int .i64 x1) := kX.cell 0; have kX1 : (W3).cell? ⟨w.heap.size, 1, none⟩ = some (.int .i64 x2) := kX.cell 1; have kXl : w.heap.size < (W3).heap.size := kX.lt
  have kY0 : (W3).cell? ⟨w.heap.size + 1, 0, none⟩ = some (.int .i64 y1) := kY.cell 0; have kY1 : (W3).cell? ⟨w.heap.size + 1, 1, none⟩ = some (.int .i64 y2) := kY.cell 1; have kYl : w.heap.size + 1 < (W3).heap.size := kY.lt
  go_wp2_with fail
  refine (H4.out _).mono ?_
  rintro e u4 ⟨rfl, hb4⟩
  clear kX0 kX1 kXl kY0 kY1 kYl
  replace kX := kX.next hb4
  replace kY := kY.next hb4
  replace kT := kT.next hb4
  replace k1 := k1.next hb4
  replace k2 := k2.next hb4
  replace k3 := k3.next hb4
  replace hB := below_step hb4 hs hB
  replace hs := hB.size
  clear hb4
  replace kX := kX.alloc (.cells #[.int .i64 a4, .int .i64 b4] 25)
  replace kY := kY.alloc (.cells #[.int .i64 a4, .int .i64 b4] 25)
  replace kT := kT.alloc (.cells #[.int .i64 a4, .int .i64 b4] 25)
  replace k1 := k1.alloc (.cells #[.int .i64 a4, .int .i64 b4] 25)
  replace k2 := k2.alloc (.cells #[.int .i64 a4, .int .i64 b4] 25)
  replace k3 := k3.alloc (.cells #[.int .i64 a4, .int .i64 b4] 25)
  have k4 := Blk.new u4 #[.int .i64 a4, .int .i64 b4] 25
  replace hB := hB.alloc hs (.cells #[.int .i64 a4, .int .i64 b4] 25)
  replace hs := hB.size
  go_upto_region 5 with (fail)
  generalize u4.alloc _ = W4 at *
  generalize u4.heap.size = r14 at *
  have HMF : Hid ((m1 && m2 && m3 && m4) = false → o = false) := fun h => by have := HM.out; rw [h] at this; simpa using this.symm
  by_cases hm : (m1 && m2 && m3 && m4) = true
  · obtain ⟨⟨⟨rfl, rfl⟩, rfl⟩, rfl⟩ : ((m1 = true ∧ m2 = true) ∧ m3 = true) ∧ m4 = true := by simpa using hm
    have J5 := Lib.hid ((H5'.out rfl).out)
    have J6 := Lib.hid ((H6'.out rfl).out)
    have J7 := Lib.hid ((H7'.out rfl).out)
    have J8 := Lib.hid (H8'.out rfl)
    clear H5' H6' H7' H8' hm HMF H1 H2 H3 H4
    have k20 : (W4).cell? ⟨r10, 0, none⟩ = some (.int .i64 a2) := k2.cell 0; have k21 : (W4).cell? ⟨r10, 1, none⟩ = some (.int .i64 b2) := k2.cell 1; have k2l : r10 < (W4).heap.size := k2.lt
    have kY0 : (W4).cell? ⟨w.heap.size + 1, 0, none⟩ = some (.int .i64 y1) := kY.cell 0; have kY1 : (W4).cell? ⟨w.heap.size + 1, 1, none⟩ = some (.int .i64 y2) := kY.cell 1; have kYl : w.heap.size + 1 < (W4).heap.size := kY.lt
    go_wp2_with fail
    refine (J5.out _).mono ?_
    rintro e u5 ⟨rfl, hb5⟩
    clear k20 k21 k2l kY0 kY1 kYl
    replace kX := kX.next hb5
    replace kY := kY.next hb5
    replace kT := kT.next hb5
    replace k1 := k1.next hb5
    replace k2 := k2.next hb5
    replace k3 := k3.next hb5
    replace k4 := k4.next hb5
    replace hB := below_step hb5 hs hB
    replace hs := hB.size
    clear hb5
    replace kX := kX.alloc (.cells #[.int .i64 a5, .int .i64 b5] 25)
    replace kY := kY.alloc (.cells #[.int .i64 a5, .int .i64 b5] 25)
    replace kT := kT.alloc (.cells #[.int .i64 a5, .int .i64 b5] 25)
    replace k1 := k1.alloc (.cells #[.int .i64 a5, .int .i64 b5] 25)
    replace k2 := k2.alloc (.cells #[.int .i64 a5, .int .i64 b5] 25)
    replace k3 := k3.alloc (.cells #[.int .i64 a5, .int .i64 b5] 25)
    replace k4 := k4.alloc (.cells #[.int .i64 a5, .int .i64 b5] 25)
    have k5 := Blk.new u5 #[.int .i64 a5, .int .i64 b5] 25
    replace hB := hB.alloc hs (.cells #[.int .i64 a5, .int .i64 b5] 25)
    replace hs := hB.size
    go_upto_region 8 with (fail)
    generalize u5.alloc _ = W5 at *
    generalize u5.heap.size = r16 at *
    have nn : (1 ≤ n * n ∧ n * n ≤ 961) := ⟨by have := Int.mul_le_mul hn.1 hn.1 (by omega) (by omega); omega, by have := Int.mul_le_mul hn.2 hn.2 (by omega) (by omega); omega⟩
    have hwn : IntKind.i64.wrap (n * n) = n * n := IntWalk.i64_in _ (by omega)
    have hw2 : IntKind.i64.wrap (2 * n) = 2 * n := IntWalk.i64_in _ (by omega)
    have k30 : (W5).cell? ⟨r12, 0, none⟩ = some (.int .i64 a3) := k3.cell 0; have k31 : (W5).cell? ⟨r12, 1, none⟩ = some (.int .i64 b3) := k3.cell 1; have k3l : r12 < (W5).heap.size := k3.lt
    go_wp2
    apply region_join1 (fun r18 Wz => Over [] W5 Wz ∧ (fun _ => True) Wz ∧ W5.heap.size ≤ r18 ∧ Blk r18 #[.int .i64 a6, .int .i64 b6] 25 Wz)
    · intro hcont
      refine wp_region_cls [] (fun _ => false) (fun _ => True) (KD (fun _ => True) []) (by kernel_rfl) ⟨trivial, MemL.nil _⟩ ?_
      apply wpAnyF_hd ⟨W5, Over.refl _ _, trivial, MemL.nil _⟩ [true, true, true, true, true, true, true, true, true] 3 (KD.closed (Closed.true) _) (fun _ _ => trivial) (by kernel_rfl) (by kernel_rfl) (by kernel_rfl) (by kernel_rfl) (by simp)
      · intro E hE hEN hEn; (repeat (first | (refine wpHL_take ?_; go_big_quiet_step ((first | (go_at_call 50; exact Calls.quiet_cls hE _ (HI.out _ _)) | (go_at_call 48; exact Calls.quiet_cls hE _ (J6.out _)))); refine wpQuiet_nil ?_) | refine wpHL_skip ?_)); exact wpHL_end rfl
      refine wpAnyF_ready [9] 2 (by kernel_rfl) (by kernel_rfl) (by simp) ?_
      refine AllF.cons ?_ ?_
      · refine stepK_alloc (zs := #[.int .i64 0, .int .i64 0]) (T := 25) (by rfl) (by rfl) (by rfl) (fun _ => by go_simp) (Closed.true) (fun r18 hr18 hl18 hne => ?_)
        simp only [Act.put, List.setIfInBounds_toArray, List.set_cons_succ, List.set_cons_zero]
        refine wpAnyF_ready [10] 1 (by kernel_rfl) (by kernel_rfl) (by simp) ?_
        refine AllF.cons ?_ ?_
        · refine stepK_store (v := .agg #[.int .i64 a6, .int .i64 b6]) [] [] (by rfl) (by rfl) (by rfl) (by rfl) (by rfl) (by rfl) (fun _ => by go_simp) (by rfl) (by simp [Value.cells, one1]) (.inl hr18) (Closed.true) (fun _ _ h _ => h) (by simp) (fun hne => ?_)
          try simp only [Value.cells]
          apply wpAnyF_hd hne [false, false, false, false, false, false, false, false, false, false, false, true] 0 (KD.closed (Closed.true) _) (fun _ _ => trivial) (by kernel_rfl) (by kernel_rfl) (by kernel_rfl) (by kernel_rfl) (by simp)
          · intro E hE hEN hEn; (repeat (first | (refine wpHL_take ?_; go_big_quiet_step ((first | (go_at_call 50; exact Calls.quiet_cls hE _ (HI.out _ _)) | (go_at_call 48; exact Calls.quiet_cls hE _ (J6.out _)))); refine wpQuiet_nil ?_) | refine wpHL_skip ?_)); exact wpHL_end rfl
          refine wpAnyF_done (by kernel_rfl) (fun Wz hOz hDz => ?_) _
          exact hcont r18 Wz ⟨hOz, hDz.1, (by omega), hDz.2.head⟩
        exact AllF.nil
      exact AllF.nil
    try dsimp only
    rintro r18 W6 ⟨hO6, _, hr6, k6⟩
    have hq6 := hO6.below
    clear hO6 k30 k31 k3l
    replace kX := kX.next hq6
    replace kY := kY.next hq6
    replace kT := kT.next hq6
    replace k1 := k1.next hq6
    replace k2 := k2.next hq6
    replace k3 := k3.next hq6
    replace k4 := k4.next hq6
    replace k5 := k5.next hq6
    replace hB := below_step hq6 hs hB
    replace hs := hB.size
    clear hq6
    have k40 : (W6).cell? ⟨r14, 0, none⟩ = some (.int .i64 a4) := k4.cell 0; have k41 : (W6).cell? ⟨r14, 1, none⟩ = some (.int .i64 b4) := k4.cell 1; have k4l : r14 < (W6).heap.size := k4.lt
    go_wp2
    apply region_join1 (fun r20 Wz => Over [] W6 Wz ∧ (fun _ => True) Wz ∧ W6.heap.size ≤ r20 ∧ Blk r20 #[.int .i64 a7, .int .i64 b7] 25 Wz)
    · intro hcont
      refine wp_region_cls [] (fun _ => false) (fun _ => True) (KD (fun _ => True) []) (by kernel_rfl) ⟨trivial, MemL.nil _⟩ ?_
      apply wpAnyF_hd ⟨W6, Over.refl _ _, trivial, MemL.nil _⟩ [true, true, true, true, true, true, true, true] 3 (KD.closed (Closed.true) _) (fun _ _ => trivial) (by kernel_rfl) (by kernel_rfl) (by kernel_rfl) (by kernel_rfl) (by simp)
      · intro E hE hEN hEn; (repeat (first | (refine wpHL_take ?_; go_big_quiet_step ((first | (go_at_call 50; exact Calls.quiet_cls hE _ (HI.out _ _)) | (go_at_call 49; exact Calls.quiet_cls hE _ (J7.out _)))); refine wpQuiet_nil ?_) | refine wpHL_skip ?_)); exact wpHL_end rfl
      refine wpAnyF_ready [8] 2 (by kernel_rfl) (by kernel_rfl) (by simp) ?_
      refine AllF.cons ?_ ?_
      · refine stepK_alloc (zs := #[.int .i64 0, .int .i64 0]) (T := 25) (by rfl) (by rfl) (by rfl) (fun _ => by go_simp) (Closed.true) (fun r20 hr20 hl20 hne => ?_)
        simp only [Act.put, List.setIfInBounds_toArray, List.set_cons_succ, List.set_cons_zero]
        refine wpAnyF_ready [9] 1 (by kernel_rfl) (by kernel_rfl) (by simp) ?_
        refine AllF.cons ?_ ?_
        · refine stepK_store (v := .agg #[.int .i64 a7, .int .i64 b7]) [] [] (by rfl) (by rfl) (by rfl) (by rfl) (by rfl) (by rfl) (fun _ => by go_simp) (by rfl) (by simp [Value.cells, one1]) (.inl hr20) (Closed.true) (fun _ _ h _ => h) (by simp) (fun hne => ?_)
          try simp only [Value.cells]
          apply wpAnyF_hd hne [false, false, false, false, false, false, false, false, false, false, true] 0 (KD.closed (Closed.true) _) (fun _ _ => trivial) (by kernel_rfl) (by kernel_rfl) (by kernel_rfl) (by kernel_rfl) (by simp)
          · intro E hE hEN hEn; (repeat (first | (refine wpHL_take ?_; go_big_quiet_step ((first | (go_at_call 50; exact Calls.quiet_cls hE _ (HI.out _ _)) | (go_at_call 49; exact Calls.quiet_cls hE _ (J7.out _)))); refine wpQuiet_nil ?_) | refine wpHL_skip ?_)); exact wpHL_end rfl
          refine wpAnyF_done (by kernel_rfl) (fun Wz hOz hDz => ?_) _
          exact hcont r20 Wz ⟨hOz, hDz.1, (by omega), hDz.2.head⟩
        exact AllF.nil
      exact AllF.nil
    try dsimp only
    rintro r20 W7 ⟨hO7, _, hr7, k7⟩
    have hq7 := hO7.below
    clear hO7 k40 k41 k4l
    replace kX := kX.next hq7
    replace kY := kY.next hq7
    replace kT := kT.next hq7
    replace k1 := k1.next hq7
    replace k2 := k2.next hq7
    replace k3 := k3.next hq7
    replace k4 := k4.next hq7
    replace k5 := k5.next hq7
    replace k6 := k6.next hq7
    replace hB := below_step hq7 hs hB
    replace hs := hB.size
    clear hq7
    have HMF : Hid ((m5 && m6 && m7 && m8 && m9) = false → o = false) := fun h => by
      have := HM.out
      revert this h
      cases m5 <;> cases m6 <;> cases m7 <;> cases m8 <;> cases m9 <;> simp <;> intro h <;> exact h.symm
    clear J5 J6 J7
    cases m5
    · have HZ := Lib.hid (HMF.out (by simp))
      clear HMF HM
      have kT0 : (W7).cell? ⟨w.heap.size + 1 + 1, 0, none⟩ = some (.int .i64 0) := kT.cell 0; have kT1 : (W7).cell? ⟨w.heap.size + 1 + 1, 1, none⟩ = some (.int .i64 0) := kT.cell 1; have kT2 : (W7).cell? ⟨w.heap.size + 1 + 1, 2, none⟩ = some (.int .i64 0) := kT.cell 2; have kT3 : (W7).cell? ⟨w.heap.size + 1 + 1, 3, none⟩ = some (.int .i64 0) := kT.cell 3; have kT4 : (W7).cell? ⟨w.heap.size + 1 + 1, 4, none⟩ = some (.int .i64 0) := kT.cell 4; have kT5 : (W7).cell? ⟨w.heap.size + 1 + 1, 5, none⟩ = some (.int .i64 0) := kT.cell 5; have kTf0 : (W7).frozen? ⟨w.heap.size + 1 + 1, 0, none⟩ = false := kT.frozen 0; have kTf1 : (W7).frozen? ⟨w.heap.size + 1 + 1, 1, none⟩ = false := kT.frozen 1; have kTf2 : (W7).frozen? ⟨w.heap.size + 1 + 1, 2, none⟩ = false := kT.frozen 2; have kTf3 : (W7).frozen? ⟨w.heap.size + 1 + 1, 3, none⟩ = false := kT.frozen 3; have kTf4 : (W7).frozen? ⟨w.heap.size + 1 + 1, 4, none⟩ = false := kT.frozen 4; have kTf5 : (W7).frozen? ⟨w.heap.size + 1 + 1, 5, none⟩ = false := kT.frozen 5; have kTl : w.heap.size + 1 + 1 < (W7).heap.size := kT.lt
      go_wp2
      have R := ((((((kT.set 0 (.int .i64 0)).set 1 (.int .i64 0)).set 2 (.int .i64 0)).set 3 (.int .i64 0)).set 4 (.int .i64 0)).set 5 (.int .i64 0))
      have hR : Below w.heap.size w ((((((W7.setCell ⟨w.heap.size + 1 + 1, 0, none⟩ (.int .i64 0)).setCell ⟨w.heap.size + 1 + 1, 1, none⟩ (.int .i64 0)).setCell ⟨w.heap.size + 1 + 1, 2, none⟩ (.int .i64 0)).setCell ⟨w.heap.size + 1 + 1, 3, none⟩ (.int .i64 0)).setCell ⟨w.heap.size + 1 + 1, 4, none⟩ (.int .i64 0)).setCell ⟨w.heap.size + 1 + 1, 5, none⟩ (.int .i64 0)) := by (repeat' (first | (with_reducible exact Below.refl _ _) | (with_reducible refine below_step (by assumption) ?_ ?_) | (with_reducible refine Below.alloc ?_ ?_ _) | (with_reducible refine Below.setCell ?_ ?_ _) | (with_reducible refine below_drewN ?_ _) | (with_reducible refine Below.drew ?_) | omega | (simp; omega) | (simp; done)))
      simp only [List.setIfInBounds_toArray, List.set_cons_zero, List.set_cons_succ] at R
      clear kT kT0 kT1 kT2 kT3 kT4 kT5 kTf0 kTf1 kTf2 kTf3 kTf4 kTf5 kTl
      generalize ((((((W7.setCell ⟨w.heap.size + 1 + 1, 0, none⟩ (.int .i64 0)).setCell ⟨w.heap.size + 1 + 1, 1, none⟩ (.int .i64 0)).setCell ⟨w.heap.size + 1 + 1, 2, none⟩ (.int .i64 0)).setCell ⟨w.heap.size + 1 + 1, 3, none⟩ (.int .i64 0)).setCell ⟨w.heap.size + 1 + 1, 4, none⟩ (.int .i64 0)).setCell ⟨w.heap.size + 1 + 1, 5, none⟩ (.int .i64 0)) = W9 at R hR ⊢
      have R0 : (W9).cell? ⟨w.heap.size + 1 + 1, 0, none⟩ = some (.int .i64 0) := R.cell 0; have R1 : (W9).cell? ⟨w.heap.size + 1 + 1, 1, none⟩ = some (.int .i64 0) := R.cell 1; have R2 : (W9).cell? ⟨w.heap.size + 1 + 1, 2, none⟩ = some (.int .i64 0) := R.cell 2; have R3 : (W9).cell? ⟨w.heap.size + 1 + 1, 3, none⟩ = some (.int .i64 0) := R.cell 3; have R4 : (W9).cell? ⟨w.heap.size + 1 + 1, 4, none⟩ = some (.int .i64 0) := R.cell 4; have R5 : (W9).cell? ⟨w.heap.size + 1 + 1, 5, none⟩ = some (.int .i64 0) := R.cell 5; have Rl : w.heap.size + 1 + 1 < (W9).heap.size := R.lt
      refine bodyPost_ret (v := .tuple #[.agg #[.int .i64 0, .int .i64 0, .int .i64 0, .int .i64 0, .int .i64 0, .int .i64 0], .bool false]) (by simp [results, Try.results31, go_sem, R0, R1, R2, R3, R4, R5]) rfl ?_
      exact tofP_no HZ.out hR
    cases m6
    · have HZ := Lib.hid (HMF.out (by simp))
      clear HMF HM
      have kT0 : (W7).cell? ⟨w.heap.size + 1 + 1, 0, none⟩ = some (.int .i64 0) := kT.cell 0; have kT1 : (W7).cell? ⟨w.heap.size + 1 + 1, 1, none⟩ = some (.int .i64 0) := kT.cell 1; have kT2 : (W7).cell? ⟨w.heap.size + 1 + 1, 2, none⟩ = some (.int .i64 0) := kT.cell 2; have kT3 : (W7).cell? ⟨w.heap.size + 1 + 1, 3, none⟩ = some (.int .i64 0) := kT.cell 3; have kT4 : (W7).cell? ⟨w.heap.size + 1 + 1, 4, none⟩ = some (.int .i64 0) := kT.cell 4; have kT5 : (W7).cell? ⟨w.heap.size + 1 + 1, 5, none⟩ = some (.int .i64 0) := kT.cell 5; have kTf0 : (W7).frozen? ⟨w.heap.size + 1 + 1, 0, none⟩ = false := kT.frozen 0; have kTf1 : (W7).frozen? ⟨w.heap.size + 1 + 1, 1, none⟩ = false := kT.frozen 1; have kTf2 : (W7).frozen? ⟨w.heap.size + 1 + 1, 2, none⟩ = false := kT.frozen 2; have kTf3 : (W7).frozen? ⟨w.heap.size + 1 + 1, 3, none⟩ = false := kT.frozen 3; have kTf4 : (W7).frozen? ⟨w.heap.size + 1 + 1, 4, none⟩ = false := kT.frozen 4; have kTf5 : (W7).frozen? ⟨w.heap.size + 1 + 1, 5, none⟩ = false := kT.frozen 5; have kTl : w.heap.size + 1 + 1 < (W7).heap.size := kT.lt
      go_wp2
      have R := ((((((kT.set 0 (.int .i64 0)).set 1 (.int .i64 0)).set 2 (.int .i64 0)).set 3 (.int .i64 0)).set 4 (.int .i64 0)).set 5 (.int .i64 0))
      have hR : Below w.heap.size w ((((((W7.setCell ⟨w.heap.size + 1 + 1, 0, none⟩ (.int .i64 0)).setCell ⟨w.heap.size + 1 + 1, 1, none⟩ (.int .i64 0)).setCell ⟨w.heap.size + 1 + 1, 2, none⟩ (.int .i64 0)).setCell ⟨w.heap.size + 1 + 1, 3, none⟩ (.int .i64 0)).setCell ⟨w.heap.size + 1 + 1, 4, none⟩ (.int .i64 0)).setCell ⟨w.heap.size + 1 + 1, 5, none⟩ (.int .i64 0)) := by (repeat' (first | (with_reducible exact Below.refl _ _) | (with_reducible refine below_step (by assumption) ?_ ?_) | (with_reducible refine Below.alloc ?_ ?_ _) | (with_reducible refine Below.setCell ?_ ?_ _) | (with_reducible refine below_drewN ?_ _) | (with_reducible refine Below.drew ?_) | omega | (simp; omega) | (simp; done)))
      simp only [List.setIfInBounds_toArray, List.set_cons_zero, List.set_cons_succ] at R
      clear kT kT0 kT1 kT2 kT3 kT4 kT5 kTf0 kTf1 kTf2 kTf3 kTf4 kTf5 kTl
      generalize ((((((W7.setCell ⟨w.heap.size + 1 + 1, 0, none⟩ (.int .i64 0)).setCell ⟨w.heap.size + 1 + 1, 1, none⟩ (.int .i64 0)).setCell ⟨w.heap.size + 1 + 1, 2, none⟩ (.int .i64 0)).setCell ⟨w.heap.size + 1 + 1, 3, none⟩ (.int .i64 0)).setCell ⟨w.heap.size + 1 + 1, 4, none⟩ (.int .i64 0)).setCell ⟨w.heap.size + 1 + 1, 5, none⟩ (.int .i64 0)) = W9 at R hR ⊢
      have R0 : (W9).cell? ⟨w.heap.size + 1 + 1, 0, none⟩ = some (.int .i64 0) := R.cell 0; have R1 : (W9).cell? ⟨w.heap.size + 1 + 1, 1, none⟩ = some (.int .i64 0) := R.cell 1; have R2 : (W9).cell? ⟨w.heap.size + 1 + 1, 2, none⟩ = some (.int .i64 0) := R.cell 2; have R3 : (W9).cell? ⟨w.heap.size + 1 + 1, 3, none⟩ = some (.int .i64 0) := R.cell 3; have R4 : (W9).cell? ⟨w.heap.size + 1 + 1, 4, none⟩ = some (.int .i64 0) := R.cell 4; have R5 : (W9).cell? ⟨w.heap.size + 1 + 1, 5, none⟩ = some (.int .i64 0) := R.cell 5; have Rl : w.heap.size + 1 + 1 < (W9).heap.size := R.lt
      refine bodyPost_ret (v := .tuple #[.agg #[.int .i64 0, .int .i64 0, .int .i64 0, .int .i64 0, .int .i64 0, .int .i64 0], .bool false]) (by simp [results, Try.results31, go_sem, R0, R1, R2, R3, R4, R5]) rfl ?_
      exact tofP_no HZ.out hR
    cases m7
    · have HZ := Lib.hid (HMF.out (by simp))
      clear HMF HM
      have kT0 : (W7).cell? ⟨w.heap.size + 1 + 1, 0, none⟩ = some (.int .i64 0) := kT.cell 0; have kT1 : (W7).cell? ⟨w.heap.size + 1 + 1, 1, none⟩ = some (.int .i64 0) := kT.cell 1; have kT2 : (W7).cell? ⟨w.heap.size + 1 + 1, 2, none⟩ = some (.int .i64 0) := kT.cell 2; have kT3 : (W7).cell? ⟨w.heap.size + 1 + 1, 3, none⟩ = some (.int .i64 0) := kT.cell 3; have kT4 : (W7).cell? ⟨w.heap.size + 1 + 1, 4, none⟩ = some (.int .i64 0) := kT.cell 4; have kT5 : (W7).cell? ⟨w.heap.size + 1 + 1, 5, none⟩ = some (.int .i64 0) := kT.cell 5; have kTf0 : (W7).frozen? ⟨w.heap.size + 1 + 1, 0, none⟩ = false := kT.frozen 0; have kTf1 : (W7).frozen? ⟨w.heap.size + 1 + 1, 1, none⟩ = false := kT.frozen 1; have kTf2 : (W7).frozen? ⟨w.heap.size + 1 + 1, 2, none⟩ = false := kT.frozen 2; have kTf3 : (W7).frozen? ⟨w.heap.size + 1 + 1, 3, none⟩ = false := kT.frozen 3; have kTf4 : (W7).frozen? ⟨w.heap.size + 1 + 1, 4, none⟩ = false := kT.frozen 4; have kTf5 : (W7).frozen? ⟨w.heap.size + 1 + 1, 5, none⟩ = false := kT.frozen 5; have kTl : w.heap.size + 1 + 1 < (W7).heap.size := kT.lt
      go_wp2
      have R := ((((((kT.set 0 (.int .i64 0)).set 1 (.int .i64 0)).set 2 (.int .i64 0)).set 3 (.int .i64 0)).set 4 (.int .i64 0)).set 5 (.int .i64 0))
      have hR : Below w.heap.size w ((((((W7.setCell ⟨w.heap.size + 1 + 1, 0, none⟩ (.int .i64 0)).setCell ⟨w.heap.size + 1 + 1, 1, none⟩ (.int .i64 0)).setCell ⟨w.heap.size + 1 + 1, 2, none⟩ (.int .i64 0)).setCell ⟨w.heap.size + 1 + 1, 3, none⟩ (.int .i64 0)).setCell ⟨w.heap.size + 1 + 1, 4, none⟩ (.int .i64 0)).setCell ⟨w.heap.size + 1 + 1, 5, none⟩ (.int .i64 0)) := by (repeat' (first | (with_reducible exact Below.refl _ _) | (with_reducible refine below_step (by assumption) ?_ ?_) | (with_reducible refine Below.alloc ?_ ?_ _) | (with_reducible refine Below.setCell ?_ ?_ _) | (with_reducible refine below_drewN ?_ _) | (with_reducible refine Below.drew ?_) | omega | (simp; omega) | (simp; done)))
      simp only [List.setIfInBounds_toArray, List.set_cons_zero, List.set_cons_succ] at R
      clear kT kT0 kT1 kT2 kT3 kT4 kT5 kTf0 kTf1 kTf2 kTf3 kTf4 kTf5 kTl
      generalize ((((((W7.setCell ⟨w.heap.size + 1 + 1, 0, none⟩ (.int .i64 0)).setCell ⟨w.heap.size + 1 + 1, 1, none⟩ (.int .i64 0)).setCell ⟨w.heap.size + 1 + 1, 2, none⟩ (.int .i64 0)).setCell ⟨w.heap.size + 1 + 1, 3, none⟩ (.int .i64 0)).setCell ⟨w.heap.size + 1 + 1, 4, none⟩ (.int .i64 0)).setCell ⟨w.heap.size + 1 + 1, 5, none⟩ (.int .i64 0)) = W9 at R hR ⊢
      have R0 : (W9).cell? ⟨w.heap.size + 1 + 1, 0, none⟩ = some (.int .i64 0) := R.cell 0; have R1 : (W9).cell? ⟨w.heap.size + 1 + 1, 1, none⟩ = some (.int .i64 0) := R.cell 1; have R2 : (W9).cell? ⟨w.heap.size + 1 + 1, 2, none⟩ = some (.int .i64 0) := R.cell 2; have R3 : (W9).cell? ⟨w.heap.size + 1 + 1, 3, none⟩ = some (.int .i64 0) := R.cell 3; have R4 : (W9).cell? ⟨w.heap.size + 1 + 1, 4, none⟩ = some (.int .i64 0) := R.cell 4; have R5 : (W9).cell? ⟨w.heap.size + 1 + 1, 5, none⟩ = some (.int .i64 0) := R.cell 5; have Rl : w.heap.size + 1 + 1 < (W9).heap.size := R.lt
      refine bodyPost_ret (v := .tuple #[.agg #[.int .i64 0, .int .i64 0, .int .i64 0, .int .i64 0, .int .i64 0, .int .i64 0], .bool false]) (by simp [results, Try.results31, go_sem, R0, R1, R2, R3, R4, R5]) rfl ?_
      exact tofP_no HZ.out hR
    have I8 := Lib.hid ((J8.out rfl).out)
    have I9 := Lib.hid ((H9'.out rfl).out)
    have IOz := Lib.hid (fun h8 => HO'.out h8 rfl)
    clear J8 H9' HO'
    have k10 : (W7).cell? ⟨r8, 0, none⟩ = some (.int .i64 a1) := k1.cell 0; have k11 : (W7).cell? ⟨r8, 1, none⟩ = some (.int .i64 b1) := k1.cell 1; have k1l : r8 < (W7).heap.size := k1.lt
    have k50 : (W7).cell? ⟨r16, 0, none⟩ = some (.int .i64 a5) := k5.cell 0; have k51 : (W7).cell? ⟨r16, 1, none⟩ = some (.int .i64 b5) := k5.cell 1; have k5l : r16 < (W7).heap.size := k5.lt
    go_wp2_with fail
    refine (I8.out _).mono ?_
    rintro e u8 ⟨rfl, hb8⟩
    clear k10 k11 k1l k50 k51 k5l
    replace kY := kY.next hb8
    replace kT := kT.next hb8
    replace k6 := k6.next hb8
    replace k7 := k7.next hb8
    replace hB := below_step hb8 hs hB
    replace hs := hB.size
    clear hb8
    replace kY := kY.alloc (.cells #[.int .i64 a8, .int .i64 b8] 25)
    replace kT := kT.alloc (.cells #[.int .i64 a8, .int .i64 b8] 25)
    replace k6 := k6.alloc (.cells #[.int .i64 a8, .int .i64 b8] 25)
    replace k7 := k7.alloc (.cells #[.int .i64 a8, .int .i64 b8] 25)
    have k8 := Blk.new u8 #[.int .i64 a8, .int .i64 b8] 25
    replace hB := hB.alloc hs (.cells #[.int .i64 a8, .int .i64 b8] 25)
    replace hs := hB.size
    go_upto_region 13 with (fail)
    generalize u8.alloc _ = W8 at *
    generalize u8.heap.size = r22 at *
    have k60 : (W8).cell? ⟨r18, 0, none⟩ = some (.int .i64 a6) := k6.cell 0; have k61 : (W8).cell? ⟨r18, 1, none⟩ = some (.int .i64 b6) := k6.cell 1; have k6l : r18 < (W8).heap.size := k6.lt
    have kY0 : (W8).cell? ⟨w.heap.size + 1, 0, none⟩ = some (.int .i64 y1) := kY.cell 0; have kY1 : (W8).cell? ⟨w.heap.size + 1, 1, none⟩ = some (.int .i64 y2) := kY.cell 1; have kYl : w.heap.size + 1 < (W8).heap.size := kY.lt
    go_wp2_with fail
    refine (I9.out _).mono ?_
    rintro e u9 ⟨rfl, hb9⟩
    clear k60 k61 k6l kY0 kY1 kYl
    replace kT := kT.next hb9
    replace k7 := k7.next hb9
    replace k8 := k8.next hb9
    replace hB := below_step hb9 hs hB
    replace hs := hB.size
    clear hb9
    replace kT := kT.alloc (.cells #[.int .i64 a9, .int .i64 b9] 25)
    replace k7 := k7.alloc (.cells #[.int .i64 a9, .int .i64 b9] 25)
    replace k8 := k8.alloc (.cells #[.int .i64 a9, .int .i64 b9] 25)
    have k9 := Blk.new u9 #[.int .i64 a9, .int .i64 b9] 25
    replace hB := hB.alloc hs (.cells #[.int .i64 a9, .int .i64 b9] 25)
    replace hs := hB.size
    go_upto_region 14 with (fail)
    generalize u9.alloc _ = W9a at *
    generalize u9.heap.size = r24 at *
    cases m8
    · have HZ := Lib.hid (HMF.out (by simp))
      clear HMF HM
      have kT0 : (W9a).cell? ⟨w.heap.size + 1 + 1, 0, none⟩ = some (.int .i64 0) := kT.cell 0; have kT1 : (W9a).cell? ⟨w.heap.size + 1 + 1, 1, none⟩ = some (.int .i64 0) := kT.cell 1; have kT2 : (W9a).cell? ⟨w.heap.size + 1 + 1, 2, none⟩ = some (.int .i64 0) := kT.cell 2; have kT3 : (W9a).cell? ⟨w.heap.size + 1 + 1, 3, none⟩ = some (.int .i64 0) := kT.cell 3; have kT4 : (W9a).cell? ⟨w.heap.size + 1 + 1, 4, none⟩ = some (.int .i64 0) := kT.cell 4; have kT5 : (W9a).cell? ⟨w.heap.size + 1 + 1, 5, none⟩ = some (.int .i64 0) := kT.cell 5; have kTf0 : (W9a).frozen? ⟨w.heap.size + 1 + 1, 0, none⟩ = false := kT.frozen 0; have kTf1 : (W9a).frozen? ⟨w.heap.size + 1 + 1, 1, none⟩ = false := kT.frozen 1; have kTf2 : (W9a).frozen? ⟨w.heap.size + 1 + 1, 2, none⟩ = false := kT.frozen 2; have kTf3 : (W9a).frozen? ⟨w.heap.size + 1 + 1, 3, none⟩ = false := kT.frozen 3; have kTf4 : (W9a).frozen? ⟨w.heap.size + 1 + 1, 4, none⟩ = false := kT.frozen 4; have kTf5 : (W9a).frozen? ⟨w.heap.size + 1 + 1, 5, none⟩ = false := kT.frozen 5; have kTl : w.heap.size + 1 + 1 < (W9a).heap.size := kT.lt
      go_wp2
      have R := ((((((kT.set 0 (.int .i64 0)).set 1 (.int .i64 0)).set 2 (.int .i64 0)).set 3 (.int .i64 0)).set 4 (.int .i64 0)).set 5 (.int .i64 0))
      have hR : Below w.heap.size w ((((((W9a.setCell ⟨w.heap.size + 1 + 1, 0, none⟩ (.int .i64 0)).setCell ⟨w.heap.size + 1 + 1, 1, none⟩ (.int .i64 0)).setCell ⟨w.heap.size + 1 + 1, 2, none⟩ (.int .i64 0)).setCell ⟨w.heap.size + 1 + 1, 3, none⟩ (.int .i64 0)).setCell ⟨w.heap.size + 1 + 1, 4, none⟩ (.int .i64 0)).setCell ⟨w.heap.size + 1 + 1, 5, none⟩ (.int .i64 0)) := by (repeat' (first | (with_reducible exact Below.refl _ _) | (with_reducible refine below_step (by assumption) ?_ ?_) | (with_reducible refine Below.alloc ?_ ?_ _) | (with_reducible refine Below.setCell ?_ ?_ _) | (with_reducible refine below_drewN ?_ _) | (with_reducible refine Below.drew ?_) | omega | (simp; omega) | (simp; done)))
      simp only [List.setIfInBounds_toArray, List.set_cons_zero, List.set_cons_succ] at R
      clear kT kT0 kT1 kT2 kT3 kT4 kT5 kTf0 kTf1 kTf2 kTf3 kTf4 kTf5 kTl
      generalize ((((((W9a.setCell ⟨w.heap.size + 1 + 1, 0, none⟩ (.int .i64 0)).setCell ⟨w.heap.size + 1 + 1, 1, none⟩ (.int .i64 0)).setCell ⟨w.heap.size + 1 + 1, 2, none⟩ (.int .i64 0)).setCell ⟨w.heap.size + 1 + 1, 3, none⟩ (.int .i64 0)).setCell ⟨w.heap.size + 1 + 1, 4, none⟩ (.int .i64 0)).setCell ⟨w.heap.size + 1 + 1, 5, none⟩ (.int .i64 0)) = W9 at R hR ⊢
      have R0 : (W9).cell? ⟨w.heap.size + 1 + 1, 0, none⟩ = some (.int .i64 0) := R.cell 0; have R1 : (W9).cell? ⟨w.heap.size + 1 + 1, 1, none⟩ = some (.int .i64 0) := R.cell 1; have R2 : (W9).cell? ⟨w.heap.size + 1 + 1, 2, none⟩ = some (.int .i64 0) := R.cell 2; have R3 : (W9).cell? ⟨w.heap.size + 1 + 1, 3, none⟩ = some (.int .i64 0) := R.cell 3; have R4 : (W9).cell? ⟨w.heap.size + 1 + 1, 4, none⟩ = some (.int .i64 0) := R.cell 4; have R5 : (W9).cell? ⟨w.heap.size + 1 + 1, 5, none⟩ = some (.int .i64 0) := R.cell 5; have Rl : w.heap.size + 1 + 1 < (W9).heap.size := R.lt
      refine bodyPost_ret (v := .tuple #[.agg #[.int .i64 0, .int .i64 0, .int .i64 0, .int .i64 0, .int .i64 0, .int .i64 0], .bool false]) (by simp [results, Try.results31, go_sem, R0, R1, R2, R3, R4, R5]) rfl ?_
      exact tofP_no HZ.out hR
    cases m9
    · have HZ := Lib.hid (HMF.out (by simp))
      clear HMF HM
      have kT0 : (W9a).cell? ⟨w.heap.size + 1 + 1, 0, none⟩ = some (.int .i64 0) := kT.cell 0; have kT1 : (W9a).cell? ⟨w.heap.size + 1 + 1, 1, none⟩ = some (.int .i64 0) := kT.cell 1; have kT2 : (W9a).cell? ⟨w.heap.size + 1 + 1, 2, none⟩ = some (.int .i64 0) := kT.cell 2; have kT3 : (W9a).cell? ⟨w.heap.size + 1 + 1, 3, none⟩ = some (.int .i64 0) := kT.cell 3; have kT4 : (W9a).cell? ⟨w.heap.size + 1 + 1, 4, none⟩ = some (.int .i64 0) := kT.cell 4; have kT5 : (W9a).cell? ⟨w.heap.size + 1 + 1, 5, none⟩ = some (.int .i64 0) := kT.cell 5; have kTf0 : (W9a).frozen? ⟨w.heap.size + 1 + 1, 0, none⟩ = false := kT.frozen 0; have kTf1 : (W9a).frozen? ⟨w.heap.size + 1 + 1, 1, none⟩ = false := kT.frozen 1; have kTf2 : (W9a).frozen? ⟨w.heap.size + 1 + 1, 2, none⟩ = false := kT.frozen 2; have kTf3 : (W9a).frozen? ⟨w.heap.size + 1 + 1, 3, none⟩ = false := kT.frozen 3; have kTf4 : (W9a).frozen? ⟨w.heap.size + 1 + 1, 4, none⟩ = false := kT.frozen 4; have kTf5 : (W9a).frozen? ⟨w.heap.size + 1 + 1, 5, none⟩ = false := kT.frozen 5; have kTl : w.heap.size + 1 + 1 < (W9a).heap.size := kT.lt
      go_wp2
      have R := ((((((kT.set 0 (.int .i64 0)).set 1 (.int .i64 0)).set 2 (.int .i64 0)).set 3 (.int .i64 0)).set 4 (.int .i64 0)).set 5 (.int .i64 0))
      have hR : Below w.heap.size w ((((((W9a.setCell ⟨w.heap.size + 1 + 1, 0, none⟩ (.int .i64 0)).setCell ⟨w.heap.size + 1 + 1, 1, none⟩ (.int .i64 0)).setCell ⟨w.heap.size + 1 + 1, 2, none⟩ (.int .i64 0)).setCell ⟨w.heap.size + 1 + 1, 3, none⟩ (.int .i64 0)).setCell ⟨w.heap.size + 1 + 1, 4, none⟩ (.int .i64 0)).setCell ⟨w.heap.size + 1 + 1, 5, none⟩ (.int .i64 0)) := by (repeat' (first | (with_reducible exact Below.refl _ _) | (with_reducible refine below_step (by assumption) ?_ ?_) | (with_reducible refine Below.alloc ?_ ?_ _) | (with_reducible refine Below.setCell ?_ ?_ _) | (with_reducible refine below_drewN ?_ _) | (with_reducible refine Below.drew ?_) | omega | (simp; omega) | (simp; done)))
      simp only [List.setIfInBounds_toArray, List.set_cons_zero, List.set_cons_succ] at R
      clear kT kT0 kT1 kT2 kT3 kT4 kT5 kTf0 kTf1 kTf2 kTf3 kTf4 kTf5 kTl
      generalize ((((((W9a.setCell ⟨w.heap.size + 1 + 1, 0, none⟩ (.int .i64 0)).setCell ⟨w.heap.size + 1 + 1, 1, none⟩ (.int .i64 0)).setCell ⟨w.heap.size + 1 + 1, 2, none⟩ (.int .i64 0)).setCell ⟨w.heap.size + 1 + 1, 3, none⟩ (.int .i64 0)).setCell ⟨w.heap.size + 1 + 1, 4, none⟩ (.int .i64 0)).setCell ⟨w.heap.size + 1 + 1, 5, none⟩ (.int .i64 0)) = W9 at R hR ⊢
      have R0 : (W9).cell? ⟨w.heap.size + 1 + 1, 0, none⟩ = some (.int .i64 0) := R.cell 0; have R1 : (W9).cell? ⟨w.heap.size + 1 + 1, 1, none⟩ = some (.int .i64 0) := R.cell 1; have R2 : (W9).cell? ⟨w.heap.size + 1 + 1, 2, none⟩ = some (.int .i64 0) := R.cell 2; have R3 : (W9).cell? ⟨w.heap.size + 1 + 1, 3, none⟩ = some (.int .i64 0) := R.cell 3; have R4 : (W9).cell? ⟨w.heap.size + 1 + 1, 4, none⟩ = some (.int .i64 0) := R.cell 4; have R5 : (W9).cell? ⟨w.heap.size + 1 + 1, 5, none⟩ = some (.int .i64 0) := R.cell 5; have Rl : w.heap.size + 1 + 1 < (W9).heap.size := R.lt
      refine bodyPost_ret (v := .tuple #[.agg #[.int .i64 0, .int .i64 0, .int .i64 0, .int .i64 0, .int .i64 0, .int .i64 0], .bool false]) (by simp [results, Try.results31, go_sem, R0, R1, R2, R3, R4, R5]) rfl ?_
      exact tofP_no HZ.out hR
    have HZ : Hid (o = true) := HM.out.symm
    have IC := Lib.hid (IOz.out rfl rfl)
    clear IOz HM HMF I8 I9
    obtain ⟨p1, p2, p3, p4, p5, p6, hf⟩ := ordV_form a8 b8 a7 b7 a9 b9
    have HF := Lib.hid hf
    have IC' := IC.out
    rw [hf] at IC'
    have ID := Lib.hid IC'
    clear hf IC' IC
    have k80 : (W9a).cell? ⟨r22, 0, none⟩ = some (.int .i64 a8) := k8.cell 0; have k81 : (W9a).cell? ⟨r22, 1, none⟩ = some (.int .i64 b8) := k8.cell 1; have k8l : r22 < (W9a).heap.size := k8.lt
    have k70 : (W9a).cell? ⟨r20, 0, none⟩ = some (.int .i64 a7) := k7.cell 0; have k71 : (W9a).cell? ⟨r20, 1, none⟩ = some (.int .i64 b7) := k7.cell 1; have k7l : r20 < (W9a).heap.size := k7.lt
    have k90 : (W9a).cell? ⟨r24, 0, none⟩ = some (.int .i64 a9) := k9.cell 0; have k91 : (W9a).cell? ⟨r24, 1, none⟩ = some (.int .i64 b9) := k9.cell 1; have k9l : r24 < (W9a).heap.size := k9.lt
    go_wp2_with fail
    refine (ID.out _).mono ?_
    rintro e u ⟨rfl, hb⟩
    clear k80 k81 k8l k70 k71 k7l k90 k91 k9l
    replace kT := kT.next hb
    replace hB := below_step hb hs hB
    replace hs := hB.size
    clear hb
    have kT0 : (u).cell? ⟨w.heap.size + 1 + 1, 0, none⟩ = some (.int .i64 0) := kT.cell 0; have kT1 : (u).cell? ⟨w.heap.size + 1 + 1, 1, none⟩ = some (.int .i64 0) := kT.cell 1; have kT2 : (u).cell? ⟨w.heap.size + 1 + 1, 2, none⟩ = some (.int .i64 0) := kT.cell 2; have kT3 : (u).cell? ⟨w.heap.size + 1 + 1, 3, none⟩ = some (.int .i64 0) := kT.cell 3; have kT4 : (u).cell? ⟨w.heap.size + 1 + 1, 4, none⟩ = some (.int .i64 0) := kT.cell 4; have kT5 : (u).cell? ⟨w.heap.size + 1 + 1, 5, none⟩ = some (.int .i64 0) := kT.cell 5; have kTf0 : (u).frozen? ⟨w.heap.size + 1 + 1, 0, none⟩ = false := kT.frozen 0; have kTf1 : (u).frozen? ⟨w.heap.size + 1 + 1, 1, none⟩ = false := kT.frozen 1; have kTf2 : (u).frozen? ⟨w.heap.size + 1 + 1, 2, none⟩ = false := kT.frozen 2; have kTf3 : (u).frozen? ⟨w.heap.size + 1 + 1, 3, none⟩ = false := kT.frozen 3; have kTf4 : (u).frozen? ⟨w.heap.size + 1 + 1, 4, none⟩ = false := kT.frozen 4; have kTf5 : (u).frozen? ⟨w.heap.size + 1 + 1, 5, none⟩ = false := kT.frozen 5; have kTl : w.heap.size + 1 + 1 < (u).heap.size := kT.lt
    go_wp2
    have R := ((((((kT.set 0 (.int .i64 p1)).set 1 (.int .i64 p2)).set 2 (.int .i64 p3)).set 3 (.int .i64 p4)).set 4 (.int .i64 p5)).set 5 (.int .i64 p6))
    have hR : Below w.heap.size w ((((((u.setCell ⟨w.heap.size + 1 + 1, 0, none⟩ (.int .i64 p1)).setCell ⟨w.heap.size + 1 + 1, 1, none⟩ (.int .i64 p2)).setCell ⟨w.heap.size + 1 + 1, 2, none⟩ (.int .i64 p3)).setCell ⟨w.heap.size + 1 + 1, 3, none⟩ (.int .i64 p4)).setCell ⟨w.heap.size + 1 + 1, 4, none⟩ (.int .i64 p5)).setCell ⟨w.heap.size + 1 + 1, 5, none⟩ (.int .i64 p6)) := by (repeat' (first | (with_reducible exact Below.refl _ _) | (with_reducible refine below_step (by assumption) ?_ ?_) | (with_reducible refine Below.alloc ?_ ?_ _) | (with_reducible refine Below.setCell ?_ ?_ _) | (with_reducible refine below_drewN ?_ _) | (with_reducible refine Below.drew ?_) | omega | (simp; omega) | (simp; done)))
    simp only [List.setIfInBounds_toArray, List.set_cons_zero, List.set_cons_succ] at R
    clear kT kT0 kT1 kT2 kT3 kT4 kT5 kTf0 kTf1 kTf2 kTf3 kTf4 kTf5 kTl
    generalize ((((((u.setCell ⟨w.heap.size + 1 + 1, 0, none⟩ (.int .i64 p1)).setCell ⟨w.heap.size + 1 + 1, 1, none⟩ (.int .i64 p2)).setCell ⟨w.heap.size + 1 + 1, 2, none⟩ (.int .i64 p3)).setCell ⟨w.heap.size + 1 + 1, 3, none⟩ (.int .i64 p4)).setCell ⟨w.heap.size + 1 + 1, 4, none⟩ (.int .i64 p5)).setCell ⟨w.heap.size + 1 + 1, 5, none⟩ (.int .i64 p6)) = W9 at R hR ⊢
    have R0 : (W9).cell? ⟨w.heap.size + 1 + 1, 0, none⟩ = some (.int .i64 p1) := R.cell 0; have R1 : (W9).cell? ⟨w.heap.size + 1 + 1, 1, none⟩ = some (.int .i64 p2) := R.cell 1; have R2 : (W9).cell? ⟨w.heap.size + 1 + 1, 2, none⟩ = some (.int .i64 p3) := R.cell 2; have R3 : (W9).cell? ⟨w.heap.size + 1 + 1, 3, none⟩ = some (.int .i64 p4) := R.cell 3; have R4 : (W9).cell? ⟨w.heap.size + 1 + 1, 4, none⟩ = some (.int .i64 p5) := R.cell 4; have R5 : (W9).cell? ⟨w.heap.size + 1 + 1, 5, none⟩ = some (.int .i64 p6) := R.cell 5; have Rl : w.heap.size + 1 + 1 < (W9).heap.size := R.lt
    refine bodyPost_ret (v := .tuple #[.agg #[.int .i64 p1, .int .i64 p2, .int .i64 p3, .int .i64 p4, .int .i64 p5, .int .i64 p6], .bool true]) (by simp [results, Try.results31, go_sem, R0, R1, R2, R3, R4, R5]) rfl ?_
    exact tofP_yes HZ.out HF.out hR
  · have HZ := Lib.hid (HMF.out (by simpa using hm))
    clear HMF HM H5' H6' H7' H8' H9' HO' H1 H2 H3 H4
    cases m1
    · clear hm
      have kT0 : (W4).cell? ⟨w.heap.size + 1 + 1, 0, none⟩ = some (.int .i64 0) := kT.cell 0; have kT1 : (W4).cell? ⟨w.heap.size + 1 + 1, 1, none⟩ = some (.int .i64 0) := kT.cell 1; have kT2 : (W4).cell? ⟨w.heap.size + 1 + 1, 2, none⟩ = some (.int .i64 0) := kT.cell 2; have kT3 : (W4).cell? ⟨w.heap.size + 1 + 1, 3, none⟩ = some (.int .i64 0) := kT.cell 3; have kT4 : (W4).cell? ⟨w.heap.size + 1 + 1, 4, none⟩ = some (.int .i64 0) := kT.cell 4; have kT5 : (W4).cell? ⟨w.heap.size + 1 + 1, 5, none⟩ = some (.int .i64 0) := kT.cell 5; have kTf0 : (W4).frozen? ⟨w.heap.size + 1 + 1, 0, none⟩ = false := kT.frozen 0; have kTf1 : (W4).frozen? ⟨w.heap.size + 1 + 1, 1, none⟩ = false := kT.frozen 1; have kTf2 : (W4).frozen? ⟨w.heap.size + 1 + 1, 2, none⟩ = false := kT.frozen 2; have kTf3 : (W4).frozen? ⟨w.heap.size + 1 + 1, 3, none⟩ = false := kT.frozen 3; have kTf4 : (W4).frozen? ⟨w.heap.size + 1 + 1, 4, none⟩ = false := kT.frozen 4; have kTf5 : (W4).frozen? ⟨w.heap.size + 1 + 1, 5, none⟩ = false := kT.frozen 5; have kTl : w.heap.size + 1 + 1 < (W4).heap.size := kT.lt
      go_wp2
      have R := ((((((kT.set 0 (.int .i64 0)).set 1 (.int .i64 0)).set 2 (.int .i64 0)).set 3 (.int .i64 0)).set 4 (.int .i64 0)).set 5 (.int .i64 0))
      have hR : Below w.heap.size w ((((((W4.setCell ⟨w.heap.size + 1 + 1, 0, none⟩ (.int .i64 0)).setCell ⟨w.heap.size + 1 + 1, 1, none⟩ (.int .i64 0)).setCell ⟨w.heap.size + 1 + 1, 2, none⟩ (.int .i64 0)).setCell ⟨w.heap.size + 1 + 1, 3, none⟩ (.int .i64 0)).setCell ⟨w.heap.size + 1 + 1, 4, none⟩ (.int .i64 0)).setCell ⟨w.heap.size + 1 + 1, 5, none⟩ (.int .i64 0)) := by (repeat' (first | (with_reducible exact Below.refl _ _) | (with_reducible refine below_step (by assumption) ?_ ?_) | (with_reducible refine Below.alloc ?_ ?_ _) | (with_reducible refine Below.setCell ?_ ?_ _) | (with_reducible refine below_drewN ?_ _) | (with_reducible refine Below.drew ?_) | omega | (simp; omega) | (simp; done)))
      simp only [List.setIfInBounds_toArray, List.set_cons_zero, List.set_cons_succ] at R
      clear kT kT0 kT1 kT2 kT3 kT4 kT5 kTf0 kTf1 kTf2 kTf3 kTf4 kTf5 kTl
      generalize ((((((W4.setCell ⟨w.heap.size + 1 + 1, 0, none⟩ (.int .i64 0)).setCell ⟨w.heap.size + 1 + 1, 1, none⟩ (.int .i64 0)).setCell ⟨w.heap.size + 1 + 1, 2, none⟩ (.int .i64 0)).setCell ⟨w.heap.size + 1 + 1, 3, none⟩ (.int .i64 0)).setCell ⟨w.heap.size + 1 + 1, 4, none⟩ (.int .i64 0)).setCell ⟨w.heap.size + 1 + 1, 5, none⟩ (.int .i64 0)) = W9 at R hR ⊢
      have R0 : (W9).cell? ⟨w.heap.size + 1 + 1, 0, none⟩ = some (.int .i64 0) := R.cell 0; have R1 : (W9).cell? ⟨w.heap.size + 1 + 1, 1, none⟩ = some (.int .i64 0) := R.cell 1; have R2 : (W9).cell? ⟨w.heap.size + 1 + 1, 2, none⟩ = some (.int .i64 0) := R.cell 2; have R3 : (W9).cell? ⟨w.heap.size + 1 + 1, 3, none⟩ = some (.int .i64 0) := R.cell 3; have R4 : (W9).cell? ⟨w.heap.size + 1 + 1, 4, none⟩ = some (.int .i64 0) := R.cell 4; have R5 : (W9).cell? ⟨w.heap.size + 1 + 1, 5, none⟩ = some (.int .i64 0) := R.cell 5; have Rl : w.heap.size + 1 + 1 < (W9).heap.size := R.lt
      refine bodyPost_ret (v := .tuple #[.agg #[.int .i64 0, .int .i64 0, .int .i64 0, .int .i64 0, .int .i64 0, .int .i64 0], .bool false]) (by simp [results, Try.results31, go_sem, R0, R1, R2, R3, R4, R5]) rfl ?_
      exact tofP_no HZ.out hR
    cases m2
    · clear hm
      have kT0 : (W4).cell? ⟨w.heap.size + 1 + 1, 0, none⟩ = some (.int .i64 0) := kT.cell 0; have kT1 : (W4).cell? ⟨w.heap.size + 1 + 1, 1, none⟩ = some (.int .i64 0) := kT.cell 1; have kT2 : (W4).cell? ⟨w.heap.size + 1 + 1, 2, none⟩ = some (.int .i64 0) := kT.cell 2; have kT3 : (W4).cell? ⟨w.heap.size + 1 + 1, 3, none⟩ = some (.int .i64 0) := kT.cell 3; have kT4 : (W4).cell? ⟨w.heap.size + 1 + 1, 4, none⟩ = some (.int .i64 0) := kT.cell 4; have kT5 : (W4).cell? ⟨w.heap.size + 1 + 1, 5, none⟩ = some (.int .i64 0) := kT.cell 5; have kTf0 : (W4).frozen? ⟨w.heap.size + 1 + 1, 0, none⟩ = false := kT.frozen 0; have kTf1 : (W4).frozen? ⟨w.heap.size + 1 + 1, 1, none⟩ = false := kT.frozen 1; have kTf2 : (W4).frozen? ⟨w.heap.size + 1 + 1, 2, none⟩ = false := kT.frozen 2; have kTf3 : (W4).frozen? ⟨w.heap.size + 1 + 1, 3, none⟩ = false := kT.frozen 3; have kTf4 : (W4).frozen? ⟨w.heap.size + 1 + 1, 4, none⟩ = false := kT.frozen 4; have kTf5 : (W4).frozen? ⟨w.heap.size + 1 + 1, 5, none⟩ = false := kT.frozen 5; have kTl : w.heap.size + 1 + 1 < (W4).heap.size := kT.lt
      go_wp2
      have R := ((((((kT.set 0 (.int .i64 0)).set 1 (.int .i64 0)).set 2 (.int .i64 0)).set 3 (.int .i64 0)).set 4 (.int .i64 0)).set 5 (.int .i64 0))
      have hR : Below w.heap.size w ((((((W4.setCell ⟨w.heap.size + 1 + 1, 0, none⟩ (.int .i64 0)).setCell ⟨w.heap.size + 1 + 1, 1, none⟩ (.int .i64 0)).setCell ⟨w.heap.size + 1 + 1, 2, none⟩ (.int .i64 0)).setCell ⟨w.heap.size + 1 + 1, 3, none⟩ (.int .i64 0)).setCell ⟨w.heap.size + 1 + 1, 4, none⟩ (.int .i64 0)).setCell ⟨w.heap.size + 1 + 1, 5, none⟩ (.int .i64 0)) := by (repeat' (first | (with_reducible exact Below.refl _ _) | (with_reducible refine below_step (by assumption) ?_ ?_) | (with_reducible refine Below.alloc ?_ ?_ _) | (with_reducible refine Below.setCell ?_ ?_ _) | (with_reducible refine below_drewN ?_ _) | (with_reducible refine Below.drew ?_) | omega | (simp; omega) | (simp; done)))
      simp only [List.setIfInBounds_toArray, List.set_cons_zero, List.set_cons_succ] at R
      clear kT kT0 kT1 kT2 kT3 kT4 kT5 kTf0 kTf1 kTf2 kTf3 kTf4 kTf5 kTl
      generalize ((((((W4.setCell ⟨w.heap.size + 1 + 1, 0, none⟩ (.int .i64 0)).setCell ⟨w.heap.size + 1 + 1, 1, none⟩ (.int .i64 0)).setCell ⟨w.heap.size + 1 + 1, 2, none⟩ (.int .i64 0)).setCell ⟨w.heap.size + 1 + 1, 3, none⟩ (.int .i64 0)).setCell ⟨w.heap.size + 1 + 1, 4, none⟩ (.int .i64 0)).setCell ⟨w.heap.size + 1 + 1, 5, none⟩ (.int .i64 0)) = W9 at R hR ⊢
      have R0 : (W9).cell? ⟨w.heap.size + 1 + 1, 0, none⟩ = some (.int .i64 0) := R.cell 0; have R1 : (W9).cell? ⟨w.heap.size + 1 + 1, 1, none⟩ = some (.int .i64 0) := R.cell 1; have R2 : (W9).cell? ⟨w.heap.size + 1 + 1, 2, none⟩ = some (.int .i64 0) := R.cell 2; have R3 : (W9).cell? ⟨w.heap.size + 1 + 1, 3, none⟩ = some (.int .i64 0) := R.cell 3; have R4 : (W9).cell? ⟨w.heap.size + 1 + 1, 4, none⟩ = some (.int .i64 0) := R.cell 4; have R5 : (W9).cell? ⟨w.heap.size + 1 + 1, 5, none⟩ = some (.int .i64 0) := R.cell 5; have Rl : w.heap.size + 1 + 1 < (W9).heap.size := R.lt
      refine bodyPost_ret (v := .tuple #[.agg #[.int .i64 0, .int .i64 0, .int .i64 0, .int .i64 0, .int .i64 0, .int .i64 0], .bool false]) (by simp [results, Try.results31, go_sem, R0, R1, R2, R3, R4, R5]) rfl ?_
      exact tofP_no HZ.out hR
    cases m3
    · clear hm
      have kT0 : (W4).cell? ⟨w.heap.size + 1 + 1, 0, none⟩ = some (.int .i64 0) := kT.cell 0; have kT1 : (W4).cell? ⟨w.heap.size + 1 + 1, 1, none⟩ = some (.int .i64 0) := kT.cell 1; have kT2 : (W4).cell? ⟨w.heap.size + 1 + 1, 2, none⟩ = some (.int .i64 0) := kT.cell 2; have kT3 : (W4).cell? ⟨w.heap.size + 1 + 1, 3, none⟩ = some (.int .i64 0) := kT.cell 3; have kT4 : (W4).cell? ⟨w.heap.size + 1 + 1, 4, none⟩ = some (.int .i64 0) := kT.cell 4; have kT5 : (W4).cell? ⟨w.heap.size + 1 + 1, 5, none⟩ = some (.int .i64 0) := kT.cell 5; have kTf0 : (W4).frozen? ⟨w.heap.size + 1 + 1, 0, none⟩ = false := kT.frozen 0; have kTf1 : (W4).frozen? ⟨w.heap.size + 1 + 1, 1, none⟩ = false := kT.frozen 1; have kTf2 : (W4).frozen? ⟨w.heap.size + 1 + 1, 2, none⟩ = false := kT.frozen 2; have kTf3 : (W4).frozen? ⟨w.heap.size + 1 + 1, 3, none⟩ = false := kT.frozen 3; have kTf4 : (W4).frozen? ⟨w.heap.size + 1 + 1, 4, none⟩ = false := kT.frozen 4; have kTf5 : (W4).frozen? ⟨w.heap.size + 1 + 1, 5, none⟩ = false := kT.frozen 5; have kTl : w.heap.size + 1 + 1 < (W4).heap.size := kT.lt
      go_wp2
      have R := ((((((kT.set 0 (.int .i64 0)).set 1 (.int .i64 0)).set 2 (.int .i64 0)).set 3 (.int .i64 0)).set 4 (.int .i64 0)).set 5 (.int .i64 0))
      have hR : Below w.heap.size w ((((((W4.setCell ⟨w.heap.size + 1 + 1, 0, none⟩ (.int .i64 0)).setCell ⟨w.heap.size + 1 + 1, 1, none⟩ (.int .i64 0)).setCell ⟨w.heap.size + 1 + 1, 2, none⟩ (.int .i64 0)).setCell ⟨w.heap.size + 1 + 1, 3, none⟩ (.int .i64 0)).setCell ⟨w.heap.size + 1 + 1, 4, none⟩ (.int .i64 0)).setCell ⟨w.heap.size + 1 + 1, 5, none⟩ (.int .i64 0)) := by (repeat' (first | (with_reducible exact Below.refl _ _) | (with_reducible refine below_step (by assumption) ?_ ?_) | (with_reducible refine Below.alloc ?_ ?_ _) | (with_reducible refine Below.setCell ?_ ?_ _) | (with_reducible refine below_drewN ?_ _) | (with_reducible refine Below.drew ?_) | omega | (simp; omega) | (simp; done)))
      simp only [List.setIfInBounds_toArray, List.set_cons_zero, List.set_cons_succ] at R
      clear kT kT0 kT1 kT2 kT3 kT4 kT5 kTf0 kTf1 kTf2 kTf3 kTf4 kTf5 kTl
      generalize ((((((W4.setCell ⟨w.heap.size + 1 + 1, 0, none⟩ (.int .i64 0)).setCell ⟨w.heap.size + 1 + 1, 1, none⟩ (.int .i64 0)).setCell ⟨w.heap.size + 1 + 1, 2, none⟩ (.int .i64 0)).setCell ⟨w.heap.size + 1 + 1, 3, none⟩ (.int .i64 0)).setCell ⟨w.heap.size + 1 + 1, 4, none⟩ (.int .i64 0)).setCell ⟨w.heap.size + 1 + 1, 5, none⟩ (.int .i64 0)) = W9 at R hR ⊢
      have R0 : (W9).cell? ⟨w.heap.size + 1 + 1, 0, none⟩ = some (.int .i64 0) := R.cell 0; have R1 : (W9).cell? ⟨w.heap.size + 1 + 1, 1, none⟩ = some (.int .i64 0) := R.cell 1; have R2 : (W9).cell? ⟨w.heap.size + 1 + 1, 2, none⟩ = some (.int .i64 0) := R.cell 2; have R3 : (W9).cell? ⟨w.heap.size + 1 + 1, 3, none⟩ = some (.int .i64 0) := R.cell 3; have R4 : (W9).cell? ⟨w.heap.size + 1 + 1, 4, none⟩ = some (.int .i64 0) := R.cell 4; have R5 : (W9).cell? ⟨w.heap.size + 1 + 1, 5, none⟩ = some (.int .i64 0) := R.cell 5; have Rl : w.heap.size + 1 + 1 < (W9).heap.size := R.lt
      refine bodyPost_ret (v := .tuple #[.agg #[.int .i64 0, .int .i64 0, .int .i64 0, .int .i64 0, .int .i64 0, .int .i64 0], .bool false]) (by simp [results, Try.results31, go_sem, R0, R1, R2, R3, R4, R5]) rfl ?_
      exact tofP_no HZ.out hR
    cases m4
    · clear hm
      have kT0 : (W4).cell? ⟨w.heap.size + 1 + 1, 0, none⟩ = some (.int .i64 0) := kT.cell 0; have kT1 : (W4).cell? ⟨w.heap.size + 1 + 1, 1, none⟩ = some (.int .i64 0) := kT.cell 1; have kT2 : (W4).cell? ⟨w.heap.size + 1 + 1, 2, none⟩ = some (.int .i64 0) := kT.cell 2; have kT3 : (W4).cell? ⟨w.heap.size + 1 + 1, 3, none⟩ = some (.int .i64 0) := kT.cell 3; have kT4 : (W4).cell? ⟨w.heap.size + 1 + 1, 4, none⟩ = some (.int .i64 0) := kT.cell 4; have kT5 : (W4).cell? ⟨w.heap.size + 1 + 1, 5, none⟩ = some (.int .i64 0) := kT.cell 5; have kTf0 : (W4).frozen? ⟨w.heap.size + 1 + 1, 0, none⟩ = false := kT.frozen 0; have kTf1 : (W4).frozen? ⟨w.heap.size + 1 + 1, 1, none⟩ = false := kT.frozen 1; have kTf2 : (W4).frozen? ⟨w.heap.size + 1 + 1, 2, none⟩ = false := kT.frozen 2; have kTf3 : (W4).frozen? ⟨w.heap.size + 1 + 1, 3, none⟩ = false := kT.frozen 3; have kTf4 : (W4).frozen? ⟨w.heap.size + 1 + 1, 4, none⟩ = false := kT.frozen 4; have kTf5 : (W4).frozen? ⟨w.heap.size + 1 + 1, 5, none⟩ = false := kT.frozen 5; have kTl : w.heap.size + 1 + 1 < (W4).heap.size := kT.lt
      go_wp2
      have R := ((((((kT.set 0 (.int .i64 0)).set 1 (.int .i64 0)).set 2 (.int .i64 0)).set 3 (.int .i64 0)).set 4 (.int .i64 0)).set 5 (.int .i64 0))
      have hR : Below w.heap.size w ((((((W4.setCell ⟨w.heap.size + 1 + 1, 0, none⟩ (.int .i64 0)).setCell ⟨w.heap.size + 1 + 1, 1, none⟩ (.int .i64 0)).setCell ⟨w.heap.size + 1 + 1, 2, none⟩ (.int .i64 0)).setCell ⟨w.heap.size + 1 + 1, 3, none⟩ (.int .i64 0)).setCell ⟨w.heap.size + 1 + 1, 4, none⟩ (.int .i64 0)).setCell ⟨w.heap.size + 1 + 1, 5, none⟩ (.int .i64 0)) := by (repeat' (first | (with_reducible exact Below.refl _ _) | (with_reducible refine below_step (by assumption) ?_ ?_) | (with_reducible refine Below.alloc ?_ ?_ _) | (with_reducible refine Below.setCell ?_ ?_ _) | (with_reducible refine below_drewN ?_ _) | (with_reducible refine Below.drew ?_) | omega | (simp; omega) | (simp; done)))
      simp only [List.setIfInBounds_toArray, List.set_cons_zero, List.set_cons_succ] at R
      clear kT kT0 kT1 kT2 kT3 kT4 kT5 kTf0 kTf1 kTf2 kTf3 kTf4 kTf5 kTl
      generalize ((((((W4.setCell ⟨w.heap.size + 1 + 1, 0, none⟩ (.int .i64 0)).setCell ⟨w.heap.size + 1 + 1, 1, none⟩ (.int .i64 0)).setCell ⟨w.heap.size + 1 + 1, 2, none⟩ (.int .i64 0)).setCell ⟨w.heap.size + 1 + 1, 3, none⟩ (.int .i64 0)).setCell ⟨w.heap.size + 1 + 1, 4, none⟩ (.int .i64 0)).setCell ⟨w.heap.size + 1 + 1, 5, none⟩ (.int .i64 0)) = W9 at R hR ⊢
      have R0 : (W9).cell? ⟨w.heap.size + 1 + 1, 0, none⟩ = some (.int .i64 0) := R.cell 0; have R1 : (W9).cell? ⟨w.heap.size + 1 + 1, 1, none⟩ = some (.int .i64 0) := R.cell 1; have R2 : (W9).cell? ⟨w.heap.size + 1 + 1, 2, none⟩ = some (.int .i64 0) := R.cell 2; have R3 : (W9).cell? ⟨w.heap.size + 1 + 1, 3, none⟩ = some (.int .i64 0) := R.cell 3; have R4 : (W9).cell? ⟨w.heap.size + 1 + 1, 4, none⟩ = some (.int .i64 0) := R.cell 4; have R5 : (W9).cell? ⟨w.heap.size + 1 + 1, 5, none⟩ = some (.int .i64 0) := R.cell 5; have Rl : w.heap.size + 1 + 1 < (W9).heap.size := R.lt
      refine bodyPost_ret (v := .tuple #[.agg #[.int .i64 0, .int .i64 0, .int .i64 0, .int .i64 0, .int .i64 0, .int .i64 0], .bool false]) (by simp [results, Try.results31, go_sem, R0, R1, R2, R3, R4, R5]) rfl ?_
      exact tofP_no HZ.out hR
    exact absurd rfl hm
end Go.Proofs.Ytcnfjapoopdiaaa
