/- Walks: right triangles of a given area, the program's. -/
import Derived.Test.YtcnfjapoopdiaaaIs
namespace Go.Proofs.Ytcnfjapoopdiaaa
open Go.RowKit

set_option maxHeartbeats 8000000 in
set_option maxRecDepth 100000 in
theorem c_isTriangle_of (n p q r s t u x1 y1 x2 y2 x3 y3 x4 y4 x5 y5 : Int) (o1 o2 o3 o4 o5 L : Bool) (hn : 1 ≤ n ∧ n ≤ 31)
    (H1 : Hid (Kq 37 [.agg #[.int .i64 p, .int .i64 q], .agg #[.int .i64 p, .int .i64 q]] true x1 y1 o1))
    (H2 : Hid (Kq 37 [.agg #[.int .i64 r, .int .i64 s], .agg #[.int .i64 r, .int .i64 s]] o1 x2 y2 o2))
    (H5 : Hid (Kq 40 [.agg #[.int .i64 x1, .int .i64 y1], .agg #[.int .i64 x2, .int .i64 y2]] o2 x5 y5 o5))
    (H3 : Hid (Kq 37 [.agg #[.int .i64 t, .int .i64 u], .agg #[.int .i64 t, .int .i64 u]] o5 x3 y3 o3))
    (H4 : Hid (Kq 37 [.agg #[.int .i64 p, .int .i64 q], .agg #[.int .i64 r, .int .i64 s]] o3 x4 y4 o4))
    (H6 : Hid (∀ w : World, Calls Try.prog 85 #[.agg #[.int .i64 p, .int .i64 q], .agg #[.int .i64 r, .int .i64 s]] w fun r w' => r = .returned (.tuple #[.bool L, .bool true]) ∧ Below w.heap.size w w'))
    (H7 : Hid (Kq 36 [.int .i64 (2 * n)] true (2 * n) 1 true)) (w : World) :
    Calls Try.prog 45 #[.int .i64 n, .agg #[.int .i64 p, .int .i64 q, .int .i64 r, .int .i64 s, .int .i64 t, .int .i64 u]] w fun e w' => e = .returned (.tuple #[.bool (o4 && isB n p t x5 y5 x3 y3 x4 y4 L), .bool o4]) ∧ Below w.heap.size w w' := by
  unfold isB
  go_enter Try.func45, Try.ntmps45
  go_wp2_with fail
  have kT := (Blk.new w #[.int .i64 p, .int .i64 q, .int .i64 r, .int .i64 s, .int .i64 t, .int .i64 u] 27).alloc (.cells #[.bool true] 63)
  have kc : CB (w.heap.size + 1) true ((w.alloc (.cells #[.int .i64 p, .int .i64 q, .int .i64 r, .int .i64 s, .int .i64 t, .int .i64 u] 27)).alloc (.cells #[.bool true] 63)) := ⟨by simp [go_sem], by simp [go_sem], by simp⟩
  have hB : Below w.heap.size w ((w.alloc (.cells #[.int .i64 p, .int .i64 q, .int .i64 r, .int .i64 s, .int .i64 t, .int .i64 u] 27)).alloc (.cells #[.bool true] 63)) := by (repeat' (first | (with_reducible exact Below.refl _ _) | (with_reducible refine below_step (by assumption) ?_ ?_) | (with_reducible refine Below.alloc ?_ ?_ _) | (with_reducible refine Below.setCell ?_ ?_ _) | (with_reducible refine below_drewN ?_ _) | (with_reducible refine Below.drew ?_) | omega | (simp; omega) | (simp; done)))
  generalize (w.alloc (.cells #[.int .i64 p, .int .i64 q, .int .i64 r, .int .i64 s, .int .i64 t, .int .i64 u] 27)).alloc (.cells #[.bool true] 63) = W at *
  have a0 : W.cell? ⟨w.heap.size, 0, none⟩ = some (.int .i64 p) := kT.cell 0
  have a1 : W.cell? ⟨w.heap.size, 1, none⟩ = some (.int .i64 q) := kT.cell 1
  have a2 : W.cell? ⟨w.heap.size, 2, none⟩ = some (.int .i64 r) := kT.cell 2
  have a3 : W.cell? ⟨w.heap.size, 3, none⟩ = some (.int .i64 s) := kT.cell 3
  have lT := kT.lt
  have lc := kc.2.2
  generalize hc : w.heap.size + 1 = c at *
  have hcT : w.heap.size ≠ c := by omega
  have hcw : w.heap.size < c := by omega
  clear hc
  apply region_join1 (fun r7 Wz => Over [c] W Wz ∧ (CB c o5) Wz ∧ W.heap.size ≤ r7 ∧ Blk r7 #[.int .i64 x5, .int .i64 y5] 25 Wz)
  · intro hcont
    refine wp_region_cls [c] (fun _ => false) (fun _ => True) (KD (CB c true) []) (by kernel_rfl) ⟨(CB.closed _ _) _ _ (kc) ((Below.refl _ _).drew), MemL.nil _⟩ ?_
    apply wpAnyF_hd ⟨W, Over.refl _ _, kc, MemL.nil _⟩ [true, true, true, true, true, true, false, true, true, true, true, true] 5 (KD.closed (CB.closed _ _) _) (fun _ _ => trivial) (by kernel_rfl) (by kernel_rfl) (by kernel_rfl) (by kernel_rfl) (by simp)
    · intro E hE hEN hEn; (repeat (first | (refine wpHL_take ?_; go_big_quiet_step (fail); refine wpQuiet_nil ?_) | refine wpHL_skip ?_)); exact wpHL_end rfl
    refine wpAnyF_ready [6, 14] 4 (by kernel_rfl) (by kernel_rfl) (by simp) ?_
    refine AllF.cons ?_ ?_
    · refine stepK_call (v := .agg #[.int .i64 x1, .int .i64 y1]) (some 20) (CB c o1) (by rfl) (by rfl) (by rfl) (fun _ => by go_simp) (CB.closed _ _) (fun x hx => by cases hx) (fun w' hC => H1.out c w' hC) (fun hne => ?_)
      simp only [Act.put, List.setIfInBounds_toArray, List.set_cons_succ, List.set_cons_zero]
      refine wpAnyF_ready [12, 14] 3 (by kernel_rfl) (by kernel_rfl) (by simp) ?_
      refine AllF.cons ?_ ?_
      · refine stepK_call (v := .agg #[.int .i64 x2, .int .i64 y2]) (some 26) (CB c o2) (by rfl) (by rfl) (by rfl) (fun _ => by go_simp) (CB.closed _ _) (fun x hx => by cases hx) (fun w' hC => H2.out c w' hC) (fun hne => ?_)
        simp only [Act.put, List.setIfInBounds_toArray, List.set_cons_succ, List.set_cons_zero]
        refine wpAnyF_ready [13, 14] 2 (by kernel_rfl) (by kernel_rfl) (by simp) ?_
        refine AllF.cons ?_ ?_
        · refine stepK_call (v := .agg #[.int .i64 x5, .int .i64 y5]) (some 27) (CB c o5) (by rfl) (by rfl) (by rfl) (fun _ => by go_simp) (CB.closed _ _) (fun x hx => by cases hx) (fun w' hC => H5.out c w' hC) (fun hne => ?_)
          simp only [Act.put, List.setIfInBounds_toArray, List.set_cons_succ, List.set_cons_zero]
          refine wpAnyF_ready [14] 1 (by kernel_rfl) (by kernel_rfl) (by simp) ?_
          refine AllF.cons ?_ ?_
          · refine stepK_alloc (zs := #[.int .i64 0, .int .i64 0]) (T := 25) (by rfl) (by rfl) (by rfl) (fun _ => by go_simp) (CB.closed _ _) (fun r7 hr7 hl7 hne => ?_)
            simp only [Act.put, List.setIfInBounds_toArray, List.set_cons_succ, List.set_cons_zero]
            refine wpAnyF_ready [15] 0 (by kernel_rfl) (by kernel_rfl) (by simp) ?_
            refine AllF.cons ?_ ?_
            · refine stepK_store (v := .agg #[.int .i64 x5, .int .i64 y5]) [] [] (by rfl) (by rfl) (by rfl) (by rfl) (by rfl) (by rfl) (fun _ => by go_simp) (by rfl) (by simp [Value.cells, one1]) (.inl hr7) (CB.closed _ _) (fun _ _ h ho => CB.over h ho (by omega)) (by simp) (fun hne => ?_)
              try simp only [Value.cells]
              refine wpAnyF_done (by kernel_rfl) (fun Wz hOz hDz => ?_) _
              exact hcont r7 Wz ⟨hOz, hDz.1, (by omega), hDz.2.head⟩
            exact AllF.nil
          exact AllF.nil
        refine AllF.cons ?_ ?_
        · refine stepK_alloc (zs := #[.int .i64 0, .int .i64 0]) (T := 25) (by rfl) (by rfl) (by rfl) (fun _ => by go_simp) (CB.closed _ _) (fun r7 hr7 hl7 hne => ?_)
          simp only [Act.put, List.setIfInBounds_toArray, List.set_cons_succ, List.set_cons_zero]
          refine wpAnyF_ready [13] 1 (by kernel_rfl) (by kernel_rfl) (by simp) ?_
          refine AllF.cons ?_ ?_
          · refine stepK_call (v := .agg #[.int .i64 x5, .int .i64 y5]) (some 27) (CB c o5) (by rfl) (by rfl) (by rfl) (fun _ => by go_simp) (CB.closed _ _) (by simp; omega) (fun w' hC => H5.out c w' hC) (fun hne => ?_)
            simp only [Act.put, List.setIfInBounds_toArray, List.set_cons_succ, List.set_cons_zero]
            refine wpAnyF_ready [15] 0 (by kernel_rfl) (by kernel_rfl) (by simp) ?_
            refine AllF.cons ?_ ?_
            · refine stepK_store (v := .agg #[.int .i64 x5, .int .i64 y5]) [] [] (by rfl) (by rfl) (by rfl) (by rfl) (by rfl) (by rfl) (fun _ => by go_simp) (by rfl) (by simp [Value.cells, one1]) (.inl hr7) (CB.closed _ _) (fun _ _ h ho => CB.over h ho (by omega)) (by simp) (fun hne => ?_)
              try simp only [Value.cells]
              refine wpAnyF_done (by kernel_rfl) (fun Wz hOz hDz => ?_) _
              exact hcont r7 Wz ⟨hOz, hDz.1, (by omega), hDz.2.head⟩
            exact AllF.nil
          exact AllF.nil
        exact AllF.nil
      refine AllF.cons ?_ ?_
      · refine stepK_alloc (zs := #[.int .i64 0, .int .i64 0]) (T := 25) (by rfl) (by rfl) (by rfl) (fun _ => by go_simp) (CB.closed _ _) (fun r7 hr7 hl7 hne => ?_)
        simp only [Act.put, List.setIfInBounds_toArray, List.set_cons_succ, List.set_cons_zero]
        refine wpAnyF_ready [12] 2 (by kernel_rfl) (by kernel_rfl) (by simp) ?_
        refine AllF.cons ?_ ?_
        · refine stepK_call (v := .agg #[.int .i64 x2, .int .i64 y2]) (some 26) (CB c o2) (by rfl) (by rfl) (by rfl) (fun _ => by go_simp) (CB.closed _ _) (by simp; omega) (fun w' hC => H2.out c w' hC) (fun hne => ?_)
          simp only [Act.put, List.setIfInBounds_toArray, List.set_cons_succ, List.set_cons_zero]
          refine wpAnyF_ready [13] 1 (by kernel_rfl) (by kernel_rfl) (by simp) ?_
          refine AllF.cons ?_ ?_
          · refine stepK_call (v := .agg #[.int .i64 x5, .int .i64 y5]) (some 27) (CB c o5) (by rfl) (by rfl) (by rfl) (fun _ => by go_simp) (CB.closed _ _) (by simp; omega) (fun w' hC => H5.out c w' hC) (fun hne => ?_)
            simp only [Act.put, List.setIfInBounds_toArray, List.set_cons_succ, List.set_cons_zero]
            refine wpAnyF_ready [15] 0 (by kernel_rfl) (by kernel_rfl) (by simp) ?_
            refine AllF.cons ?_ ?_
            · refine stepK_store (v := .agg #[.int .i64 x5, .int .i64 y5]) [] [] (by rfl) (by rfl) (by rfl) (by rfl) (by rfl) (by rfl) (fun _ => by go_simp) (by rfl) (by simp [Value.cells, one1]) (.inl hr7) (CB.closed _ _) (fun _ _ h ho => CB.over h ho (by omega)) (by simp) (fun hne => ?_)
              try simp only [Value.cells]
              refine wpAnyF_done (by kernel_rfl) (fun Wz hOz hDz => ?_) _
              exact hcont r7 Wz ⟨hOz, hDz.1, (by omega), hDz.2.head⟩
            exact AllF.nil
          exact AllF.nil
        exact AllF.nil
      exact AllF.nil
    refine AllF.cons ?_ ?_
    · refine stepK_alloc (zs := #[.int .i64 0, .int .i64 0]) (T := 25) (by rfl) (by rfl) (by rfl) (fun _ => by go_simp) (CB.closed _ _) (fun r7 hr7 hl7 hne => ?_)
      simp only [Act.put, List.setIfInBounds_toArray, List.set_cons_succ, List.set_cons_zero]
      refine wpAnyF_ready [6] 3 (by kernel_rfl) (by kernel_rfl) (by simp) ?_
      refine AllF.cons ?_ ?_
      · refine stepK_call (v := .agg #[.int .i64 x1, .int .i64 y1]) (some 20) (CB c o1) (by rfl) (by rfl) (by rfl) (fun _ => by go_simp) (CB.closed _ _) (by simp; omega) (fun w' hC => H1.out c w' hC) (fun hne => ?_)
        simp only [Act.put, List.setIfInBounds_toArray, List.set_cons_succ, List.set_cons_zero]
        refine wpAnyF_ready [12] 2 (by kernel_rfl) (by kernel_rfl) (by simp) ?_
        refine AllF.cons ?_ ?_
        · refine stepK_call (v := .agg #[.int .i64 x2, .int .i64 y2]) (some 26) (CB c o2) (by rfl) (by rfl) (by rfl) (fun _ => by go_simp) (CB.closed _ _) (by simp; omega) (fun w' hC => H2.out c w' hC) (fun hne => ?_)
          simp only [Act.put, List.setIfInBounds_toArray, List.set_cons_succ, List.set_cons_zero]
          refine wpAnyF_ready [13] 1 (by kernel_rfl) (by kernel_rfl) (by simp) ?_
          refine AllF.cons ?_ ?_
          · refine stepK_call (v := .agg #[.int .i64 x5, .int .i64 y5]) (some 27) (CB c o5) (by rfl) (by rfl) (by rfl) (fun _ => by go_simp) (CB.closed _ _) (by simp; omega) (fun w' hC => H5.out c w' hC) (fun hne => ?_)
            simp only [Act.put, List.setIfInBounds_toArray, List.set_cons_succ, List.set_cons_zero]
            refine wpAnyF_ready [15] 0 (by kernel_rfl) (by kernel_rfl) (by simp) ?_
            refine AllF.cons ?_ ?_
            · refine stepK_store (v := .agg #[.int .i64 x5, .int .i64 y5]) [] [] (by rfl) (by rfl) (by rfl) (by rfl) (by rfl) (by rfl) (fun _ => by go_simp) (by rfl) (by simp [Value.cells, one1]) (.inl hr7) (CB.closed _ _) (fun _ _ h ho => CB.over h ho (by omega)) (by simp) (fun hne => ?_)
              try simp only [Value.cells]
              refine wpAnyF_done (by kernel_rfl) (fun Wz hOz hDz => ?_) _
              exact hcont r7 Wz ⟨hOz, hDz.1, (by omega), hDz.2.head⟩
            exact AllF.nil
          exact AllF.nil
        exact AllF.nil
      exact AllF.nil
    exact AllF.nil
  try dsimp only
  rintro r7 W1 ⟨hO1, kc1, hr7, k7⟩
  have kT1 := kT.over hO1 (by simpa using hcT)
  have hB1 : Below w.heap.size w W1 := hB.trans (hO1.below1 (by omega) (by have := hB.size; omega))
  have hl1 := hO1.size
  clear kT hO1 a0 a1 a2 a3 hB kc
  have a0 : W1.cell? ⟨w.heap.size, 0, none⟩ = some (.int .i64 p) := kT1.cell 0
  have a1 : W1.cell? ⟨w.heap.size, 1, none⟩ = some (.int .i64 q) := kT1.cell 1
  have a2 : W1.cell? ⟨w.heap.size, 2, none⟩ = some (.int .i64 r) := kT1.cell 2
  have a3 : W1.cell? ⟨w.heap.size, 3, none⟩ = some (.int .i64 s) := kT1.cell 3
  have a4 : W1.cell? ⟨w.heap.size, 4, none⟩ = some (.int .i64 t) := kT1.cell 4
  have a5 : W1.cell? ⟨w.heap.size, 5, none⟩ = some (.int .i64 u) := kT1.cell 5
  have lT1 := kT1.lt
  have lc1 := kc1.2.2
  have hc7 : r7 ≠ c := by omega
  go_wp2
  apply region_join2 (fun r8 r9 Wz => Over [c] W1 Wz ∧ (CB c o4) Wz ∧ W1.heap.size ≤ r8 ∧ W1.heap.size ≤ r9 ∧ r9 ≠ r8 ∧ Blk r8 #[.int .i64 x3, .int .i64 y3] 25 Wz ∧ Blk r9 #[.int .i64 x4, .int .i64 y4] 25 Wz)
  · intro hcont
    refine wp_region_cls [c] (fun _ => false) (fun _ => True) (KD (CB c o5) []) (by kernel_rfl) ⟨(CB.closed _ _) _ _ (kc1) ((Below.refl _ _).drew), MemL.nil _⟩ ?_
    apply wpAnyF_hd ⟨W1, Over.refl _ _, kc1, MemL.nil _⟩ [true, true, true, true, true, false, true, true, true, true, true] 6 (KD.closed (CB.closed _ _) _) (fun _ _ => trivial) (by kernel_rfl) (by kernel_rfl) (by kernel_rfl) (by kernel_rfl) (by simp)
    · intro E hE hEN hEn; (repeat (first | (refine wpHL_take ?_; go_big_quiet_step (fail); refine wpQuiet_nil ?_) | refine wpHL_skip ?_)); exact wpHL_end rfl
    refine wpAnyF_ready [5, 12, 13] 5 (by kernel_rfl) (by kernel_rfl) (by simp) ?_
    refine AllF.cons ?_ ?_
    · refine stepK_call (v := .agg #[.int .i64 x3, .int .i64 y3]) (some 33) (CB c o3) (by rfl) (by rfl) (by rfl) (fun _ => by go_simp) (CB.closed _ _) (fun x hx => by cases hx) (fun w' hC => H3.out c w' hC) (fun hne => ?_)
      simp only [Act.put, List.setIfInBounds_toArray, List.set_cons_succ, List.set_cons_zero]
      refine wpAnyF_ready [11, 12, 13] 4 (by kernel_rfl) (by kernel_rfl) (by simp) ?_
      refine AllF.cons ?_ ?_
      · refine stepK_call (v := .agg #[.int .i64 x4, .int .i64 y4]) (some 39) (CB c o4) (by rfl) (by rfl) (by rfl) (fun _ => by go_simp) (CB.closed _ _) (fun x hx => by cases hx) (fun w' hC => H4.out c w' hC) (fun hne => ?_)
        simp only [Act.put, List.setIfInBounds_toArray, List.set_cons_succ, List.set_cons_zero]
        refine wpAnyF_ready [12, 13] 3 (by kernel_rfl) (by kernel_rfl) (by simp) ?_
        refine AllF.cons ?_ ?_
        · refine stepK_alloc (zs := #[.int .i64 0, .int .i64 0]) (T := 25) (by rfl) (by rfl) (by rfl) (fun _ => by go_simp) (CB.closed _ _) (fun r8 hr8 hl8 hne => ?_)
          simp only [Act.put, List.setIfInBounds_toArray, List.set_cons_succ, List.set_cons_zero]
          refine wpAnyF_ready [13] 2 (by kernel_rfl) (by kernel_rfl) (by simp) ?_
          refine AllF.cons ?_ ?_
          · refine stepK_alloc (zs := #[.int .i64 0, .int .i64 0]) (T := 25) (by rfl) (by rfl) (by rfl) (fun _ => by go_simp) (CB.closed _ _) (fun r9 hr9 hl9 hne => ?_)
            simp only [Act.put, List.setIfInBounds_toArray, List.set_cons_succ, List.set_cons_zero]
            simp at hl9
            refine wpAnyF_ready [14] 1 (by kernel_rfl) (by kernel_rfl) (by simp) ?_
            refine AllF.cons ?_ ?_
            · refine stepK_store (v := .agg #[.int .i64 x3, .int .i64 y3]) [(r9, #[.int .i64 0, .int .i64 0], 25)] [] (by rfl) (by rfl) (by rfl) (by rfl) (by rfl) (by rfl) (fun _ => by go_simp) (by rfl) (by simp [Value.cells, one1]) (.inl hr8) (CB.closed _ _) (fun _ _ h ho => CB.over h ho (by omega)) (by simp; omega) (fun hne => ?_)
              try simp only [Value.cells]
              refine wpAnyF_ready [15] 0 (by kernel_rfl) (by kernel_rfl) (by simp) ?_
              refine AllF.cons ?_ ?_
              · refine stepK_store (v := .agg #[.int .i64 x4, .int .i64 y4]) [] [(r8, #[.int .i64 x3, .int .i64 y3], 25)] (by rfl) (by rfl) (by rfl) (by rfl) (by rfl) (by rfl) (fun _ => by go_simp) (by rfl) (by simp [Value.cells, one1]) (.inl hr9) (CB.closed _ _) (fun _ _ h ho => CB.over h ho (by omega)) (by simp; omega) (fun hne => ?_)
                try simp only [Value.cells]
                refine wpAnyF_done (by kernel_rfl) (fun Wz hOz hDz => ?_) _
                exact hcont r8 r9 Wz ⟨hOz, hDz.1, (by omega), (by omega), (by omega), hDz.2.tail.head, hDz.2.head⟩
              exact AllF.nil
            exact AllF.nil
          exact AllF.nil
        refine AllF.cons ?_ ?_
        · refine stepK_alloc (zs := #[.int .i64 0, .int .i64 0]) (T := 25) (by rfl) (by rfl) (by rfl) (fun _ => by go_simp) (CB.closed _ _) (fun r9 hr9 hl9 hne => ?_)
          simp only [Act.put, List.setIfInBounds_toArray, List.set_cons_succ, List.set_cons_zero]
          refine wpAnyF_ready [12] 2 (by kernel_rfl) (by kernel_rfl) (by simp) ?_
          refine AllF.cons ?_ ?_
          · refine stepK_alloc (zs := #[.int .i64 0, .int .i64 0]) (T := 25) (by rfl) (by rfl) (by rfl) (fun _ => by go_simp) (CB.closed _ _) (fun r8 hr8 hl8 hne => ?_)
            simp only [Act.put, List.setIfInBounds_toArray, List.set_cons_succ, List.set_cons_zero]
            simp at hl8
            refine wpAnyF_ready [14] 1 (by kernel_rfl) (by kernel_rfl) (by simp) ?_
            refine AllF.cons ?_ ?_
            · refine stepK_store (v := .agg #[.int .i64 x3, .int .i64 y3]) [] [(r9, #[.int .i64 0, .int .i64 0], 25)] (by rfl) (by rfl) (by rfl) (by rfl) (by rfl) (by rfl) (fun _ => by go_simp) (by rfl) (by simp [Value.cells, one1]) (.inl hr8) (CB.closed _ _) (fun _ _ h ho => CB.over h ho (by omega)) (by simp; omega) (fun hne => ?_)
              try simp only [Value.cells]
              refine wpAnyF_ready [15] 0 (by kernel_rfl) (by kernel_rfl) (by simp) ?_
              refine AllF.cons ?_ ?_
              · refine stepK_store (v := .agg #[.int .i64 x4, .int .i64 y4]) [(r8, #[.int .i64 x3, .int .i64 y3], 25)] [] (by rfl) (by rfl) (by rfl) (by rfl) (by rfl) (by rfl) (fun _ => by go_simp) (by rfl) (by simp [Value.cells, one1]) (.inl hr9) (CB.closed _ _) (fun _ _ h ho => CB.over h ho (by omega)) (by simp; omega) (fun hne => ?_)
                try simp only [Value.cells]
                refine wpAnyF_done (by kernel_rfl) (fun Wz hOz hDz => ?_) _
                exact hcont r8 r9 Wz ⟨hOz, hDz.1, (by omega), (by omega), (by omega), hDz.2.head, hDz.2.tail.head⟩
              exact AllF.nil
            exact AllF.nil
          exact AllF.nil
        exact AllF.nil
      refine AllF.cons ?_ ?_
      · refine stepK_alloc (zs := #[.int .i64 0, .int .i64 0]) (T := 25) (by rfl) (by rfl) (by rfl) (fun _ => by go_simp) (CB.closed _ _) (fun r8 hr8 hl8 hne => ?_)
        simp only [Act.put, List.setIfInBounds_toArray, List.set_cons_succ, List.set_cons_zero]
        refine wpAnyF_ready [11, 13] 3 (by kernel_rfl) (by kernel_rfl) (by simp) ?_
        refine AllF.cons ?_ ?_
        · refine stepK_call (v := .agg #[.int .i64 x4, .int .i64 y4]) (some 39) (CB c o4) (by rfl) (by rfl) (by rfl) (fun _ => by go_simp) (CB.closed _ _) (by simp; omega) (fun w' hC => H4.out c w' hC) (fun hne => ?_)
          simp only [Act.put, List.setIfInBounds_toArray, List.set_cons_succ, List.set_cons_zero]
          refine wpAnyF_ready [13] 2 (by kernel_rfl) (by kernel_rfl) (by simp) ?_
          refine AllF.cons ?_ ?_
          · refine stepK_alloc (zs := #[.int .i64 0, .int .i64 0]) (T := 25) (by rfl) (by rfl) (by rfl) (fun _ => by go_simp) (CB.closed _ _) (fun r9 hr9 hl9 hne => ?_)
            simp only [Act.put, List.setIfInBounds_toArray, List.set_cons_succ, List.set_cons_zero]
            simp at hl9
            refine wpAnyF_ready [14] 1 (by kernel_rfl) (by kernel_rfl) (by simp) ?_
            refine AllF.cons ?_ ?_
            · refine stepK_store (v := .agg #[.int .i64 x3, .int .i64 y3]) [(r9, #[.int .i64 0, .int .i64 0], 25)] [] (by rfl) (by rfl) (by rfl) (by rfl) (by rfl) (by rfl) (fun _ => by go_simp) (by rfl) (by simp [Value.cells, one1]) (.inl hr8) (CB.closed _ _) (fun _ _ h ho => CB.over h ho (by omega)) (by simp; omega) (fun hne => ?_)
              try simp only [Value.cells]
              refine wpAnyF_ready [15] 0 (by kernel_rfl) (by kernel_rfl) (by simp) ?_
              refine AllF.cons ?_ ?_
              · refine stepK_store (v := .agg #[.int .i64 x4, .int .i64 y4]) [] [(r8, #[.int .i64 x3, .int .i64 y3], 25)] (by rfl) (by rfl) (by rfl) (by rfl) (by rfl) (by rfl) (fun _ => by go_simp) (by rfl) (by simp [Value.cells, one1]) (.inl hr9) (CB.closed _ _) (fun _ _ h ho => CB.over h ho (by omega)) (by simp; omega) (fun hne => ?_)
                try simp only [Value.cells]
                refine wpAnyF_done (by kernel_rfl) (fun Wz hOz hDz => ?_) _
                exact hcont r8 r9 Wz ⟨hOz, hDz.1, (by omega), (by omega), (by omega), hDz.2.tail.head, hDz.2.head⟩
              exact AllF.nil
            exact AllF.nil
          exact AllF.nil
        refine AllF.cons ?_ ?_
        · refine stepK_alloc (zs := #[.int .i64 0, .int .i64 0]) (T := 25) (by rfl) (by rfl) (by rfl) (fun _ => by go_simp) (CB.closed _ _) (fun r9 hr9 hl9 hne => ?_)
          simp only [Act.put, List.setIfInBounds_toArray, List.set_cons_succ, List.set_cons_zero]
          simp at hl9
          refine wpAnyF_ready [11] 2 (by kernel_rfl) (by kernel_rfl) (by simp) ?_
          refine AllF.cons ?_ ?_
          · refine stepK_call (v := .agg #[.int .i64 x4, .int .i64 y4]) (some 39) (CB c o4) (by rfl) (by rfl) (by rfl) (fun _ => by go_simp) (CB.closed _ _) (by simp; omega) (fun w' hC => H4.out c w' hC) (fun hne => ?_)
            simp only [Act.put, List.setIfInBounds_toArray, List.set_cons_succ, List.set_cons_zero]
            refine wpAnyF_ready [14] 1 (by kernel_rfl) (by kernel_rfl) (by simp) ?_
            refine AllF.cons ?_ ?_
            · refine stepK_store (v := .agg #[.int .i64 x3, .int .i64 y3]) [(r9, #[.int .i64 0, .int .i64 0], 25)] [] (by rfl) (by rfl) (by rfl) (by rfl) (by rfl) (by rfl) (fun _ => by go_simp) (by rfl) (by simp [Value.cells, one1]) (.inl hr8) (CB.closed _ _) (fun _ _ h ho => CB.over h ho (by omega)) (by simp; omega) (fun hne => ?_)
              try simp only [Value.cells]
              refine wpAnyF_ready [15] 0 (by kernel_rfl) (by kernel_rfl) (by simp) ?_
              refine AllF.cons ?_ ?_
              · refine stepK_store (v := .agg #[.int .i64 x4, .int .i64 y4]) [] [(r8, #[.int .i64 x3, .int .i64 y3], 25)] (by rfl) (by rfl) (by rfl) (by rfl) (by rfl) (by rfl) (fun _ => by go_simp) (by rfl) (by simp [Value.cells, one1]) (.inl hr9) (CB.closed _ _) (fun _ _ h ho => CB.over h ho (by omega)) (by simp; omega) (fun hne => ?_)
                try simp only [Value.cells]
                refine wpAnyF_done (by kernel_rfl) (fun Wz hOz hDz => ?_) _
                exact hcont r8 r9 Wz ⟨hOz, hDz.1, (by omega), (by omega), (by omega), hDz.2.tail.head, hDz.2.head⟩
              exact AllF.nil
            exact AllF.nil
          exact AllF.nil
        exact AllF.nil
      refine AllF.cons ?_ ?_
      · refine stepK_alloc (zs := #[.int .i64 0, .int .i64 0]) (T := 25) (by rfl) (by rfl) (by rfl) (fun _ => by go_simp) (CB.closed _ _) (fun r9 hr9 hl9 hne => ?_)
        simp only [Act.put, List.setIfInBounds_toArray, List.set_cons_succ, List.set_cons_zero]
        refine wpAnyF_ready [11, 12] 3 (by kernel_rfl) (by kernel_rfl) (by simp) ?_
        refine AllF.cons ?_ ?_
        · refine stepK_call (v := .agg #[.int .i64 x4, .int .i64 y4]) (some 39) (CB c o4) (by rfl) (by rfl) (by rfl) (fun _ => by go_simp) (CB.closed _ _) (by simp; omega) (fun w' hC => H4.out c w' hC) (fun hne => ?_)
          simp only [Act.put, List.setIfInBounds_toArray, List.set_cons_succ, List.set_cons_zero]
          refine wpAnyF_ready [12] 2 (by kernel_rfl) (by kernel_rfl) (by simp) ?_
          refine AllF.cons ?_ ?_
          · refine stepK_alloc (zs := #[.int .i64 0, .int .i64 0]) (T := 25) (by rfl) (by rfl) (by rfl) (fun _ => by go_simp) (CB.closed _ _) (fun r8 hr8 hl8 hne => ?_)
            simp only [Act.put, List.setIfInBounds_toArray, List.set_cons_succ, List.set_cons_zero]
            simp at hl8
            refine wpAnyF_ready [14] 1 (by kernel_rfl) (by kernel_rfl) (by simp) ?_
            refine AllF.cons ?_ ?_
            · refine stepK_store (v := .agg #[.int .i64 x3, .int .i64 y3]) [] [(r9, #[.int .i64 0, .int .i64 0], 25)] (by rfl) (by rfl) (by rfl) (by rfl) (by rfl) (by rfl) (fun _ => by go_simp) (by rfl) (by simp [Value.cells, one1]) (.inl hr8) (CB.closed _ _) (fun _ _ h ho => CB.over h ho (by omega)) (by simp; omega) (fun hne => ?_)
              try simp only [Value.cells]
              refine wpAnyF_ready [15] 0 (by kernel_rfl) (by kernel_rfl) (by simp) ?_
              refine AllF.cons ?_ ?_
              · refine stepK_store (v := .agg #[.int .i64 x4, .int .i64 y4]) [(r8, #[.int .i64 x3, .int .i64 y3], 25)] [] (by rfl) (by rfl) (by rfl) (by rfl) (by rfl) (by rfl) (fun _ => by go_simp) (by rfl) (by simp [Value.cells, one1]) (.inl hr9) (CB.closed _ _) (fun _ _ h ho => CB.over h ho (by omega)) (by simp; omega) (fun hne => ?_)
                try simp only [Value.cells]
                refine wpAnyF_done (by kernel_rfl) (fun Wz hOz hDz => ?_) _
                exact hcont r8 r9 Wz ⟨hOz, hDz.1, (by omega), (by omega), (by omega), hDz.2.head, hDz.2.tail.head⟩
              exact AllF.nil
            exact AllF.nil
          exact AllF.nil
        refine AllF.cons ?_ ?_
        · refine stepK_alloc (zs := #[.int .i64 0, .int .i64 0]) (T := 25) (by rfl) (by rfl) (by rfl) (fun _ => by go_simp) (CB.closed _ _) (fun r8 hr8 hl8 hne => ?_)
          simp only [Act.put, List.setIfInBounds_toArray, List.set_cons_succ, List.set_cons_zero]
          simp at hl8
          refine wpAnyF_ready [11] 2 (by kernel_rfl) (by kernel_rfl) (by simp) ?_
          refine AllF.cons ?_ ?_
          · refine stepK_call (v := .agg #[.int .i64 x4, .int .i64 y4]) (some 39) (CB c o4) (by rfl) (by rfl) (by rfl) (fun _ => by go_simp) (CB.closed _ _) (by simp; omega) (fun w' hC => H4.out c w' hC) (fun hne => ?_)
            simp only [Act.put, List.setIfInBounds_toArray, List.set_cons_succ, List.set_cons_zero]
            refine wpAnyF_ready [14] 1 (by kernel_rfl) (by kernel_rfl) (by simp) ?_
            refine AllF.cons ?_ ?_
            · refine stepK_store (v := .agg #[.int .i64 x3, .int .i64 y3]) [] [(r9, #[.int .i64 0, .int .i64 0], 25)] (by rfl) (by rfl) (by rfl) (by rfl) (by rfl) (by rfl) (fun _ => by go_simp) (by rfl) (by simp [Value.cells, one1]) (.inl hr8) (CB.closed _ _) (fun _ _ h ho => CB.over h ho (by omega)) (by simp; omega) (fun hne => ?_)
              try simp only [Value.cells]
              refine wpAnyF_ready [15] 0 (by kernel_rfl) (by kernel_rfl) (by simp) ?_
              refine AllF.cons ?_ ?_
              · refine stepK_store (v := .agg #[.int .i64 x4, .int .i64 y4]) [(r8, #[.int .i64 x3, .int .i64 y3], 25)] [] (by rfl) (by rfl) (by rfl) (by rfl) (by rfl) (by rfl) (fun _ => by go_simp) (by rfl) (by simp [Value.cells, one1]) (.inl hr9) (CB.closed _ _) (fun _ _ h ho => CB.over h ho (by omega)) (by simp; omega) (fun hne => ?_)
                try simp only [Value.cells]
                refine wpAnyF_done (by kernel_rfl) (fun Wz hOz hDz => ?_) _
                exact hcont r8 r9 Wz ⟨hOz, hDz.1, (by omega), (by omega), (by omega), hDz.2.head, hDz.2.tail.head⟩
              exact AllF.nil
            exact AllF.nil
          exact AllF.nil
        exact AllF.nil
      exact AllF.nil
    refine AllF.cons ?_ ?_
    · refine stepK_alloc (zs := #[.int .i64 0, .int .i64 0]) (T := 25) (by rfl) (by rfl) (by rfl) (fun _ => by go_simp) (CB.closed _ _) (fun r8 hr8 hl8 hne => ?_)
      simp only [Act.put, List.setIfInBounds_toArray, List.set_cons_succ, List.set_cons_zero]
      refine wpAnyF_ready [5, 13] 4 (by kernel_rfl) (by kernel_rfl) (by simp) ?_
      refine AllF.cons ?_ ?_
      · refine stepK_call (v := .agg #[.int .i64 x3, .int .i64 y3]) (some 33) (CB c o3) (by rfl) (by rfl) (by rfl) (fun _ => by go_simp) (CB.closed _ _) (by simp; omega) (fun w' hC => H3.out c w' hC) (fun hne => ?_)
        simp only [Act.put, List.setIfInBounds_toArray, List.set_cons_succ, List.set_cons_zero]
        refine wpAnyF_ready [11, 13] 3 (by kernel_rfl) (by kernel_rfl) (by simp) ?_
        refine AllF.cons ?_ ?_
        · refine stepK_call (v := .agg #[.int .i64 x4, .int .i64 y4]) (some 39) (CB c o4) (by rfl) (by rfl) (by rfl) (fun _ => by go_simp) (CB.closed _ _) (by simp; omega) (fun w' hC => H4.out c w' hC) (fun hne => ?_)
          simp only [Act.put, List.setIfInBounds_toArray, List.set_cons_succ, List.set_cons_zero]
          refine wpAnyF_ready [13] 2 (by kernel_rfl) (by kernel_rfl) (by simp) ?_
          refine AllF.cons ?_ ?_
          · refine stepK_alloc (zs := #[.int .i64 0, .int .i64 0]) (T := 25) (by rfl) (by rfl) (by rfl) (fun _ => by go_simp) (CB.closed _ _) (fun r9 hr9 hl9 hne => ?_)
            simp only [Act.put, List.setIfInBounds_toArray, List.set_cons_succ, List.set_cons_zero]
            simp at hl9
            refine wpAnyF_ready [14] 1 (by kernel_rfl) (by kernel_rfl) (by simp) ?_
            refine AllF.cons ?_ ?_
            · refine stepK_store (v := .agg #[.int .i64 x3, .int .i64 y3]) [(r9, #[.int .i64 0, .int .i64 0], 25)] [] (by rfl) (by rfl) (by rfl) (by rfl) (by rfl) (by rfl) (fun _ => by go_simp) (by rfl) (by simp [Value.cells, one1]) (.inl hr8) (CB.closed _ _) (fun _ _ h ho => CB.over h ho (by omega)) (by simp; omega) (fun hne => ?_)
              try simp only [Value.cells]
              refine wpAnyF_ready [15] 0 (by kernel_rfl) (by kernel_rfl) (by simp) ?_
              refine AllF.cons ?_ ?_
              · refine stepK_store (v := .agg #[.int .i64 x4, .int .i64 y4]) [] [(r8, #[.int .i64 x3, .int .i64 y3], 25)] (by rfl) (by rfl) (by rfl) (by rfl) (by rfl) (by rfl) (fun _ => by go_simp) (by rfl) (by simp [Value.cells, one1]) (.inl hr9) (CB.closed _ _) (fun _ _ h ho => CB.over h ho (by omega)) (by simp; omega) (fun hne => ?_)
                try simp only [Value.cells]
                refine wpAnyF_done (by kernel_rfl) (fun Wz hOz hDz => ?_) _
                exact hcont r8 r9 Wz ⟨hOz, hDz.1, (by omega), (by omega), (by omega), hDz.2.tail.head, hDz.2.head⟩
              exact AllF.nil
            exact AllF.nil
          exact AllF.nil
        refine AllF.cons ?_ ?_
        · refine stepK_alloc (zs := #[.int .i64 0, .int .i64 0]) (T := 25) (by rfl) (by rfl) (by rfl) (fun _ => by go_simp) (CB.closed _ _) (fun r9 hr9 hl9 hne => ?_)
          simp only [Act.put, List.setIfInBounds_toArray, List.set_cons_succ, List.set_cons_zero]
          simp at hl9
          refine wpAnyF_ready [11] 2 (by kernel_rfl) (by kernel_rfl) (by simp) ?_
          refine AllF.cons ?_ ?_
          · refine stepK_call (v := .agg #[.int .i64 x4, .int .i64 y4]) (some 39) (CB c o4) (by rfl) (by rfl) (by rfl) (fun _ => by go_simp) (CB.closed _ _) (by simp; omega) (fun w' hC => H4.out c w' hC) (fun hne => ?_)
            simp only [Act.put, List.setIfInBounds_toArray, List.set_cons_succ, List.set_cons_zero]
            refine wpAnyF_ready [14] 1 (by kernel_rfl) (by kernel_rfl) (by simp) ?_
            refine AllF.cons ?_ ?_
            · refine stepK_store (v := .agg #[.int .i64 x3, .int .i64 y3]) [(r9, #[.int .i64 0, .int .i64 0], 25)] [] (by rfl) (by rfl) (by rfl) (by rfl) (by rfl) (by rfl) (fun _ => by go_simp) (by rfl) (by simp [Value.cells, one1]) (.inl hr8) (CB.closed _ _) (fun _ _ h ho => CB.over h ho (by omega)) (by simp; omega) (fun hne => ?_)
              try simp only [Value.cells]
              refine wpAnyF_ready [15] 0 (by kernel_rfl) (by kernel_rfl) (by simp) ?_
              refine AllF.cons ?_ ?_
              · refine stepK_store (v := .agg #[.int .i64 x4, .int .i64 y4]) [] [(r8, #[.int .i64 x3, .int .i64 y3], 25)] (by rfl) (by rfl) (by rfl) (by rfl) (by rfl) (by rfl) (fun _ => by go_simp) (by rfl) (by simp [Value.cells, one1]) (.inl hr9) (CB.closed _ _) (fun _ _ h ho => CB.over h ho (by omega)) (by simp; omega) (fun hne => ?_)
                try simp only [Value.cells]
                refine wpAnyF_done (by kernel_rfl) (fun Wz hOz hDz => ?_) _
                exact hcont r8 r9 Wz ⟨hOz, hDz.1, (by omega), (by omega), (by omega), hDz.2.tail.head, hDz.2.head⟩
              exact AllF.nil
            exact AllF.nil
          exact AllF.nil
        exact AllF.nil
      refine AllF.cons ?_ ?_
      · refine stepK_alloc (zs := #[.int .i64 0, .int .i64 0]) (T := 25) (by rfl) (by rfl) (by rfl) (fun _ => by go_simp) (CB.closed _ _) (fun r9 hr9 hl9 hne => ?_)
        simp only [Act.put, List.setIfInBounds_toArray, List.set_cons_succ, List.set_cons_zero]
        simp at hl9
        refine wpAnyF_ready [5] 3 (by kernel_rfl) (by kernel_rfl) (by simp) ?_
        refine AllF.cons ?_ ?_
        · refine stepK_call (v := .agg #[.int .i64 x3, .int .i64 y3]) (some 33) (CB c o3) (by rfl) (by rfl) (by rfl) (fun _ => by go_simp) (CB.closed _ _) (by simp; omega) (fun w' hC => H3.out c w' hC) (fun hne => ?_)
          simp only [Act.put, List.setIfInBounds_toArray, List.set_cons_succ, List.set_cons_zero]
          refine wpAnyF_ready [11] 2 (by kernel_rfl) (by kernel_rfl) (by simp) ?_
          refine AllF.cons ?_ ?_
          · refine stepK_call (v := .agg #[.int .i64 x4, .int .i64 y4]) (some 39) (CB c o4) (by rfl) (by rfl) (by rfl) (fun _ => by go_simp) (CB.closed _ _) (by simp; omega) (fun w' hC => H4.out c w' hC) (fun hne => ?_)
            simp only [Act.put, List.setIfInBounds_toArray, List.set_cons_succ, List.set_cons_zero]
            refine wpAnyF_ready [14] 1 (by kernel_rfl) (by kernel_rfl) (by simp) ?_
            refine AllF.cons ?_ ?_
            · refine stepK_store (v := .agg #[.int .i64 x3, .int .i64 y3]) [(r9, #[.int .i64 0, .int .i64 0], 25)] [] (by rfl) (by rfl) (by rfl) (by rfl) (by rfl) (by rfl) (fun _ => by go_simp) (by rfl) (by simp [Value.cells, one1]) (.inl hr8) (CB.closed _ _) (fun _ _ h ho => CB.over h ho (by omega)) (by simp; omega) (fun hne => ?_)
              try simp only [Value.cells]
              refine wpAnyF_ready [15] 0 (by kernel_rfl) (by kernel_rfl) (by simp) ?_
              refine AllF.cons ?_ ?_
              · refine stepK_store (v := .agg #[.int .i64 x4, .int .i64 y4]) [] [(r8, #[.int .i64 x3, .int .i64 y3], 25)] (by rfl) (by rfl) (by rfl) (by rfl) (by rfl) (by rfl) (fun _ => by go_simp) (by rfl) (by simp [Value.cells, one1]) (.inl hr9) (CB.closed _ _) (fun _ _ h ho => CB.over h ho (by omega)) (by simp; omega) (fun hne => ?_)
                try simp only [Value.cells]
                refine wpAnyF_done (by kernel_rfl) (fun Wz hOz hDz => ?_) _
                exact hcont r8 r9 Wz ⟨hOz, hDz.1, (by omega), (by omega), (by omega), hDz.2.tail.head, hDz.2.head⟩
              exact AllF.nil
            exact AllF.nil
          exact AllF.nil
        exact AllF.nil
      exact AllF.nil
    refine AllF.cons ?_ ?_
    · refine stepK_alloc (zs := #[.int .i64 0, .int .i64 0]) (T := 25) (by rfl) (by rfl) (by rfl) (fun _ => by go_simp) (CB.closed _ _) (fun r9 hr9 hl9 hne => ?_)
      simp only [Act.put, List.setIfInBounds_toArray, List.set_cons_succ, List.set_cons_zero]
      refine wpAnyF_ready [5, 12] 4 (by kernel_rfl) (by kernel_rfl) (by simp) ?_
      refine AllF.cons ?_ ?_
      · refine stepK_call (v := .agg #[.int .i64 x3, .int .i64 y3]) (some 33) (CB c o3) (by rfl) (by rfl) (by rfl) (fun _ => by go_simp) (CB.closed _ _) (by simp; omega) (fun w' hC => H3.out c w' hC) (fun hne => ?_)
        simp only [Act.put, List.setIfInBounds_toArray, List.set_cons_succ, List.set_cons_zero]
        refine wpAnyF_ready [11, 12] 3 (by kernel_rfl) (by kernel_rfl) (by simp) ?_
        refine AllF.cons ?_ ?_
        · refine stepK_call (v := .agg #[.int .i64 x4, .int .i64 y4]) (some 39) (CB c o4) (by rfl) (by rfl) (by rfl) (fun _ => by go_simp) (CB.closed _ _) (by simp; omega) (fun w' hC => H4.out c w' hC) (fun hne => ?_)
          simp only [Act.put, List.setIfInBounds_toArray, List.set_cons_succ, List.set_cons_zero]
          refine wpAnyF_ready [12] 2 (by kernel_rfl) (by kernel_rfl) (by simp) ?_
          refine AllF.cons ?_ ?_
          · refine stepK_alloc (zs := #[.int .i64 0, .int .i64 0]) (T := 25) (by rfl) (by rfl) (by rfl) (fun _ => by go_simp) (CB.closed _ _) (fun r8 hr8 hl8 hne => ?_)
            simp only [Act.put, List.setIfInBounds_toArray, List.set_cons_succ, List.set_cons_zero]
            simp at hl8
            refine wpAnyF_ready [14] 1 (by kernel_rfl) (by kernel_rfl) (by simp) ?_
            refine AllF.cons ?_ ?_
            · refine stepK_store (v := .agg #[.int .i64 x3, .int .i64 y3]) [] [(r9, #[.int .i64 0, .int .i64 0], 25)] (by rfl) (by rfl) (by rfl) (by rfl) (by rfl) (by rfl) (fun _ => by go_simp) (by rfl) (by simp [Value.cells, one1]) (.inl hr8) (CB.closed _ _) (fun _ _ h ho => CB.over h ho (by omega)) (by simp; omega) (fun hne => ?_)
              try simp only [Value.cells]
              refine wpAnyF_ready [15] 0 (by kernel_rfl) (by kernel_rfl) (by simp) ?_
              refine AllF.cons ?_ ?_
              · refine stepK_store (v := .agg #[.int .i64 x4, .int .i64 y4]) [(r8, #[.int .i64 x3, .int .i64 y3], 25)] [] (by rfl) (by rfl) (by rfl) (by rfl) (by rfl) (by rfl) (fun _ => by go_simp) (by rfl) (by simp [Value.cells, one1]) (.inl hr9) (CB.closed _ _) (fun _ _ h ho => CB.over h ho (by omega)) (by simp; omega) (fun hne => ?_)
                try simp only [Value.cells]
                refine wpAnyF_done (by kernel_rfl) (fun Wz hOz hDz => ?_) _
                exact hcont r8 r9 Wz ⟨hOz, hDz.1, (by omega), (by omega), (by omega), hDz.2.head, hDz.2.tail.head⟩
              exact AllF.nil
            exact AllF.nil
          exact AllF.nil
        refine AllF.cons ?_ ?_
        · refine stepK_alloc (zs := #[.int .i64 0, .int .i64 0]) (T := 25) (by rfl) (by rfl) (by rfl) (fun _ => by go_simp) (CB.closed _ _) (fun r8 hr8 hl8 hne => ?_)
          simp only [Act.put, List.setIfInBounds_toArray, List.set_cons_succ, List.set_cons_zero]
          simp at hl8
          refine wpAnyF_ready [11] 2 (by kernel_rfl) (by kernel_rfl) (by simp) ?_
          refine AllF.cons ?_ ?_
          · refine stepK_call (v := .agg #[.int .i64 x4, .int .i64 y4]) (some 39) (CB c o4) (by rfl) (by rfl) (by rfl) (fun _ => by go_simp) (CB.closed _ _) (by simp; omega) (fun w' hC => H4.out c w' hC) (fun hne => ?_)
            simp only [Act.put, List.setIfInBounds_toArray, List.set_cons_succ, List.set_cons_zero]
            refine wpAnyF_ready [14] 1 (by kernel_rfl) (by kernel_rfl) (by simp) ?_
            refine AllF.cons ?_ ?_
            · refine stepK_store (v := .agg #[.int .i64 x3, .int .i64 y3]) [] [(r9, #[.int .i64 0, .int .i64 0], 25)] (by rfl) (by rfl) (by rfl) (by rfl) (by rfl) (by rfl) (fun _ => by go_simp) (by rfl) (by simp [Value.cells, one1]) (.inl hr8) (CB.closed _ _) (fun _ _ h ho => CB.over h ho (by omega)) (by simp; omega) (fun hne => ?_)
              try simp only [Value.cells]
              refine wpAnyF_ready [15] 0 (by kernel_rfl) (by kernel_rfl) (by simp) ?_
              refine AllF.cons ?_ ?_
              · refine stepK_store (v := .agg #[.int .i64 x4, .int .i64 y4]) [(r8, #[.int .i64 x3, .int .i64 y3], 25)] [] (by rfl) (by rfl) (by rfl) (by rfl) (by rfl) (by rfl) (fun _ => by go_simp) (by rfl) (by simp [Value.cells, one1]) (.inl hr9) (CB.closed _ _) (fun _ _ h ho => CB.over h ho (by omega)) (by simp; omega) (fun hne => ?_)
                try simp only [Value.cells]
                refine wpAnyF_done (by kernel_rfl) (fun Wz hOz hDz => ?_) _
                exact hcont r8 r9 Wz ⟨hOz, hDz.1, (by omega), (by omega), (by omega), hDz.2.head, hDz.2.tail.head⟩
              exact AllF.nil
            exact AllF.nil
          exact AllF.nil
        exact AllF.nil
      refine AllF.cons ?_ ?_
      · refine stepK_alloc (zs := #[.int .i64 0, .int .i64 0]) (T := 25) (by rfl) (by rfl) (by rfl) (fun _ => by go_simp) (CB.closed _ _) (fun r8 hr8 hl8 hne => ?_)
        simp only [Act.put, List.setIfInBounds_toArray, List.set_cons_succ, List.set_cons_zero]
        simp at hl8
        refine wpAnyF_ready [5] 3 (by kernel_rfl) (by kernel_rfl) (by simp) ?_
        refine AllF.cons ?_ ?_
        · refine stepK_call (v := .agg #[.int .i64 x3, .int .i64 y3]) (some 33) (CB c o3) (by rfl) (by rfl) (by rfl) (fun _ => by go_simp) (CB.closed _ _) (by simp; omega) (fun w' hC => H3.out c w' hC) (fun hne => ?_)
          simp only [Act.put, List.setIfInBounds_toArray, List.set_cons_succ, List.set_cons_zero]
          refine wpAnyF_ready [11] 2 (by kernel_rfl) (by kernel_rfl) (by simp) ?_
          refine AllF.cons ?_ ?_
          · refine stepK_call (v := .agg #[.int .i64 x4, .int .i64 y4]) (some 39) (CB c o4) (by rfl) (by rfl) (by rfl) (fun _ => by go_simp) (CB.closed _ _) (by simp; omega) (fun w' hC => H4.out c w' hC) (fun hne => ?_)
            simp only [Act.put, List.setIfInBounds_toArray, List.set_cons_succ, List.set_cons_zero]
            refine wpAnyF_ready [14] 1 (by kernel_rfl) (by kernel_rfl) (by simp) ?_
            refine AllF.cons ?_ ?_
            · refine stepK_store (v := .agg #[.int .i64 x3, .int .i64 y3]) [] [(r9, #[.int .i64 0, .int .i64 0], 25)] (by rfl) (by rfl) (by rfl) (by rfl) (by rfl) (by rfl) (fun _ => by go_simp) (by rfl) (by simp [Value.cells, one1]) (.inl hr8) (CB.closed _ _) (fun _ _ h ho => CB.over h ho (by omega)) (by simp; omega) (fun hne => ?_)
              try simp only [Value.cells]
              refine wpAnyF_ready [15] 0 (by kernel_rfl) (by kernel_rfl) (by simp) ?_
              refine AllF.cons ?_ ?_
              · refine stepK_store (v := .agg #[.int .i64 x4, .int .i64 y4]) [(r8, #[.int .i64 x3, .int .i64 y3], 25)] [] (by rfl) (by rfl) (by rfl) (by rfl) (by rfl) (by rfl) (fun _ => by go_simp) (by rfl) (by simp [Value.cells, one1]) (.inl hr9) (CB.closed _ _) (fun _ _ h ho => CB.over h ho (by omega)) (by simp; omega) (fun hne => ?_)
                try simp only [Value.cells]
                refine wpAnyF_done (by kernel_rfl) (fun Wz hOz hDz => ?_) _
                exact hcont r8 r9 Wz ⟨hOz, hDz.1, (by omega), (by omega), (by omega), hDz.2.head, hDz.2.tail.head⟩
              exact AllF.nil
            exact AllF.nil
          exact AllF.nil
        exact AllF.nil
      exact AllF.nil
    exact AllF.nil
  try dsimp only
  rintro r8 r9 W2 ⟨hO2, kc2, hr8, hr9, h89, k8, k9⟩
  have kT2 := kT1.over hO2 (by simpa using hcT)
  have k72 := k7.over hO2 (by simpa using hc7)
  have hB2 : Below w.heap.size w W2 := hB1.trans (hO2.below1 (by omega) (by omega))
  have hl2 := hO2.size
  clear kT1 hO2 a0 a1 a2 a3 a4 a5 hB1 kc1 k7
  have a0 : W2.cell? ⟨w.heap.size, 0, none⟩ = some (.int .i64 p) := kT2.cell 0
  have a1 : W2.cell? ⟨w.heap.size, 1, none⟩ = some (.int .i64 q) := kT2.cell 1
  have a2 : W2.cell? ⟨w.heap.size, 2, none⟩ = some (.int .i64 r) := kT2.cell 2
  have a3 : W2.cell? ⟨w.heap.size, 3, none⟩ = some (.int .i64 s) := kT2.cell 3
  have a4 : W2.cell? ⟨w.heap.size, 4, none⟩ = some (.int .i64 t) := kT2.cell 4
  have a5 : W2.cell? ⟨w.heap.size, 5, none⟩ = some (.int .i64 u) := kT2.cell 5
  have b0 : W2.cell? ⟨r7, 0, none⟩ = some (.int .i64 x5) := k72.cell 0
  have b1 : W2.cell? ⟨r7, 1, none⟩ = some (.int .i64 y5) := k72.cell 1
  have c0 : W2.cell? ⟨r8, 0, none⟩ = some (.int .i64 x3) := k8.cell 0
  have c1 : W2.cell? ⟨r8, 1, none⟩ = some (.int .i64 y3) := k8.cell 1
  have d0 : W2.cell? ⟨r9, 0, none⟩ = some (.int .i64 x4) := k9.cell 0
  have d1 : W2.cell? ⟨r9, 1, none⟩ = some (.int .i64 y4) := k9.cell 1
  have e0 := kc2.1
  have lT2 := kT2.lt
  have l7 := k72.lt
  have l8 := k8.lt
  have l9 := k9.lt
  have lc2 := kc2.2.2
  have hc8 : r8 ≠ c := by omega
  have hc9 : r9 ≠ c := by omega
  clear kT2 k72 k8 k9
  cases o4
  · go_wp2
    go_ret2
    exact ⟨rfl, hB2⟩
  · go_wp2_with fail
    (go_at_call 85; refine (H6.out _).mono ?_; rintro e w3 ⟨rfl, hb3⟩; obtain ⟨hc3, hf3⟩ := bcell hb3; have hz3 := hb3.size; (try simp only [World.size_alloc] at hz3); (try (have hy3 : w.heap.size < w3.heap.size := by omega)); (try (have hx3 := Nat.lt_of_succ_le hz3)); (try (have hv3 := Nat.lt_of_succ_le (Nat.le_of_lt hx3))); (try (have hy3_1 : w1.heap.size < w3.heap.size := by omega)); (try (have hy3_2 : w2.heap.size < w3.heap.size := by omega)))
    go_wp2_with fail
    have lT3 : w.heap.size < w3.heap.size := by omega
    have l73 : r7 < w3.heap.size := by omega
    have l83 : r8 < w3.heap.size := by omega
    have l93 : r9 < w3.heap.size := by omega
    have kc3 : CB c true w3 := CB.closed _ _ _ _ kc2 hb3
    have hB3 : Below w.heap.size w w3 := below_step hb3 (by omega) hB2
    have hl3 := hb3.size
    cases hp : decide (0 < p)
    · (refine wp_region_clqD [c] (CB c true) (by kernel_rfl) (by kernel_rfl) (kc3) ?_; intro _; (repeat (go_big_quiet_step (fail))); refine wpQuiet_nil ?_; intro w6 ho6 hd6)
      go_wp2
      go_ret2
      refine ⟨?_, hB3.trans (ho6.below1 (by omega) (by omega))⟩
      first | (simp_all; done) | (simp_all; omega)
    cases L
    · (refine wp_region_clqD [c] (CB c true) (by kernel_rfl) (by kernel_rfl) (kc3) ?_; intro _; (repeat (go_big_quiet_step (fail))); refine wpQuiet_nil ?_; intro w6 ho6 hd6)
      go_wp2
      go_ret2
      refine ⟨?_, hB3.trans (ho6.below1 (by omega) (by omega))⟩
      first | (simp_all; done) | (simp_all; omega)
    cases ht : decide (0 < t)
    · (refine wp_region_clqD [c] (CB c true) (by kernel_rfl) (by kernel_rfl) (kc3) ?_; intro _; (repeat (go_big_quiet_step (fail))); refine wpQuiet_nil ?_; intro w6 ho6 hd6)
      go_wp2
      go_ret2
      refine ⟨?_, hB3.trans (ho6.below1 (by omega) (by omega))⟩
      first | (simp_all; done) | (simp_all; omega)
    by_cases he1 : x5 = x3
    rotate_left
    · (refine wp_region_clqD [c] (CB c true) (by kernel_rfl) (by kernel_rfl) (kc3) ?_; intro _; (repeat (go_big_quiet_step (fail))); refine wpQuiet_nil ?_; intro w6 ho6 hd6)
      go_wp2
      go_ret2
      refine ⟨?_, hB3.trans (ho6.below1 (by omega) (by omega))⟩
      first | (simp_all; done) | (simp_all; omega)
    subst he1
    by_cases he2 : y5 = y3
    rotate_left
    · (refine wp_region_clqD [c] (CB c true) (by kernel_rfl) (by kernel_rfl) (kc3) ?_; intro _; (repeat (go_big_quiet_step (fail))); refine wpQuiet_nil ?_; intro w6 ho6 hd6)
      go_wp2
      go_ret2
      refine ⟨?_, hB3.trans (ho6.below1 (by omega) (by omega))⟩
      first | (simp_all; done) | (simp_all; omega)
    subst he2
    by_cases he3 : x4 = 2 * n
    rotate_left
    · (refine wp_region_clqD [c] (CB c true) (by kernel_rfl) (by kernel_rfl) (kc3) ?_; intro _; (repeat (go_big_quiet_step ((go_at_call 36; exact Calls.quiet_clsX _ (H7.out _ _ (Cls.more _)))))); refine wpQuiet_nil ?_; intro w6 ho6 hd6)
      go_wp2
      go_ret2
      refine ⟨?_, hB3.trans (ho6.below1 (by omega) (by omega))⟩
      first | (simp_all; done) | (simp_all; omega)
    subst he3
    by_cases he4 : y4 = 1
    rotate_left
    · (refine wp_region_clqD [c] (CB c true) (by kernel_rfl) (by kernel_rfl) (kc3) ?_; intro _; (repeat (go_big_quiet_step ((go_at_call 36; exact Calls.quiet_clsX _ (H7.out _ _ (Cls.more _)))))); refine wpQuiet_nil ?_; intro w6 ho6 hd6)
      go_wp2
      go_ret2
      refine ⟨?_, hB3.trans (ho6.below1 (by omega) (by omega))⟩
      first | (simp_all; done) | (simp_all; omega)
    subst he4
    · (refine wp_region_clqD [c] (CB c true) (by kernel_rfl) (by kernel_rfl) (kc3) ?_; intro _; (repeat (go_big_quiet_step ((go_at_call 36; exact Calls.quiet_clsX _ (H7.out _ _ (Cls.more _)))))); refine wpQuiet_nil ?_; intro w6 ho6 hd6)
      go_wp2
      go_ret2
      refine ⟨?_, hB3.trans (ho6.below1 (by omega) (by omega))⟩
      first | (simp_all; done) | (simp_all; omega)
end Go.Proofs.Ytcnfjapoopdiaaa
