/- Walks: division values as wholes, the reference's way (dpWholes). -/
import Derived.Test.YtmlfkceafkhlaaaDoorDwN
namespace Go.Proofs.YtmlfkceafkhlaaaDoor
open Go.RowKit

theorem wls_F (x A B : Int) : x ^ 3 + x * A + B = dvF A B x := by unfold dvF; grind
theorem wls_G {A B x Fv : Int} (h : dvF A B x = Fv) : Fv * Fv * 16 = dwG A B x := by unfold dwG; rw [h]; grind
theorem wls_T (x A B : Int) : x ^ 2 * x ^ 2 * 3 + x ^ 2 * (6 * A) + x * (12 * B) + -(A * A) = dvT A B x := by unfold dvT; grind
theorem wls_Q (x A B : Int) : (x ^ 3 * x ^ 3 + x ^ 2 * x ^ 2 * (5 * A) + x ^ 3 * (20 * B) + -(x ^ 2 * (5 * A * A)) + -(x * (4 * A * B)) + -(8 * B * B + A * A * A)) * 2 = dvQ A B x := by unfold dvQ; grind
theorem add_of {M N K : Int} (hM : Sz 100 M) (hN : Sz 100 N) (he : M + N = K) (a c : Value) (w : World) (h1 : WhR M a w) (h2 : WhR N c w) : Calls Tryd.prog 28 #[a, c] w (WhP K w) := he ▸ c_bgAdd M N a c (Nat.le_trans hM.len (by omega)) (Nat.le_trans hN.len (by omega)) w h1 h2
theorem sub_of {M N K : Int} (hM : Sz 100 M) (hN : Sz 100 N) (he : M + -N = K) (a c : Value) (w : World) (h1 : WhR M a w) (h2 : WhR N c w) : Calls Tryd.prog 31 #[a, c] w (WhP K w) := he ▸ c_bgSub M N a c (Nat.le_trans hM.len (by omega)) (Nat.le_trans hN.len (by omega)) w h1 h2
theorem mul_of {M N K : Int} (hM : Sz 100 M) (hN : Sz 100 N) (he : M * N = K) (a c : Value) (w : World) (h1 : WhR M a w) (h2 : WhR N c w) : Calls Tryd.prog 30 #[a, c] w (WhP K w) := he ▸ c_bgMul M N a c (Nat.le_trans hM.len (by omega)) (Nat.le_trans hN.len (by omega)) w h1 h2
theorem times_of {M n K : Int} (hM : Sz 100 M) (hn : -1000000000000000000 ≤ n ∧ n ≤ 1000000000000000000) (he : M * n = K) (a : Value) (w : World) (h1 : WhR M a w) : Calls Tryd.prog 29 #[a, .int .i64 n] w (WhP K w) := he ▸ c_bgTimes M n a (Nat.le_trans hM.len (by omega)) hn w h1
theorem of_of {n K : Int} (hn : -1000000000000000000 ≤ n ∧ n ≤ 1000000000000000000) (he : n = K) (w : World) : Calls Tryd.prog 26 #[.int .i64 n] w (WhP K w) := he ▸ c_bgOf n hn w
theorem Sz.of5b {x : Int} (h : -1000000000000000000 ≤ x ∧ x ≤ 1000000000000000000) : Sz 5 x := Sz.of5 (by omega) (by omega)
set_option maxHeartbeats 8000000 in
set_option maxRecDepth 100000 in
theorem c_dpWholes (A B x : Int) (n : Nat) (hA : -1000 ≤ A ∧ A ≤ 1000) (hB : -10000 ≤ B ∧ B ≤ 10000) (hx : -1000 ≤ x ∧ x ≤ 1000) (hn : 1 ≤ n ∧ n ≤ 12) (w : World) :
    Calls Tryd.prog 14 #[.agg #[.int .i64 A, .int .i64 B], .int .i64 x, .int .i64 n] w fun e w' => ∃ v j, e = .returned v ∧ n < 5 + j ∧ j ≤ 8 ∧ OwnsW w' w.heap.size w.heap.size v (dwL A B x j) ∧ Below w.heap.size w w' := by
  have kC := Blk.new w #[.int .i64 A, .int .i64 B] 26
  have hb0 : Below w.heap.size w (w.alloc (.cells #[.int .i64 A, .int .i64 B] 26)) := (Below.refl _ _).alloc (Nat.le_refl _) _
  have hW0 : (w.alloc (.cells #[.int .i64 A, .int .i64 B] 26)).heap.size = w.heap.size + 1 := by simp
  obtain ⟨b, hb⟩ : ∃ b, w.heap.size = b := ⟨_, rfl⟩
  rw [hb]
  have zx : Sz 100 x := (Sz.of1 (by omega) (by omega)).mono (by omega)
  have zB : Sz 100 B := (Sz.of4 (by omega) (by omega)).mono (by omega)
  have zx1 : Sz 1 x := Sz.of1 (by omega) (by omega)
  have hAA := mulTwo_bd (by omega) hA (by omega) hA
  have hAAA := mulTwo_bd (by omega) hAA (by omega) hA
  have h5AA := mulTwo_bd (x := 5 * A) (M := 5000) (by omega) (by omega) (by omega) hA
  have h4AB := mulTwo_bd (x := 4 * A) (M := 4000) (by omega) (by omega) (by omega) hB
  have h8BB := mulTwo_bd (x := 8 * B) (M := 80000) (by omega) (by omega) (by omega) hB
  have zX2 : Sz 3 (x ^ 2) := pw_sz zx1 2
  have zX3 : Sz 4 (x ^ 3) := pw_sz zx1 3
  have zF : Sz 4 (dvF A B x) := by
    have h1 := mulTwo_bd (by omega) hx (by omega) hx
    have h2 := mulTwo_bd (by omega) h1 (by omega) hx
    have h3 := mulTwo_bd (by omega) hA (by omega) hx
    refine Sz.of4 ?_ ?_ <;> (unfold dvF; omega)
  have HF := Lib.hid (wls_F x A B)
  obtain ⟨Fv, hFv⟩ : ∃ Fv, dvF A B x = Fv := ⟨_, rfl⟩
  have HG := Lib.hid (wls_G hFv)
  rw [hFv] at HF zF
  have HFV := Lib.hid hFv
  clear hFv
  have HT := Lib.hid (wls_T x A B)
  have HQ := Lib.hid (wls_Q x A B)
  have HX2 := Lib.hid (pwL_get x 4 2 (by omega))
  have HX3 := Lib.hid (pwL_get x 4 3 (by omega))
  obtain ⟨X2, hX2⟩ : ∃ X2, x ^ 2 = X2 := ⟨_, rfl⟩
  obtain ⟨X3, hX3⟩ : ∃ X3, x ^ 3 = X3 := ⟨_, rfl⟩
  rw [hX2] at zX2 HT HQ HX2
  rw [hX3] at zX3 HF HQ HX3
  clear hX2 hX3
  obtain ⟨R1, hR1⟩ : ∃ R1, X3 * X3 + X2 * X2 * (5 * A) = R1 := ⟨_, rfl⟩
  rw [hR1] at HQ
  obtain ⟨R2, hR2⟩ : ∃ R2, R1 + X3 * (20 * B) = R2 := ⟨_, rfl⟩
  rw [hR2] at HQ
  obtain ⟨R3, hR3⟩ : ∃ R3, R2 + -(X2 * (5 * A * A)) = R3 := ⟨_, rfl⟩
  rw [hR3] at HQ
  obtain ⟨R4, hR4⟩ : ∃ R4, R3 + -(x * (4 * A * B)) = R4 := ⟨_, rfl⟩
  rw [hR4] at HQ
  have z5A : Sz 5 (5 * A) := Sz.of5b (by omega)
  have z20B : Sz 5 (20 * B) := Sz.of5b (by omega)
  have z5AA : Sz 5 (5 * A * A) := Sz.of5b (by omega)
  have z4AB : Sz 5 (4 * A * B) := Sz.of5b (by omega)
  have zR1 : Sz 20 R1 := hR1 ▸ (((zX3.mul zX3).mono (by omega)).add (((zX2.mul zX2).mul z5A).mono (by omega)) : Sz (18 + 1) _).mono (by omega)
  have zR2 : Sz 30 R2 := hR2 ▸ ((zR1.mono (by omega)).add ((zX3.mul z20B).mono (by omega)) : Sz (28 + 1) _).mono (by omega)
  have zR3 : Sz 40 R3 := hR3 ▸ ((zR2.mono (by omega)).add (((zX2.mul z5AA).neg).mono (by omega)) : Sz (38 + 1) _).mono (by omega)
  have zR4 : Sz 50 R4 := hR4 ▸ ((zR3.mono (by omega)).add (((zx1.mul z4AB).neg).mono (by omega)) : Sz (48 + 1) _).mono (by omega)
  have HR1 := Lib.hid hR1
  have HR2 := Lib.hid hR2
  have HR3 := Lib.hid hR3
  have HR4 := Lib.hid hR4
  clear hR1 hR2 hR3 hR4
  have hz8 : -100000000000000000 ≤ 8 * B * B + A * A * A ∧ 8 * B * B + A * A * A ≤ 100000000000000000 := by omega
  go_enter Tryd.func14, Tryd.ntmps14
  go_upto_region 1 with (fail)
  generalize w.alloc _ = W at *
  rw [hb] at kC hb0 hW0
  have HBW := Lib.hid hb
  clear hb
  have hbW : b ≤ W.heap.size := by omega
  clear hW0
  refine wp_region_tabF 3 [2] [(2, 7), (0, 17), (1, 18)] [IsV (.int .i64 x), Wh b x, PA W.heap.size #[.bool false, .slice none 0 0] 31] (by kernel_rfl) (by kernel_rfl) (by kernel_rfl) ⟨⟨_, _, _, rfl⟩, trivial⟩ ⟨IsV.closed _, Wh.closed _ _, PA.closed _ _ _, trivial⟩ ⟨?_, ?_, ?_, trivial⟩ ?_
  · refine StepT.q _ (by rfl) (by rfl) fun ρ w' H => ?_
    exact OpTo.move _ rfl (H.bas 1 (by kernel_rfl))
  · refine StepT.q _ (by rfl) (by rfl) fun ρ w' H => ?_
    obtain ⟨v0, e0, p0⟩ := H.dep 0 17 (by kernel_rfl)
    obtain rfl : v0 = .int .i64 x := p0
    exact OpTo.call 26 #[.int .i64 x] _ _ _ rfl (H.fn 26) (enters_of Tryd.func26 (by kernel_rfl) rfl) (by simp [e0]) ((c_bgOf x (by omega) w').mono fun e w2 ⟨v, h1, h2, h3⟩ => ⟨v, h1, h3, h2.le (Nat.le_trans hbW H.bel.size)⟩)
  · refine StepT.a _ (by rfl) fun ρ w' H => ?_
    exact OpTo.alloc rfl (fun w => by simp [go_sem]) H.bel.size
  intro vs Wt hBt hDt
  have hV1 : (Wh b x) (vs 1) Wt := hDt.1 1 (by omega)
  have hV2 : (PA W.heap.size #[.bool false, .slice none 0 0] 31) (vs 2) Wt := hDt.1 2 (by omega)
  obtain ⟨r7, ea7, hr7, kr7⟩ := hV2
  clear hDt
  simp only [mergeS, Nat.reduceBEq, cond_true, cond_false, Nat.reduceAdd, List.drop_succ_cons, List.drop_zero, ea7]
  obtain ⟨lv7, ev7, rv7, cv7⟩ := hV1.cell
  obtain ⟨sl7, sc7, rfl, _⟩ := id rv7.1
  simp only [ev7]
  have x0 : Wt.cell? ⟨r7, 0, none⟩ = some (.bool false) := kr7.cell 0
  have x1 : Wt.cell? ⟨r7, 1, none⟩ = some (.slice none 0 0) := kr7.cell 1
  have x2 := kr7.frozen 0
  have x3 := kr7.frozen 1
  have x4 := kr7.lt
  have kx : BlkW b r7 (x) ((Wt.setCell ⟨r7, 0, none⟩ (.bool (decide (x < 0)))).setCell ⟨r7, 1, none⟩ (.slice sl7 (dg (x).natAbs).length sc7)) := BlkW.put kr7 rfl rv7 cv7
  have hBf : Below W.heap.size W ((Wt.setCell ⟨r7, 0, none⟩ (.bool (decide (x < 0)))).setCell ⟨r7, 1, none⟩ (.slice sl7 (dg (x).natAbs).length sc7)) := (hBt.setCell hr7 _).setCell hr7 _
  replace kC := kC.next hBf
  replace hb0 : Below b w _ := below_step hBf hbW hb0
  have q7 := hr7
  replace hbW := Nat.le_trans hbW hBf.size
  clear hV1 hBt kr7 ev7 rv7 cv7
  go_upto_region 2 with (fail)
  generalize (World.setCell (World.setCell _ _ _) _ _) = W2 at *
  clear x0 x1 x2 x3 x4 hBf hr7
  refine wp_region_tabF 2 [] [(0, 19), (1, 20)] [Wh b x, (fun v w => OwnsW w b b v (pwL x 4))] (by kernel_rfl) (by kernel_rfl) (by kernel_rfl) trivial ⟨Wh.closed _ _, fun v => OwnsW.closed b b v _, trivial⟩ ⟨?_, ?_, trivial⟩ ?_
  · refine StepT.q _ (by rfl) (by rfl) fun ρ w' H => ?_
    have hx : ρ (.tmp 7) = .pointer (some ⟨r7, 0, none⟩) := H.bas 7 (by kernel_rfl); exact op_ldW _ rfl hx (kx.next H.bel)
  · refine StepT.q _ (by rfl) (by rfl) fun ρ w' H => ?_
    obtain ⟨v0, e0, p0⟩ := H.dep 0 19 (by kernel_rfl)
    have p0 : (Wh b x) v0 w' := p0
    exact OpTo.call 27 #[v0] _ _ _ rfl (H.fn 27) (enters_of Tryd.func27 (by kernel_rfl) rfl) (by simp [e0]) ((c_dpPowers 1 (by omega) b x v0 w' p0 zx1).mono fun e w2 ⟨v, h1, h2, h3⟩ => ⟨v, h1, h3, h2.le (Nat.le_trans hbW H.bel.size) (Nat.le_trans hbW H.bel.size)⟩)
  intro vs Wt hBt hDt
  have hV1 : ((fun v w => OwnsW w b b v (pwL x 4))) (vs 1) Wt := hDt.1 1 (by omega)
  clear hDt
  simp only [mergeS, Nat.reduceBEq, cond_true, cond_false, Nat.reduceAdd, List.drop_succ_cons, List.drop_zero]
  replace kC := kC.next hBt
  replace kx := kx.next hBt
  replace hb0 : Below b w _ := below_step hBt hbW hb0
  replace hbW := Nat.le_trans hbW hBt.size
  have hD : OwnsW Wt b b (vs 1) (pwL x 4) := hV1
  clear hV1 hBt
  generalize vs 1 = d0 at hD ⊢
  obtain ⟨gp, capp, rfl, _, _⟩ := hD.addr (by rw [pwL_len]; omega)
  rw [pwL_len] at hD ⊢
  obtain ⟨hke, _, HE⟩ := hD.elt (by omega)
  clear hke hD
  go_upto_region 3 with (fail)
  obtain ⟨l2, a20, a21, a22⟩ := HE.2 2 (by omega)
  obtain ⟨l3, a30, a31, a32⟩ := HE.2 3 (by omega)
  rw [HX2.out] at a20 a22
  rw [HX3.out] at a30 a32
  obtain ⟨s2, p2, rfl, _⟩ := id a22.1
  obtain ⟨s3, p3, rfl, _⟩ := id a32.1
  have c20 : Wt.cell? ⟨gp, 4, none⟩ = some (.bool (decide (X2 < 0))) := a20
  have c21 : Wt.cell? ⟨gp, 5, none⟩ = some (.slice s2 (dg X2.natAbs).length p2) := a21
  have c30 : Wt.cell? ⟨gp, 6, none⟩ = some (.bool (decide (X3 < 0))) := a30
  have c31 : Wt.cell? ⟨gp, 7, none⟩ = some (.slice s3 (dg X3.natAbs).length p3) := a31
  have lgp := HE.1
  clear a20 a21 a30 a31 HE
  generalize Wt = Wt0 at *
  apply region_join2 (fun r9 r10 Wz => Over [] Wt0 Wz ∧ (fun _ => True) Wz ∧ Wt0.heap.size ≤ r9 ∧ Wt0.heap.size ≤ r10 ∧ r10 ≠ r9 ∧ Blk r9 #[.bool (decide (X2 < 0)), .slice s2 (dg X2.natAbs).length p2] 31 Wz ∧ Blk r10 #[.bool (decide (X3 < 0)), .slice s3 (dg X3.natAbs).length p3] 31 Wz)
  · intro hcont
    refine wp_region_cls [] (fun _ => false) (fun _ => True) (KD (fun _ => True) []) (by kernel_rfl) ⟨trivial, MemL.nil _⟩ ?_
    apply wpAnyF_hd ⟨Wt0, Over.refl _ _, trivial, MemL.nil _⟩ [true, true, true, true, true, true] 4 (KD.closed (Closed.true) _) (fun _ _ => trivial) (by kernel_rfl) (by kernel_rfl) (by kernel_rfl) (by kernel_rfl) (by simp)
    · intro E hE hEN hEn; (repeat (first | (refine wpHL_take ?_; go_big_quiet_step (fail); refine wpQuiet_nil ?_) | refine wpHL_skip ?_)); exact wpHL_end rfl
    refine wpAnyF_ready [6, 7] 3 (by kernel_rfl) (by kernel_rfl) (by simp) ?_
    refine AllF.cons ?_ ?_
    · refine stepK_alloc (zs := #[.bool false, .slice none 0 0]) (T := 31) (by rfl) (by rfl) (by rfl) (fun _ => by go_simp) (Closed.true) (fun r9 hr9 hl9 hne => ?_)
      simp only [Act.put, List.setIfInBounds_toArray, List.set_cons_succ, List.set_cons_zero]
      refine wpAnyF_ready [7] 2 (by kernel_rfl) (by kernel_rfl) (by simp) ?_
      refine AllF.cons ?_ ?_
      · refine stepK_alloc (zs := #[.bool false, .slice none 0 0]) (T := 31) (by rfl) (by rfl) (by rfl) (fun _ => by go_simp) (Closed.true) (fun r10 hr10 hl10 hne => ?_)
        simp only [Act.put, List.setIfInBounds_toArray, List.set_cons_succ, List.set_cons_zero]
        simp at hl10
        refine wpAnyF_ready [8] 1 (by kernel_rfl) (by kernel_rfl) (by simp) ?_
        refine AllF.cons ?_ ?_
        · refine stepK_store (v := .agg #[.bool (decide (X2 < 0)), .slice s2 (dg X2.natAbs).length p2]) [(r10, #[.bool false, .slice none 0 0], 31)] [] (by rfl) (by rfl) (by rfl) (by rfl) (by rfl) (by rfl) (fun _ => by go_simp) (by rfl) (by simp [Value.cells, one1]) (.inl hr9) (Closed.true) (fun _ _ h _ => h) (by simp; omega) (fun hne => ?_)
          try simp only [Value.cells]
          refine wpAnyF_ready [9] 0 (by kernel_rfl) (by kernel_rfl) (by simp) ?_
          refine AllF.cons ?_ ?_
          · refine stepK_store (v := .agg #[.bool (decide (X3 < 0)), .slice s3 (dg X3.natAbs).length p3]) [] [(r9, #[.bool (decide (X2 < 0)), .slice s2 (dg X2.natAbs).length p2], 31)] (by rfl) (by rfl) (by rfl) (by rfl) (by rfl) (by rfl) (fun _ => by go_simp) (by rfl) (by simp [Value.cells, one1]) (.inl hr10) (Closed.true) (fun _ _ h _ => h) (by simp; omega) (fun hne => ?_)
            try simp only [Value.cells]
            refine wpAnyF_done (by kernel_rfl) (fun Wz hOz hDz => ?_) _
            exact hcont r9 r10 Wz ⟨hOz, hDz.1, (by omega), (by omega), (by omega), hDz.2.tail.head, hDz.2.head⟩
          exact AllF.nil
        exact AllF.nil
      exact AllF.nil
    refine AllF.cons ?_ ?_
    · refine stepK_alloc (zs := #[.bool false, .slice none 0 0]) (T := 31) (by rfl) (by rfl) (by rfl) (fun _ => by go_simp) (Closed.true) (fun r10 hr10 hl10 hne => ?_)
      simp only [Act.put, List.setIfInBounds_toArray, List.set_cons_succ, List.set_cons_zero]
      refine wpAnyF_ready [6] 2 (by kernel_rfl) (by kernel_rfl) (by simp) ?_
      refine AllF.cons ?_ ?_
      · refine stepK_alloc (zs := #[.bool false, .slice none 0 0]) (T := 31) (by rfl) (by rfl) (by rfl) (fun _ => by go_simp) (Closed.true) (fun r9 hr9 hl9 hne => ?_)
        simp only [Act.put, List.setIfInBounds_toArray, List.set_cons_succ, List.set_cons_zero]
        simp at hl9
        refine wpAnyF_ready [8] 1 (by kernel_rfl) (by kernel_rfl) (by simp) ?_
        refine AllF.cons ?_ ?_
        · refine stepK_store (v := .agg #[.bool (decide (X2 < 0)), .slice s2 (dg X2.natAbs).length p2]) [] [(r10, #[.bool false, .slice none 0 0], 31)] (by rfl) (by rfl) (by rfl) (by rfl) (by rfl) (by rfl) (fun _ => by go_simp) (by rfl) (by simp [Value.cells, one1]) (.inl hr9) (Closed.true) (fun _ _ h _ => h) (by simp; omega) (fun hne => ?_)
          try simp only [Value.cells]
          refine wpAnyF_ready [9] 0 (by kernel_rfl) (by kernel_rfl) (by simp) ?_
          refine AllF.cons ?_ ?_
          · refine stepK_store (v := .agg #[.bool (decide (X3 < 0)), .slice s3 (dg X3.natAbs).length p3]) [(r9, #[.bool (decide (X2 < 0)), .slice s2 (dg X2.natAbs).length p2], 31)] [] (by rfl) (by rfl) (by rfl) (by rfl) (by rfl) (by rfl) (fun _ => by go_simp) (by rfl) (by simp [Value.cells, one1]) (.inl hr10) (Closed.true) (fun _ _ h _ => h) (by simp; omega) (fun hne => ?_)
            try simp only [Value.cells]
            refine wpAnyF_done (by kernel_rfl) (fun Wz hOz hDz => ?_) _
            exact hcont r9 r10 Wz ⟨hOz, hDz.1, (by omega), (by omega), (by omega), hDz.2.head, hDz.2.tail.head⟩
          exact AllF.nil
        exact AllF.nil
      exact AllF.nil
    exact AllF.nil
  try dsimp only
  rintro r9 r10 W4 ⟨hO4, _, h9, h10, d9, k9, k10⟩
  have hBf : Below Wt0.heap.size Wt0 W4 := hO4.below
  have k2 : BlkW b r9 X2 W4 := ⟨_, k9, a22.below hBf, rfl⟩
  have k3 : BlkW b r10 X3 W4 := ⟨_, k10, a32.below hBf, rfl⟩
  replace kC := kC.next hBf
  replace kx := kx.next hBf
  replace hb0 : Below b w _ := below_step hBf hbW hb0
  replace hbW := Nat.le_trans hbW hBf.size
  clear hO4 k9 k10 a22 a32 c20 c21 c30 c31 hBf
  go_upto_region 4 with (fail)
  have zxA : Sz 100 (x * A) := (zx1.mul (Sz.of1 (x := A) (by omega) (by omega))).mono (by omega)
  have zX3xA : Sz 100 (X3 + x * A) := ((zX3.mono (n := 20) (by omega)).add ((zx1.mul (Sz.of1 (x := A) (by omega) (by omega))).mono (by omega))).mono (by omega)
  refine wp_region_tab 11 [10] [(10, 11), (0, 27), (1, 28), (2, 29), (3, 30), (4, 31), (5, 32), (6, 33), (7, 34), (8, 35), (9, 36)] [Wh b X3, Wh b x, IsV (.pointer (some ⟨b, 0, none⟩)), IsV (.int .i64 A), Wh b (x * A), Wh b (X3 + x * A), IsV (.pointer (some ⟨b, 1, none⟩)), IsV (.int .i64 B), Wh b B, Wh b (Fv), PA W4.heap.size #[.bool false, .slice none 0 0] 31] (by kernel_rfl) (by kernel_rfl) (by kernel_rfl) ⟨⟨_, _, _, rfl⟩, trivial⟩ ⟨Wh.closed _ _, Wh.closed _ _, IsV.closed _, IsV.closed _, Wh.closed _ _, Wh.closed _ _, IsV.closed _, IsV.closed _, Wh.closed _ _, Wh.closed _ _, PA.closed _ _ _, trivial⟩ ⟨?_, ?_, ?_, ?_, ?_, ?_, ?_, ?_, ?_, ?_, ?_, trivial⟩ ?_
  · refine StepT.q _ (by rfl) (by rfl) fun ρ w' H => ?_
    have hx : ρ (.tmp 10) = .pointer (some ⟨r10, 0, none⟩) := H.bas 10 (by kernel_rfl); exact op_ldW _ rfl hx (k3.next H.bel)
  · refine StepT.q _ (by rfl) (by rfl) fun ρ w' H => ?_
    have hx : ρ (.tmp 7) = .pointer (some ⟨r7, 0, none⟩) := H.bas 7 (by kernel_rfl); exact op_ldW _ rfl hx (kx.next H.bel)
  · refine StepT.q _ (by rfl) (by rfl) fun ρ w' H => ?_
    exact op_field0 _ rfl (H.bas 3 (by kernel_rfl))
  · refine StepT.q _ (by rfl) (by rfl) fun ρ w' H => ?_
    obtain ⟨v2, e2, p2⟩ := H.dep 2 29 (by kernel_rfl)
    obtain rfl : v2 = .pointer (some ⟨b, 0, none⟩) := p2
    exact op_ldI _ rfl e2 ((kC.next H.bel).cell 0)
  · refine StepT.q _ (by rfl) (by rfl) fun ρ w' H => ?_
    obtain ⟨v1, e1, p1⟩ := H.dep 1 28 (by kernel_rfl)
    have p1 : (Wh b x) v1 w' := p1
    obtain ⟨v3, e3, p3⟩ := H.dep 3 30 (by kernel_rfl)
    obtain rfl : v3 = .int .i64 A := p3
    exact OpTo.call 29 #[v1, .int .i64 A] _ _ _ rfl (H.fn 29) (enters_of Tryd.func29 (by kernel_rfl) rfl) (by simp [e1, e3]) ((times_of zx (by omega) rfl _ w' p1.rd).mono fun e w2 ⟨v, h1, h2, h3⟩ => ⟨v, h1, h3, h2.le (Nat.le_trans hbW H.bel.size)⟩)
  · refine StepT.q _ (by rfl) (by rfl) fun ρ w' H => ?_
    obtain ⟨v0, e0, p0⟩ := H.dep 0 27 (by kernel_rfl)
    have p0 : (Wh b X3) v0 w' := p0
    obtain ⟨v4, e4, p4⟩ := H.dep 4 31 (by kernel_rfl)
    have p4 : (Wh b (x * A)) v4 w' := p4
    exact OpTo.call 28 #[v0, v4] _ _ _ rfl (H.fn 28) (enters_of Tryd.func28 (by kernel_rfl) rfl) (by simp [e0, e4]) ((add_of (zX3.mono (by omega)) zxA rfl _ _ w' p0.rd p4.rd).mono fun e w2 ⟨v, h1, h2, h3⟩ => ⟨v, h1, h3, h2.le (Nat.le_trans hbW H.bel.size)⟩)
  · refine StepT.q _ (by rfl) (by rfl) fun ρ w' H => ?_
    exact op_field1 _ rfl (H.bas 3 (by kernel_rfl))
  · refine StepT.q _ (by rfl) (by rfl) fun ρ w' H => ?_
    obtain ⟨v6, e6, p6⟩ := H.dep 6 33 (by kernel_rfl)
    obtain rfl : v6 = .pointer (some ⟨b, 1, none⟩) := p6
    exact op_ldI _ rfl e6 ((kC.next H.bel).cell 1)
  · refine StepT.q _ (by rfl) (by rfl) fun ρ w' H => ?_
    obtain ⟨v7, e7, p7⟩ := H.dep 7 34 (by kernel_rfl)
    obtain rfl : v7 = .int .i64 B := p7
    exact OpTo.call 26 #[.int .i64 B] _ _ _ rfl (H.fn 26) (enters_of Tryd.func26 (by kernel_rfl) rfl) (by simp [e7]) ((c_bgOf B (by omega) w').mono fun e w2 ⟨v, h1, h2, h3⟩ => ⟨v, h1, h3, h2.le (Nat.le_trans hbW H.bel.size)⟩)
  · refine StepT.q _ (by rfl) (by rfl) fun ρ w' H => ?_
    obtain ⟨v5, e5, p5⟩ := H.dep 5 32 (by kernel_rfl)
    have p5 : (Wh b (X3 + x * A)) v5 w' := p5
    obtain ⟨v8, e8, p8⟩ := H.dep 8 35 (by kernel_rfl)
    have p8 : (Wh b B) v8 w' := p8
    exact OpTo.call 28 #[v5, v8] _ _ _ rfl (H.fn 28) (enters_of Tryd.func28 (by kernel_rfl) rfl) (by simp [e5, e8]) ((add_of zX3xA zB HF.out _ _ w' p5.rd p8.rd).mono fun e w2 ⟨v, h1, h2, h3⟩ => ⟨v, h1, h3, h2.le (Nat.le_trans hbW H.bel.size)⟩)
  · refine StepT.a _ (by rfl) fun ρ w' H => ?_
    exact OpTo.alloc rfl (fun w => by simp [go_sem]) H.bel.size
  intro vs Wt hBt hDt
  have hV9 : (Wh b (Fv)) (vs 9) Wt := hDt.1 9 (by omega)
  have hV10 : (PA W4.heap.size #[.bool false, .slice none 0 0] 31) (vs 10) Wt := hDt.1 10 (by omega)
  obtain ⟨r11, ea11, hr11, kr11⟩ := hV10
  clear hDt
  simp only [mergeS, Nat.reduceBEq, cond_true, cond_false, Nat.reduceAdd, List.drop_succ_cons, List.drop_zero, ea11]
  obtain ⟨lv11, ev11, rv11, cv11⟩ := hV9.cell
  obtain ⟨sl11, sc11, rfl, _⟩ := id rv11.1
  simp only [ev11]
  have x0 : Wt.cell? ⟨r11, 0, none⟩ = some (.bool false) := kr11.cell 0
  have x1 : Wt.cell? ⟨r11, 1, none⟩ = some (.slice none 0 0) := kr11.cell 1
  have x2 := kr11.frozen 0
  have x3 := kr11.frozen 1
  have x4 := kr11.lt
  have kF : BlkW b r11 (Fv) ((Wt.setCell ⟨r11, 0, none⟩ (.bool (decide (Fv < 0)))).setCell ⟨r11, 1, none⟩ (.slice sl11 (dg (Fv).natAbs).length sc11)) := BlkW.put kr11 rfl rv11 cv11
  have hBf : Below W4.heap.size W4 ((Wt.setCell ⟨r11, 0, none⟩ (.bool (decide (Fv < 0)))).setCell ⟨r11, 1, none⟩ (.slice sl11 (dg (Fv).natAbs).length sc11)) := (hBt.setCell hr11 _).setCell hr11 _
  replace kC := kC.next hBf
  replace kx := kx.next hBf
  replace k2 := k2.next hBf
  replace k3 := k3.next hBf
  replace hb0 : Below b w _ := below_step hBf hbW hb0
  have q11 := hr11
  replace hbW := Nat.le_trans hbW hBf.size
  clear hV9 hBt kr11 ev11 rv11 cv11
  go_upto_region 5 with (fail)
  generalize (World.setCell (World.setCell _ _ _) _ _) = W5 at *
  clear x0 x1 x2 x3 x4 hBf hr11
  have hbW5 : b < W5.heap.size := kC.lt
  refine wp_region_tabF 5 [4] [(4, 12), (0, 37), (1, 38), (2, 39), (3, 40)] [Wh b Fv, Wh b Fv, Wh b (Fv * Fv), Wh b (dwG A B x), PA W5.heap.size #[.bool false, .slice none 0 0] 31] (by kernel_rfl) (by kernel_rfl) (by kernel_rfl) ⟨⟨_, _, _, rfl⟩, trivial⟩ ⟨Wh.closed _ _, Wh.closed _ _, Wh.closed _ _, Wh.closed _ _, PA.closed _ _ _, trivial⟩ ⟨?_, ?_, ?_, ?_, ?_, trivial⟩ ?_
  · refine StepT.q _ (by rfl) (by rfl) fun ρ w' H => ?_
    have hx : ρ (.tmp 11) = .pointer (some ⟨r11, 0, none⟩) := H.bas 11 (by kernel_rfl); exact op_ldW _ rfl hx (kF.next H.bel)
  · refine StepT.q _ (by rfl) (by rfl) fun ρ w' H => ?_
    have hx : ρ (.tmp 11) = .pointer (some ⟨r11, 0, none⟩) := H.bas 11 (by kernel_rfl); exact op_ldW _ rfl hx (kF.next H.bel)
  · refine StepT.q _ (by rfl) (by rfl) fun ρ w' H => ?_
    obtain ⟨v0, e0, p0⟩ := H.dep 0 37 (by kernel_rfl)
    have p0 : (Wh b Fv) v0 w' := p0
    obtain ⟨v1, e1, p1⟩ := H.dep 1 38 (by kernel_rfl)
    have p1 : (Wh b Fv) v1 w' := p1
    exact OpTo.call 30 #[v0, v1] _ _ _ rfl (H.fn 30) (enters_of Tryd.func30 (by kernel_rfl) rfl) (by simp [e0, e1]) ((mul_of (zF.mono (by omega)) (zF.mono (by omega)) rfl _ _ w' p0.rd p1.rd).mono fun e w2 ⟨v, h1, h2, h3⟩ => ⟨v, h1, h3, h2.le (Nat.le_trans hbW H.bel.size)⟩)
  · refine StepT.q _ (by rfl) (by rfl) fun ρ w' H => ?_
    obtain ⟨v2, e2, p2⟩ := H.dep 2 39 (by kernel_rfl)
    have p2 : (Wh b (Fv * Fv)) v2 w' := p2
    exact OpTo.call 29 #[v2, (Value.int IntKind.i64 16)] _ _ _ rfl (H.fn 29) (enters_of Tryd.func29 (by kernel_rfl) rfl) (by simp [e2, H.con]) ((times_of ((zF.mul zF).mono (by omega)) (by omega) HG.out _ w' p2.rd).mono fun e w2 ⟨v, h1, h2, h3⟩ => ⟨v, h1, h3, h2.le (Nat.le_trans hbW H.bel.size)⟩)
  · refine StepT.a _ (by rfl) fun ρ w' H => ?_
    exact OpTo.alloc rfl (fun w => by simp [go_sem]) H.bel.size
  intro vs Wt hBt hDt
  have hV3 : (Wh b (dwG A B x)) (vs 3) Wt := hDt.1 3 (by omega)
  have hV4 : (PA W5.heap.size #[.bool false, .slice none 0 0] 31) (vs 4) Wt := hDt.1 4 (by omega)
  obtain ⟨r12, ea12, hr12, kr12⟩ := hV4
  clear hDt
  simp only [mergeS, Nat.reduceBEq, cond_true, cond_false, Nat.reduceAdd, List.drop_succ_cons, List.drop_zero, ea12]
  obtain ⟨lv12, ev12, rv12, cv12⟩ := hV3.cell
  obtain ⟨sl12, sc12, rfl, _⟩ := id rv12.1
  simp only [ev12]
  have x0 : Wt.cell? ⟨r12, 0, none⟩ = some (.bool false) := kr12.cell 0
  have x1 : Wt.cell? ⟨r12, 1, none⟩ = some (.slice none 0 0) := kr12.cell 1
  have x2 := kr12.frozen 0
  have x3 := kr12.frozen 1
  have x4 := kr12.lt
  have kG : BlkW b r12 (dwG A B x) ((Wt.setCell ⟨r12, 0, none⟩ (.bool (decide (dwG A B x < 0)))).setCell ⟨r12, 1, none⟩ (.slice sl12 (dg (dwG A B x).natAbs).length sc12)) := BlkW.put kr12 rfl rv12 cv12
  have hBf : Below W5.heap.size W5 ((Wt.setCell ⟨r12, 0, none⟩ (.bool (decide (dwG A B x < 0)))).setCell ⟨r12, 1, none⟩ (.slice sl12 (dg (dwG A B x).natAbs).length sc12)) := (hBt.setCell hr12 _).setCell hr12 _
  replace kC := kC.next hBf
  replace kx := kx.next hBf
  replace k2 := k2.next hBf
  replace k3 := k3.next hBf
  replace hb0 : Below b w _ := below_step hBf hbW hb0
  have q12 := hr12
  replace hbW := Nat.le_trans hbW hBf.size
  clear hV3 hBt kr12 ev12 rv12 cv12
  go_upto_region 6 with (fail)
  generalize (World.setCell (World.setCell _ _ _) _ _) = W6 at *
  clear x0 x1 x2 x3 x4 hBf hr12
  clear kF
  have hr12b : Hid (b < r12) := by
    show b < r12
    have := q12
    omega
  have zt1 : Sz 100 (X2 * X2 * 3) := ((zX2.mul zX2).mul (Sz.of1 (x := 3) (by omega) (by omega))).mono (by omega)
  have zt2 : Sz 100 (X2 * (6 * A)) := (zX2.mul (Sz.of1 (x := 6 * A) (by omega) (by omega))).mono (by omega)
  have zt3 : Sz 100 (X2 * X2 * 3 + X2 * (6 * A)) := (((((zX2.mul zX2).mul (Sz.of1 (x := 3) (by omega) (by omega))).mono (n := 20) (by omega)).add ((zX2.mul (Sz.of1 (x := 6 * A) (by omega) (by omega))).mono (by omega)))).mono (by omega)
  have zt4 : Sz 100 (x * (12 * B)) := (zx1.mul (Sz.of5b (x := 12 * B) (by omega))).mono (by omega)
  have zt5 : Sz 100 (X2 * X2 * 3 + X2 * (6 * A) + x * (12 * B)) := ((((((zX2.mul zX2).mul (Sz.of1 (x := 3) (by omega) (by omega))).mono (n := 20) (by omega)).add ((zX2.mul (Sz.of1 (x := 6 * A) (by omega) (by omega))).mono (by omega))).mono (n := 30) (by omega)).add ((zx1.mul (Sz.of5b (x := 12 * B) (by omega))).mono (by omega))).mono (by omega)
  have zt6 : Sz 100 (A * A) := (Sz.of5b (by omega)).mono (by omega)
  refine wp_region_tab 24 [23] [(23, 13), (0, 41), (1, 42), (2, 43), (3, 44), (4, 45), (5, 46), (6, 47), (7, 48), (8, 49), (9, 50), (10, 51), (11, 52), (12, 53), (13, 54), (14, 55), (15, 56), (16, 57), (17, 58), (18, 59), (19, 60), (20, 61), (21, 62), (22, 63)] [Wh b X2, Wh b X2, Wh b (X2 * X2), Wh b (X2 * X2 * 3), Wh b X2, IsV (.pointer (some ⟨b, 0, none⟩)), IsV (.int .i64 A), IsV (.int .i64 (6 * A)), Wh b (X2 * (6 * A)), Wh b (X2 * X2 * 3 + X2 * (6 * A)), Wh b x, IsV (.pointer (some ⟨b, 1, none⟩)), IsV (.int .i64 B), IsV (.int .i64 (12 * B)), Wh b (x * (12 * B)), Wh b (X2 * X2 * 3 + X2 * (6 * A) + x * (12 * B)), IsV (.pointer (some ⟨b, 0, none⟩)), IsV (.int .i64 A), IsV (.pointer (some ⟨b, 0, none⟩)), IsV (.int .i64 A), IsV (.int .i64 (A * A)), Wh b (A * A), Wh b (dvT A B x), PA W6.heap.size #[.bool false, .slice none 0 0] 31] (by kernel_rfl) (by kernel_rfl) (by kernel_rfl) ⟨⟨_, _, _, rfl⟩, trivial⟩ ⟨Wh.closed _ _, Wh.closed _ _, Wh.closed _ _, Wh.closed _ _, Wh.closed _ _, IsV.closed _, IsV.closed _, IsV.closed _, Wh.closed _ _, Wh.closed _ _, Wh.closed _ _, IsV.closed _, IsV.closed _, IsV.closed _, Wh.closed _ _, Wh.closed _ _, IsV.closed _, IsV.closed _, IsV.closed _, IsV.closed _, IsV.closed _, Wh.closed _ _, Wh.closed _ _, PA.closed _ _ _, trivial⟩ ⟨?_, ?_, ?_, ?_, ?_, ?_, ?_, ?_, ?_, ?_, ?_, ?_, ?_, ?_, ?_, ?_, ?_, ?_, ?_, ?_, ?_, ?_, ?_, ?_, trivial⟩ ?_
  · refine StepT.q _ (by rfl) (by rfl) fun ρ w' H => ?_
    have hx : ρ (.tmp 9) = .pointer (some ⟨r9, 0, none⟩) := H.bas 9 (by kernel_rfl); exact op_ldW _ rfl hx (k2.next H.bel)
  · refine StepT.q _ (by rfl) (by rfl) fun ρ w' H => ?_
    have hx : ρ (.tmp 9) = .pointer (some ⟨r9, 0, none⟩) := H.bas 9 (by kernel_rfl); exact op_ldW _ rfl hx (k2.next H.bel)
  · refine StepT.q _ (by rfl) (by rfl) fun ρ w' H => ?_
    obtain ⟨v0, e0, p0⟩ := H.dep 0 41 (by kernel_rfl)
    have p0 : (Wh b X2) v0 w' := p0
    obtain ⟨v1, e1, p1⟩ := H.dep 1 42 (by kernel_rfl)
    have p1 : (Wh b X2) v1 w' := p1
    exact OpTo.call 30 #[v0, v1] _ _ _ rfl (H.fn 30) (enters_of Tryd.func30 (by kernel_rfl) rfl) (by simp [e0, e1]) ((mul_of (zX2.mono (by omega)) (zX2.mono (by omega)) rfl _ _ w' p0.rd p1.rd).mono fun e w2 ⟨v, h1, h2, h3⟩ => ⟨v, h1, h3, h2.le (Nat.le_trans hbW H.bel.size)⟩)
  · refine StepT.q _ (by rfl) (by rfl) fun ρ w' H => ?_
    obtain ⟨v2, e2, p2⟩ := H.dep 2 43 (by kernel_rfl)
    have p2 : (Wh b (X2 * X2)) v2 w' := p2
    exact OpTo.call 29 #[v2, (Value.int IntKind.i64 3)] _ _ _ rfl (H.fn 29) (enters_of Tryd.func29 (by kernel_rfl) rfl) (by simp [e2, H.con]) ((times_of ((zX2.mul zX2).mono (by omega)) (by omega) rfl _ w' p2.rd).mono fun e w2 ⟨v, h1, h2, h3⟩ => ⟨v, h1, h3, h2.le (Nat.le_trans hbW H.bel.size)⟩)
  · refine StepT.q _ (by rfl) (by rfl) fun ρ w' H => ?_
    have hx : ρ (.tmp 9) = .pointer (some ⟨r9, 0, none⟩) := H.bas 9 (by kernel_rfl); exact op_ldW _ rfl hx (k2.next H.bel)
  · refine StepT.q _ (by rfl) (by rfl) fun ρ w' H => ?_
    exact op_field0 _ rfl (H.bas 3 (by kernel_rfl))
  · refine StepT.q _ (by rfl) (by rfl) fun ρ w' H => ?_
    obtain ⟨v5, e5, p5⟩ := H.dep 5 46 (by kernel_rfl)
    obtain rfl : v5 = .pointer (some ⟨b, 0, none⟩) := p5
    exact op_ldI _ rfl e5 ((kC.next H.bel).cell 0)
  · refine StepT.q _ (by rfl) (by rfl) fun ρ w' H => ?_
    obtain ⟨v6, e6, p6⟩ := H.dep 6 47 (by kernel_rfl)
    obtain rfl : v6 = .int .i64 A := p6
    exact op_mul _ _ rfl (H.con _) e6 (by omega)
  · refine StepT.q _ (by rfl) (by rfl) fun ρ w' H => ?_
    obtain ⟨v4, e4, p4⟩ := H.dep 4 45 (by kernel_rfl)
    have p4 : (Wh b X2) v4 w' := p4
    obtain ⟨v7, e7, p7⟩ := H.dep 7 48 (by kernel_rfl)
    obtain rfl : v7 = .int .i64 (6 * A) := p7
    exact OpTo.call 29 #[v4, .int .i64 (6 * A)] _ _ _ rfl (H.fn 29) (enters_of Tryd.func29 (by kernel_rfl) rfl) (by simp [e4, e7]) ((times_of (zX2.mono (by omega)) (by omega) rfl _ w' p4.rd).mono fun e w2 ⟨v, h1, h2, h3⟩ => ⟨v, h1, h3, h2.le (Nat.le_trans hbW H.bel.size)⟩)
  · refine StepT.q _ (by rfl) (by rfl) fun ρ w' H => ?_
    obtain ⟨v3, e3, p3⟩ := H.dep 3 44 (by kernel_rfl)
    have p3 : (Wh b (X2 * X2 * 3)) v3 w' := p3
    obtain ⟨v8, e8, p8⟩ := H.dep 8 49 (by kernel_rfl)
    have p8 : (Wh b (X2 * (6 * A))) v8 w' := p8
    exact OpTo.call 28 #[v3, v8] _ _ _ rfl (H.fn 28) (enters_of Tryd.func28 (by kernel_rfl) rfl) (by simp [e3, e8]) ((add_of zt1 zt2 rfl _ _ w' p3.rd p8.rd).mono fun e w2 ⟨v, h1, h2, h3⟩ => ⟨v, h1, h3, h2.le (Nat.le_trans hbW H.bel.size)⟩)
  · refine StepT.q _ (by rfl) (by rfl) fun ρ w' H => ?_
    have hx : ρ (.tmp 7) = .pointer (some ⟨r7, 0, none⟩) := H.bas 7 (by kernel_rfl); exact op_ldW _ rfl hx (kx.next H.bel)
  · refine StepT.q _ (by rfl) (by rfl) fun ρ w' H => ?_
    exact op_field1 _ rfl (H.bas 3 (by kernel_rfl))
  · refine StepT.q _ (by rfl) (by rfl) fun ρ w' H => ?_
    obtain ⟨v11, e11, p11⟩ := H.dep 11 52 (by kernel_rfl)
    obtain rfl : v11 = .pointer (some ⟨b, 1, none⟩) := p11
    exact op_ldI _ rfl e11 ((kC.next H.bel).cell 1)
  · refine StepT.q _ (by rfl) (by rfl) fun ρ w' H => ?_
    obtain ⟨v12, e12, p12⟩ := H.dep 12 53 (by kernel_rfl)
    obtain rfl : v12 = .int .i64 B := p12
    exact op_mul _ _ rfl (H.con _) e12 (by omega)
  · refine StepT.q _ (by rfl) (by rfl) fun ρ w' H => ?_
    obtain ⟨v10, e10, p10⟩ := H.dep 10 51 (by kernel_rfl)
    have p10 : (Wh b x) v10 w' := p10
    obtain ⟨v13, e13, p13⟩ := H.dep 13 54 (by kernel_rfl)
    obtain rfl : v13 = .int .i64 (12 * B) := p13
    exact OpTo.call 29 #[v10, .int .i64 (12 * B)] _ _ _ rfl (H.fn 29) (enters_of Tryd.func29 (by kernel_rfl) rfl) (by simp [e10, e13]) ((times_of zx (by omega) rfl _ w' p10.rd).mono fun e w2 ⟨v, h1, h2, h3⟩ => ⟨v, h1, h3, h2.le (Nat.le_trans hbW H.bel.size)⟩)
  · refine StepT.q _ (by rfl) (by rfl) fun ρ w' H => ?_
    obtain ⟨v9, e9, p9⟩ := H.dep 9 50 (by kernel_rfl)
    have p9 : (Wh b (X2 * X2 * 3 + X2 * (6 * A))) v9 w' := p9
    obtain ⟨v14, e14, p14⟩ := H.dep 14 55 (by kernel_rfl)
    have p14 : (Wh b (x * (12 * B))) v14 w' := p14
    exact OpTo.call 28 #[v9, v14] _ _ _ rfl (H.fn 28) (enters_of Tryd.func28 (by kernel_rfl) rfl) (by simp [e9, e14]) ((add_of zt3 zt4 rfl _ _ w' p9.rd p14.rd).mono fun e w2 ⟨v, h1, h2, h3⟩ => ⟨v, h1, h3, h2.le (Nat.le_trans hbW H.bel.size)⟩)
  · refine StepT.q _ (by rfl) (by rfl) fun ρ w' H => ?_
    exact op_field0 _ rfl (H.bas 3 (by kernel_rfl))
  · refine StepT.q _ (by rfl) (by rfl) fun ρ w' H => ?_
    obtain ⟨v16, e16, p16⟩ := H.dep 16 57 (by kernel_rfl)
    obtain rfl : v16 = .pointer (some ⟨b, 0, none⟩) := p16
    exact op_ldI _ rfl e16 ((kC.next H.bel).cell 0)
  · refine StepT.q _ (by rfl) (by rfl) fun ρ w' H => ?_
    exact op_field0 _ rfl (H.bas 3 (by kernel_rfl))
  · refine StepT.q _ (by rfl) (by rfl) fun ρ w' H => ?_
    obtain ⟨v18, e18, p18⟩ := H.dep 18 59 (by kernel_rfl)
    obtain rfl : v18 = .pointer (some ⟨b, 0, none⟩) := p18
    exact op_ldI _ rfl e18 ((kC.next H.bel).cell 0)
  · refine StepT.q _ (by rfl) (by rfl) fun ρ w' H => ?_
    obtain ⟨v17, e17, p17⟩ := H.dep 17 58 (by kernel_rfl)
    obtain rfl : v17 = .int .i64 A := p17
    obtain ⟨v19, e19, p19⟩ := H.dep 19 60 (by kernel_rfl)
    obtain rfl : v19 = .int .i64 A := p19
    exact op_mul _ _ rfl e17 e19 (by omega)
  · refine StepT.q _ (by rfl) (by rfl) fun ρ w' H => ?_
    obtain ⟨v20, e20, p20⟩ := H.dep 20 61 (by kernel_rfl)
    obtain rfl : v20 = .int .i64 (A * A) := p20
    exact OpTo.call 26 #[.int .i64 (A * A)] _ _ _ rfl (H.fn 26) (enters_of Tryd.func26 (by kernel_rfl) rfl) (by simp [e20]) ((c_bgOf (A * A) (by omega) w').mono fun e w2 ⟨v, h1, h2, h3⟩ => ⟨v, h1, h3, h2.le (Nat.le_trans hbW H.bel.size)⟩)
  · refine StepT.q _ (by rfl) (by rfl) fun ρ w' H => ?_
    obtain ⟨v15, e15, p15⟩ := H.dep 15 56 (by kernel_rfl)
    have p15 : (Wh b (X2 * X2 * 3 + X2 * (6 * A) + x * (12 * B))) v15 w' := p15
    obtain ⟨v21, e21, p21⟩ := H.dep 21 62 (by kernel_rfl)
    have p21 : (Wh b (A * A)) v21 w' := p21
    exact OpTo.call 31 #[v15, v21] _ _ _ rfl (H.fn 31) (enters_of Tryd.func31 (by kernel_rfl) rfl) (by simp [e15, e21]) ((sub_of zt5 zt6 HT.out _ _ w' p15.rd p21.rd).mono fun e w2 ⟨v, h1, h2, h3⟩ => ⟨v, h1, h3, h2.le (Nat.le_trans hbW H.bel.size)⟩)
  · refine StepT.a _ (by rfl) fun ρ w' H => ?_
    exact OpTo.alloc rfl (fun w => by simp [go_sem]) H.bel.size
  intro vs Wt hBt hDt
  have hV22 : (Wh b (dvT A B x)) (vs 22) Wt := hDt.1 22 (by omega)
  have hV23 : (PA W6.heap.size #[.bool false, .slice none 0 0] 31) (vs 23) Wt := hDt.1 23 (by omega)
  obtain ⟨r13, ea13, hr13, kr13⟩ := hV23
  clear hDt
  simp only [mergeS, Nat.reduceBEq, cond_true, cond_false, Nat.reduceAdd, List.drop_succ_cons, List.drop_zero, ea13]
  obtain ⟨lv13, ev13, rv13, cv13⟩ := hV22.cell
  obtain ⟨sl13, sc13, rfl, _⟩ := id rv13.1
  simp only [ev13]
  have x0 : Wt.cell? ⟨r13, 0, none⟩ = some (.bool false) := kr13.cell 0
  have x1 : Wt.cell? ⟨r13, 1, none⟩ = some (.slice none 0 0) := kr13.cell 1
  have x2 := kr13.frozen 0
  have x3 := kr13.frozen 1
  have x4 := kr13.lt
  have kT : BlkW b r13 (dvT A B x) ((Wt.setCell ⟨r13, 0, none⟩ (.bool (decide (dvT A B x < 0)))).setCell ⟨r13, 1, none⟩ (.slice sl13 (dg (dvT A B x).natAbs).length sc13)) := BlkW.put kr13 rfl rv13 cv13
  have hBf : Below W6.heap.size W6 ((Wt.setCell ⟨r13, 0, none⟩ (.bool (decide (dvT A B x < 0)))).setCell ⟨r13, 1, none⟩ (.slice sl13 (dg (dvT A B x).natAbs).length sc13)) := (hBt.setCell hr13 _).setCell hr13 _
  replace kC := kC.next hBf
  replace kx := kx.next hBf
  replace k2 := k2.next hBf
  replace k3 := k3.next hBf
  replace kG := kG.next hBf
  replace hb0 : Below b w _ := below_step hBf hbW hb0
  have q13 := hr13
  replace hbW := Nat.le_trans hbW hBf.size
  clear hV22 hBt kr13 ev13 rv13 cv13
  go_upto_region 7 with (fail)
  generalize (World.setCell (World.setCell _ _ _) _ _) = W7 at *
  clear x0 x1 x2 x3 x4 hBf hr13
  have h8c : Hid (b < W7.heap.size ∧ r7 < W7.heap.size ∧ r9 < W7.heap.size ∧ r10 < W7.heap.size ∧ r12 < W7.heap.size ∧ r13 < W7.heap.size) := ⟨kC.lt, kx.lt, k2.lt, k3.lt, kG.lt, kT.lt⟩
  refine wp_region_tab 12 [11] [(11, 14), (0, 64), (1, 65), (2, 66), (3, 67), (4, 68), (5, 69), (6, 70), (7, 71), (8, 72), (9, 73), (10, 74)] [Wh b X3, Wh b X3, Wh b (X3 * X3), Wh b X2, Wh b X2, Wh b (X2 * X2), IsV (.pointer (some ⟨b, 0, none⟩)), IsV (.int .i64 A), IsV (.int .i64 (5 * A)), Wh b (X2 * X2 * (5 * A)), Wh b (R1), PA W7.heap.size #[.bool false, .slice none 0 0] 31] (by kernel_rfl) (by kernel_rfl) (by kernel_rfl) ⟨⟨_, _, _, rfl⟩, trivial⟩ ⟨Wh.closed _ _, Wh.closed _ _, Wh.closed _ _, Wh.closed _ _, Wh.closed _ _, Wh.closed _ _, IsV.closed _, IsV.closed _, IsV.closed _, Wh.closed _ _, Wh.closed _ _, PA.closed _ _ _, trivial⟩ ⟨?_, ?_, ?_, ?_, ?_, ?_, ?_, ?_, ?_, ?_, ?_, ?_, trivial⟩ ?_
  · refine StepT.q _ (by rfl) (by rfl) fun ρ w' H => ?_
    have hx : ρ (.tmp 10) = .pointer (some ⟨r10, 0, none⟩) := H.bas 10 (by kernel_rfl); exact op_ldW _ rfl hx (k3.next H.bel)
  · refine StepT.q _ (by rfl) (by rfl) fun ρ w' H => ?_
    have hx : ρ (.tmp 10) = .pointer (some ⟨r10, 0, none⟩) := H.bas 10 (by kernel_rfl); exact op_ldW _ rfl hx (k3.next H.bel)
  · refine StepT.q _ (by rfl) (by rfl) fun ρ w' H => ?_
    obtain ⟨v0, e0, p0⟩ := H.dep 0 64 (by kernel_rfl)
    have p0 : (Wh b X3) v0 w' := p0
    obtain ⟨v1, e1, p1⟩ := H.dep 1 65 (by kernel_rfl)
    have p1 : (Wh b X3) v1 w' := p1
    exact OpTo.call 30 #[v0, v1] _ _ _ rfl (H.fn 30) (enters_of Tryd.func30 (by kernel_rfl) rfl) (by simp [e0, e1]) ((mul_of (zX3.mono (by omega)) (zX3.mono (by omega)) rfl _ _ w' p0.rd p1.rd).mono fun e w2 ⟨v, h1, h2, h3⟩ => ⟨v, h1, h3, h2.le (Nat.le_trans hbW H.bel.size)⟩)
  · refine StepT.q _ (by rfl) (by rfl) fun ρ w' H => ?_
    have hx : ρ (.tmp 9) = .pointer (some ⟨r9, 0, none⟩) := H.bas 9 (by kernel_rfl); exact op_ldW _ rfl hx (k2.next H.bel)
  · refine StepT.q _ (by rfl) (by rfl) fun ρ w' H => ?_
    have hx : ρ (.tmp 9) = .pointer (some ⟨r9, 0, none⟩) := H.bas 9 (by kernel_rfl); exact op_ldW _ rfl hx (k2.next H.bel)
  · refine StepT.q _ (by rfl) (by rfl) fun ρ w' H => ?_
    obtain ⟨v3, e3, p3⟩ := H.dep 3 67 (by kernel_rfl)
    have p3 : (Wh b X2) v3 w' := p3
    obtain ⟨v4, e4, p4⟩ := H.dep 4 68 (by kernel_rfl)
    have p4 : (Wh b X2) v4 w' := p4
    exact OpTo.call 30 #[v3, v4] _ _ _ rfl (H.fn 30) (enters_of Tryd.func30 (by kernel_rfl) rfl) (by simp [e3, e4]) ((mul_of (zX2.mono (by omega)) (zX2.mono (by omega)) rfl _ _ w' p3.rd p4.rd).mono fun e w2 ⟨v, h1, h2, h3⟩ => ⟨v, h1, h3, h2.le (Nat.le_trans hbW H.bel.size)⟩)
  · refine StepT.q _ (by rfl) (by rfl) fun ρ w' H => ?_
    exact op_field0 _ rfl (H.bas 3 (by kernel_rfl))
  · refine StepT.q _ (by rfl) (by rfl) fun ρ w' H => ?_
    obtain ⟨v6, e6, p6⟩ := H.dep 6 70 (by kernel_rfl)
    obtain rfl : v6 = .pointer (some ⟨b, 0, none⟩) := p6
    exact op_ldI _ rfl e6 ((kC.next H.bel).cell 0)
  · refine StepT.q _ (by rfl) (by rfl) fun ρ w' H => ?_
    obtain ⟨v7, e7, p7⟩ := H.dep 7 71 (by kernel_rfl)
    obtain rfl : v7 = .int .i64 A := p7
    exact op_mul _ _ rfl (H.con _) e7 (by omega)
  · refine StepT.q _ (by rfl) (by rfl) fun ρ w' H => ?_
    obtain ⟨v5, e5, p5⟩ := H.dep 5 69 (by kernel_rfl)
    have p5 : (Wh b (X2 * X2)) v5 w' := p5
    obtain ⟨v8, e8, p8⟩ := H.dep 8 72 (by kernel_rfl)
    obtain rfl : v8 = .int .i64 (5 * A) := p8
    exact OpTo.call 29 #[v5, .int .i64 (5 * A)] _ _ _ rfl (H.fn 29) (enters_of Tryd.func29 (by kernel_rfl) rfl) (by simp [e5, e8]) ((times_of ((zX2.mul zX2).mono (by omega)) (by omega) rfl _ w' p5.rd).mono fun e w2 ⟨v, h1, h2, h3⟩ => ⟨v, h1, h3, h2.le (Nat.le_trans hbW H.bel.size)⟩)
  · refine StepT.q _ (by rfl) (by rfl) fun ρ w' H => ?_
    obtain ⟨v2, e2, p2⟩ := H.dep 2 66 (by kernel_rfl)
    have p2 : (Wh b (X3 * X3)) v2 w' := p2
    obtain ⟨v9, e9, p9⟩ := H.dep 9 73 (by kernel_rfl)
    have p9 : (Wh b (X2 * X2 * (5 * A))) v9 w' := p9
    exact OpTo.call 28 #[v2, v9] _ _ _ rfl (H.fn 28) (enters_of Tryd.func28 (by kernel_rfl) rfl) (by simp [e2, e9]) ((add_of ((zX3.mul zX3).mono (by omega)) (((zX2.mul zX2).mul z5A).mono (by omega)) HR1.out _ _ w' p2.rd p9.rd).mono fun e w2 ⟨v, h1, h2, h3⟩ => ⟨v, h1, h3, h2.le (Nat.le_trans hbW H.bel.size)⟩)
  · refine StepT.a _ (by rfl) fun ρ w' H => ?_
    exact OpTo.alloc rfl (fun w => by simp [go_sem]) H.bel.size
  intro vs Wt hBt hDt
  have hV10 : (Wh b (R1)) (vs 10) Wt := hDt.1 10 (by omega)
  have hV11 : (PA W7.heap.size #[.bool false, .slice none 0 0] 31) (vs 11) Wt := hDt.1 11 (by omega)
  obtain ⟨r14, ea14, hr14, kr14⟩ := hV11
  clear hDt
  simp only [mergeS, Nat.reduceBEq, cond_true, cond_false, Nat.reduceAdd, List.drop_succ_cons, List.drop_zero, ea14]
  obtain ⟨lv14, ev14, rv14, cv14⟩ := hV10.cell
  obtain ⟨sl14, sc14, rfl, _⟩ := id rv14.1
  simp only [ev14]
  have x0 : Wt.cell? ⟨r14, 0, none⟩ = some (.bool false) := kr14.cell 0
  have x1 : Wt.cell? ⟨r14, 1, none⟩ = some (.slice none 0 0) := kr14.cell 1
  have x2 := kr14.frozen 0
  have x3 := kr14.frozen 1
  have x4 := kr14.lt
  have kU : BlkW b r14 (R1) ((Wt.setCell ⟨r14, 0, none⟩ (.bool (decide (R1 < 0)))).setCell ⟨r14, 1, none⟩ (.slice sl14 (dg (R1).natAbs).length sc14)) := BlkW.put kr14 rfl rv14 cv14
  have hBf : Below W7.heap.size W7 ((Wt.setCell ⟨r14, 0, none⟩ (.bool (decide (R1 < 0)))).setCell ⟨r14, 1, none⟩ (.slice sl14 (dg (R1).natAbs).length sc14)) := (hBt.setCell hr14 _).setCell hr14 _
  replace kC := kC.next hBf
  replace kx := kx.next hBf
  replace k2 := k2.next hBf
  replace k3 := k3.next hBf
  replace kG := kG.next hBf
  replace kT := kT.next hBf
  replace hb0 : Below b w _ := below_step hBf hbW hb0
  have q14 := hr14
  replace hbW := Nat.le_trans hbW hBf.size
  clear hV10 hBt kr14 ev14 rv14 cv14
  go_upto_region 8 with (fail)
  generalize (World.setCell (World.setCell _ _ _) _ _) = W8 at *
  clear x0 x1 x2 x3 x4 hBf hr14
  have hs14 : b < r14 ∧ r7 < r14 ∧ r9 < r14 ∧ r10 < r14 ∧ r12 < r14 ∧ r13 < r14 := by
    have := q14
    have := h8c.out
    omega
  refine wp_region_tab 7 [] [(0, 75), (1, 76), (2, 77), (3, 78), (4, 79), (5, 80), (6, 81)] [Wh b R1, Wh b X3, IsV (.pointer (some ⟨b, 1, none⟩)), IsV (.int .i64 B), IsV (.int .i64 (20 * B)), Wh b (X3 * (20 * B)), Wh b (R2)] (by kernel_rfl) (by kernel_rfl) (by kernel_rfl) trivial ⟨Wh.closed _ _, Wh.closed _ _, IsV.closed _, IsV.closed _, IsV.closed _, Wh.closed _ _, Wh.closed _ _, trivial⟩ ⟨?_, ?_, ?_, ?_, ?_, ?_, ?_, trivial⟩ ?_
  · refine StepT.q _ (by rfl) (by rfl) fun ρ w' H => ?_
    have hx : ρ (.tmp 14) = .pointer (some ⟨r14, 0, none⟩) := H.bas 14 (by kernel_rfl); exact op_ldW _ rfl hx (kU.next H.bel)
  · refine StepT.q _ (by rfl) (by rfl) fun ρ w' H => ?_
    have hx : ρ (.tmp 10) = .pointer (some ⟨r10, 0, none⟩) := H.bas 10 (by kernel_rfl); exact op_ldW _ rfl hx (k3.next H.bel)
  · refine StepT.q _ (by rfl) (by rfl) fun ρ w' H => ?_
    exact op_field1 _ rfl (H.bas 3 (by kernel_rfl))
  · refine StepT.q _ (by rfl) (by rfl) fun ρ w' H => ?_
    obtain ⟨v2, e2, p2⟩ := H.dep 2 77 (by kernel_rfl)
    obtain rfl : v2 = .pointer (some ⟨b, 1, none⟩) := p2
    exact op_ldI _ rfl e2 ((kC.next H.bel).cell 1)
  · refine StepT.q _ (by rfl) (by rfl) fun ρ w' H => ?_
    obtain ⟨v3, e3, p3⟩ := H.dep 3 78 (by kernel_rfl)
    obtain rfl : v3 = .int .i64 B := p3
    exact op_mul _ _ rfl (H.con _) e3 (by omega)
  · refine StepT.q _ (by rfl) (by rfl) fun ρ w' H => ?_
    obtain ⟨v1, e1, p1⟩ := H.dep 1 76 (by kernel_rfl)
    have p1 : (Wh b X3) v1 w' := p1
    obtain ⟨v4, e4, p4⟩ := H.dep 4 79 (by kernel_rfl)
    obtain rfl : v4 = .int .i64 (20 * B) := p4
    exact OpTo.call 29 #[v1, .int .i64 (20 * B)] _ _ _ rfl (H.fn 29) (enters_of Tryd.func29 (by kernel_rfl) rfl) (by simp [e1, e4]) ((times_of (zX3.mono (by omega)) (by omega) rfl _ w' p1.rd).mono fun e w2 ⟨v, h1, h2, h3⟩ => ⟨v, h1, h3, h2.le (Nat.le_trans hbW H.bel.size)⟩)
  · refine StepT.q _ (by rfl) (by rfl) fun ρ w' H => ?_
    obtain ⟨v0, e0, p0⟩ := H.dep 0 75 (by kernel_rfl)
    have p0 : (Wh b R1) v0 w' := p0
    obtain ⟨v5, e5, p5⟩ := H.dep 5 80 (by kernel_rfl)
    have p5 : (Wh b (X3 * (20 * B))) v5 w' := p5
    exact OpTo.call 28 #[v0, v5] _ _ _ rfl (H.fn 28) (enters_of Tryd.func28 (by kernel_rfl) rfl) (by simp [e0, e5]) ((add_of (zR1.mono (by omega)) ((zX3.mul z20B).mono (by omega)) HR2.out _ _ w' p0.rd p5.rd).mono fun e w2 ⟨v, h1, h2, h3⟩ => ⟨v, h1, h3, h2.le (Nat.le_trans hbW H.bel.size)⟩)
  intro vs Wt hBt hDt
  have hV6 : (Wh b (R2)) (vs 6) Wt := hDt.1 6 (by omega)
  clear hDt
  simp only [mergeS, Nat.reduceBEq, cond_true, cond_false, Nat.reduceAdd, List.drop_succ_cons, List.drop_zero]
  replace kC := kC.next hBt
  replace kx := kx.next hBt
  replace k2 := k2.next hBt
  replace k3 := k3.next hBt
  replace kG := kG.next hBt
  replace kT := kT.next hBt
  replace kU := kU.next hBt
  replace hb0 : Below b w _ := below_step hBt hbW hb0
  replace hbW := Nat.le_trans hbW hBt.size
  obtain ⟨lvU, evU, rvU, cvU⟩ := hV6.cell
  obtain ⟨slU, scU, rfl, _⟩ := id rvU.1
  simp only [evU]
  obtain ⟨lo, kr, _, _⟩ := id kU
  have x0 : Wt.cell? ⟨r14, 0, none⟩ = some (.bool (decide (R1 < 0))) := kr.cell 0
  have x1 : Wt.cell? ⟨r14, 1, none⟩ = some lo := kr.cell 1
  have x2 := kr.frozen 0
  have x3 := kr.frozen 1
  have x4 := kr.lt
  have kU9 : BlkW b r14 (R2) ((Wt.setCell ⟨r14, 0, none⟩ (.bool (decide (R2 < 0)))).setCell ⟨r14, 1, none⟩ (.slice slU (dg (R2).natAbs).length scU)) := BlkW.put kr rfl rvU cvU
  replace kx := kx.far (r' := r14) (by omega) kr (.bool (decide (R2 < 0))) (.slice slU (dg (R2).natAbs).length scU)
  replace k2 := k2.far (r' := r14) (by omega) kr (.bool (decide (R2 < 0))) (.slice slU (dg (R2).natAbs).length scU)
  replace k3 := k3.far (r' := r14) (by omega) kr (.bool (decide (R2 < 0))) (.slice slU (dg (R2).natAbs).length scU)
  replace kG := kG.far (r' := r14) (by omega) kr (.bool (decide (R2 < 0))) (.slice slU (dg (R2).natAbs).length scU)
  replace kT := kT.far (r' := r14) (by omega) kr (.bool (decide (R2 < 0))) (.slice slU (dg (R2).natAbs).length scU)
  replace kC := (kC.far (p := ⟨r14, 0, none⟩) (by show b ≠ r14; omega) (.bool (decide (R2 < 0)))).far (p := ⟨r14, 1, none⟩) (by show b ≠ r14; omega) (.slice slU (dg (R2).natAbs).length scU)
  replace hb0 : Below b w ((Wt.setCell ⟨r14, 0, none⟩ (.bool (decide (R2 < 0)))).setCell ⟨r14, 1, none⟩ (.slice slU (dg (R2).natAbs).length scU)) := (hb0.setCell (by show b ≤ r14; omega) _).setCell (by show b ≤ r14; omega) _
  replace hbW : b ≤ ((Wt.setCell ⟨r14, 0, none⟩ (.bool (decide (R2 < 0)))).setCell ⟨r14, 1, none⟩ (.slice slU (dg (R2).natAbs).length scU)).heap.size := by simpa [World.setCell] using hbW
  clear hV6 hBt evU rvU cvU kr
  go_upto_region 9 with (fail)
  generalize (World.setCell (World.setCell _ _ _) _ _) = W9 at *
  clear x0 x1 x2 x3 x4 kU
  have kU := kU9
  clear kU9
  refine wp_region_tab 10 [] [(0, 82), (1, 83), (2, 84), (3, 85), (4, 86), (5, 87), (6, 88), (7, 89), (8, 90), (9, 91)] [Wh b R2, Wh b X2, IsV (.pointer (some ⟨b, 0, none⟩)), IsV (.int .i64 A), IsV (.int .i64 (5 * A)), IsV (.pointer (some ⟨b, 0, none⟩)), IsV (.int .i64 A), IsV (.int .i64 (5 * A * A)), Wh b (X2 * (5 * A * A)), Wh b (R3)] (by kernel_rfl) (by kernel_rfl) (by kernel_rfl) trivial ⟨Wh.closed _ _, Wh.closed _ _, IsV.closed _, IsV.closed _, IsV.closed _, IsV.closed _, IsV.closed _, IsV.closed _, Wh.closed _ _, Wh.closed _ _, trivial⟩ ⟨?_, ?_, ?_, ?_, ?_, ?_, ?_, ?_, ?_, ?_, trivial⟩ ?_
  · refine StepT.q _ (by rfl) (by rfl) fun ρ w' H => ?_
    have hx : ρ (.tmp 14) = .pointer (some ⟨r14, 0, none⟩) := H.bas 14 (by kernel_rfl); exact op_ldW _ rfl hx (kU.next H.bel)
  · refine StepT.q _ (by rfl) (by rfl) fun ρ w' H => ?_
    have hx : ρ (.tmp 9) = .pointer (some ⟨r9, 0, none⟩) := H.bas 9 (by kernel_rfl); exact op_ldW _ rfl hx (k2.next H.bel)
  · refine StepT.q _ (by rfl) (by rfl) fun ρ w' H => ?_
    exact op_field0 _ rfl (H.bas 3 (by kernel_rfl))
  · refine StepT.q _ (by rfl) (by rfl) fun ρ w' H => ?_
    obtain ⟨v2, e2, p2⟩ := H.dep 2 84 (by kernel_rfl)
    obtain rfl : v2 = .pointer (some ⟨b, 0, none⟩) := p2
    exact op_ldI _ rfl e2 ((kC.next H.bel).cell 0)
  · refine StepT.q _ (by rfl) (by rfl) fun ρ w' H => ?_
    obtain ⟨v3, e3, p3⟩ := H.dep 3 85 (by kernel_rfl)
    obtain rfl : v3 = .int .i64 A := p3
    exact op_mul _ _ rfl (H.con _) e3 (by omega)
  · refine StepT.q _ (by rfl) (by rfl) fun ρ w' H => ?_
    exact op_field0 _ rfl (H.bas 3 (by kernel_rfl))
  · refine StepT.q _ (by rfl) (by rfl) fun ρ w' H => ?_
    obtain ⟨v5, e5, p5⟩ := H.dep 5 87 (by kernel_rfl)
    obtain rfl : v5 = .pointer (some ⟨b, 0, none⟩) := p5
    exact op_ldI _ rfl e5 ((kC.next H.bel).cell 0)
  · refine StepT.q _ (by rfl) (by rfl) fun ρ w' H => ?_
    obtain ⟨v4, e4, p4⟩ := H.dep 4 86 (by kernel_rfl)
    obtain rfl : v4 = .int .i64 (5 * A) := p4
    obtain ⟨v6, e6, p6⟩ := H.dep 6 88 (by kernel_rfl)
    obtain rfl : v6 = .int .i64 A := p6
    exact op_mul _ _ rfl e4 e6 (by omega)
  · refine StepT.q _ (by rfl) (by rfl) fun ρ w' H => ?_
    obtain ⟨v1, e1, p1⟩ := H.dep 1 83 (by kernel_rfl)
    have p1 : (Wh b X2) v1 w' := p1
    obtain ⟨v7, e7, p7⟩ := H.dep 7 89 (by kernel_rfl)
    obtain rfl : v7 = .int .i64 (5 * A * A) := p7
    exact OpTo.call 29 #[v1, .int .i64 (5 * A * A)] _ _ _ rfl (H.fn 29) (enters_of Tryd.func29 (by kernel_rfl) rfl) (by simp [e1, e7]) ((times_of (zX2.mono (by omega)) (by omega) rfl _ w' p1.rd).mono fun e w2 ⟨v, h1, h2, h3⟩ => ⟨v, h1, h3, h2.le (Nat.le_trans hbW H.bel.size)⟩)
  · refine StepT.q _ (by rfl) (by rfl) fun ρ w' H => ?_
    obtain ⟨v0, e0, p0⟩ := H.dep 0 82 (by kernel_rfl)
    have p0 : (Wh b R2) v0 w' := p0
    obtain ⟨v8, e8, p8⟩ := H.dep 8 90 (by kernel_rfl)
    have p8 : (Wh b (X2 * (5 * A * A))) v8 w' := p8
    exact OpTo.call 31 #[v0, v8] _ _ _ rfl (H.fn 31) (enters_of Tryd.func31 (by kernel_rfl) rfl) (by simp [e0, e8]) ((sub_of (zR2.mono (by omega)) ((zX2.mul z5AA).mono (by omega)) HR3.out _ _ w' p0.rd p8.rd).mono fun e w2 ⟨v, h1, h2, h3⟩ => ⟨v, h1, h3, h2.le (Nat.le_trans hbW H.bel.size)⟩)
  intro vs Wt hBt hDt
  have hV9 : (Wh b (R3)) (vs 9) Wt := hDt.1 9 (by omega)
  clear hDt
  simp only [mergeS, Nat.reduceBEq, cond_true, cond_false, Nat.reduceAdd, List.drop_succ_cons, List.drop_zero]
  replace kC := kC.next hBt
  replace kx := kx.next hBt
  replace k2 := k2.next hBt
  replace k3 := k3.next hBt
  replace kG := kG.next hBt
  replace kT := kT.next hBt
  replace kU := kU.next hBt
  replace hb0 : Below b w _ := below_step hBt hbW hb0
  replace hbW := Nat.le_trans hbW hBt.size
  obtain ⟨lvU, evU, rvU, cvU⟩ := hV9.cell
  obtain ⟨slU, scU, rfl, _⟩ := id rvU.1
  simp only [evU]
  obtain ⟨lo, kr, _, _⟩ := id kU
  have x0 : Wt.cell? ⟨r14, 0, none⟩ = some (.bool (decide (R2 < 0))) := kr.cell 0
  have x1 : Wt.cell? ⟨r14, 1, none⟩ = some lo := kr.cell 1
  have x2 := kr.frozen 0
  have x3 := kr.frozen 1
  have x4 := kr.lt
  have kU9 : BlkW b r14 (R3) ((Wt.setCell ⟨r14, 0, none⟩ (.bool (decide (R3 < 0)))).setCell ⟨r14, 1, none⟩ (.slice slU (dg (R3).natAbs).length scU)) := BlkW.put kr rfl rvU cvU
  replace kx := kx.far (r' := r14) (by omega) kr (.bool (decide (R3 < 0))) (.slice slU (dg (R3).natAbs).length scU)
  replace k2 := k2.far (r' := r14) (by omega) kr (.bool (decide (R3 < 0))) (.slice slU (dg (R3).natAbs).length scU)
  replace k3 := k3.far (r' := r14) (by omega) kr (.bool (decide (R3 < 0))) (.slice slU (dg (R3).natAbs).length scU)
  replace kG := kG.far (r' := r14) (by omega) kr (.bool (decide (R3 < 0))) (.slice slU (dg (R3).natAbs).length scU)
  replace kT := kT.far (r' := r14) (by omega) kr (.bool (decide (R3 < 0))) (.slice slU (dg (R3).natAbs).length scU)
  replace kC := (kC.far (p := ⟨r14, 0, none⟩) (by show b ≠ r14; omega) (.bool (decide (R3 < 0)))).far (p := ⟨r14, 1, none⟩) (by show b ≠ r14; omega) (.slice slU (dg (R3).natAbs).length scU)
  replace hb0 : Below b w ((Wt.setCell ⟨r14, 0, none⟩ (.bool (decide (R3 < 0)))).setCell ⟨r14, 1, none⟩ (.slice slU (dg (R3).natAbs).length scU)) := (hb0.setCell (by show b ≤ r14; omega) _).setCell (by show b ≤ r14; omega) _
  replace hbW : b ≤ ((Wt.setCell ⟨r14, 0, none⟩ (.bool (decide (R3 < 0)))).setCell ⟨r14, 1, none⟩ (.slice slU (dg (R3).natAbs).length scU)).heap.size := by simpa [World.setCell] using hbW
  clear hV9 hBt evU rvU cvU kr
  go_upto_region 10 with (fail)
  generalize (World.setCell (World.setCell _ _ _) _ _) = W10 at *
  clear x0 x1 x2 x3 x4 kU
  have kU := kU9
  clear kU9
  refine wp_region_tab 10 [] [(0, 92), (1, 93), (2, 94), (3, 95), (4, 96), (5, 97), (6, 98), (7, 99), (8, 100), (9, 101)] [Wh b R3, Wh b x, IsV (.pointer (some ⟨b, 0, none⟩)), IsV (.int .i64 A), IsV (.int .i64 (4 * A)), IsV (.pointer (some ⟨b, 1, none⟩)), IsV (.int .i64 B), IsV (.int .i64 (4 * A * B)), Wh b (x * (4 * A * B)), Wh b (R4)] (by kernel_rfl) (by kernel_rfl) (by kernel_rfl) trivial ⟨Wh.closed _ _, Wh.closed _ _, IsV.closed _, IsV.closed _, IsV.closed _, IsV.closed _, IsV.closed _, IsV.closed _, Wh.closed _ _, Wh.closed _ _, trivial⟩ ⟨?_, ?_, ?_, ?_, ?_, ?_, ?_, ?_, ?_, ?_, trivial⟩ ?_
  · refine StepT.q _ (by rfl) (by rfl) fun ρ w' H => ?_
    have hx : ρ (.tmp 14) = .pointer (some ⟨r14, 0, none⟩) := H.bas 14 (by kernel_rfl); exact op_ldW _ rfl hx (kU.next H.bel)
  · refine StepT.q _ (by rfl) (by rfl) fun ρ w' H => ?_
    have hx : ρ (.tmp 7) = .pointer (some ⟨r7, 0, none⟩) := H.bas 7 (by kernel_rfl); exact op_ldW _ rfl hx (kx.next H.bel)
  · refine StepT.q _ (by rfl) (by rfl) fun ρ w' H => ?_
    exact op_field0 _ rfl (H.bas 3 (by kernel_rfl))
  · refine StepT.q _ (by rfl) (by rfl) fun ρ w' H => ?_
    obtain ⟨v2, e2, p2⟩ := H.dep 2 94 (by kernel_rfl)
    obtain rfl : v2 = .pointer (some ⟨b, 0, none⟩) := p2
    exact op_ldI _ rfl e2 ((kC.next H.bel).cell 0)
  · refine StepT.q _ (by rfl) (by rfl) fun ρ w' H => ?_
    obtain ⟨v3, e3, p3⟩ := H.dep 3 95 (by kernel_rfl)
    obtain rfl : v3 = .int .i64 A := p3
    exact op_mul _ _ rfl (H.con _) e3 (by omega)
  · refine StepT.q _ (by rfl) (by rfl) fun ρ w' H => ?_
    exact op_field1 _ rfl (H.bas 3 (by kernel_rfl))
  · refine StepT.q _ (by rfl) (by rfl) fun ρ w' H => ?_
    obtain ⟨v5, e5, p5⟩ := H.dep 5 97 (by kernel_rfl)
    obtain rfl : v5 = .pointer (some ⟨b, 1, none⟩) := p5
    exact op_ldI _ rfl e5 ((kC.next H.bel).cell 1)
  · refine StepT.q _ (by rfl) (by rfl) fun ρ w' H => ?_
    obtain ⟨v4, e4, p4⟩ := H.dep 4 96 (by kernel_rfl)
    obtain rfl : v4 = .int .i64 (4 * A) := p4
    obtain ⟨v6, e6, p6⟩ := H.dep 6 98 (by kernel_rfl)
    obtain rfl : v6 = .int .i64 B := p6
    exact op_mul _ _ rfl e4 e6 (by omega)
  · refine StepT.q _ (by rfl) (by rfl) fun ρ w' H => ?_
    obtain ⟨v1, e1, p1⟩ := H.dep 1 93 (by kernel_rfl)
    have p1 : (Wh b x) v1 w' := p1
    obtain ⟨v7, e7, p7⟩ := H.dep 7 99 (by kernel_rfl)
    obtain rfl : v7 = .int .i64 (4 * A * B) := p7
    exact OpTo.call 29 #[v1, .int .i64 (4 * A * B)] _ _ _ rfl (H.fn 29) (enters_of Tryd.func29 (by kernel_rfl) rfl) (by simp [e1, e7]) ((times_of zx (by omega) rfl _ w' p1.rd).mono fun e w2 ⟨v, h1, h2, h3⟩ => ⟨v, h1, h3, h2.le (Nat.le_trans hbW H.bel.size)⟩)
  · refine StepT.q _ (by rfl) (by rfl) fun ρ w' H => ?_
    obtain ⟨v0, e0, p0⟩ := H.dep 0 92 (by kernel_rfl)
    have p0 : (Wh b R3) v0 w' := p0
    obtain ⟨v8, e8, p8⟩ := H.dep 8 100 (by kernel_rfl)
    have p8 : (Wh b (x * (4 * A * B))) v8 w' := p8
    exact OpTo.call 31 #[v0, v8] _ _ _ rfl (H.fn 31) (enters_of Tryd.func31 (by kernel_rfl) rfl) (by simp [e0, e8]) ((sub_of (zR3.mono (by omega)) ((zx1.mul z4AB).mono (by omega)) HR4.out _ _ w' p0.rd p8.rd).mono fun e w2 ⟨v, h1, h2, h3⟩ => ⟨v, h1, h3, h2.le (Nat.le_trans hbW H.bel.size)⟩)
  intro vs Wt hBt hDt
  have hV9 : (Wh b (R4)) (vs 9) Wt := hDt.1 9 (by omega)
  clear hDt
  simp only [mergeS, Nat.reduceBEq, cond_true, cond_false, Nat.reduceAdd, List.drop_succ_cons, List.drop_zero]
  replace kC := kC.next hBt
  replace kx := kx.next hBt
  replace k2 := k2.next hBt
  replace k3 := k3.next hBt
  replace kG := kG.next hBt
  replace kT := kT.next hBt
  replace kU := kU.next hBt
  replace hb0 : Below b w _ := below_step hBt hbW hb0
  replace hbW := Nat.le_trans hbW hBt.size
  obtain ⟨lvU, evU, rvU, cvU⟩ := hV9.cell
  obtain ⟨slU, scU, rfl, _⟩ := id rvU.1
  simp only [evU]
  obtain ⟨lo, kr, _, _⟩ := id kU
  have x0 : Wt.cell? ⟨r14, 0, none⟩ = some (.bool (decide (R3 < 0))) := kr.cell 0
  have x1 : Wt.cell? ⟨r14, 1, none⟩ = some lo := kr.cell 1
  have x2 := kr.frozen 0
  have x3 := kr.frozen 1
  have x4 := kr.lt
  have kU9 : BlkW b r14 (R4) ((Wt.setCell ⟨r14, 0, none⟩ (.bool (decide (R4 < 0)))).setCell ⟨r14, 1, none⟩ (.slice slU (dg (R4).natAbs).length scU)) := BlkW.put kr rfl rvU cvU
  replace kx := kx.far (r' := r14) (by omega) kr (.bool (decide (R4 < 0))) (.slice slU (dg (R4).natAbs).length scU)
  replace k2 := k2.far (r' := r14) (by omega) kr (.bool (decide (R4 < 0))) (.slice slU (dg (R4).natAbs).length scU)
  replace k3 := k3.far (r' := r14) (by omega) kr (.bool (decide (R4 < 0))) (.slice slU (dg (R4).natAbs).length scU)
  replace kG := kG.far (r' := r14) (by omega) kr (.bool (decide (R4 < 0))) (.slice slU (dg (R4).natAbs).length scU)
  replace kT := kT.far (r' := r14) (by omega) kr (.bool (decide (R4 < 0))) (.slice slU (dg (R4).natAbs).length scU)
  replace kC := (kC.far (p := ⟨r14, 0, none⟩) (by show b ≠ r14; omega) (.bool (decide (R4 < 0)))).far (p := ⟨r14, 1, none⟩) (by show b ≠ r14; omega) (.slice slU (dg (R4).natAbs).length scU)
  replace hb0 : Below b w ((Wt.setCell ⟨r14, 0, none⟩ (.bool (decide (R4 < 0)))).setCell ⟨r14, 1, none⟩ (.slice slU (dg (R4).natAbs).length scU)) := (hb0.setCell (by show b ≤ r14; omega) _).setCell (by show b ≤ r14; omega) _
  replace hbW : b ≤ ((Wt.setCell ⟨r14, 0, none⟩ (.bool (decide (R4 < 0)))).setCell ⟨r14, 1, none⟩ (.slice slU (dg (R4).natAbs).length scU)).heap.size := by simpa [World.setCell] using hbW
  clear hV9 hBt evU rvU cvU kr
  go_upto_region 11 with (fail)
  generalize (World.setCell (World.setCell _ _ _) _ _) = W11 at *
  clear x0 x1 x2 x3 x4 kU
  have kU := kU9
  clear kU9
  have zR5 : Sz 100 (R4 + -(8 * B * B + A * A * A)) := (((zR4.mono (n := 60) (by omega)).add (Sz.neg (Sz.mono (Sz.of5b (x := 8 * B * B + A * A * A) (by omega)) (by omega))))).mono (by omega)
  refine wp_region_tab 19 [] [(0, 102), (1, 103), (2, 104), (3, 105), (4, 106), (5, 107), (6, 108), (7, 109), (8, 110), (9, 111), (10, 112), (11, 113), (12, 114), (13, 115), (14, 116), (15, 117), (16, 118), (17, 119), (18, 120)] [Wh b R4, IsV (.pointer (some ⟨b, 1, none⟩)), IsV (.int .i64 B), IsV (.int .i64 (8 * B)), IsV (.pointer (some ⟨b, 1, none⟩)), IsV (.int .i64 B), IsV (.int .i64 (8 * B * B)), IsV (.pointer (some ⟨b, 0, none⟩)), IsV (.int .i64 A), IsV (.pointer (some ⟨b, 0, none⟩)), IsV (.int .i64 A), IsV (.int .i64 (A * A)), IsV (.pointer (some ⟨b, 0, none⟩)), IsV (.int .i64 A), IsV (.int .i64 (A * A * A)), IsV (.int .i64 (8 * B * B + A * A * A)), Wh b (8 * B * B + A * A * A), Wh b (R4 + -(8 * B * B + A * A * A)), Wh b (dvQ A B x)] (by kernel_rfl) (by kernel_rfl) (by kernel_rfl) trivial ⟨Wh.closed _ _, IsV.closed _, IsV.closed _, IsV.closed _, IsV.closed _, IsV.closed _, IsV.closed _, IsV.closed _, IsV.closed _, IsV.closed _, IsV.closed _, IsV.closed _, IsV.closed _, IsV.closed _, IsV.closed _, IsV.closed _, Wh.closed _ _, Wh.closed _ _, Wh.closed _ _, trivial⟩ ⟨?_, ?_, ?_, ?_, ?_, ?_, ?_, ?_, ?_, ?_, ?_, ?_, ?_, ?_, ?_, ?_, ?_, ?_, ?_, trivial⟩ ?_
  · refine StepT.q _ (by rfl) (by rfl) fun ρ w' H => ?_
    have hx : ρ (.tmp 14) = .pointer (some ⟨r14, 0, none⟩) := H.bas 14 (by kernel_rfl); exact op_ldW _ rfl hx (kU.next H.bel)
  · refine StepT.q _ (by rfl) (by rfl) fun ρ w' H => ?_
    exact op_field1 _ rfl (H.bas 3 (by kernel_rfl))
  · refine StepT.q _ (by rfl) (by rfl) fun ρ w' H => ?_
    obtain ⟨v1, e1, p1⟩ := H.dep 1 103 (by kernel_rfl)
    obtain rfl : v1 = .pointer (some ⟨b, 1, none⟩) := p1
    exact op_ldI _ rfl e1 ((kC.next H.bel).cell 1)
  · refine StepT.q _ (by rfl) (by rfl) fun ρ w' H => ?_
    obtain ⟨v2, e2, p2⟩ := H.dep 2 104 (by kernel_rfl)
    obtain rfl : v2 = .int .i64 B := p2
    exact op_mul _ _ rfl (H.con _) e2 (by omega)
  · refine StepT.q _ (by rfl) (by rfl) fun ρ w' H => ?_
    exact op_field1 _ rfl (H.bas 3 (by kernel_rfl))
  · refine StepT.q _ (by rfl) (by rfl) fun ρ w' H => ?_
    obtain ⟨v4, e4, p4⟩ := H.dep 4 106 (by kernel_rfl)
    obtain rfl : v4 = .pointer (some ⟨b, 1, none⟩) := p4
    exact op_ldI _ rfl e4 ((kC.next H.bel).cell 1)
  · refine StepT.q _ (by rfl) (by rfl) fun ρ w' H => ?_
    obtain ⟨v3, e3, p3⟩ := H.dep 3 105 (by kernel_rfl)
    obtain rfl : v3 = .int .i64 (8 * B) := p3
    obtain ⟨v5, e5, p5⟩ := H.dep 5 107 (by kernel_rfl)
    obtain rfl : v5 = .int .i64 B := p5
    exact op_mul _ _ rfl e3 e5 (by omega)
  · refine StepT.q _ (by rfl) (by rfl) fun ρ w' H => ?_
    exact op_field0 _ rfl (H.bas 3 (by kernel_rfl))
  · refine StepT.q _ (by rfl) (by rfl) fun ρ w' H => ?_
    obtain ⟨v7, e7, p7⟩ := H.dep 7 109 (by kernel_rfl)
    obtain rfl : v7 = .pointer (some ⟨b, 0, none⟩) := p7
    exact op_ldI _ rfl e7 ((kC.next H.bel).cell 0)
  · refine StepT.q _ (by rfl) (by rfl) fun ρ w' H => ?_
    exact op_field0 _ rfl (H.bas 3 (by kernel_rfl))
  · refine StepT.q _ (by rfl) (by rfl) fun ρ w' H => ?_
    obtain ⟨v9, e9, p9⟩ := H.dep 9 111 (by kernel_rfl)
    obtain rfl : v9 = .pointer (some ⟨b, 0, none⟩) := p9
    exact op_ldI _ rfl e9 ((kC.next H.bel).cell 0)
  · refine StepT.q _ (by rfl) (by rfl) fun ρ w' H => ?_
    obtain ⟨v8, e8, p8⟩ := H.dep 8 110 (by kernel_rfl)
    obtain rfl : v8 = .int .i64 A := p8
    obtain ⟨v10, e10, p10⟩ := H.dep 10 112 (by kernel_rfl)
    obtain rfl : v10 = .int .i64 A := p10
    exact op_mul _ _ rfl e8 e10 (by omega)
  · refine StepT.q _ (by rfl) (by rfl) fun ρ w' H => ?_
    exact op_field0 _ rfl (H.bas 3 (by kernel_rfl))
  · refine StepT.q _ (by rfl) (by rfl) fun ρ w' H => ?_
    obtain ⟨v12, e12, p12⟩ := H.dep 12 114 (by kernel_rfl)
    obtain rfl : v12 = .pointer (some ⟨b, 0, none⟩) := p12
    exact op_ldI _ rfl e12 ((kC.next H.bel).cell 0)
  · refine StepT.q _ (by rfl) (by rfl) fun ρ w' H => ?_
    obtain ⟨v11, e11, p11⟩ := H.dep 11 113 (by kernel_rfl)
    obtain rfl : v11 = .int .i64 (A * A) := p11
    obtain ⟨v13, e13, p13⟩ := H.dep 13 115 (by kernel_rfl)
    obtain rfl : v13 = .int .i64 A := p13
    exact op_mul _ _ rfl e11 e13 (by omega)
  · refine StepT.q _ (by rfl) (by rfl) fun ρ w' H => ?_
    obtain ⟨v6, e6, p6⟩ := H.dep 6 108 (by kernel_rfl)
    obtain rfl : v6 = .int .i64 (8 * B * B) := p6
    obtain ⟨v14, e14, p14⟩ := H.dep 14 116 (by kernel_rfl)
    obtain rfl : v14 = .int .i64 (A * A * A) := p14
    exact op_add9 _ _ rfl e6 e14 (by omega)
  · refine StepT.q _ (by rfl) (by rfl) fun ρ w' H => ?_
    obtain ⟨v15, e15, p15⟩ := H.dep 15 117 (by kernel_rfl)
    obtain rfl : v15 = .int .i64 (8 * B * B + A * A * A) := p15
    exact OpTo.call 26 #[.int .i64 (8 * B * B + A * A * A)] _ _ _ rfl (H.fn 26) (enters_of Tryd.func26 (by kernel_rfl) rfl) (by simp [e15]) ((c_bgOf (8 * B * B + A * A * A) (by omega) w').mono fun e w2 ⟨v, h1, h2, h3⟩ => ⟨v, h1, h3, h2.le (Nat.le_trans hbW H.bel.size)⟩)
  · refine StepT.q _ (by rfl) (by rfl) fun ρ w' H => ?_
    obtain ⟨v0, e0, p0⟩ := H.dep 0 102 (by kernel_rfl)
    have p0 : (Wh b R4) v0 w' := p0
    obtain ⟨v16, e16, p16⟩ := H.dep 16 118 (by kernel_rfl)
    have p16 : (Wh b (8 * B * B + A * A * A)) v16 w' := p16
    exact OpTo.call 31 #[v0, v16] _ _ _ rfl (H.fn 31) (enters_of Tryd.func31 (by kernel_rfl) rfl) (by simp [e0, e16]) ((sub_of (zR4.mono (by omega)) (Sz.mono (Sz.of5b (by omega)) (by omega)) rfl _ _ w' p0.rd p16.rd).mono fun e w2 ⟨v, h1, h2, h3⟩ => ⟨v, h1, h3, h2.le (Nat.le_trans hbW H.bel.size)⟩)
  · refine StepT.q _ (by rfl) (by rfl) fun ρ w' H => ?_
    obtain ⟨v17, e17, p17⟩ := H.dep 17 119 (by kernel_rfl)
    have p17 : (Wh b (R4 + -(8 * B * B + A * A * A))) v17 w' := p17
    exact OpTo.call 29 #[v17, (Value.int IntKind.i64 2)] _ _ _ rfl (H.fn 29) (enters_of Tryd.func29 (by kernel_rfl) rfl) (by simp [e17, H.con]) ((times_of zR5 (by omega) HQ.out _ w' p17.rd).mono fun e w2 ⟨v, h1, h2, h3⟩ => ⟨v, h1, h3, h2.le (Nat.le_trans hbW H.bel.size)⟩)
  intro vs Wt hBt hDt
  have hV18 : (Wh b (dvQ A B x)) (vs 18) Wt := hDt.1 18 (by omega)
  clear hDt
  simp only [mergeS, Nat.reduceBEq, cond_true, cond_false, Nat.reduceAdd, List.drop_succ_cons, List.drop_zero]
  replace kC := kC.next hBt
  replace kx := kx.next hBt
  replace k2 := k2.next hBt
  replace k3 := k3.next hBt
  replace kG := kG.next hBt
  replace kT := kT.next hBt
  replace kU := kU.next hBt
  replace hb0 : Below b w _ := below_step hBt hbW hb0
  replace hbW := Nat.le_trans hbW hBt.size
  obtain ⟨lvU, evU, rvU, cvU⟩ := hV18.cell
  obtain ⟨slU, scU, rfl, _⟩ := id rvU.1
  simp only [evU]
  obtain ⟨lo, kr, _, _⟩ := id kU
  have x0 : Wt.cell? ⟨r14, 0, none⟩ = some (.bool (decide (R4 < 0))) := kr.cell 0
  have x1 : Wt.cell? ⟨r14, 1, none⟩ = some lo := kr.cell 1
  have x2 := kr.frozen 0
  have x3 := kr.frozen 1
  have x4 := kr.lt
  have kU9 : BlkW b r14 (dvQ A B x) ((Wt.setCell ⟨r14, 0, none⟩ (.bool (decide (dvQ A B x < 0)))).setCell ⟨r14, 1, none⟩ (.slice slU (dg (dvQ A B x).natAbs).length scU)) := BlkW.put kr rfl rvU cvU
  replace kx := kx.far (r' := r14) (by omega) kr (.bool (decide (dvQ A B x < 0))) (.slice slU (dg (dvQ A B x).natAbs).length scU)
  replace k2 := k2.far (r' := r14) (by omega) kr (.bool (decide (dvQ A B x < 0))) (.slice slU (dg (dvQ A B x).natAbs).length scU)
  replace k3 := k3.far (r' := r14) (by omega) kr (.bool (decide (dvQ A B x < 0))) (.slice slU (dg (dvQ A B x).natAbs).length scU)
  replace kG := kG.far (r' := r14) (by omega) kr (.bool (decide (dvQ A B x < 0))) (.slice slU (dg (dvQ A B x).natAbs).length scU)
  replace kT := kT.far (r' := r14) (by omega) kr (.bool (decide (dvQ A B x < 0))) (.slice slU (dg (dvQ A B x).natAbs).length scU)
  replace kC := (kC.far (p := ⟨r14, 0, none⟩) (by show b ≠ r14; omega) (.bool (decide (dvQ A B x < 0)))).far (p := ⟨r14, 1, none⟩) (by show b ≠ r14; omega) (.slice slU (dg (dvQ A B x).natAbs).length scU)
  replace hb0 : Below b w ((Wt.setCell ⟨r14, 0, none⟩ (.bool (decide (dvQ A B x < 0)))).setCell ⟨r14, 1, none⟩ (.slice slU (dg (dvQ A B x).natAbs).length scU)) := (hb0.setCell (by show b ≤ r14; omega) _).setCell (by show b ≤ r14; omega) _
  replace hbW : b ≤ ((Wt.setCell ⟨r14, 0, none⟩ (.bool (decide (dvQ A B x < 0)))).setCell ⟨r14, 1, none⟩ (.slice slU (dg (dvQ A B x).natAbs).length scU)).heap.size := by simpa [World.setCell] using hbW
  clear hV18 hBt evU rvU cvU kr
  go_upto_region 12 with (fail)
  generalize (World.setCell (World.setCell _ _ _) _ _) = W12 at *
  clear x0 x1 x2 x3 x4 kU
  have kU := kU9
  clear kU9
  refine wp_region_tab 6 [] [(0, 121), (1, 122), (2, 123), (3, 124), (4, 125), (5, 126)] [Wh b 0, Wh b 1, Wh b 1, Wh b (dvT A B x), Wh b (dvQ A B x), (fun v w => OwnsW w W12.heap.size b v [0, 1, 1, dvT A B x, dvQ A B x])] (by kernel_rfl) (by kernel_rfl) (by kernel_rfl) trivial ⟨Wh.closed _ _, Wh.closed _ _, Wh.closed _ _, Wh.closed _ _, Wh.closed _ _, fun v => OwnsW.closed W12.heap.size b v _, trivial⟩ ⟨?_, ?_, ?_, ?_, ?_, ?_, trivial⟩ ?_
  · refine StepT.q _ (by rfl) (by rfl) fun ρ w' H => ?_
    exact OpTo.call 26 #[(Value.int IntKind.i64 0)] _ _ _ rfl (H.fn 26) (enters_of Tryd.func26 (by kernel_rfl) rfl) (by simp [H.con]) ((c_bgOf 0 (by omega) w').mono fun e w2 ⟨v, h1, h2, h3⟩ => ⟨v, h1, h3, h2.le (Nat.le_trans hbW H.bel.size)⟩)
  · refine StepT.q _ (by rfl) (by rfl) fun ρ w' H => ?_
    exact OpTo.call 26 #[(Value.int IntKind.i64 1)] _ _ _ rfl (H.fn 26) (enters_of Tryd.func26 (by kernel_rfl) rfl) (by simp [H.con]) ((c_bgOf 1 (by omega) w').mono fun e w2 ⟨v, h1, h2, h3⟩ => ⟨v, h1, h3, h2.le (Nat.le_trans hbW H.bel.size)⟩)
  · refine StepT.q _ (by rfl) (by rfl) fun ρ w' H => ?_
    exact OpTo.call 26 #[(Value.int IntKind.i64 1)] _ _ _ rfl (H.fn 26) (enters_of Tryd.func26 (by kernel_rfl) rfl) (by simp [H.con]) ((c_bgOf 1 (by omega) w').mono fun e w2 ⟨v, h1, h2, h3⟩ => ⟨v, h1, h3, h2.le (Nat.le_trans hbW H.bel.size)⟩)
  · refine StepT.q _ (by rfl) (by rfl) fun ρ w' H => ?_
    have hx : ρ (.tmp 13) = .pointer (some ⟨r13, 0, none⟩) := H.bas 13 (by kernel_rfl); exact op_ldW _ rfl hx (kT.next H.bel)
  · refine StepT.q _ (by rfl) (by rfl) fun ρ w' H => ?_
    have hx : ρ (.tmp 14) = .pointer (some ⟨r14, 0, none⟩) := H.bas 14 (by kernel_rfl); exact op_ldW _ rfl hx (kU.next H.bel)
  · refine StepT.q _ (by rfl) (by rfl) fun ρ w' H => ?_
    obtain ⟨v0, e0, p0⟩ := H.dep 0 121 (by kernel_rfl)
    have p0 : (Wh b 0) v0 w' := p0
    obtain ⟨v1, e1, p1⟩ := H.dep 1 122 (by kernel_rfl)
    have p1 : (Wh b 1) v1 w' := p1
    obtain ⟨v2, e2, p2⟩ := H.dep 2 123 (by kernel_rfl)
    have p2 : (Wh b 1) v2 w' := p2
    obtain ⟨v3, e3, p3⟩ := H.dep 3 124 (by kernel_rfl)
    have p3 : (Wh b (dvT A B x)) v3 w' := p3
    obtain ⟨v4, e4, p4⟩ := H.dep 4 125 (by kernel_rfl)
    have p4 : (Wh b (dvQ A B x)) v4 w' := p4
    exact op_bo5 _ _ _ _ _ _ _ _ _ _ H.bel.size rfl (by rw [e0]; exact p0) (by rw [e1]; exact p1) (by rw [e2]; exact p2) (by rw [e3]; exact p3) (by rw [e4]; exact p4)
  intro vs Wt hBt hDt
  have hV5 : ((fun v w => OwnsW w W12.heap.size b v [0, 1, 1, dvT A B x, dvQ A B x])) (vs 5) Wt := hDt.1 5 (by omega)
  clear hDt
  simp only [mergeS, Nat.reduceBEq, cond_true, cond_false, Nat.reduceAdd, List.drop_succ_cons, List.drop_zero]
  have kGl := kG.lt
  replace kG := kG.next hBt
  replace hb0 : Below b w _ := below_step hBt hbW hb0
  replace hbW := Nat.le_trans hbW hBt.size
  obtain ⟨bd, hbd⟩ : ∃ bd, W12.heap.size = bd := ⟨_, rfl⟩
  have hbdW : bd ≤ Wt.heap.size := hbd ▸ hBt.size
  have hbd1 : r12 < bd := hbd ▸ kGl
  have hbd2 : b ≤ bd := by have := hr12b.out; omega
  clear hBt kT kU kGl kC kx k2 k3
  have hD : OwnsW Wt W12.heap.size b (vs 5) (dwL A B x 0) := hV5
  rw [hbd] at hD
  clear hV5 hbd
  generalize vs 5 = d0 at hD ⊢
  obtain ⟨g0, cap0, rfl, _, _⟩ := hD.addr (by rw [dwL_len]; omega)
  go_upto_region 14 with (fail)
  go_loopw [15, 16] (fun dv kk wr => ∃ (k g cap : Nat), kk = .int .i64 k ∧ dv = .slice (some ⟨g, 0, none⟩) k cap ∧ 5 ≤ k ∧ (k ≤ n + 1 ∨ k = 5) ∧ OwnsW wr bd b (.slice (some ⟨g, 0, none⟩) k cap) (dwL A B x (k - 5)) ∧ BlkW b r12 (dwG A B x) wr ∧ bd ≤ wr.heap.size ∧ Below b w wr) (fun _ kk _ => n + 1 - (intOf kk).toNat)
  case atStart => exact ⟨5, g0, cap0, rfl, by rw [dwL_len], by omega, .inr rfl, hD, kG, hbdW, hb0⟩
  case round =>
    clear hD kG hbdW hb0 hbW
    obtain ⟨k, g, cap, rfl, rfl, h5, hkn, hD, kG, hbdW, hb0⟩ := hrel
    have hbW : b ≤ wr.heap.size := by omega
    by_cases hlt : k ≤ n
    · have hlen : (dwL A B x (k - 5)).length = k := by rw [dwL_len]; omega
      have zE : ∀ i, Sz 3000 (eat (dwL A B x (k - 5)) i) := fun i => dw_sz hA hB hx (k - 5) (by omega) i
      have HX : Hid (dwL A B x (k + 1 - 5) = dwL A B x (k - 5) ++ [dwN (dwG A B x) (dwL A B x (k - 5)) k]) := by
        show _ = _
        rw [show k + 1 - 5 = (k - 5) + 1 by omega, dwL, show 5 + (k - 5) = k by omega]
      have zG : Sz 5 (dwG A B x) := (dv_bds hA hB hx).2.2
      have hgb := (hD.elt (by omega)).2.1
      have hgd := Lib.hid hgb
      have hg5 : g < wr.heap.size := (hD.elt (by omega)).2.2.1
      obtain ⟨xs, hxs⟩ : ∃ xs, dwL A B x (k - 5) = xs := ⟨_, rfl⟩
      rw [hxs] at hD hlen zE HX
      obtain ⟨Gv, hGv⟩ : ∃ Gv, dwG A B x = Gv := ⟨_, rfl⟩
      rw [hGv] at kG HX zG
      obtain ⟨lG, kG1, rG, cG⟩ := id kG
      have q0 : wr.cell? ⟨r12, 0, none⟩ = some (.bool (decide (Gv < 0))) := kG1.cell 0
      have q1 : wr.cell? ⟨r12, 1, none⟩ = some lG := kG1.cell 1
      have q2 := kG1.frozen 0
      have q3 := kG1.frozen 1
      have q4 := kG1.lt
      have HCL : Hid (Calls Tryd.prog 32 #[.slice (some ⟨g, 0, none⟩) k cap, .agg #[.bool (decide (Gv < 0)), lG], .int .i64 k] wr (WhP (dwN Gv xs k) wr)) := c_dpNext Gv xs k bd b (.slice (some ⟨g, 0, none⟩) k cap) (.agg #[.bool (decide (Gv < 0)), lG]) wr (by omega) hlen hD ⟨lG, rfl, rG⟩ zG zE
      have HXS := Lib.hid hxs
      have HGV := Lib.hid hGv
      have HL := Lib.hid hlen
      clear hxs hGv hgb zE zG kG1 rG cG hlen
      generalize hnn : dwN Gv xs k = Nn at HCL HX
      have HNN := Lib.hid hnn
      clear hnn
      go_upto_region 16 with (fail)
      go_wp2_with fail
      refine HCL.out.mono ?_
      rintro e w3 ⟨vN, rfl, hwh, hb3⟩
      obtain ⟨lN, rfl, rN, cN⟩ := hwh.cell
      have kG3 := kG.next hb3
      have hD3 := hD.next hb3
      have hb03 : Below b w w3 := below_step hb3 hbW hb0
      have hs3 := hb3.size
      have hVB : OwnsW (w3.alloc (.cells #[.bool (decide (Nn < 0)), lN] 31)) w3.heap.size b (.slice (some ⟨w3.heap.size, 0, none⟩) 1 1) [Nn] := ⟨[(decide (Nn < 0), lN)], OwnsQ.new w3 w3.heap.size [(decide (Nn < 0), lN)] (Nat.le_refl _) (by simp) (by simp), rfl, fun i h h' => by
        match i, h, h' with
        | 0, _, _ => exact ⟨rfl, (rN.le hbW).below ((Below.refl _ _).alloc (Nat.le_refl _) _)⟩⟩
      have hBa : Below w3.heap.size w3 (w3.alloc (.cells #[.bool (decide (Nn < 0)), lN] 31)) := (Below.refl _ _).alloc (Nat.le_refl _) _
      have kG4 := kG3.next hBa
      have hD4 := hD3.next hBa
      have hb04 : Below b w _ := below_step hBa (by omega) hb03
      have hbd4 : bd ≤ (w3.alloc (.cells #[.bool (decide (Nn < 0)), lN] 31)).heap.size := by simp; omega
      have hl4 : xs.length < 100000 := by rw [HL.out]; omega
      have hg3 : g ≠ w3.heap.size := by omega
      clear kG kG3 hD hD3 hb0 hb3 hb03 hwh rN cN q0 q1 q2 q3 q4 HCL hBa
      go_wp2_with (at_builtin; refine wpList_appW rfl _ _ rfl bd b w3.heap.size (.slice (some ⟨g, 0, none⟩) k cap) (.slice (some ⟨w3.heap.size, 0, none⟩) 1 1) xs Nn rfl rfl hD4 hVB hbd4 hl4 ?_; intro v9 W9 hD9 hO9 hF9)
      rw [← HX.out] at hD9
      have hl9 : (dwL A B x (k + 1 - 5)).length = k + 1 := by rw [dwL_len]; omega
      obtain ⟨g9, cap9, rfl, _, _⟩ := hD9.addr (by omega)
      rw [hl9] at hD9 ⊢
      have hgd0 : bd ≤ g := hgd.out
      have hG9 := hF9 _ _ kG4 (by simp [Value.ownBlock]; omega)
      have hb9 : Below b w W9 := hO9.belowGe hb04 (by omega) (by simp [Value.ownBlock]; omega)
      have hs9 := Nat.le_trans hbd4 hO9.size
      rw [← HGV.out] at hG9
      clear hl9 hO9 hF9 hD4 kG4 hVB hb04 hbd4
      go_wp2
      go_roundw
      case rel => exact ⟨k + 1, g9, cap9, by go_num, rfl, by omega, .inl (by omega), hD9, hG9, hs9, hb9⟩
      case measure => simp [intOf]; omega
    · go_wp2
      have eb := HBW.out
      subst eb
      refine bodyPost_ret (v := .slice (some ⟨g, 0, none⟩) k cap) (by simp [results, Tryd.results14, go_sem]) rfl ?_
      exact ⟨_, k - 5, rfl, by omega, by omega, hD.le hbd2 (Nat.le_refl _), hb0⟩
end Go.Proofs.YtmlfkceafkhlaaaDoor
