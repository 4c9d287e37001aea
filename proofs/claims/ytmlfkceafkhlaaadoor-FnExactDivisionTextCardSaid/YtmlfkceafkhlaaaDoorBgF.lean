/- Walks: differences of wholes (bgMinus, bgSub). -/
import Derived.Test.YtmlfkceafkhlaaaDoorBgE
namespace Go.Proofs.YtmlfkceafkhlaaaDoor
open Go.RowKit

set_option maxHeartbeats 1000000 in
set_option maxRecDepth 20000 in
theorem c_bgMinus (N : Int) (a : Value) (hN : (dg N.natAbs).length ≤ 100000) (w : World) (ha : WhR N a w) :
    Calls Tryd.prog 49 #[a] w (WhP (-N) w) := by
  obtain ⟨la, rfl, hra⟩ := ha
  have kA := (Blk.new w #[.bool (decide (N < 0)), la] 31).alloc (.cells #[.bool false, .slice none 0 0] 31)
  have kS := Blk.new (w.alloc (.cells #[.bool (decide (N < 0)), la] 31)) #[.bool false, .slice none 0 0] 31
  have hb0 : Below w.heap.size w ((w.alloc (.cells #[.bool (decide (N < 0)), la] 31)).alloc (.cells #[.bool false, .slice none 0 0] 31)) := ((Below.refl _ _).alloc (Nat.le_refl _) _).alloc (by simp) _
  simp only [World.size_alloc] at kS
  have HR1 := Lib.hid hra
  generalize hsa : decide (N < 0) = sa at *
  have HSA := Lib.hid hsa
  clear hsa
  obtain ⟨K, hK⟩ : ∃ K, -N = K := ⟨_, rfl⟩
  rw [hK]
  have hsz := hb0.size
  have hKn : K.natAbs = N.natAbs := by omega
  have hsK : (!sa) = decide (K < 0) ∨ K = 0 := by
    have := HSA.out
    by_cases h0 : K = 0
    · exact .inr h0
    · left
      cases sa <;> simp at this ⊢ <;> omega
  have HT := Lib.hid (fun W (hb : Below w.heap.size w W) => ((c_bgMake (!sa) la (dg N.natAbs) (by omega) W (HR1.out.below hb)).mono fun e w' h => h.whole (N := K) hsK (by rw [tr_low, hKn])))
  clear hsK hKn hK
  go_enter Tryd.func49, Tryd.ntmps49
  go_upto_region 1 with (fail)
  generalize (w.alloc _).alloc _ = W at *
  generalize hrs : w.heap.size + 1 = rs at *
  have a0 : W.cell? ⟨w.heap.size, 0, none⟩ = some (.bool sa) := kA.cell 0
  have a1 : W.cell? ⟨w.heap.size, 1, none⟩ = some la := kA.cell 1
  go_wp2_with fail
  refine (HT.out W hb0).mono ?_
  rintro e w1 ⟨v, rfl, hwh, hb1⟩
  obtain ⟨lv, rfl, ho⟩ := hwh
  obtain ⟨sl, scap, rfl, _⟩ := id ho.1
  have kS1 := kS.next hb1
  have c0 : w1.cell? ⟨rs, 0, none⟩ = some (.bool false) := kS1.cell 0
  have c1 : w1.cell? ⟨rs, 1, none⟩ = some (.slice none 0 0) := kS1.cell 1
  have z0 := kS1.frozen 0
  have z1 := kS1.frozen 1
  have hbb : Below w.heap.size w w1 := below_step hb1 hsz hb0
  have k9 := (kS1.set 0 (.bool (decide (K < 0)))).set 1 (.slice sl (dg K.natAbs).length scap)
  have hB9 : Below w.heap.size w ((w1.setCell ⟨rs, 0, none⟩ (.bool (decide (K < 0)))).setCell ⟨rs, 1, none⟩ (.slice sl (dg K.natAbs).length scap)) := (hbb.setCell (by simp; omega) _).setCell (by simp; omega) _
  have ho9 := ho.set2 (S := rs) kS.lt (.bool (decide (K < 0))) (.slice sl (dg K.natAbs).length scap)
  replace ho9 : RdO _ w.heap.size _ _ := ho9.le hsz
  clear HT ho
  go_wp2
  generalize (World.setCell (World.setCell _ _ _) _ _) = w9 at hB9 k9 ho9 ⊢
  have q0 : w9.cell? ⟨rs, 0, none⟩ = some (.bool (decide (K < 0))) := k9.cell 0
  have q1 : w9.cell? ⟨rs, 1, none⟩ = some (.slice sl (dg K.natAbs).length scap) := k9.cell 1
  refine bodyPost_ret (v := .agg #[.bool (decide (K < 0)), .slice sl (dg K.natAbs).length scap]) (by simp [results, Tryd.results49, go_sem, q0, q1]) rfl ?_
  exact ⟨_, rfl, ⟨_, rfl, ho9⟩, hB9⟩
theorem WhR.below0 {n : Nat} {N : Int} {v : Value} {w w1 : World} (h : WhR N v w) (hb : Below n w w1) (hn : n = w.heap.size := by rfl) : WhR N v w1 := h.below (hn ▸ hb)
set_option maxHeartbeats 1000000 in
set_option maxRecDepth 20000 in
theorem c_bgSub (M N : Int) (a b : Value) (hM : (dg M.natAbs).length ≤ 100000) (hN : (dg N.natAbs).length ≤ 100000) (w : World) (ha : WhR M a w) (hb : WhR N b w) :
    Calls Tryd.prog 31 #[a, b] w (WhP (M + -N) w) := by
  have HW1 := Lib.hid ha
  have HW2 := Lib.hid hb
  obtain ⟨la, rfl, _⟩ := ha
  obtain ⟨lb, rfl, _⟩ := hb
  have kA := ((Blk.new w #[.bool (decide (M < 0)), la] 31).alloc (.cells #[.bool (decide (N < 0)), lb] 31)).alloc (.cells #[.bool false, .slice none 0 0] 31)
  have kB := (Blk.new (w.alloc (.cells #[.bool (decide (M < 0)), la] 31)) #[.bool (decide (N < 0)), lb] 31).alloc (.cells #[.bool false, .slice none 0 0] 31)
  have kS := Blk.new ((w.alloc (.cells #[.bool (decide (M < 0)), la] 31)).alloc (.cells #[.bool (decide (N < 0)), lb] 31)) #[.bool false, .slice none 0 0] 31
  have hb0 : Below w.heap.size w (((w.alloc (.cells #[.bool (decide (M < 0)), la] 31)).alloc (.cells #[.bool (decide (N < 0)), lb] 31)).alloc (.cells #[.bool false, .slice none 0 0] 31)) := (((Below.refl _ _).alloc (Nat.le_refl _) _).alloc (by simp) _).alloc (by simp; omega) _
  simp only [World.size_alloc] at kB kS
  generalize decide (M < 0) = sa at *
  generalize decide (N < 0) = sb at *
  obtain ⟨K, hK⟩ : ∃ K, M + -N = K := ⟨_, rfl⟩
  rw [hK]
  have hN2 : (dg (-N).natAbs).length ≤ 100000 := by rw [Int.natAbs_neg]; exact hN
  have HK := Lib.hid hK
  clear hK
  have hsz := hb0.size
  go_enter Tryd.func31, Tryd.ntmps31
  go_upto_region 1 with (fail)
  generalize ((w.alloc _).alloc _).alloc _ = W at *
  generalize hrs : w.heap.size + 1 + 1 = rs at *
  have a0 : W.cell? ⟨w.heap.size, 0, none⟩ = some (.bool sa) := kA.cell 0
  have a1 : W.cell? ⟨w.heap.size, 1, none⟩ = some la := kA.cell 1
  have b0 : W.cell? ⟨w.heap.size + 1, 0, none⟩ = some (.bool sb) := kB.cell 0
  have b1 : W.cell? ⟨w.heap.size + 1, 1, none⟩ = some lb := kB.cell 1
  have kAl : w.heap.size < W.heap.size := kA.lt
  have kBl : w.heap.size + 1 < W.heap.size := kB.lt
  have kSl : rs < W.heap.size := kS.lt
  have hn1 : w.heap.size ∉ [rs] := by simp; omega
  have hn2 : w.heap.size + 1 ∉ [rs] := by simp; omega
  refine wp_region_cls [rs] (fun _ => false) (fun _ => True) (Blk rs #[.bool false, .slice none 0 0] 31) (by kernel_rfl) (kS) ?_
  apply wpAnyF_hd ⟨W, Over.refl _ _, kS⟩ [true, true] 3 (Blk.closed _ _ _) (fun _ _ => trivial) (by kernel_rfl) (by kernel_rfl) (by kernel_rfl) (by kernel_rfl) (by simp)
  · intro E hE hEN hEn; (repeat (first | (refine wpHL_take ?_; go_big_quiet_step (fail); refine wpQuiet_nil ?_) | refine wpHL_skip ?_)); exact wpHL_end rfl
  refine wpAnyF_ready [2] 2 (by kernel_rfl) (by kernel_rfl) (by simp) (AllF.cons ?_ AllF.nil)
  refine stepC_calle (some 7) (fun u => fun w' => Blk rs #[.bool false, .slice none 0 0] 31 w' ∧ Wh W.heap.size (-N) u w') (by rfl) (by rfl) (by rfl) (fun _ => by go_simp) (fun u => (Blk.closed _ _ _).and (Wh.closed _ _ _)) (fun w' hO hD => (c_bgMinus N _ hN _ (HW2.out.below0 (hO.belowGe (B := w.heap.size) hb0 hsz (by simp; omega)))).mono fun e w2 ⟨v, h1, h2, h3⟩ => ⟨v, h1, .of_below h3, hD.next h3, h2.le hO.size⟩) (fun u hne => ?_)
  simp only [Act.put, List.setIfInBounds_toArray, List.set_cons_succ, List.set_cons_zero]
  refine wpAnyF_ready [3] 1 (by kernel_rfl) (by kernel_rfl) (by simp) (AllF.cons ?_ AllF.nil)
  refine stepC_calle (some 8) (fun u2 => fun w' => Blk rs #[.bool false, .slice none 0 0] 31 w' ∧ Wh W.heap.size K u2 w') (by rfl) (by rfl) (by rfl) (fun _ => by go_simp) (fun u2 => (Blk.closed _ _ _).and (Wh.closed _ _ _)) (fun w' hO hD => (c_bgAdd M (-N) _ _ hM hN2 _ (HW1.out.below0 (hO.belowGe (B := w.heap.size) hb0 hsz (by simp; omega))) hD.2.rd).mono fun e w2 ⟨v, h1, h2, h3⟩ => ⟨v, h1, .of_below h3, hD.1.next h3, HK.out ▸ h2.le hO.size⟩) (fun u2 hne => ?_)
  simp only [Act.put, List.setIfInBounds_toArray, List.set_cons_succ, List.set_cons_zero]
  obtain ⟨w9, _, _, lv9, rfl, ho9⟩ := id hne; obtain ⟨sl, scap, rfl, _⟩ := id ho9.1
  refine wpAnyF_ready [4] 0 (by kernel_rfl) (by kernel_rfl) (by simp) (AllF.cons ?_ AllF.nil)
  refine stepC_store (v := .agg #[.bool (decide (K < 0)), .slice sl (dg K.natAbs).length scap]) (rs) (#[.bool false, .slice none 0 0]) (fun w' => Blk rs #[.bool (decide (K < 0)), .slice sl (dg K.natAbs).length scap] 31 w' ∧ RdO w' W.heap.size (.slice sl (dg K.natAbs).length scap) (dg K.natAbs)) (by rfl) (by rfl) (by rfl) (by rfl) (by rfl) (by rfl) (fun _ => by go_simp) (by rfl) (by simp [Value.cells, one1]) (.inr (by simp)) (fun _ hd => hd.1) ((Blk.closed _ _ _).and (fun _ _ h hb => ⟨h.1.below hb, fun hn => (h.2 hn).below hb⟩)) (fun w1 w2 hd ho hb => ⟨hb, hd.2.rdO.over ho (by simp; omega)⟩) (fun hne => ?_)
  try simp only [Value.cells]
  refine wpAnyF_done (by kernel_rfl) (fun Wz hOz hDz => NoPanic.normal ?_) _
  try dsimp only
  have hbz : Below w.heap.size w Wz := hOz.belowGe (B := w.heap.size) hb0 hsz (by simp; omega)
  have q0 : Wz.cell? ⟨rs, 0, none⟩ = some (.bool (decide (K < 0))) := hDz.1.cell 0
  have q1 : Wz.cell? ⟨rs, 1, none⟩ = some (.slice sl (dg K.natAbs).length scap) := hDz.1.cell 1
  have hRz : RdO Wz w.heap.size (.slice sl (dg K.natAbs).length scap) (dg K.natAbs) := hDz.2.le hsz
  clear hOz hDz hne ho9
  go_wp2
  refine bodyPost_ret (v := .agg #[.bool (decide (K < 0)), .slice sl (dg K.natAbs).length scap]) (by simp [results, Tryd.results31, go_sem, q0, q1]) rfl ?_
  exact ⟨_, rfl, ⟨_, rfl, hRz⟩, hbz⟩
end Go.Proofs.YtmlfkceafkhlaaaDoor
