/- Walks: products of wholes with numbers (bgTimes). -/
import Derived.Test.YtmlfkceafkhlaaaDoorBgS
namespace Go.Proofs.YtmlfkceafkhlaaaDoor
open Go.RowKit

set_option maxHeartbeats 1000000 in
set_option maxRecDepth 20000 in
theorem c_bgTimes (M n : Int) (a : Value) (hM : (dg M.natAbs).length ≤ 40000) (hn : -1000000000000000000 ≤ n ∧ n ≤ 1000000000000000000) (w : World) (ha : WhR M a w) :
    Calls Tryd.prog 29 #[a, .int .i64 n] w (WhP (M * n) w) := by
  have HW1 := Lib.hid ha
  have hlen : (dg n.natAbs).length ≤ 5 := dg_len (by omega)
  obtain ⟨la, rfl, _⟩ := ha
  have kA := (Blk.new w #[.bool (decide (M < 0)), la] 31).alloc (.cells #[.bool false, .slice none 0 0] 31)
  have kS := Blk.new (w.alloc (.cells #[.bool (decide (M < 0)), la] 31)) #[.bool false, .slice none 0 0] 31
  have hb0 : Below w.heap.size w ((w.alloc (.cells #[.bool (decide (M < 0)), la] 31)).alloc (.cells #[.bool false, .slice none 0 0] 31)) := ((Below.refl _ _).alloc (Nat.le_refl _) _).alloc (by simp) _
  simp only [World.size_alloc] at kS
  generalize decide (M < 0) = sa at *
  obtain ⟨K, hK⟩ : ∃ K, M * n = K := ⟨_, rfl⟩
  rw [hK]
  have HK := Lib.hid hK
  clear hK
  have HN := Lib.hid (fun w => c_bgOf n hn w)
  have hsz := hb0.size
  go_enter Tryd.func29, Tryd.ntmps29
  go_upto_region 1 with (fail)
  generalize (w.alloc _).alloc _ = W at *
  generalize hrs : w.heap.size + 1 = rs at *
  have a0 : W.cell? ⟨w.heap.size, 0, none⟩ = some (.bool sa) := kA.cell 0
  have a1 : W.cell? ⟨w.heap.size, 1, none⟩ = some la := kA.cell 1
  have kAl : w.heap.size < W.heap.size := kA.lt
  have kSl : rs < W.heap.size := kS.lt
  have hn1 : w.heap.size ∉ [rs] := by simp; omega
  refine wp_region_cls [rs] (fun _ => false) (fun _ => True) (Blk rs #[.bool false, .slice none 0 0] 31) (by kernel_rfl) (kS) ?_
  apply wpAnyF_hd ⟨W, Over.refl _ _, kS⟩ [true, true] 3 (Blk.closed _ _ _) (fun _ _ => trivial) (by kernel_rfl) (by kernel_rfl) (by kernel_rfl) (by kernel_rfl) (by simp)
  · intro E hE hEN hEn; (repeat (first | (refine wpHL_take ?_; go_big_quiet_step (fail); refine wpQuiet_nil ?_) | refine wpHL_skip ?_)); exact wpHL_end rfl
  refine wpAnyF_ready [2] 2 (by kernel_rfl) (by kernel_rfl) (by simp) (AllF.cons ?_ AllF.nil)
  refine stepC_calle (some 7) (fun u => fun w' => Blk rs #[.bool false, .slice none 0 0] 31 w' ∧ Wh W.heap.size n u w') (by rfl) (by rfl) (by rfl) (fun _ => by go_simp) (fun u => (Blk.closed _ _ _).and (Wh.closed _ _ _)) (fun w' hO hD => (HN.out _).mono fun e w2 ⟨v, h1, h2, h3⟩ => ⟨v, h1, .of_below h3, hD.next h3, h2.le hO.size⟩) (fun u hne => ?_)
  simp only [Act.put, List.setIfInBounds_toArray, List.set_cons_succ, List.set_cons_zero]
  refine wpAnyF_ready [3] 1 (by kernel_rfl) (by kernel_rfl) (by simp) (AllF.cons ?_ AllF.nil)
  refine stepC_calle (some 8) (fun u2 => fun w' => Blk rs #[.bool false, .slice none 0 0] 31 w' ∧ Wh W.heap.size K u2 w') (by rfl) (by rfl) (by rfl) (fun _ => by go_simp) (fun u2 => (Blk.closed _ _ _).and (Wh.closed _ _ _)) (fun w' hO hD => (c_bgMul M n _ _ hM (by omega) _ (HW1.out.below0 (hO.belowGe (B := w.heap.size) hb0 hsz (by simp; omega))) hD.2.rd).mono fun e w2 ⟨v, h1, h2, h3⟩ => ⟨v, h1, .of_below h3, hD.1.next h3, HK.out ▸ h2.le hO.size⟩) (fun u2 hne => ?_)
  simp only [Act.put, List.setIfInBounds_toArray, List.set_cons_succ, List.set_cons_zero]
  obtain ⟨w9, _, _, lv9, rfl, ho9⟩ := id hne; obtain ⟨sl, scap, rfl, _⟩ := id ho9.1
  refine wpAnyF_ready [4] 0 (by kernel_rfl) (by kernel_rfl) (by simp) (AllF.cons ?_ AllF.nil)
  refine stepC_store (v := .agg #[.bool (decide (K < 0)), .slice sl (dg K.natAbs).length scap]) (rs) (#[.bool false, .slice none 0 0]) (fun w' => Blk rs #[.bool (decide (K < 0)), .slice sl (dg K.natAbs).length scap] 31 w' ∧ RdO w' W.heap.size (.slice sl (dg K.natAbs).length scap) (dg K.natAbs)) (by rfl) (by rfl) (by rfl) (by rfl) (by rfl) (by rfl) (fun _ => by go_simp) (by rfl) (by simp [Value.cells, one1]) (.inr (by simp)) (fun _ hd => hd.1) ((Blk.closed _ _ _).and (fun _ _ h hb => ⟨h.1.below hb, fun hn => (h.2 hn).below hb⟩)) (fun w1 w2 hd ho hb => ⟨hb, hd.2.rdO.over ho (by simp; omega)⟩) (fun hne => ?_)
  try simp only [Value.cells]
  refine wpAnyF_done (by kernel_rfl) (fun Wz hOz hDz => NoPanic.normal ?_) _
  try dsimp only
  have hbz : Below w.heap.size w Wz := hOz.belowGe (B := w.heap.size) hb0 hsz (by simp; omega)
  have q0 : Wz.cell? ⟨rs, 0, none⟩ = some (.bool (decide (K < 0))) := hDz.1.cell 0
  have q1 : Wz.cell? ⟨rs, 1, none⟩ = some (.slice sl (dg K.natAbs).length scap) := hDz.1.cell 1
  have hRz : RdO Wz w.heap.size (.slice sl (dg K.natAbs).length scap) (dg K.natAbs) := hDz.2.le hsz
  clear hOz hDz hne ho9
  go_wp2
  refine bodyPost_ret (v := .agg #[.bool (decide (K < 0)), .slice sl (dg K.natAbs).length scap]) (by simp [results, Tryd.results29, go_sem, q0, q1]) rfl ?_
  exact ⟨_, rfl, ⟨_, rfl, hRz⟩, hbz⟩
end Go.Proofs.YtmlfkceafkhlaaaDoor
