/- Walks: products of lists of wholes (productWholes). -/
import Derived.Test.YtmlfkceafkhlaaaDoorBgV
namespace Go.Proofs.YtmlfkceafkhlaaaDoor
open Go.RowKit

theorem hP8 {Ns : List Int} (h : Hid (∀ k, k ≤ Ns.length → (dg (pr (Ns.take k)).natAbs).length ≤ 40000)) (k : Nat) (hk : k ≤ Ns.length) : (dg (pr (Ns.take k)).natAbs).length ≤ 40000 := h.out k hk
set_option maxHeartbeats 2000000 in
set_option maxRecDepth 20000 in
theorem c_productWholes (Ns : List Int) (v : Value) (hNl : Ns.length ≤ 1000) (hN : ∀ i (h : i < Ns.length), (dg Ns[i].natAbs).length ≤ 40000) (hP : ∀ k, k ≤ Ns.length → (dg (pr (Ns.take k)).natAbs).length ≤ 40000) (w : World) (hv : RdWs w v Ns) :
    Calls Tryd.prog 36 #[v] w (WhP (pr Ns) w) := by
  have HN := Lib.hid hN
  have HP := Lib.hid hP
  have HV := Lib.hid hv
  obtain ⟨a, cap, rfl, hc⟩ := hv
  have HC := Lib.hid hc
  clear hN hP hc
  go_enter Tryd.func36, Tryd.ntmps36
  have kS := Blk.new w #[.bool false, .slice none 0 0] 31
  have hb0 : Below w.heap.size w (w.alloc (.cells #[.bool false, .slice none 0 0] 31)) := (Below.refl _ _).alloc (Nat.le_refl _) _
  have hW0 : (w.alloc (.cells #[.bool false, .slice none 0 0] 31)).heap.size = w.heap.size + 1 := by simp
  go_upto_region 1 with (fail)
  generalize w.alloc _ = W0 at *
  go_wp2_with fail
  refine (c_wholeOf 1 (by omega) W0).mono ?_
  rintro e w1 ⟨v, rfl, hwh, hb1⟩
  obtain ⟨lv, rfl, ho1⟩ := hwh
  obtain ⟨s1, c1, rfl, _⟩ := id ho1.1
  have hW1 := hb1.size
  have HRC : Hid (w.heap.size + 1 ≤ w1.heap.size) := by show _ ≤ _; omega
  have kS1 := (kS.next hb1).alloc (.cells #[.bool false, .slice s1 (dg 1).length c1] 31)
  have kC := Blk.new w1 #[.bool false, .slice s1 (dg 1).length c1] 31
  have hbe : Below w1.heap.size w1 (w1.alloc (.cells #[.bool false, .slice s1 (dg 1).length c1] 31)) := (Below.refl _ _).alloc (Nat.le_refl _) _
  have hb2 : Below w.heap.size w (w1.alloc (.cells #[.bool false, .slice s1 (dg 1).length c1] 31)) := (below_step hb1 (by omega) hb0).alloc (by omega) _
  have HO1 : Hid (RdO (w1.alloc (.cells #[.bool false, .slice s1 (dg 1).length c1] 31)) (w.heap.size + 1) (.slice s1 (dg 1).length c1) (dg 1)) := ⟨ho1.1.below hbe, fun hn => ((ho1.2 hn).below hbe).le (by omega)⟩
  clear ho1 hb0 hb1 hbe kS
  go_upto_region 3 with (fail)
  generalize w1.alloc _ = W at *
  generalize hrc : w1.heap.size = rc at *
  clear hrc
  go_loopw [9] (fun iv wr => ∃ (k : Nat) (V : Int) (sl : Option Addr) (scap : Nat), k ≤ Ns.length ∧ iv = .int .i64 k ∧ Hid (V = pr (Ns.take k)) ∧ Blk w.heap.size #[.bool false, .slice none 0 0] 31 wr ∧ Blk rc #[.bool (decide (V < 0)), .slice sl (dg V.natAbs).length scap] 31 wr ∧ Hid (RdO wr (w.heap.size + 1) (.slice sl (dg V.natAbs).length scap) (dg V.natAbs)) ∧ Below w.heap.size w wr) (fun iv _ => Ns.length - (intOf iv).toNat)
  case atStart => exact ⟨0, 1, s1, c1, by omega, rfl, rfl, kS1, kC, HO1, hb2⟩
  case round =>
    clear kS1 kC hb2 HO1
    obtain ⟨k, V, sl, scap, hk, rfl, hV, kS, kC, hR, hb⟩ := hrel
    have hsz := hb.size
    have hCl : rc < wr.heap.size := kC.lt
    by_cases hlt : k < Ns.length
    · obtain ⟨g, o, lv, rfl, q0, q1, hr, hg⟩ := HC.out k hlt
      have hVn := hP8 HP k hk
      have hyn := HN.out k hlt
      have hV2 : Hid (V * Ns[k] = pr (Ns.take (k + 1))) := by
        show _ = _
        rw [List.take_succ_eq_append_getElem hlt, pr_snoc, ← hV.out]
      rw [← hV.out] at hVn
      generalize Ns[k] = y at q0 q1 hr hyn hV2
      have d0 := (hb.cell (p := ⟨g, o + k * 2, none⟩) hg).trans q0
      have d1 := (hb.cell (p := ⟨g, o + k * 2 + 1, none⟩) hg).trans q1
      obtain ⟨s2, c2, rfl, _⟩ := id hr
      have HRY := Lib.hid hr
      generalize hby : decide (y < 0) = sy at d0
      have HBY := Lib.hid hby
      clear q0 q1 hr hby
      go_upto_region 5 with (fail)
      have kE := Blk.new wr #[.bool sy, .slice s2 (dg y.natAbs).length c2] 31
      have kC1 := kC.alloc (.cells #[.bool sy, .slice s2 (dg y.natAbs).length c2] 31)
      have kS1 := kS.alloc (.cells #[.bool sy, .slice s2 (dg y.natAbs).length c2] 31)
      have hbe : Below wr.heap.size wr (wr.alloc (.cells #[.bool sy, .slice s2 (dg y.natAbs).length c2] 31)) := (Below.refl _ _).alloc (Nat.le_refl _) _
      have hb1 : Below w.heap.size w (wr.alloc (.cells #[.bool sy, .slice s2 (dg y.natAbs).length c2] 31)) := hb.alloc hsz _
      have HR1 := Lib.hid (hR.out.1.below hbe)
      have HR2 := Lib.hid (HRY.out.below hb1)
      have hW5 : wr.heap.size < (wr.alloc (.cells #[.bool sy, .slice s2 (dg y.natAbs).length c2] 31)).heap.size := by simp
      clear d0 d1 kC kS
      generalize wr.alloc _ = W5 at *
      have e0 : W5.cell? ⟨wr.heap.size, 0, none⟩ = some (.bool sy) := kE.cell 0
      have e1 : W5.cell? ⟨wr.heap.size, 1, none⟩ = some (.slice s2 (dg y.natAbs).length c2) := kE.cell 1
      have x0 : W5.cell? ⟨rc, 0, none⟩ = some (.bool (decide (V < 0))) := kC1.cell 0
      have x1 : W5.cell? ⟨rc, 1, none⟩ = some (.slice sl (dg V.natAbs).length scap) := kC1.cell 1
      go_wp2_with fail
      refine (c_mulWholes V y _ _ hVn hyn W5 ⟨_, rfl, HR1.out⟩ ⟨_, by rw [HBY.out], HR2.out⟩).mono ?_
      rintro e w1 ⟨v, rfl, hwh, hb2⟩
      obtain ⟨lv, rfl, ho9⟩ := hwh
      obtain ⟨s9, c9, rfl, _⟩ := id ho9.1
      have kC2 := kC1.next hb2
      have kS2 := kS1.next hb2
      clear e0 e1 x0 x1
      have x0 : w1.cell? ⟨rc, 0, none⟩ = some (.bool (decide (V < 0))) := kC2.cell 0
      have x1 : w1.cell? ⟨rc, 1, none⟩ = some (.slice sl (dg V.natAbs).length scap) := kC2.cell 1
      have z0 := kC2.frozen 0
      have z1 := kC2.frozen 1
      have hb3 : Below w.heap.size w w1 := below_step hb2 hb1.size hb1
      have k9 := (kC2.set 0 (.bool (decide (V * y < 0)))).set 1 (.slice s9 (dg (V * y).natAbs).length c9)
      have hr9 := HRC.out
      have hne9 : rc ≠ w.heap.size := by omega
      have hle9 : w.heap.size ≤ rc := by omega
      have kS9 := (kS2.other (p := ⟨rc, 0, none⟩) hne9 (.bool (decide (V * y < 0)))).other (p := ⟨rc, 1, none⟩) hne9 (.slice s9 (dg (V * y).natAbs).length c9)
      have hB9 : Below w.heap.size w ((w1.setCell ⟨rc, 0, none⟩ (.bool (decide (V * y < 0)))).setCell ⟨rc, 1, none⟩ (.slice s9 (dg (V * y).natAbs).length c9)) := (hb3.setCell hle9 _).setCell hle9 _
      have HO9 := Lib.hid ((ho9.set2 (S := rc) (by omega) (.bool (decide (V * y < 0))) (.slice s9 (dg (V * y).natAbs).length c9)).le (base' := w.heap.size + 1) (by omega))
      clear ho9 hR HR1 HR2 hr9
      go_wp2
      go_roundw
      case rel => exact ⟨k + 1, V * y, s9, c9, by omega, by go_num, hV2, kS9, k9, HO9, hB9⟩
      case measure => simp [intOf]; omega
    · obtain rfl : k = Ns.length := by omega
      have hVe := hV.out
      rw [List.take_length] at hVe
      have c0 : wr.cell? ⟨rc, 0, none⟩ = some (.bool (decide (V < 0))) := kC.cell 0
      have c1 : wr.cell? ⟨rc, 1, none⟩ = some (.slice sl (dg V.natAbs).length scap) := kC.cell 1
      have s0 : wr.cell? ⟨w.heap.size, 0, none⟩ = some (.bool false) := kS.cell 0
      have s1 : wr.cell? ⟨w.heap.size, 1, none⟩ = some (.slice none 0 0) := kS.cell 1
      have z0 := kS.frozen 0
      have z1 := kS.frozen 1
      have hSl : w.heap.size < wr.heap.size := kS.lt
      have HVE := Lib.hid hVe
      have k9 := (kS.set 0 (.bool (decide (V < 0)))).set 1 (.slice sl (dg V.natAbs).length scap)
      have hB9 : Below w.heap.size w ((wr.setCell ⟨w.heap.size, 0, none⟩ (.bool (decide (V < 0)))).setCell ⟨w.heap.size, 1, none⟩ (.slice sl (dg V.natAbs).length scap)) := (hb.setCell (Nat.le_refl _) _).setCell (Nat.le_refl _) _
      have ho8 := (hR.out.set2 (S := w.heap.size) (by omega) (.bool (decide (V < 0))) (.slice sl (dg V.natAbs).length scap)).le (base' := w.heap.size) (by omega)
      clear hR hVe hV
      go_wp2
      generalize (World.setCell (World.setCell _ _ _) _ _) = w9 at hB9 k9 ho8 ⊢
      have q0 : w9.cell? ⟨w.heap.size, 0, none⟩ = some (.bool (decide (V < 0))) := k9.cell 0
      have q1 : w9.cell? ⟨w.heap.size, 1, none⟩ = some (.slice sl (dg V.natAbs).length scap) := k9.cell 1
      refine bodyPost_ret (v := .agg #[.bool (decide (V < 0)), .slice sl (dg V.natAbs).length scap]) (by simp [results, Tryd.results36, go_sem, q0, q1]) rfl ?_
      rw [← HVE.out]
      exact ⟨_, rfl, ⟨_, rfl, ho8⟩, hB9⟩
end Go.Proofs.YtmlfkceafkhlaaaDoor
