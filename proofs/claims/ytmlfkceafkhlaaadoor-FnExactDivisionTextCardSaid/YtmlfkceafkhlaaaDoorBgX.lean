/- Walks: results of whole arithmetic (wholeResult). -/
import Derived.Test.YtmlfkceafkhlaaaDoorBgW
namespace Go.Proofs.YtmlfkceafkhlaaaDoor
open Go.RowKit

noncomputable def okW (K : Int) : Bool := decide ((dg K.natAbs).length ≤ 400)
def ResP (base : Nat) (K : Int) (w : World) (e : Ending) (w' : World) : Prop := ∃ v, e = .returned (.tuple #[v, .bool (okW K)]) ∧ Wh base (if okW K then K else 0) v w' ∧ Below w.heap.size w w'
set_option maxHeartbeats 1000000 in
set_option maxRecDepth 20000 in
theorem c_wholeResult (base : Nat) (K : Int) (a : Value) (hl : (dg K.natAbs).length ≤ 100000) (w : World) (ha : Wh base K a w) :
    Calls Tryd.prog 18 #[a] w (ResP base K w) := by
  obtain ⟨la, rfl, hr⟩ := ha
  obtain ⟨sl, scap, rfl, _⟩ := id hr.1
  have hb0 : Below w.heap.size w ((w.alloc (.cells #[.bool (decide (K < 0)), .slice sl (dg K.natAbs).length scap] 31)).alloc (.cells #[.bool false, .slice none 0 0] 31)) := ((Below.refl _ _).alloc (Nat.le_refl _) _).alloc (by simp) _
  have kA := (Blk.new w #[.bool (decide (K < 0)), .slice sl (dg K.natAbs).length scap] 31).alloc (.cells #[.bool false, .slice none 0 0] 31)
  have kS := Blk.new (w.alloc (.cells #[.bool (decide (K < 0)), .slice sl (dg K.natAbs).length scap] 31)) #[.bool false, .slice none 0 0] 31
  simp only [World.size_alloc] at kS
  have hR0 : Hid (RdO ((w.alloc (.cells #[.bool (decide (K < 0)), .slice sl (dg K.natAbs).length scap] 31)).alloc (.cells #[.bool false, .slice none 0 0] 31)) base (.slice sl (dg K.natAbs).length scap) (dg K.natAbs)) := ⟨hr.1.below hb0, fun hn => (hr.2 hn).below hb0⟩
  have hsz := hb0.size
  unfold ResP
  by_cases h : (dg K.natAbs).length ≤ 400
  · have hok : okW K = true := by simp [okW, h]
    rw [hok]
    have h4 : ¬ ((400 : Int) < ((dg K.natAbs).length : Int)) := by omega
    have HOK := Lib.hid hok
    clear hok
    go_enter Tryd.func18, Tryd.ntmps18
    go_upto_region 1 with (fail)
    generalize (w.alloc _).alloc _ = W at *
    have a0 : W.cell? ⟨w.heap.size, 0, none⟩ = some (.bool (decide (K < 0))) := kA.cell 0
    have a1 : W.cell? ⟨w.heap.size, 1, none⟩ = some (.slice sl (dg K.natAbs).length scap) := kA.cell 1
    have c0 : W.cell? ⟨w.heap.size + 1, 0, none⟩ = some (.bool false) := kS.cell 0
    have c1 : W.cell? ⟨w.heap.size + 1, 1, none⟩ = some (.slice none 0 0) := kS.cell 1
    have z0 := kS.frozen 0
    have z1 := kS.frozen 1
    have kSl := kS.lt
    have k9 := (kS.set 0 (.bool (decide (K < 0)))).set 1 (.slice sl (dg K.natAbs).length scap)
    have hB9 : Below w.heap.size w ((W.setCell ⟨w.heap.size + 1, 0, none⟩ (.bool (decide (K < 0)))).setCell ⟨w.heap.size + 1, 1, none⟩ (.slice sl (dg K.natAbs).length scap)) := (hb0.setCell (by simp) _).setCell (by simp) _
    have hW9 : Wh base K (.agg #[.bool (decide (K < 0)), .slice sl (dg K.natAbs).length scap]) ((W.setCell ⟨w.heap.size + 1, 0, none⟩ (.bool (decide (K < 0)))).setCell ⟨w.heap.size + 1, 1, none⟩ (.slice sl (dg K.natAbs).length scap)) := ⟨_, rfl, hr.1.below hB9, fun hn => (hr.2 hn).below hB9⟩
    go_wp2
    generalize (World.setCell (World.setCell _ _ _) _ _) = w9 at hB9 k9 hW9 ⊢
    have q0 : w9.cell? ⟨w.heap.size + 1, 0, none⟩ = some (.bool (decide (K < 0))) := k9.cell 0
    have q1 : w9.cell? ⟨w.heap.size + 1, 1, none⟩ = some (.slice sl (dg K.natAbs).length scap) := k9.cell 1
    refine bodyPost_ret (v := .tuple #[.agg #[.bool (decide (K < 0)), .slice sl (dg K.natAbs).length scap], .bool true]) (by simp [results, Tryd.results18, go_sem, q0, q1]) rfl ?_
    exact ⟨_, rfl, hW9, hB9⟩
  · have hok : okW K = false := by simp [okW]; omega
    rw [hok]
    have h4 : (400 : Int) < ((dg K.natAbs).length : Int) := by omega
    have HOK := Lib.hid hok
    clear hok
    go_enter Tryd.func18, Tryd.ntmps18
    go_upto_region 1 with (fail)
    generalize (w.alloc _).alloc _ = W at *
    have a0 : W.cell? ⟨w.heap.size, 0, none⟩ = some (.bool (decide (K < 0))) := kA.cell 0
    have a1 : W.cell? ⟨w.heap.size, 1, none⟩ = some (.slice sl (dg K.natAbs).length scap) := kA.cell 1
    have c0 : W.cell? ⟨w.heap.size + 1, 0, none⟩ = some (.bool false) := kS.cell 0
    have c1 : W.cell? ⟨w.heap.size + 1, 1, none⟩ = some (.slice none 0 0) := kS.cell 1
    have z0 := kS.frozen 0
    have z1 := kS.frozen 1
    have kSl := kS.lt
    have k9 := (kS.set 0 (.bool false)).set 1 (.slice none 0 0)
    have hB9 : Below w.heap.size w ((W.setCell ⟨w.heap.size + 1, 0, none⟩ (.bool false)).setCell ⟨w.heap.size + 1, 1, none⟩ (.slice none 0 0)) := (hb0.setCell (by simp) _).setCell (by simp) _
    go_wp2
    generalize (World.setCell (World.setCell _ _ _) _ _) = w9 at hB9 k9 ⊢
    have q0 : w9.cell? ⟨w.heap.size + 1, 0, none⟩ = some (.bool false) := k9.cell 0
    have q1 : w9.cell? ⟨w.heap.size + 1, 1, none⟩ = some (.slice none 0 0) := k9.cell 1
    refine bodyPost_ret (v := .tuple #[.agg #[.bool false, .slice none 0 0], .bool false]) (by simp [results, Tryd.results18, go_sem, q0, q1]) rfl ?_
    have hz : dg (Int.natAbs 0) = [] := dg_zero
    exact ⟨_, rfl, ⟨_, rfl, by rw [hz]; exact ⟨⟨none, 0, rfl, Nat.le_refl _, fun i hi => by simp at hi⟩, fun h => absurd rfl h⟩⟩, hB9⟩
end Go.Proofs.YtmlfkceafkhlaaaDoor
