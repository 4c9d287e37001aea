/- Rows: an argument that is a slice of steps, opened. -/
import Derived.Test.YtbnbkddcgokniaaDoorRow
import Derived.Deep.SlicePairs
import Derived.WideKeyArgs
namespace Go.Proofs.YtbnbkddcgokniaaDoor
open Go.ChangeShapes Go.WideShapes Go.ChangeAt Go.RowKit Go.Joins

/-- a slice value that came in and reads as a list of pairs -/
def RdP (w : World) (v : Value) (xs : List (Int × Int)) : Prop := ∃ (a : Option Addr) (cap : Nat), v = .slice a xs.length cap ∧ xs.length ≤ maxLen ∧
  ∀ i (_ : i < xs.length), ∃ g o, a = some ⟨g, o, none⟩ ∧ w.cell? ⟨g, o + i * 2, none⟩ = some (.int .i64 xs[i].1) ∧ w.cell? ⟨g, o + i * 2 + 1, none⟩ = some (.int .i64 xs[i].2) ∧ g < w.heap.size
theorem RdP.below {w w1 : World} {v : Value} {xs : List (Int × Int)} (h : RdP w v xs) (hb : Below w.heap.size w w1) : RdP w1 v xs := by
  obtain ⟨a, cap, hv, hm, hc⟩ := h
  refine ⟨a, cap, hv, hm, fun i hi => ?_⟩
  obtain ⟨g, o, ha, h1, h2, h3⟩ := hc i hi
  exact ⟨g, o, ha, (hb.cell (p := ⟨g, o + i * 2, none⟩) h3).trans h1, (hb.cell (p := ⟨g, o + i * 2 + 1, none⟩) h3).trans h2, Nat.lt_of_lt_of_le h3 hb.size⟩
theorem cells41 : Tryd.prog.cellsOf 41 = 2 := by kernel_rfl
theorem cells3 : Tryd.prog.cellsOf 3 = 1 := by kernel_rfl
section
variable {H : Type} {enc : TypeId × Value → H}
set_option maxRecDepth 100000 in
theorem open_steps {W : World} {r : Reach} {b0 : Nat} {v : Value} {d : DataW H} {ps : List MemPlace} (hval : Value.okWide Tryd.prog W r b0 22 v)
    (hd : DataW.Trod enc Tryd.prog W 0 (fun _ => true) true 22 v d ps) :
    ∃ xs : List (Int × Int), RdP W v xs ∧ ∀ c ∈ xs, (Lit.int .i64 c.1).wf = true ∧ (Lit.int .i64 c.2).wf = true := by
  obtain ⟨a0, len0, cap0, rfl⟩ := okWide_slice Tryd.underlying22 hval
  obtain ⟨fuel, hd⟩ := hd
  rcases Go.Deep.open_slice_pairs Tryd.underlying22 Tryd.underlying41 cells41 rfl rfl cells3 cells3 hd with ⟨hc, _⟩ | ⟨a, len, cap, m, k, V0, V1, D0, D1, P0, P1, hc, _, hl, hm, hmm, hx, hall⟩
  · simp only [Value.cells] at hc
    simp at hc
    obtain ⟨rfl, rfl, rfl⟩ := hc
    exact ⟨[], ⟨none, 0, rfl, by simp, fun i hi => by simp at hi⟩, fun c hc => by simp at hc⟩
  · simp only [Value.cells] at hc
    simp at hc
    obtain ⟨rfl, rfl, rfl⟩ := hc
    simp only [if_true] at hmm
    subst hmm
    have each : ∀ i, i < len0 → ∃ q : Int × Int, V0 i = .int .i64 q.1 ∧ V1 i = .int .i64 q.2 ∧ (Lit.int .i64 q.1).wf = true ∧ (Lit.int .i64 q.2).wf = true := by
      intro i hi
      obtain ⟨x, h1, _, w1⟩ := DataW.trod_int Tryd.underlying3 (hall i (by omega)).2.2.1
      obtain ⟨y, h2, _, w2⟩ := DataW.trod_int Tryd.underlying3 (hall i (by omega)).2.2.2
      simp only [List.cons.injEq, and_true] at h1 h2
      exact ⟨(x, y), h1, h2, w1, w2⟩
    obtain ⟨q, hq⟩ := Go.Deep.choose_lt each
    refine ⟨(List.range len0).map q, ⟨some a, m, by simp, by simp; omega, fun i hi => ?_⟩, fun c hc => ?_⟩
    · have hi' : i < len0 := by simpa using hi
      obtain ⟨g, o, spot⟩ := a
      have hspot : spot = none := by simpa [Addr.add] using World.cell?_spot (hall 0 (by omega)).1
      subst hspot
      have c0 := (hall i (by omega)).1
      have c1 := (hall i (by omega)).2.1
      rw [(hq i hi').1] at c0
      rw [(hq i hi').2.1] at c1
      have e0 : (⟨g, o, none⟩ : Addr).add (i * 2) = ⟨g, o + i * 2, none⟩ := by unfold Addr.add; split <;> simp_all
      have e1 : (⟨g, o, none⟩ : Addr).add (i * 2 + 1) = ⟨g, o + i * 2 + 1, none⟩ := by unfold Addr.add; split <;> simp_all [Nat.add_assoc]
      rw [e0] at c0
      rw [e1] at c1
      refine ⟨g, o, rfl, by simpa using c0, by simpa using c1, ?_⟩
      rcases Nat.lt_or_ge g W.heap.size with h | h
      · exact h
      · simp [World.cell?, Array.getElem?_eq_none h] at c0
    · obtain ⟨i, hi, rfl⟩ := List.mem_map.1 hc
      exact (hq i (List.mem_range.1 hi)).2.2
end
end Go.Proofs.YtbnbkddcgokniaaDoor
