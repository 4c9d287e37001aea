/- Rows: an argument that is a slice of bytes, opened. -/
import Derived.Test.YtcnfjapoopdiaaaRow
import Derived.Test.YtcnfjapoopdiaaaDraw
import Derived.ChangeSlices
import Derived.WideKeyArgs
namespace Go.Proofs.Ytcnfjapoopdiaaa
open Go.ChangeShapes Go.WideShapes Go.ChangeAt Go.RowKit Go.Joins

theorem cellsU8 : Try.prog.cellsOf 5 = 1 := by kernel_rfl
section
variable {H : Type} {enc : TypeId × Value → H}
set_option maxRecDepth 100000 in
theorem open_bytes {W : World} {r : Reach} {b0 : Nat} {v : Value} {d : DataW H} {ps : List MemPlace} (hval : Value.okWide Try.prog W r b0 34 v)
    (hd : DataW.Trod enc Try.prog W 0 (fun _ => true) true 34 v d ps) : ∃ xs : List Int, RdB W W.heap.size v xs := by
  obtain ⟨a0, len0, cap0, rfl⟩ := okWide_slice Try.underlying34 hval
  obtain ⟨fuel, hd⟩ := hd
  rcases open_ints Try.underlying34 Try.underlying5 cellsU8 hd with ⟨hc, _⟩ | ⟨a, len, cap, zs, hc, _, hl, hm, hz, _, hcell, hwz⟩
  · simp only [Value.cells] at hc
    simp at hc
    obtain ⟨rfl, rfl, rfl⟩ := hc
    exact ⟨[], none, 0, rfl, by simp, fun i hi => by simp at hi⟩
  · simp only [Value.cells] at hc
    simp at hc
    obtain ⟨rfl, rfl, rfl⟩ := hc
    simp only [if_true] at hz
    have hlen : (zs.take len0).length = len0 := by simp; omega
    refine ⟨zs.take len0, some a, cap0, by rw [hlen], by rw [hlen]; omega, fun i hi => ?_⟩
    rw [hlen] at hi
    obtain ⟨g, o, spot⟩ := a
    have hspot : spot = none := by simpa [Addr.add] using World.cell?_spot (hcell 0 (by omega))
    subst hspot
    have c0 := hcell i (by omega)
    have e0 : (⟨g, o, none⟩ : Addr).add i = ⟨g, o + i, none⟩ := by unfold Addr.add; split <;> simp_all
    rw [e0] at c0
    have ez : zs.getD i 0 = (zs.take len0)[i]'(by omega) := by
      rw [List.getElem_take]; simp [List.getD, List.getElem?_eq_getElem (show i < zs.length by omega)]
    rw [ez] at c0
    have hb := bounds_u8 (hwz _ (List.mem_of_mem_take (List.getElem_mem (show i < (zs.take len0).length by omega))))
    refine ⟨g, o, rfl, c0, hb.1, hb.2, ?_⟩
    rcases Nat.lt_or_ge g W.heap.size with h | h
    · exact h
    · simp [World.cell?, Array.getElem?_eq_none h] at c0
end
end Go.Proofs.Ytcnfjapoopdiaaa
