/- Walks: slices.SortFunc by the order of curves, slices.Compact. -/
import Derived.Test.YtilgeeaobdebhaaCpl
import Derived.Test.YtilgeeaobdebhaaDel
import Derived.Test.YtilgeeaobdebhaaShelf
namespace Go.Proofs.Ytilgeeaobdebhaa
open Go.RowKit Go.Sort Go.Proofs

def encC (x : Int × Int) : List Value := [.int .i64 x.1, .int .i64 x.2]
theorem swoC : SWO (ltOf cmpC) where
  irrefl x := by unfold ltOf; have := cmpC_lt (x := x) (y := x); simp only [decide_eq_false_iff_not]; omega
  trans x y z h1 h2 := by
    unfold ltOf at *
    simp only [decide_eq_true_eq] at *
    rw [cmpC_lt] at *
    omega
  ntrans x y z h1 h2 := by
    unfold ltOf at *
    simp only [decide_eq_false_iff_not] at *
    rw [cmpC_lt] at *
    omega
theorem flat_eq (L : List (Int × Int)) : (flatK encC 2 L.toArray).toList = cellsP L := by
  apply List.ext_getElem?
  intro t
  by_cases ht : t < L.length * 2
  · have h1 : (flatK encC 2 L.toArray).toList[t]? = some ((encC L.toArray[t / 2]!)[t % 2]!) := by
      unfold flatK
      rw [Array.getElem?_toList]
      simp [ht]
    rw [h1]
    have hi : t / 2 < L.length := by omega
    have hat : L.toArray[t / 2]! = L[t / 2] := by simp [hi]
    rw [hat]
    obtain ⟨g1, g2⟩ := cellsP_get L (t / 2) hi
    rcases Nat.mod_two_eq_zero_or_one t with hm | hm
    · rw [show t / 2 * 2 = t by omega] at g1
      rw [g1, hm]; rfl
    · rw [show t / 2 * 2 + 1 = t by omega] at g2
      rw [g2, hm]; rfl
  · rw [List.getElem?_eq_none, List.getElem?_eq_none]
    · rw [cellsP_length]; omega
    · simp [size_flatK]; omega
theorem put_take (F : List Value) (c : Array Value) (h : F.length ≤ c.size) : (putCells id 0 F.toArray c).toList.take F.length = F := by
  apply List.ext_getElem?
  intro t
  by_cases ht : t < F.length
  · rw [List.getElem?_take_of_lt ht, Array.getElem?_toList]
    unfold putCells
    simp [ht, show t < c.size by omega]
  · rw [List.getElem?_eq_none, List.getElem?_eq_none]
    · omega
    · simp; omega
theorem putC_size (F : Array Value) (c : Array Value) : (putCells id 0 F c).size = c.size := by simp [putCells]
theorem sort_heap (w : World) (g n : Nat) (d : Array (Int × Int)) (os : Array Obj) {cur : Array Value} {e : TypeId} {fr : Nat × Nat} (h : w.heap[g]? = some (.cells cur e fr)) :
    (sortWorldK encC 2 w g 0 n d os).heap[g]? = some (.cells (putCells id 0 (flatK encC 2 d) cur) e fr) := by
  have hg : g < w.heap.size := (Array.getElem?_eq_some_iff.1 h).1
  show ((w.heap.modify g (onCells (putCells id 0 (flatK encC 2 d)))) ++ os)[g]? = _
  rw [Array.getElem?_append_left (by simpa using hg), Array.getElem?_modify, if_pos rfl, h]
  rfl
theorem sort_grown (w : World) (g n : Nat) (d : Array (Int × Int)) (os : Array Obj) : w.grownBy (sortWorldK encC 2 w g 0 n d os) (some g) :=
  ⟨rfl, rfl, rfl, by show w.heap.size ≤ ((w.heap.modify g _) ++ os).size; simp, fun k hk hne => by
    show ((w.heap.modify g (onCells (putCells id 0 (flatK encC 2 d)))) ++ os)[k]? = _
    rw [Array.getElem?_append_left (by simpa using hk), Array.getElem?_modify, if_neg (fun e => hne (by rw [e]))]⟩
set_option maxHeartbeats 1000000 in
theorem c_sortC (base : Nat) (v : Value) (L : List (Int × Int)) (hL : 1 ≤ L.length ∧ L.length ≤ 100000) (w : World) (hown : OwnsC w base v L) :
    Calls Try.prog 78 #[v, .func (.func 79) #[] #[]] w fun e w' => e = .returned (.tuple #[]) ∧ OwnsC w' base v (stS L) ∧ w.grownBy w' v.ownBlock := by
  rcases hown.2 with ⟨_, h0⟩ | ⟨g, cap, cur, rfl, hg, hh, hnc, hcm, hcs, ht⟩
  · omega
  · have hH : HoldsK encC 2 w g 0 L.toArray := by
      intro j hj
      obtain ⟨a, cap', hv, hf⟩ := OwnsP.form hown
      have hj' : j < L.length * 2 := by simpa [size_flatK] using hj
      obtain ⟨g', e1, q1, q2, q3, _⟩ := hf (j / 2) (by omega)
      simp only [Value.slice.injEq] at hv
      rw [← hv.1] at e1
      obtain rfl : g = g' := by simpa using e1
      refine ⟨?_, q3 _⟩
      have hfl : (flatK encC 2 L.toArray)[j]! = (encC L.toArray[j / 2]!)[j % 2]! := get_flatK _ _ _ _ (by simpa using hj')
      have hat : L.toArray[j / 2]! = L[j / 2]'(by omega) := by simp [show j / 2 < L.length by omega]
      rw [hfl, hat, Nat.zero_add]
      rcases Nat.mod_two_eq_zero_or_one j with hm | hm
      · rw [show j / 2 * 2 = j by omega] at q1
        rw [q1, hm]; rfl
      · rw [show j / 2 * 2 + 1 = j by omega] at q2
        rw [q2, hm]; rfl
    have eg : ∀ args w, (callFunc 79 args).run Try.prog w = .ok (.enter 79 args) w := enters_of Try.func79 (by kernel_rfl) rfl
    have hcon := AnyQ.slices_SortFunc_total Try.sortCv 2 Try.isAgg38 Try.sizeOf38 encC (fun _ => rfl) (fun x v hv => by simp [encC] at hv; rcases hv with rfl | rfl <;> rfl) cmpC swoC 79 #[] g 0 cap L.toArray w eg
      (fun _ _ _ _ x y => c_cmpCurves x y _) hH (Array.getElem?_eq_some_iff.1 hh).1 (by simp; omega) (fun x y h1 h2 => by
        unfold ltOf at h1 h2
        simp only [decide_eq_false_iff_not] at h1 h2
        rw [cmpC_lt] at h1 h2
        apply Prod.ext <;> omega)
    have hsz : L.toArray.size = L.length := by simp
    rw [hsz] at hcon
    refine Calls.mono hcon fun e w' ⟨he, n, os, hw⟩ => ⟨he, ?_, ?_⟩
    · have hst : (L.toArray.toList.mergeSort fun x y => !(ltOf cmpC) y x) = stS L := rfl
      rw [hst] at hw
      subst hw
      refine ⟨by rw [cellsP_length], .inr ⟨g, cap, _, by rw [stS_len], hg, sort_heap w g n _ os hh, by rw [stS_len]; exact hnc, hcm, by rw [putC_size]; exact hcs, ?_⟩⟩
      have hfe : (flatK encC 2 (stS L).toArray) = (cellsP (stS L)).toArray := by rw [← flat_eq]
      rw [hfe]
      have := put_take (cellsP (stS L)) cur (by rw [cellsP_length, stS_len, hcs]; exact Nat.mul_le_mul_right 2 hnc)
      rw [cellsP_length] at this
      exact this
    · rw [hw]
      exact sort_grown w g n _ os
end Go.Proofs.Ytilgeeaobdebhaa
