/- Slices of structs of two ints: the predicate. -/
import Derived.Test.YtpnpidepkfnofaaGreatDoorList
namespace Go.Proofs.YtpnpidepkfnofaaGreatDoor
open Go.RowKit

def cellsP (L : List (Int × Int)) : List Value := L.flatMap fun p => [.int .i64 p.1, .int .i64 p.2]
theorem cellsP_snoc (L : List (Int × Int)) (p : Int × Int) : cellsP (L ++ [p]) = cellsP L ++ [.int .i64 p.1, .int .i64 p.2] := by simp [cellsP]
theorem cellsP_cons (L : List (Int × Int)) (p : Int × Int) : cellsP (p :: L) = .int .i64 p.1 :: .int .i64 p.2 :: cellsP L := by simp [cellsP]
theorem cellsP_length (L : List (Int × Int)) : (cellsP L).length = L.length * 2 := by
  induction L with
  | nil => rfl
  | cons p L ih => rw [cellsP_cons]; simp [ih]; omega
theorem cellsP_get (L : List (Int × Int)) : ∀ i (h : i < L.length), (cellsP L)[i * 2]? = some (.int .i64 L[i].1) ∧ (cellsP L)[i * 2 + 1]? = some (.int .i64 L[i].2) := by
  induction L with
  | nil => intro i h; simp at h
  | cons p L ih =>
    intro i h
    rw [cellsP_cons]
    cases i with
    | zero => simp
    | succ i =>
      have := ih i (by simpa using h)
      rw [show (i + 1) * 2 = i * 2 + 2 by omega]
      simpa using this
def OwnsP (T : TypeId) (w : World) (base : Nat) (v : Value) (L : List (Int × Int)) : Prop := w.ownsRow base T 2 v L.length (cellsP L)
theorem OwnsP.nil (T : TypeId) (w : World) (base : Nat) : OwnsP T w base (.slice none 0 0) [] := World.ownsRow_nil _ _ _ _
theorem OwnsP.below {T : TypeId} {w w1 : World} {base : Nat} {v : Value} {L : List (Int × Int)} (h : OwnsP T w base v L) (hb : Below w.heap.size w w1) : OwnsP T w1 base v L := by
  refine ⟨h.1, ?_⟩
  rcases h.2 with h0 | ⟨g, cap, cur, hv, hg, hh, r⟩
  · exact .inl h0
  · exact .inr ⟨g, cap, cur, hv, hg, (hb.block g (Array.getElem?_eq_some_iff.1 hh).1).trans hh, r⟩
theorem OwnsP.kept {T : TypeId} {w w1 : World} {base base' : Nat} {v v' : Value} {L : List (Int × Int)} (h : OwnsP T w base v L) (hv : ∀ k, v'.ownBlock = some k → base' ≤ k) (hlt : ∀ k, v.ownBlock = some k → k < base') (hg : w.grownBy w1 v'.ownBlock) : OwnsP T w1 base v L := by
  refine World.ownsRow.kept h hg ?_
  cases e : v.ownBlock with
  | none => exact .inl rfl
  | some k =>
    refine .inr fun e' => ?_
    have := hv k e'.symm
    have := hlt k e
    omega
theorem OwnsP.form {T : TypeId} {w : World} {base : Nat} {v : Value} {L : List (Int × Int)} (h : OwnsP T w base v L) :
    ∃ (a : Option Addr) (cap : Nat), v = .slice a L.length cap ∧ ∀ i (_ : i < L.length), ∃ g, a = some ⟨g, 0, none⟩ ∧ w.cell? ⟨g, i * 2, none⟩ = some (.int .i64 L[i].1) ∧ w.cell? ⟨g, i * 2 + 1, none⟩ = some (.int .i64 L[i].2) ∧
      (∀ o, w.frozen? ⟨g, o, none⟩ = false) ∧ g < w.heap.size ∧ base ≤ g := by
  rcases h.2 with ⟨hv, hn⟩ | ⟨g, cap, cur, hv, hg, hh, hnc, hcm, hcs, ht⟩
  · exact ⟨none, 0, by rw [hv, hn], fun i hi => by omega⟩
  · refine ⟨some ⟨g, 0, none⟩, cap, hv, fun i hi => ⟨g, rfl, ?_, ?_, ?_, (Array.getElem?_eq_some_iff.1 hh).1, hg⟩⟩
    · have h4 : (cur.toList.take (L.length * 2))[i * 2]? = cur.toList[i * 2]? := List.getElem?_take_of_lt (by omega)
      rw [ht, (cellsP_get L i hi).1] at h4
      rw [Array.getElem?_toList] at h4
      show (match w.heap[g]? with | some (.cells cs _ _) => _ | _ => _) = _
      rw [hh]; exact h4.symm
    · have h4 : (cur.toList.take (L.length * 2))[i * 2 + 1]? = cur.toList[i * 2 + 1]? := List.getElem?_take_of_lt (by omega)
      rw [ht, (cellsP_get L i hi).2] at h4
      rw [Array.getElem?_toList] at h4
      show (match w.heap[g]? with | some (.cells cs _ _) => _ | _ => _) = _
      rw [hh]; exact h4.symm
    · intro o
      simp [World.frozen?, hh]
def markL (n : Nat) : List (Int × Int) := (List.range n).map fun (i : Nat) => (1 + 2 * (i : Int), 1 + 2 * (i : Int) + 1)
theorem markL_length (n : Nat) : (markL n).length = n := by simp [markL]
theorem markL_get (n i : Nat) (h : i < (markL n).length) : (markL n)[i] = (1 + 2 * (i : Int), 1 + 2 * (i : Int) + 1) := by simp [markL]
theorem heap_setCell_at {w : World} {g i : Nat} {cs : Array Value} {t : TypeId} {fr : Nat × Nat} (h : w.heap[g]? = some (.cells cs t fr)) (u : Value) : (w.setCell ⟨g, i, none⟩ u).heap[g]? = some (.cells (cs.setIfInBounds i u) t fr) := by
  simp [World.setCell, Array.getElem?_modify, h]
theorem own_set {w : World} {base : Nat} {e : TypeId} {size : Nat} {v : Value} {n : Nat} {xs : List Value} {g cap : Nat} (h : w.ownsRow base e size v n xs) (hv : v = .slice (some ⟨g, 0, none⟩) n cap) (j : Nat) (u : Value) :
    (w.setCell ⟨g, j, none⟩ u).ownsRow base e size v n (xs.set j u) := by
  refine ⟨by simpa using h.1, ?_⟩
  rcases h.2 with ⟨h0, _⟩ | ⟨g', cap', cur, hv', hg, hh, hnc, hcm, hcs, ht⟩
  · rw [hv] at h0; simp at h0
  · rw [hv] at hv'
    obtain ⟨rfl, rfl⟩ : g = g' ∧ cap = cap' := by simpa using hv'
    refine .inr ⟨g, cap, cur.setIfInBounds j u, hv, hg, heap_setCell_at hh u, hnc, hcm, by simpa using hcs, ?_⟩
    rw [Array.toList_setIfInBounds, List.take_set, ht]
def mixL (L : List (Int × Int)) (k : Nat) : List (Int × Int) := markL k ++ L.drop k
theorem mixL_length (L : List (Int × Int)) (k : Nat) (h : k ≤ L.length) : (mixL L k).length = L.length := by simp [mixL, markL]; omega
theorem cellsP_append (L M : List (Int × Int)) : cellsP (L ++ M) = cellsP L ++ cellsP M := by simp [cellsP]
theorem mix_step (L : List (Int × Int)) (k : Nat) (h : k < L.length) :
    ((cellsP (mixL L k)).set (k * 2) (.int .i64 (1 + 2 * (k : Int)))).set (k * 2 + 1) (.int .i64 (1 + 2 * (k : Int) + 1)) = cellsP (mixL L (k + 1)) := by
  have e1 : mixL L (k + 1) = markL k ++ ((1 + 2 * (k : Int), 1 + 2 * (k : Int) + 1) :: L.drop (k + 1)) := by
    simp [mixL, markL, List.range_succ]
  have e2 : mixL L k = markL k ++ (L[k] :: L.drop (k + 1)) := by
    unfold mixL; rw [List.drop_eq_getElem_cons h]
  have e3 : (cellsP (markL k)).length = k * 2 := by rw [cellsP_length, markL_length]
  rw [e1, e2, cellsP_append, cellsP_append, cellsP_cons, cellsP_cons, List.set_append, if_neg (by omega), e3, Nat.sub_self, List.set_append, if_neg (by omega), e3, show k * 2 + 1 - k * 2 = 1 by omega]
  rfl
theorem grown_setCell {a w : World} {g : Nat} (h : a.grownBy w (some g)) (o : Nat) (u : Value) : a.grownBy (w.setCell ⟨g, o, none⟩ u) (some g) :=
  ⟨h.os, h.tape, h.output, by simpa [World.setCell] using h.size, fun i hi hne => (Below.heap_setCell w ⟨g, o, none⟩ u i (by rintro rfl; exact hne rfl)).trans (h.block i hi hne)⟩
/-- one round of 'mark' -/
theorem mark_round {T : TypeId} {w wr : World} {base : Nat} {L : List (Int × Int)} {g cap k : Nat} (hk : k < L.length) (ho : OwnsP T wr base (.slice (some ⟨g, 0, none⟩) L.length cap) (mixL L k)) (hg : w.grownBy wr (some g)) :
    OwnsP T ((wr.setCell ⟨g, k * 2, none⟩ (.int .i64 (1 + 2 * (k : Int)))).setCell ⟨g, k * 2 + 1, none⟩ (.int .i64 (1 + 2 * (k : Int) + 1))) base (.slice (some ⟨g, 0, none⟩) L.length cap) (mixL L (k + 1)) ∧
    w.grownBy ((wr.setCell ⟨g, k * 2, none⟩ (.int .i64 (1 + 2 * (k : Int)))).setCell ⟨g, k * 2 + 1, none⟩ (.int .i64 (1 + 2 * (k : Int) + 1))) (some g) := by
  refine ⟨?_, grown_setCell (grown_setCell hg _ _) _ _⟩
  unfold OwnsP at ho ⊢
  rw [mixL_length _ _ (by omega)] at ho
  rw [mixL_length _ _ (by omega), ← mix_step L k hk]
  exact own_set (own_set ho rfl _ _) rfl _ _
theorem keep4 {w W w1 : World} {ga gb B o1 o2 o3 o4 : Nat} {v1 v2 v3 v4 : Value}
    (h : W.cell? ⟨ga, o1, none⟩ = some v1 ∧ W.cell? ⟨ga, o2, none⟩ = some v2 ∧ W.cell? ⟨gb, o3, none⟩ = some v3 ∧ W.cell? ⟨gb, o4, none⟩ = some v4 ∧ ga < W.heap.size ∧ gb < W.heap.size ∧ B ≤ W.heap.size ∧ Below B w W) (hb : Below W.heap.size W w1) :
    w1.cell? ⟨ga, o1, none⟩ = some v1 ∧ w1.cell? ⟨ga, o2, none⟩ = some v2 ∧ w1.cell? ⟨gb, o3, none⟩ = some v3 ∧ w1.cell? ⟨gb, o4, none⟩ = some v4 ∧ ga < w1.heap.size ∧ gb < w1.heap.size ∧ B ≤ w1.heap.size ∧ Below B w w1 := by
  obtain ⟨h1, h2, h3, h4, h5, h6, h7, h8⟩ := h
  have hc := fun b o hb' => hb.cell (p := ⟨b, o, none⟩) hb'
  exact ⟨(hc ga o1 h5).trans h1, (hc ga o2 h5).trans h2, (hc gb o3 h6).trans h3, (hc gb o4 h6).trans h4, Nat.lt_of_lt_of_le h5 hb.size, Nat.lt_of_lt_of_le h6 hb.size, Nat.le_trans h7 hb.size, h8.trans (hb.mono h7)⟩
theorem keep4d {w W : World} {ga gb B o1 o2 o3 o4 n : Nat} {v1 v2 v3 v4 : Value}
    (h : W.cell? ⟨ga, o1, none⟩ = some v1 ∧ W.cell? ⟨ga, o2, none⟩ = some v2 ∧ W.cell? ⟨gb, o3, none⟩ = some v3 ∧ W.cell? ⟨gb, o4, none⟩ = some v4 ∧ ga < W.heap.size ∧ gb < W.heap.size ∧ B ≤ W.heap.size ∧ Below B w W) :
    (W.drewN n).cell? ⟨ga, o1, none⟩ = some v1 ∧ (W.drewN n).cell? ⟨ga, o2, none⟩ = some v2 ∧ (W.drewN n).cell? ⟨gb, o3, none⟩ = some v3 ∧ (W.drewN n).cell? ⟨gb, o4, none⟩ = some v4 ∧ ga < (W.drewN n).heap.size ∧ gb < (W.drewN n).heap.size ∧ B ≤ (W.drewN n).heap.size ∧ Below B w (W.drewN n) :=
  ⟨h.1, h.2.1, h.2.2.1, h.2.2.2.1, h.2.2.2.2.1, h.2.2.2.2.2.1, h.2.2.2.2.2.2.1, below_drewN h.2.2.2.2.2.2.2 n⟩
theorem OwnsP.le {T : TypeId} {w : World} {base base' : Nat} {v : Value} {L : List (Int × Int)} (h : OwnsP T w base v L) (hb : base' ≤ base) : OwnsP T w base' v L :=
  ⟨h.1, h.2.elim Or.inl (fun ⟨g, cap, cur, hv, hg, r⟩ => Or.inr ⟨g, cap, cur, hv, Nat.le_trans hb hg, r⟩)⟩
/-- the call returns a list of its own, and a bool -/
def ListPost (T : TypeId) (w : World) (L : List (Int × Int)) (b : Bool) (e : Ending) (w' : World) : Prop :=
  ∃ v, e = .returned (.tuple #[v, .bool b]) ∧ OwnsP T w' w.heap.size v L ∧ Below w.heap.size w w'
theorem OwnsP.lt {T : TypeId} {w : World} {base : Nat} {v : Value} {L : List (Int × Int)} (h : OwnsP T w base v L) : ∀ k, v.ownBlock = some k → base ≤ k ∧ k < w.heap.size := World.ownsRow.lt h
theorem OwnsP.grown {T : TypeId} {w w1 : World} {base base' : Nat} {v v' : Value} {L : List (Int × Int)} (h : OwnsP T w base v L) (hg : w.grownBy w1 v'.ownBlock) (hne : ∀ k, v.ownBlock = some k → k < base') (hv : ∀ k, v'.ownBlock = some k → base' ≤ k) : OwnsP T w1 base v L := OwnsP.kept h hv hne hg
theorem below_of_grown {B : Nat} {w w1 : World} {v : Value} (hg : w.grownBy w1 v.ownBlock) (hB : B ≤ w.heap.size) (hv : ∀ k, v.ownBlock = some k → B ≤ k) : Below B w w1 :=
  (Below.refl B w).grown hg hB hv
end Go.Proofs.YtpnpidepkfnofaaGreatDoor
