/- Slices of ints in the laws: equal, marked, held. -/
import Derived.Test.YtbmcabphjfpkhaaGreatPairPlain
import Derived.Test.YtbmcabphjfpkhaaGreatApp
namespace Go.Proofs.YtbmcabphjfpkhaaGreat
open Go.RowKit

/-- a slice value that reads as a list -/
def RdI (w : World) (v : Value) (xs : List Int) : Prop := ∃ (a : Option Addr) (cap : Nat), v = .slice a xs.length cap ∧ ∀ i, i < xs.length → ∃ g o, a = some ⟨g, o, none⟩ ∧ w.cell? ⟨g, o + i, none⟩ = some (.int .i64 (xs[i]?.getD 0)) ∧ g < w.heap.size
theorem OwnsI.rd {w : World} {base : Nat} {v : Value} {xs : List Int} (h : OwnsI w base v xs) : RdI w v xs := by
  obtain ⟨a, cap, hv, hc⟩ := h.form
  refine ⟨a, cap, hv, fun i hi => ?_⟩
  obtain ⟨g, ha, h1, h2, _⟩ := hc i hi
  exact ⟨g, 0, ha, by rw [Nat.zero_add]; exact h1, h2⟩
theorem RdI.below {w w1 : World} {v : Value} {xs : List Int} (h : RdI w v xs) (hb : Below w.heap.size w w1) : RdI w1 v xs := by
  obtain ⟨a, cap, hv, hc⟩ := h
  refine ⟨a, cap, hv, fun i hi => ?_⟩
  obtain ⟨g, o, ha, h1, h2⟩ := hc i hi
  exact ⟨g, o, ha, (hb.cell (p := ⟨g, o + i, none⟩) h2).trans h1, Nat.lt_of_lt_of_le h2 hb.size⟩
theorem RdI.grown {w w1 : World} {v : Value} {xs : List Int} {row : Option Nat} (h : RdI w v xs) (hg : w.grownBy w1 row) (hne : ∀ g, v.ownBlock = some g → some g ≠ row) : RdI w1 v xs := by
  obtain ⟨a, cap, hv, hc⟩ := h
  refine ⟨a, cap, hv, fun i hi => ?_⟩
  obtain ⟨g, o, ha, h1, h2⟩ := hc i hi
  have := hg.block g h2 (hne g (by rw [hv, ha]; rfl))
  exact ⟨g, o, ha, (World.cell?_of_block (w := w) (a := ⟨g, o + i, none⟩) this).trans h1, Nat.lt_of_lt_of_le h2 hg.size⟩
theorem RdI.lt {w : World} {v : Value} {xs : List Int} (h : RdI w v xs) (hx : xs ≠ []) : ∀ g, v.ownBlock = some g → g < w.heap.size := by
  obtain ⟨a, cap, hv, hc⟩ := h
  intro g hg
  obtain ⟨g', o, ha, _, h2⟩ := hc 0 (List.length_pos_iff.2 hx)
  rw [hv, ha] at hg
  have hg' : some g' = some g := hg
  injection hg' with hg'
  omega
theorem OwnsI.lt {w : World} {base : Nat} {v : Value} {xs : List Int} (h : OwnsI w base v xs) : ∀ g, v.ownBlock = some g → base ≤ g ∧ g < w.heap.size := World.ownsRow.lt h
def markI (n : Nat) : List Int := (List.range n).map fun (i : Nat) => 1 + (i : Int)
theorem markI_length (n : Nat) : (markI n).length = n := by simp [markI]
theorem markI_get (n i : Nat) (h : i < n) : (markI n)[i]?.getD 0 = 1 + (i : Int) := by
  have e : (markI n)[i]? = some (1 + (i : Int)) := by simp [markI, h]
  rw [e]; rfl
def mixI (xs : List Int) (k : Nat) : List Int := markI k ++ xs.drop k
theorem mixI_length (xs : List Int) (k : Nat) (h : k ≤ xs.length) : (mixI xs k).length = xs.length := by simp [mixI, markI]; omega
theorem mixI_step (xs : List Int) (k : Nat) (h : k < xs.length) : ((mixI xs k).map (Value.int .i64)).set k (.int .i64 (1 + (k : Int))) = (mixI xs (k + 1)).map (Value.int .i64) := by
  have e1 : mixI xs (k + 1) = markI k ++ ((1 + (k : Int)) :: xs.drop (k + 1)) := by simp [mixI, markI, List.range_succ]
  have e2 : mixI xs k = markI k ++ (xs[k] :: xs.drop (k + 1)) := by unfold mixI; rw [List.drop_eq_getElem_cons h]
  rw [e1, e2, List.map_append, List.map_append, List.map_cons, List.map_cons, List.set_append, if_neg (by rw [List.length_map, markI_length]; omega), List.length_map, markI_length, Nat.sub_self]
  rfl
/-- one round of 'mark' -/
theorem mark_roundI {w wr : World} {base : Nat} {xs : List Int} {g cap k : Nat} (hk : k < xs.length) (ho : OwnsI wr base (.slice (some ⟨g, 0, none⟩) xs.length cap) (mixI xs k)) (hg : w.grownBy wr (some g)) :
    OwnsI (wr.setCell ⟨g, k, none⟩ (.int .i64 (1 + (k : Int)))) base (.slice (some ⟨g, 0, none⟩) xs.length cap) (mixI xs (k + 1)) ∧ w.grownBy (wr.setCell ⟨g, k, none⟩ (.int .i64 (1 + (k : Int)))) (some g) := by
  refine ⟨?_, grown_setCell hg _ _⟩
  unfold OwnsI at ho ⊢
  rw [mixI_length _ _ (by omega)] at ho
  rw [mixI_length _ _ (by omega), ← mixI_step xs k hk]
  exact own_set ho rfl _ _
/-- the call returns a list of ints of its own, and a bool -/
def IntsPost (w : World) (xs : List Int) (b : Bool) (e : Ending) (w' : World) : Prop := ∃ v, e = .returned (.tuple #[v, .bool b]) ∧ OwnsI w' w.heap.size v xs ∧ Below w.heap.size w w'
def ReadPost (w : World) (xs : List Int) (b : Bool) (e : Ending) (w' : World) : Prop := ∃ v, e = .returned (.tuple #[v, .bool b]) ∧ RdI w' v xs ∧ (∀ g, v.ownBlock = some g → g < w'.heap.size) ∧ Below w.heap.size w w'
theorem OwnsI.frozen {w : World} {base g n cap : Nat} {xs : List Int} (h : OwnsI w base (.slice (some ⟨g, 0, none⟩) n cap) xs) (o : Nat) : w.frozen? ⟨g, o, none⟩ = false := by
  rcases h.2 with ⟨h0, _⟩ | ⟨g', cap', cur, hv, hg, hh, _⟩
  · cases h0
  · injection hv with e1 _ _
    injection e1 with e1
    injection e1 with e1
    subst e1
    simp [World.frozen?, hh]
end Go.Proofs.YtbmcabphjfpkhaaGreat
