/- Plain: logs undone, shortened, reversed. -/
import Derived.Test.YtpnpidepkfnofaaGreatDoorPairPlain
namespace Go.Proofs.YtpnpidepkfnofaaGreatDoor
open Go.RowKit

def undK (k : Int) : Int := if k = 0 then 1 else if k = 1 then 0 else if k = 2 then 3 else 2
def und (c : Int × Int) : Int × Int := (undK c.1, c.2)
def shS (M : List (Int × Int)) (c : Int × Int) : List (Int × Int) := if M.getLast? = some (und c) then M.dropLast else M ++ [c]
def shL (L : List (Int × Int)) : List (Int × Int) := L.foldl shS []
theorem shL_take (L : List (Int × Int)) {k : Nat} (h : k < L.length) : shL (L.take (k + 1)) = shS (shL (L.take k)) L[k] := by
  unfold shL
  rw [List.take_succ_eq_append_getElem h, List.foldl_append]; rfl
theorem shS_len (M : List (Int × Int)) (c : Int × Int) : (shS M c).length ≤ M.length + 1 := by
  unfold shS; split <;> simp; omega
theorem shL_len : ∀ (L : List (Int × Int)) (M : List (Int × Int)), (L.foldl shS M).length ≤ M.length + L.length
  | [], M => by simp
  | c :: L, M => by
    have := shL_len L (shS M c)
    have := shS_len M c
    simp only [List.foldl_cons, List.length_cons]; omega
theorem shS_nil (c : Int × Int) : shS [] c = [] ++ [c] := by simp [shS]
theorem shS_yes {M : List (Int × Int)} {n : Nat} (c : Int × Int) (hn : M.length = n + 1) (h : M[n] = und c) : shS M c = M.take n := by
  unfold shS
  have : M.getLast? = some M[n] := by rw [List.getLast?_eq_getElem?, show M.length - 1 = n by omega, List.getElem?_eq_getElem (by omega)]
  rw [this, h, if_pos rfl, List.dropLast_eq_take, hn]; rfl
theorem shS_no {M : List (Int × Int)} {n : Nat} (c : Int × Int) (hn : M.length = n + 1) (h : M[n] ≠ und c) : shS M c = M ++ [c] := by
  unfold shS
  have : M.getLast? = some M[n] := by rw [List.getLast?_eq_getElem?, show M.length - 1 = n by omega, List.getElem?_eq_getElem (by omega)]
  rw [this, if_neg (by simpa using h)]
def invL (L : List (Int × Int)) : List (Int × Int) := L.reverse.map und
/-- i swaps done -/
def RvR (L M : List (Int × Int)) (i : Nat) : Prop := M.length = L.length ∧ ∀ t (h : t < L.length) (h' : t < M.length), M[t] = if t < i ∨ L.length - i ≤ t then L[L.length - 1 - t]'(by omega) else L[t]
theorem RvR.start (L : List (Int × Int)) : RvR L L 0 := ⟨rfl, fun t h _ => by rw [if_neg (by omega)]⟩
theorem RvR.step {L M : List (Int × Int)} {i : Nat} (h : RvR L M i) (hi : i < L.length - 1 - i) : ∃ (h1 : i < M.length) (h2 : L.length - 1 - i < M.length), RvR L ((M.set i (M[L.length - 1 - i])).set (L.length - 1 - i) (M[i])) (i + 1) := by
  obtain ⟨hl, hM⟩ := h
  refine ⟨by omega, by omega, by simpa using hl, fun t ht ht' => ?_⟩
  rw [List.getElem_set]
  split
  · rename_i e
    rw [hM i (by omega) (by omega), if_neg (by omega), if_pos (by omega)]
    congr 1; omega
  · rw [List.getElem_set]
    split
    · rename_i e1 e
      rw [hM _ (by omega) (by omega), if_neg (by omega), if_pos (by omega)]
      congr 1; omega
    · rename_i e1 e2
      rw [hM t ht (by omega)]
      by_cases hc : t < i ∨ L.length - i ≤ t
      · rw [if_pos hc, if_pos (by omega)]
      · rw [if_neg hc, if_neg (by omega)]
theorem RvR.done {L M : List (Int × Int)} {i : Nat} (h : RvR L M i) (hi : L.length ≤ 2 * i + 1) : M = L.reverse := by
  obtain ⟨hl, hM⟩ := h
  apply List.ext_getElem
  · simpa using hl
  · intro t h1 h2
    rw [hM t (by omega) h1, List.getElem_reverse]
    split
    · rfl
    · congr 1; omega
theorem cellsP_take (L : List (Int × Int)) : ∀ i, cellsP (L.take i) = (cellsP L).take (i * 2) := by
  induction L with
  | nil => intro i; simp [cellsP]
  | cons p r ih =>
    intro i
    cases i with
    | zero => simp [cellsP]
    | succ i =>
      rw [List.take_succ_cons, cellsP_cons, ih i, cellsP_cons, show (i + 1) * 2 = i * 2 + 2 by omega]
      rfl
end Go.Proofs.YtpnpidepkfnofaaGreatDoor
