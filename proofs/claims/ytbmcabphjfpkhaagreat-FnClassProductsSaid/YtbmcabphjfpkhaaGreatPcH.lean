/- Walks: is a number in a list (l1Has, pIn, slices.Contains); are all numbers of a list classes. -/
import Derived.Test.YtbmcabphjfpkhaaGreatPcB
import Derived.Test.YtbmcabphjfpkhaaGreatPairI
namespace Go.Proofs.YtbmcabphjfpkhaaGreat
open Go.RowKit

def hasB (n : Int) (L : List Int) : Bool := L.any (· == n)
theorem has_step (n : Int) (L : List Int) {k : Nat} (h : k < L.length) : hasB n (L.take (k + 1)) = (hasB n (L.take k) || L[k]?.getD 0 == n) := by
  unfold hasB
  rw [List.take_add_one, List.getElem?_eq_getElem h, List.any_append]
  simp
theorem has_yes (n : Int) (L : List Int) {k : Nat} (h : k < L.length) (he : (L[k]?.getD 0 == n) = true) : hasB n L = true := by
  unfold hasB
  rw [List.any_eq_true]
  rw [List.getElem?_eq_getElem h] at he
  exact ⟨_, List.getElem_mem h, he⟩
theorem has_mem (n : Int) (L : List Int) : hasB n L = true ↔ n ∈ L := by unfold hasB; simp
theorem c_l1Has (L : List Int) (n : Int) (v : Value) (hL : L.length ≤ 100000) (w : World) (h : RdI w v L) :
    Calls Tryz.prog 62 #[v, .int .i64 n] w fun e w' => e = .returned (.bool (hasB n L)) ∧ w = w' := by
  obtain ⟨a, cap, rfl, hf⟩ := h
  have HF := Lib.hid hf
  clear hf
  go_enter Tryz.func62, Tryz.ntmps62
  go_wp2
  go_loopw [9] (fun i wr => ∃ k : Nat, k ≤ L.length ∧ i = .int .i64 k ∧ w = wr ∧ Hid (hasB n (L.take k) = false)) (fun i _ => L.length - (intOf i).toNat)
  case atStart => exact ⟨0, Nat.zero_le _, rfl, rfl, rfl⟩
  case round =>
    obtain ⟨k, hk, rfl, rfl, HN⟩ := hrel
    by_cases hlt : k < L.length
    · obtain ⟨g, o, rfl, q, hg⟩ := HF.out k hlt
      have i0 : (0 : Int) ≤ (k : Int) := by omega
      have i1 : (k : Int) < (L.length : Int) := by omega
      cases he : (L[k]?.getD 0 == n)
      · have HS : Hid (hasB n (L.take (k + 1)) = false) := Lib.hid (by rw [has_step n L hlt, HN.out, he]; rfl)
        clear HN
        generalize L[k]?.getD 0 = y at *
        go_wp2
        go_roundw
        case rel => exact ⟨k + 1, by omega, by go_num, trivial, HS⟩
        case measure => simp [intOf]; omega
      · have hy := has_yes n L hlt he
        clear HN
        generalize L[k]?.getD 0 = y at *
        go_wp2
        go_ret
        exact ⟨by rw [hy]; rfl, rfl⟩
    · obtain rfl : k = L.length := by omega
      have hn := HN.out
      rw [List.take_length] at hn
      go_wp2
      go_ret
      exact ⟨by rw [hn]; rfl, rfl⟩
theorem c_pIn (L : List Int) (n : Int) (v : Value) (hL : L.length ≤ 100000) (w : World) (h : RdI w v L) :
    Calls Tryz.prog 15 #[v, .int .i64 n] w fun e w' => e = .returned (.bool (hasB n L)) ∧ w = w' := by
  obtain ⟨a, cap, rfl, hf⟩ := h
  have HF := Lib.hid hf
  clear hf
  go_enter Tryz.func15, Tryz.ntmps15
  go_wp2
  go_loopw [9] (fun i wr => ∃ k : Nat, k ≤ L.length ∧ i = .int .i64 k ∧ w = wr ∧ Hid (hasB n (L.take k) = false)) (fun i _ => L.length - (intOf i).toNat)
  case atStart => exact ⟨0, Nat.zero_le _, rfl, rfl, rfl⟩
  case round =>
    obtain ⟨k, hk, rfl, rfl, HN⟩ := hrel
    by_cases hlt : k < L.length
    · obtain ⟨g, o, rfl, q, hg⟩ := HF.out k hlt
      have i0 : (0 : Int) ≤ (k : Int) := by omega
      have i1 : (k : Int) < (L.length : Int) := by omega
      cases he : (L[k]?.getD 0 == n)
      · have HS : Hid (hasB n (L.take (k + 1)) = false) := Lib.hid (by rw [has_step n L hlt, HN.out, he]; rfl)
        clear HN
        generalize L[k]?.getD 0 = y at *
        go_wp2
        go_roundw
        case rel => exact ⟨k + 1, by omega, by go_num, trivial, HS⟩
        case measure => simp [intOf]; omega
      · have hy := has_yes n L hlt he
        clear HN
        generalize L[k]?.getD 0 = y at *
        go_wp2
        go_ret
        exact ⟨by rw [hy]; rfl, rfl⟩
    · obtain rfl : k = L.length := by omega
      have hn := HN.out
      rw [List.take_length] at hn
      go_wp2
      go_ret
      exact ⟨by rw [hn]; rfl, rfl⟩
/-- the first place of a number -/
def idxI (n : Int) : List Int → Nat → Int
  | [], _ => -1
  | x :: L, k => if x == n then (k : Int) else idxI n L (k + 1)
theorem c_indexI (L : List Int) (n : Int) (v : Value) (hL : L.length ≤ 100000) (w : World) (h : RdI w v L) :
    Calls Tryz.prog 71 #[v, .int .i64 n] w fun e w' => (∃ i : Int, e = .returned (.int .i64 i) ∧ (-1 ≤ i ∧ i ≤ 100000) ∧ (0 ≤ i ↔ hasB n L = true)) ∧ ∃ k, w' = w.drewN k := by
  obtain ⟨a, cap, rfl, hf⟩ := h
  have HF := Lib.hid hf
  clear hf
  go_enter Tryz.func71, Tryz.ntmps71
  go_wp2
  go_loopw [8] (fun i wr => ∃ k : Nat, k ≤ L.length ∧ i = .int .i64 k ∧ (∃ j, wr = w.drewN j) ∧ Hid (hasB n (L.take k) = false)) (fun i _ => L.length - (intOf i).toNat)
  case atStart => exact ⟨0, Nat.zero_le _, rfl, ⟨0, rfl⟩, rfl⟩
  case round =>
    obtain ⟨k, hk, rfl, ⟨j, rfl⟩, HN⟩ := hrel
    by_cases hlt : k < L.length
    · obtain ⟨g, o, rfl, q, hg⟩ := HF.out k hlt
      replace q : (w.drewN j).cell? ⟨g, o + k, none⟩ = some (.int .i64 (L[k]?.getD 0)) := q
      have i0 : (0 : Int) ≤ (k : Int) := by omega
      have i1 : (k : Int) < (L.length : Int) := by omega
      cases he : (L[k]?.getD 0 == n)
      · have HS : Hid (hasB n (L.take (k + 1)) = false) := Lib.hid (by rw [has_step n L hlt, HN.out, he]; rfl)
        have he' : (n == L[k]?.getD 0) = false := by rw [beq_eq_false_iff_ne] at he ⊢; exact fun h => he h.symm
        clear HN
        generalize L[k]?.getD 0 = y at *
        go_wp2
        go_roundw
        case rel => exact ⟨k + 1, by omega, by go_num, ⟨_, rfl⟩, HS⟩
        case measure => simp [intOf]; omega
      · have hy := has_yes n L hlt he
        have he' : (n == L[k]?.getD 0) = true := by rw [beq_iff_eq] at he ⊢; exact he.symm
        clear HN
        generalize L[k]?.getD 0 = y at *
        go_wp2
        go_ret
        exact ⟨⟨_, rfl, by omega, by rw [hy]; simp⟩, _, rfl⟩
    · obtain rfl : k = L.length := by omega
      have hn := HN.out
      rw [List.take_length] at hn
      go_wp2
      go_ret
      exact ⟨⟨_, rfl, by omega, by rw [hn]; simp⟩, _, rfl⟩
theorem c_containsI (L : List Int) (n : Int) (v : Value) (hL : L.length ≤ 100000) (w : World) (h : RdI w v L) :
    Calls Tryz.prog 45 #[v, .int .i64 n] w fun e w' => e = .returned (.bool (hasB n L)) ∧ ∃ k, w' = w.drewN k := by
  have H := Lib.hid (c_indexI L n v hL w h)
  go_enter Tryz.func45, Tryz.ntmps45
  go_wp2_with fail
  refine H.out.mono ?_
  rintro e w1 ⟨⟨i, rfl, hi, hb⟩, k, rfl⟩
  by_cases h0 : 0 ≤ i
  · have hy := hb.1 h0
    go_wp2
    go_ret
    exact ⟨by rw [hy]; rfl, _, rfl⟩
  · have hn : hasB n L = false := by
      cases hx : hasB n L
      · rfl
      · exact absurd (hb.2 hx) h0
    go_wp2
    go_ret
    exact ⟨by rw [hn]; rfl, _, rfl⟩
end Go.Proofs.YtbmcabphjfpkhaaGreat
