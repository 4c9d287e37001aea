/- Plain: products by sums of products, then carries. -/
import Derived.Test.YtmlfkceafkhlaaaDoorBgM
namespace Go.Proofs.YtmlfkceafkhlaaaDoor
open Go.RowKit

theorem adi_set {S : List Int} {j : Nat} (h : j < S.length) (v : Int) (k : Nat) : (S.set j v)[k]?.getD 0 = if j = k then v else S[k]?.getD 0 := by
  rw [List.getElem?_set]
  split
  · rename_i e
    subst e
    simp
  · rfl
/-- sums of products: round i, before k -/
structure Su (a b : List Int) (n i k : Nat) (x : Int) (S : List Int) : Prop where
  len : S.length = n
  bd : ∀ j : Nat, 0 ≤ S[j]?.getD 0 ∧ S[j]?.getD 0 ≤ ((i : Int) + 1) * 99980001
  tl : ∀ j : Nat, i + k ≤ j → S[j]?.getD 0 ≤ (i : Int) * 99980001
  eq : vl S = vl (a.take i) * vl b + 10000 ^ i * (x * vl (b.take k))
theorem Su.step {a b : List Int} {n i k : Nat} {x y s : Int} {S : List Int} (h : Su a b n i k x S) (hk : i + k < n) (hx : 0 ≤ x ∧ x ≤ 9999) (hb : Dg b) (hs : S[i + k]?.getD 0 = s) (hy : b[k]?.getD 0 = y) : Su a b n i (k + 1) x (S.set (i + k) (s + x * y)) := by
  have hyb := hb.adi k
  rw [hy] at hyb
  have hm := mul_bdD hx hyb
  have h1 := h.tl (i + k) (Nat.le_refl _)
  have h2 := (h.bd (i + k)).1
  rw [hs] at h1 h2
  have hl : i + k < S.length := by rw [h.len]; exact hk
  refine ⟨by simp [h.len], fun j => ?_, fun j hj => ?_, ?_⟩
  · rw [adi_set hl]
    split
    · rw [Int.add_mul]; omega
    · exact h.bd j
  · rw [adi_set hl, if_neg (by omega)]
    exact h.tl j (by omega)
  · rw [vl_set hl, hs, h.eq, vl_take_adi, hy, Int.pow_add, Int.mul_add, Int.mul_add, Int.mul_left_comm x, show s + x * y - s = x * y by omega, Int.mul_assoc, Int.add_assoc]
/-- between rounds -/
structure So (a b : List Int) (n i : Nat) (S : List Int) : Prop where
  len : S.length = n
  bd : ∀ j : Nat, 0 ≤ S[j]?.getD 0 ∧ S[j]?.getD 0 ≤ (i : Int) * 99980001
  eq : vl S = vl (a.take i) * vl b
theorem So.start {a b : List Int} (n : Nat) : So a b n 0 (List.replicate n 0) := by
  refine ⟨by simp, fun j => ?_, by rw [vl_zeros]; simp [vl]⟩
  have : (List.replicate n (0 : Int))[j]?.getD 0 = 0 := by
    rw [List.getElem?_replicate]; split <;> rfl
  rw [this]; omega
theorem So.su {a b : List Int} {n i : Nat} {S : List Int} (h : So a b n i S) (x : Int) : Su a b n i 0 x S :=
  ⟨h.len, fun j => by have := h.bd j; omega, fun j _ => (h.bd j).2, by rw [h.eq]; simp [vl]⟩
theorem Su.so {a b : List Int} {n i : Nat} {x : Int} {S : List Int} (h : Su a b n i b.length x S) (hx : a[i]?.getD 0 = x) : So a b n (i + 1) S :=
  ⟨h.len, fun j => by have := h.bd j; rw [Int.natCast_add]; exact this, by rw [h.eq, vl_take_full b (Nat.le_refl _), vl_take_adi, hx, Int.add_mul, Int.mul_assoc]⟩
/-- carries: before digit i -/
structure Ca (S : List Int) (Bd : Int) (i : Nat) (O : List Int) (c : Int) : Prop where
  len : O.length = i
  dg : Dg O
  lo : 0 ≤ c
  hi : c ≤ Bd
  eq : vl O + c * 10000 ^ i = vl (S.take i)
theorem Ca.start {S : List Int} {Bd : Int} (h : 0 ≤ Bd) : Ca S Bd 0 [] 0 := ⟨rfl, fun x hx => by simp at hx, by omega, h, by simp [vl]⟩
theorem Ca.step {S : List Int} {Bd s c : Int} {i : Nat} {O : List Int} (h : Ca S Bd i O c) (hs : S[i]?.getD 0 = s) (hb : 0 ≤ s ∧ s ≤ Bd) : Ca S Bd (i + 1) (O ++ [(s + c) % 10000]) ((s + c) / 10000) := by
  have hlo := h.lo
  have hhi := h.hi
  refine ⟨by simp [h.len], h.dg.snoc (by omega), by omega, by omega, ?_⟩
  have he := h.eq
  rw [vl_snoc, h.len, vl_take_adi, hs, Int.pow_succ, Int.mul_left_comm, Int.add_assoc, ← Int.mul_add, show (s + c) % 10000 + (s + c) / 10000 * 10000 = c + s by omega, Int.mul_add, Int.mul_comm _ c]
  omega
theorem Ca.done {S : List Int} {Bd c V : Int} {n : Nat} {O : List Int} (h : Ca S Bd n O c) (hl : S.length = n) (hV : vl S = V) (hlt : V < 10000 ^ n) : vl O = V := by
  have he := h.eq
  rw [vl_take_full S (by omega), hV] at he
  have h2 := h.dg.nn
  have hlo := h.lo
  have hp := pw_pos n
  rcases (by omega : 0 < c ∨ c = 0) with hc | hc
  · exfalso
    have := Int.mul_le_mul_of_nonneg_right (show (1 : Int) ≤ c by omega) (show (0 : Int) ≤ 10000 ^ n by omega)
    rw [Int.one_mul] at this
    omega
  · subst hc
    rw [Int.zero_mul, Int.add_zero] at he
    exact he
theorem ca_get {S O : List Int} {i : Nat} (h : O.length = i) : (O ++ S.drop i)[i]?.getD 0 = S[i]?.getD 0 := by
  rw [List.getElem?_append_right (by omega), h, Nat.sub_self, List.getElem?_drop]; rfl
theorem ca_set {S O : List Int} {i : Nat} (h : O.length = i) (hi : i < S.length) (d : Int) : (O ++ S.drop i).set i d = (O ++ [d]) ++ S.drop (i + 1) := by
  rw [List.set_append, if_neg (by omega), h, Nat.sub_self, List.drop_eq_getElem_cons hi, List.set_cons_zero, List.append_assoc]
  rfl
theorem ca_len {S O : List Int} {i : Nat} (h : O.length = i) (hi : i ≤ S.length) : (O ++ S.drop i).length = S.length := by simp; omega
end Go.Proofs.YtmlfkceafkhlaaaDoor
