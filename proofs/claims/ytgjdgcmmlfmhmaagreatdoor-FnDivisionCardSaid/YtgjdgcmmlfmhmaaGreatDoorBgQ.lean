/- Plain: products of digits. -/
import Derived.Test.YtgjdgcmmlfmhmaaGreatDoorBgA
namespace Go.Proofs.YtgjdgcmmlfmhmaaGreatDoor
open Go.RowKit

theorem vl_set : ∀ {S : List Int} {j : Nat} (_ : j < S.length) (v : Int), vl (S.set j v) = vl S + 10000 ^ j * (v - S[j]?.getD 0)
  | [], _, h, _ => by simp at h
  | x :: S, 0, _, v => by simp [vl]; omega
  | x :: S, j + 1, h, v => by
    have ih := vl_set (S := S) (j := j) (by simpa using h) v
    simp only [List.set_cons_succ, vl, List.getElem?_cons_succ]
    rw [ih, Int.mul_add, Int.pow_succ, Int.mul_comm (10000 ^ j) 10000, Int.mul_assoc]
    omega
theorem Dg.set {S : List Int} (h : Dg S) (j : Nat) {v : Int} (hv : 0 ≤ v ∧ v ≤ 9999) : Dg (S.set j v) := by
  intro y hy
  rcases List.mem_or_eq_of_mem_set hy with hy | rfl
  · exact h y hy
  · exact hv
theorem mul_bdD {x y : Int} (hx : 0 ≤ x ∧ x ≤ 9999) (hy : 0 ≤ y ∧ y ≤ 9999) : 0 ≤ x * y ∧ x * y ≤ 99980001 := by
  refine ⟨Int.mul_nonneg hx.1 hy.1, ?_⟩
  have := Int.mul_le_mul hx.2 hy.2 hy.1 (by omega : (0 : Int) ≤ 9999)
  omega
theorem mul_lt {a b : List Int} (ha : Dg a) (hb : Dg b) {m k : Nat} (hm : a.length ≤ m) (hk : b.length ≤ k) : vl a * vl b < 10000 ^ (m + k) := by
  have h1 := vl_lt ha hm
  have h2 := vl_lt hb hk
  have h3 := ha.nn
  have h4 := hb.nn
  have h5 := pw_pos m
  rw [Int.pow_add]
  have q1 : vl a * vl b ≤ vl a * 10000 ^ k := Int.mul_le_mul_of_nonneg_left (by omega) h3
  have q2 : vl a * 10000 ^ k < 10000 ^ m * 10000 ^ k := Int.mul_lt_mul_of_pos_right h1 (by have := pw_pos k; omega)
  omega
/-- the state of a product of digits, before digit k of round i -/
structure Mi (a b : List Int) (n i k : Nat) (x : Int) (S : List Int) (c : Int) : Prop where
  len : S.length = n
  dg : Dg S
  lo : 0 ≤ c
  hi : c ≤ 9999
  eq : vl S + c * 10000 ^ k = vl (a.take i) * vl b + 10000 ^ i * (x * vl (b.take (k - i)))
theorem Mi.start {a b : List Int} {n i : Nat} {x : Int} {S : List Int} (hl : S.length = n) (hd : Dg S) (he : vl S = vl (a.take i) * vl b) : Mi a b n i i x S 0 :=
  ⟨hl, hd, by omega, by omega, by rw [he, Nat.sub_self]; simp [vl]⟩
theorem Mi.step {a b : List Int} {n i k : Nat} {x c s y : Int} {S : List Int} (h : Mi a b n i k x S c) (hk : k < n) (hik : i ≤ k) (hx : 0 ≤ x ∧ x ≤ 9999) (hb : Dg b) (hs : S[k]?.getD 0 = s) (hy : b[k - i]?.getD 0 = y) : Mi a b n i (k + 1) x (S.set k ((s + c + x * y) % 10000)) ((s + c + x * y) / 10000) := by
  have hsb := h.dg.adi k
  have hyb := hb.adi (k - i)
  rw [hs] at hsb
  rw [hy] at hyb
  have hm := mul_bdD hx hyb
  have hlo := h.lo
  have hhi := h.hi
  obtain ⟨z, hz⟩ : ∃ z, s + c + x * y = z := ⟨_, rfl⟩
  refine ⟨by simp [h.len], h.dg.set k (by omega), by omega, by omega, ?_⟩
  have he := h.eq
  rw [vl_set (by rw [h.len]; exact hk), hs, show k + 1 - i = (k - i) + 1 by omega, vl_take_adi, hy, Int.pow_succ, hz]
  have eP : (10000 : Int) ^ k = 10000 ^ i * 10000 ^ (k - i) := by rw [← Int.pow_add]; congr 1; omega
  have ez : z = z % 10000 + z / 10000 * 10000 := by omega
  have q1 : z / 10000 * (10000 ^ k * 10000) = 10000 ^ k * (z / 10000 * 10000) := by rw [Int.mul_left_comm]
  have q2 : (10000 : Int) ^ i * (x * (vl (b.take (k - i)) + 10000 ^ (k - i) * y)) = 10000 ^ i * (x * vl (b.take (k - i))) + 10000 ^ k * (x * y) := by
    rw [eP, Int.mul_add, Int.mul_add, Int.mul_left_comm x, Int.mul_assoc]
  rw [q1, q2, Int.add_assoc, ← Int.mul_add, show z % 10000 - s + z / 10000 * 10000 = c + x * y by omega, Int.mul_add, Int.mul_comm _ c]
  omega
theorem Mi.done {a b : List Int} {n i : Nat} {x c : Int} {S : List Int} (h : Mi a b n i n x S c) (ha : Dg a) (hb : Dg b) (hx : a[i]?.getD 0 = x) (hi : i < a.length) (hn : n = a.length + b.length + 1) : c = 0 ∧ vl S = vl (a.take (i + 1)) * vl b := by
  have he := h.eq
  rw [vl_take_full b (by omega)] at he
  have e1 : vl (a.take (i + 1)) * vl b = vl (a.take i) * vl b + 10000 ^ i * (x * vl b) := by
    rw [vl_take_adi, hx, Int.add_mul, Int.mul_assoc]
  rw [← e1] at he
  have h1 := mul_lt (ha.take (i + 1)) hb (m := a.length + 1) (k := b.length) (by rw [List.length_take]; omega) (Nat.le_refl _)
  rw [show a.length + 1 + b.length = n by omega] at h1
  have h2 := h.dg.nn
  have hp := pw_pos n
  have hc : c = 0 := by
    have hlo := h.lo
    rcases (by omega : 0 < c ∨ c ≤ 0) with hc | hc
    · exfalso
      have : 10000 ^ n ≤ c * 10000 ^ n := by
        have := Int.mul_le_mul_of_nonneg_right (show (1 : Int) ≤ c by omega) (show (0 : Int) ≤ 10000 ^ n by omega)
        rwa [Int.one_mul] at this
      omega
    · omega
  subst hc
  rw [Int.zero_mul, Int.add_zero] at he
  exact ⟨rfl, he⟩
end Go.Proofs.YtgjdgcmmlfmhmaaGreatDoor
