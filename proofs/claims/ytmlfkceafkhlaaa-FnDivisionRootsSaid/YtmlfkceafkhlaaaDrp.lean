/- Plain: roots of division values, orders at an x. -/
import Derived.Test.YtmlfkceafkhlaaaDpl
import Derived.Test.YtmlfkceafkhlaaaDvO
import Derived.Test.YtmlfkceafkhlaaaDvR
namespace Go.Proofs.Ytmlfkceafkhlaaa
open Go.RowKit

theorem zl_mem (z : Nat → Bool) : ∀ (k : Nat) (x : Int), x ∈ zList z k → ∃ i : Nat, i < k ∧ x = i ∧ z i = true
  | 0, x, h => by simp [zList] at h
  | k + 1, x, h => by
    unfold zList at h
    split at h
    · rename_i hz
      rw [List.mem_append] at h
      rcases h with h | h
      · obtain ⟨i, h1, h2, h3⟩ := zl_mem z k x h
        exact ⟨i, by omega, h2, h3⟩
      · exact ⟨k, by omega, by simpa using h, hz⟩
    · obtain ⟨i, h1, h2, h3⟩ := zl_mem z k x h
      exact ⟨i, by omega, h2, h3⟩
theorem zl_asc (z : Nat → Bool) : ∀ k : Nat, (zList z k).Pairwise (fun x y => x < y)
  | 0 => by simp [zList]
  | k + 1 => by
    unfold zList
    split
    · rw [List.pairwise_append]
      refine ⟨zl_asc z k, by simp, fun x hx y hy => ?_⟩
      obtain ⟨i, h1, rfl, _⟩ := zl_mem z k x hx
      obtain rfl := List.mem_singleton.1 hy
      omega
    · exact zl_asc z k
theorem rt_mem {A B p n x : Int} (h : dvOk A B p 0 n = true) (hx : x ∈ rtRes A B p n) : (0 ≤ x ∧ x < p) ∧ dvE A B p x n.toNat = 0 := by
  unfold rtRes at hx
  rw [if_pos h] at hx
  obtain ⟨i, h1, rfl, h3⟩ := zl_mem _ _ _ hx
  unfold rtZ at h3
  exact ⟨by omega, by simpa using h3⟩
theorem rt_facts {A B p n x : Int} (h : dvOk A B p 0 n = true) (hx : x ∈ rtRes A B p n) : dvOk A B p x n = true ∧ dvE A B p x n.toNat = 0 ∧ zB A B p x n = true := by
  obtain ⟨h1, h2⟩ := rt_mem h hx
  obtain ⟨hf, hn⟩ := dvOk_of h
  refine ⟨?_, h2, ?_⟩
  · unfold dvOk
    rw [fit_at hf h1.1 h1.2, inB_mk hn.1 hn.2]; rfl
  · unfold zB
    rw [h2]; simp
theorem rt_pair {A B p n : Int} : (rtRes A B p n).Pairwise (fun x y => x < y) := by
  unfold rtRes
  split
  · exact zl_asc _ _
  · simp
theorem rt_asc {A B p n : Int} (i : Nat) (h0 : 0 < i) (h : i < (rtRes A B p n).length) : ((rtRes A B p n)[i - 1]'(by omega)) < (rtRes A B p n)[i] :=
  (List.pairwise_iff_getElem.1 rt_pair) (i - 1) i (by omega) h (by omega)
theorem rt_deg {A B p n : Int} (h : dvOk A B p 0 n = true) (hn : n % p ≠ 0) : (rtRes A B p n).length ≤ degN n.toNat := by
  obtain ⟨hf, h1⟩ := dvOk_of h
  obtain ⟨_, _, hp, hpr, _⟩ := fit_of hf
  have hnn : ((n.toNat : Nat) : Int) = n := by omega
  refine dv_roots (A := A) (B := B) hp.1 (primeB_true hpr).2 (n := n.toNat) (by omega) (by omega) (by rw [hnn]; exact hn) _ ?_ (fun x hx => rt_mem h hx)
  exact rt_pair.imp (fun {a b} (h : a < b) (e : a = b) => by omega)
/-! orders -/
theorem ordTo_z (z : Nat → Bool) : ∀ f k, 1 ≤ k → ordTo z f k ≠ 0 → z (ordTo z f k) = true ∧ ∀ i, k ≤ i → i < ordTo z f k → z i = false
  | 0, _, _, h => by simp [ordTo] at h
  | f + 1, k, hk, h => by
    unfold ordTo at h ⊢
    split at h
    · rename_i hz
      rw [if_pos hz]
      exact ⟨hz, fun i h1 h2 => by omega⟩
    · rename_i hz
      rw [if_neg hz]
      obtain ⟨h1, h2⟩ := ordTo_z z f (k + 1) (by omega) h
      refine ⟨h1, fun i hi hl => ?_⟩
      rcases Nat.eq_or_lt_of_le hi with e | e
      · subst e; simpa using hz
      · exact h2 i e hl
theorem ord_facts {A B p x : Int} (h : oOk A B p x = true) : fitB A B p x = true ∧ (1 ≤ ordN A B p x ∧ ordN A B p x ≤ 40) ∧ zB A B p x (ordN A B p x : Int) = true ∧
    (∀ i : Nat, 1 ≤ i → i < ordN A B p x → zB A B p x (i : Int) = false) ∧ (2 * ordN A B p x ≤ 40 → zB A B p x (2 * (ordN A B p x : Int)) = true) := by
  unfold oOk at h
  simp only [Bool.and_eq_true, Bool.not_eq_true', beq_eq_false_iff_ne] at h
  obtain ⟨hf, h0⟩ := h
  have h0' : ordN A B p x ≠ 0 := h0
  have hb := ordTo_le (fun k => zB A B p x k) 40 1
  have hz := ordTo_z (fun k => zB A B p x k) 40 1 (Nat.le_refl _) h0'
  have hl : ordN A B p x < 41 ∨ ordN A B p x = 0 := hb
  refine ⟨hf, ⟨by omega, by omega⟩, hz.1, fun i h1 h2 => hz.2 i h1 h2, fun _ => ?_⟩
  have h1 : zB A B p x (ordN A B p x : Int) = true := hz.1
  generalize ordN A B p x = o at h1 h0'
  unfold zB at h1 ⊢
  have e1 : ((o : Int)).toNat = o := by simp
  have e2 : (2 * (o : Int)).toNat = 2 * o := by omega
  have e3 : (2 * (o : Int)) % 2 = 0 := by omega
  rw [e1] at h1
  rw [e2, e3]
  simp only [Bool.or_eq_true, beq_iff_eq, Bool.and_eq_true] at h1 ⊢
  rcases h1 with h1 | ⟨h1, h2⟩
  · rcases Nat.lt_or_ge o 3 with h3 | h3
    · rcases (show o = 1 ∨ o = 2 by omega) with rfl | rfl
      · exact absurd h1 (by show ¬ (1 : Int) = 0; decide)
      · exact absurd h1 (by show ¬ (1 : Int) = 0; decide)
    · exact .inl (dv_twice A B p x h3 h1)
  · exact .inr ⟨trivial, h2⟩
def degV (n : Int) : Int := rsZ (inB n 1 40) (if n % 2 = 1 then (n * n - 1) / 2 else (n * n - 4) / 2)
def ledV (n : Int) : Int := rsZ (inB n 1 40) (if n % 2 = 1 then n else n / 2)
theorem degV_nat {n : Int} (h : 1 ≤ n ∧ n ≤ 40) : degV n = (degN n.toNat : Nat) := by
  obtain ⟨k, rfl⟩ := Int.eq_ofNat_of_zero_le (show 0 ≤ n by omega)
  unfold degV degN rsZ
  rw [inB_mk h.1 h.2]
  have e : ((k : Int)).toNat = k := by simp
  rw [e]
  simp only [if_true]
  have hk : 1 ≤ k := by omega
  by_cases h2 : k % 2 = 1
  · have h3 : (k : Int) % 2 = 1 := by omega
    rw [if_pos h3, if_pos h2]
    have : 1 ≤ k * k := Nat.mul_le_mul hk hk
    rw [show ((k : Int) * k - 1) = ((k * k - 1 : Nat) : Int) by rw [Int.ofNat_sub this]; push_cast; rfl]
    rfl
  · have h3 : ¬ (k : Int) % 2 = 1 := by omega
    rw [if_neg h3, if_neg h2]
    have : 2 * 2 ≤ k * k := Nat.mul_le_mul (by omega) (by omega)
    rw [show ((k : Int) * k - 4) = ((k * k - 4 : Nat) : Int) by rw [Int.ofNat_sub (by omega)]; push_cast; rfl]
    rfl
end Go.Proofs.Ytmlfkceafkhlaaa
