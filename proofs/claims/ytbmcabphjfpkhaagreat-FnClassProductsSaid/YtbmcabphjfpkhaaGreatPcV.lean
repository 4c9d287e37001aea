/- Plain: the squarefree divisors of a number, as both sides make them. -/
import Derived.Test.YtbmcabphjfpkhaaGreatFacPlain
namespace Go.Proofs.YtbmcabphjfpkhaaGreat
set_option linter.all false

theorem dvd_mod0 {n k : Int} (h : k ∣ n) : n % k = 0 := Int.emod_eq_zero_of_dvd h
theorem stripF_dvd : ∀ (f : Nat) (n q : Int), stripF f n q ∣ n
  | 0, n, q => by unfold stripF; exact Int.dvd_refl _
  | f + 1, n, q => by
    by_cases h : n % q = 0
    · rw [stripF_yes f h]
      have h1 := stripF_dvd f (n / q) q
      have h2 : n / q * q = n := Int.ediv_mul_cancel (Int.dvd_of_emod_eq_zero h)
      exact Int.dvd_trans h1 ⟨q, h2.symm⟩
    · rw [stripF_no (f + 1) h]; exact Int.dvd_refl _
theorem stripF_rest : ∀ (f : Nat) (n q : Int), 1 ≤ n → 2 ≤ q → n.toNat ≤ f → stripF f n q % q ≠ 0
  | 0, n, q, h, _, hf => by omega
  | f + 1, n, q, h, hq, hf => by
    by_cases h0 : n % q = 0
    · rw [stripF_yes f h0]
      obtain ⟨a, b⟩ := div_pos_facts h hq h0
      exact stripF_rest f (n / q) q a hq (by omega)
    · rw [stripF_no (f + 1) h0]; exact h0
/-- no number from 2 below p divides n -/
def NoD (n p : Int) : Prop := ∀ k : Int, 2 ≤ k → k < p → ¬ k ∣ n
theorem NoD.step {n p : Int} (h : NoD n p) (hp : ¬ p ∣ n) : NoD n (p + 1) := fun k h2 h3 h4 => by
  rcases Int.lt_or_le k p with h5 | h5
  · exact h k h2 h5 h4
  · obtain rfl : k = p := by omega
    exact hp h4
/-- rising product: p (p + 1) .. of k factors -/
def rp : Nat → Nat → Nat
  | _, 0 => 1
  | p, k + 1 => p * rp (p + 1) k
/-- the primes of n, from p on: they divide n, have no common divisors and are not many -/
theorem primes_facts : ∀ (f : Nat) (n p : Int), 1 ≤ n → 2 ≤ p → NoD n p →
    (∀ q ∈ primesF f n p, q ∣ n ∧ p ≤ q) ∧ (primesF f n p).Pairwise (fun a b => Nat.gcd a.natAbs b.natAbs = 1) ∧ rp p.toNat (primesF f n p).length ≤ n.toNat
  | 0, n, p, h, _, _ => by
    have : primesF 0 n p = [] := by unfold primesF; rfl
    rw [this]
    refine ⟨by simp, by simp, ?_⟩
    show 1 ≤ _
    omega
  | f + 1, n, p, hn, hp, hd => by
    by_cases h1 : n ≤ 1
    · rw [primesF_one _ h1]
      refine ⟨by simp, by simp, ?_⟩
      show 1 ≤ _
      omega
    · by_cases h2 : n < p * p
      · rw [primesF_big f (by omega) h2]
        have hpn : p ≤ n := by
          rcases Int.lt_or_le n p with h3 | h3
          · exact absurd (Int.dvd_refl n) (hd n (by omega) h3)
          · exact h3
        refine ⟨by simp [hpn], by simp, ?_⟩
        show p.toNat * 1 ≤ _
        omega
      · by_cases h3 : n % p = 0
        · rw [primesF_yes f (by omega) h2 h3]
          have hpd : p ∣ n := Int.dvd_of_emod_eq_zero h3
          have hsd := stripF_dvd n.toNat n p
          have hs1 := stripF_rest n.toNat n p (by omega) hp (Nat.le_refl _)
          have hsb := strip_bd n.toNat n p (by omega) hp
          have hs : strip n p = stripF n.toNat n p := rfl
          rw [hs]
          have hle : stripF n.toNat n p ≤ n / p := by
            have hf : n.toNat = (n.toNat - 1) + 1 := by omega
            rw [hf, stripF_yes _ h3]
            exact (strip_bd _ _ p (div_pos_facts (by omega) hp h3).1 hp).2
          have hnp : n / p * p = n := Int.ediv_mul_cancel hpd
          generalize stripF n.toNat n p = m at *
          have hnd : NoD m (p + 1) := NoD.step (fun k a b c => hd k a b (Int.dvd_trans c hsd)) (fun c => hs1 (dvd_mod0 c))
          obtain ⟨a, b, c⟩ := primes_facts f m (p + 1) hsb.1 (by omega) hnd
          refine ⟨fun q hq => ?_, ?_, ?_⟩
          · rcases List.mem_cons.1 hq with rfl | hq
            · exact ⟨hpd, Int.le_refl _⟩
            · have := a q hq
              exact ⟨Int.dvd_trans this.1 hsd, by omega⟩
          · rw [List.pairwise_cons]
            refine ⟨fun q hq => ?_, b⟩
            have hq2 := (a q hq).1
            have g1 : ((Nat.gcd p.natAbs q.natAbs : Nat) : Int) ∣ p := Int.ofNat_dvd_left.2 (Nat.gcd_dvd_left _ _)
            have g2 : ((Nat.gcd p.natAbs q.natAbs : Nat) : Int) ∣ q := Int.ofNat_dvd_left.2 (Nat.gcd_dvd_right _ _)
            have g3 := Int.le_of_dvd (by omega) g1
            have g4 : 0 < Nat.gcd p.natAbs q.natAbs := Nat.gcd_pos_of_pos_left _ (by omega)
            rcases Nat.lt_or_ge 1 (Nat.gcd p.natAbs q.natAbs) with h5 | h5
            · exact absurd (Int.dvd_trans g2 hq2) (hnd _ (by omega) (by omega))
            · omega
          · show p.toNat * rp (p.toNat + 1) _ ≤ _
            have e1 : (p + 1).toNat = p.toNat + 1 := by omega
            rw [e1] at c
            have h6 : p.toNat * rp (p.toNat + 1) (primesF f m (p + 1)).length ≤ p.toNat * m.toNat := Nat.mul_le_mul_left _ c
            have h7 : p.toNat * m.toNat ≤ p.toNat * (n / p).toNat := Nat.mul_le_mul_left _ (by omega)
            have h8 : p.toNat * (n / p).toNat = n.toNat := by
              have h9 : 0 ≤ n / p := by omega
              have : ((p.toNat * (n / p).toNat : Nat) : Int) = n := by
                rw [Int.natCast_mul, Int.toNat_of_nonneg (by omega), Int.toNat_of_nonneg h9, Int.mul_comm]
                exact hnp
              omega
            omega
        · rw [primesF_no f (by omega) h2 h3]
          obtain ⟨a, b, c⟩ := primes_facts f n (p + 1) hn (by omega) (hd.step (fun c => h3 (dvd_mod0 c)))
          refine ⟨fun q hq => ⟨(a q hq).1, by have := (a q hq).2; omega⟩, b, ?_⟩
          have hmono : ∀ (k a : Nat), rp a k ≤ rp (a + 1) k := fun k => by
            induction k with
            | zero => intro a; exact Nat.le_refl _
            | succ k ih => intro a; exact Nat.mul_le_mul (by omega) (ih (a + 1))
          have e1 : (p + 1).toNat = p.toNat + 1 := by omega
          rw [e1] at c
          exact Nat.le_trans (hmono _ _) c
theorem rp_pos : ∀ (k a : Nat), 1 ≤ a → 1 ≤ rp a k
  | 0, _, _ => Nat.le_refl _
  | k + 1, a, h => Nat.mul_pos h (rp_pos k (a + 1) (by omega))
theorem rp_add : ∀ (k j a : Nat), 1 ≤ a → rp a k ≤ rp a (k + j)
  | 0, j, a, h => by rw [Nat.zero_add]; exact rp_pos j a h
  | k + 1, j, a, h => by
    rw [show k + 1 + j = (k + j) + 1 by omega]
    exact Nat.mul_le_mul_left _ (rp_add k j (a + 1) (by omega))
theorem primes_few {n : Int} (h : 1 ≤ n) (h1 : n ≤ 91200) : (primesL n).length ≤ 7 ∧ (∀ q ∈ primesL n, q ∣ n ∧ 2 ≤ q) ∧ (primesL n).Pairwise (fun a b => Nat.gcd a.natAbs b.natAbs = 1) := by
  obtain ⟨a, b, c⟩ := primes_facts (2 * n.toNat) n 2 h (by omega) (fun k h2 h3 => by omega)
  refine ⟨?_, a, b⟩
  rcases Nat.lt_or_ge 7 (primesL n).length with h2 | h2
  · exfalso
    have h3 := rp_add 8 ((primesL n).length - 8) 2 (by omega)
    rw [show 8 + ((primesL n).length - 8) = (primesL n).length by omega] at h3
    have h4 : rp 2 8 = 362880 := by decide
    have h5 : rp (2 : Int).toNat (primesL n).length ≤ n.toNat := c
    have h6 : (2 : Int).toNat = 2 := rfl
    rw [h6] at h5
    omega
  · exact h2
theorem fact_primes : ∀ (f : Nat) (n p : Int), (factF f n p).map Prod.fst = primesF f n p
  | 0, _, _ => by unfold factF primesF; rfl
  | f + 1, n, p => by
    by_cases h1 : 1 < n
    · by_cases h2 : n < p * p
      · rw [factF_big f h1 h2, primesF_big f h1 h2]; rfl
      · by_cases h3 : n % p = 0
        · rw [factF_yes f h1 h2 h3, primesF_yes f h1 h2 h3, List.map_cons, fact_primes]
        · rw [factF_no f h1 h2 h3, primesF_no f h1 h2 h3, fact_primes]
    · rw [factF_one _ (by omega), primesF_one _ (by omega)]; rfl
/-- the divisors, made: those there are, and each of them times the next prime -/
def sdG : List Int → List Int → List Int
  | out, [] => out
  | out, p :: ps => sdG (out ++ out.map (· * p)) ps
/-- what is kept: divisors of n without repetition that have no common divisor with the primes to come -/
def DvI (n : Int) (out ps : List Int) : Prop := (∀ d ∈ out, d.natAbs ∣ n.natAbs ∧ ∀ p ∈ ps, Nat.gcd d.natAbs p.natAbs = 1) ∧ out.Nodup
theorem DvI.step {n p : Int} {out ps : List Int} (hn : n ≠ 0) (h : DvI n out (p :: ps)) (hp : ∀ q ∈ p :: ps, q ∣ n ∧ 2 ≤ q) (hc : (p :: ps).Pairwise (fun a b => Nat.gcd a.natAbs b.natAbs = 1)) : DvI n (out ++ out.map (· * p)) ps := by
  obtain ⟨h1, h2⟩ := h
  rw [List.pairwise_cons] at hc
  have hp1 := hp p (by simp)
  have hpn : p.natAbs ∣ n.natAbs := Int.natAbs_dvd_natAbs.2 hp1.1
  refine ⟨fun d hd => ?_, ?_⟩
  · rw [List.mem_append, List.mem_map] at hd
    rcases hd with hd | ⟨e, he, rfl⟩
    · exact ⟨(h1 d hd).1, fun q hq => (h1 d hd).2 q (by simp [hq])⟩
    · have a := h1 e he
      refine ⟨?_, fun q hq => ?_⟩
      · rw [Int.natAbs_mul]
        exact Nat.Coprime.mul_dvd_of_dvd_of_dvd (a.2 p (by simp)) a.1 hpn
      · rw [Int.natAbs_mul]
        exact Nat.Coprime.mul_left (a.2 q (by simp [hq])) (hc.1 q hq)
  · rw [List.nodup_append]
    refine ⟨h2, ?_, fun a ha b hb hab => ?_⟩
    · unfold List.Nodup at h2 ⊢
      rw [List.pairwise_map]
      exact h2.imp fun hne he => hne (Int.eq_of_mul_eq_mul_right (by omega) he)
    · rw [List.mem_map] at hb
      obtain ⟨e, he, rfl⟩ := hb
      have hg := (h1 a ha).2 p (by simp)
      rw [hab, Int.natAbs_mul, Nat.gcd_comm, Nat.gcd_mul_left_right] at hg
      omega
theorem sd_keep {n : Int} (hn : n ≠ 0) : ∀ (ps out : List Int), DvI n out ps → (∀ q ∈ ps, q ∣ n ∧ 2 ≤ q) → ps.Pairwise (fun a b => Nat.gcd a.natAbs b.natAbs = 1) → DvI n (sdG out ps) []
  | [], out, h, _, _ => h
  | p :: ps, out, h, hp, hc => by
    unfold sdG
    exact sd_keep hn ps _ (h.step hn hp hc) (fun q hq => hp q (by simp [hq])) (List.pairwise_cons.1 hc).2
theorem sd_len : ∀ (ps out : List Int), (sdG out ps).length = out.length * 2 ^ ps.length
  | [], out => by unfold sdG; simp
  | p :: ps, out => by
    unfold sdG
    rw [sd_len, List.length_append, List.length_map, List.length_cons, Nat.pow_succ]
    have : out.length + out.length = out.length * 2 := by omega
    rw [this, Nat.mul_assoc, Nat.mul_comm 2]
theorem DvI.bd {n : Int} {out ps : List Int} (hn : n ≠ 0) (h : DvI n out ps) {d : Int} (hd : d ∈ out) : d ≠ 0 ∧ d.natAbs ≤ n.natAbs := by
  have a := (h.1 d hd).1
  refine ⟨fun e => ?_, Nat.le_of_dvd (by omega) a⟩
  rw [e] at a
  have := Nat.eq_zero_of_zero_dvd a
  omega
theorem DvI.start (n : Int) (ps : List Int) : DvI n [-1, 1] ps := ⟨fun d hd => by
  simp only [List.mem_cons, List.not_mem_nil, or_false] at hd
  rcases hd with rfl | rfl
  · exact ⟨Nat.one_dvd _, fun p _ => Nat.gcd_one_left _⟩
  · exact ⟨Nat.one_dvd _, fun p _ => Nat.gcd_one_left _⟩, by decide⟩
end Go.Proofs.YtbmcabphjfpkhaaGreat
