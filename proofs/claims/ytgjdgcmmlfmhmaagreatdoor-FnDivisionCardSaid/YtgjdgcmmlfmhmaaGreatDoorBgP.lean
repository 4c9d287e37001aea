/- Plain: numbers as lists of digits to the base 10000, the least digit first. -/
import Derived.Test.YtgjdgcmmlfmhmaaGreatDoorPlain
namespace Go.Proofs.YtgjdgcmmlfmhmaaGreatDoor

def dg (n : Nat) : List Int := if h : n = 0 then [] else (n % 10000 : Nat) :: dg (n / 10000)
termination_by n
decreasing_by exact Nat.div_lt_self (by omega) (by decide)
def vl : List Int → Int
  | [] => 0
  | x :: l => x + 10000 * vl l
def Dg (l : List Int) : Prop := ∀ x ∈ l, 0 ≤ x ∧ x ≤ 9999
theorem dg_zero : dg 0 = [] := by rw [dg]; simp
theorem dg_pos {n : Nat} (h : n ≠ 0) : dg n = ((n % 10000 : Nat) : Int) :: dg (n / 10000) := by rw [dg]; simp [h]
theorem Dg.tail {x : Int} {l : List Int} (h : Dg (x :: l)) : Dg l := fun y hy => h y (by simp [hy])
theorem Dg.head {x : Int} {l : List Int} (h : Dg (x :: l)) : 0 ≤ x ∧ x ≤ 9999 := h x (by simp)
theorem Dg.take {l : List Int} (h : Dg l) (k : Nat) : Dg (l.take k) := fun y hy => h y (List.mem_of_mem_take hy)
theorem vl_nn : ∀ {l : List Int}, (∀ x ∈ l, 0 ≤ x) → 0 ≤ vl l
  | [], _ => Int.le_refl _
  | x :: l, h => by
    have h1 := vl_nn (l := l) fun y hy => h y (by simp [hy])
    have h2 := h x (by simp)
    unfold vl
    omega
theorem Dg.nn {l : List Int} (h : Dg l) : 0 ≤ vl l := vl_nn fun x hx => (h x hx).1
theorem Dg.lt : ∀ {l : List Int}, Dg l → vl l < 10000 ^ l.length
  | [], _ => by decide
  | x :: l, h => by
    have h1 := h.tail.lt
    have h2 := h.head
    have h3 : (10000 : Int) ^ (l.length + 1) = 10000 ^ l.length * 10000 := Int.pow_succ _ _
    rw [List.length_cons, h3]
    unfold vl
    omega
theorem vl_append : ∀ (l m : List Int), vl (l ++ m) = vl l + 10000 ^ l.length * vl m
  | [], m => by simp [vl]
  | x :: l, m => by
    have h := vl_append l m
    have h3 : (10000 : Int) ^ (l.length + 1) = 10000 ^ l.length * 10000 := Int.pow_succ _ _
    rw [List.cons_append, vl, vl, h, List.length_cons, h3, Int.mul_add, ← Int.add_assoc]
    congr 1
    rw [Int.mul_comm (10000 ^ l.length) 10000, Int.mul_assoc]
theorem vl_zeros : ∀ k : Nat, vl (List.replicate k 0) = 0
  | 0 => rfl
  | k + 1 => by rw [List.replicate_succ, vl, vl_zeros k]; rfl
theorem vl_take_succ {l : List Int} {k : Nat} (h : k < l.length) : vl (l.take (k + 1)) = vl (l.take k) + 10000 ^ k * l[k] := by
  rw [List.take_succ_eq_append_getElem h, vl_append, List.length_take, Nat.min_eq_left (by omega)]
  simp [vl]
/-- no digit 0 at the end -/
def Low (l : List Int) : Prop := ∀ h : l ≠ [], l.getLast h ≠ 0
theorem Low.tail {x : Int} {l : List Int} (h : Low (x :: l)) : Low l := fun hl => by
  have := h (by simp)
  rwa [List.getLast_cons hl] at this
theorem low_pos : ∀ {l : List Int}, Dg l → Low l → l ≠ [] → 1 ≤ vl l
  | [], _, _, h => absurd rfl h
  | [x], hd, hl, _ => by
    have h1 := hl (by simp)
    have h2 := hd.head
    simp only [List.getLast_singleton] at h1
    show 1 ≤ x + 10000 * 0
    omega
  | x :: y :: l, hd, hl, _ => by
    have h1 := low_pos hd.tail hl.tail (by simp)
    have h2 := hd.head
    rw [vl]
    omega
theorem low_dg : ∀ {l : List Int}, Dg l → Low l → l = dg (vl l).toNat
  | [], _, _ => by simp [vl, dg_zero]
  | x :: l, hd, hl => by
    have h1 := low_pos hd hl (by simp)
    have h2 := hd.head
    have h3 := hd.tail.nn
    have ih := low_dg hd.tail hl.tail
    rw [dg_pos (by omega)]
    have e : vl (x :: l) = x + 10000 * vl l := rfl
    have e1 : (((vl (x :: l)).toNat % 10000 : Nat) : Int) = x := by rw [e]; omega
    have e2 : (vl (x :: l)).toNat / 10000 = (vl l).toNat := by rw [e]; omega
    rw [e1, e2, ← ih]
theorem dg_Dg (n : Nat) : Dg (dg n) ∧ Low (dg n) ∧ vl (dg n) = n := by
  induction n using Nat.strongRecOn with
  | ind n ih =>
    by_cases h : n = 0
    · subst h
      rw [dg_zero]
      exact ⟨fun x hx => by simp at hx, fun h => absurd rfl h, rfl⟩
    · rw [dg_pos h]
      obtain ⟨h1, h2, h3⟩ := ih (n / 10000) (Nat.div_lt_self (by omega) (by decide))
      refine ⟨fun x hx => ?_, fun hne => ?_, ?_⟩
      · rcases List.mem_cons.1 hx with rfl | hx
        · omega
        · exact h1 x hx
      · by_cases hq : dg (n / 10000) = []
        · have : n / 10000 = 0 := by
            rw [hq] at h3
            simp only [vl] at h3
            omega
          simp only [hq, List.getLast_singleton]
          omega
        · rw [List.getLast_cons hq]
          exact h2 hq
      · rw [vl, h3]; omega
/-- the digits without zeros at the end -/
def tr (l : List Int) : List Int := (l.reverse.dropWhile (· == 0)).reverse
theorem tr_snoc_zero (l : List Int) : tr (l ++ [0]) = tr l := by simp [tr]
theorem tr_snoc {x : Int} (l : List Int) (h : x ≠ 0) : tr (l ++ [x]) = l ++ [x] := by simp [tr, h]
theorem tr_nil : tr [] = [] := rfl
theorem tr_take {l : List Int} {k : Nat} (h : k < l.length) (h0 : l[k] = 0) : tr (l.take (k + 1)) = tr (l.take k) := by
  rw [List.take_succ_eq_append_getElem h, h0, tr_snoc_zero]
theorem tr_done {l : List Int} {k : Nat} (h : k < l.length) (h0 : l[k] ≠ 0) : tr (l.take (k + 1)) = l.take (k + 1) := by
  rw [List.take_succ_eq_append_getElem h, tr_snoc _ h0]
theorem snoc_cases {α : Type} (l : List α) : l = [] ∨ ∃ m x, l = m ++ [x] := by
  rcases List.eq_nil_or_concat l with h | ⟨m, x, h⟩
  · exact .inl h
  · exact .inr ⟨m, x, by simpa using h⟩
theorem tr_facts : ∀ (n : Nat) (l : List Int), l.length = n → Dg l → Low (tr l) ∧ Dg (tr l) ∧ vl (tr l) = vl l
  | 0, l, hn, _ => by
    have : l = [] := List.length_eq_zero_iff.1 hn
    subst this
    exact ⟨fun h => absurd rfl h, fun x hx => by simp [tr] at hx, rfl⟩
  | n + 1, l, hn, hd => by
    rcases snoc_cases l with rfl | ⟨m, x, rfl⟩
    · simp at hn
    · have hm : m.length = n := by simpa using hn
      have hdm : Dg m := fun y hy => hd y (by simp [hy])
      by_cases hx : x = 0
      · subst hx
        rw [tr_snoc_zero]
        obtain ⟨h1, h2, h3⟩ := tr_facts n m hm hdm
        refine ⟨h1, h2, ?_⟩
        rw [h3, vl_append]
        simp [vl]
      · rw [tr_snoc _ hx]
        exact ⟨fun h => by simpa using hx, hd, rfl⟩
theorem tr_dg {l : List Int} (h : Dg l) : tr l = dg (vl l).toNat := by
  obtain ⟨h1, h2, h3⟩ := tr_facts _ l rfl h
  have := low_dg h2 h1
  rwa [h3] at this
theorem dg_nil {n : Nat} : dg n = [] ↔ n = 0 := by
  constructor
  · intro h
    have := (dg_Dg n).2.2
    rw [h] at this
    simp only [vl] at this
    omega
  · rintro rfl; exact dg_zero
theorem dg_len {n k : Nat} (h : n < 10000 ^ k) : (dg n).length ≤ k := by
  induction k generalizing n with
  | zero =>
    have : n = 0 := by simpa using h
    subst this
    simp [dg_zero]
  | succ k ih =>
    by_cases hn : n = 0
    · subst hn; simp [dg_zero]
    · rw [dg_pos hn, List.length_cons]
      have := ih (n := n / 10000) (by
        rw [Nat.pow_succ] at h
        exact Nat.div_lt_of_lt_mul (by omega))
      omega
/-- longer numbers without zeros at the end are greater -/
theorem low_ge : ∀ {l : List Int}, Dg l → Low l → l ≠ [] → 10000 ^ (l.length - 1) ≤ vl l
  | [], _, _, h => absurd rfl h
  | [x], hd, hl, _ => by
    have := low_pos hd hl (by simp)
    simpa using this
  | x :: y :: l, hd, hl, _ => by
    have h1 := low_ge hd.tail hl.tail (by simp)
    have h2 := hd.head
    have e : (10000 : Int) ^ ((x :: y :: l).length - 1) = 10000 ^ ((y :: l).length - 1) * 10000 := by
      simp only [List.length_cons, Nat.add_sub_cancel]
      exact Int.pow_succ _ _
    rw [e, vl]
    omega
end Go.Proofs.YtgjdgcmmlfmhmaaGreatDoor
