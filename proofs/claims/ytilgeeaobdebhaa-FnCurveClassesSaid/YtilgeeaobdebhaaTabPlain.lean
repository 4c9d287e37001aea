/- Plain: tables of curves, counts of points. -/
import Derived.Test.YtilgeeaobdebhaaEuler
import Derived.Test.YtilgeeaobdebhaaCong
import Derived.Test.YtilgeeaobdebhaaTable
import Derived.Test.YtilgeeaobdebhaaDivA
namespace Go.Proofs.Ytilgeeaobdebhaa
open Go.RowKit

def okC (p a b : Int) : Bool := !(disc a b % p == 0)
def rowTo (p a : Int) (k : Nat) : List (Int × Int) := ((List.range k).filter fun (b : Nat) => okC p a b).map fun (b : Nat) => (a, (b : Int))
theorem rowTo_succ (p a : Int) (k : Nat) : rowTo p a (k + 1) = if okC p a k = true then rowTo p a k ++ [(a, (k : Int))] else rowTo p a k := by
  unfold rowTo
  rw [List.range_succ, List.filter_append]
  cases h : okC p a k <;> simp [h]
def tabTo (p : Int) (k : Nat) : List (Int × Int) := (List.range k).flatMap fun (a : Nat) => rowTo p a p.toNat
theorem tabTo_succ (p : Int) (k : Nat) : tabTo p (k + 1) = tabTo p k ++ rowTo p k p.toNat := by
  unfold tabTo; rw [List.range_succ, List.flatMap_append]; simp
def tabL (p : Int) : List (Int × Int) := tabTo p p.toNat
theorem rowTo_len (p a : Int) (k : Nat) : (rowTo p a k).length ≤ k := by
  unfold rowTo
  rw [List.length_map]
  have := List.length_filter_le (fun b : Nat => okC p a b) (List.range k)
  simpa using this
theorem tabTo_len (p : Int) : ∀ k, (tabTo p k).length ≤ k * p.toNat
  | 0 => by simp [tabTo]
  | k + 1 => by
    rw [tabTo_succ, List.length_append]
    have := tabTo_len p k
    have := rowTo_len p k p.toNat
    rw [Nat.add_mul]; omega
theorem tabL_len {p : Int} (h : p ≤ 31) : (tabL p).length ≤ 961 := by
  have := tabTo_len p p.toNat
  have h2 : p.toNat * p.toNat ≤ 31 * 31 := Nat.mul_le_mul (by omega) (by omega)
  unfold tabL; omega
theorem tabL_mem {p : Int} {c : Int × Int} (h : c ∈ tabL p) : (0 ≤ c.1 ∧ c.1 ≤ p - 1) ∧ (0 ≤ c.2 ∧ c.2 ≤ p - 1) ∧ okC p c.1 c.2 = true := by
  unfold tabL tabTo rowTo at h
  simp only [List.mem_flatMap, List.mem_range, List.mem_map, List.mem_filter] at h
  obtain ⟨a, ha, b, ⟨hb, hok⟩, rfl⟩ := h
  exact ⟨⟨by simp, by simp; omega⟩, ⟨by simp, by simp; omega⟩, hok⟩
theorem tabB_ok {p a b : Int} (ht : tabP p = true) (ha : 0 ≤ a ∧ a ≤ p - 1) (hb : 0 ≤ b ∧ b ≤ p - 1) : tabB p a b = okC p a b := by
  unfold tabB okC
  rw [ht, inB_mk ha.1 ha.2, inB_mk hb.1 hb.2]; rfl
/-! counts -/
def sumTo (A B p : Int) : Nat → Int
  | 0 => 0
  | k + 1 => sumTo A B p k + symS (fV A B k) p
def cntV (A B p : Int) : Int := p + 1 + sumTo A B p p.toNat
theorem sym_bd (a p : Int) (h : primeB p = true) (h3 : 3 ≤ p) (h1 : p < 1000) : -1 ≤ symS a p ∧ symS a p ≤ 1 := by
  rw [← sym_eq a p h h3 h1]; unfold symI; split <;> (try split) <;> omega
theorem sumTo_bd (A B p : Int) (h : primeB p = true) (h3 : 3 ≤ p) (h1 : p < 1000) : ∀ k : Nat, -(k : Int) ≤ sumTo A B p k ∧ sumTo A B p k ≤ k
  | 0 => by simp [sumTo]
  | k + 1 => by
    have := sumTo_bd A B p h h3 h1 k
    have := sym_bd (fV A B k) p h h3 h1
    unfold sumTo; omega
theorem find_take {α : Type} (f : α → Bool) : ∀ (L : List α) (k : Nat) (h : k < L.length), (L.take k).find? f = none → f L[k] = true → L.find? f = some L[k]
  | x :: L, 0, _, _, hf => by simp at hf; simp [hf]
  | x :: L, k + 1, h, hn, hf => by
    rw [List.take_succ_cons] at hn
    cases hx : f x
    · rw [List.find?_cons, hx] at hn
      rw [List.find?_cons, hx]
      exact find_take f L k (by simpa using h) hn (by simpa using hf)
    · rw [List.find?_cons, hx] at hn; cases hn
theorem find_take_no {α : Type} (f : α → Bool) (L : List α) (k : Nat) (h : k < L.length) (hn : (L.take k).find? f = none) (hf : f L[k] = false) : (L.take (k + 1)).find? f = none := by
  rw [List.take_add_one, List.getElem?_eq_getElem h, List.find?_append, hn]
  simp [hf]
end Go.Proofs.Ytilgeeaobdebhaa
