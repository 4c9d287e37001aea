/- Walks: curves of a table with a trace, with an invariant. -/
import Derived.Test.YtidnifogjeaigaaDel
namespace Go.Proofs.Ytidnifogjeaigaa
open Go.RowKit

def trV (A B p : Int) : Int := p + 1 - cntV A B p
theorem cntV_bd {A B p : Int} (hpr : primeB p = true) (hp : 3 ≤ p ∧ p ≤ 997) : 1 ≤ cntV A B p ∧ cntV A B p ≤ 2 * p + 1 := by
  have := sumTo_bd A B p hpr hp.1 (by omega) p.toNat
  unfold cntV
  omega
theorem c_traceAt (A B p : Int) (hA : -1000 ≤ A ∧ A ≤ 1000) (hB : -10000 ≤ B ∧ B ≤ 10000) (hp : 3 ≤ p ∧ p ≤ 997) (hpr : primeB p = true) (w : World) :
    Calls Try.prog 24 #[.agg #[.int .i64 A, .int .i64 B], .int .i64 p] w fun e w' => e = .returned (.int .i64 (trV A B p)) ∧ Below w.heap.size w w' := by
  have hb := cntV_bd (A := A) (B := B) hpr hp
  have HP := Lib.hid hpr
  clear hpr
  go_enter Try.func24, Try.ntmps24
  go_wp2_with ((go_at_call 40; refine (c_countPoints _ _ _ hA hB hp HP.out _).mono ?_; rintro e w1 ⟨rfl, hb1⟩; obtain ⟨hc1, hf1⟩ := bcell hb1; have hz1 := hb1.size; (try simp only [World.size_alloc] at hz1); (try (have hy1 : w.heap.size < w1.heap.size := by omega)); (try (have hx1 := Nat.lt_of_succ_le hz1)); (try (have hv1 := Nat.lt_of_succ_le (Nat.le_of_lt hx1)))))
  go_ret
  refine ⟨rfl, ?_⟩
  (repeat' (first | (with_reducible exact Below.refl _ _) | (with_reducible refine below_step (by assumption) ?_ ?_) | (with_reducible refine Below.alloc ?_ ?_ _) | (with_reducible refine Below.setCell ?_ ?_ _) | (with_reducible refine below_drewN ?_ _) | (with_reducible refine Below.drew ?_) | omega | (simp; omega) | (simp; done)))
theorem c_ctTrace (A B p : Int) (hA : -1000 ≤ A ∧ A ≤ 1000) (hB : -10000 ≤ B ∧ B ≤ 10000) (hp : 3 ≤ p ∧ p ≤ 997) (hpr : primeB p = true) (w : World) :
    Calls Try.prog 21 #[.int .i64 p, .agg #[.int .i64 A, .int .i64 B]] w fun e w' => e = .returned (.int .i64 (trV A B p)) ∧ Below w.heap.size w w' := by
  have hb := cntV_bd (A := A) (B := B) hpr hp
  have HP := Lib.hid hpr
  clear hpr
  go_enter Try.func21, Try.ntmps21
  go_wp2_with ((go_at_call 37; refine (c_fmCount _ _ _ hA hB hp HP.out _).mono ?_; rintro e w1 ⟨rfl, hb1⟩; obtain ⟨hc1, hf1⟩ := bcell hb1; have hz1 := hb1.size; (try simp only [World.size_alloc] at hz1); (try (have hy1 : w.heap.size < w1.heap.size := by omega)); (try (have hx1 := Nat.lt_of_succ_le hz1)); (try (have hv1 := Nat.lt_of_succ_le (Nat.le_of_lt hx1)))))
  go_ret
  refine ⟨rfl, ?_⟩
  (repeat' (first | (with_reducible exact Below.refl _ _) | (with_reducible refine below_step (by assumption) ?_ ?_) | (with_reducible refine Below.alloc ?_ ?_ _) | (with_reducible refine Below.setCell ?_ ?_ _) | (with_reducible refine below_drewN ?_ _) | (with_reducible refine Below.drew ?_) | omega | (simp; omega) | (simp; done)))
def withT (p t : Int) : List (Int × Int) := (tabL p).filter fun c => trV c.1 c.2 p == t
def withJ (p j : Int) : List (Int × Int) := (tabL p).filter fun c => invV p c.1 c.2 == j
noncomputable def cwT (p t : Int) : List (Int × Int) := if tabP p then withT p t else []
noncomputable def cjB (p j : Int) : Bool := tabP p && inB j 0 (p - 1)
noncomputable def cwJ (p j : Int) : List (Int × Int) := if cjB p j then withJ p j else []
theorem cwT_len (p t : Int) : (cwT p t).length ≤ 1000 := by
  unfold cwT
  split
  · rename_i h
    have := tabL_len (p := p) (tabP_of h).2.1
    have := List.length_filter_le (fun c => trV c.1 c.2 p == t) (tabL p)
    unfold withT; omega
  · simp
theorem cwJ_len (p t : Int) : (cwJ p t).length ≤ 1000 := by
  unfold cwJ
  split
  · rename_i h
    have hp : tabP p = true := by unfold cjB at h; simp at h; exact h.1
    have := tabL_len (p := p) (tabP_of hp).2.1
    have := List.length_filter_le (fun c => invV p c.1 c.2 == t) (tabL p)
    unfold withJ; omega
  · simp
theorem filter_no {f : Int × Int → Bool} {L : List (Int × Int)} {k : Nat} (hk : k < L.length) (h : f L[k] = false) : (L.take (k + 1)).filter f = (L.take k).filter f := by
  rw [List.take_succ_eq_append_getElem hk, List.filter_append]; simp [h]
theorem filter_yes {f : Int × Int → Bool} {L : List (Int × Int)} {k : Nat} (hk : k < L.length) (h : f L[k] = true) : (L.take (k + 1)).filter f = (L.take k).filter f ++ [L[k]] := by
  rw [List.take_succ_eq_append_getElem hk, List.filter_append]; simp [h]
end Go.Proofs.Ytidnifogjeaigaa
