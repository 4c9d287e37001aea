/- Plain: division values modulo a prime. -/
import Derived.Test.YtgjdgcmmlfmhmaaGreatDoorCong
namespace Go.Proofs.YtgjdgcmmlfmhmaaGreatDoor

def dvF (A B x : Int) : Int := x * x * x + A * x + B
def dvT (A B x : Int) : Int := 3 * x * x * x * x + 6 * A * x * x + 12 * B * x - A * A
def dvQ (A B x : Int) : Int := 2 * (x * x * x * (x * x * x) + 5 * A * (x * x) * (x * x) + 20 * B * (x * x * x) - 5 * (A * A) * (x * x) - 4 * A * B * x - 8 * B * B - A * A * A)
def dvG (A B x p : Int) : Int := 16 * dvF A B x * dvF A B x % p
def eat (xs : List Int) (i : Nat) : Int := xs[i]?.getD 0
/-- the k-th value out of those before it -/
def dvN (p g : Int) (xs : List Int) (k : Nat) : Int :=
  if k % 2 = 0 then (eat xs (k / 2) * (eat xs (k / 2 + 2) * (eat xs (k / 2 - 1) * eat xs (k / 2 - 1)) - eat xs (k / 2 - 2) * (eat xs (k / 2 + 1) * eat xs (k / 2 + 1)))) % p
  else if k / 2 % 2 = 0 then (eat xs (k / 2 + 2) * (eat xs (k / 2) * eat xs (k / 2) * eat xs (k / 2)) * g - eat xs (k / 2 - 1) * (eat xs (k / 2 + 1) * eat xs (k / 2 + 1) * eat xs (k / 2 + 1))) % p
  else (eat xs (k / 2 + 2) * (eat xs (k / 2) * eat xs (k / 2) * eat xs (k / 2)) - eat xs (k / 2 - 1) * (eat xs (k / 2 + 1) * eat xs (k / 2 + 1) * eat xs (k / 2 + 1)) * g) % p
def dvL (A B p x : Int) : Nat → List Int
  | 0 => [0, 1, 1, dvT A B x % p, dvQ A B x % p]
  | j + 1 => dvL A B p x j ++ [dvN p (dvG A B x p) (dvL A B p x j) (5 + j)]
theorem dvL_len (A B p x : Int) : ∀ j, (dvL A B p x j).length = 5 + j
  | 0 => rfl
  | j + 1 => by simp only [dvL, List.length_append, dvL_len A B p x j, List.length_singleton]; omega
theorem dvN_bd (p g : Int) (xs : List Int) (k : Nat) (hp : 0 < p) : 0 ≤ dvN p g xs k ∧ dvN p g xs k < p := by
  unfold dvN
  split
  · exact ⟨Int.emod_nonneg _ (by omega), Int.emod_lt_of_pos _ hp⟩
  · split <;> exact ⟨Int.emod_nonneg _ (by omega), Int.emod_lt_of_pos _ hp⟩
theorem dvL_bd (A B p x : Int) (hp : 5 ≤ p) : ∀ j, ∀ v ∈ dvL A B p x j, 0 ≤ v ∧ v < p
  | 0 => by
    intro v hv
    simp only [dvL, List.mem_cons, List.not_mem_nil, or_false] at hv
    have h1 := Int.emod_nonneg (dvT A B x) (show p ≠ 0 by omega)
    have h2 := Int.emod_lt_of_pos (dvT A B x) (show 0 < p by omega)
    have h3 := Int.emod_nonneg (dvQ A B x) (show p ≠ 0 by omega)
    have h4 := Int.emod_lt_of_pos (dvQ A B x) (show 0 < p by omega)
    rcases hv with rfl | rfl | rfl | rfl | rfl <;> omega
  | j + 1 => by
    intro v hv
    rw [dvL, List.mem_append, List.mem_singleton] at hv
    rcases hv with hv | rfl
    · exact dvL_bd A B p x hp j v hv
    · exact dvN_bd _ _ _ _ (by omega)
theorem eat_bd {A B p x : Int} (hp : 5 ≤ p) (j i : Nat) : 0 ≤ eat (dvL A B p x j) i ∧ eat (dvL A B p x j) i < p := by
  unfold eat
  cases h : (dvL A B p x j)[i]? with
  | none => simp; omega
  | some v => simpa using dvL_bd A B p x hp j v (List.mem_of_getElem? h)
/-- the value of number n -/
def dvE (A B p x : Int) (n : Nat) : Int := eat (dvL A B p x (n - 4)) n
theorem dvL_pre (A B p x : Int) (i j n : Nat) (hn : n < 5 + i) : eat (dvL A B p x (i + j)) n = eat (dvL A B p x i) n := by
  induction j with
  | zero => rfl
  | succ j ih =>
    rw [← ih, Nat.add_succ]
    unfold eat
    rw [dvL, List.getElem?_append_left (by rw [dvL_len]; omega)]
theorem dvE_of (A B p x : Int) (j n : Nat) (hn : n < 5 + j) : eat (dvL A B p x j) n = dvE A B p x n := by
  unfold dvE
  have h := dvL_pre A B p x (n - 4) (j - (n - 4)) n (by omega)
  rw [show n - 4 + (j - (n - 4)) = j by omega] at h
  exact h
/-! the two ways to reckon -/
theorem dvT_impl (A B p x : Int) : (3 * (x * x % p) * (x * x % p) + 6 * (A % p) * (x * x % p) + 12 * (B % p) * x - A % p * (A % p) % p) % p = dvT A B x % p := by
  have hx := Cg.mod p (x * x)
  have hA := Cg.mod p A
  have hB := Cg.mod p B
  have h := ((((Cg.refl p 3).mul hx).mul hx).add (((Cg.refl p 6).mul hA).mul hx)).add (((Cg.refl p 12).mul hB).mul (Cg.refl p x)) |>.sub (Cg.mod' (hA.mul hA))
  refine h.eq.trans (congrArg (· % p) ?_)
  unfold dvT
  simp only [Int.mul_assoc]
theorem dvQ_impl (A B p x x2 x3 a b a2 : Int) (h2 : x2 = x * x % p) (h3 : x3 = x2 * x % p) (ha : a = A % p) (hb : b = B % p) (ha2 : a2 = a * a % p) :
    (2 * (x3 * x3 % p + 5 * a * x2 % p * x2 % p + 20 * b * x3 % p - 5 * a2 * x2 % p - 4 * a * b % p * x % p - 8 * b * b % p - a2 * a % p)) % p = dvQ A B x % p := by
  have k2 : Cg p x2 (x * x) := h2 ▸ Cg.mod p _
  have k3 : Cg p x3 (x * x * x) := h3 ▸ Cg.mod' (k2.mul (Cg.refl p x))
  have kA : Cg p a A := ha ▸ Cg.mod p _
  have kB : Cg p b B := hb ▸ Cg.mod p _
  have kA2 : Cg p a2 (A * A) := ha2 ▸ Cg.mod' (kA.mul kA)
  have r := Cg.refl p
  have t1 := Cg.mod' (k3.mul k3)
  have t2 := Cg.mod' ((Cg.mod' (((r 5).mul kA).mul k2)).mul k2)
  have t3 := Cg.mod' (((r 20).mul kB).mul k3)
  have t4 := Cg.mod' (((r 5).mul kA2).mul k2)
  have t5 := Cg.mod' ((Cg.mod' (((r 4).mul kA).mul kB)).mul (r x))
  have t6 := Cg.mod' (((r 8).mul kB).mul kB)
  have t7 := Cg.mod' (kA2.mul kA)
  exact ((r 2).mul ((((((t1.add t2).add t3).sub t4).sub t5).sub t6).sub t7)).eq
theorem dvQ_spec (A B p x x2 x3 a b : Int) (h2 : x2 = x * x % p) (h3 : x3 = x2 * x % p) (ha : a = A % p) (hb : b = B % p) :
    (2 * (x3 * x3 % p + 5 * a * (x2 * x2 % p) % p + 20 * b * x3 % p - 5 * (a * a % p) * x2 % p - 4 * a * b % p * x % p - 8 * b * b % p - a * a % p * a % p)) % p = dvQ A B x % p := by
  have k2 : Cg p x2 (x * x) := h2 ▸ Cg.mod p _
  have k3 : Cg p x3 (x * x * x) := h3 ▸ Cg.mod' (k2.mul (Cg.refl p x))
  have kA : Cg p a A := ha ▸ Cg.mod p _
  have kB : Cg p b B := hb ▸ Cg.mod p _
  have r := Cg.refl p
  have t1 := Cg.mod' (k3.mul k3)
  have t2 := Cg.mod' (((r 5).mul kA).mul (Cg.mod' (k2.mul k2)))
  have t3 := Cg.mod' (((r 20).mul kB).mul k3)
  have t4 := Cg.mod' (((r 5).mul (Cg.mod' (kA.mul kA))).mul k2)
  have t5 := Cg.mod' ((Cg.mod' (((r 4).mul kA).mul kB)).mul (r x))
  have t6 := Cg.mod' (((r 8).mul kB).mul kB)
  have t7 := Cg.mod' ((Cg.mod' (kA.mul kA)).mul kA)
  have h := (r 2).mul ((((((t1.add t2).add t3).sub t4).sub t5).sub t6).sub t7)
  refine h.eq.trans (congrArg (· % p) ?_)
  unfold dvQ
  simp only [Int.mul_assoc]
theorem dvG_impl (A B p x f : Int) (hf : f = dvF A B x % p) : 16 * f % p * f % p = dvG A B x p := by
  have k : Cg p f (dvF A B x) := hf ▸ Cg.mod p _
  exact ((Cg.mod' ((Cg.refl p 16).mul k)).mul k).eq
theorem dvG_spec (A B p x f : Int) (hf : f = dvF A B x % p) : 16 * f * f % p = dvG A B x p := by
  have k : Cg p f (dvF A B x) := hf ▸ Cg.mod p _
  exact (((Cg.refl p 16).mul k).mul k).eq
theorem ev_impl (p a b c d e : Int) : (a * (b * (c * c % p) % p - d * (e * e % p) % p)) % p = (a * (b * (c * c) - d * (e * e))) % p := by
  have r := Cg.refl p
  exact ((r a).mul ((Cg.mod' ((r b).mul (Cg.mod p (c * c)))).sub (Cg.mod' ((r d).mul (Cg.mod p (e * e)))))).eq
theorem ev_spec (p a b c d e : Int) : a * ((b * (c * c % p) % p - d * (e * e % p) % p) % p) % p = (a * (b * (c * c) - d * (e * e))) % p := by
  have r := Cg.refl p
  exact ((r a).mul (Cg.mod' ((Cg.mod' ((r b).mul (Cg.mod p (c * c)))).sub (Cg.mod' ((r d).mul (Cg.mod p (e * e))))))).eq
theorem od0_impl (p a b c d g : Int) : (a * (b * b % p * b % p) % p * g % p - c * (d * d % p * d % p) % p) % p = (a * (b * b * b) * g - c * (d * d * d)) % p := by
  have r := Cg.refl p
  have kb := Cg.mod' ((Cg.mod p (b * b)).mul (r b))
  have kd := Cg.mod' ((Cg.mod p (d * d)).mul (r d))
  exact ((Cg.mod' ((Cg.mod' ((r a).mul kb)).mul (r g))).sub (Cg.mod' ((r c).mul kd))).eq
theorem od1_impl (p a b c d g : Int) : (a * (b * b % p * b % p) % p - c * (d * d % p * d % p) % p * g % p) % p = (a * (b * b * b) - c * (d * d * d) * g) % p := by
  have r := Cg.refl p
  have kb := Cg.mod' ((Cg.mod p (b * b)).mul (r b))
  have kd := Cg.mod' ((Cg.mod p (d * d)).mul (r d))
  exact ((Cg.mod' ((r a).mul kb)).sub (Cg.mod' ((Cg.mod' ((r c).mul kd)).mul (r g)))).eq
theorem od0_spec (p a b c d g : Int) : (g * (a * (b * b % p * b % p) % p) % p - c * (d * d % p * d % p) % p) % p = (a * (b * b * b) * g - c * (d * d * d)) % p := by
  rw [Int.mul_comm g]; exact od0_impl p a b c d g
theorem od1_spec (p a b c d g : Int) : (a * (b * b % p * b % p) % p - g * (c * (d * d % p * d % p) % p) % p) % p = (a * (b * b * b) - c * (d * d * d) * g) % p := by
  rw [Int.mul_comm g]; exact od1_impl p a b c d g
end Go.Proofs.YtgjdgcmmlfmhmaaGreatDoor
