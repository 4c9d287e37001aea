/- Plain: the points modulo a small prime, listed; as lists of numbers. -/
import Derived.Test.YtgjdgcmmlfmhmaaGreatDoorFcP
import Derived.Test.YtgjdgcmmlfmhmaaGreatDoorBgP
namespace Go.Proofs.YtgjdgcmmlfmhmaaGreatDoor

/-! the points, in the order in which they are listed -/
def rowPt (f p x : Int) : Nat → List (Option (Int × Int))
  | 0 => []
  | y + 1 => rowPt f p x y ++ (if (y : Int) * y % p = f then [some (x, (y : Int))] else [])
def fmPt (A B p : Int) : Nat → List (Option (Int × Int))
  | 0 => [none]
  | x + 1 => fmPt A B p x ++ rowPt (fV A B x % p) p x p.toNat
theorem rowPt_mem {f p x : Int} {s : Option (Int × Int)} : ∀ {n : Nat}, s ∈ rowPt f p x n ↔ ∃ y : Nat, y < n ∧ (y : Int) * y % p = f ∧ s = some (x, (y : Int))
  | 0 => by simp [rowPt]
  | n + 1 => by
    unfold rowPt
    rw [List.mem_append, rowPt_mem (n := n)]
    constructor
    · rintro (⟨y, h1, h2⟩ | h)
      · exact ⟨y, by omega, h2⟩
      · split at h
        · rename_i h3
          exact ⟨n, by omega, h3, by simpa using h⟩
        · simp at h
    · rintro ⟨y, h1, h2, h3⟩
      by_cases h4 : y < n
      · exact .inl ⟨y, h4, h2, h3⟩
      · obtain rfl : y = n := by omega
        right
        rw [if_pos h2, h3]
        simp
theorem fmPt_mem {A B p : Int} {s : Option (Int × Int)} : ∀ {n : Nat}, s ∈ fmPt A B p n ↔ s = none ∨ ∃ x y : Nat, x < n ∧ y < p.toNat ∧ (y : Int) * y % p = fV A B x % p ∧ s = some ((x : Int), (y : Int))
  | 0 => by simp [fmPt]
  | n + 1 => by
    unfold fmPt
    rw [List.mem_append, fmPt_mem (n := n), rowPt_mem]
    constructor
    · rintro ((h | ⟨x, y, h1, h2⟩) | ⟨y, h1, h2, h3⟩)
      · exact .inl h
      · exact .inr ⟨x, y, by omega, h2⟩
      · exact .inr ⟨n, y, by omega, h1, h2, h3⟩
    · rintro (h | ⟨x, y, h1, h2, h3, h4⟩)
      · exact .inl (.inl h)
      · by_cases h5 : x < n
        · exact .inl (.inr ⟨x, y, h5, h2, h3, h4⟩)
        · obtain rfl : x = n := by omega
          exact .inr ⟨y, h2, h3, h4⟩
theorem rowPt_len (f p x : Int) : ∀ n, (rowPt f p x n).length ≤ n
  | 0 => by simp [rowPt]
  | n + 1 => by
    have := rowPt_len f p x n
    unfold rowPt
    rw [List.length_append]
    split <;> simp <;> omega
theorem fmPt_len (A B p : Int) : ∀ n, (fmPt A B p n).length ≤ 1 + n * p.toNat
  | 0 => by simp [fmPt]
  | n + 1 => by
    have h1 := fmPt_len A B p n
    have h2 := rowPt_len (fV A B n % p) p n p.toNat
    unfold fmPt
    rw [List.length_append, Nat.add_mul]
    omega
/-- a point with this x among them -/
def fnd (x : Int) (L : List (Option (Int × Int))) : Bool := L.any fun s => match s with | none => false | some q => q.1 == x
theorem fnd_snoc (x : Int) (L : List (Option (Int × Int))) (s : Option (Int × Int)) : fnd x (L ++ [s]) = (fnd x L || match s with | none => false | some q => q.1 == x) := by
  unfold fnd
  simp
/-! points as lists of numbers -/
def ptL : Option (Int × Int) → List Int
  | none => []
  | some s => [s.1, s.2]
def PtIn (p : Int) : Option (Int × Int) → Prop
  | none => True
  | some s => (0 ≤ s.1 ∧ s.1 < p) ∧ (0 ≤ s.2 ∧ s.2 < p)
theorem fmFin_in {p : Int} (hp : 0 < p) (l a b c : Int) : PtIn p (some (fmFin p l a b c)) :=
  ⟨⟨Int.emod_nonneg _ (by omega), Int.emod_lt_of_pos _ hp⟩, ⟨Int.emod_nonneg _ (by omega), Int.emod_lt_of_pos _ hp⟩⟩
theorem fmS_in {A p : Int} (hp : 0 < p) {s t : Option (Int × Int)} (hs : PtIn p s) (ht : PtIn p t) : PtIn p (fmS A p s t) := by
  rcases s with _ | ⟨a, b⟩ <;> rcases t with _ | ⟨c, d⟩
  · exact ht
  · exact ht
  · exact hs
  · unfold fmS
    simp only
    split
    · split
      · exact fmFin_in hp _ _ _ _
      · trivial
    · exact fmFin_in hp _ _ _ _
theorem fmI_in {A p : Int} (hp : 0 < p) {s t : Option (Int × Int)} (hs : PtIn p s) (ht : PtIn p t) : PtIn p (fmI A p s t) := by
  rcases s with _ | ⟨a, b⟩ <;> rcases t with _ | ⟨c, d⟩
  · exact ht
  · exact ht
  · exact hs
  · unfold fmI
    simp only
    split
    · split
      · trivial
      · exact fmFin_in hp _ _ _ _
    · exact fmFin_in hp _ _ _ _
theorem ptL_len (s : Option (Int × Int)) : (ptL s).length ≤ 2 := by cases s <;> simp [ptL]
theorem fmT_step (f : Option (Int × Int) → Option (Int × Int) → Option (Int × Int)) {k : Nat} {n : Int} (hn : 0 < n) (out x : Option (Int × Int)) : fmT f (k + 1) n out x = fmT f k (n / 2) (if n % 2 = 1 then f out x else out) (f x x) := by
  rw [fmT, if_neg (by omega)]
theorem fmT_stop (f : Option (Int × Int) → Option (Int × Int) → Option (Int × Int)) {k : Nat} {n : Int} (hn : n ≤ 0) (out x : Option (Int × Int)) : fmT f k n out x = out := by
  cases k
  · rfl
  · rw [fmT, if_pos hn]
/-- the impl's slope, reckoned with residues -/
theorem slope_mod (p u v : Int) : (u % p * v) % p = (u * v) % p := by
  have r := Cg.refl p
  exact ((Cg.mod p u).mul (r v)).eq
theorem dg_mono : ∀ (x : Nat) {y : Nat}, x ≤ y → (dg x).length ≤ (dg y).length := by
  intro x
  induction x using Nat.strongRecOn with
  | _ x ih =>
    intro y h
    by_cases hx : x = 0
    · subst hx; rw [dg_zero]; simp
    · rw [dg_pos hx, dg_pos (show y ≠ 0 by omega)]
      simp only [List.length_cons]
      exact Nat.succ_le_succ (ih (x / 10000) (by omega) (Nat.div_le_div_right h))
theorem div_abs (M : Int) {q : Int} (hq : 1 ≤ q) : (M / q).natAbs ≤ M.natAbs := by
  have h1 := Int.emod_add_mul_ediv M q
  have h2 := Int.emod_nonneg M (show q ≠ 0 by omega)
  have h3 := Int.emod_lt_of_pos M (show 0 < q by omega)
  by_cases h : 0 ≤ M
  · have h4 : 0 ≤ M / q := Int.ediv_nonneg h (by omega)
    have h5 : M / q ≤ M := Int.ediv_le_self _ h
    omega
  · have h4 : M / q < 0 := Int.ediv_neg_of_neg_of_pos (by omega) (by omega)
    have h5 : M ≤ M / q := by
      have h6 : q * (M / q + 1) ≤ 1 * (M / q + 1) := Int.mul_le_mul_of_nonpos_right hq (by omega)
      rw [Int.mul_add] at h6
      omega
    omega
end Go.Proofs.YtgjdgcmmlfmhmaaGreatDoor
