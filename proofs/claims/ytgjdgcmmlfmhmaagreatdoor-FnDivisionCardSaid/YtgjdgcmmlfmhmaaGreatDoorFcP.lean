/- Plain: sums of points modulo a prime up to 31 have the x that the division values tell (a finite check, by codes of natural numbers). -/
import Derived.Test.YtgjdgcmmlfmhmaaGreatDoorDvM
import Derived.Test.YtgjdgcmmlfmhmaaGreatDoorDpl
namespace Go.Proofs.YtgjdgcmmlfmhmaaGreatDoor

/-! codes of residues and points: natural numbers -/
def nInv (a p : Nat) : Nat := a ^ (p - 2) % p
/-- (a - b) modulo p -/
def nSb (a b p : Nat) : Nat := (a + (p - b % p)) % p
def nPt (x y : Nat) : Nat := 1 + x * 32 + y
def nX (s : Nat) : Nat := (s - 1) / 32
def nY (s : Nat) : Nat := (s - 1) % 32
def nFin (p l s t : Nat) : Nat :=
  let x := nSb (l * l) (nX s + nX t) p
  nPt x (nSb (l * nSb (nX s) x p) (nY s) p)
def nAddS (a p s t : Nat) : Nat :=
  bif s.beq 0 then t else bif t.beq 0 then s else
  bif (nX s).beq (nX t) then
    bif (nY s).beq (nY t) && !(nY s).beq 0 then nFin p ((3 * nX s * nX s + a) * nInv (2 * nY s) p % p) s t
    else 0
  else nFin p (nSb (nY t) (nY s) p * nInv (nSb (nX t) (nX s) p) p % p) s t
def nAddI (a p s t : Nat) : Nat :=
  bif s.beq 0 then t else bif t.beq 0 then s else
  bif (nX s).beq (nX t) then
    bif ((nY s + nY t) % p).beq 0 then 0
    else nFin p ((3 * nX s * nX s + a) * nInv (2 * nY s) p % p) s t
  else nFin p (nSb (nY t) (nY s) p * nInv (nSb (nX t) (nX s) p) p % p) s t
def nAll : Nat → (Nat → Bool) → Bool
  | 0, _ => true
  | n + 1, f => f n && nAll n f
/-- the value is reckoned before it is used -/
def nLet (v : Nat) (f : Nat → Bool) : Bool := match v with | 0 => f 0 | n + 1 => f (n + 1)
def nCub (d : Nat) : Nat := d * d * d
def nOk (p x f f4 d0 d1 d2 n s si : Nat) : Bool :=
  (d1.beq 0 || ((n % 2).beq 0 && f.beq 0)) ||
  ((s.beq si && !s.beq 0) && (nX s).beq (bif (n % 2).beq 1 then nSb x (d0 * d2 % p * f4 % p * nInv (d1 * d1 % p) p) p else nSb x (d0 * d2 % p * nInv (d1 * d1 % p * f4 % p) p) p))
def nChk (p a b x y : Nat) : Bool :=
  nLet ((x * x * x + a * x + b) % p) fun f =>
  nLet (4 * f % p) fun f4 =>
  nLet (16 * f * f % p) fun g =>
  nLet (nSb (3 * x * x * x * x + 6 * a * x * x + 12 * b * x) (a * a) p) fun d3 =>
  nLet (nSb (2 * (x * x * x * (x * x * x) + 5 * a * (x * x) * (x * x) + 20 * b * (x * x * x))) (2 * (5 * (a * a) * (x * x) + 4 * a * b * x + 8 * b * b + a * a * a)) p) fun d4 =>
  nLet (nSb (d4 * g) (nCub d3) p) fun d5 =>
  nLet (d3 * nSb d5 (d4 * d4) p % p) fun d6 =>
  nLet (nSb (d5 * nCub d3) (nCub d4 * g) p) fun d7 =>
  nLet (d4 * nSb (d6 * (d3 * d3)) (d5 * d5) p % p) fun d8 =>
  nLet (nSb (d6 * nCub d4 * g) (d3 * nCub d5) p) fun d9 =>
  nLet (d5 * nSb (d7 * (d4 * d4)) (d3 * (d6 * d6)) p % p) fun d10 =>
  nLet (nSb (d7 * nCub d5) (d4 * nCub d6 * g) p) fun d11 =>
  nLet (d6 * nSb (d8 * (d5 * d5)) (d4 * (d7 * d7)) p % p) fun d12 =>
  nLet (nSb (d8 * nCub d6 * g) (d5 * nCub d7) p) fun d13 =>
  nLet (nPt x y) fun s =>
  nLet (nAddS a p s s) fun s2 =>
  nLet (nAddS a p s2 s2) fun s4 =>
  nLet (nAddS a p s4 s4) fun s8 =>
  nLet (nAddI a p s s) fun i2 =>
  nLet (nAddI a p i2 i2) fun i4 =>
  nLet (nAddI a p i4 i4) fun i8 =>
  nLet (nAddS a p s s2) fun s3 =>
  nLet (nAddI a p s i2) fun i3 =>
  nOk p x f f4 0 1 1 1 s s && nOk p x f f4 1 1 d3 2 s2 i2 && nOk p x f f4 1 d3 d4 3 s3 i3 && nOk p x f f4 d3 d4 d5 4 s4 i4
  && nOk p x f f4 d4 d5 d6 5 (nAddS a p s s4) (nAddI a p s i4) && nOk p x f f4 d5 d6 d7 6 (nAddS a p s2 s4) (nAddI a p i2 i4)
  && nOk p x f f4 d6 d7 d8 7 (nAddS a p s3 s4) (nAddI a p i3 i4) && nOk p x f f4 d7 d8 d9 8 s8 i8
  && nOk p x f f4 d8 d9 d10 9 (nAddS a p s s8) (nAddI a p s i8) && nOk p x f f4 d9 d10 d11 10 (nAddS a p s2 s8) (nAddI a p i2 i8)
  && nOk p x f f4 d10 d11 d12 11 (nAddS a p s3 s8) (nAddI a p i3 i8) && nOk p x f f4 d11 d12 d13 12 (nAddS a p s4 s8) (nAddI a p i4 i8)
def nCurve (p a b : Nat) : Bool :=
  ((4 * a * a * a + 27 * b * b) % p).beq 0 || nAll p fun x => nAll p fun y => !((y * y) % p).beq ((x * x * x + a * x + b) % p) || nChk p a b x y
def nRow (p a : Nat) : Bool := nAll p fun b => nCurve p a b
theorem nAll_of {n : Nat} {f : Nat → Bool} (h : nAll n f = true) : ∀ i, i < n → f i = true := by
  induction n with
  | zero => intro i hi; omega
  | succ n ih =>
    intro i hi
    unfold nAll at h
    rw [Bool.and_eq_true] at h
    rcases Nat.lt_or_eq_of_le (Nat.le_of_lt_succ hi) with h1 | rfl
    · exact ih h.2 i h1
    · exact h.1
theorem nLet_of {v : Nat} {f : Nat → Bool} (h : nLet v f = true) : ∃ d, d = v ∧ f d = true := by
  cases v with
  | zero => exact ⟨_, rfl, h⟩
  | succ n => exact ⟨_, rfl, h⟩
/-! the points as the two sides reckon them -/
def fmFin (p l a b c : Int) : Int × Int := ((l % p * (l % p) - a - c) % p, (l % p * (a - (l % p * (l % p) - a - c) % p) - b) % p)
def fmS (A p : Int) (s t : Option (Int × Int)) : Option (Int × Int) :=
  match s, t with
  | none, t => t
  | some s, none => some s
  | some (a, b), some (c, d) =>
    if a = c then (if b = d ∧ b ≠ 0 then some (fmFin p ((3 * a * a + A) * invM (2 * b) p) a b c) else none)
    else some (fmFin p ((d - b) * invM (c - a) p) a b c)
def fmI (A p : Int) (s t : Option (Int × Int)) : Option (Int × Int) :=
  match s, t with
  | none, t => t
  | some s, none => some s
  | some (a, b), some (c, d) =>
    if a = c then (if (b + d) % p = 0 then none else some (fmFin p ((3 * a * a + A) * invM (2 * b) p) a b c))
    else some (fmFin p ((d - b) * invM (c - a) p) a b c)
/-- the loop: f times doubled and added -/
def fmT (f : Option (Int × Int) → Option (Int × Int) → Option (Int × Int)) : Nat → Int → Option (Int × Int) → Option (Int × Int) → Option (Int × Int)
  | 0, _, out, _ => out
  | k + 1, n, out, x => if n ≤ 0 then out else fmT f k (n / 2) (if n % 2 = 1 then f out x else out) (f x x)
def nDec (s : Nat) : Option (Int × Int) := if s = 0 then none else some ((nX s : Int), (nY s : Int))
def nVal (p s : Nat) : Prop := s ≠ 0 → nX s < p ∧ nY s < p
theorem nX_pt {x y : Nat} (hy : y < 32) : nX (nPt x y) = x := by unfold nX nPt; omega
theorem nY_pt {x y : Nat} (hy : y < 32) : nY (nPt x y) = y := by unfold nY nPt; omega
theorem nSb_cast (a b p : Nat) (hp : 0 < p) : ((nSb a b p : Nat) : Int) = ((a : Int) - b) % p := by
  unfold nSb
  have h := Nat.mod_lt b hp
  rw [Int.natCast_emod, Int.natCast_add, Int.natCast_sub (Nat.le_of_lt h), Int.natCast_emod]
  have e : (a : Int) + ((p : Int) - b % p) = (a - b % p) + p := by omega
  rw [e, Int.add_emod_right]
  exact ((Cg.refl _ _).sub (Cg.mod _ _)).eq
theorem nSb_lt (a b p : Nat) (hp : 0 < p) : nSb a b p < p := Nat.mod_lt _ hp
theorem nInv_cast (a p : Nat) (hp : 2 ≤ p) : ((nInv a p : Nat) : Int) = invM a p := by
  unfold nInv invM powM
  rw [Int.natCast_emod, Int.natCast_pow, show ((p : Int) - 2).toNat = p - 2 by omega]
theorem nFin_dec {p l s t : Nat} {L : Int} (hp : 0 < p) (hp2 : p ≤ 32) (hl : (l : Int) = L % p) : nDec (nFin p l s t) = some (fmFin p L (nX s) (nY s) (nX t)) ∧ nVal p (nFin p l s t) := by
  have h1 := nSb_lt (l * l) (nX s + nX t) p hp
  have h2 := nSb_lt (l * nSb (nX s) (nSb (l * l) (nX s + nX t) p) p) (nY s) p hp
  unfold nFin nVal
  simp only
  rw [nX_pt (by omega), nY_pt (by omega)]
  refine ⟨?_, fun _ => ⟨h1, h2⟩⟩
  unfold nDec
  rw [if_neg (by unfold nPt; omega), nX_pt (by omega), nY_pt (by omega), nSb_cast _ _ _ hp, nSb_cast _ _ _ hp]
  unfold fmFin
  have r := Cg.refl (p : Int)
  have hx : (((l * l : Nat) : Int) - ((nX s + nX t : Nat) : Int)) % p = (L % p * (L % p) - nX s - nX t) % p := by
    rw [Int.natCast_mul, hl, Int.natCast_add]; congr 1; omega
  rw [hx]
  refine congrArg some (Prod.ext rfl ?_)
  show _ % _ = _ % _
  rw [Int.natCast_mul, nSb_cast _ _ _ hp, nSb_cast _ _ _ hp, hx, hl]
  exact (((r _).mul (Cg.mod _ _)).sub (r _)).eq
theorem nDec_zero {s : Nat} (h : s.beq 0 = true) : nDec s = none := by
  rw [Nat.eq_of_beq_eq_true h]; rfl
theorem nDec_pos {s : Nat} (h : s.beq 0 = false) : nDec s = some ((nX s : Int), (nY s : Int)) := by
  unfold nDec; rw [if_neg (Nat.ne_of_beq_eq_false h)]
theorem nAddS_dec {a p s t : Nat} {A : Int} (hp : 2 ≤ p) (hp2 : p ≤ 32) (ha : (a : Int) = A % p) (hs : nVal p s) (ht : nVal p t) : nDec (nAddS a p s t) = fmS A p (nDec s) (nDec t) ∧ nVal p (nAddS a p s t) := by
  unfold nAddS
  cases h1 : s.beq 0
  · cases h2 : t.beq 0
    · have hs' := hs (Nat.ne_of_beq_eq_false h1)
      have ht' := ht (Nat.ne_of_beq_eq_false h2)
      rw [nDec_pos h1, nDec_pos h2]
      simp only [cond_false, fmS]
      cases h3 : (nX s).beq (nX t)
      · have h3' : ¬ ((nX s : Int) = nX t) := by
          intro h
          exact Nat.ne_of_beq_eq_false h3 (by omega)
        simp only [cond_false]
        rw [if_neg h3']
        exact nFin_dec (by omega) hp2 (by
          rw [Int.natCast_emod, Int.natCast_mul, nSb_cast _ _ _ (by omega), nInv_cast _ _ hp, nSb_cast _ _ _ (by omega), invM_mod]
          exact ((Cg.mod _ _).mul (Cg.refl _ _)).eq)
      · have h3' : (nX s : Int) = nX t := by
          rw [Nat.eq_of_beq_eq_true h3]
        simp only [cond_true]
        rw [if_pos h3']
        cases h4 : ((nY s).beq (nY t) && !(nY s).beq 0)
        · rw [if_neg (by
            rintro ⟨h5, h6⟩
            have h7 : nY s = nY t := by omega
            have h8 : nY s ≠ 0 := by omega
            have h9 : (nY s).beq 0 = false := by cases h : (nY s).beq 0; rfl; exact absurd (Nat.eq_of_beq_eq_true h) h8
            rw [← h7, Nat.beq_refl, h9] at h4
            cases h4)]
          exact ⟨rfl, fun h => absurd rfl h⟩
        · rw [Bool.and_eq_true] at h4
          have h5 := Nat.eq_of_beq_eq_true h4.1
          have h6 : nY s ≠ 0 := Nat.ne_of_beq_eq_false (by simpa using h4.2)
          rw [if_pos (by omega)]
          exact nFin_dec (by omega) hp2 (by
            rw [Int.natCast_emod, Int.natCast_mul, nInv_cast _ _ hp, Int.natCast_add, Int.natCast_mul, Int.natCast_mul, Int.natCast_mul, ha]
            exact (((Cg.refl _ _).add (Cg.mod _ _)).mul (Cg.refl _ _)).eq)
    · rw [nDec_zero h2, nDec_pos h1]
      simp only [cond_false, cond_true, fmS]
      exact ⟨nDec_pos h1, hs⟩
  · rw [nDec_zero h1]
    simp only [cond_true, fmS]
    exact ⟨trivial, ht⟩
theorem nAddI_dec {a p s t : Nat} {A : Int} (hp : 2 ≤ p) (hp2 : p ≤ 32) (ha : (a : Int) = A % p) (hs : nVal p s) (ht : nVal p t) : nDec (nAddI a p s t) = fmI A p (nDec s) (nDec t) ∧ nVal p (nAddI a p s t) := by
  unfold nAddI
  cases h1 : s.beq 0
  · cases h2 : t.beq 0
    · have hs' := hs (Nat.ne_of_beq_eq_false h1)
      have ht' := ht (Nat.ne_of_beq_eq_false h2)
      rw [nDec_pos h1, nDec_pos h2]
      simp only [cond_false, fmI]
      cases h3 : (nX s).beq (nX t)
      · have h3' : ¬ ((nX s : Int) = nX t) := by
          intro h
          exact Nat.ne_of_beq_eq_false h3 (by omega)
        simp only [cond_false]
        rw [if_neg h3']
        exact nFin_dec (by omega) hp2 (by
          rw [Int.natCast_emod, Int.natCast_mul, nSb_cast _ _ _ (by omega), nInv_cast _ _ hp, nSb_cast _ _ _ (by omega), invM_mod]
          exact ((Cg.mod _ _).mul (Cg.refl _ _)).eq)
      · have h3' : (nX s : Int) = nX t := by
          rw [Nat.eq_of_beq_eq_true h3]
        simp only [cond_true]
        rw [if_pos h3']
        have e : (((nY s + nY t) % p : Nat) : Int) = ((nY s : Int) + nY t) % p := by rw [Int.natCast_emod, Int.natCast_add]
        cases h4 : ((nY s + nY t) % p).beq 0
        · rw [if_neg (by
            intro h5
            exact Nat.ne_of_beq_eq_false h4 (by omega))]
          exact nFin_dec (by omega) hp2 (by
            rw [Int.natCast_emod, Int.natCast_mul, nInv_cast _ _ hp, Int.natCast_add, Int.natCast_mul, Int.natCast_mul, Int.natCast_mul, ha]
            exact (((Cg.refl _ _).add (Cg.mod _ _)).mul (Cg.refl _ _)).eq)
        · have h6 := Nat.eq_of_beq_eq_true h4
          rw [if_pos (by omega)]
          exact ⟨rfl, fun h => absurd rfl h⟩
    · rw [nDec_zero h2, nDec_pos h1]
      simp only [cond_false, cond_true, fmI]
      exact ⟨nDec_pos h1, hs⟩
  · rw [nDec_zero h1]
    simp only [cond_true, fmI]
    exact ⟨trivial, ht⟩
theorem invM_congr {p u v : Int} (h : Cg p u v) : invM u p = invM v p := by rw [← invM_mod u, h.eq, invM_mod]
theorem dv_gen (A B p x : Int) (k : Nat) (hk : 5 ≤ k) : dvE A B p x k =
    if k % 2 = 0 then (dvE A B p x (k / 2) * (dvE A B p x (k / 2 + 2) * (dvE A B p x (k / 2 - 1) * dvE A B p x (k / 2 - 1)) - dvE A B p x (k / 2 - 2) * (dvE A B p x (k / 2 + 1) * dvE A B p x (k / 2 + 1)))) % p
    else if k / 2 % 2 = 0 then (dvE A B p x (k / 2 + 2) * (dvE A B p x (k / 2) * dvE A B p x (k / 2) * dvE A B p x (k / 2)) * dvG A B x p - dvE A B p x (k / 2 - 1) * (dvE A B p x (k / 2 + 1) * dvE A B p x (k / 2 + 1) * dvE A B p x (k / 2 + 1))) % p
    else (dvE A B p x (k / 2 + 2) * (dvE A B p x (k / 2) * dvE A B p x (k / 2) * dvE A B p x (k / 2)) - dvE A B p x (k / 2 - 1) * (dvE A B p x (k / 2 + 1) * dvE A B p x (k / 2 + 1) * dvE A B p x (k / 2 + 1)) * dvG A B x p) % p := by
  rw [dvE_rec A B p x k hk]
  unfold dvN
  split
  · rw [eat_lt A B p x hk (show k / 2 < k by omega), eat_lt A B p x hk (show k / 2 + 2 < k by omega), eat_lt A B p x hk (show k / 2 - 1 < k by omega), eat_lt A B p x hk (show k / 2 - 2 < k by omega), eat_lt A B p x hk (show k / 2 + 1 < k by omega)]
  · rw [eat_lt A B p x hk (show k / 2 < k by omega), eat_lt A B p x hk (show k / 2 + 2 < k by omega), eat_lt A B p x hk (show k / 2 - 1 < k by omega), eat_lt A B p x hk (show k / 2 + 1 < k by omega)]
/-- the values lean on the residues of the curve's numbers alone -/
theorem dvL_congr {A B A' B' p x : Int} (hA : Cg p A A') (hB : Cg p B B') : ∀ j, dvL A B p x j = dvL A' B' p x j := by
  have r := Cg.refl p
  have hT : dvT A B x % p = dvT A' B' x % p := (((((r (3 * x * x * x * x)).add ((((r 6).mul hA).mul (r x)).mul (r x))).add (((r 12).mul hB).mul (r x))).sub (hA.mul hA))).eq
  have hQ : dvQ A B x % p = dvQ A' B' x % p := by
    unfold dvQ
    exact ((r 2).mul (((((((r (x * x * x * (x * x * x))).add (((((r 5).mul hA).mul (r (x * x))).mul (r (x * x))))).add (((r 20).mul hB).mul (r (x * x * x)))).sub (((r 5).mul (hA.mul hA)).mul (r (x * x)))).sub ((((r 4).mul hA).mul hB).mul (r x))).sub (((r 8).mul hB).mul hB)).sub ((hA.mul hA).mul hA))).eq
  have hF : Cg p (dvF A B x) (dvF A' B' x) := ((r (x * x * x)).add (hA.mul (r x))).add hB
  have hG : dvG A B x p = dvG A' B' x p := (((r 16).mul hF).mul hF).eq
  intro j
  induction j with
  | zero => unfold dvL; rw [hT, hQ]
  | succ j ih => rw [dvL, dvL, ih, hG]
theorem dvE_congr {A B A' B' p x : Int} (hA : Cg p A A') (hB : Cg p B B') (n : Nat) : dvE A B p x n = dvE A' B' p x n := by
  unfold dvE; rw [dvL_congr hA hB]
theorem fV_congr {A B A' B' p x : Int} (hA : Cg p A A') (hB : Cg p B B') : Cg p (fV A B x) (fV A' B' x) := ((Cg.refl p (x * x * x)).add (hA.mul (Cg.refl p x))).add hB
theorem mxV_congr {A B A' B' p x : Int} (hA : Cg p A A') (hB : Cg p B B') (n : Nat) : mxV A B p x n = mxV A' B' p x n := by
  unfold mxV; rw [dvE_congr hA hB, dvE_congr hA hB, dvE_congr hA hB, (fV_congr hA hB).eq]
theorem zB_congr {A B A' B' p x n : Int} (hA : Cg p A A') (hB : Cg p B B') : zB A B p x n = zB A' B' p x n := by
  unfold zB; rw [dvE_congr hA hB, (fV_congr hA hB).eq]
theorem fmS_congr {A A' p : Int} (hA : Cg p A A') (s t : Option (Int × Int)) : fmS A p s t = fmS A' p s t := by
  rcases s with _ | ⟨a, b⟩ <;> rcases t with _ | ⟨c, d⟩ <;> try rfl
  unfold fmS
  simp only
  have h : ∀ i, ((3 * a * a + A) * i) % p = ((3 * a * a + A') * i) % p := fun i => (((Cg.refl p _).add hA).mul (Cg.refl p i)).eq
  unfold fmFin
  rw [h]
theorem fmI_congr {A A' p : Int} (hA : Cg p A A') (s t : Option (Int × Int)) : fmI A p s t = fmI A' p s t := by
  rcases s with _ | ⟨a, b⟩ <;> rcases t with _ | ⟨c, d⟩ <;> try rfl
  unfold fmI
  simp only
  have h : ∀ i, ((3 * a * a + A) * i) % p = ((3 * a * a + A') * i) % p := fun i => (((Cg.refl p _).add hA).mul (Cg.refl p i)).eq
  unfold fmFin
  rw [h]
theorem ev_cast {m u v p : Nat} (hp : 0 < p) : ((m * nSb u v p % p : Nat) : Int) = ((m : Int) * ((u : Int) - v)) % p := by
  rw [Int.natCast_emod, Int.natCast_mul, nSb_cast _ _ _ hp]
  exact ((Cg.refl _ _).mul (Cg.mod _ _)).eq
theorem cub_cast (d : Nat) : ((nCub d : Nat) : Int) = (d : Int) * d * d := by unfold nCub; rw [Int.natCast_mul, Int.natCast_mul]
/-- one number's check, read -/
theorem nOk_of {p x f f4 d0 d1 d2 n s si a b : Nat} (hp : 5 ≤ p) (hf : f = (x * x * x + a * x + b) % p) (hf4 : f4 = 4 * f % p)
    (h0 : (d0 : Int) = dvE a b p x (n - 1)) (h1 : (d1 : Int) = dvE a b p x n) (h2 : (d2 : Int) = dvE a b p x (n + 1)) (h : nOk p x f f4 d0 d1 d2 n s si = true) (hz : zB a b p x n = false) :
    s = si ∧ s ≠ 0 ∧ (nX s : Int) = mxV a b p x n := by
  have hF : (f : Int) = fV a b x % p := by
    rw [hf, Int.natCast_emod, Int.natCast_add, Int.natCast_add, Int.natCast_mul, Int.natCast_mul, Int.natCast_mul]; rfl
  unfold zB at hz
  rw [show (n : Int).toNat = n from rfl, ← h1, ← hF, Bool.or_eq_false_iff] at hz
  have hz1 : d1.beq 0 = false := by
    cases h9 : d1.beq 0
    · rfl
    · have h8 := Nat.eq_of_beq_eq_true h9
      rw [h8] at hz
      exact absurd hz.1 (by decide)
  have hz2 : ((n % 2).beq 0 && f.beq 0) = false := by
    cases h9 : ((n % 2).beq 0 && f.beq 0)
    · rfl
    · rw [Bool.and_eq_true] at h9
      have h8 := Nat.eq_of_beq_eq_true h9.1
      have h7 := Nat.eq_of_beq_eq_true h9.2
      have h6 : ((n : Int) % 2 == 0 && (f : Int) == 0) = true := by rw [Bool.and_eq_true, beq_iff_eq, beq_iff_eq]; omega
      rw [hz.2] at h6; cases h6
  unfold nOk at h
  rw [hz1, hz2, Bool.false_or, Bool.false_or, Bool.and_eq_true, Bool.and_eq_true] at h
  obtain ⟨⟨e1, e2⟩, e3⟩ := h
  refine ⟨Nat.eq_of_beq_eq_true e1, Nat.ne_of_beq_eq_false (by simpa using e2), ?_⟩
  rw [Nat.eq_of_beq_eq_true e3]
  have r := Cg.refl (p : Int)
  have hf4' : (f4 : Int) = 4 * (fV a b x % p) % p := by rw [hf4, Int.natCast_emod, Int.natCast_mul, hF]; rfl
  unfold mxV
  rw [← h0, ← h1, ← h2]
  cases hpar : (n % 2).beq 1
  · have hn1 : ¬ n % 2 = 1 := Nat.ne_of_beq_eq_false hpar
    rw [if_neg hn1, cond_false, nSb_cast _ _ _ (by omega), Int.natCast_mul, Int.natCast_emod, Int.natCast_mul, nInv_cast _ _ (by omega)]
    rw [invM_congr (u := ((d1 * d1 % p * f4 % p : Nat) : Int)) (v := (d1 : Int) * d1 * (4 * (fV a b x % p))) (by
      rw [Int.natCast_emod, Int.natCast_mul, Int.natCast_emod, Int.natCast_mul, hf4']
      exact Cg.mod' ((Cg.mod _ _).mul (Cg.mod _ _)))]
    exact ((r _).sub ((Cg.mod _ _).mul (r _))).eq
  · have hn1 : n % 2 = 1 := Nat.eq_of_beq_eq_true hpar
    rw [if_pos hn1, cond_true, nSb_cast _ _ _ (by omega), Int.natCast_mul, Int.natCast_emod, Int.natCast_mul, Int.natCast_emod, Int.natCast_mul, nInv_cast _ _ (by omega), hf4']
    rw [invM_congr (u := ((d1 * d1 % p : Nat) : Int)) (v := (d1 : Int) * d1) (by
      rw [Int.natCast_emod, Int.natCast_mul]; exact Cg.mod _ _)]
    exact ((r _).sub ((Cg.mod' ((Cg.mod _ _).mul (Cg.mod _ _))).mul (r _))).eq
theorem nVal_pt {p x y : Nat} (hx : x < p) (hy : y < p) (hp : p ≤ 32) : nVal p (nPt x y) := fun _ => by rw [nX_pt (by omega), nY_pt (by omega)]; exact ⟨hx, hy⟩
theorem fmS_none {A p : Int} (t : Option (Int × Int)) : fmS A p none t = t := rfl
theorem fmI_none {A p : Int} (t : Option (Int × Int)) : fmI A p none t = t := rfl
/-- what is found at one number -/
def FcP (a b p x n : Nat) (P : Option (Int × Int)) : Prop :=
  zB a b p x n = false → ∃ X Y, fmT (fmS a p) 5 n none P = some (X, Y) ∧ fmT (fmI a p) 5 n none P = some (X, Y) ∧ X = mxV a b p x n
theorem FcP.mk {a b p x n f f4 d0 d1 d2 s si : Nat} {P : Option (Int × Int)} (hp : 5 ≤ p) (hf : f = (x * x * x + a * x + b) % p) (hf4 : f4 = 4 * f % p)
    (h0 : (d0 : Int) = dvE a b p x (n - 1)) (h1 : (d1 : Int) = dvE a b p x n) (h2 : (d2 : Int) = dvE a b p x (n + 1)) (h : nOk p x f f4 d0 d1 d2 n s si = true)
    (hS : nDec s = fmT (fmS a p) 5 n none P) (hI : nDec si = fmT (fmI a p) 5 n none P) : FcP a b p x n P := by
  intro hz
  obtain ⟨e1, e2, e3⟩ := nOk_of hp hf hf4 h0 h1 h2 h hz
  have hd : nDec s = some ((nX s : Int), (nY s : Int)) := by unfold nDec; rw [if_neg e2]
  exact ⟨_, _, hS ▸ hd, hI ▸ e1 ▸ hd, e3⟩
theorem nChk_of {p a b x y : Nat} (hp : 5 ≤ p) (hp2 : p ≤ 32) (hx : x < p) (hy : y < p) (ha : a < p) (h : nChk p a b x y = true) (n : Nat) (h1 : 1 ≤ n) (h12 : n ≤ 12) : FcP a b p x n (some ((x : Int), (y : Int))) := by
  have hap : (a : Int) = (a : Int) % p := (Int.emod_eq_of_lt (by omega) (by omega)).symm
  have r := Cg.refl (p : Int)
  obtain ⟨f, hf, h⟩ := nLet_of h
  obtain ⟨f4, hf4, h⟩ := nLet_of h
  obtain ⟨g, hg, h⟩ := nLet_of h
  obtain ⟨d3, hd3, h⟩ := nLet_of h
  obtain ⟨d4, hd4, h⟩ := nLet_of h
  obtain ⟨d5, hd5, h⟩ := nLet_of h
  obtain ⟨d6, hd6, h⟩ := nLet_of h
  obtain ⟨d7, hd7, h⟩ := nLet_of h
  obtain ⟨d8, hd8, h⟩ := nLet_of h
  obtain ⟨d9, hd9, h⟩ := nLet_of h
  obtain ⟨d10, hd10, h⟩ := nLet_of h
  obtain ⟨d11, hd11, h⟩ := nLet_of h
  obtain ⟨d12, hd12, h⟩ := nLet_of h
  obtain ⟨d13, hd13, h⟩ := nLet_of h
  obtain ⟨s, hs, h⟩ := nLet_of h
  obtain ⟨s2, hs2, h⟩ := nLet_of h
  obtain ⟨s4, hs4, h⟩ := nLet_of h
  obtain ⟨s8, hs8, h⟩ := nLet_of h
  obtain ⟨i2, hi2, h⟩ := nLet_of h
  obtain ⟨i4, hi4, h⟩ := nLet_of h
  obtain ⟨i8, hi8, h⟩ := nLet_of h
  obtain ⟨s3, hs3, h⟩ := nLet_of h
  obtain ⟨i3, hi3, h⟩ := nLet_of h
  have hpp : 0 < p := by omega
  have hF : (f : Int) = dvF a b x % p := by
    rw [hf, Int.natCast_emod, Int.natCast_add, Int.natCast_add, Int.natCast_mul, Int.natCast_mul, Int.natCast_mul]; rfl
  have E0 : ((0 : Nat) : Int) = dvE a b p x 0 := rfl
  have E1 : ((1 : Nat) : Int) = dvE a b p x 1 := rfl
  have E2 : ((1 : Nat) : Int) = dvE a b p x 2 := rfl
  have G : (g : Int) = dvG a b x p := by
    rw [hg, Int.natCast_emod, Int.natCast_mul, Int.natCast_mul, hF]
    exact (((r 16).mul (Cg.mod _ _)).mul (Cg.mod _ _)).eq
  have E3 : (d3 : Int) = dvE a b p x 3 := by
    rw [hd3, nSb_cast _ _ _ hpp]
    show _ = dvT a b x % p
    unfold dvT
    push_cast
    rfl
  have E4 : (d4 : Int) = dvE a b p x 4 := by
    rw [hd4, nSb_cast _ _ _ hpp]
    show _ = dvQ a b x % p
    unfold dvQ
    push_cast
    congr 1
    grind
  have E5 : (d5 : Int) = dvE a b p x 5 := by
    rw [hd5, nSb_cast _ _ _ hpp, dv_gen a b p x 5 (by omega)]
    show _ = (dvE a b p x 4 * (dvE a b p x 2 * dvE a b p x 2 * dvE a b p x 2) * dvG a b x p - dvE a b p x 1 * (dvE a b p x 3 * dvE a b p x 3 * dvE a b p x 3)) % p
    rw [← E1, ← E2, ← E3, ← E4, ← G, Int.natCast_mul, cub_cast]
    congr 1; simp
  have E6 : (d6 : Int) = dvE a b p x 6 := by
    rw [hd6, ev_cast hpp, dv_gen a b p x 6 (by omega)]
    show _ = (dvE a b p x 3 * (dvE a b p x 5 * (dvE a b p x 2 * dvE a b p x 2) - dvE a b p x 1 * (dvE a b p x 4 * dvE a b p x 4))) % p
    rw [← E1, ← E2, ← E3, ← E4, ← E5, Int.natCast_mul]
    congr 1; simp
  have E7 : (d7 : Int) = dvE a b p x 7 := by
    rw [hd7, nSb_cast _ _ _ hpp, dv_gen a b p x 7 (by omega)]
    show _ = (dvE a b p x 5 * (dvE a b p x 3 * dvE a b p x 3 * dvE a b p x 3) - dvE a b p x 2 * (dvE a b p x 4 * dvE a b p x 4 * dvE a b p x 4) * dvG a b x p) % p
    rw [← E2, ← E3, ← E4, ← E5, ← G, Int.natCast_mul, Int.natCast_mul, cub_cast, cub_cast]
    congr 1; simp
  have E8 : (d8 : Int) = dvE a b p x 8 := by
    rw [hd8, ev_cast hpp, dv_gen a b p x 8 (by omega)]
    show _ = (dvE a b p x 4 * (dvE a b p x 6 * (dvE a b p x 3 * dvE a b p x 3) - dvE a b p x 2 * (dvE a b p x 5 * dvE a b p x 5))) % p
    rw [← E2, ← E3, ← E4, ← E5, ← E6, Int.natCast_mul, Int.natCast_mul, Int.natCast_mul]
    congr 1; simp
  have E9 : (d9 : Int) = dvE a b p x 9 := by
    rw [hd9, nSb_cast _ _ _ hpp, dv_gen a b p x 9 (by omega)]
    show _ = (dvE a b p x 6 * (dvE a b p x 4 * dvE a b p x 4 * dvE a b p x 4) * dvG a b x p - dvE a b p x 3 * (dvE a b p x 5 * dvE a b p x 5 * dvE a b p x 5)) % p
    rw [← E3, ← E4, ← E5, ← E6, ← G, Int.natCast_mul, Int.natCast_mul, Int.natCast_mul, cub_cast, cub_cast]
  have E10 : (d10 : Int) = dvE a b p x 10 := by
    rw [hd10, ev_cast hpp, dv_gen a b p x 10 (by omega)]
    show _ = (dvE a b p x 5 * (dvE a b p x 7 * (dvE a b p x 4 * dvE a b p x 4) - dvE a b p x 3 * (dvE a b p x 6 * dvE a b p x 6))) % p
    rw [← E3, ← E4, ← E5, ← E6, ← E7]
    push_cast
    rfl
  have E11 : (d11 : Int) = dvE a b p x 11 := by
    rw [hd11, nSb_cast _ _ _ hpp, dv_gen a b p x 11 (by omega)]
    show _ = (dvE a b p x 7 * (dvE a b p x 5 * dvE a b p x 5 * dvE a b p x 5) - dvE a b p x 4 * (dvE a b p x 6 * dvE a b p x 6 * dvE a b p x 6) * dvG a b x p) % p
    rw [← E4, ← E5, ← E6, ← E7, ← G, Int.natCast_mul, Int.natCast_mul, Int.natCast_mul, cub_cast, cub_cast]
  have E12 : (d12 : Int) = dvE a b p x 12 := by
    rw [hd12, ev_cast hpp, dv_gen a b p x 12 (by omega)]
    show _ = (dvE a b p x 6 * (dvE a b p x 8 * (dvE a b p x 5 * dvE a b p x 5) - dvE a b p x 4 * (dvE a b p x 7 * dvE a b p x 7))) % p
    rw [← E4, ← E5, ← E6, ← E7, ← E8]
    push_cast
    rfl
  have E13 : (d13 : Int) = dvE a b p x 13 := by
    rw [hd13, nSb_cast _ _ _ hpp, dv_gen a b p x 13 (by omega)]
    show _ = (dvE a b p x 8 * (dvE a b p x 6 * dvE a b p x 6 * dvE a b p x 6) * dvG a b x p - dvE a b p x 5 * (dvE a b p x 7 * dvE a b p x 7 * dvE a b p x 7)) % p
    rw [← E5, ← E6, ← E7, ← E8, ← G, Int.natCast_mul, Int.natCast_mul, Int.natCast_mul, cub_cast, cub_cast]
  have v := nVal_pt hx hy hp2
  rw [← hs] at v
  have hP : nDec s = some ((x : Int), (y : Int)) := by
    unfold nDec; rw [hs, if_neg (by unfold nPt; omega), nX_pt (by omega), nY_pt (by omega)]
  have S := fun {u t : Nat} (hu : nVal p u) (ht : nVal p t) => @nAddS_dec a p u t a (by omega) hp2 hap hu ht
  have I := fun {u t : Nat} (hu : nVal p u) (ht : nVal p t) => @nAddI_dec a p u t a (by omega) hp2 hap hu ht
  obtain ⟨q2, v2⟩ := S v v; rw [← hs2] at q2 v2
  obtain ⟨q4, v4⟩ := S v2 v2; rw [← hs4] at q4 v4
  obtain ⟨q8, v8⟩ := S v4 v4; rw [← hs8] at q8 v8
  obtain ⟨q3, v3⟩ := S v v2; rw [← hs3] at q3 v3
  obtain ⟨j2, u2⟩ := I v v; rw [← hi2] at j2 u2
  obtain ⟨j4, u4⟩ := I u2 u2; rw [← hi4] at j4 u4
  obtain ⟨j8, u8⟩ := I u4 u4; rw [← hi8] at j8 u8
  obtain ⟨j3, u3⟩ := I v u2; rw [← hi3] at j3 u3
  simp only [Bool.and_eq_true] at h
  obtain ⟨⟨⟨⟨⟨⟨⟨⟨⟨⟨⟨c1, c2⟩, c3⟩, c4⟩, c5⟩, c6⟩, c7⟩, c8⟩, c9⟩, c10⟩, c11⟩, c12⟩ := h
  rcases (by omega : n = 1 ∨ n = 2 ∨ n = 3 ∨ n = 4 ∨ n = 5 ∨ n = 6 ∨ n = 7 ∨ n = 8 ∨ n = 9 ∨ n = 10 ∨ n = 11 ∨ n = 12) with rfl | rfl | rfl | rfl | rfl | rfl | rfl | rfl | rfl | rfl | rfl | rfl
  · exact FcP.mk hp hf hf4 E0 E1 E2 c1 hP hP
  · exact FcP.mk hp hf hf4 E1 E2 E3 c2 (by rw [q2, hP]; rfl) (by rw [j2, hP]; rfl)
  · exact FcP.mk hp hf hf4 E2 E3 E4 c3 (by rw [q3, q2, hP]; rfl) (by rw [j3, j2, hP]; rfl)
  · exact FcP.mk hp hf hf4 E3 E4 E5 c4 (by rw [q4, q2, hP]; rfl) (by rw [j4, j2, hP]; rfl)
  · exact FcP.mk hp hf hf4 E4 E5 E6 c5 (by rw [(S v v4).1, q4, q2, hP]; rfl) (by rw [(I v u4).1, j4, j2, hP]; rfl)
  · exact FcP.mk hp hf hf4 E5 E6 E7 c6 (by rw [(S v2 v4).1, q4, q2, hP]; rfl) (by rw [(I u2 u4).1, j4, j2, hP]; rfl)
  · exact FcP.mk hp hf hf4 E6 E7 E8 c7 (by rw [(S v3 v4).1, q3, q4, q2, hP]; rfl) (by rw [(I u3 u4).1, j3, j4, j2, hP]; rfl)
  · exact FcP.mk hp hf hf4 E7 E8 E9 c8 (by rw [q8, q4, q2, hP]; rfl) (by rw [j8, j4, j2, hP]; rfl)
  · exact FcP.mk hp hf hf4 E8 E9 E10 c9 (by rw [(S v v8).1, q8, q4, q2, hP]; rfl) (by rw [(I v u8).1, j8, j4, j2, hP]; rfl)
  · exact FcP.mk hp hf hf4 E9 E10 E11 c10 (by rw [(S v2 v8).1, q8, q4, q2, hP]; rfl) (by rw [(I u2 u8).1, j8, j4, j2, hP]; rfl)
  · exact FcP.mk hp hf hf4 E10 E11 E12 c11 (by rw [(S v3 v8).1, q3, q8, q4, q2, hP]; rfl) (by rw [(I u3 u8).1, j3, j8, j4, j2, hP]; rfl)
  · exact FcP.mk hp hf hf4 E11 E12 E13 c12 (by rw [(S v4 v8).1, q8, q4, q2, hP]; rfl) (by rw [(I u4 u8).1, j8, j4, j2, hP]; rfl)
theorem nRow_of {p a b x y : Nat} (h : nAll p (nRow p) = true) (ha : a < p) (hb : b < p) (hx : x < p) (hy : y < p) (hd : (4 * a * a * a + 27 * b * b) % p ≠ 0) (hon : (y * y) % p = (x * x * x + a * x + b) % p) : nChk p a b x y = true := by
  have h1 := nAll_of h a ha
  have h2 := nAll_of h1 b hb
  unfold nCurve at h2
  rw [Bool.or_eq_true] at h2
  rcases h2 with h2 | h2
  · exact absurd (Nat.eq_of_beq_eq_true h2) hd
  · have h3 := nAll_of (nAll_of h2 x hx) y hy
    rw [hon, Nat.beq_refl] at h3
    simpa using h3
theorem fc_nat {A B x y : Int} {p : Nat} (h : nAll p (nRow p) = true) (hp : 5 ≤ p) (hp2 : p ≤ 32) (hx : 0 ≤ x ∧ x < p) (hy : 0 ≤ y ∧ y < p) (hd : disc A B % p ≠ 0) (hon : y * y % p = fV A B x % p)
    (n : Int) (hn : 1 ≤ n ∧ n ≤ 12) (hz : zB A B p x n = false) :
    ∃ X Y, fmT (fmS A p) 5 n none (some (x, y)) = some (X, Y) ∧ fmT (fmI A p) 5 n none (some (x, y)) = some (X, Y) ∧ X = mxV A B p x n.toNat := by
  have a1 := Int.emod_nonneg A (show (p : Int) ≠ 0 by omega)
  have a2 := Int.emod_lt_of_pos A (show (0 : Int) < p by omega)
  have b1 := Int.emod_nonneg B (show (p : Int) ≠ 0 by omega)
  have b2 := Int.emod_lt_of_pos B (show (0 : Int) < p by omega)
  obtain ⟨a, ha⟩ := Int.eq_ofNat_of_zero_le a1
  obtain ⟨b, hb⟩ := Int.eq_ofNat_of_zero_le b1
  obtain ⟨x, rfl⟩ := Int.eq_ofNat_of_zero_le hx.1
  obtain ⟨y, rfl⟩ := Int.eq_ofNat_of_zero_le hy.1
  obtain ⟨n, rfl⟩ := Int.eq_ofNat_of_zero_le (show 0 ≤ n by omega)
  have hA : Cg p A a := by rw [← ha]; exact (Cg.mod _ _).symm
  have hB : Cg p B b := by rw [← hb]; exact (Cg.mod _ _).symm
  have r := Cg.refl (p : Int)
  have hd' : (4 * a * a * a + 27 * b * b) % p ≠ 0 := by
    intro h9
    apply hd
    have e : disc A B % p = (((4 * a * a * a + 27 * b * b : Nat)) : Int) % p := by
      push_cast
      exact (((((r 4).mul hA).mul hA).mul hA).add (((r 27).mul hB).mul hB)).eq
    rw [e, ← Int.natCast_emod, h9]; rfl
  have hon' : (y * y) % p = (x * x * x + a * x + b) % p := by
    have e : fV A B x % p = ((x * x * x + a * x + b : Nat) : Int) % p := by
      push_cast
      exact (fV_congr hA hB).eq
    rw [e, ← Int.natCast_mul, ← Int.natCast_emod, ← Int.natCast_emod] at hon
    exact Int.ofNat_inj.1 hon
  have hc := nRow_of h (show a < p by omega) (show b < p by omega) (by omega) (by omega) hd' hon'
  have h9 := nChk_of hp hp2 (by omega) (by omega) (by omega) hc n (by omega) (by omega) (by rw [← zB_congr hA hB]; exact hz)
  have e1 : fmS (a : Int) p = fmS A p := by funext s t; exact (fmS_congr hA s t).symm
  have e2 : fmI (a : Int) p = fmI A p := by funext s t; exact (fmI_congr hA s t).symm
  rw [e1, e2] at h9
  obtain ⟨X, Y, h1, h2, h3⟩ := h9
  exact ⟨X, Y, h1, h2, h3.trans (mxV_congr hA hB n).symm⟩
end Go.Proofs.YtgjdgcmmlfmhmaaGreatDoor
