/- Several texts joined: FrA FrB Trs. -/
import Derived.Test.YtcnfjapoopdiaaaMga
/- FrA -/
namespace Go.Proofs.Ytcnfjapoopdiaaa
open Go.RowKit

/-! the greater form has no more representations -/
theorem sumF_le {f g : Int → Int} (h : ∀ x, f x ≤ g x) : ∀ k, sumF f k ≤ sumF g k
  | 0 => Int.le_refl _
  | k + 1 => by
    have h1 := sumF_le h k
    have h2 := h ((k : Int) - 6)
    unfold sumF
    omega
theorem sq_nn (x : Int) : 0 ≤ x * x := by
  rcases Int.le_total 0 x with h | h
  · exact Int.mul_nonneg h h
  · have := Int.mul_nonneg (show 0 ≤ -x by omega) (show 0 ≤ -x by omega)
    rwa [Int.neg_mul_neg] at this
theorem hit_le {a n : Int} (ha : 0 ≤ a) (hn : n ≤ 31) (x y z : Int) : hitF a 32 n x y z ≤ hitF a 8 n x y z := by
  have h1 := hitF_bd a 8 n x y z
  unfold hitF at *
  split
  · rename_i h
    have hz : z = 0 := by
      have e1 : a * x * x = a * (x * x) := Int.mul_assoc _ _ _
      have e2 : 32 * z * z = 32 * (z * z) := Int.mul_assoc _ _ _
      have p1 := Int.mul_nonneg ha (sq_nn x)
      have p2 := sq_nn y
      have p3 := sq_nn z
      have p4 : z * z = 0 := by omega
      rcases Int.mul_eq_zero.1 p4 with h | h <;> exact h
    subst hz
    rw [if_pos (by simpa using h)]
    exact Int.le_refl _
  · split <;> omega
theorem form_le {a n : Int} (ha : 0 ≤ a) (hn : n ≤ 31) : formV a 32 n ≤ formV a 8 n :=
  sumF_le (fun x => sumF_le (fun y => sumF_le (hit_le ha hn x y) 13) 13) 13
theorem fc_le {n : Int} (hn : n ≤ 31) : fcB n ≤ fcA n := by
  unfold fcA fcB
  split
  · exact form_le (by omega) hn
  · exact form_le (by omega) (by omega)
/-! first triangles, by reckoning -/
def force {α : Type} (n : Nat) (f : Nat → α) : α := match n with | 0 => f 0 | k + 1 => f (k + 1)
theorem force_eq {α : Type} (n : Nat) (f : Nat → α) : force n f = f n := by cases n <;> rfl
def bsN (q : Nat) : Nat → Nat → Nat → Nat
  | 0, lo, _ => lo
  | f + 1, lo, hi => force ((lo + hi) / 2) fun m => match Nat.ble (m * m) q with | true => bsN q f m hi | false => bsN q f lo m
def nsqAt (q s : Nat) : Bool := Nat.ble (s * s) q && Nat.blt q ((s + 1) * (s + 1)) && !(Nat.beq (s * s) q)
def nsq (q : Nat) : Bool := force (bsN q 13 0 8192) fun s => nsqAt q s
def rowK (k u : Nat) : Nat → Bool
  | 0 => true
  | v + 1 => (force (u * (v + 1) * (u * u - (v + 1) * (v + 1))) fun a => match Nat.beq (a % k) 0 with | true => force (a / k) nsq | false => true) && rowK k u v
def allK (k : Nat) : Nat → Bool
  | 0 => true
  | u + 1 => rowK k (u + 1) u && allK k u
theorem nsq_no {q : Nat} (h : nsq q = true) (r : Nat) : r * r ≠ q := by
  unfold nsq at h
  rw [force_eq] at h
  generalize bsN q 13 0 8192 = s at h
  unfold nsqAt at h
  simp only [Bool.and_eq_true, Bool.not_eq_true', Nat.blt_eq, Nat.ble_eq] at h
  obtain ⟨⟨h1, h2⟩, h3⟩ := h
  have h4 : s * s ≠ q := fun e => by rw [e] at h3; simp at h3
  intro e
  rcases Nat.lt_or_ge s r with hh | hh
  · have := Nat.mul_le_mul (show s + 1 ≤ r from hh) (show s + 1 ≤ r from hh); omega
  · have := Nat.mul_le_mul hh hh; omega
theorem sqB_no {q : Nat} (h : nsq q = true) : sqB (q : Int) = false := by
  unfold sqB rtI
  have := nsq_no h (rt q)
  simp only [Int.toNat_natCast, beq_eq_false_iff_ne, ne_eq]
  intro e
  exact this (by exact_mod_cast e)
theorem arA_nat {u v : Nat} (h : v ≤ u) : arA u v = ((u * v * (u * u - v * v) : Nat) : Int) := by
  have := Nat.mul_le_mul h h
  unfold arA
  rw [Int.natCast_mul, Int.natCast_mul, Int.natCast_sub this, Int.natCast_mul, Int.natCast_mul]
theorem rowK_spec {k u : Nat} : ∀ m, m ≤ u → rowK k u m = true → ∀ v, 1 ≤ v → v ≤ m → scB k u v = false
  | 0, _, _, v, h1, h2 => by omega
  | m + 1, hm, h, v, h1, h2 => by
    unfold rowK at h
    rw [force_eq, Bool.and_eq_true] at h
    by_cases hv : v ≤ m
    · exact rowK_spec m (by omega) h.2 v h1 hv
    · obtain rfl : v = m + 1 := by omega
      have h3 := h.1
      unfold scB
      rw [arA_nat hm]
      generalize u * (m + 1) * (u * u - (m + 1) * (m + 1)) = a at h3
      have e1 : ((a : Int) % (k : Int)) = ((a % k : Nat) : Int) := by simp
      have e2 : ((a : Int) / (k : Int)) = ((a / k : Nat) : Int) := by simp
      rw [e1, e2]
      split at h3
      · rw [force_eq] at h3
        rw [sqB_no h3, Bool.and_false]
      · rename_i hb
        have : ((((a % k : Nat) : Int)) == 0) = false := by
          have h5 : a % k ≠ 0 := Nat.ne_of_beq_eq_false hb
          simp only [beq_eq_false_iff_ne, ne_eq]
          omega
        rw [this, Bool.false_and]
theorem allK_spec {k : Nat} : ∀ m, allK k m = true → ∀ u v, 1 ≤ v → v < u → u ≤ m → scB k u v = false
  | 0, _, u, v, h1, h2, h3 => by omega
  | m + 1, h, u, v, h1, h2, h3 => by
    unfold allK at h
    rw [Bool.and_eq_true] at h
    by_cases hu : u ≤ m
    · exact allK_spec m h.2 u v h1 h2 hu
    · obtain rfl : u = m + 1 := by omega
      exact rowK_spec m (by omega) h.1 v h1 (by omega)
theorem scB_int {k : Nat} {u v : Int} (h1 : 1 ≤ v) (h2 : v < u) (h : scB k u.toNat v.toNat = false) : scB k u v = false := by
  rwa [show ((u.toNat : Nat) : Int) = u by omega, show ((v.toNat : Nat) : Int) = v by omega] at h
theorem ft_none {k : Nat} (h : allK k 100 = true) {m : Int} (hm : m ≤ 100) : ftB k m = false := by
  have he : ¬ ∃ p, Fst k m p := fun ⟨p, ⟨h1, h2, h3⟩, h4, _⟩ => by
    have := scB_int h1 h2 (allK_spec 100 h p.1.toNat p.2.toNat (by omega) (by omega) (by omega))
    rw [this] at h4; cases h4
  unfold ftB
  simpa using he
theorem ft_at {k U V : Nat} (h : (allK k (U - 1) && rowK k U (V - 1)) = true) (hs : scB k U V = true) (h1 : 1 ≤ V) (h2 : V < U) {m : Int} (hf : ftB k m = true) : ftV k m = scT k U V := by
  rw [Bool.and_eq_true] at h
  have hn : NoS k U V := fun u v g1 g2 g3 => by
    rcases g3 with g3 | ⟨g3, g4⟩
    · exact scB_int g1 g2 (allK_spec _ h.1 u.toNat v.toNat (by omega) (by omega) (by omega))
    · subst g3
      have := rowK_spec _ (by omega) h.2 v.toNat (by omega) (by omega)
      rwa [show ((v.toNat : Nat) : Int) = v by omega] at this
  have he : ∃ p, Fst k m p := by unfold ftB at hf; simpa using hf
  obtain ⟨p, hp⟩ := he
  have hu : p = ((U : Int), (V : Int)) := by
    obtain ⟨⟨g1, g2, g3⟩, g4, g5⟩ := id hp
    by_cases a : p.1 < U ∨ (p.1 = U ∧ p.2 < V)
    · have := hn p.1 p.2 g1 g2 a; rw [this] at g4; cases g4
    · by_cases b : (U : Int) < p.1 ∨ ((U : Int) = p.1 ∧ (V : Int) < p.2)
      · have := g5 U V (by omega) (by omega) b; rw [this] at hs; cases hs
      · obtain ⟨p1, p2⟩ := p
        simp only at a b
        rw [show p1 = U by omega, show p2 = V by omega]
  subst hu
  exact (ft_yes hp).2
theorem rt_sq {q r : Int} (h0 : 0 ≤ r) (h : r * r = q) : rtI q = r := by
  have h1 : (r + 1) * (r + 1) = r * r + 2 * r + 1 := by grind
  exact (rtI_uniq h0 (by omega) (by omega)).symm
theorem sq_yes {q r : Int} (h0 : 0 ≤ r) (h : r * r = q) : sqB q = true := by
  unfold sqB
  rw [rt_sq h0 h, h]
  simp
end Go.Proofs.Ytcnfjapoopdiaaa

/- FrB -/
namespace Go.Proofs.Ytcnfjapoopdiaaa
open Go.RowKit

theorem may_5 : mayB 5 = true := by decide +kernel
theorem may_6 : mayB 6 = true := by decide +kernel
theorem may_7 : mayB 7 = true := by decide +kernel
theorem may_14 : mayB 14 = true := by decide +kernel
theorem may_15 : mayB 15 = true := by decide +kernel
theorem may_21 : mayB 21 = true := by decide +kernel
theorem may_22 : mayB 22 = true := by decide +kernel
theorem may_30 : mayB 30 = true := by decide +kernel
theorem none_1 : allK 1 100 = true := by decide +kernel
theorem none_2 : allK 2 100 = true := by decide +kernel
theorem none_3 : allK 3 100 = true := by decide +kernel
theorem none_10 : allK 10 100 = true := by decide +kernel
theorem none_11 : allK 11 100 = true := by decide +kernel
theorem none_13 : allK 13 100 = true := by decide +kernel
theorem none_17 : allK 17 100 = true := by decide +kernel
theorem none_19 : allK 19 100 = true := by decide +kernel
theorem none_23 : allK 23 100 = true := by decide +kernel
theorem none_26 : allK 26 100 = true := by decide +kernel
theorem none_29 : allK 29 100 = true := by decide +kernel
theorem none_31 : allK 31 100 = true := by decide +kernel
theorem area_no {k : Int} (h : areaB k = true) (h2 : (inB k 1 31 && free4 k) = false) : False := by
  unfold areaB at h
  rw [Bool.and_eq_true] at h
  have h3 := inB_true h.1
  rw [free_small (by omega) (by omega)] at h
  rw [h.1, h.2] at h2
  cases h2
theorem sc_may {k u v : Int} (ha : areaB k = true) (hu : u ≤ 100) (h1 : 1 ≤ v) (h2 : v < u) (hs : scB k u v = true) : mayB k = true := by
  have hk := congA_of ha
  have hn : ∀ n : Nat, k = n → allK n 100 = true → False := fun n e h => by
    subst e
    have := scB_int h1 h2 (allK_spec 100 h u.toNat v.toNat (by omega) (by omega) (by omega))
    rw [this] at hs; cases hs
  rcases (by omega : k = 1 ∨ k = 2 ∨ k = 3 ∨ k = 4 ∨ k = 5 ∨ k = 6 ∨ k = 7 ∨ k = 8 ∨ k = 9 ∨ k = 10 ∨ k = 11 ∨ k = 12 ∨ k = 13 ∨ k = 14 ∨ k = 15 ∨ k = 16 ∨ k = 17 ∨ k = 18 ∨ k = 19 ∨ k = 20 ∨ k = 21 ∨ k = 22 ∨ k = 23 ∨ k = 24 ∨ k = 25 ∨ k = 26 ∨ k = 27 ∨ k = 28 ∨ k = 29 ∨ k = 30 ∨ k = 31) with rfl | rfl | rfl | rfl | rfl | rfl | rfl | rfl | rfl | rfl | rfl | rfl | rfl | rfl | rfl | rfl | rfl | rfl | rfl | rfl | rfl | rfl | rfl | rfl | rfl | rfl | rfl | rfl | rfl | rfl | rfl
  · exact (hn 1 rfl none_1).elim
  · exact (hn 2 rfl none_2).elim
  · exact (hn 3 rfl none_3).elim
  · exact (area_no ha (by kernel_rfl)).elim
  · exact may_5
  · exact may_6
  · exact may_7
  · exact (area_no ha (by kernel_rfl)).elim
  · exact (area_no ha (by kernel_rfl)).elim
  · exact (hn 10 rfl none_10).elim
  · exact (hn 11 rfl none_11).elim
  · exact (area_no ha (by kernel_rfl)).elim
  · exact (hn 13 rfl none_13).elim
  · exact may_14
  · exact may_15
  · exact (area_no ha (by kernel_rfl)).elim
  · exact (hn 17 rfl none_17).elim
  · exact (area_no ha (by kernel_rfl)).elim
  · exact (hn 19 rfl none_19).elim
  · exact (area_no ha (by kernel_rfl)).elim
  · exact may_21
  · exact may_22
  · exact (hn 23 rfl none_23).elim
  · exact (area_no ha (by kernel_rfl)).elim
  · exact (area_no ha (by kernel_rfl)).elim
  · exact (hn 26 rfl none_26).elim
  · exact (area_no ha (by kernel_rfl)).elim
  · exact (area_no ha (by kernel_rfl)).elim
  · exact (hn 29 rfl none_29).elim
  · exact may_30
  · exact (hn 31 rfl none_31).elim
end Go.Proofs.Ytcnfjapoopdiaaa

/- Trs -/
namespace Go.Proofs.Ytcnfjapoopdiaaa
open Go.RowKit

theorem sc_tri {n u v : Int} (h : (stB n u v && scB n u v) = true) : (1 ≤ n ∧ n ≤ 31) ∧ mayB n = true ∧ ∃ p q r s t u' : Int, stV n u v = .agg #[.int .i64 p, .int .i64 q, .int .i64 r, .int .i64 s, .int .i64 t, .int .i64 u'] ∧ TriV n p q r s t u' := by
  rw [Bool.and_eq_true] at h
  obtain ⟨h1, h2⟩ := h
  have h3 := h1
  unfold stB at h3
  simp only [Bool.and_eq_true] at h3
  have hn := areaB_bd h3.1.1
  have hu := inB_true h3.1.2
  have hv := inB_true h3.2
  have hsc := h2
  unfold scB at hsc
  simp only [Bool.and_eq_true, beq_iff_eq] at hsc
  obtain ⟨hm0, hsq⟩ := hsc
  have hd := sc_facts hn hu hv hm0
  have hk2 : rtI (arA u v / n) * rtI (arA u v / n) = arA u v / n := eq_of_beq hsq
  have hA : arA u v = n * (rtI (arA u v / n) * rtI (arA u v / n)) := by
    rw [hk2]
    have := Int.mul_ediv_add_emod (arA u v) n
    omega
  obtain ⟨b1, b2, b3, b4, b5⟩ := ar_bd hu hv
  have hass : 2 * u * v = 2 * (u * v) := Int.mul_assoc 2 u v
  have hmay := sc_may h3.1.1 hu.2 hv.1 (by omega) h2
  refine ⟨hn, hmay, ?_⟩
  have e : stV n u v = scT n u v := by unfold stV scV; rw [h1, h2]; rfl
  rw [e]
  unfold scT
  generalize rtI (arA u v / n) = k at *
  have g1 := mk_small (n := u * u - v * v) (d := k) (by omega) (by omega)
  have g2 := mk_small (n := 2 * u * v) (d := k) (by omega) (by omega)
  have g3 := mk_small (n := u * u + v * v) (d := k) (by omega) (by omega)
  have k0 : k ≠ 0 := by omega
  have w1 := fv_mk (n := u * u - v * v) k0
  have w2 := fv_mk (n := 2 * u * v) k0
  have w3 := fv_mk (n := u * u + v * v) k0
  have kr := cast_ne k0
  have hAr : (u : Rat) * (v : Rat) * ((u : Rat) * (u : Rat) - (v : Rat) * (v : Rat)) = (n : Rat) * ((k : Rat) * (k : Rat)) := by
    have := congrArg (fun z : Int => (z : Rat)) hA
    unfold arA at this
    simpa only [Rat.intCast_mul, Rat.intCast_sub] using this
  refine triV_ord hn.1 g1 g2 g3 ?_ ?_
  · rw [w1, w2, w3]
    simp only [Rat.intCast_mul, Rat.intCast_sub, Rat.intCast_add]
    rw [show ((2 : Int) : Rat) = 2 by rfl]
    grind
  · rw [w1, w2]
    simp only [Rat.intCast_mul, Rat.intCast_sub]
    rw [show ((2 : Int) : Rat) = 2 by rfl]
    grind
/-- the half squares, by values -/
theorem sq_vals {n p q r s t u : Int} (h : (vlB n p q r s t u && sqO p q r s t u) = true) :
    (frOk (mkN (sN1 p q r s * 1) (sD1 p q r s * 2)) (mkD (sN1 p q r s * 1) (sD1 p q r s * 2)) = true ∧ frOk (mkN (t * 1) (u * 2)) (mkD (t * 1) (u * 2)) = true ∧ frOk (mkN (sN4 p q r s * 1) (sD4 p q r s * 2)) (mkD (sN4 p q r s * 1) (sD4 p q r s * 2)) = true) ∧
    fv (mkN (t * 1) (u * 2)) (mkD (t * 1) (u * 2)) * fv (mkN (t * 1) (u * 2)) (mkD (t * 1) (u * 2)) - fv (mkN (sN1 p q r s * 1) (sD1 p q r s * 2)) (mkD (sN1 p q r s * 1) (sD1 p q r s * 2)) * fv (mkN (sN1 p q r s * 1) (sD1 p q r s * 2)) (mkD (sN1 p q r s * 1) (sD1 p q r s * 2)) = (n : Rat) ∧
    fv (mkN (sN4 p q r s * 1) (sD4 p q r s * 2)) (mkD (sN4 p q r s * 1) (sD4 p q r s * 2)) * fv (mkN (sN4 p q r s * 1) (sD4 p q r s * 2)) (mkD (sN4 p q r s * 1) (sD4 p q r s * 2)) - fv (mkN (t * 1) (u * 2)) (mkD (t * 1) (u * 2)) * fv (mkN (t * 1) (u * 2)) (mkD (t * 1) (u * 2)) = (n : Rat) := by
  rw [Bool.and_eq_true] at h
  obtain ⟨hv, ho⟩ := h
  obtain ⟨hn, ⟨fA, fB, fC⟩, _, _, _, _, e2, e1⟩ := vl_vals hv
  unfold sqO at ho
  simp only [Bool.and_eq_true] at ho
  obtain ⟨⟨⟨⟨m1, m2⟩, m3⟩, m4⟩, m5⟩ := ho
  have w1 := fv_sub m1
  have w4 := fv_add m4
  have one : (1 : Int) ≠ 0 := by decide
  have w2 := (fv_div one m2).1
  have w3 := (fv_div one m3).1
  have w5 := (fv_div one m5).1
  have two : fv 2 1 = 2 := by rw [fv_one']; rfl
  have v1 : fv (sN1 p q r s) (sD1 p q r s) = fv r s - fv p q := w1
  have v4 : fv (sN4 p q r s) (sD4 p q r s) = fv p q + fv r s := w4
  rw [two, v1] at w2
  rw [two] at w3
  rw [two, v4] at w5
  refine ⟨⟨mOk_fr m2, mOk_fr m3, mOk_fr m5⟩, ?_⟩
  have e3 : fv p q * fv r s = 2 * (n : Rat) := by rw [e2, Rat.intCast_mul]; rfl
  exact half_eq e1 e3 w2 w3 w5
theorem fr_n {n : Int} (hn : 1 ≤ n ∧ n ≤ 31) : frOk n 1 = true := by
  unfold frOk inB gcdI
  simp
  omega
/-- the squares lie in a progression -/
theorem sq_step {n a b c d : Int} (hn : 1 ≤ n ∧ n ≤ 31) (m1 : mOk (a * a) (b * b) = true) (m2 : mOk (c * c) (d * d) = true)
    (m3 : mOk (mkN (c * c) (d * d) * mkD (a * a) (b * b) - mkN (a * a) (b * b) * mkD (c * c) (d * d)) (mkD (c * c) (d * d) * mkD (a * a) (b * b)) = true) (h : fv c d * fv c d - fv a b * fv a b = (n : Rat)) :
    mkN (mkN (c * c) (d * d) * mkD (a * a) (b * b) - mkN (a * a) (b * b) * mkD (c * c) (d * d)) (mkD (c * c) (d * d) * mkD (a * a) (b * b)) = n ∧ mkD (mkN (c * c) (d * d) * mkD (a * a) (b * b) - mkN (a * a) (b * b) * mkD (c * c) (d * d)) (mkD (c * c) (d * d) * mkD (a * a) (b * b)) = 1 :=
  fv_inj (mOk_fr m3) (fr_n hn) (by rw [fv_sub m3, fv_mul m1, fv_mul m2, h, fv_one'])
end Go.Proofs.Ytcnfjapoopdiaaa
