/- Several texts joined: SmallPlain StepPlain Tra BgP Prime Euler Table Cong DivA DvPlain App Dv DvS DvA PairPlain PairI DvR BgT BgA BgO BgB BgC BgD BgE. -/
import Derived.Test.YtbcjlhbpgcjddaaGreatDoorFacPlain
import Derived.Test.YtbcjlhbpgcjddaaGreatDoorCurve
import Derived.Test.YtbcjlhbpgcjddaaGreatDoorTwist
import Derived.Test.YtbcjlhbpgcjddaaGreatDoorChain
import Derived.StillTactics
import Derived.BigRegion
import Derived.Deep.Cut
import Derived.Test.YtbcjlhbpgcjddaaGreatDoorPlain
import Derived.Deep.RegionHeld3
import Derived.WalkKit
import Derived.Test.YtbcjlhbpgcjddaaGreatDoorList
import Derived.Test.YtbcjlhbpgcjddaaGreatDoorCls
import Derived.Deep.RegionLawGrows
import Derived.Lib.SliceRun
import Derived.Still
import Derived.StillTail
/- SmallPlain -/
namespace Go.Proofs.YtbcjlhbpgcjddaaGreatDoor
open Go.RowKit

def dvB (A B u : Int) : Bool := (A % (u * u * u * u) == 0) && (B % (u * u * u * u * u * u) == 0)
def bestF (A B : Int) : Nat → Int
  | 0 => 1
  | k + 1 => if dvB A B ((k : Int) + 2) = true then (k : Int) + 2 else bestF A B k
def smU (A B : Int) : Int := bestF A B 4
theorem bestF_bd (A B : Int) : ∀ k, 1 ≤ bestF A B k ∧ bestF A B k ≤ (k : Int) + 1
  | 0 => by simp [bestF]
  | k + 1 => by
    unfold bestF
    have := bestF_bd A B k
    split <;> omega
theorem dvB_one (A B : Int) : dvB A B 1 = true := by simp [dvB]
theorem bestF_dv (A B : Int) : ∀ k, dvB A B (bestF A B k) = true
  | 0 => by simp [bestF, dvB_one]
  | k + 1 => by
    unfold bestF
    split
    · assumption
    · exact bestF_dv A B k
theorem bestF_max (A B : Int) : ∀ (k : Nat) (u : Int), bestF A B k < u → u ≤ (k : Int) + 1 → dvB A B u = false
  | 0, u, h, h1 => by simp [bestF] at h; omega
  | k + 1, u, h, h1 => by
    unfold bestF at h
    by_cases hd : dvB A B ((k : Int) + 2) = true
    · rw [if_pos hd] at h; omega
    · rw [if_neg hd] at h
      by_cases hu : u = (k : Int) + 2
      · subst hu; simpa using hd
      · exact bestF_max A B k u h (by omega)
theorem mod_small {a m : Int} (h : a % m = 0) (hm : -m < a) (hm' : a < m) : a = 0 := by
  obtain ⟨c, rfl⟩ := Int.dvd_of_emod_eq_zero h
  have hm0 : 0 < m := by omega
  rcases Int.lt_trichotomy c 0 with h1 | h1 | h1
  · exfalso
    have := Int.mul_le_mul_of_nonneg_left (show c ≤ -1 by omega) (Int.le_of_lt hm0)
    rw [Int.mul_neg, Int.mul_one] at this
    omega
  · rw [h1, Int.mul_zero]
  · exfalso
    have := Int.mul_le_mul_of_nonneg_left (show 1 ≤ c by omega) (Int.le_of_lt hm0)
    rw [Int.mul_one] at this
    omega
theorem pow_ge {u : Int} (h : 6 ≤ u) (h1 : u ≤ 10) : (1296 ≤ u * u * u * u ∧ u * u * u * u ≤ 10000) ∧ 46656 ≤ u * u * u * u * u * u := by
  rcases (by omega : u = 6 ∨ u = 7 ∨ u = 8 ∨ u = 9 ∨ u = 10) with rfl | rfl | rfl | rfl | rfl <;> decide
/-- no greater number divides: a curve's coefficients are too small -/
theorem dvB_big {A B u : Int} (hA : -1000 ≤ A ∧ A ≤ 1000) (hB : -10000 ≤ B ∧ B ≤ 10000) (h0 : A ≠ 0 ∨ B ≠ 0) (h : 6 ≤ u) (h1 : u ≤ 10) : dvB A B u = false := by
  obtain ⟨⟨p1, _⟩, p2⟩ := pow_ge h h1
  cases hd : dvB A B u
  · rfl
  · exfalso
    unfold dvB at hd
    simp only [Bool.and_eq_true, beq_iff_eq] at hd
    have a0 := mod_small hd.1 (by omega) (by omega)
    have b0 := mod_small hd.2 (by omega) (by omega)
    omega
theorem smU_max {A B u : Int} (hA : -1000 ≤ A ∧ A ≤ 1000) (hB : -10000 ≤ B ∧ B ≤ 10000) (h0 : A ≠ 0 ∨ B ≠ 0) (h : smU A B < u) (h1 : u ≤ 10) : dvB A B u = false := by
  by_cases h5 : u ≤ 5
  · exact bestF_max A B 4 u h (by simpa using h5)
  · exact dvB_big hA hB h0 (by omega) h1
theorem smU_bd (A B : Int) : 1 ≤ smU A B ∧ smU A B ≤ 5 := by have := bestF_bd A B 4; unfold smU; simp at this; omega
theorem tmod_beq (a m : Int) : (a.tmod m == 0) = (a % m == 0) := by
  rw [Bool.eq_iff_iff]
  simp only [beq_iff_eq]
  exact ⟨fun h => Int.emod_eq_zero_of_dvd (Int.dvd_of_tmod_eq_zero h), fun h => Int.tmod_eq_zero_of_dvd (Int.dvd_of_emod_eq_zero h)⟩
theorem tdiv_eq {a m : Int} (h : a % m = 0) : a.tdiv m = a / m := by
  by_cases hm : m = 0
  · subst hm; simp
  · obtain ⟨c, rfl⟩ := Int.dvd_of_emod_eq_zero h
    rw [Int.mul_tdiv_cancel_left c hm, Int.mul_ediv_cancel_left c hm]
def sm4 (A u : Int) : Int := A / (u * u * u * u)
def sm6 (B u : Int) : Int := B / (u * u * u * u * u * u)

/-! logs -/
theorem strip_dvd : ∀ (f : Nat) (n q : Int), stripF f n q ∣ n
  | 0, n, q => by simp [stripF]
  | f + 1, n, q => by
    unfold stripF; split
    · next h =>
      have h1 := strip_dvd f (n / q) q
      have h2 : n / q ∣ n := ⟨q, by rw [Int.ediv_mul_cancel (Int.dvd_of_emod_eq_zero h)]⟩
      exact Int.dvd_trans h1 h2
    · exact Int.dvd_refl _
theorem strip_no : ∀ (f : Nat) (n q : Int), 1 ≤ n → 2 ≤ q → n.toNat ≤ f → stripF f n q % q ≠ 0
  | 0, n, q, hn, _, hf => by omega
  | f + 1, n, q, hn, hq, hf => by
    unfold stripF; split
    · next h =>
      have h1 := div_pos_facts hn hq h
      exact strip_no f (n / q) q h1.1 hq (by omega)
    · assumption
def NoSm (u p : Int) : Prop := ∀ d : Int, 2 ≤ d → d < p → u % d ≠ 0
theorem NoSm.two (u : Int) : NoSm u 2 := fun d h h' => by omega
theorem NoSm.le {u p : Int} (h : NoSm u p) (hu : 1 < u) : p ≤ u := by
  rcases Int.lt_or_le u p with h' | h'
  · exact absurd Int.emod_self (h u (by omega) h')
  · exact h'
theorem NoSm.step {u p : Int} (h : NoSm u p) (hu : 1 ≤ u) (hp : 2 ≤ p) : NoSm (strip u p) (p + 1) := fun d hd hdp => by
  by_cases e : d = p
  · rw [e]; exact strip_no _ _ _ hu hp (Nat.le_refl _)
  · intro h0
    exact h d hd (by omega) (Int.emod_eq_zero_of_dvd (Int.dvd_trans (Int.dvd_of_emod_eq_zero h0) (strip_dvd _ _ _)))
def slF : Nat → Int → Int → List (Int × Int)
  | 0, _, _ => []
  | f + 1, u, p => if 1 < u then List.replicate (val u p).toNat (1, p) ++ slF f (strip u p) (p + 1) else []
def slL (u : Int) : List (Int × Int) := slF 6 u 2
def spL (u : Int) : List (Int × Int) := (factL u).flatMap fun f => List.replicate f.2.toNat (1, f.1)
theorem sl_all : ∀ k : Nat, k < 6 → slL k = spL k := by decide +kernel
theorem sl_eq {u : Int} (h : 0 ≤ u) (h1 : u ≤ 5) : slL u = spL u := by
  have := sl_all u.toNat (by omega)
  rwa [show ((u.toNat : Nat) : Int) = u by omega] at this
theorem sl_len : ∀ k : Nat, k < 6 → (spL k).length ≤ 5 ∧ (factL k).length ≤ 5 ∧ (factL k).all (fun f => decide (1 ≤ f.2) && decide (f.2 ≤ 5) && decide (2 ≤ f.1) && decide (f.1 ≤ 5)) = true := by decide +kernel
theorem slF_one (f : Nat) {u p : Int} (h : u ≤ 1) : slF f u p = [] := by cases f <;> simp [slF]; intro h'; omega
end Go.Proofs.YtbcjlhbpgcjddaaGreatDoor

/- StepPlain -/
namespace Go.Proofs.YtbcjlhbpgcjddaaGreatDoor
open Go.RowKit

def rs (o : Bool) (A : Int) : Int := if o then A else 0
def udB (A B v : Int) : Bool := (A % (v * v) == 0) && (B % (v * v * v) == 0)
def apOk (k A B v : Int) : Bool := if k = 0 then curveB (A * v * v * v * v) (B * v * v * v * v * v * v) else if k = 1 then dvB A B v else if k = 2 then curveB (A * v * v) (B * v * v * v) else udB A B v
def apA (k A v : Int) : Int := if k = 0 then A * v * v * v * v else if k = 1 then A / (v * v * v * v) else if k = 2 then A * v * v else A / (v * v)
def apB (k B v : Int) : Int := if k = 0 then B * v * v * v * v * v * v else if k = 1 then B / (v * v * v * v * v * v) else if k = 2 then B * v * v * v else B / (v * v * v)
theorem disc_scale (A B m n : Int) (h : m * m * m = n * n) : disc (A * m) (B * n) = m * m * m * disc A B := by
  unfold disc
  rw [Int.mul_add, show 4 * (A * m) * (A * m) * (A * m) = m * m * m * (4 * A * A * A) by ac_rfl, show 27 * (B * n) * (B * n) = n * n * (27 * B * B) by ac_rfl, h]
theorem inB_of {x a b : Int} (h : a ≤ x) (h' : x ≤ b) : inB x a b = true := by unfold inB; simp [h, h']
theorem div_in {x m b : Int} (hm : 0 < m) (hx : -b ≤ x ∧ x ≤ b) (hd : x % m = 0) : -b ≤ x / m ∧ x / m ≤ b := by
  obtain ⟨c, rfl⟩ := Int.dvd_of_emod_eq_zero hd
  rw [Int.mul_ediv_cancel_left c (by omega)]
  have h1 : c.natAbs ≤ (m * c).natAbs := by rw [Int.natAbs_mul]; exact Nat.le_mul_of_pos_left _ (by omega)
  omega
theorem divn_in {x m b : Int} (hm : m ≠ 0) (hx : -b ≤ x ∧ x ≤ b) (hd : x % m = 0) : -b ≤ x / m ∧ x / m ≤ b := by
  obtain ⟨c, rfl⟩ := Int.dvd_of_emod_eq_zero hd
  rw [Int.mul_ediv_cancel_left c hm]
  have h1 : c.natAbs ≤ (m * c).natAbs := by rw [Int.natAbs_mul]; exact Nat.le_mul_of_pos_left _ (by omega)
  omega
theorem curveB_div {A B m n : Int} (hm : m ≠ 0) (hn : n ≠ 0) (h : m * m * m = n * n) (hc : curveB A B = true) (hA : A % m = 0) (hB : B % n = 0) : curveB (A / m) (B / n) = true := by
  unfold curveB at hc ⊢
  simp only [Bool.and_eq_true, Bool.not_eq_true', beq_eq_false_iff_ne] at hc ⊢
  obtain ⟨⟨h1, h2⟩, h3⟩ := hc
  have a := divn_in hm (inB_true h1) hA
  have b := divn_in hn (inB_true h2) hB
  refine ⟨⟨inB_of a.1 a.2, inB_of b.1 b.2⟩, fun h0 => h3 ?_⟩
  have := disc_scale (A / m) (B / n) m n h
  rw [Int.ediv_mul_cancel (Int.dvd_of_emod_eq_zero hA), Int.ediv_mul_cancel (Int.dvd_of_emod_eq_zero hB), h0, Int.mul_zero] at this
  exact this
theorem curveB_dv {A B v : Int} (hv : v ≠ 0) (hc : curveB A B = true) (h : dvB A B v = true) : curveB (A / (v * v * v * v)) (B / (v * v * v * v * v * v)) = true := by
  unfold dvB at h
  simp only [Bool.and_eq_true, beq_iff_eq] at h
  refine curveB_div ?_ ?_ (by ac_rfl) hc h.1 h.2
  all_goals
    intro h0
    simp only [Int.mul_eq_zero] at h0
    omega
theorem curveB_ud {A B v : Int} (hv : v ≠ 0) (hc : curveB A B = true) (h : udB A B v = true) : curveB (A / (v * v)) (B / (v * v * v)) = true := by
  unfold udB at h
  simp only [Bool.and_eq_true, beq_iff_eq] at h
  refine curveB_div ?_ ?_ (by ac_rfl) hc h.1 h.2
  all_goals
    intro h0
    simp only [Int.mul_eq_zero] at h0
    omega
theorem curveB_of {A B : Int} (h : curveB A B = true) : (-1000 ≤ A ∧ A ≤ 1000) ∧ (-10000 ≤ B ∧ B ≤ 10000) := by
  unfold curveB at h
  simp only [Bool.and_eq_true] at h
  exact ⟨inB_true h.1.1, inB_true h.1.2⟩
theorem stepB_cases {k v : Int} (h : stepB k v = true) : (k = 0 ∧ inB v 2 5 = true) ∨ (k = 1 ∧ inB v 2 5 = true) ∨ (k = 2 ∧ twistB v = true ∧ v ≠ 1) ∨ (k = 3 ∧ twistB v = true ∧ v ≠ 1) := by
  unfold stepB at h
  by_cases h1 : k = 0 ∨ k = 1
  · rw [if_pos h1] at h
    rcases h1 with h1 | h1
    · exact .inl ⟨h1, h⟩
    · exact .inr (.inl ⟨h1, h⟩)
  · rw [if_neg h1] at h
    by_cases h2 : k = 2 ∨ k = 3
    · rw [if_pos h2] at h
      simp only [Bool.and_eq_true, Bool.not_eq_true', beq_eq_false_iff_ne] at h
      rcases h2 with h2 | h2
      · exact .inr (.inr (.inl ⟨h2, h⟩))
      · exact .inr (.inr (.inr ⟨h2, h⟩))
    · rw [if_neg h2] at h; cases h
theorem ap_curve {k A B v : Int} (hs : stepB k v = true) (hc : curveB A B = true) (ho : apOk k A B v = true) : curveB (apA k A v) (apB k B v) = true := by
  have tw0 : ∀ {v}, twistB v = true → v ≠ 0 := fun h => by unfold twistB at h; simp at h; exact h.1.2
  rcases stepB_cases hs with ⟨rfl, h⟩ | ⟨rfl, h⟩ | ⟨rfl, h, _⟩ | ⟨rfl, h, _⟩
  · exact ho
  · exact curveB_dv (by have := inB_true h; omega) hc ho
  · exact ho
  · exact curveB_ud (tw0 h) hc ho
end Go.Proofs.YtbcjlhbpgcjddaaGreatDoor

/- Tra -/
namespace Go.Proofs.YtbcjlhbpgcjddaaGreatDoor
open Go.RowKit

def PtIn (X Y E : Int) : Prop := (-10000 ≤ X ∧ X ≤ 10000) ∧ (-3000000 ≤ Y ∧ Y ≤ 3000000) ∧ (0 ≤ E ∧ E ≤ 20)
theorem c_opposite (X Y E : Int) (hY : -3000000 ≤ Y ∧ Y ≤ 3000000) (w : World) :
    Calls Tryz.prog 174 #[.agg #[.int .i64 X, .int .i64 Y, .int .i64 E]] w fun e w' => e = .returned (.agg #[.int .i64 X, .int .i64 (-Y), .int .i64 E]) ∧ Below w.heap.size w w' := by
  go_enter Tryz.func174, Tryz.ntmps174
  go_wp2
  refine bodyPost_ret (v := .agg #[.int .i64 X, .int .i64 (-Y), .int .i64 E]) (by simp [results, Tryz.results174, go_sem]) rfl ⟨rfl, ?_⟩
  (repeat' (first | (with_reducible exact Below.refl _ _) | (with_reducible refine below_step (by assumption) ?_ ?_) | (with_reducible refine Below.alloc ?_ ?_ _) | (with_reducible refine Below.setCell ?_ ?_ _) | (with_reducible refine below_drewN ?_ _) | (with_reducible refine Below.drew ?_) | omega | (simp; omega) | (simp; done)))
def slN (A X1 Y1 E1 X2 Y2 E2 : Int) : Int := if X1 = X2 ∧ Y1 = Y2 ∧ E1 = E2 then 3 * X1 * X1 + A * E1 * E1 * E1 * E1 else Y2 * E1 * E1 * E1 - Y1 * E2 * E2 * E2
def slD (X1 Y1 E1 X2 Y2 E2 : Int) : Int := if X1 = X2 ∧ Y1 = Y2 ∧ E1 = E2 then 2 * Y1 * E1 else E1 * E2 * (X2 * E1 * E1 - X1 * E2 * E2)
theorem cub_bd {x e : Int} (b : Int) (hx : -b ≤ x ∧ x ≤ b) (he : 0 ≤ e ∧ e ≤ 20) : (-(b * 20) ≤ x * e ∧ x * e ≤ b * 20) ∧ (-(b * 400) ≤ x * e * e ∧ x * e * e ≤ b * 400) ∧ (-(b * 8000) ≤ x * e * e * e ∧ x * e * e * e ≤ b * 8000) ∧ (-(b * 160000) ≤ x * e * e * e * e ∧ x * e * e * e * e ≤ b * 160000) := by
  have h1 := mulb (x := x) (y := e) b 20 hx (by omega)
  have h2 := mulb (x := x * e) (y := e) (b * 20) 20 (by omega) (by omega)
  have h3 := mulb (x := x * e * e) (y := e) (b * 400) 20 (by omega) (by omega)
  have h4 := mulb (x := x * e * e * e) (y := e) (b * 8000) 20 (by omega) (by omega)
  omega
theorem slE {A X1 Y1 E1 X2 Y2 E2 : Int} (h : X1 = X2 ∧ Y1 = Y2 ∧ E1 = E2) : slN A X1 Y1 E1 X2 Y2 E2 = 3 * X1 * X1 + A * E1 * E1 * E1 * E1 ∧ slD X1 Y1 E1 X2 Y2 E2 = 2 * Y1 * E1 := by unfold slN slD; rw [if_pos h, if_pos h]; exact ⟨rfl, rfl⟩
theorem slG {A X1 Y1 E1 X2 Y2 E2 : Int} (h : ¬ (X1 = X2 ∧ Y1 = Y2 ∧ E1 = E2)) : slN A X1 Y1 E1 X2 Y2 E2 = Y2 * E1 * E1 * E1 - Y1 * E2 * E2 * E2 ∧ slD X1 Y1 E1 X2 Y2 E2 = E1 * E2 * (X2 * E1 * E1 - X1 * E2 * E2) := by unfold slN slD; rw [if_neg h, if_neg h]; exact ⟨rfl, rfl⟩
set_option maxHeartbeats 2000000 in
set_option maxRecDepth 100000 in
theorem c_slope_same (A B X Y E : Int) (hA : -1000 ≤ A ∧ A ≤ 1000) (hp : PtIn X Y E) (w : World) :
    Calls Tryz.prog 175 #[.agg #[.int .i64 A, .int .i64 B], .agg #[.int .i64 X, .int .i64 Y, .int .i64 E], .agg #[.int .i64 X, .int .i64 Y, .int .i64 E]] w fun e w' => e = .returned (.tuple #[.int .i64 (3 * X * X + A * E * E * E * E), .int .i64 (2 * Y * E)]) ∧ Below w.heap.size w w' := by
  obtain ⟨hX, hY, hE⟩ := hp
  obtain ⟨a1, a2, a3, a4⟩ := cub_bd 1000 (x := A) (e := E) (by omega) hE
  have x1 := mulb (x := 3 * X) (y := X) 30000 10000 (by omega) (by omega)
  have y1 := mulb (x := 2 * Y) (y := E) 6000000 20 (by omega) (by omega)
  have kA := ((Blk.new w #[.int .i64 A, .int .i64 B] 45).alloc (.cells #[.int .i64 X, .int .i64 Y, .int .i64 E] 41)).alloc (.cells #[.int .i64 X, .int .i64 Y, .int .i64 E] 41)
  have kP := (Blk.new (w.alloc (.cells #[.int .i64 A, .int .i64 B] 45)) #[.int .i64 X, .int .i64 Y, .int .i64 E] 41).alloc (.cells #[.int .i64 X, .int .i64 Y, .int .i64 E] 41)
  have kQ := Blk.new ((w.alloc (.cells #[.int .i64 A, .int .i64 B] 45)).alloc (.cells #[.int .i64 X, .int .i64 Y, .int .i64 E] 41)) #[.int .i64 X, .int .i64 Y, .int .i64 E] 41
  have hb0 : Below w.heap.size w (((w.alloc (.cells #[.int .i64 A, .int .i64 B] 45)).alloc (.cells #[.int .i64 X, .int .i64 Y, .int .i64 E] 41)).alloc (.cells #[.int .i64 X, .int .i64 Y, .int .i64 E] 41)) := (((Below.refl _ _).alloc (Nat.le_refl _) _).alloc (by simp) _).alloc (by simp; omega) _
  simp only [World.size_alloc] at kP kQ
  have hsz := hb0.size
  go_enter Tryz.func175, Tryz.ntmps175
  go_upto_region 1 with (fail)
  generalize ((w.alloc _).alloc _).alloc _ = W at *
  have l1 := kA.lt
  have l2 := kP.lt
  have l3 := kQ.lt
  generalize w.heap.size + 1 + 1 = rQ at *
  generalize w.heap.size + 1 = rP at *
  have c0 : W.cell? ⟨w.heap.size, 0, none⟩ = some (.int .i64 A) := kA.cell 0
  have p0 : W.cell? ⟨rP, 0, none⟩ = some (.int .i64 X) := kP.cell 0
  have p1 : W.cell? ⟨rP, 1, none⟩ = some (.int .i64 Y) := kP.cell 1
  have p2 : W.cell? ⟨rP, 2, none⟩ = some (.int .i64 E) := kP.cell 2
  have q0 : W.cell? ⟨rQ, 0, none⟩ = some (.int .i64 X) := kQ.cell 0
  have q1 : W.cell? ⟨rQ, 1, none⟩ = some (.int .i64 Y) := kQ.cell 1
  have q2 : W.cell? ⟨rQ, 2, none⟩ = some (.int .i64 E) := kQ.cell 2
  go_wp2
  (refine wp_region_clq (by kernel_rfl) (by kernel_rfl) ?_; (repeat (go_big_quiet_step (fail))); refine wpQuiet_nil ?_; intro w8 hb8; obtain ⟨hc8, hf8⟩ := bcell hb8; have hz8 := hb8.size; (try simp only [World.size_alloc] at hz8))
  go_wp2
  refine bodyPost_ret (v := .tuple #[.int .i64 (3 * X * X + A * E * E * E * E), .int .i64 (2 * Y * E)]) (by simp [results, Tryz.results175, go_sem]) rfl ?_
  exact ⟨rfl, below_step hb8 hsz hb0⟩
set_option maxHeartbeats 2000000 in
theorem c_slope_diff (A B X1 Y1 E1 X2 Y2 E2 : Int) (hp : PtIn X1 Y1 E1) (hq : PtIn X2 Y2 E2) (hne : ¬ (X1 = X2 ∧ Y1 = Y2 ∧ E1 = E2)) (w : World) :
    Calls Tryz.prog 175 #[.agg #[.int .i64 A, .int .i64 B], .agg #[.int .i64 X1, .int .i64 Y1, .int .i64 E1], .agg #[.int .i64 X2, .int .i64 Y2, .int .i64 E2]] w fun e w' => e = .returned (.tuple #[.int .i64 (Y2 * E1 * E1 * E1 - Y1 * E2 * E2 * E2), .int .i64 (E1 * E2 * (X2 * E1 * E1 - X1 * E2 * E2))]) ∧ Below w.heap.size w w' := by
  obtain ⟨hX1, hY1, hE1⟩ := hp
  obtain ⟨hX2, hY2, hE2⟩ := hq
  obtain ⟨a1, a2, a3, _⟩ := cub_bd 3000000 (x := Y2) (e := E1) (by omega) hE1
  obtain ⟨b1, b2, b3, _⟩ := cub_bd 3000000 (x := Y1) (e := E2) (by omega) hE2
  obtain ⟨c1, c2, _, _⟩ := cub_bd 10000 (x := X2) (e := E1) (by omega) hE1
  obtain ⟨d1, d2, _, _⟩ := cub_bd 10000 (x := X1) (e := E2) (by omega) hE2
  have e1 := mulb (x := E1) (y := E2) 20 20 (by omega) (by omega)
  have e2 := mulb (x := E1 * E2) (y := X2 * E1 * E1 - X1 * E2 * E2) 400 8000000 (by omega) (by omega)
  by_cases h1 : X1 = X2
  · subst h1
    by_cases h2 : Y1 = Y2
    · subst h2
      have h3 : ¬ (E1 = E2) := fun h => hne ⟨rfl, rfl, h⟩
      clear hne
      go_enter Tryz.func175, Tryz.ntmps175
      go_wp2
      refine bodyPost_ret (v := .tuple #[.int .i64 (Y1 * E1 * E1 * E1 - Y1 * E2 * E2 * E2), .int .i64 (E1 * E2 * (X1 * E1 * E1 - X1 * E2 * E2))]) (by simp [results, Tryz.results175, go_sem]) rfl ⟨rfl, ?_⟩
      (repeat' (first | (with_reducible exact Below.refl _ _) | (with_reducible refine below_step (by assumption) ?_ ?_) | (with_reducible refine Below.alloc ?_ ?_ _) | (with_reducible refine Below.setCell ?_ ?_ _) | (with_reducible refine below_drewN ?_ _) | (with_reducible refine Below.drew ?_) | omega | (simp; omega) | (simp; done)))
    · clear hne
      go_enter Tryz.func175, Tryz.ntmps175
      go_wp2
      refine bodyPost_ret (v := .tuple #[.int .i64 (Y2 * E1 * E1 * E1 - Y1 * E2 * E2 * E2), .int .i64 (E1 * E2 * (X1 * E1 * E1 - X1 * E2 * E2))]) (by simp [results, Tryz.results175, go_sem]) rfl ⟨rfl, ?_⟩
      (repeat' (first | (with_reducible exact Below.refl _ _) | (with_reducible refine below_step (by assumption) ?_ ?_) | (with_reducible refine Below.alloc ?_ ?_ _) | (with_reducible refine Below.setCell ?_ ?_ _) | (with_reducible refine below_drewN ?_ _) | (with_reducible refine Below.drew ?_) | omega | (simp; omega) | (simp; done)))
  · clear hne
    go_enter Tryz.func175, Tryz.ntmps175
    go_wp2
    refine bodyPost_ret (v := .tuple #[.int .i64 (Y2 * E1 * E1 * E1 - Y1 * E2 * E2 * E2), .int .i64 (E1 * E2 * (X2 * E1 * E1 - X1 * E2 * E2))]) (by simp [results, Tryz.results175, go_sem]) rfl ⟨rfl, ?_⟩
    (repeat' (first | (with_reducible exact Below.refl _ _) | (with_reducible refine below_step (by assumption) ?_ ?_) | (with_reducible refine Below.alloc ?_ ?_ _) | (with_reducible refine Below.setCell ?_ ?_ _) | (with_reducible refine below_drewN ?_ _) | (with_reducible refine Below.drew ?_) | omega | (simp; omega) | (simp; done)))
end Go.Proofs.YtbcjlhbpgcjddaaGreatDoor

/- BgP -/
namespace Go.Proofs.YtbcjlhbpgcjddaaGreatDoor

def dg (n : Nat) : List Int := if h : n = 0 then [] else (n % 10000 : Nat) :: dg (n / 10000)
termination_by n
decreasing_by exact Nat.div_lt_self (by omega) (by decide)
def vl : List Int → Int
  | [] => 0
  | x :: l => x + 10000 * vl l
def Dg (l : List Int) : Prop := ∀ x ∈ l, 0 ≤ x ∧ x ≤ 9999
theorem dg_zero : dg 0 = [] := by rw [dg]; simp
theorem dg_pos {n : Nat} (h : n ≠ 0) : dg n = ((n % 10000 : Nat) : Int) :: dg (n / 10000) := by rw [dg]; simp [h]
theorem Dg.tail {x : Int} {l : List Int} (h : Dg (x :: l)) : Dg l := fun y hy => h y (by simp [hy])
theorem Dg.head {x : Int} {l : List Int} (h : Dg (x :: l)) : 0 ≤ x ∧ x ≤ 9999 := h x (by simp)
theorem Dg.take {l : List Int} (h : Dg l) (k : Nat) : Dg (l.take k) := fun y hy => h y (List.mem_of_mem_take hy)
theorem vl_nn : ∀ {l : List Int}, (∀ x ∈ l, 0 ≤ x) → 0 ≤ vl l
  | [], _ => Int.le_refl _
  | x :: l, h => by
    have h1 := vl_nn (l := l) fun y hy => h y (by simp [hy])
    have h2 := h x (by simp)
    unfold vl
    omega
theorem Dg.nn {l : List Int} (h : Dg l) : 0 ≤ vl l := vl_nn fun x hx => (h x hx).1
theorem Dg.lt : ∀ {l : List Int}, Dg l → vl l < 10000 ^ l.length
  | [], _ => by decide
  | x :: l, h => by
    have h1 := h.tail.lt
    have h2 := h.head
    have h3 : (10000 : Int) ^ (l.length + 1) = 10000 ^ l.length * 10000 := Int.pow_succ _ _
    rw [List.length_cons, h3]
    unfold vl
    omega
theorem vl_append : ∀ (l m : List Int), vl (l ++ m) = vl l + 10000 ^ l.length * vl m
  | [], m => by simp [vl]
  | x :: l, m => by
    have h := vl_append l m
    have h3 : (10000 : Int) ^ (l.length + 1) = 10000 ^ l.length * 10000 := Int.pow_succ _ _
    rw [List.cons_append, vl, vl, h, List.length_cons, h3, Int.mul_add, ← Int.add_assoc]
    congr 1
    rw [Int.mul_comm (10000 ^ l.length) 10000, Int.mul_assoc]
theorem vl_zeros : ∀ k : Nat, vl (List.replicate k 0) = 0
  | 0 => rfl
  | k + 1 => by rw [List.replicate_succ, vl, vl_zeros k]; rfl
theorem vl_take_succ {l : List Int} {k : Nat} (h : k < l.length) : vl (l.take (k + 1)) = vl (l.take k) + 10000 ^ k * l[k] := by
  rw [List.take_succ_eq_append_getElem h, vl_append, List.length_take, Nat.min_eq_left (by omega)]
  simp [vl]
/-- no digit 0 at the end -/
def Low (l : List Int) : Prop := ∀ h : l ≠ [], l.getLast h ≠ 0
theorem Low.tail {x : Int} {l : List Int} (h : Low (x :: l)) : Low l := fun hl => by
  have := h (by simp)
  rwa [List.getLast_cons hl] at this
theorem low_pos : ∀ {l : List Int}, Dg l → Low l → l ≠ [] → 1 ≤ vl l
  | [], _, _, h => absurd rfl h
  | [x], hd, hl, _ => by
    have h1 := hl (by simp)
    have h2 := hd.head
    simp only [List.getLast_singleton] at h1
    show 1 ≤ x + 10000 * 0
    omega
  | x :: y :: l, hd, hl, _ => by
    have h1 := low_pos hd.tail hl.tail (by simp)
    have h2 := hd.head
    rw [vl]
    omega
theorem low_dg : ∀ {l : List Int}, Dg l → Low l → l = dg (vl l).toNat
  | [], _, _ => by simp [vl, dg_zero]
  | x :: l, hd, hl => by
    have h1 := low_pos hd hl (by simp)
    have h2 := hd.head
    have h3 := hd.tail.nn
    have ih := low_dg hd.tail hl.tail
    rw [dg_pos (by omega)]
    have e : vl (x :: l) = x + 10000 * vl l := rfl
    have e1 : (((vl (x :: l)).toNat % 10000 : Nat) : Int) = x := by rw [e]; omega
    have e2 : (vl (x :: l)).toNat / 10000 = (vl l).toNat := by rw [e]; omega
    rw [e1, e2, ← ih]
theorem dg_Dg (n : Nat) : Dg (dg n) ∧ Low (dg n) ∧ vl (dg n) = n := by
  induction n using Nat.strongRecOn with
  | ind n ih =>
    by_cases h : n = 0
    · subst h
      rw [dg_zero]
      exact ⟨fun x hx => by simp at hx, fun h => absurd rfl h, rfl⟩
    · rw [dg_pos h]
      obtain ⟨h1, h2, h3⟩ := ih (n / 10000) (Nat.div_lt_self (by omega) (by decide))
      refine ⟨fun x hx => ?_, fun hne => ?_, ?_⟩
      · rcases List.mem_cons.1 hx with rfl | hx
        · omega
        · exact h1 x hx
      · by_cases hq : dg (n / 10000) = []
        · have : n / 10000 = 0 := by
            rw [hq] at h3
            simp only [vl] at h3
            omega
          simp only [hq, List.getLast_singleton]
          omega
        · rw [List.getLast_cons hq]
          exact h2 hq
      · rw [vl, h3]; omega
/-- the digits without zeros at the end -/
def tr (l : List Int) : List Int := (l.reverse.dropWhile (· == 0)).reverse
theorem tr_snoc_zero (l : List Int) : tr (l ++ [0]) = tr l := by simp [tr]
theorem tr_snoc {x : Int} (l : List Int) (h : x ≠ 0) : tr (l ++ [x]) = l ++ [x] := by simp [tr, h]
theorem tr_nil : tr [] = [] := rfl
theorem tr_take {l : List Int} {k : Nat} (h : k < l.length) (h0 : l[k] = 0) : tr (l.take (k + 1)) = tr (l.take k) := by
  rw [List.take_succ_eq_append_getElem h, h0, tr_snoc_zero]
theorem tr_done {l : List Int} {k : Nat} (h : k < l.length) (h0 : l[k] ≠ 0) : tr (l.take (k + 1)) = l.take (k + 1) := by
  rw [List.take_succ_eq_append_getElem h, tr_snoc _ h0]
theorem snoc_cases {α : Type} (l : List α) : l = [] ∨ ∃ m x, l = m ++ [x] := by
  rcases List.eq_nil_or_concat l with h | ⟨m, x, h⟩
  · exact .inl h
  · exact .inr ⟨m, x, by simpa using h⟩
theorem tr_facts : ∀ (n : Nat) (l : List Int), l.length = n → Dg l → Low (tr l) ∧ Dg (tr l) ∧ vl (tr l) = vl l
  | 0, l, hn, _ => by
    have : l = [] := List.length_eq_zero_iff.1 hn
    subst this
    exact ⟨fun h => absurd rfl h, fun x hx => by simp [tr] at hx, rfl⟩
  | n + 1, l, hn, hd => by
    rcases snoc_cases l with rfl | ⟨m, x, rfl⟩
    · simp at hn
    · have hm : m.length = n := by simpa using hn
      have hdm : Dg m := fun y hy => hd y (by simp [hy])
      by_cases hx : x = 0
      · subst hx
        rw [tr_snoc_zero]
        obtain ⟨h1, h2, h3⟩ := tr_facts n m hm hdm
        refine ⟨h1, h2, ?_⟩
        rw [h3, vl_append]
        simp [vl]
      · rw [tr_snoc _ hx]
        exact ⟨fun h => by simpa using hx, hd, rfl⟩
theorem tr_dg {l : List Int} (h : Dg l) : tr l = dg (vl l).toNat := by
  obtain ⟨h1, h2, h3⟩ := tr_facts _ l rfl h
  have := low_dg h2 h1
  rwa [h3] at this
theorem dg_nil {n : Nat} : dg n = [] ↔ n = 0 := by
  constructor
  · intro h
    have := (dg_Dg n).2.2
    rw [h] at this
    simp only [vl] at this
    omega
  · rintro rfl; exact dg_zero
theorem dg_len {n k : Nat} (h : n < 10000 ^ k) : (dg n).length ≤ k := by
  induction k generalizing n with
  | zero =>
    have : n = 0 := by simpa using h
    subst this
    simp [dg_zero]
  | succ k ih =>
    by_cases hn : n = 0
    · subst hn; simp [dg_zero]
    · rw [dg_pos hn, List.length_cons]
      have := ih (n := n / 10000) (by
        rw [Nat.pow_succ] at h
        exact Nat.div_lt_of_lt_mul (by omega))
      omega
/-- longer numbers without zeros at the end are greater -/
theorem low_ge : ∀ {l : List Int}, Dg l → Low l → l ≠ [] → 10000 ^ (l.length - 1) ≤ vl l
  | [], _, _, h => absurd rfl h
  | [x], hd, hl, _ => by
    have := low_pos hd hl (by simp)
    simpa using this
  | x :: y :: l, hd, hl, _ => by
    have h1 := low_ge hd.tail hl.tail (by simp)
    have h2 := hd.head
    have e : (10000 : Int) ^ ((x :: y :: l).length - 1) = 10000 ^ ((y :: l).length - 1) * 10000 := by
      simp only [List.length_cons, Nat.add_sub_cancel]
      exact Int.pow_succ _ _
    rw [e, vl]
    omega
end Go.Proofs.YtbcjlhbpgcjddaaGreatDoor

/- Prime -/
namespace Go.Proofs.YtbcjlhbpgcjddaaGreatDoor
open Go.RowKit

theorem root_le {d n : Int} (hd : 0 ≤ d) (h : d * d ≤ n) (hn : n ≤ 1000000000000) : d ≤ 1000000 := by
  rcases Int.lt_or_le 1000000 d with h' | h'
  · have := Int.mul_le_mul (show (1000001 : Int) ≤ d by omega) (show (1000001 : Int) ≤ d by omega) (by omega) (by omega); omega
  · exact h'
noncomputable def goodP (A B p : Int) : Bool := inB p 5 997 && primeB p && !(disc A B % p == 0)
theorem disc_range {A B : Int} (hA : -1000 ≤ A ∧ A ≤ 1000) (hB : -10000 ≤ B ∧ B ≤ 10000) : -7000000000 ≤ disc A B ∧ disc A B ≤ 7000000000 := by
  have := disc_bd hA hB; unfold disc; omega
theorem tmod_bne (a p : Int) : (a.tmod p != 0) = !(a % p == 0) := by
  rw [Bool.eq_iff_iff]
  simp only [bne_iff_ne, ne_eq, Bool.not_eq_true', beq_eq_false_iff_ne]
  constructor
  · intro h e; exact h (Int.tmod_eq_zero_of_dvd (Int.dvd_of_emod_eq_zero e))
  · exact tmod_ne0
where tmod_ne0 {a p : Int} (h : a % p ≠ 0) : a.tmod p ≠ 0 := fun e => h (Int.emod_eq_zero_of_dvd (Int.dvd_of_tmod_eq_zero e))
end Go.Proofs.YtbcjlhbpgcjddaaGreatDoor

/- Euler -/
namespace Go.Proofs.YtbcjlhbpgcjddaaGreatDoor
open Go.RowKit
/-! Euler's law for the primes up to 997, reckoned by the kernel -/
def primeN (p : Nat) : Bool := decide (2 ≤ p) && (List.range 32).all fun d => decide (d < 2) || decide (p < d * d) || decide (p % d ≠ 0)
def eulerAll (p : Nat) : Bool := !primeN p || decide (p < 3) || (List.range p).all fun a => (a ^ ((p - 1) / 2)) % p == 0 || (a ^ ((p - 1) / 2)) % p == 1 || (a ^ ((p - 1) / 2)) % p == p - 1
theorem euler_0 : (List.range 400).all eulerAll = true := by decide +kernel
theorem euler_1 : (List.range 250).all (fun k => eulerAll (k + 400)) = true := by decide +kernel
theorem euler_2 : (List.range 200).all (fun k => eulerAll (k + 650)) = true := by decide +kernel
theorem euler_3 : (List.range 150).all (fun k => eulerAll (k + 850)) = true := by decide +kernel
theorem euler_nat (p : Nat) (h : p < 1000) : eulerAll p = true := by
  by_cases h0 : p < 400
  · exact List.all_eq_true.1 euler_0 p (by simpa using h0)
  by_cases h1 : p < 650
  · have := List.all_eq_true.1 euler_1 (p - 400) (by simp; omega)
    rwa [show p - 400 + 400 = p by omega] at this
  by_cases h2 : p < 850
  · have := List.all_eq_true.1 euler_2 (p - 650) (by simp; omega)
    rwa [show p - 650 + 650 = p by omega] at this
  · have := List.all_eq_true.1 euler_3 (p - 850) (by simp; omega)
    rwa [show p - 850 + 850 = p by omega] at this
theorem primeN_of (p : Nat) (h : primeB p = true) (hl : p < 1000) : primeN p = true := by
  obtain ⟨h2, hn⟩ := primeB_true h
  unfold primeN
  rw [Bool.and_eq_true]
  refine ⟨by simpa using (by omega : 2 ≤ p), ?_⟩
  rw [List.all_eq_true]
  intro d hd
  by_cases hd2 : d < 2
  · simp [hd2]
  by_cases hdd : p < d * d
  · simp [hdd]
  · have h1 := hn d (by omega) (by
      have : ((d * d : Nat) : Int) ≤ (p : Nat) := by omega
      simpa using this)
    have h3 : p % d ≠ 0 := fun e => h1 (by
      have : ((p % d : Nat) : Int) = 0 := by omega
      simpa using this)
    simp [h3]
theorem euler (a p : Int) (h : primeB p = true) (h3 : 3 ≤ p) (h1 : p < 1000) :
    powM a ((p - 1) / 2) p = 0 ∨ powM a ((p - 1) / 2) p = 1 ∨ powM a ((p - 1) / 2) p = p - 1 := by
  obtain ⟨q, rfl⟩ := Int.eq_ofNat_of_zero_le (show 0 ≤ p by omega)
  obtain ⟨b, hb⟩ := Int.eq_ofNat_of_zero_le (Int.emod_nonneg a (show (q : Int) ≠ 0 by omega))
  have hlt := Int.emod_lt_of_pos a (show (0 : Int) < q by omega)
  have hp := primeN_of q h (by omega)
  have he := euler_nat q (by omega)
  unfold eulerAll at he
  rw [hp] at he
  have hq3 : ¬ q < 3 := by omega
  simp only [hq3, decide_false, Bool.not_true, Bool.false_or, Bool.or_false] at he
  have hb2 := List.all_eq_true.1 he b (by simp; omega)
  have e : powM a (((q : Int) - 1) / 2) q = ((b ^ ((q - 1) / 2) % q : Nat) : Int) := by
    unfold powM
    rw [← pow_mod, hb]
    have : (((q : Int) - 1) / 2).toNat = (q - 1) / 2 := by omega
    rw [this]; simp
  rw [e]
  simp only [Bool.or_eq_true, beq_iff_eq] at hb2
  omega
theorem sym_eq (a p : Int) (h : primeB p = true) (h3 : 3 ≤ p) (h1 : p < 1000) : symI a p = symS a p := by
  unfold symI symS symN
  rcases euler a p h h3 h1 with e | e | e <;> rw [e]
  · rw [if_pos rfl, if_neg (by omega)]
  · rw [if_neg (by omega), if_pos rfl, if_neg (by omega)]
  · rw [if_neg (by omega), if_neg (by omega), if_pos rfl]
end Go.Proofs.YtbcjlhbpgcjddaaGreatDoor

/- Table -/
namespace Go.Proofs.YtbcjlhbpgcjddaaGreatDoor
open Go.RowKit

theorem keep2 {w W w1 : World} {b B : Nat} {v0 v1 : Value} (h : W.cell? ⟨b, 0, none⟩ = some v0 ∧ W.cell? ⟨b, 1, none⟩ = some v1 ∧ b < W.heap.size ∧ B ≤ W.heap.size ∧ Below B w W) (hb : Below W.heap.size W w1) :
    w1.cell? ⟨b, 0, none⟩ = some v0 ∧ w1.cell? ⟨b, 1, none⟩ = some v1 ∧ b < w1.heap.size ∧ B ≤ w1.heap.size ∧ Below B w w1 :=
  ⟨(hb.cell (p := ⟨b, 0, none⟩) h.2.2.1).trans h.1, (hb.cell (p := ⟨b, 1, none⟩) h.2.2.1).trans h.2.1, Nat.lt_of_lt_of_le h.2.2.1 hb.size, Nat.le_trans h.2.2.2.1 hb.size, h.2.2.2.2.trans (hb.mono h.2.2.2.1)⟩
theorem keep2d {w W : World} {b B n : Nat} {v0 v1 : Value} (h : W.cell? ⟨b, 0, none⟩ = some v0 ∧ W.cell? ⟨b, 1, none⟩ = some v1 ∧ b < W.heap.size ∧ B ≤ W.heap.size ∧ Below B w W) :
    (W.drewN n).cell? ⟨b, 0, none⟩ = some v0 ∧ (W.drewN n).cell? ⟨b, 1, none⟩ = some v1 ∧ b < (W.drewN n).heap.size ∧ B ≤ (W.drewN n).heap.size ∧ Below B w (W.drewN n) :=
  ⟨h.1, h.2.1, h.2.2.1, h.2.2.2.1, below_drewN h.2.2.2.2 n⟩
theorem ret_int {k : IntKind} {a b : Int} (h : a = b) : Ending.returned (.int k a) = .returned (.int k b) := by rw [h]
def invV (p A B : Int) : Int := (6912 * A * A * A % p) * invM (disc A B) p % p
theorem cube_bd {A : Int} (h : 0 ≤ A) (h1 : A ≤ 1000) : (0 ≤ 6912 * A * A ∧ 6912 * A * A ≤ 6912000000) ∧ (0 ≤ 6912 * A * A * A ∧ 6912 * A * A * A ≤ 6912000000000) := by
  have e1 : 0 ≤ 6912 * A * A := Int.mul_nonneg (by omega) h
  have e2 : 6912 * A * A ≤ 6912000 * 1000 := Int.mul_le_mul (by omega) h1 h (by omega)
  have e3 : 6912 * A * A * A ≤ 6912000000 * 1000 := Int.mul_le_mul (by omega) h1 h (by omega)
  exact ⟨⟨e1, by omega⟩, Int.mul_nonneg e1 h, by omega⟩
theorem invM_bd (a p : Int) (h : 1 ≤ p) : 0 ≤ invM a p ∧ invM a p < p := powM_bd _ _ _ h
theorem mod_bd (a p : Int) (h : 1 ≤ p) : 0 ≤ a % p ∧ a % p < p := ⟨Int.emod_nonneg _ (by omega), Int.emod_lt_of_pos _ (by omega)⟩
noncomputable def tabP (p : Int) : Bool := inB p 5 31 && primeB p
noncomputable def tabB (p A B : Int) : Bool := tabP p && inB A 0 (p - 1) && inB B 0 (p - 1) && !(disc A B % p == 0)
theorem tabP_of {p : Int} (h : tabP p = true) : 5 ≤ p ∧ p ≤ 31 ∧ primeB p = true := by unfold tabP at h; simp at h; exact ⟨(inB_true h.1).1, (inB_true h.1).2, h.2⟩
theorem tabB_of {p A B : Int} (h : tabB p A B = true) : (5 ≤ p ∧ p ≤ 31) ∧ primeB p = true ∧ (0 ≤ A ∧ A ≤ p - 1) ∧ (0 ≤ B ∧ B ≤ p - 1) := by
  unfold tabB at h; simp at h
  exact ⟨⟨(tabP_of h.1.1.1).1, (tabP_of h.1.1.1).2.1⟩, (tabP_of h.1.1.1).2.2, inB_true h.1.1.2, inB_true h.1.2⟩
end Go.Proofs.YtbcjlhbpgcjddaaGreatDoor

/- Cong -/
namespace Go.Proofs.YtbcjlhbpgcjddaaGreatDoor

def Cg (p a b : Int) : Prop := a % p = b % p
theorem Cg.refl (p a : Int) : Cg p a a := rfl
theorem Cg.symm {p a b : Int} (h : Cg p a b) : Cg p b a := Eq.symm h
theorem Cg.trans {p a b c : Int} (h : Cg p a b) (k : Cg p b c) : Cg p a c := Eq.trans h k
theorem Cg.add {p a b c d : Int} (h : Cg p a b) (k : Cg p c d) : Cg p (a + c) (b + d) := by
  unfold Cg at *; rw [Int.add_emod, h, k, ← Int.add_emod]
theorem Cg.sub {p a b c d : Int} (h : Cg p a b) (k : Cg p c d) : Cg p (a - c) (b - d) := by
  unfold Cg at *; rw [Int.sub_emod, h, k, ← Int.sub_emod]
theorem Cg.mul {p a b c d : Int} (h : Cg p a b) (k : Cg p c d) : Cg p (a * c) (b * d) := by
  unfold Cg at *; rw [Int.mul_emod, h, k, ← Int.mul_emod]
theorem Cg.neg {p a b : Int} (h : Cg p a b) : Cg p (-a) (-b) := by
  have := Cg.sub (Cg.refl p 0) h; simpa using this
theorem Cg.mod (p a : Int) : Cg p (a % p) a := Int.emod_emod_of_dvd _ (Int.dvd_refl p)
theorem Cg.mod' {p a b : Int} (h : Cg p a b) : Cg p (a % p) b := (Cg.mod p a).trans h
theorem Cg.eq {p a b : Int} (h : Cg p a b) : a % p = b % p := h
end Go.Proofs.YtbcjlhbpgcjddaaGreatDoor

/- DivA -/
namespace Go.Proofs.YtbcjlhbpgcjddaaGreatDoor
open Go.RowKit

def fV (A B x : Int) : Int := x * x * x + A * x + B
theorem fV_mod (A B p x : Int) : (x * x % p * x + A * x + B) % p = fV A B x % p :=
  (((Cg.mod' (Cg.refl p _)).mul (Cg.refl p x)).add (Cg.refl p (A * x))).add (Cg.refl p B)
theorem fV_bd {A p x : Int} (hA : -1000 ≤ A ∧ A ≤ 1000) (hx : 0 ≤ x ∧ x ≤ 1000) (hp : 1 ≤ p ∧ p ≤ 1000) : (0 ≤ x * x ∧ x * x ≤ 1000000) ∧ (0 ≤ x * x * x ∧ x * x * x ≤ 1000000000) ∧ (-1000000 ≤ A * x ∧ A * x ≤ 1000000) ∧ (0 ≤ x * x % p ∧ x * x % p < p) ∧ (0 ≤ x * x % p * x ∧ x * x % p * x ≤ 1000000) := by
  have h1 := mulb (x := x) (y := x) 1000 1000 (by omega) (by omega)
  have h0 : 0 ≤ x * x := Int.mul_nonneg hx.1 hx.1
  have h2 := mulb (x := x * x) (y := x) 1000000 1000 (by omega) (by omega)
  have h3 := mulb (x := A) (y := x) 1000 1000 (by omega) (by omega)
  have h4 := mod_bd (x * x) p (by omega)
  have h5 := mulb (x := x * x % p) (y := x) 1000 1000 (by omega) (by omega)
  have h6 : 0 ≤ x * x * x := Int.mul_nonneg h0 hx.1
  have h7 : 0 ≤ x * x % p * x := Int.mul_nonneg h4.1 hx.1
  omega
theorem powM_mod (a n p : Int) : powM (a % p) n p = powM a n p := pow_mod _ _ _
theorem symI_mod (a p : Int) : symI (a % p) p = symI a p := by unfold symI; simp only [powM_mod]
theorem symS_mod (a p : Int) : symS (a % p) p = symS a p := by unfold symS; simp only [powM_mod]
theorem invM_mod (a p : Int) : invM (a % p) p = invM a p := powM_mod _ _ _
noncomputable def fitB (A B p x : Int) : Bool := curveB A B && goodP A B p && inB x 0 (p - 1)
theorem curve_of {A B : Int} (h0 : curveB A B = true) : (-1000 ≤ A ∧ A ≤ 1000) ∧ (-10000 ≤ B ∧ B ≤ 10000) := by
  unfold curveB at h0; simp at h0; exact ⟨inB_true h0.1.1, inB_true h0.1.2⟩
theorem good_of {A B p : Int} (h : goodP A B p = true) : (5 ≤ p ∧ p ≤ 997) ∧ primeB p = true := by
  unfold goodP at h; simp at h; exact ⟨inB_true h.1.1, h.1.2⟩
theorem fit_of {A B p x : Int} (h : fitB A B p x = true) : (-1000 ≤ A ∧ A ≤ 1000) ∧ (-10000 ≤ B ∧ B ≤ 10000) ∧ (5 ≤ p ∧ p ≤ 997) ∧ primeB p = true ∧ (0 ≤ x ∧ x ≤ p - 1) := by
  unfold fitB at h; simp at h
  exact ⟨(curve_of h.1.1).1, (curve_of h.1.1).2, (good_of h.1.2).1, (good_of h.1.2).2, inB_true h.2⟩
noncomputable def liesV (A B p x : Int) : Bool := decide (0 ≤ symS (fV A B x) p)
end Go.Proofs.YtbcjlhbpgcjddaaGreatDoor

/- DvPlain -/
namespace Go.Proofs.YtbcjlhbpgcjddaaGreatDoor

def dvF (A B x : Int) : Int := x * x * x + A * x + B
def dvT (A B x : Int) : Int := 3 * x * x * x * x + 6 * A * x * x + 12 * B * x - A * A
def dvQ (A B x : Int) : Int := 2 * (x * x * x * (x * x * x) + 5 * A * (x * x) * (x * x) + 20 * B * (x * x * x) - 5 * (A * A) * (x * x) - 4 * A * B * x - 8 * B * B - A * A * A)
def dvG (A B x p : Int) : Int := 16 * dvF A B x * dvF A B x % p
def eat (xs : List Int) (i : Nat) : Int := xs[i]?.getD 0
/-- the k-th value out of those before it -/
def dvN (p g : Int) (xs : List Int) (k : Nat) : Int :=
  if k % 2 = 0 then (eat xs (k / 2) * (eat xs (k / 2 + 2) * (eat xs (k / 2 - 1) * eat xs (k / 2 - 1)) - eat xs (k / 2 - 2) * (eat xs (k / 2 + 1) * eat xs (k / 2 + 1)))) % p
  else if k / 2 % 2 = 0 then (eat xs (k / 2 + 2) * (eat xs (k / 2) * eat xs (k / 2) * eat xs (k / 2)) * g - eat xs (k / 2 - 1) * (eat xs (k / 2 + 1) * eat xs (k / 2 + 1) * eat xs (k / 2 + 1))) % p
  else (eat xs (k / 2 + 2) * (eat xs (k / 2) * eat xs (k / 2) * eat xs (k / 2)) - eat xs (k / 2 - 1) * (eat xs (k / 2 + 1) * eat xs (k / 2 + 1) * eat xs (k / 2 + 1)) * g) % p
def dvL (A B p x : Int) : Nat → List Int
  | 0 => [0, 1, 1, dvT A B x % p, dvQ A B x % p]
  | j + 1 => dvL A B p x j ++ [dvN p (dvG A B x p) (dvL A B p x j) (5 + j)]
theorem dvL_len (A B p x : Int) : ∀ j, (dvL A B p x j).length = 5 + j
  | 0 => rfl
  | j + 1 => by simp only [dvL, List.length_append, dvL_len A B p x j, List.length_singleton]; omega
theorem dvN_bd (p g : Int) (xs : List Int) (k : Nat) (hp : 0 < p) : 0 ≤ dvN p g xs k ∧ dvN p g xs k < p := by
  unfold dvN
  split
  · exact ⟨Int.emod_nonneg _ (by omega), Int.emod_lt_of_pos _ hp⟩
  · split <;> exact ⟨Int.emod_nonneg _ (by omega), Int.emod_lt_of_pos _ hp⟩
theorem dvL_bd (A B p x : Int) (hp : 5 ≤ p) : ∀ j, ∀ v ∈ dvL A B p x j, 0 ≤ v ∧ v < p
  | 0 => by
    intro v hv
    simp only [dvL, List.mem_cons, List.not_mem_nil, or_false] at hv
    have h1 := Int.emod_nonneg (dvT A B x) (show p ≠ 0 by omega)
    have h2 := Int.emod_lt_of_pos (dvT A B x) (show 0 < p by omega)
    have h3 := Int.emod_nonneg (dvQ A B x) (show p ≠ 0 by omega)
    have h4 := Int.emod_lt_of_pos (dvQ A B x) (show 0 < p by omega)
    rcases hv with rfl | rfl | rfl | rfl | rfl <;> omega
  | j + 1 => by
    intro v hv
    rw [dvL, List.mem_append, List.mem_singleton] at hv
    rcases hv with hv | rfl
    · exact dvL_bd A B p x hp j v hv
    · exact dvN_bd _ _ _ _ (by omega)
theorem eat_bd {A B p x : Int} (hp : 5 ≤ p) (j i : Nat) : 0 ≤ eat (dvL A B p x j) i ∧ eat (dvL A B p x j) i < p := by
  unfold eat
  cases h : (dvL A B p x j)[i]? with
  | none => simp; omega
  | some v => simpa using dvL_bd A B p x hp j v (List.mem_of_getElem? h)
/-- the value of number n -/
def dvE (A B p x : Int) (n : Nat) : Int := eat (dvL A B p x (n - 4)) n
theorem dvL_pre (A B p x : Int) (i j n : Nat) (hn : n < 5 + i) : eat (dvL A B p x (i + j)) n = eat (dvL A B p x i) n := by
  induction j with
  | zero => rfl
  | succ j ih =>
    rw [← ih, Nat.add_succ]
    unfold eat
    rw [dvL, List.getElem?_append_left (by rw [dvL_len]; omega)]
theorem dvE_of (A B p x : Int) (j n : Nat) (hn : n < 5 + j) : eat (dvL A B p x j) n = dvE A B p x n := by
  unfold dvE
  have h := dvL_pre A B p x (n - 4) (j - (n - 4)) n (by omega)
  rw [show n - 4 + (j - (n - 4)) = j by omega] at h
  exact h
/-! the two ways to reckon -/
theorem dvT_impl (A B p x : Int) : (3 * (x * x % p) * (x * x % p) + 6 * (A % p) * (x * x % p) + 12 * (B % p) * x - A % p * (A % p) % p) % p = dvT A B x % p := by
  have hx := Cg.mod p (x * x)
  have hA := Cg.mod p A
  have hB := Cg.mod p B
  have h := ((((Cg.refl p 3).mul hx).mul hx).add (((Cg.refl p 6).mul hA).mul hx)).add (((Cg.refl p 12).mul hB).mul (Cg.refl p x)) |>.sub (Cg.mod' (hA.mul hA))
  refine h.eq.trans (congrArg (· % p) ?_)
  unfold dvT
  simp only [Int.mul_assoc]
theorem dvQ_impl (A B p x x2 x3 a b a2 : Int) (h2 : x2 = x * x % p) (h3 : x3 = x2 * x % p) (ha : a = A % p) (hb : b = B % p) (ha2 : a2 = a * a % p) :
    (2 * (x3 * x3 % p + 5 * a * x2 % p * x2 % p + 20 * b * x3 % p - 5 * a2 * x2 % p - 4 * a * b % p * x % p - 8 * b * b % p - a2 * a % p)) % p = dvQ A B x % p := by
  have k2 : Cg p x2 (x * x) := h2 ▸ Cg.mod p _
  have k3 : Cg p x3 (x * x * x) := h3 ▸ Cg.mod' (k2.mul (Cg.refl p x))
  have kA : Cg p a A := ha ▸ Cg.mod p _
  have kB : Cg p b B := hb ▸ Cg.mod p _
  have kA2 : Cg p a2 (A * A) := ha2 ▸ Cg.mod' (kA.mul kA)
  have r := Cg.refl p
  have t1 := Cg.mod' (k3.mul k3)
  have t2 := Cg.mod' ((Cg.mod' (((r 5).mul kA).mul k2)).mul k2)
  have t3 := Cg.mod' (((r 20).mul kB).mul k3)
  have t4 := Cg.mod' (((r 5).mul kA2).mul k2)
  have t5 := Cg.mod' ((Cg.mod' (((r 4).mul kA).mul kB)).mul (r x))
  have t6 := Cg.mod' (((r 8).mul kB).mul kB)
  have t7 := Cg.mod' (kA2.mul kA)
  exact ((r 2).mul ((((((t1.add t2).add t3).sub t4).sub t5).sub t6).sub t7)).eq
theorem dvQ_spec (A B p x x2 x3 a b : Int) (h2 : x2 = x * x % p) (h3 : x3 = x2 * x % p) (ha : a = A % p) (hb : b = B % p) :
    (2 * (x3 * x3 % p + 5 * a * (x2 * x2 % p) % p + 20 * b * x3 % p - 5 * (a * a % p) * x2 % p - 4 * a * b % p * x % p - 8 * b * b % p - a * a % p * a % p)) % p = dvQ A B x % p := by
  have k2 : Cg p x2 (x * x) := h2 ▸ Cg.mod p _
  have k3 : Cg p x3 (x * x * x) := h3 ▸ Cg.mod' (k2.mul (Cg.refl p x))
  have kA : Cg p a A := ha ▸ Cg.mod p _
  have kB : Cg p b B := hb ▸ Cg.mod p _
  have r := Cg.refl p
  have t1 := Cg.mod' (k3.mul k3)
  have t2 := Cg.mod' (((r 5).mul kA).mul (Cg.mod' (k2.mul k2)))
  have t3 := Cg.mod' (((r 20).mul kB).mul k3)
  have t4 := Cg.mod' (((r 5).mul (Cg.mod' (kA.mul kA))).mul k2)
  have t5 := Cg.mod' ((Cg.mod' (((r 4).mul kA).mul kB)).mul (r x))
  have t6 := Cg.mod' (((r 8).mul kB).mul kB)
  have t7 := Cg.mod' ((Cg.mod' (kA.mul kA)).mul kA)
  have h := (r 2).mul ((((((t1.add t2).add t3).sub t4).sub t5).sub t6).sub t7)
  refine h.eq.trans (congrArg (· % p) ?_)
  unfold dvQ
  simp only [Int.mul_assoc]
theorem dvG_impl (A B p x f : Int) (hf : f = dvF A B x % p) : 16 * f % p * f % p = dvG A B x p := by
  have k : Cg p f (dvF A B x) := hf ▸ Cg.mod p _
  exact ((Cg.mod' ((Cg.refl p 16).mul k)).mul k).eq
theorem dvG_spec (A B p x f : Int) (hf : f = dvF A B x % p) : 16 * f * f % p = dvG A B x p := by
  have k : Cg p f (dvF A B x) := hf ▸ Cg.mod p _
  exact (((Cg.refl p 16).mul k).mul k).eq
theorem ev_impl (p a b c d e : Int) : (a * (b * (c * c % p) % p - d * (e * e % p) % p)) % p = (a * (b * (c * c) - d * (e * e))) % p := by
  have r := Cg.refl p
  exact ((r a).mul ((Cg.mod' ((r b).mul (Cg.mod p (c * c)))).sub (Cg.mod' ((r d).mul (Cg.mod p (e * e)))))).eq
theorem ev_spec (p a b c d e : Int) : a * ((b * (c * c % p) % p - d * (e * e % p) % p) % p) % p = (a * (b * (c * c) - d * (e * e))) % p := by
  have r := Cg.refl p
  exact ((r a).mul (Cg.mod' ((Cg.mod' ((r b).mul (Cg.mod p (c * c)))).sub (Cg.mod' ((r d).mul (Cg.mod p (e * e))))))).eq
theorem od0_impl (p a b c d g : Int) : (a * (b * b % p * b % p) % p * g % p - c * (d * d % p * d % p) % p) % p = (a * (b * b * b) * g - c * (d * d * d)) % p := by
  have r := Cg.refl p
  have kb := Cg.mod' ((Cg.mod p (b * b)).mul (r b))
  have kd := Cg.mod' ((Cg.mod p (d * d)).mul (r d))
  exact ((Cg.mod' ((Cg.mod' ((r a).mul kb)).mul (r g))).sub (Cg.mod' ((r c).mul kd))).eq
theorem od1_impl (p a b c d g : Int) : (a * (b * b % p * b % p) % p - c * (d * d % p * d % p) % p * g % p) % p = (a * (b * b * b) - c * (d * d * d) * g) % p := by
  have r := Cg.refl p
  have kb := Cg.mod' ((Cg.mod p (b * b)).mul (r b))
  have kd := Cg.mod' ((Cg.mod p (d * d)).mul (r d))
  exact ((Cg.mod' ((r a).mul kb)).sub (Cg.mod' ((Cg.mod' ((r c).mul kd)).mul (r g)))).eq
theorem od0_spec (p a b c d g : Int) : (g * (a * (b * b % p * b % p) % p) % p - c * (d * d % p * d % p) % p) % p = (a * (b * b * b) * g - c * (d * d * d)) % p := by
  rw [Int.mul_comm g]; exact od0_impl p a b c d g
theorem od1_spec (p a b c d g : Int) : (a * (b * b % p * b % p) % p - g * (c * (d * d % p * d % p) % p) % p) % p = (a * (b * b * b) - c * (d * d * d) * g) % p := by
  rw [Int.mul_comm g]; exact od1_impl p a b c d g
end Go.Proofs.YtbcjlhbpgcjddaaGreatDoor

/- App -/
namespace Go.Proofs.YtbcjlhbpgcjddaaGreatDoor
open Go.RowKit

theorem OwnsI.closed (base : Nat) (v : Value) (xs : List Int) : Closed (fun w => OwnsI w base v xs) := fun _ _ h hb => h.below hb
theorem OwnsI.over {ex : List Nat} {w w' : World} {base : Nat} {v : Value} {xs : List Int} (h : OwnsI w base v xs) (ho : Over ex w w') (hn : ∀ g, v.ownBlock = some g → g ∉ ex) : OwnsI w' base v xs := by
  refine ⟨h.1, ?_⟩
  rcases h.2 with h0 | ⟨g, cap, cur, hv, hg, hh, r⟩
  · exact .inl h0
  · exact .inr ⟨g, cap, cur, hv, hg, (ho.block g (Array.getElem?_eq_some_iff.1 hh).1 (hn g (by rw [hv]; rfl))).trans hh, r⟩
theorem OwnsI.cell {w : World} {base : Nat} {xs : List Int} {g n cap : Nat} (h : OwnsI w base (.slice (some ⟨g, 0, none⟩) n cap) xs) {i : Nat} (hi : i < xs.length) : w.cell? ⟨g, i, none⟩ = some (.int .i64 (xs[i]?.getD 0)) := by
  obtain ⟨a, cap', hv, hc⟩ := h.form
  obtain ⟨g', ha, h1, _⟩ := hc i hi
  injection hv with e1 _ _
  rw [ha] at e1
  injection e1 with e1
  injection e1 with e1
  rw [e1]
  exact h1
/-- what is appended lies behind what was there, which stays -/
theorem run_app1 {w : World} {base r ty : Nat} {v : Value} {xs : List Int} {y : Int} (hown : OwnsI w base v xs) (hbase : base ≤ w.heap.size) (hx : Blk r #[.int .i64 y] 3 w) (hlen : xs.length < 1000000000000) :
    ∃ v' w1, (Builtin.append_ #[76, 76] ty #[v, .slice (some ⟨r, 0, none⟩) 1 1]).run Tryz.prog w = .ok v' w1 ∧ OwnsI w1 base v' (xs ++ [y]) ∧ OwnsI w1 base v xs ∧ Over v.ownBlock.toList w w1 := by
  obtain ⟨i0, hi, hz0, hz1, hz2⟩ := info_parts Tryz.infoI
  have hnews : ∀ j u, [Value.int .i64 y][j]? = some u → w.cell? ((⟨r, 0, none⟩ : Addr).add j) = some u := by
    intro j u hj
    match j, hj with
    | 0, hj => simp at hj; subst hj; exact hx.cell 0
  have hone : ∀ u ∈ [Value.int .i64 y], u.oneCell' = true := by intro u hu; simp at hu; subst hu; rfl
  have hmap : (xs ++ [y]).map (Value.int .i64) = xs.map (Value.int .i64) ++ [.int .i64 y] := by simp
  rcases hown.2 with ⟨hv, hn⟩ | ⟨g, cap, cur, hv, hg, hh, hnc, hcm, hcs, ht⟩
  · obtain ⟨v', w1, hr, ho, hgr, _⟩ := run_append_own (P := Tryz.prog) w base 76 ty 3 i0 (.int .i64 0) 1 8 Tryz.underlying76 hi hz0 hz1 hz2 rfl (by decide) v xs.length (xs.map (Value.int .i64)) hown ⟨r, 0, none⟩ 1 1 [.int .i64 y] rfl hnews hone (by unfold maxLen; omega) (by omega) hbase
    refine ⟨v', w1, hr, ?_, ⟨hown.1, .inl ⟨hv, hn⟩⟩, ?_⟩
    · show w1.ownsRow _ _ _ _ _ _
      rw [List.length_append, hmap]; exact ho
    · rw [hv] at hgr ⊢
      exact ⟨hgr.os, hgr.tape, hgr.output, hgr.size, fun k hk _ => hgr.block k hk (by simp [Value.ownBlock])⟩
  · by_cases hroom : xs.length + 1 ≤ cap
    · have hown' : w.ownsRow base 3 1 (.slice (some ⟨g, 0, none⟩) xs.length cap) xs.length (xs.map (Value.int .i64)) := by rw [← hv]; exact hown
      obtain ⟨w1, hr, ho, hgr⟩ := run_append_fits (P := Tryz.prog) w base 76 ty 3 i0 1 Tryz.underlying76 hi hz1 g xs.length cap (xs.map (Value.int .i64)) hown' ⟨r, 0, none⟩ 1 1 [.int .i64 y] rfl hnews hone hroom
      refine ⟨_, w1, by rw [hv]; exact hr, ?_, ?_, ?_⟩
      · show w1.ownsRow _ _ _ _ _ _
        rw [List.length_append, hmap]; exact ho
      · refine ⟨hown.1, .inr ?_⟩
        rcases ho.2 with ⟨h0, _⟩ | ⟨g2, cap2, cur2, hv2, hg2, hh2, hnc2, hcm2, hcs2, ht2⟩
        · cases h0
        · injection hv2 with e1 _ e3
          injection e1 with e1
          injection e1 with e1
          subst e1 e3
          refine ⟨g, cap, cur2, hv, hg, hh2, by omega, hcm2, hcs2, ?_⟩
          have h5 : List.take (xs.length * 1) cur2.toList = List.take xs.length (List.take ((xs.length + 1) * 1) cur2.toList) := by rw [List.take_take, Nat.min_eq_left (by omega), Nat.mul_one]
          rw [h5, ht2, List.take_append_of_le_length (by simp)]
          exact List.take_of_length_le (by simp)
      · rw [hv]
        exact ⟨hgr.os, hgr.tape, hgr.output, hgr.size, fun k hk hn => hgr.block k hk (by simpa [Value.ownBlock] using hn)⟩
    · have holds : ∀ j u, (xs.map (Value.int .i64))[j]? = some u → w.cell? ((⟨g, 0, none⟩ : Addr).add j) = some u := by
        intro j u hj
        have hlt : j < xs.length := by have := (List.getElem?_eq_some_iff.1 hj).1; simpa using this
        have h2 : (cur.toList.take (xs.length * 1))[j]? = cur.toList[j]? := List.getElem?_take_of_lt (by omega)
        rw [ht, hj, Array.getElem?_toList] at h2
        have e : (⟨g, 0, none⟩ : Addr).add j = ⟨g, j, none⟩ := by cases j <;> simp [Addr.add]
        rw [e]
        simp only [World.cell?, hh]
        simpa using h2.symm
      obtain ⟨v', w1, hr, ho, hgr⟩ := run_append_arg_grows (P := Tryz.prog) w 76 ty 3 i0 (.int .i64 0) 1 8 Tryz.underlying76 hi hz0 hz1 hz2 rfl (by decide) ⟨g, 0, none⟩ xs.length cap (xs.map (Value.int .i64)) (by simp) holds ⟨r, 0, none⟩ 1 1 [.int .i64 y] rfl hnews (by omega) (by unfold maxLen; omega) (by omega)
      have hB : Below w.heap.size w w1 := ⟨hgr.os, hgr.tape, hgr.output, hgr.size, fun k hk => hgr.block k hk (by simp)⟩
      refine ⟨v', w1, by rw [hv]; exact hr, ?_, hown.below hB, .of_below hB⟩
      refine OwnsI.le (base := w.heap.size) ?_ hbase
      show w1.ownsRow _ _ _ _ _ _
      rw [List.length_append, hmap]; exact ho
section
variable {ops : Array Oper} {Q : Exit → Act → World → Prop} {ex : List Nat} {W : World} {R : Nat → Bool} {N D : World → Prop}
/-- a slice of one number is made -/
theorem stepF_bslice {a : Act} {listed : Array Bool} {f i d : Nat} {o : Oper} {y : Int} (ho : ops[i]? = some o) (hw : Region.wanted o (yielded ops a.tmps) = true) (hd : o.dst = some d)
    (hrun : ∀ w, (execOp a.eval o).run Tryz.prog w = .ok (.value (.slice (some ⟨w.heap.size, 0, none⟩) 1 1)) (w.alloc (.cells #[.int .i64 y] 3))) (hD : Closed D) (hN : ∀ w, D w → N w)
    (h : ∀ r, (∃ w, Over ex W w ∧ D w ∧ Blk r #[.int .i64 y] 3 w) → wpAnyF Tryz.prog ops Q ex W R f (listed.setIfInBounds i true) (a.put (some d) (.slice (some ⟨r, 0, none⟩) 1 1)) N (fun w => D w ∧ Blk r #[.int .i64 y] 3 w)) : StepF Tryz.prog ops Q ex W R f listed a N D i := fun w hO hd' => by
  unfold wpOp
  simp only [ho, hw, if_true]
  refine .inl ?_
  unfold Oper.wp
  rw [hrun w]
  simp only [Oper.upon, hd]
  have h1 : D (w.alloc (.cells #[.int .i64 y] 3)) := hD _ _ hd' ((Below.refl _ _).alloc (Nat.le_refl _) _)
  exact ⟨N, fun u => D u ∧ Blk w.heap.size #[.int .i64 y] 3 u, hD.and (Blk.closed _ _ _), fun u hu => hN u hu.1, fun _ => rfl, hO.alloc _, ⟨h1, Blk.new w _ _⟩, h w.heap.size ⟨_, hO.alloc _, h1, Blk.new w _ _⟩⟩
/-- it is appended -/
theorem stepF_app {a : Act} {listed : Array Bool} {f i d r base : Nat} {o : Oper} {s x : Operand} {v : Value} {xs : List Int} {y : Int} (C : World → Prop) (ho : ops[i]? = some o) (hw : Region.wanted o (yielded ops a.tmps) = true) (hd : o.dst = some d)
    (hop : o.op = .call { callee := .builtin .append, args := #[s, x], argTypes := #[76, 76] }) (hs : a.eval s = v) (hx : a.eval x = .slice (some ⟨r, 0, none⟩) 1 1)
    (hC : Closed C) (hCg : ∀ u u', C u → OwnsI u base v xs → Over v.ownBlock.toList u u' → C u') (hbase : base ≤ W.heap.size) (hlen : xs.length < 1000000000000) (hex : ∀ g, v.ownBlock = some g → g ∈ ex)
    (hDC : ∀ u, D u → C u ∧ OwnsI u base v xs ∧ Blk r #[.int .i64 y] 3 u) (hCN : ∀ u, C u → OwnsI u base v xs → N u)
    (h : ∀ v', (∃ w, Over ex W w ∧ (C w ∧ OwnsI w base v xs) ∧ OwnsI w base v' (xs ++ [y])) → wpAnyF Tryz.prog ops Q ex W R f (listed.setIfInBounds i true) (a.put (some d) v') N (fun w => (C w ∧ OwnsI w base v xs) ∧ OwnsI w base v' (xs ++ [y]))) : StepF Tryz.prog ops Q ex W R f listed a N D i := fun w hO hd' => by
  unfold wpOp
  simp only [ho, hw, if_true]
  refine .inl ?_
  obtain ⟨c1, c2, c3⟩ := hDC w hd'
  obtain ⟨v', w1, hr, o1, o2, o3⟩ := run_app1 (ty := o.type) c2 (Nat.le_trans hbase hO.size) c3 hlen
  unfold Oper.wp execOp
  simp only [hop, resolve, invoke, builtin, Sem.run_bind, Sem.run_pure, Result.andThen_ok, List.map_toArray, List.map_cons, List.map_nil, hs, hx, hr, Oper.upon, hd]
  have hO' : Over ex W w1 := ⟨o3.os.trans hO.os, o3.tape.trans hO.tape, o3.output.trans hO.output, Nat.le_trans hO.size o3.size, fun k hk hn => (o3.block k (Nat.lt_of_lt_of_le hk hO.size) (fun hm => hn (hex k (by simpa using hm)))).trans (hO.block k hk hn)⟩
  have hfin : (C w1 ∧ OwnsI w1 base v xs) ∧ OwnsI w1 base v' (xs ++ [y]) := ⟨⟨hCg _ _ c1 c2 o3, o2⟩, o1⟩
  exact ⟨N, _, (hC.and (OwnsI.closed _ _ _)).and (OwnsI.closed _ _ _), fun u hu => hCN u hu.1.1 hu.1.2, fun _ => rfl, hO', hfin, h v' ⟨w1, hO', hfin⟩⟩
/-- a value of one cell is stored into a block known whole -/
theorem stepF_store1 {a : Act} {listed : Array Bool} {f i r : Nat} {o : Oper} {x y : Operand} {v old : Value} {T : TypeId} (N' D' : World → Prop) (ho : ops[i]? = some o) (hw : Region.wanted o (yielded ops a.tmps) = true)
    (hop : o.op = .store T x y) (hdst : o.dst = none) (hx : a.eval x = .pointer (some ⟨r, 0, none⟩)) (hy : a.eval y = v) (hsz : ∀ w, (sizeOf T).run Tryz.prog w = .ok 1 w) (hc : v.cells = #[v]) (hv : one1 v = true)
    (hB : ∀ u, D u → Blk r #[old] T u) (hr : W.heap.size ≤ r ∨ r ∈ ex) (hD' : Closed D') (hN' : ∀ u, D' u → N' u) (hR : R i = false → N' = N) (hstep : ∀ u u', D u → Over [r] u u' → Blk r #[v] T u' → D' u')
    (h : (∃ w, Over ex W w ∧ D' w) → wpAnyF Tryz.prog ops Q ex W R f (listed.setIfInBounds i true) a N' D') : StepF Tryz.prog ops Q ex W R f listed a N D i := fun w hO hd => by
  unfold wpOp
  simp only [ho, hw, if_true]
  refine .inl ?_
  obtain ⟨w', h1, h2, h3⟩ := run_store_blk (P := Tryz.prog) (v := v) (zs := #[old]) hsz (by rw [hc]; rfl) (by rw [hc]; intro u hu; simp at hu; subst hu; exact hv) (hB w hd)
  have hrun : (execOp a.eval o).run Tryz.prog w = .ok .skip w' := by
    unfold execOp
    rw [hop]
    simp only [hx, hy]
    simp [h1]
  unfold Oper.wp
  rw [hrun]
  simp only [Oper.upon, hdst, Act.put]
  have hO' : Over ex W w' := ⟨h2.os.trans hO.os, h2.tape.trans hO.tape, h2.output.trans hO.output, Nat.le_trans hO.size h2.size, fun k hk hn => (h2.block k (Nat.lt_of_lt_of_le hk hO.size) (by
    intro hkr
    rw [List.mem_singleton] at hkr
    subst hkr
    rcases hr with hr | hr
    · omega
    · exact hn hr)).trans (hO.block k hk hn)⟩
  rw [hc] at h3
  have hd' := hstep w w' hd h2 h3
  exact ⟨N', D', hD', hN', hR, hO', hd', h ⟨w', hO', hd'⟩⟩
end
theorem OwnsI.ofBlk {w : World} {base g : Nat} {xs : List Int} {n : Nat} (hn : n = xs.length) (h : Blk g (xs.map (Value.int .i64)).toArray 3 w) (hb : base ≤ g) (hm : n ≤ 1000) : OwnsI w base (.slice (some ⟨g, 0, none⟩) n n) xs := by
  subst hn
  exact ⟨by simp, .inr ⟨g, xs.length, _, rfl, hb, h, Nat.le_refl _, by unfold maxLen; omega, by simp, by
    rw [Nat.mul_one]
    exact List.take_of_length_le (by simp)⟩⟩
/-- a row of numbers is no variable that holds a slice -/
theorem OwnsI.ne {w : World} {base g n cap b : Nat} {xs : List Int} {v : Value} (h : OwnsI w base (.slice (some ⟨g, 0, none⟩) n cap) xs) (hb : Blk b #[v] 76 w) : b ≠ g := by
  rintro rfl
  rcases h.2 with ⟨h0, _⟩ | ⟨g', cap', cur, hv, hg, hh, _⟩
  · cases h0
  · injection hv with e1 _ _
    injection e1 with e1
    injection e1 with e1
    subst e1
    unfold Blk at hb
    rw [hb] at hh
    simp at hh
theorem OwnsI.ge {w : World} {base g n cap : Nat} {xs : List Int} (h : OwnsI w base (.slice (some ⟨g, 0, none⟩) n cap) xs) : base ≤ g ∧ g < w.heap.size := by
  rcases h.2 with ⟨h0, _⟩ | ⟨g', cap', cur, hv, hg, hh, _⟩
  · cases h0
  · injection hv with e1 _ _
    injection e1 with e1
    injection e1 with e1
    subst e1
    exact ⟨hg, (Array.getElem?_eq_some_iff.1 hh).1⟩
end Go.Proofs.YtbcjlhbpgcjddaaGreatDoor

/- Dv -/
namespace Go.Proofs.YtbcjlhbpgcjddaaGreatDoor
open Go.RowKit

theorem pow_bd {e p : Int} (h0 : 0 ≤ e) (h1 : e < p) (hp : p ≤ 997) : (0 ≤ e * e ∧ e * e ≤ 994009) ∧ (0 ≤ e * e % p ∧ e * e % p < p) ∧ (0 ≤ e * e % p * e ∧ e * e % p * e ≤ 994009) := by
  have h2 := mulb (x := e) (y := e) 997 997 (by omega) (by omega)
  have h3 := Int.mul_nonneg h0 h0
  have h4 := mod_bd (e * e) p (by omega)
  have h5 := mulb (x := e * e % p) (y := e) 997 997 (by omega) (by omega)
  have h6 := Int.mul_nonneg h4.1 h0
  omega
theorem pr_bd {u v p : Int} (c : Int) (hc : 0 ≤ c) (hp : 1 ≤ p ∧ p ≤ 997) (hu : 0 ≤ u ∧ u < p) (hv : 0 ≤ v ∧ v < p) : (0 ≤ c * u * v ∧ c * u * v ≤ c * 994009) ∧ (0 ≤ c * u * v % p ∧ c * u * v % p < p) := by
  have h1 := mulb (x := u) (y := v) 997 997 (by omega) (by omega)
  have h2 := Int.mul_nonneg hu.1 hv.1
  have h3 := Int.mul_nonneg hc h2
  have h4 := Int.mul_le_mul_of_nonneg_left (show u * v ≤ 994009 by omega) hc
  have h5 := mod_bd (c * u * v) p (by omega)
  rw [Int.mul_assoc] at h5 ⊢
  omega
theorem pr_bd1 {u v p : Int} (hp : 1 ≤ p ∧ p ≤ 997) (hu : 0 ≤ u ∧ u < p) (hv : 0 ≤ v ∧ v < p) : (0 ≤ u * v ∧ u * v ≤ 994009) ∧ (0 ≤ u * v % p ∧ u * v % p < p) := by
  have := pr_bd 1 (by omega) hp hu hv
  simpa using this
end Go.Proofs.YtbcjlhbpgcjddaaGreatDoor

/- DvS -/
namespace Go.Proofs.YtbcjlhbpgcjddaaGreatDoor
open Go.RowKit

end Go.Proofs.YtbcjlhbpgcjddaaGreatDoor

/- DvA -/
namespace Go.Proofs.YtbcjlhbpgcjddaaGreatDoor
open Go.RowKit

def rsZ (o : Bool) (A : Int) : Int := if o then A else 0
noncomputable def dvOk (A B p x n : Int) : Bool := fitB A B p x && inB n 1 40
theorem dvOk_of {A B p x n : Int} (h : dvOk A B p x n = true) : fitB A B p x = true ∧ (1 ≤ n ∧ n ≤ 40) := by
  unfold dvOk at h
  simp only [Bool.and_eq_true] at h
  exact ⟨h.1, inB_true h.2⟩
/-- a value is read out of a row -/
theorem row_at {w : World} {base : Nat} {v : Value} {A B p x : Int} {j n : Nat} (ho : OwnsI w base v (dvL A B p x j)) (hn : n < 5 + j) :
    ∃ g cap, v = .slice (some ⟨g, 0, none⟩) (5 + j) cap ∧ w.cell? ⟨g, n, none⟩ = some (.int .i64 (dvE A B p x n)) := by
  have hl := dvL_len A B p x j
  obtain ⟨a, cap, hv, hc⟩ := ho.form
  obtain ⟨g, ha, h1, _⟩ := hc n (by omega)
  refine ⟨g, cap, by rw [hv, ha, hl], ?_⟩
  rw [h1, ← dvE_of A B p x j n hn]; rfl
def zB (A B p x n : Int) : Bool := dvE A B p x n.toNat == 0 || (n % 2 == 0 && fV A B x % p == 0)
end Go.Proofs.YtbcjlhbpgcjddaaGreatDoor

/- PairPlain -/
namespace Go.Proofs.YtbcjlhbpgcjddaaGreatDoor
open Go.RowKit

def cellsP (L : List (Int × Int)) : List Value := L.flatMap fun p => [.int .i64 p.1, .int .i64 p.2]
theorem cellsP_snoc (L : List (Int × Int)) (p : Int × Int) : cellsP (L ++ [p]) = cellsP L ++ [.int .i64 p.1, .int .i64 p.2] := by simp [cellsP]
theorem cellsP_cons (L : List (Int × Int)) (p : Int × Int) : cellsP (p :: L) = .int .i64 p.1 :: .int .i64 p.2 :: cellsP L := by simp [cellsP]
theorem cellsP_length (L : List (Int × Int)) : (cellsP L).length = L.length * 2 := by
  induction L with
  | nil => rfl
  | cons p L ih => rw [cellsP_cons]; simp [ih]; omega
theorem cellsP_get (L : List (Int × Int)) : ∀ i (h : i < L.length), (cellsP L)[i * 2]? = some (.int .i64 L[i].1) ∧ (cellsP L)[i * 2 + 1]? = some (.int .i64 L[i].2) := by
  induction L with
  | nil => intro i h; simp at h
  | cons p L ih =>
    intro i h
    rw [cellsP_cons]
    cases i with
    | zero => simp
    | succ i =>
      have := ih i (by simpa using h)
      rw [show (i + 1) * 2 = i * 2 + 2 by omega]
      simpa using this
def OwnsP (T : TypeId) (w : World) (base : Nat) (v : Value) (L : List (Int × Int)) : Prop := w.ownsRow base T 2 v L.length (cellsP L)
theorem OwnsP.nil (T : TypeId) (w : World) (base : Nat) : OwnsP T w base (.slice none 0 0) [] := World.ownsRow_nil _ _ _ _
theorem OwnsP.below {T : TypeId} {w w1 : World} {base : Nat} {v : Value} {L : List (Int × Int)} (h : OwnsP T w base v L) (hb : Below w.heap.size w w1) : OwnsP T w1 base v L := by
  refine ⟨h.1, ?_⟩
  rcases h.2 with h0 | ⟨g, cap, cur, hv, hg, hh, r⟩
  · exact .inl h0
  · exact .inr ⟨g, cap, cur, hv, hg, (hb.block g (Array.getElem?_eq_some_iff.1 hh).1).trans hh, r⟩
theorem OwnsP.kept {T : TypeId} {w w1 : World} {base base' : Nat} {v v' : Value} {L : List (Int × Int)} (h : OwnsP T w base v L) (hv : ∀ k, v'.ownBlock = some k → base' ≤ k) (hlt : ∀ k, v.ownBlock = some k → k < base') (hg : w.grownBy w1 v'.ownBlock) : OwnsP T w1 base v L := by
  refine World.ownsRow.kept h hg ?_
  cases e : v.ownBlock with
  | none => exact .inl rfl
  | some k =>
    refine .inr fun e' => ?_
    have := hv k e'.symm
    have := hlt k e
    omega
theorem OwnsP.form {T : TypeId} {w : World} {base : Nat} {v : Value} {L : List (Int × Int)} (h : OwnsP T w base v L) :
    ∃ (a : Option Addr) (cap : Nat), v = .slice a L.length cap ∧ ∀ i (_ : i < L.length), ∃ g, a = some ⟨g, 0, none⟩ ∧ w.cell? ⟨g, i * 2, none⟩ = some (.int .i64 L[i].1) ∧ w.cell? ⟨g, i * 2 + 1, none⟩ = some (.int .i64 L[i].2) ∧
      (∀ o, w.frozen? ⟨g, o, none⟩ = false) ∧ g < w.heap.size ∧ base ≤ g := by
  rcases h.2 with ⟨hv, hn⟩ | ⟨g, cap, cur, hv, hg, hh, hnc, hcm, hcs, ht⟩
  · exact ⟨none, 0, by rw [hv, hn], fun i hi => by omega⟩
  · refine ⟨some ⟨g, 0, none⟩, cap, hv, fun i hi => ⟨g, rfl, ?_, ?_, ?_, (Array.getElem?_eq_some_iff.1 hh).1, hg⟩⟩
    · have h4 : (cur.toList.take (L.length * 2))[i * 2]? = cur.toList[i * 2]? := List.getElem?_take_of_lt (by omega)
      rw [ht, (cellsP_get L i hi).1] at h4
      rw [Array.getElem?_toList] at h4
      show (match w.heap[g]? with | some (.cells cs _ _) => _ | _ => _) = _
      rw [hh]; exact h4.symm
    · have h4 : (cur.toList.take (L.length * 2))[i * 2 + 1]? = cur.toList[i * 2 + 1]? := List.getElem?_take_of_lt (by omega)
      rw [ht, (cellsP_get L i hi).2] at h4
      rw [Array.getElem?_toList] at h4
      show (match w.heap[g]? with | some (.cells cs _ _) => _ | _ => _) = _
      rw [hh]; exact h4.symm
    · intro o
      simp [World.frozen?, hh]
def markL (n : Nat) : List (Int × Int) := (List.range n).map fun (i : Nat) => (1 + 2 * (i : Int), 1 + 2 * (i : Int) + 1)
theorem markL_length (n : Nat) : (markL n).length = n := by simp [markL]
theorem markL_get (n i : Nat) (h : i < (markL n).length) : (markL n)[i] = (1 + 2 * (i : Int), 1 + 2 * (i : Int) + 1) := by simp [markL]
theorem heap_setCell_at {w : World} {g i : Nat} {cs : Array Value} {t : TypeId} {fr : Nat × Nat} (h : w.heap[g]? = some (.cells cs t fr)) (u : Value) : (w.setCell ⟨g, i, none⟩ u).heap[g]? = some (.cells (cs.setIfInBounds i u) t fr) := by
  simp [World.setCell, Array.getElem?_modify, h]
theorem own_set {w : World} {base : Nat} {e : TypeId} {size : Nat} {v : Value} {n : Nat} {xs : List Value} {g cap : Nat} (h : w.ownsRow base e size v n xs) (hv : v = .slice (some ⟨g, 0, none⟩) n cap) (j : Nat) (u : Value) :
    (w.setCell ⟨g, j, none⟩ u).ownsRow base e size v n (xs.set j u) := by
  refine ⟨by simpa using h.1, ?_⟩
  rcases h.2 with ⟨h0, _⟩ | ⟨g', cap', cur, hv', hg, hh, hnc, hcm, hcs, ht⟩
  · rw [hv] at h0; simp at h0
  · rw [hv] at hv'
    obtain ⟨rfl, rfl⟩ : g = g' ∧ cap = cap' := by simpa using hv'
    refine .inr ⟨g, cap, cur.setIfInBounds j u, hv, hg, heap_setCell_at hh u, hnc, hcm, by simpa using hcs, ?_⟩
    rw [Array.toList_setIfInBounds, List.take_set, ht]
def mixL (L : List (Int × Int)) (k : Nat) : List (Int × Int) := markL k ++ L.drop k
theorem mixL_length (L : List (Int × Int)) (k : Nat) (h : k ≤ L.length) : (mixL L k).length = L.length := by simp [mixL, markL]; omega
theorem cellsP_append (L M : List (Int × Int)) : cellsP (L ++ M) = cellsP L ++ cellsP M := by simp [cellsP]
theorem mix_step (L : List (Int × Int)) (k : Nat) (h : k < L.length) :
    ((cellsP (mixL L k)).set (k * 2) (.int .i64 (1 + 2 * (k : Int)))).set (k * 2 + 1) (.int .i64 (1 + 2 * (k : Int) + 1)) = cellsP (mixL L (k + 1)) := by
  have e1 : mixL L (k + 1) = markL k ++ ((1 + 2 * (k : Int), 1 + 2 * (k : Int) + 1) :: L.drop (k + 1)) := by
    simp [mixL, markL, List.range_succ]
  have e2 : mixL L k = markL k ++ (L[k] :: L.drop (k + 1)) := by
    unfold mixL; rw [List.drop_eq_getElem_cons h]
  have e3 : (cellsP (markL k)).length = k * 2 := by rw [cellsP_length, markL_length]
  rw [e1, e2, cellsP_append, cellsP_append, cellsP_cons, cellsP_cons, List.set_append, if_neg (by omega), e3, Nat.sub_self, List.set_append, if_neg (by omega), e3, show k * 2 + 1 - k * 2 = 1 by omega]
  rfl
theorem grown_setCell {a w : World} {g : Nat} (h : a.grownBy w (some g)) (o : Nat) (u : Value) : a.grownBy (w.setCell ⟨g, o, none⟩ u) (some g) :=
  ⟨h.os, h.tape, h.output, by simpa [World.setCell] using h.size, fun i hi hne => (Below.heap_setCell w ⟨g, o, none⟩ u i (by rintro rfl; exact hne rfl)).trans (h.block i hi hne)⟩
/-- one round of 'mark' -/
theorem mark_round {T : TypeId} {w wr : World} {base : Nat} {L : List (Int × Int)} {g cap k : Nat} (hk : k < L.length) (ho : OwnsP T wr base (.slice (some ⟨g, 0, none⟩) L.length cap) (mixL L k)) (hg : w.grownBy wr (some g)) :
    OwnsP T ((wr.setCell ⟨g, k * 2, none⟩ (.int .i64 (1 + 2 * (k : Int)))).setCell ⟨g, k * 2 + 1, none⟩ (.int .i64 (1 + 2 * (k : Int) + 1))) base (.slice (some ⟨g, 0, none⟩) L.length cap) (mixL L (k + 1)) ∧
    w.grownBy ((wr.setCell ⟨g, k * 2, none⟩ (.int .i64 (1 + 2 * (k : Int)))).setCell ⟨g, k * 2 + 1, none⟩ (.int .i64 (1 + 2 * (k : Int) + 1))) (some g) := by
  refine ⟨?_, grown_setCell (grown_setCell hg _ _) _ _⟩
  unfold OwnsP at ho ⊢
  rw [mixL_length _ _ (by omega)] at ho
  rw [mixL_length _ _ (by omega), ← mix_step L k hk]
  exact own_set (own_set ho rfl _ _) rfl _ _
theorem keep4 {w W w1 : World} {ga gb B o1 o2 o3 o4 : Nat} {v1 v2 v3 v4 : Value}
    (h : W.cell? ⟨ga, o1, none⟩ = some v1 ∧ W.cell? ⟨ga, o2, none⟩ = some v2 ∧ W.cell? ⟨gb, o3, none⟩ = some v3 ∧ W.cell? ⟨gb, o4, none⟩ = some v4 ∧ ga < W.heap.size ∧ gb < W.heap.size ∧ B ≤ W.heap.size ∧ Below B w W) (hb : Below W.heap.size W w1) :
    w1.cell? ⟨ga, o1, none⟩ = some v1 ∧ w1.cell? ⟨ga, o2, none⟩ = some v2 ∧ w1.cell? ⟨gb, o3, none⟩ = some v3 ∧ w1.cell? ⟨gb, o4, none⟩ = some v4 ∧ ga < w1.heap.size ∧ gb < w1.heap.size ∧ B ≤ w1.heap.size ∧ Below B w w1 := by
  obtain ⟨h1, h2, h3, h4, h5, h6, h7, h8⟩ := h
  have hc := fun b o hb' => hb.cell (p := ⟨b, o, none⟩) hb'
  exact ⟨(hc ga o1 h5).trans h1, (hc ga o2 h5).trans h2, (hc gb o3 h6).trans h3, (hc gb o4 h6).trans h4, Nat.lt_of_lt_of_le h5 hb.size, Nat.lt_of_lt_of_le h6 hb.size, Nat.le_trans h7 hb.size, h8.trans (hb.mono h7)⟩
theorem keep4d {w W : World} {ga gb B o1 o2 o3 o4 n : Nat} {v1 v2 v3 v4 : Value}
    (h : W.cell? ⟨ga, o1, none⟩ = some v1 ∧ W.cell? ⟨ga, o2, none⟩ = some v2 ∧ W.cell? ⟨gb, o3, none⟩ = some v3 ∧ W.cell? ⟨gb, o4, none⟩ = some v4 ∧ ga < W.heap.size ∧ gb < W.heap.size ∧ B ≤ W.heap.size ∧ Below B w W) :
    (W.drewN n).cell? ⟨ga, o1, none⟩ = some v1 ∧ (W.drewN n).cell? ⟨ga, o2, none⟩ = some v2 ∧ (W.drewN n).cell? ⟨gb, o3, none⟩ = some v3 ∧ (W.drewN n).cell? ⟨gb, o4, none⟩ = some v4 ∧ ga < (W.drewN n).heap.size ∧ gb < (W.drewN n).heap.size ∧ B ≤ (W.drewN n).heap.size ∧ Below B w (W.drewN n) :=
  ⟨h.1, h.2.1, h.2.2.1, h.2.2.2.1, h.2.2.2.2.1, h.2.2.2.2.2.1, h.2.2.2.2.2.2.1, below_drewN h.2.2.2.2.2.2.2 n⟩
theorem OwnsP.le {T : TypeId} {w : World} {base base' : Nat} {v : Value} {L : List (Int × Int)} (h : OwnsP T w base v L) (hb : base' ≤ base) : OwnsP T w base' v L :=
  ⟨h.1, h.2.elim Or.inl (fun ⟨g, cap, cur, hv, hg, r⟩ => Or.inr ⟨g, cap, cur, hv, Nat.le_trans hb hg, r⟩)⟩
/-- the call returns a list of its own, and a bool -/
def ListPost (T : TypeId) (w : World) (L : List (Int × Int)) (b : Bool) (e : Ending) (w' : World) : Prop :=
  ∃ v, e = .returned (.tuple #[v, .bool b]) ∧ OwnsP T w' w.heap.size v L ∧ Below w.heap.size w w'
theorem OwnsP.lt {T : TypeId} {w : World} {base : Nat} {v : Value} {L : List (Int × Int)} (h : OwnsP T w base v L) : ∀ k, v.ownBlock = some k → base ≤ k ∧ k < w.heap.size := World.ownsRow.lt h
theorem OwnsP.grown {T : TypeId} {w w1 : World} {base base' : Nat} {v v' : Value} {L : List (Int × Int)} (h : OwnsP T w base v L) (hg : w.grownBy w1 v'.ownBlock) (hne : ∀ k, v.ownBlock = some k → k < base') (hv : ∀ k, v'.ownBlock = some k → base' ≤ k) : OwnsP T w1 base v L := OwnsP.kept h hv hne hg
theorem below_of_grown {B : Nat} {w w1 : World} {v : Value} (hg : w.grownBy w1 v.ownBlock) (hB : B ≤ w.heap.size) (hv : ∀ k, v.ownBlock = some k → B ≤ k) : Below B w w1 :=
  (Below.refl B w).grown hg hB hv
end Go.Proofs.YtbcjlhbpgcjddaaGreatDoor

/- PairI -/
namespace Go.Proofs.YtbcjlhbpgcjddaaGreatDoor
open Go.RowKit

/-- a slice value that reads as a list -/
def RdI (w : World) (v : Value) (xs : List Int) : Prop := ∃ (a : Option Addr) (cap : Nat), v = .slice a xs.length cap ∧ ∀ i, i < xs.length → ∃ g o, a = some ⟨g, o, none⟩ ∧ w.cell? ⟨g, o + i, none⟩ = some (.int .i64 (xs[i]?.getD 0)) ∧ g < w.heap.size
theorem OwnsI.rd {w : World} {base : Nat} {v : Value} {xs : List Int} (h : OwnsI w base v xs) : RdI w v xs := by
  obtain ⟨a, cap, hv, hc⟩ := h.form
  refine ⟨a, cap, hv, fun i hi => ?_⟩
  obtain ⟨g, ha, h1, h2, _⟩ := hc i hi
  exact ⟨g, 0, ha, by rw [Nat.zero_add]; exact h1, h2⟩
theorem RdI.below {w w1 : World} {v : Value} {xs : List Int} (h : RdI w v xs) (hb : Below w.heap.size w w1) : RdI w1 v xs := by
  obtain ⟨a, cap, hv, hc⟩ := h
  refine ⟨a, cap, hv, fun i hi => ?_⟩
  obtain ⟨g, o, ha, h1, h2⟩ := hc i hi
  exact ⟨g, o, ha, (hb.cell (p := ⟨g, o + i, none⟩) h2).trans h1, Nat.lt_of_lt_of_le h2 hb.size⟩
theorem RdI.grown {w w1 : World} {v : Value} {xs : List Int} {row : Option Nat} (h : RdI w v xs) (hg : w.grownBy w1 row) (hne : ∀ g, v.ownBlock = some g → some g ≠ row) : RdI w1 v xs := by
  obtain ⟨a, cap, hv, hc⟩ := h
  refine ⟨a, cap, hv, fun i hi => ?_⟩
  obtain ⟨g, o, ha, h1, h2⟩ := hc i hi
  have := hg.block g h2 (hne g (by rw [hv, ha]; rfl))
  exact ⟨g, o, ha, (World.cell?_of_block (w := w) (a := ⟨g, o + i, none⟩) this).trans h1, Nat.lt_of_lt_of_le h2 hg.size⟩
theorem RdI.lt {w : World} {v : Value} {xs : List Int} (h : RdI w v xs) (hx : xs ≠ []) : ∀ g, v.ownBlock = some g → g < w.heap.size := by
  obtain ⟨a, cap, hv, hc⟩ := h
  intro g hg
  obtain ⟨g', o, ha, _, h2⟩ := hc 0 (List.length_pos_iff.2 hx)
  rw [hv, ha] at hg
  have hg' : some g' = some g := hg
  injection hg' with hg'
  omega
theorem OwnsI.lt {w : World} {base : Nat} {v : Value} {xs : List Int} (h : OwnsI w base v xs) : ∀ g, v.ownBlock = some g → base ≤ g ∧ g < w.heap.size := World.ownsRow.lt h
def markI (n : Nat) : List Int := (List.range n).map fun (i : Nat) => 1 + (i : Int)
theorem markI_length (n : Nat) : (markI n).length = n := by simp [markI]
theorem markI_get (n i : Nat) (h : i < n) : (markI n)[i]?.getD 0 = 1 + (i : Int) := by
  have e : (markI n)[i]? = some (1 + (i : Int)) := by simp [markI, h]
  rw [e]; rfl
def mixI (xs : List Int) (k : Nat) : List Int := markI k ++ xs.drop k
theorem mixI_length (xs : List Int) (k : Nat) (h : k ≤ xs.length) : (mixI xs k).length = xs.length := by simp [mixI, markI]; omega
theorem mixI_step (xs : List Int) (k : Nat) (h : k < xs.length) : ((mixI xs k).map (Value.int .i64)).set k (.int .i64 (1 + (k : Int))) = (mixI xs (k + 1)).map (Value.int .i64) := by
  have e1 : mixI xs (k + 1) = markI k ++ ((1 + (k : Int)) :: xs.drop (k + 1)) := by simp [mixI, markI, List.range_succ]
  have e2 : mixI xs k = markI k ++ (xs[k] :: xs.drop (k + 1)) := by unfold mixI; rw [List.drop_eq_getElem_cons h]
  rw [e1, e2, List.map_append, List.map_append, List.map_cons, List.map_cons, List.set_append, if_neg (by rw [List.length_map, markI_length]; omega), List.length_map, markI_length, Nat.sub_self]
  rfl
/-- one round of 'mark' -/
theorem mark_roundI {w wr : World} {base : Nat} {xs : List Int} {g cap k : Nat} (hk : k < xs.length) (ho : OwnsI wr base (.slice (some ⟨g, 0, none⟩) xs.length cap) (mixI xs k)) (hg : w.grownBy wr (some g)) :
    OwnsI (wr.setCell ⟨g, k, none⟩ (.int .i64 (1 + (k : Int)))) base (.slice (some ⟨g, 0, none⟩) xs.length cap) (mixI xs (k + 1)) ∧ w.grownBy (wr.setCell ⟨g, k, none⟩ (.int .i64 (1 + (k : Int)))) (some g) := by
  refine ⟨?_, grown_setCell hg _ _⟩
  unfold OwnsI at ho ⊢
  rw [mixI_length _ _ (by omega)] at ho
  rw [mixI_length _ _ (by omega), ← mixI_step xs k hk]
  exact own_set ho rfl _ _
/-- the call returns a list of ints of its own, and a bool -/
def IntsPost (w : World) (xs : List Int) (b : Bool) (e : Ending) (w' : World) : Prop := ∃ v, e = .returned (.tuple #[v, .bool b]) ∧ OwnsI w' w.heap.size v xs ∧ Below w.heap.size w w'
def ReadPost (w : World) (xs : List Int) (b : Bool) (e : Ending) (w' : World) : Prop := ∃ v, e = .returned (.tuple #[v, .bool b]) ∧ RdI w' v xs ∧ (∀ g, v.ownBlock = some g → g < w'.heap.size) ∧ Below w.heap.size w w'
theorem OwnsI.frozen {w : World} {base g n cap : Nat} {xs : List Int} (h : OwnsI w base (.slice (some ⟨g, 0, none⟩) n cap) xs) (o : Nat) : w.frozen? ⟨g, o, none⟩ = false := by
  rcases h.2 with ⟨h0, _⟩ | ⟨g', cap', cur, hv, hg, hh, _⟩
  · cases h0
  · injection hv with e1 _ _
    injection e1 with e1
    injection e1 with e1
    subst e1
    simp [World.frozen?, hh]
end Go.Proofs.YtbcjlhbpgcjddaaGreatDoor

/- DvR -/
namespace Go.Proofs.YtbcjlhbpgcjddaaGreatDoor
open Go.RowKit

/-- all elements of a slice into a fresh one -/
theorem wpList_app_all {ops : Array Oper} {rest : List Oper} {o : Oper} {a : Act} {Q : Exit → Act → World → Prop} {wr : World} (hgd : o.guard = none) (s x : Operand)
    (ho : o.op = .call { callee := .builtin .append, args := #[s, x], argTypes := #[76, 76] })
    (ys : List Int) (g off cap : Nat) (hs : a.eval s = .slice (some ⟨wr.heap.size, 0, none⟩) 0 0) (hx : a.eval x = .slice (some ⟨g, off, none⟩) ys.length cap)
    (hc : ∀ i, i < ys.length → wr.cell? ⟨g, off + i, none⟩ = some (.int .i64 (ys[i]?.getD 0)) ∧ g < wr.heap.size)
    (hlen : ys.length < 1000000000000)
    (h : ∀ v' w1, OwnsI w1 wr.heap.size v' ys → Below wr.heap.size wr w1 → wpList Tryz.prog ops Q rest (a.put o.dst v') w1) :
    wpList Tryz.prog ops Q (o :: rest) a (wr.alloc (.cells #[] 3)) := by
  obtain ⟨i0, hi, hz0, hz1, hz2⟩ := info_parts Tryz.infoI
  have hown : (wr.alloc (.cells #[] 3)).ownsRow wr.heap.size 3 1 (.slice (some ⟨wr.heap.size, 0, none⟩) 0 0) 0 [] := World.ownsRow_lit wr #[] 0 (Nat.le_refl _) (by unfold maxLen; omega) rfl
  refine wpList_append_own _ hgd s x 76 ho wr.heap.size 3 i0 (.int .i64 0) 1 8 Tryz.underlying76 hi hz0 hz1 hz2 rfl (by decide) _ 0 [] hs hown ⟨g, off, none⟩ ys.length cap (ys.map (Value.int .i64)) hx (by simp) ?_ ?_ ?_ ?_ ?_ ?_
  · intro j u hj
    have hlt : j < ys.length := by have := (List.getElem?_eq_some_iff.1 hj).1; simpa using this
    obtain ⟨h1, h2⟩ := hc j hlt
    rw [List.getElem?_map, List.getElem?_eq_getElem hlt] at hj
    rw [List.getElem?_eq_getElem hlt] at h1
    have e : (⟨g, off, none⟩ : Addr).add j = ⟨g, off + j, none⟩ := by cases j <;> simp [Addr.add]
    rw [e]
    have := ((Below.refl wr.heap.size wr).alloc (Nat.le_refl _) (.cells #[] 3)).cell (p := ⟨g, off + j, none⟩) h2
    rw [this, h1, ← hj]; rfl
  · intro u hu; simp at hu; obtain ⟨y, _, rfl⟩ := hu; rfl
  · unfold maxLen; omega
  · omega
  · simp
  · intro v' w1 hown' hgrow _
    refine h v' w1 ?_ ?_
    · show w1.ownsRow _ _ _ _ _ _
      simpa using hown'
    · refine ((Below.refl wr.heap.size wr).alloc (Nat.le_refl _) _).grown hgrow (by simp) (fun k hk => ?_)
      simp [Value.ownBlock] at hk; omega
theorem c_cloneI (v : Value) (xs : List Int) (hx : xs ≠ []) (hL : xs.length ≤ 100000000) (w : World) (hr : RdI w v xs) :
    Calls Tryz.prog 210 #[v] w fun e w' => ∃ v', e = .returned v' ∧ OwnsI w' w.heap.size v' xs ∧ Below w.heap.size w w' := by
  obtain ⟨a, cap, rfl, hc⟩ := hr
  obtain ⟨g, o, rfl, _, _⟩ := hc 0 (List.length_pos_iff.2 hx)
  have hc' : ∀ i, i < xs.length → w.cell? ⟨g, o + i, none⟩ = some (.int .i64 (xs[i]?.getD 0)) ∧ g < w.heap.size := by
    intro i hi
    obtain ⟨g', o', e, h1, h2⟩ := hc i hi
    injection e with e
    injection e with e1 e2
    subst e1 e2
    exact ⟨h1, h2⟩
  have HC := Lib.hid hc'
  clear hc hc'
  have q22 : ∀ (w : World) (a : Option Addr) (n c n' c' : Nat), (binOp .eql 76 (.slice a n c) (.slice none n' c')).run Tryz.prog w = .ok (.bool a.isNone) w := fun w a n c n' c' => Lib.run_eql_slice_nil w _ _ a n c n' c' Tryz.underlying76
  go_enter Tryz.func210, Tryz.ntmps210
  go_wp2_with (at_builtin; refine wpList_app_all rfl _ _ rfl xs g o cap rfl rfl HC.out (by omega) ?_; intro v' w1 hown1 hb1)
  go_wp2
  go_ret
  exact ⟨_, rfl, hown1, hb1⟩
/-- d(1), ..., d(n) -/
def dvR (A B p x : Int) (N : Nat) : List Int := (List.range N).map fun i => dvE A B p x (i + 1)
theorem dvR_len (A B p x : Int) (N : Nat) : (dvR A B p x N).length = N := by simp [dvR]
theorem dvR_get (A B p x : Int) (N i : Nat) (h : i < N) : (dvR A B p x N)[i]?.getD 0 = dvE A B p x (i + 1) := by
  have e : (dvR A B p x N)[i]? = some (dvE A B p x (i + 1)) := by simp [dvR, h]
  rw [e]; rfl
noncomputable def drRes (A B p x n : Int) : List Int := if dvOk A B p x n then dvR A B p x n.toNat else []
theorem drRes_len (A B p x n : Int) : (drRes A B p x n).length ≤ 40 := by
  unfold drRes
  split
  · rename_i h
    have := (dvOk_of h).2
    rw [dvR_len]; omega
  · simp
/-- the part of a row that lies behind its head -/
theorem row_part {w : World} {base : Nat} {v : Value} {A B p x : Int} {j N : Nat} (ho : OwnsI w base v (dvL A B p x j)) (hN : N < 5 + j) (_ : 1 ≤ N) :
    ∃ g cap, v = .slice (some ⟨g, 0, none⟩) (5 + j) cap ∧ 5 + j ≤ cap ∧ (∀ c, RdI w (.slice (some ⟨g, 1, none⟩) N c) (dvR A B p x N)) ∧ base ≤ g ∧ g < w.heap.size := by
  have hl := dvL_len A B p x j
  rcases ho.2 with ⟨hv, hn⟩ | ⟨g, cap, cur, hv, hg, hh, hnc, hcm, hcs, ht⟩
  · omega
  · rw [hl] at hv hnc
    refine ⟨g, cap, hv, hnc, fun c => ⟨_, c, by rw [dvR_len], fun i hi => ?_⟩, hg, (Array.getElem?_eq_some_iff.1 hh).1⟩
    rw [dvR_len] at hi
    obtain ⟨g', cap', hv', h9⟩ := row_at (n := i + 1) ho (by omega)
    rw [hv] at hv'
    injection hv' with e1 _ _
    injection e1 with e1
    injection e1 with e1
    subst e1
    exact ⟨g, 1, rfl, by rw [Nat.add_comm 1 i, h9, dvR_get _ _ _ _ _ _ hi], (Array.getElem?_eq_some_iff.1 hh).1⟩
/-- the places below k where z holds -/
def zList (z : Nat → Bool) : Nat → List Int
  | 0 => []
  | k + 1 => if z k then zList z k ++ [(k : Int)] else zList z k
theorem zList_len (z : Nat → Bool) : ∀ k, (zList z k).length ≤ k
  | 0 => Nat.le_refl _
  | k + 1 => by
    have := zList_len z k
    unfold zList
    split
    · rw [List.length_append]; simp; omega
    · omega
def rtZ (A B p : Int) (N k : Nat) : Bool := dvE A B p k N == 0
noncomputable def rtRes (A B p n : Int) : List Int := if dvOk A B p 0 n then zList (rtZ A B p n.toNat) p.toNat else []
theorem rtRes_len (A B p n : Int) : (rtRes A B p n).length ≤ 1000 := by
  unfold rtRes
  split
  · rename_i h
    obtain ⟨_, _, hp, _, _⟩ := fit_of (dvOk_of h).1
    have := zList_len (rtZ A B p n.toNat) p.toNat
    omega
  · simp
theorem fit_at {A B p : Int} (h : fitB A B p 0 = true) {x : Int} (h0 : 0 ≤ x) (h1 : x < p) : fitB A B p x = true := by
  unfold fitB at h ⊢
  simp only [Bool.and_eq_true] at h ⊢
  exact ⟨h.1, inB_mk h0 (by omega)⟩
theorem IntsPost.read {w : World} {xs : List Int} {b : Bool} {e : Ending} {w' : World} (h : IntsPost w xs b e w') : ReadPost w xs b e w' := by
  obtain ⟨v, h1, h2, h3⟩ := h
  exact ⟨v, h1, h2.rd, fun g hg => (h2.lt g hg).2, h3⟩
end Go.Proofs.YtbcjlhbpgcjddaaGreatDoor

/- BgT -/
namespace Go.Proofs.YtbcjlhbpgcjddaaGreatDoor
open Go.RowKit

/-- a slice that reads as a list of numbers, its length within its capacity -/
def RdL (w : World) (v : Value) (L : List Int) : Prop := ∃ (a : Option Addr) (cap : Nat), v = .slice a L.length cap ∧ L.length ≤ cap ∧ ∀ i, i < L.length → ∃ g o, a = some ⟨g, o, none⟩ ∧ w.cell? ⟨g, o + i, none⟩ = some (.int .i64 (L[i]?.getD 0)) ∧ g < w.heap.size
theorem RdL.rd {w : World} {v : Value} {L : List Int} (h : RdL w v L) : RdI w v L := by
  obtain ⟨a, cap, h1, _, h2⟩ := h
  exact ⟨a, cap, h1, h2⟩
theorem RdL.below {w w1 : World} {v : Value} {L : List Int} (h : RdL w v L) (hb : Below w.heap.size w w1) : RdL w1 v L := by
  obtain ⟨a, cap, hv, hm, hc⟩ := h
  refine ⟨a, cap, hv, hm, fun i hi => ?_⟩
  obtain ⟨g, o, ha, h1, h2⟩ := hc i hi
  exact ⟨g, o, ha, (hb.cell (p := ⟨g, o + i, none⟩) h2).trans h1, Nat.lt_of_lt_of_le h2 hb.size⟩
theorem RdL.take {w : World} {a : Option Addr} {cap : Nat} {L : List Int} (h : RdL w (.slice a L.length cap) L) {k : Nat} (hk : k ≤ L.length) : RdL w (.slice a k cap) (L.take k) := by
  obtain ⟨a', cap', hv, hm, hc⟩ := h
  injection hv with h1 _ h3
  subst h1 h3
  have hl : (L.take k).length = k := by simp; omega
  refine ⟨a, cap, by rw [hl], by omega, fun i hi => ?_⟩
  rw [hl] at hi
  obtain ⟨g, o, ha, q1, q2⟩ := hc i (by omega)
  exact ⟨g, o, ha, by rw [q1, List.getElem?_take, if_pos hi], q2⟩
theorem RdL.below0 {n : Nat} {w w1 : World} {v : Value} {L : List Int} (h : RdL w v L) (hb : Below n w w1) (hn : n = w.heap.size := by rfl) : RdL w1 v L := h.below (hn ▸ hb)
theorem OwnsI.rdL {w : World} {base : Nat} {v : Value} {L : List Int} (h : OwnsI w base v L) : RdL w v L := by
  obtain ⟨a, cap, hv, hc⟩ := h.form
  refine ⟨a, cap, hv, ?_, fun i hi => ?_⟩
  · rcases h.2 with ⟨h0, hn⟩ | ⟨g, cap', cur, hv', _, _, hnc, _⟩
    · rw [hv] at h0
      injection h0 with _ h1 h2
      omega
    · rw [hv] at hv'
      injection hv' with _ _ h3
      omega
  · obtain ⟨g, ha, h1, h2, _⟩ := hc i hi
    exact ⟨g, 0, ha, by rw [Nat.zero_add]; exact h1, h2⟩
/-- a list that reads as L, its block new since base and its own where there is one -/
def RdO (w : World) (base : Nat) (v : Value) (L : List Int) : Prop := RdL w v L ∧ (L ≠ [] → OwnsI w base v L)
theorem RdO.le {w : World} {base base' : Nat} {v : Value} {L : List Int} (h : RdO w base v L) (hb : base' ≤ base) : RdO w base' v L := ⟨h.1, fun hn => (h.2 hn).le hb⟩
/-- what is stored into an elder block -/
theorem RdO.set2 {w : World} {base S : Nat} {v : Value} {L : List Int} (h : RdO w base v L) (hS : S < base) (x y : Value) : RdO ((w.setCell ⟨S, 0, none⟩ x).setCell ⟨S, 1, none⟩ y) base v L := by
  by_cases hn : L = []
  · subst hn
    obtain ⟨a, cap, h1, h2, _⟩ := h.1
    exact ⟨⟨a, cap, h1, h2, fun i hi => by simp at hi⟩, fun h => absurd rfl h⟩
  · have ho := h.2 hn
    have h3 := OwnsI.over ho (((Over.refl [S] w).setCell (p := ⟨S, 0, none⟩) (.inr (by simp)) x).setCell (p := ⟨S, 1, none⟩) (.inr (by simp)) y) (fun g hg => by have := ho.lt g hg; simp; omega)
    exact ⟨h3.rdL, fun _ => h3⟩
theorem isEmpty_dec {l : List Int} {k : Nat} (h : l.length = k) : l.isEmpty = decide (k = 0) := by
  subst h
  cases l <;> simp
/-- a whole with the value N -/
def Wh (base : Nat) (N : Int) (v : Value) (w : World) : Prop := ∃ lv, v = .agg #[.bool (decide (N < 0)), lv] ∧ RdO w base lv (dg N.natAbs)
theorem Wh.closed (base : Nat) (N : Int) (v : Value) : Closed (Wh base N v) := fun _ _ ⟨lv, h1, h2, h3⟩ hb => ⟨lv, h1, h2.below hb, fun h => (h3 h).below hb⟩
theorem Wh.le {base base' : Nat} {N : Int} {v : Value} {w : World} (h : Wh base N v w) (hb : base' ≤ base) : Wh base' N v w := by
  obtain ⟨lv, h1, h2, h3⟩ := h
  exact ⟨lv, h1, h2, fun hn => (h3 hn).le hb⟩
def TrP (neg : Bool) (L : List Int) (w : World) (e : Ending) (w' : World) : Prop := ∃ lv, e = .returned (.agg #[.bool (neg && !(tr L).isEmpty), lv]) ∧ RdO w' w.heap.size lv (tr L) ∧ Below w.heap.size w w'
theorem c_cloneL (v : Value) (L : List Int) (hL : L.length ≤ 100000000) (w : World) (hr : RdL w v L) :
    Calls Tryz.prog 210 #[v] w fun e w' => ∃ v', e = .returned v' ∧ RdO w' w.heap.size v' L ∧ Below w.heap.size w w' := by
  by_cases hx : L = []
  · subst hx
    obtain ⟨a, cap, rfl, _, _⟩ := hr
    have q22 : ∀ (w : World) (a : Option Addr) (n c n' c' : Nat), (binOp .eql 76 (.slice a n c) (.slice none n' c')).run Tryz.prog w = .ok (.bool a.isNone) w := fun w a n c n' c' => Lib.run_eql_slice_nil w _ _ a n c n' c' Tryz.underlying76
    cases a with
    | none =>
      go_enter Tryz.func210, Tryz.ntmps210
      go_wp2
      go_ret
      exact ⟨_, rfl, ⟨⟨none, 0, rfl, Nat.le_refl _, fun i hi => by simp at hi⟩, fun h => absurd rfl h⟩, Below.refl _ _⟩
    | some a =>
      go_enter Tryz.func210, Tryz.ntmps210
      go_wp2
      go_ret
      exact ⟨_, rfl, ⟨⟨_, 0, rfl, Nat.le_refl _, fun i hi => by simp at hi⟩, fun h => absurd rfl h⟩, (Below.refl _ _).alloc (Nat.le_refl _) _⟩
  · exact (c_cloneI v L hx hL w hr.rd).mono fun e w' ⟨v', h1, h2, h3⟩ => ⟨v', h1, ⟨h2.rdL, fun _ => h2⟩, h3⟩
set_option maxHeartbeats 1000000 in
theorem c_trimmed (neg : Bool) (v : Value) (L : List Int) (hL : L.length ≤ 100000000) (w : World) (hr : RdL w v L) :
    Calls Tryz.prog 195 #[.bool neg, v] w (TrP neg L w) := by
  have kS := Blk.new w #[.bool false, .slice none 0 0] 164
  have hr0 := hr.below (w1 := w.alloc (.cells #[.bool false, .slice none 0 0] 164)) ((Below.refl _ _).alloc (Nat.le_refl _) _)
  have hb0 : Below w.heap.size w (w.alloc (.cells #[.bool false, .slice none 0 0] 164)) := (Below.refl _ _).alloc (Nat.le_refl _) _
  obtain ⟨a, cap, rfl, hcap, hf⟩ := hr
  have HR := Lib.hid hr0
  go_enter Tryz.func195, Tryz.ntmps195
  go_upto_region 1 with (fail)
  generalize w.alloc _ = W at *
  go_loopw [1] (fun l wr => ∃ k : Nat, k ≤ L.length ∧ l = .slice a k cap ∧ Hid (tr (L.take k) = tr L) ∧ wr = W) (fun l _ => match l with | .slice _ n _ => n | _ => 0)
  case atStart => exact ⟨L.length, Nat.le_refl _, rfl, Lib.hid (by rw [List.take_length]), rfl⟩
  case round =>
    obtain ⟨k, hk, rfl, hT, rfl⟩ := hrel
    have hlk : (L.take k).length = k := by simp; omega
    have hrk := HR.out.take hk
    cases k with
    | zero =>
      have hE : tr L = L.take 0 := by rw [← hT.out]; rfl
      cases neg
      · go_wp2_with fail
        refine (c_cloneL _ (L.take 0) (by rw [hlk]; omega) _ hrk).mono ?_
        rintro e w1 ⟨lv, rfl, ho, hb1⟩
        obtain ⟨sl, scap, rfl, _⟩ := id ho.1
        have kS1 := kS.next hb1
        have c0 : w1.cell? ⟨w.heap.size, 0, none⟩ = some (.bool false) := kS1.cell 0
        have c1 : w1.cell? ⟨w.heap.size, 1, none⟩ = some (.slice none 0 0) := kS1.cell 1
        have z0 := kS1.frozen 0
        have z1 := kS1.frozen 1
        have k9 := (kS1.set 0 (.bool false)).set 1 (.slice sl (L.take 0).length scap)
        have hbb := below_step hb1 hb0.size hb0
        have hS : w.heap.size ≤ w.heap.size := Nat.le_refl _
        have hB9 : Below w.heap.size w ((w1.setCell ⟨w.heap.size, 0, none⟩ (.bool false)).setCell ⟨w.heap.size, 1, none⟩ (.slice sl (L.take 0).length scap)) := (hbb.setCell hS _).setCell hS _
        have ho9 := ho.set2 (S := w.heap.size) kS.lt (.bool false) (.slice sl (L.take 0).length scap)
        replace ho9 : RdO _ w.heap.size _ _ := ho9.le (Nat.le_of_lt kS.lt)
        rw [hlk] at k9 hB9 ho9 ⊢
        rw [← hE] at ho9
        have hE2 : (tr L).isEmpty = decide (0 = 0) := by rw [hE, isEmpty_dec hlk]
        clear hE ho
        go_wp2
        generalize (World.setCell (World.setCell _ _ _) _ _) = w9 at hB9 k9 ho9 ⊢
        have q0 : w9.cell? ⟨w.heap.size, 0, none⟩ = some (.bool false) := k9.cell 0
        have q1 : w9.cell? ⟨w.heap.size, 1, none⟩ = some (.slice sl (0) scap) := k9.cell 1
        refine bodyPost_ret (v := .agg #[.bool false, .slice sl (0) scap]) (by simp [results, Tryz.results195, go_sem, q0, q1]) rfl ?_
        exact ⟨_, by rw [hE2]; simp, ho9, hB9⟩
      · go_wp2_with fail
        refine (c_cloneL _ (L.take 0) (by rw [hlk]; omega) _ hrk).mono ?_
        rintro e w1 ⟨lv, rfl, ho, hb1⟩
        obtain ⟨sl, scap, rfl, _⟩ := id ho.1
        have kS1 := kS.next hb1
        have c0 : w1.cell? ⟨w.heap.size, 0, none⟩ = some (.bool false) := kS1.cell 0
        have c1 : w1.cell? ⟨w.heap.size, 1, none⟩ = some (.slice none 0 0) := kS1.cell 1
        have z0 := kS1.frozen 0
        have z1 := kS1.frozen 1
        have k9 := (kS1.set 0 (.bool false)).set 1 (.slice sl (L.take 0).length scap)
        have hbb := below_step hb1 hb0.size hb0
        have hS : w.heap.size ≤ w.heap.size := Nat.le_refl _
        have hB9 : Below w.heap.size w ((w1.setCell ⟨w.heap.size, 0, none⟩ (.bool false)).setCell ⟨w.heap.size, 1, none⟩ (.slice sl (L.take 0).length scap)) := (hbb.setCell hS _).setCell hS _
        have ho9 := ho.set2 (S := w.heap.size) kS.lt (.bool false) (.slice sl (L.take 0).length scap)
        replace ho9 : RdO _ w.heap.size _ _ := ho9.le (Nat.le_of_lt kS.lt)
        rw [hlk] at k9 hB9 ho9 ⊢
        rw [← hE] at ho9
        have hE2 : (tr L).isEmpty = decide (0 = 0) := by rw [hE, isEmpty_dec hlk]
        clear hE ho
        go_wp2
        generalize (World.setCell (World.setCell _ _ _) _ _) = w9 at hB9 k9 ho9 ⊢
        have q0 : w9.cell? ⟨w.heap.size, 0, none⟩ = some (.bool false) := k9.cell 0
        have q1 : w9.cell? ⟨w.heap.size, 1, none⟩ = some (.slice sl (0) scap) := k9.cell 1
        refine bodyPost_ret (v := .agg #[.bool false, .slice sl (0) scap]) (by simp [results, Tryz.results195, go_sem, q0, q1]) rfl ?_
        exact ⟨_, by rw [hE2]; simp, ho9, hB9⟩
    | succ k =>
      have hlt : k < L.length := by omega
      obtain ⟨a', cap', hv, _, hc⟩ := HR.out
      injection hv with e1 _ e3
      subst e1 e3
      obtain ⟨g, o, rfl, p1, hg⟩ := hc k hlt
      have ey : L[k]?.getD 0 = L[k] := by simp [hlt]
      rw [ey] at p1
      have i0 : (0 : Int) ≤ (k : Int) := by omega
      have i1 : (0 : Int) < ((k + 1 : Nat) : Int) := by omega
      have i2 : ((k + 1 : Nat) : Int) - 1 = k := by omega
      have i3 : (k : Int) ≤ (cap : Int) := by omega
      have i4 : (k : Int) < ((k + 1 : Nat) : Int) := by omega
      have i5 : (k : Int) < (k : Int) + 1 := by omega
      have i6 : (0 : Int) < (k : Int) + 1 := by omega
      clear hc hr0
      by_cases hy : L[k] = 0
      · have hT2 : Hid (tr (L.take k) = tr L) := by show _ = _; rw [← hT.out, tr_take hlt hy]
        rw [hy] at p1
        clear hT hy ey hlk hrk
        go_wp2
        go_roundw
        case rel => exact ⟨k, by omega, rfl, hT2, by first | rfl | trivial⟩
        case measure => simp
      · have hE : tr L = L.take (k + 1) := by rw [← hT.out, tr_done hlt hy]
        generalize L[k] = y at *
        cases neg
        · go_wp2_with fail
          refine (c_cloneL _ (L.take (k + 1)) (by rw [hlk]; omega) _ hrk).mono ?_
          rintro e w1 ⟨lv, rfl, ho, hb1⟩
          obtain ⟨sl, scap, rfl, _⟩ := id ho.1
          have kS1 := kS.next hb1
          have c0 : w1.cell? ⟨w.heap.size, 0, none⟩ = some (.bool false) := kS1.cell 0
          have c1 : w1.cell? ⟨w.heap.size, 1, none⟩ = some (.slice none 0 0) := kS1.cell 1
          have z0 := kS1.frozen 0
          have z1 := kS1.frozen 1
          have k9 := (kS1.set 0 (.bool false)).set 1 (.slice sl (L.take (k + 1)).length scap)
          have hbb := below_step hb1 hb0.size hb0
          have hS : w.heap.size ≤ w.heap.size := Nat.le_refl _
          have hB9 : Below w.heap.size w ((w1.setCell ⟨w.heap.size, 0, none⟩ (.bool false)).setCell ⟨w.heap.size, 1, none⟩ (.slice sl (L.take (k + 1)).length scap)) := (hbb.setCell hS _).setCell hS _
          have ho9 := ho.set2 (S := w.heap.size) kS.lt (.bool false) (.slice sl (L.take (k + 1)).length scap)
          replace ho9 : RdO _ w.heap.size _ _ := ho9.le (Nat.le_of_lt kS.lt)
          rw [hlk] at k9 hB9 ho9 ⊢
          rw [← hE] at ho9
          have hE2 : (tr L).isEmpty = decide ((k + 1) = 0) := by rw [hE, isEmpty_dec hlk]
          clear hE ho
          go_wp2
          generalize (World.setCell (World.setCell _ _ _) _ _) = w9 at hB9 k9 ho9 ⊢
          have q0 : w9.cell? ⟨w.heap.size, 0, none⟩ = some (.bool false) := k9.cell 0
          have q1 : w9.cell? ⟨w.heap.size, 1, none⟩ = some (.slice sl ((k + 1)) scap) := k9.cell 1
          refine bodyPost_ret (v := .agg #[.bool false, .slice sl ((k + 1)) scap]) (by simp [results, Tryz.results195, go_sem, q0, q1]) rfl ?_
          exact ⟨_, by rw [hE2]; simp, ho9, hB9⟩
        · go_wp2_with fail
          refine (c_cloneL _ (L.take (k + 1)) (by rw [hlk]; omega) _ hrk).mono ?_
          rintro e w1 ⟨lv, rfl, ho, hb1⟩
          obtain ⟨sl, scap, rfl, _⟩ := id ho.1
          have kS1 := kS.next hb1
          have c0 : w1.cell? ⟨w.heap.size, 0, none⟩ = some (.bool false) := kS1.cell 0
          have c1 : w1.cell? ⟨w.heap.size, 1, none⟩ = some (.slice none 0 0) := kS1.cell 1
          have z0 := kS1.frozen 0
          have z1 := kS1.frozen 1
          have k9 := (kS1.set 0 (.bool true)).set 1 (.slice sl (L.take (k + 1)).length scap)
          have hbb := below_step hb1 hb0.size hb0
          have hS : w.heap.size ≤ w.heap.size := Nat.le_refl _
          have hB9 : Below w.heap.size w ((w1.setCell ⟨w.heap.size, 0, none⟩ (.bool true)).setCell ⟨w.heap.size, 1, none⟩ (.slice sl (L.take (k + 1)).length scap)) := (hbb.setCell hS _).setCell hS _
          have ho9 := ho.set2 (S := w.heap.size) kS.lt (.bool true) (.slice sl (L.take (k + 1)).length scap)
          replace ho9 : RdO _ w.heap.size _ _ := ho9.le (Nat.le_of_lt kS.lt)
          rw [hlk] at k9 hB9 ho9 ⊢
          rw [← hE] at ho9
          have hE2 : (tr L).isEmpty = decide ((k + 1) = 0) := by rw [hE, isEmpty_dec hlk]
          clear hE ho
          go_wp2
          generalize (World.setCell (World.setCell _ _ _) _ _) = w9 at hB9 k9 ho9 ⊢
          have q0 : w9.cell? ⟨w.heap.size, 0, none⟩ = some (.bool true) := k9.cell 0
          have q1 : w9.cell? ⟨w.heap.size, 1, none⟩ = some (.slice sl ((k + 1)) scap) := k9.cell 1
          refine bodyPost_ret (v := .agg #[.bool true, .slice sl ((k + 1)) scap]) (by simp [results, Tryz.results195, go_sem, q0, q1]) rfl ?_
          exact ⟨_, by rw [hE2]; simp, ho9, hB9⟩
end Go.Proofs.YtbcjlhbpgcjddaaGreatDoor

/- BgA -/
namespace Go.Proofs.YtbcjlhbpgcjddaaGreatDoor
open Go.RowKit

theorem vl_take_adi (L : List Int) (i : Nat) : vl (L.take (i + 1)) = vl (L.take i) + 10000 ^ i * (L[i]?.getD 0) := by
  by_cases h : i < L.length
  · rw [vl_take_succ h]; simp [h]
  · rw [List.take_of_length_le (by omega), List.take_of_length_le (by omega)]; simp [h]
theorem Dg.adi {L : List Int} (h : Dg L) (i : Nat) : 0 ≤ L[i]?.getD 0 ∧ L[i]?.getD 0 ≤ 9999 := by
  by_cases hi : i < L.length
  · have e : L[i]?.getD 0 = L[i] := by simp [hi]
    rw [e]; exact h _ (List.getElem_mem hi)
  · simp [hi]
theorem Dg.snoc {L : List Int} (h : Dg L) {x : Int} (hx : 0 ≤ x ∧ x ≤ 9999) : Dg (L ++ [x]) := by
  intro y hy
  rcases List.mem_append.1 hy with hy | hy
  · exact h y hy
  · rw [List.mem_singleton] at hy; subst hy; exact hx
theorem vl_snoc (L : List Int) (x : Int) : vl (L ++ [x]) = vl L + 10000 ^ L.length * x := by
  rw [vl_append]; simp [vl]
/-- the state of a sum of digits before digit i -/
structure Cb (a b : List Int) (s : Int) (i : Nat) (O : List Int) (c : Int) : Prop where
  len : O.length = i
  dg : Dg O
  lo : -1 ≤ c
  hi : c ≤ 1
  eq : vl O + c * 10000 ^ i = vl (a.take i) + s * vl (b.take i)
theorem Cb.zero (a b : List Int) (s : Int) : Cb a b s 0 [] 0 := ⟨rfl, fun x hx => by simp at hx, by omega, by omega, by simp [vl]⟩
theorem Cb.step {a b : List Int} {s c x y n d c' : Int} {i : Nat} {O : List Int} (h : Cb a b s i O c) (hx : a[i]?.getD 0 = x) (hy : b[i]?.getD 0 = y) (hn : n = c + x + s * y) (hd : n = d + c' * 10000) (h0 : 0 ≤ d ∧ d ≤ 9999) (hl : -1 ≤ c' ∧ c' ≤ 1) : Cb a b s (i + 1) (O ++ [d]) c' := by
  refine ⟨by simp [h.len], h.dg.snoc h0, hl.1, hl.2, ?_⟩
  have he := h.eq
  rw [vl_snoc, h.len, vl_take_adi, vl_take_adi, hx, hy]
  have e1 : d = c + x + s * y - c' * 10000 := by omega
  rw [e1, Int.pow_succ]
  generalize (10000 : Int) ^ i = P at *
  have q1 : P * (c + x + s * y - c' * 10000) = c * P + P * x + s * (P * y) - c' * (P * 10000) := by
    rw [Int.mul_sub, Int.mul_add, Int.mul_add, Int.mul_left_comm P s y, Int.mul_left_comm P c' 10000, Int.mul_comm P c]
  rw [q1, Int.mul_add]
  generalize c' * (P * 10000) = u1
  generalize s * (P * y) = u2
  generalize P * x = u3
  generalize c * P = u4 at *
  generalize s * vl (List.take i b) = u5 at *
  omega
theorem vl_take_full (L : List Int) {i : Nat} (h : L.length ≤ i) : vl (L.take i) = vl L := by rw [List.take_of_length_le h]
theorem pw_pos : ∀ k : Nat, (1 : Int) ≤ 10000 ^ k
  | 0 => by rw [Int.pow_zero]; omega
  | k + 1 => by have := pw_pos k; rw [Int.pow_succ]; omega
theorem pw_mono (k : Nat) : ∀ j : Nat, (10000 : Int) ^ k ≤ 10000 ^ (k + j)
  | 0 => Int.le_refl _
  | j + 1 => by have := pw_mono k j; have := pw_pos (k + j); rw [← Nat.add_assoc, Int.pow_succ]; omega
theorem vl_lt {L : List Int} (h : Dg L) {m : Nat} (hm : L.length ≤ m) : vl L < 10000 ^ m := Int.lt_of_lt_of_le h.lt (by
  have := pw_mono L.length (m - L.length)
  rwa [show L.length + (m - L.length) = m by omega] at this)
theorem Cb.done {a b : List Int} {s c : Int} {i : Nat} {O : List Int} (h : Cb a b s i O c) (ha : Dg a) (hb : Dg b) (hs : s = 1 ∨ s = -1) (hla : a.length + 1 ≤ i) (hlb : b.length + 1 ≤ i) (hV : 0 ≤ vl a + s * vl b) : c = 0 ∧ vl O = vl a + s * vl b := by
  have he := h.eq
  rw [vl_take_full a (by omega), vl_take_full b (by omega)] at he
  have h1 : vl a < 10000 ^ (i - 1) := vl_lt ha (by omega)
  have h2 : vl b < 10000 ^ (i - 1) := vl_lt hb (by omega)
  have h3 := ha.nn
  have h4 := hb.nn
  have h5 := h.dg.nn
  have h6 := h.dg.lt
  rw [h.len] at h6
  have e : (10000 : Int) ^ i = 10000 ^ (i - 1) * 10000 := by
    obtain ⟨k, rfl⟩ : ∃ k, i = k + 1 := ⟨i - 1, by omega⟩
    rw [Nat.add_sub_cancel, Int.pow_succ]
  rw [e] at he h6
  generalize (10000 : Int) ^ (i - 1) = P at *
  have hc : c = 0 := by
    have := h.lo
    have := h.hi
    have : c = -1 ∨ c = 0 ∨ c = 1 := by omega
    rcases hs with rfl | rfl <;> rcases this with rfl | rfl | rfl <;> first | rfl | (exfalso; omega)
  subst hc
  exact ⟨rfl, by omega⟩
theorem OwnsI.setG {w : World} {base g n cap : Nat} {M : List Int} (h : OwnsI w base (.slice (some ⟨g, 0, none⟩) n cap) M) (hn : n = M.length) (k : Nat) (x : Int) : OwnsI (w.setCell ⟨g, k, none⟩ (.int .i64 x)) base (.slice (some ⟨g, 0, none⟩) n cap) (M.set k x) := by
  subst hn
  unfold OwnsI at h ⊢
  rw [List.length_set, List.map_set]
  exact own_set h rfl _ _
theorem made_ints' (n : Nat) : (madeCells (Value.int .i64 0).cells (n * 1)).toList = (List.replicate n (0 : Int)).map (Value.int .i64) := by
  rw [Nat.mul_one]
  show (madeCells #[Value.int .i64 0] n).toList = _
  rw [toList_madeCells_one, List.map_replicate]
/-- a new list of zeros -/
theorem mk_ints (w : World) (N : Nat) (hN : N ≤ 1000000) : ∃ wm, (Instr.makeSlice 76 (.int .i64 (N : Int)) (.int .i64 (N : Int))).run Tryz.prog w = .ok (.slice (some ⟨w.heap.size, 0, none⟩) N N) wm ∧ OwnsI wm w.heap.size (.slice (some ⟨w.heap.size, 0, none⟩) N N) (List.replicate N 0) ∧ Below w.heap.size w wm := by
  obtain ⟨i0, hi, hz0, hz1, hz2⟩ := info_parts Tryz.infoI
  obtain ⟨wm, hmk, hown, hg⟩ := run_make_full (P := Tryz.prog) w w.heap.size 76 3 i0 (.int .i64 0) 1 Tryz.underlying76 hi hz0 hz1 .i64 .i64 N (by rw [hz2]; omega) (by unfold maxLen; omega) (Nat.le_refl _)
  rw [made_ints'] at hown
  refine ⟨wm, hmk, ?_, ⟨hg.os, hg.tape, hg.output, hg.size, fun k hk => hg.block k hk (by simp)⟩⟩
  unfold OwnsI
  rw [List.length_replicate]
  exact hown
def fz (O : List Int) (m : Nat) : List Int := O ++ List.replicate (m - O.length) 0
theorem fz_len {O : List Int} {m : Nat} (h : O.length ≤ m) : (fz O m).length = m := by simp [fz]; omega
theorem fz_set {O : List Int} {m i : Nat} (hi : O.length = i) (h : i < m) (x : Int) : (fz O m).set i x = fz (O ++ [x]) m := by
  unfold fz
  obtain ⟨k, hk⟩ : ∃ k, m - i = k + 1 := ⟨m - i - 1, by omega⟩
  rw [hi, hk, List.replicate_succ, List.set_append, if_neg (by omega), hi, Nat.sub_self, List.set_cons_zero, List.append_assoc, List.length_append, hi, List.length_singleton, show m - (i + 1) = k by omega]
  rfl
theorem fz_full {O : List Int} {m : Nat} (h : O.length = m) : fz O m = O := by simp [fz, h]
/-- a sum of digits is returned, in a block of its own -/
def SmP (V : Int) (n : Nat) (w : World) (e : Ending) (w' : World) : Prop := ∃ v O, e = .returned v ∧ OwnsI w' w.heap.size v O ∧ Dg O ∧ vl O = V ∧ O.length ≤ n ∧ Below w.heap.size w w'
set_option maxHeartbeats 4000000 in
set_option maxRecDepth 20000 in
theorem c_addLimbs (s : Int) (hs : s = 1 ∨ s = -1) (a b : Value) (la lb : List Int) (hla : la.length ≤ 100000) (hlb : lb.length ≤ 100000) (hda : Dg la) (hdb : Dg lb) (hV : 0 ≤ vl la + s * vl lb) (w : World) (ha : RdL w a la) (hb' : RdL w b lb) :
    Calls Tryz.prog 196 #[a, b, .int .i64 s] w (SmP (vl la + s * vl lb) (max la.length lb.length + 1) w) := by
  obtain ⟨aa, ca, rfl, _, hca⟩ := ha
  obtain ⟨ab, cb, rfl, _, hcb⟩ := hb'
  obtain ⟨m, hm⟩ : ∃ m, m = max la.length lb.length := ⟨_, rfl⟩
  obtain ⟨wm, hmk, ho0, hb0⟩ := mk_ints w (m + 1) (by omega)
  have HA := Lib.hid hca
  have HA2 := Lib.hid hcb
  simp only [Int.natCast_add, Int.cast_ofNat_Int] at hmk
  clear hca hcb
  have ez : List.replicate (m + 1) (0 : Int) = fz [] (m + 1) := by simp [fz]
  rw [ez] at ho0
  rw [← hm]
  generalize hbb : w.heap.size = B at hmk ho0 hb0
  have HB := Lib.hid hbb
  clear hbb
  have HV := Lib.hid hV
  clear hV
  rcases Nat.lt_or_ge la.length lb.length with hx | hx
  · have hx1 : (la.length : Int) < lb.length := by omega
    have hx2 : ¬ (lb.length : Int) ≤ la.length := by omega
    obtain rfl : m = lb.length := by omega
    clear hm
    rcases hs with rfl | rfl
    · -- 1: the sign, lb.length: the length, : the sign's text
      go_enter Tryz.func196, Tryz.ntmps196
      go_wp2
      go_loopw [8, 20] (fun cv iv wr => ∃ (i : Nat) (O : List Int) (c : Int), i ≤ lb.length + 1 ∧ cv = .int .i64 c ∧ iv = .int .i64 i ∧ Hid (Cb la lb (1) i O c) ∧ OwnsI wr B (.slice (some ⟨B, 0, none⟩) (lb.length + 1) (lb.length + 1)) (fz O (lb.length + 1)) ∧ Below B w wr) (fun _ iv _ => lb.length + 1 - (intOf iv).toNat)
      case atStart => exact ⟨0, [], 0, by omega, rfl, rfl, Lib.hid (Cb.zero _ _ _), ho0, hb0⟩
      case round =>
        clear ho0 hb0
        obtain ⟨i, O, c, hi, rfl, rfl, hC, ho, hb⟩ := hrel
        have hlo := Lib.hid hC.out.len
        by_cases hlt : i < lb.length + 1
        · have hxa := hda.adi i
          have hyb := hdb.adi i
          have hclo := hC.out.lo
          have hchi := hC.out.hi
          have s1 := ho.cell (i := i) (by rw [fz_len (by have := hlo.out; omega)]; exact hlt)
          have f1 := ho.frozen i
          by_cases hia : i < la.length
          · obtain ⟨ga, oa, rfl, q1, hga⟩ := HA.out i hia
            have d1 := (hb.cell (p := ⟨ga, oa + i, none⟩) (HB.out ▸ hga)).trans q1
            generalize ex : la[i]?.getD 0 = x at d1 hxa
            clear q1
            -- c + x + y: the number with b, c + x: the one without
            by_cases hib : i < lb.length
            · obtain ⟨gb, ob, rfl, q2, hgb⟩ := HA2.out i hib
              have d2 := (hb.cell (p := ⟨gb, ob + i, none⟩) (HB.out ▸ hgb)).trans q2
              generalize ey : lb[i]?.getD 0 = y at d2 hyb
              clear q2
              rcases (by omega : c + x + y < 0 ∨ 10000 ≤ c + x + y ∨ (0 ≤ c + x + y ∧ c + x + y ≤ 9999)) with hn | hn | hn
              · -- c + x + y + 10000: the digit, -1: the carry
                first
                  | (exfalso; omega)
                  | have hC2 := Lib.hid (hC.out.step (d := c + x + y + 10000) (c' := -1) ex ey rfl (by omega) (by omega) (by omega))
                    clear ex ey HA HA2
                    clear hi
                    go_wp2
                    go_roundw
                    case rel => exact ⟨i + 1, O ++ [c + x + y + 10000], -1, by omega, by go_num, by go_num, hC2, by rw [← fz_set hlo.out (by omega)]; exact ho.setG (fz_len (by have := hlo.out; omega)).symm i _, hb.setCell (Nat.le_refl _) _⟩
                    case measure => simp [intOf]; omega
              · -- c + x + y - 10000: the digit, 1: the carry
                first
                  | (exfalso; omega)
                  | have hC2 := Lib.hid (hC.out.step (d := c + x + y - 10000) (c' := 1) ex ey rfl (by omega) (by omega) (by omega))
                    clear ex ey HA HA2
                    clear hi
                    go_wp2
                    go_roundw
                    case rel => exact ⟨i + 1, O ++ [c + x + y - 10000], 1, by omega, by go_num, by go_num, hC2, by rw [← fz_set hlo.out (by omega)]; exact ho.setG (fz_len (by have := hlo.out; omega)).symm i _, hb.setCell (Nat.le_refl _) _⟩
                    case measure => simp [intOf]; omega
              · -- c + x + y: the digit, 0: the carry
                first
                  | (exfalso; omega)
                  | have hC2 := Lib.hid (hC.out.step (d := c + x + y) (c' := 0) ex ey rfl (by omega) (by omega) (by omega))
                    clear ex ey HA HA2
                    clear hi
                    go_wp2
                    go_roundw
                    case rel => exact ⟨i + 1, O ++ [c + x + y], 0, by omega, by go_num, by go_num, hC2, by rw [← fz_set hlo.out (by omega)]; exact ho.setG (fz_len (by have := hlo.out; omega)).symm i _, hb.setCell (Nat.le_refl _) _⟩
                    case measure => simp [intOf]; omega
            · have ey : lb[i]?.getD 0 = 0 := by simp [hib]
              clear hyb
              rcases (by omega : c + x < 0 ∨ 10000 ≤ c + x ∨ (0 ≤ c + x ∧ c + x ≤ 9999)) with hn | hn | hn
              · -- c + x + 10000: the digit, -1: the carry
                first
                  | (exfalso; omega)
                  | have hC2 := Lib.hid (hC.out.step (d := c + x + 10000) (c' := -1) ex ey rfl (by omega) (by omega) (by omega))
                    clear ex ey HA HA2
                    clear hi
                    go_wp2
                    go_roundw
                    case rel => exact ⟨i + 1, O ++ [c + x + 10000], -1, by omega, by go_num, by go_num, hC2, by rw [← fz_set hlo.out (by omega)]; exact ho.setG (fz_len (by have := hlo.out; omega)).symm i _, hb.setCell (Nat.le_refl _) _⟩
                    case measure => simp [intOf]; omega
              · -- c + x - 10000: the digit, 1: the carry
                first
                  | (exfalso; omega)
                  | have hC2 := Lib.hid (hC.out.step (d := c + x - 10000) (c' := 1) ex ey rfl (by omega) (by omega) (by omega))
                    clear ex ey HA HA2
                    clear hi
                    go_wp2
                    go_roundw
                    case rel => exact ⟨i + 1, O ++ [c + x - 10000], 1, by omega, by go_num, by go_num, hC2, by rw [← fz_set hlo.out (by omega)]; exact ho.setG (fz_len (by have := hlo.out; omega)).symm i _, hb.setCell (Nat.le_refl _) _⟩
                    case measure => simp [intOf]; omega
              · -- c + x: the digit, 0: the carry
                first
                  | (exfalso; omega)
                  | have hC2 := Lib.hid (hC.out.step (d := c + x) (c' := 0) ex ey rfl (by omega) (by omega) (by omega))
                    clear ex ey HA HA2
                    clear hi
                    go_wp2
                    go_roundw
                    case rel => exact ⟨i + 1, O ++ [c + x], 0, by omega, by go_num, by go_num, hC2, by rw [← fz_set hlo.out (by omega)]; exact ho.setG (fz_len (by have := hlo.out; omega)).symm i _, hb.setCell (Nat.le_refl _) _⟩
                    case measure => simp [intOf]; omega
          · have ex : la[i]?.getD 0 = 0 := by simp [hia]
            clear hxa
            -- c + y: the number with b, c: the one without
            by_cases hib : i < lb.length
            · obtain ⟨gb, ob, rfl, q2, hgb⟩ := HA2.out i hib
              have d2 := (hb.cell (p := ⟨gb, ob + i, none⟩) (HB.out ▸ hgb)).trans q2
              generalize ey : lb[i]?.getD 0 = y at d2 hyb
              clear q2
              rcases (by omega : c + y < 0 ∨ 10000 ≤ c + y ∨ (0 ≤ c + y ∧ c + y ≤ 9999)) with hn | hn | hn
              · -- c + y + 10000: the digit, -1: the carry
                first
                  | (exfalso; omega)
                  | have hC2 := Lib.hid (hC.out.step (d := c + y + 10000) (c' := -1) ex ey rfl (by omega) (by omega) (by omega))
                    clear ex ey HA HA2
                    clear hi
                    go_wp2
                    go_roundw
                    case rel => exact ⟨i + 1, O ++ [c + y + 10000], -1, by omega, by go_num, by go_num, hC2, by rw [← fz_set hlo.out (by omega)]; exact ho.setG (fz_len (by have := hlo.out; omega)).symm i _, hb.setCell (Nat.le_refl _) _⟩
                    case measure => simp [intOf]; omega
              · -- c + y - 10000: the digit, 1: the carry
                first
                  | (exfalso; omega)
                  | have hC2 := Lib.hid (hC.out.step (d := c + y - 10000) (c' := 1) ex ey rfl (by omega) (by omega) (by omega))
                    clear ex ey HA HA2
                    clear hi
                    go_wp2
                    go_roundw
                    case rel => exact ⟨i + 1, O ++ [c + y - 10000], 1, by omega, by go_num, by go_num, hC2, by rw [← fz_set hlo.out (by omega)]; exact ho.setG (fz_len (by have := hlo.out; omega)).symm i _, hb.setCell (Nat.le_refl _) _⟩
                    case measure => simp [intOf]; omega
              · -- c + y: the digit, 0: the carry
                first
                  | (exfalso; omega)
                  | have hC2 := Lib.hid (hC.out.step (d := c + y) (c' := 0) ex ey rfl (by omega) (by omega) (by omega))
                    clear ex ey HA HA2
                    clear hi
                    go_wp2
                    go_roundw
                    case rel => exact ⟨i + 1, O ++ [c + y], 0, by omega, by go_num, by go_num, hC2, by rw [← fz_set hlo.out (by omega)]; exact ho.setG (fz_len (by have := hlo.out; omega)).symm i _, hb.setCell (Nat.le_refl _) _⟩
                    case measure => simp [intOf]; omega
            · have ey : lb[i]?.getD 0 = 0 := by simp [hib]
              clear hyb
              rcases (by omega : c < 0 ∨ 10000 ≤ c ∨ (0 ≤ c ∧ c ≤ 9999)) with hn | hn | hn
              · -- c + 10000: the digit, -1: the carry
                first
                  | (exfalso; omega)
                  | have hC2 := Lib.hid (hC.out.step (d := c + 10000) (c' := -1) ex ey rfl (by omega) (by omega) (by omega))
                    clear ex ey HA HA2
                    clear hi
                    go_wp2
                    go_roundw
                    case rel => exact ⟨i + 1, O ++ [c + 10000], -1, by omega, by go_num, by go_num, hC2, by rw [← fz_set hlo.out (by omega)]; exact ho.setG (fz_len (by have := hlo.out; omega)).symm i _, hb.setCell (Nat.le_refl _) _⟩
                    case measure => simp [intOf]; omega
              · -- c - 10000: the digit, 1: the carry
                first
                  | (exfalso; omega)
                  | have hC2 := Lib.hid (hC.out.step (d := c - 10000) (c' := 1) ex ey rfl (by omega) (by omega) (by omega))
                    clear ex ey HA HA2
                    clear hi
                    go_wp2
                    go_roundw
                    case rel => exact ⟨i + 1, O ++ [c - 10000], 1, by omega, by go_num, by go_num, hC2, by rw [← fz_set hlo.out (by omega)]; exact ho.setG (fz_len (by have := hlo.out; omega)).symm i _, hb.setCell (Nat.le_refl _) _⟩
                    case measure => simp [intOf]; omega
              · -- c: the digit, 0: the carry
                first
                  | (exfalso; omega)
                  | have hC2 := Lib.hid (hC.out.step (d := c) (c' := 0) ex ey rfl (by omega) (by omega) (by omega))
                    clear ex ey HA HA2
                    clear hi
                    go_wp2
                    go_roundw
                    case rel => exact ⟨i + 1, O ++ [c], 0, by omega, by go_num, by go_num, hC2, by rw [← fz_set hlo.out (by omega)]; exact ho.setG (fz_len (by have := hlo.out; omega)).symm i _, hb.setCell (Nat.le_refl _) _⟩
                    case measure => simp [intOf]; omega
        · obtain rfl : i = lb.length + 1 := by omega
          obtain ⟨_, hvo⟩ := hC.out.done hda hdb (.inl rfl) (by omega) (by omega) HV.out
          have hdo := hC.out.dg
          rw [fz_full hlo.out] at ho
          have HE := Lib.hid (And.intro hdo hvo)
          clear hvo hdo
          go_wp2
          go_ret
          exact ⟨_, O, rfl, ho.le (by rw [HB.out]; exact Nat.le_refl _), HE.out.1, HE.out.2, by have := hlo.out; omega, HB.out ▸ hb⟩
    · -- -1: the sign, lb.length: the length, -: the sign's text
      go_enter Tryz.func196, Tryz.ntmps196
      go_wp2
      go_loopw [8, 20] (fun cv iv wr => ∃ (i : Nat) (O : List Int) (c : Int), i ≤ lb.length + 1 ∧ cv = .int .i64 c ∧ iv = .int .i64 i ∧ Hid (Cb la lb (-1) i O c) ∧ OwnsI wr B (.slice (some ⟨B, 0, none⟩) (lb.length + 1) (lb.length + 1)) (fz O (lb.length + 1)) ∧ Below B w wr) (fun _ iv _ => lb.length + 1 - (intOf iv).toNat)
      case atStart => exact ⟨0, [], 0, by omega, rfl, rfl, Lib.hid (Cb.zero _ _ _), ho0, hb0⟩
      case round =>
        clear ho0 hb0
        obtain ⟨i, O, c, hi, rfl, rfl, hC, ho, hb⟩ := hrel
        have hlo := Lib.hid hC.out.len
        by_cases hlt : i < lb.length + 1
        · have hxa := hda.adi i
          have hyb := hdb.adi i
          have hclo := hC.out.lo
          have hchi := hC.out.hi
          have s1 := ho.cell (i := i) (by rw [fz_len (by have := hlo.out; omega)]; exact hlt)
          have f1 := ho.frozen i
          by_cases hia : i < la.length
          · obtain ⟨ga, oa, rfl, q1, hga⟩ := HA.out i hia
            have d1 := (hb.cell (p := ⟨ga, oa + i, none⟩) (HB.out ▸ hga)).trans q1
            generalize ex : la[i]?.getD 0 = x at d1 hxa
            clear q1
            -- c + x + -y: the number with b, c + x: the one without
            by_cases hib : i < lb.length
            · obtain ⟨gb, ob, rfl, q2, hgb⟩ := HA2.out i hib
              have d2 := (hb.cell (p := ⟨gb, ob + i, none⟩) (HB.out ▸ hgb)).trans q2
              generalize ey : lb[i]?.getD 0 = y at d2 hyb
              clear q2
              rcases (by omega : c + x + -y < 0 ∨ 10000 ≤ c + x + -y ∨ (0 ≤ c + x + -y ∧ c + x + -y ≤ 9999)) with hn | hn | hn
              · -- c + x + -y + 10000: the digit, -1: the carry
                first
                  | (exfalso; omega)
                  | have hC2 := Lib.hid (hC.out.step (d := c + x + -y + 10000) (c' := -1) ex ey rfl (by omega) (by omega) (by omega))
                    clear ex ey HA HA2
                    clear hi
                    go_wp2
                    go_roundw
                    case rel => exact ⟨i + 1, O ++ [c + x + -y + 10000], -1, by omega, by go_num, by go_num, hC2, by rw [← fz_set hlo.out (by omega)]; exact ho.setG (fz_len (by have := hlo.out; omega)).symm i _, hb.setCell (Nat.le_refl _) _⟩
                    case measure => simp [intOf]; omega
              · -- c + x + -y - 10000: the digit, 1: the carry
                first
                  | (exfalso; omega)
                  | have hC2 := Lib.hid (hC.out.step (d := c + x + -y - 10000) (c' := 1) ex ey rfl (by omega) (by omega) (by omega))
                    clear ex ey HA HA2
                    clear hi
                    go_wp2
                    go_roundw
                    case rel => exact ⟨i + 1, O ++ [c + x + -y - 10000], 1, by omega, by go_num, by go_num, hC2, by rw [← fz_set hlo.out (by omega)]; exact ho.setG (fz_len (by have := hlo.out; omega)).symm i _, hb.setCell (Nat.le_refl _) _⟩
                    case measure => simp [intOf]; omega
              · -- c + x + -y: the digit, 0: the carry
                first
                  | (exfalso; omega)
                  | have hC2 := Lib.hid (hC.out.step (d := c + x + -y) (c' := 0) ex ey rfl (by omega) (by omega) (by omega))
                    clear ex ey HA HA2
                    clear hi
                    go_wp2
                    go_roundw
                    case rel => exact ⟨i + 1, O ++ [c + x + -y], 0, by omega, by go_num, by go_num, hC2, by rw [← fz_set hlo.out (by omega)]; exact ho.setG (fz_len (by have := hlo.out; omega)).symm i _, hb.setCell (Nat.le_refl _) _⟩
                    case measure => simp [intOf]; omega
            · have ey : lb[i]?.getD 0 = 0 := by simp [hib]
              clear hyb
              rcases (by omega : c + x < 0 ∨ 10000 ≤ c + x ∨ (0 ≤ c + x ∧ c + x ≤ 9999)) with hn | hn | hn
              · -- c + x + 10000: the digit, -1: the carry
                first
                  | (exfalso; omega)
                  | have hC2 := Lib.hid (hC.out.step (d := c + x + 10000) (c' := -1) ex ey rfl (by omega) (by omega) (by omega))
                    clear ex ey HA HA2
                    clear hi
                    go_wp2
                    go_roundw
                    case rel => exact ⟨i + 1, O ++ [c + x + 10000], -1, by omega, by go_num, by go_num, hC2, by rw [← fz_set hlo.out (by omega)]; exact ho.setG (fz_len (by have := hlo.out; omega)).symm i _, hb.setCell (Nat.le_refl _) _⟩
                    case measure => simp [intOf]; omega
              · -- c + x - 10000: the digit, 1: the carry
                first
                  | (exfalso; omega)
                  | have hC2 := Lib.hid (hC.out.step (d := c + x - 10000) (c' := 1) ex ey rfl (by omega) (by omega) (by omega))
                    clear ex ey HA HA2
                    clear hi
                    go_wp2
                    go_roundw
                    case rel => exact ⟨i + 1, O ++ [c + x - 10000], 1, by omega, by go_num, by go_num, hC2, by rw [← fz_set hlo.out (by omega)]; exact ho.setG (fz_len (by have := hlo.out; omega)).symm i _, hb.setCell (Nat.le_refl _) _⟩
                    case measure => simp [intOf]; omega
              · -- c + x: the digit, 0: the carry
                first
                  | (exfalso; omega)
                  | have hC2 := Lib.hid (hC.out.step (d := c + x) (c' := 0) ex ey rfl (by omega) (by omega) (by omega))
                    clear ex ey HA HA2
                    clear hi
                    go_wp2
                    go_roundw
                    case rel => exact ⟨i + 1, O ++ [c + x], 0, by omega, by go_num, by go_num, hC2, by rw [← fz_set hlo.out (by omega)]; exact ho.setG (fz_len (by have := hlo.out; omega)).symm i _, hb.setCell (Nat.le_refl _) _⟩
                    case measure => simp [intOf]; omega
          · have ex : la[i]?.getD 0 = 0 := by simp [hia]
            clear hxa
            -- c + -y: the number with b, c: the one without
            by_cases hib : i < lb.length
            · obtain ⟨gb, ob, rfl, q2, hgb⟩ := HA2.out i hib
              have d2 := (hb.cell (p := ⟨gb, ob + i, none⟩) (HB.out ▸ hgb)).trans q2
              generalize ey : lb[i]?.getD 0 = y at d2 hyb
              clear q2
              rcases (by omega : c + -y < 0 ∨ 10000 ≤ c + -y ∨ (0 ≤ c + -y ∧ c + -y ≤ 9999)) with hn | hn | hn
              · -- c + -y + 10000: the digit, -1: the carry
                first
                  | (exfalso; omega)
                  | have hC2 := Lib.hid (hC.out.step (d := c + -y + 10000) (c' := -1) ex ey rfl (by omega) (by omega) (by omega))
                    clear ex ey HA HA2
                    clear hi
                    go_wp2
                    go_roundw
                    case rel => exact ⟨i + 1, O ++ [c + -y + 10000], -1, by omega, by go_num, by go_num, hC2, by rw [← fz_set hlo.out (by omega)]; exact ho.setG (fz_len (by have := hlo.out; omega)).symm i _, hb.setCell (Nat.le_refl _) _⟩
                    case measure => simp [intOf]; omega
              · -- c + -y - 10000: the digit, 1: the carry
                first
                  | (exfalso; omega)
                  | have hC2 := Lib.hid (hC.out.step (d := c + -y - 10000) (c' := 1) ex ey rfl (by omega) (by omega) (by omega))
                    clear ex ey HA HA2
                    clear hi
                    go_wp2
                    go_roundw
                    case rel => exact ⟨i + 1, O ++ [c + -y - 10000], 1, by omega, by go_num, by go_num, hC2, by rw [← fz_set hlo.out (by omega)]; exact ho.setG (fz_len (by have := hlo.out; omega)).symm i _, hb.setCell (Nat.le_refl _) _⟩
                    case measure => simp [intOf]; omega
              · -- c + -y: the digit, 0: the carry
                first
                  | (exfalso; omega)
                  | have hC2 := Lib.hid (hC.out.step (d := c + -y) (c' := 0) ex ey rfl (by omega) (by omega) (by omega))
                    clear ex ey HA HA2
                    clear hi
                    go_wp2
                    go_roundw
                    case rel => exact ⟨i + 1, O ++ [c + -y], 0, by omega, by go_num, by go_num, hC2, by rw [← fz_set hlo.out (by omega)]; exact ho.setG (fz_len (by have := hlo.out; omega)).symm i _, hb.setCell (Nat.le_refl _) _⟩
                    case measure => simp [intOf]; omega
            · have ey : lb[i]?.getD 0 = 0 := by simp [hib]
              clear hyb
              rcases (by omega : c < 0 ∨ 10000 ≤ c ∨ (0 ≤ c ∧ c ≤ 9999)) with hn | hn | hn
              · -- c + 10000: the digit, -1: the carry
                first
                  | (exfalso; omega)
                  | have hC2 := Lib.hid (hC.out.step (d := c + 10000) (c' := -1) ex ey rfl (by omega) (by omega) (by omega))
                    clear ex ey HA HA2
                    clear hi
                    go_wp2
                    go_roundw
                    case rel => exact ⟨i + 1, O ++ [c + 10000], -1, by omega, by go_num, by go_num, hC2, by rw [← fz_set hlo.out (by omega)]; exact ho.setG (fz_len (by have := hlo.out; omega)).symm i _, hb.setCell (Nat.le_refl _) _⟩
                    case measure => simp [intOf]; omega
              · -- c - 10000: the digit, 1: the carry
                first
                  | (exfalso; omega)
                  | have hC2 := Lib.hid (hC.out.step (d := c - 10000) (c' := 1) ex ey rfl (by omega) (by omega) (by omega))
                    clear ex ey HA HA2
                    clear hi
                    go_wp2
                    go_roundw
                    case rel => exact ⟨i + 1, O ++ [c - 10000], 1, by omega, by go_num, by go_num, hC2, by rw [← fz_set hlo.out (by omega)]; exact ho.setG (fz_len (by have := hlo.out; omega)).symm i _, hb.setCell (Nat.le_refl _) _⟩
                    case measure => simp [intOf]; omega
              · -- c: the digit, 0: the carry
                first
                  | (exfalso; omega)
                  | have hC2 := Lib.hid (hC.out.step (d := c) (c' := 0) ex ey rfl (by omega) (by omega) (by omega))
                    clear ex ey HA HA2
                    clear hi
                    go_wp2
                    go_roundw
                    case rel => exact ⟨i + 1, O ++ [c], 0, by omega, by go_num, by go_num, hC2, by rw [← fz_set hlo.out (by omega)]; exact ho.setG (fz_len (by have := hlo.out; omega)).symm i _, hb.setCell (Nat.le_refl _) _⟩
                    case measure => simp [intOf]; omega
        · obtain rfl : i = lb.length + 1 := by omega
          obtain ⟨_, hvo⟩ := hC.out.done hda hdb (.inr rfl) (by omega) (by omega) HV.out
          have hdo := hC.out.dg
          rw [fz_full hlo.out] at ho
          have HE := Lib.hid (And.intro hdo hvo)
          clear hvo hdo
          go_wp2
          go_ret
          exact ⟨_, O, rfl, ho.le (by rw [HB.out]; exact Nat.le_refl _), HE.out.1, HE.out.2, by have := hlo.out; omega, HB.out ▸ hb⟩
  · have hx1 : ¬ (la.length : Int) < lb.length := by omega
    have hx2 : (lb.length : Int) ≤ la.length := by omega
    obtain rfl : m = la.length := by omega
    clear hm
    rcases hs with rfl | rfl
    · -- 1: the sign, la.length: the length, : the sign's text
      go_enter Tryz.func196, Tryz.ntmps196
      go_wp2
      go_loopw [8, 20] (fun cv iv wr => ∃ (i : Nat) (O : List Int) (c : Int), i ≤ la.length + 1 ∧ cv = .int .i64 c ∧ iv = .int .i64 i ∧ Hid (Cb la lb (1) i O c) ∧ OwnsI wr B (.slice (some ⟨B, 0, none⟩) (la.length + 1) (la.length + 1)) (fz O (la.length + 1)) ∧ Below B w wr) (fun _ iv _ => la.length + 1 - (intOf iv).toNat)
      case atStart => exact ⟨0, [], 0, by omega, rfl, rfl, Lib.hid (Cb.zero _ _ _), ho0, hb0⟩
      case round =>
        clear ho0 hb0
        obtain ⟨i, O, c, hi, rfl, rfl, hC, ho, hb⟩ := hrel
        have hlo := Lib.hid hC.out.len
        by_cases hlt : i < la.length + 1
        · have hxa := hda.adi i
          have hyb := hdb.adi i
          have hclo := hC.out.lo
          have hchi := hC.out.hi
          have s1 := ho.cell (i := i) (by rw [fz_len (by have := hlo.out; omega)]; exact hlt)
          have f1 := ho.frozen i
          by_cases hia : i < la.length
          · obtain ⟨ga, oa, rfl, q1, hga⟩ := HA.out i hia
            have d1 := (hb.cell (p := ⟨ga, oa + i, none⟩) (HB.out ▸ hga)).trans q1
            generalize ex : la[i]?.getD 0 = x at d1 hxa
            clear q1
            -- c + x + y: the number with b, c + x: the one without
            by_cases hib : i < lb.length
            · obtain ⟨gb, ob, rfl, q2, hgb⟩ := HA2.out i hib
              have d2 := (hb.cell (p := ⟨gb, ob + i, none⟩) (HB.out ▸ hgb)).trans q2
              generalize ey : lb[i]?.getD 0 = y at d2 hyb
              clear q2
              rcases (by omega : c + x + y < 0 ∨ 10000 ≤ c + x + y ∨ (0 ≤ c + x + y ∧ c + x + y ≤ 9999)) with hn | hn | hn
              · -- c + x + y + 10000: the digit, -1: the carry
                first
                  | (exfalso; omega)
                  | have hC2 := Lib.hid (hC.out.step (d := c + x + y + 10000) (c' := -1) ex ey rfl (by omega) (by omega) (by omega))
                    clear ex ey HA HA2
                    clear hi
                    go_wp2
                    go_roundw
                    case rel => exact ⟨i + 1, O ++ [c + x + y + 10000], -1, by omega, by go_num, by go_num, hC2, by rw [← fz_set hlo.out (by omega)]; exact ho.setG (fz_len (by have := hlo.out; omega)).symm i _, hb.setCell (Nat.le_refl _) _⟩
                    case measure => simp [intOf]; omega
              · -- c + x + y - 10000: the digit, 1: the carry
                first
                  | (exfalso; omega)
                  | have hC2 := Lib.hid (hC.out.step (d := c + x + y - 10000) (c' := 1) ex ey rfl (by omega) (by omega) (by omega))
                    clear ex ey HA HA2
                    clear hi
                    go_wp2
                    go_roundw
                    case rel => exact ⟨i + 1, O ++ [c + x + y - 10000], 1, by omega, by go_num, by go_num, hC2, by rw [← fz_set hlo.out (by omega)]; exact ho.setG (fz_len (by have := hlo.out; omega)).symm i _, hb.setCell (Nat.le_refl _) _⟩
                    case measure => simp [intOf]; omega
              · -- c + x + y: the digit, 0: the carry
                first
                  | (exfalso; omega)
                  | have hC2 := Lib.hid (hC.out.step (d := c + x + y) (c' := 0) ex ey rfl (by omega) (by omega) (by omega))
                    clear ex ey HA HA2
                    clear hi
                    go_wp2
                    go_roundw
                    case rel => exact ⟨i + 1, O ++ [c + x + y], 0, by omega, by go_num, by go_num, hC2, by rw [← fz_set hlo.out (by omega)]; exact ho.setG (fz_len (by have := hlo.out; omega)).symm i _, hb.setCell (Nat.le_refl _) _⟩
                    case measure => simp [intOf]; omega
            · have ey : lb[i]?.getD 0 = 0 := by simp [hib]
              clear hyb
              rcases (by omega : c + x < 0 ∨ 10000 ≤ c + x ∨ (0 ≤ c + x ∧ c + x ≤ 9999)) with hn | hn | hn
              · -- c + x + 10000: the digit, -1: the carry
                first
                  | (exfalso; omega)
                  | have hC2 := Lib.hid (hC.out.step (d := c + x + 10000) (c' := -1) ex ey rfl (by omega) (by omega) (by omega))
                    clear ex ey HA HA2
                    clear hi
                    go_wp2
                    go_roundw
                    case rel => exact ⟨i + 1, O ++ [c + x + 10000], -1, by omega, by go_num, by go_num, hC2, by rw [← fz_set hlo.out (by omega)]; exact ho.setG (fz_len (by have := hlo.out; omega)).symm i _, hb.setCell (Nat.le_refl _) _⟩
                    case measure => simp [intOf]; omega
              · -- c + x - 10000: the digit, 1: the carry
                first
                  | (exfalso; omega)
                  | have hC2 := Lib.hid (hC.out.step (d := c + x - 10000) (c' := 1) ex ey rfl (by omega) (by omega) (by omega))
                    clear ex ey HA HA2
                    clear hi
                    go_wp2
                    go_roundw
                    case rel => exact ⟨i + 1, O ++ [c + x - 10000], 1, by omega, by go_num, by go_num, hC2, by rw [← fz_set hlo.out (by omega)]; exact ho.setG (fz_len (by have := hlo.out; omega)).symm i _, hb.setCell (Nat.le_refl _) _⟩
                    case measure => simp [intOf]; omega
              · -- c + x: the digit, 0: the carry
                first
                  | (exfalso; omega)
                  | have hC2 := Lib.hid (hC.out.step (d := c + x) (c' := 0) ex ey rfl (by omega) (by omega) (by omega))
                    clear ex ey HA HA2
                    clear hi
                    go_wp2
                    go_roundw
                    case rel => exact ⟨i + 1, O ++ [c + x], 0, by omega, by go_num, by go_num, hC2, by rw [← fz_set hlo.out (by omega)]; exact ho.setG (fz_len (by have := hlo.out; omega)).symm i _, hb.setCell (Nat.le_refl _) _⟩
                    case measure => simp [intOf]; omega
          · have ex : la[i]?.getD 0 = 0 := by simp [hia]
            clear hxa
            -- c + y: the number with b, c: the one without
            by_cases hib : i < lb.length
            · obtain ⟨gb, ob, rfl, q2, hgb⟩ := HA2.out i hib
              have d2 := (hb.cell (p := ⟨gb, ob + i, none⟩) (HB.out ▸ hgb)).trans q2
              generalize ey : lb[i]?.getD 0 = y at d2 hyb
              clear q2
              rcases (by omega : c + y < 0 ∨ 10000 ≤ c + y ∨ (0 ≤ c + y ∧ c + y ≤ 9999)) with hn | hn | hn
              · -- c + y + 10000: the digit, -1: the carry
                first
                  | (exfalso; omega)
                  | have hC2 := Lib.hid (hC.out.step (d := c + y + 10000) (c' := -1) ex ey rfl (by omega) (by omega) (by omega))
                    clear ex ey HA HA2
                    clear hi
                    go_wp2
                    go_roundw
                    case rel => exact ⟨i + 1, O ++ [c + y + 10000], -1, by omega, by go_num, by go_num, hC2, by rw [← fz_set hlo.out (by omega)]; exact ho.setG (fz_len (by have := hlo.out; omega)).symm i _, hb.setCell (Nat.le_refl _) _⟩
                    case measure => simp [intOf]; omega
              · -- c + y - 10000: the digit, 1: the carry
                first
                  | (exfalso; omega)
                  | have hC2 := Lib.hid (hC.out.step (d := c + y - 10000) (c' := 1) ex ey rfl (by omega) (by omega) (by omega))
                    clear ex ey HA HA2
                    clear hi
                    go_wp2
                    go_roundw
                    case rel => exact ⟨i + 1, O ++ [c + y - 10000], 1, by omega, by go_num, by go_num, hC2, by rw [← fz_set hlo.out (by omega)]; exact ho.setG (fz_len (by have := hlo.out; omega)).symm i _, hb.setCell (Nat.le_refl _) _⟩
                    case measure => simp [intOf]; omega
              · -- c + y: the digit, 0: the carry
                first
                  | (exfalso; omega)
                  | have hC2 := Lib.hid (hC.out.step (d := c + y) (c' := 0) ex ey rfl (by omega) (by omega) (by omega))
                    clear ex ey HA HA2
                    clear hi
                    go_wp2
                    go_roundw
                    case rel => exact ⟨i + 1, O ++ [c + y], 0, by omega, by go_num, by go_num, hC2, by rw [← fz_set hlo.out (by omega)]; exact ho.setG (fz_len (by have := hlo.out; omega)).symm i _, hb.setCell (Nat.le_refl _) _⟩
                    case measure => simp [intOf]; omega
            · have ey : lb[i]?.getD 0 = 0 := by simp [hib]
              clear hyb
              rcases (by omega : c < 0 ∨ 10000 ≤ c ∨ (0 ≤ c ∧ c ≤ 9999)) with hn | hn | hn
              · -- c + 10000: the digit, -1: the carry
                first
                  | (exfalso; omega)
                  | have hC2 := Lib.hid (hC.out.step (d := c + 10000) (c' := -1) ex ey rfl (by omega) (by omega) (by omega))
                    clear ex ey HA HA2
                    clear hi
                    go_wp2
                    go_roundw
                    case rel => exact ⟨i + 1, O ++ [c + 10000], -1, by omega, by go_num, by go_num, hC2, by rw [← fz_set hlo.out (by omega)]; exact ho.setG (fz_len (by have := hlo.out; omega)).symm i _, hb.setCell (Nat.le_refl _) _⟩
                    case measure => simp [intOf]; omega
              · -- c - 10000: the digit, 1: the carry
                first
                  | (exfalso; omega)
                  | have hC2 := Lib.hid (hC.out.step (d := c - 10000) (c' := 1) ex ey rfl (by omega) (by omega) (by omega))
                    clear ex ey HA HA2
                    clear hi
                    go_wp2
                    go_roundw
                    case rel => exact ⟨i + 1, O ++ [c - 10000], 1, by omega, by go_num, by go_num, hC2, by rw [← fz_set hlo.out (by omega)]; exact ho.setG (fz_len (by have := hlo.out; omega)).symm i _, hb.setCell (Nat.le_refl _) _⟩
                    case measure => simp [intOf]; omega
              · -- c: the digit, 0: the carry
                first
                  | (exfalso; omega)
                  | have hC2 := Lib.hid (hC.out.step (d := c) (c' := 0) ex ey rfl (by omega) (by omega) (by omega))
                    clear ex ey HA HA2
                    clear hi
                    go_wp2
                    go_roundw
                    case rel => exact ⟨i + 1, O ++ [c], 0, by omega, by go_num, by go_num, hC2, by rw [← fz_set hlo.out (by omega)]; exact ho.setG (fz_len (by have := hlo.out; omega)).symm i _, hb.setCell (Nat.le_refl _) _⟩
                    case measure => simp [intOf]; omega
        · obtain rfl : i = la.length + 1 := by omega
          obtain ⟨_, hvo⟩ := hC.out.done hda hdb (.inl rfl) (by omega) (by omega) HV.out
          have hdo := hC.out.dg
          rw [fz_full hlo.out] at ho
          have HE := Lib.hid (And.intro hdo hvo)
          clear hvo hdo
          go_wp2
          go_ret
          exact ⟨_, O, rfl, ho.le (by rw [HB.out]; exact Nat.le_refl _), HE.out.1, HE.out.2, by have := hlo.out; omega, HB.out ▸ hb⟩
    · -- -1: the sign, la.length: the length, -: the sign's text
      go_enter Tryz.func196, Tryz.ntmps196
      go_wp2
      go_loopw [8, 20] (fun cv iv wr => ∃ (i : Nat) (O : List Int) (c : Int), i ≤ la.length + 1 ∧ cv = .int .i64 c ∧ iv = .int .i64 i ∧ Hid (Cb la lb (-1) i O c) ∧ OwnsI wr B (.slice (some ⟨B, 0, none⟩) (la.length + 1) (la.length + 1)) (fz O (la.length + 1)) ∧ Below B w wr) (fun _ iv _ => la.length + 1 - (intOf iv).toNat)
      case atStart => exact ⟨0, [], 0, by omega, rfl, rfl, Lib.hid (Cb.zero _ _ _), ho0, hb0⟩
      case round =>
        clear ho0 hb0
        obtain ⟨i, O, c, hi, rfl, rfl, hC, ho, hb⟩ := hrel
        have hlo := Lib.hid hC.out.len
        by_cases hlt : i < la.length + 1
        · have hxa := hda.adi i
          have hyb := hdb.adi i
          have hclo := hC.out.lo
          have hchi := hC.out.hi
          have s1 := ho.cell (i := i) (by rw [fz_len (by have := hlo.out; omega)]; exact hlt)
          have f1 := ho.frozen i
          by_cases hia : i < la.length
          · obtain ⟨ga, oa, rfl, q1, hga⟩ := HA.out i hia
            have d1 := (hb.cell (p := ⟨ga, oa + i, none⟩) (HB.out ▸ hga)).trans q1
            generalize ex : la[i]?.getD 0 = x at d1 hxa
            clear q1
            -- c + x + -y: the number with b, c + x: the one without
            by_cases hib : i < lb.length
            · obtain ⟨gb, ob, rfl, q2, hgb⟩ := HA2.out i hib
              have d2 := (hb.cell (p := ⟨gb, ob + i, none⟩) (HB.out ▸ hgb)).trans q2
              generalize ey : lb[i]?.getD 0 = y at d2 hyb
              clear q2
              rcases (by omega : c + x + -y < 0 ∨ 10000 ≤ c + x + -y ∨ (0 ≤ c + x + -y ∧ c + x + -y ≤ 9999)) with hn | hn | hn
              · -- c + x + -y + 10000: the digit, -1: the carry
                first
                  | (exfalso; omega)
                  | have hC2 := Lib.hid (hC.out.step (d := c + x + -y + 10000) (c' := -1) ex ey rfl (by omega) (by omega) (by omega))
                    clear ex ey HA HA2
                    clear hi
                    go_wp2
                    go_roundw
                    case rel => exact ⟨i + 1, O ++ [c + x + -y + 10000], -1, by omega, by go_num, by go_num, hC2, by rw [← fz_set hlo.out (by omega)]; exact ho.setG (fz_len (by have := hlo.out; omega)).symm i _, hb.setCell (Nat.le_refl _) _⟩
                    case measure => simp [intOf]; omega
              · -- c + x + -y - 10000: the digit, 1: the carry
                first
                  | (exfalso; omega)
                  | have hC2 := Lib.hid (hC.out.step (d := c + x + -y - 10000) (c' := 1) ex ey rfl (by omega) (by omega) (by omega))
                    clear ex ey HA HA2
                    clear hi
                    go_wp2
                    go_roundw
                    case rel => exact ⟨i + 1, O ++ [c + x + -y - 10000], 1, by omega, by go_num, by go_num, hC2, by rw [← fz_set hlo.out (by omega)]; exact ho.setG (fz_len (by have := hlo.out; omega)).symm i _, hb.setCell (Nat.le_refl _) _⟩
                    case measure => simp [intOf]; omega
              · -- c + x + -y: the digit, 0: the carry
                first
                  | (exfalso; omega)
                  | have hC2 := Lib.hid (hC.out.step (d := c + x + -y) (c' := 0) ex ey rfl (by omega) (by omega) (by omega))
                    clear ex ey HA HA2
                    clear hi
                    go_wp2
                    go_roundw
                    case rel => exact ⟨i + 1, O ++ [c + x + -y], 0, by omega, by go_num, by go_num, hC2, by rw [← fz_set hlo.out (by omega)]; exact ho.setG (fz_len (by have := hlo.out; omega)).symm i _, hb.setCell (Nat.le_refl _) _⟩
                    case measure => simp [intOf]; omega
            · have ey : lb[i]?.getD 0 = 0 := by simp [hib]
              clear hyb
              rcases (by omega : c + x < 0 ∨ 10000 ≤ c + x ∨ (0 ≤ c + x ∧ c + x ≤ 9999)) with hn | hn | hn
              · -- c + x + 10000: the digit, -1: the carry
                first
                  | (exfalso; omega)
                  | have hC2 := Lib.hid (hC.out.step (d := c + x + 10000) (c' := -1) ex ey rfl (by omega) (by omega) (by omega))
                    clear ex ey HA HA2
                    clear hi
                    go_wp2
                    go_roundw
                    case rel => exact ⟨i + 1, O ++ [c + x + 10000], -1, by omega, by go_num, by go_num, hC2, by rw [← fz_set hlo.out (by omega)]; exact ho.setG (fz_len (by have := hlo.out; omega)).symm i _, hb.setCell (Nat.le_refl _) _⟩
                    case measure => simp [intOf]; omega
              · -- c + x - 10000: the digit, 1: the carry
                first
                  | (exfalso; omega)
                  | have hC2 := Lib.hid (hC.out.step (d := c + x - 10000) (c' := 1) ex ey rfl (by omega) (by omega) (by omega))
                    clear ex ey HA HA2
                    clear hi
                    go_wp2
                    go_roundw
                    case rel => exact ⟨i + 1, O ++ [c + x - 10000], 1, by omega, by go_num, by go_num, hC2, by rw [← fz_set hlo.out (by omega)]; exact ho.setG (fz_len (by have := hlo.out; omega)).symm i _, hb.setCell (Nat.le_refl _) _⟩
                    case measure => simp [intOf]; omega
              · -- c + x: the digit, 0: the carry
                first
                  | (exfalso; omega)
                  | have hC2 := Lib.hid (hC.out.step (d := c + x) (c' := 0) ex ey rfl (by omega) (by omega) (by omega))
                    clear ex ey HA HA2
                    clear hi
                    go_wp2
                    go_roundw
                    case rel => exact ⟨i + 1, O ++ [c + x], 0, by omega, by go_num, by go_num, hC2, by rw [← fz_set hlo.out (by omega)]; exact ho.setG (fz_len (by have := hlo.out; omega)).symm i _, hb.setCell (Nat.le_refl _) _⟩
                    case measure => simp [intOf]; omega
          · have ex : la[i]?.getD 0 = 0 := by simp [hia]
            clear hxa
            -- c + -y: the number with b, c: the one without
            by_cases hib : i < lb.length
            · obtain ⟨gb, ob, rfl, q2, hgb⟩ := HA2.out i hib
              have d2 := (hb.cell (p := ⟨gb, ob + i, none⟩) (HB.out ▸ hgb)).trans q2
              generalize ey : lb[i]?.getD 0 = y at d2 hyb
              clear q2
              rcases (by omega : c + -y < 0 ∨ 10000 ≤ c + -y ∨ (0 ≤ c + -y ∧ c + -y ≤ 9999)) with hn | hn | hn
              · -- c + -y + 10000: the digit, -1: the carry
                first
                  | (exfalso; omega)
                  | have hC2 := Lib.hid (hC.out.step (d := c + -y + 10000) (c' := -1) ex ey rfl (by omega) (by omega) (by omega))
                    clear ex ey HA HA2
                    clear hi
                    go_wp2
                    go_roundw
                    case rel => exact ⟨i + 1, O ++ [c + -y + 10000], -1, by omega, by go_num, by go_num, hC2, by rw [← fz_set hlo.out (by omega)]; exact ho.setG (fz_len (by have := hlo.out; omega)).symm i _, hb.setCell (Nat.le_refl _) _⟩
                    case measure => simp [intOf]; omega
              · -- c + -y - 10000: the digit, 1: the carry
                first
                  | (exfalso; omega)
                  | have hC2 := Lib.hid (hC.out.step (d := c + -y - 10000) (c' := 1) ex ey rfl (by omega) (by omega) (by omega))
                    clear ex ey HA HA2
                    clear hi
                    go_wp2
                    go_roundw
                    case rel => exact ⟨i + 1, O ++ [c + -y - 10000], 1, by omega, by go_num, by go_num, hC2, by rw [← fz_set hlo.out (by omega)]; exact ho.setG (fz_len (by have := hlo.out; omega)).symm i _, hb.setCell (Nat.le_refl _) _⟩
                    case measure => simp [intOf]; omega
              · -- c + -y: the digit, 0: the carry
                first
                  | (exfalso; omega)
                  | have hC2 := Lib.hid (hC.out.step (d := c + -y) (c' := 0) ex ey rfl (by omega) (by omega) (by omega))
                    clear ex ey HA HA2
                    clear hi
                    go_wp2
                    go_roundw
                    case rel => exact ⟨i + 1, O ++ [c + -y], 0, by omega, by go_num, by go_num, hC2, by rw [← fz_set hlo.out (by omega)]; exact ho.setG (fz_len (by have := hlo.out; omega)).symm i _, hb.setCell (Nat.le_refl _) _⟩
                    case measure => simp [intOf]; omega
            · have ey : lb[i]?.getD 0 = 0 := by simp [hib]
              clear hyb
              rcases (by omega : c < 0 ∨ 10000 ≤ c ∨ (0 ≤ c ∧ c ≤ 9999)) with hn | hn | hn
              · -- c + 10000: the digit, -1: the carry
                first
                  | (exfalso; omega)
                  | have hC2 := Lib.hid (hC.out.step (d := c + 10000) (c' := -1) ex ey rfl (by omega) (by omega) (by omega))
                    clear ex ey HA HA2
                    clear hi
                    go_wp2
                    go_roundw
                    case rel => exact ⟨i + 1, O ++ [c + 10000], -1, by omega, by go_num, by go_num, hC2, by rw [← fz_set hlo.out (by omega)]; exact ho.setG (fz_len (by have := hlo.out; omega)).symm i _, hb.setCell (Nat.le_refl _) _⟩
                    case measure => simp [intOf]; omega
              · -- c - 10000: the digit, 1: the carry
                first
                  | (exfalso; omega)
                  | have hC2 := Lib.hid (hC.out.step (d := c - 10000) (c' := 1) ex ey rfl (by omega) (by omega) (by omega))
                    clear ex ey HA HA2
                    clear hi
                    go_wp2
                    go_roundw
                    case rel => exact ⟨i + 1, O ++ [c - 10000], 1, by omega, by go_num, by go_num, hC2, by rw [← fz_set hlo.out (by omega)]; exact ho.setG (fz_len (by have := hlo.out; omega)).symm i _, hb.setCell (Nat.le_refl _) _⟩
                    case measure => simp [intOf]; omega
              · -- c: the digit, 0: the carry
                first
                  | (exfalso; omega)
                  | have hC2 := Lib.hid (hC.out.step (d := c) (c' := 0) ex ey rfl (by omega) (by omega) (by omega))
                    clear ex ey HA HA2
                    clear hi
                    go_wp2
                    go_roundw
                    case rel => exact ⟨i + 1, O ++ [c], 0, by omega, by go_num, by go_num, hC2, by rw [← fz_set hlo.out (by omega)]; exact ho.setG (fz_len (by have := hlo.out; omega)).symm i _, hb.setCell (Nat.le_refl _) _⟩
                    case measure => simp [intOf]; omega
        · obtain rfl : i = la.length + 1 := by omega
          obtain ⟨_, hvo⟩ := hC.out.done hda hdb (.inr rfl) (by omega) (by omega) HV.out
          have hdo := hC.out.dg
          rw [fz_full hlo.out] at ho
          have HE := Lib.hid (And.intro hdo hvo)
          clear hvo hdo
          go_wp2
          go_ret
          exact ⟨_, O, rfl, ho.le (by rw [HB.out]; exact Nat.le_refl _), HE.out.1, HE.out.2, by have := hlo.out; omega, HB.out ▸ hb⟩
end Go.Proofs.YtbcjlhbpgcjddaaGreatDoor

/- BgO -/
namespace Go.Proofs.YtbcjlhbpgcjddaaGreatDoor
open Go.RowKit

/-- a whole is returned -/
def WhP (N : Int) (w : World) (e : Ending) (w' : World) : Prop := ∃ v, e = .returned v ∧ Wh w.heap.size N v w' ∧ Below w.heap.size w w'
theorem tr_low {n : Nat} : tr (dg n) = dg n := by
  have h := dg_Dg n
  rw [tr_dg h.1, h.2.2]; rfl
theorem wh_sign {N : Int} {L : List Int} (h : tr L = dg N.natAbs) : (decide (N < 0) && !(tr L).isEmpty) = decide (N < 0) := by
  rw [h]
  by_cases hN : N < 0
  · have : dg N.natAbs ≠ [] := fun h => by have := dg_nil.1 h; omega
    rw [isEmpty_dec rfl]
    simp [hN, this]
  · simp [hN]
/-- trimmed digits are a whole -/
theorem TrP.whole {neg : Bool} {N : Int} {L : List Int} (hs : neg = decide (N < 0) ∨ N = 0) (hL : tr L = dg N.natAbs) {w : World} {e : Ending} {w' : World} (h : TrP neg L w e w') : WhP N w e w' := by
  obtain ⟨lv, h1, h2, h3⟩ := h
  refine ⟨_, h1, ⟨lv, ?_, by rw [← hL]; exact h2⟩, h3⟩
  rcases hs with rfl | rfl
  · rw [wh_sign hL]
  · rw [hL]
    simp [dg_zero]
theorem dg_step {M N : Nat} {L : List Int} (h : L ++ dg M = dg N) (hM : M ≠ 0) : (L ++ [((M : Int)) % 10000]) ++ dg (M / 10000) = dg N := by
  rw [← h, dg_pos hM, List.append_assoc]
  rfl
theorem dg_left {M N : Nat} {L : List Int} (h : L ++ dg M = dg N) : L.length ≤ (dg N).length := by rw [← h]; simp
set_option maxHeartbeats 1000000 in
theorem c_wholeOf (n : Int) (hn : -1000000000000000000 ≤ n ∧ n ≤ 1000000000000000000) (w : World) :
    Calls Tryz.prog 177 #[.int .i64 n] w (WhP n w) := by
  have kS := Blk.new w #[.bool false, .slice none 0 0] 164
  have hb0 : Below w.heap.size w (w.alloc (.cells #[.bool false, .slice none 0 0] 164)) := (Below.refl _ _).alloc (Nat.le_refl _) _
  obtain ⟨N, hN⟩ : ∃ N, N = n.natAbs := ⟨_, rfl⟩
  have hlen : (dg N).length ≤ 5 := dg_len (by omega)
  have hNb : N ≤ 1000000000000000000 := by omega
  by_cases hneg : n < 0
  · have hab : -n = (N : Int) := by omega
    have HN := Lib.hid hN
    clear hN
    have hle : ¬ (-n < n) := by omega
    have hlt : n < -n := by omega
    go_enter Tryz.func177, Tryz.ntmps177
    go_upto_region 1 with (fail)
    generalize w.alloc _ = W at *
    go_upto_region 4 with (fail)
    go_loopw [0, 4] (fun m l wr => ∃ (M : Nat) (L : List Int), m = .int .i64 M ∧ M ≤ 1000000000000000000 ∧ Hid (L ++ dg M = dg N) ∧ OwnsI wr W.heap.size l L ∧ Below W.heap.size W wr) (fun m _ _ => (intOf m).toNat)
    case atStart => exact ⟨N, [], by first | rfl | rw [hab], by omega, Lib.hid rfl, OwnsI.nil _ _, Below.refl _ _⟩
    case round =>
      obtain ⟨M, L, rfl, hM, hD, ho, hb⟩ := hrel
      have hll : L.length ≤ 5 := Nat.le_trans (dg_left hD.out) hlen
      have hbs := hb.size
      by_cases hM0 : M = 0
      · subst hM0
        have hL : L = dg N := by have := hD.out; rwa [dg_zero, List.append_nil] at this
        have kS1 := kS.next hb
        go_wp2_with fail
        refine ((c_trimmed true) _ L (by omega) _ ho.rdL).mono ?_
        rintro e w1 hP
        have hW := hP.whole (N := n) (.inl (by simp [hneg])) (by rw [hL, tr_low, HN.out])
        obtain ⟨v, rfl, hwh, hb1⟩ := hW
        obtain ⟨lv, rfl, ho2⟩ := id hwh
        rw [← HN.out] at ho2
        have hs : decide (n < 0) = true := by simp; omega
        rw [hs]
        obtain ⟨sl, scap, rfl, _⟩ := id ho2.1
        have kS2 := kS1.next hb1
        have c0 : w1.cell? ⟨w.heap.size, 0, none⟩ = some (.bool false) := kS2.cell 0
        have c1 : w1.cell? ⟨w.heap.size, 1, none⟩ = some (.slice none 0 0) := kS2.cell 1
        have z0 := kS2.frozen 0
        have z1 := kS2.frozen 1
        have hS : w.heap.size ≤ w.heap.size := Nat.le_refl _
        have k9 := (kS2.set 0 (.bool true)).set 1 (.slice sl (dg N).length scap)
        have hbb := below_step (below_step hb1 hbs hb) hb0.size hb0
        have hB9 : Below w.heap.size w ((w1.setCell ⟨w.heap.size, 0, none⟩ (.bool true)).setCell ⟨w.heap.size, 1, none⟩ (.slice sl (dg N).length scap)) := (hbb.setCell hS _).setCell hS _
        have ho9 := ho2.set2 (S := w.heap.size) kS1.lt (.bool true) (.slice sl (dg N).length scap)
        replace ho9 : RdO _ w.heap.size _ _ := ho9.le (Nat.le_of_lt kS1.lt)
        clear hP hwh ho2 hL
        go_wp2
        generalize (World.setCell (World.setCell _ _ _) _ _) = w9 at hB9 k9 ho9 ⊢
        have q0 : w9.cell? ⟨w.heap.size, 0, none⟩ = some (.bool true) := k9.cell 0
        have q1 : w9.cell? ⟨w.heap.size, 1, none⟩ = some (.slice sl (dg N).length scap) := k9.cell 1
        refine bodyPost_ret (v := .agg #[.bool true, .slice sl (dg N).length scap]) (by simp [results, Tryz.results177, go_sem, q0, q1]) rfl ?_
        exact ⟨_, rfl, ⟨_, by rw [hs], by rw [← HN.out]; exact ho9⟩, hB9⟩
      · have hD2 := Lib.hid (dg_step hD.out hM0)
        have hpos : (0 : Int) < (M : Int) := by omega
        have hnn : (0 : Int) ≤ (M : Int) := by omega
        clear hD
        go_wp2_with (at_builtin; refine wpList_app_int rfl _ _ rfl W.heap.size _ L rfl ho rfl (by omega) hbs ?_; intro v' w4 ho4 hb4 hg4)
        go_wp2
        go_roundw
        case rel => exact ⟨M / 10000, _, by go_num, by omega, hD2, ho4, hb.trans hb4⟩
        case measure => simp [intOf]; omega
  · have hab : n = (N : Int) := by omega
    have HN := Lib.hid hN
    clear hN
    have hle : -(N : Int) ≤ (N : Int) := by omega
    go_enter Tryz.func177, Tryz.ntmps177
    go_upto_region 1 with (fail)
    generalize w.alloc _ = W at *
    go_upto_region 4 with (fail)
    go_loopw [0, 4] (fun m l wr => ∃ (M : Nat) (L : List Int), m = .int .i64 M ∧ M ≤ 1000000000000000000 ∧ Hid (L ++ dg M = dg N) ∧ OwnsI wr W.heap.size l L ∧ Below W.heap.size W wr) (fun m _ _ => (intOf m).toNat)
    case atStart => exact ⟨N, [], by first | rfl | rw [hab], by omega, Lib.hid rfl, OwnsI.nil _ _, Below.refl _ _⟩
    case round =>
      obtain ⟨M, L, rfl, hM, hD, ho, hb⟩ := hrel
      have hll : L.length ≤ 5 := Nat.le_trans (dg_left hD.out) hlen
      have hbs := hb.size
      by_cases hM0 : M = 0
      · subst hM0
        have hL : L = dg N := by have := hD.out; rwa [dg_zero, List.append_nil] at this
        have kS1 := kS.next hb
        go_wp2_with fail
        refine ((c_trimmed false) _ L (by omega) _ ho.rdL).mono ?_
        rintro e w1 hP
        have hW := hP.whole (N := n) (.inl (by simp; omega)) (by rw [hL, tr_low, HN.out])
        obtain ⟨v, rfl, hwh, hb1⟩ := hW
        obtain ⟨lv, rfl, ho2⟩ := id hwh
        rw [← HN.out] at ho2
        have hs : decide (n < 0) = false := by simp; omega
        rw [hs]
        obtain ⟨sl, scap, rfl, _⟩ := id ho2.1
        have kS2 := kS1.next hb1
        have c0 : w1.cell? ⟨w.heap.size, 0, none⟩ = some (.bool false) := kS2.cell 0
        have c1 : w1.cell? ⟨w.heap.size, 1, none⟩ = some (.slice none 0 0) := kS2.cell 1
        have z0 := kS2.frozen 0
        have z1 := kS2.frozen 1
        have hS : w.heap.size ≤ w.heap.size := Nat.le_refl _
        have k9 := (kS2.set 0 (.bool false)).set 1 (.slice sl (dg N).length scap)
        have hbb := below_step (below_step hb1 hbs hb) hb0.size hb0
        have hB9 : Below w.heap.size w ((w1.setCell ⟨w.heap.size, 0, none⟩ (.bool false)).setCell ⟨w.heap.size, 1, none⟩ (.slice sl (dg N).length scap)) := (hbb.setCell hS _).setCell hS _
        have ho9 := ho2.set2 (S := w.heap.size) kS1.lt (.bool false) (.slice sl (dg N).length scap)
        replace ho9 : RdO _ w.heap.size _ _ := ho9.le (Nat.le_of_lt kS1.lt)
        clear hP hwh ho2 hL
        go_wp2
        generalize (World.setCell (World.setCell _ _ _) _ _) = w9 at hB9 k9 ho9 ⊢
        have q0 : w9.cell? ⟨w.heap.size, 0, none⟩ = some (.bool false) := k9.cell 0
        have q1 : w9.cell? ⟨w.heap.size, 1, none⟩ = some (.slice sl (dg N).length scap) := k9.cell 1
        refine bodyPost_ret (v := .agg #[.bool false, .slice sl (dg N).length scap]) (by simp [results, Tryz.results177, go_sem, q0, q1]) rfl ?_
        exact ⟨_, rfl, ⟨_, by rw [hs], by rw [← HN.out]; exact ho9⟩, hB9⟩
      · have hD2 := Lib.hid (dg_step hD.out hM0)
        have hpos : (0 : Int) < (M : Int) := by omega
        have hnn : (0 : Int) ≤ (M : Int) := by omega
        clear hD
        go_wp2_with (at_builtin; refine wpList_app_int rfl _ _ rfl W.heap.size _ L rfl ho rfl (by omega) hbs ?_; intro v' w4 ho4 hb4 hg4)
        go_wp2
        go_roundw
        case rel => exact ⟨M / 10000, _, by go_num, by omega, hD2, ho4, hb.trans hb4⟩
        case measure => simp [intOf]; omega
end Go.Proofs.YtbcjlhbpgcjddaaGreatDoor

/- BgB -/
namespace Go.Proofs.YtbcjlhbpgcjddaaGreatDoor
open Go.RowKit

end Go.Proofs.YtbcjlhbpgcjddaaGreatDoor

/- BgC -/
namespace Go.Proofs.YtbcjlhbpgcjddaaGreatDoor
open Go.RowKit

def cmpN (x y : Int) : Int := if x < y then -1 else if y < x then 1 else 0
/-- the same digits from i on -/
def EqUp (a b : List Int) (i : Nat) : Prop := ∀ j, i ≤ j → a[j]?.getD 0 = b[j]?.getD 0
theorem EqUp.start {a b : List Int} {i : Nat} (ha : a.length ≤ i) (hb : b.length ≤ i) : EqUp a b i := fun j hj => by
  have h1 : a[j]? = none := List.getElem?_eq_none (by omega)
  have h2 : b[j]? = none := List.getElem?_eq_none (by omega)
  rw [h1, h2]
theorem EqUp.step {a b : List Int} {i : Nat} (h : EqUp a b (i + 1)) (he : a[i]?.getD 0 = b[i]?.getD 0) : EqUp a b i := fun j hj => by
  rcases Nat.eq_or_lt_of_le hj with rfl | hj
  · exact he
  · exact h j hj
theorem EqUp.symm {a b : List Int} {i : Nat} (h : EqUp a b i) : EqUp b a i := fun j hj => (h j hj).symm
theorem vl_take_lt {L : List Int} (h : Dg L) (i : Nat) : vl (L.take i) < 10000 ^ i := vl_lt (h.take i) (by rw [List.length_take]; omega)
theorem EqUp.lt {a b : List Int} {i : Nat} (h : EqUp a b (i + 1)) (ha : Dg a) (hb : Dg b) (hl : a[i]?.getD 0 < b[i]?.getD 0) : vl a < vl b := by
  have key : ∀ n, vl (a.take (i + 1 + n)) < vl (b.take (i + 1 + n)) := by
    intro n
    induction n with
    | zero =>
      rw [Nat.add_zero, vl_take_adi, vl_take_adi]
      have h1 := vl_take_lt ha i
      have h2 := (hb.take i).nn
      have h3 : (10000 : Int) ^ i * (a[i]?.getD 0) + 10000 ^ i ≤ 10000 ^ i * (b[i]?.getD 0) := by
        have := Int.mul_le_mul_of_nonneg_left (c := 10000 ^ i) (show a[i]?.getD 0 + 1 ≤ b[i]?.getD 0 by omega) (by have := pw_pos i; omega)
        rw [Int.mul_add, Int.mul_one] at this
        exact this
      omega
    | succ n ih =>
      rw [← Nat.add_assoc, vl_take_adi, vl_take_adi, h (i + 1 + n) (by omega)]
      omega
  have := key (a.length + b.length)
  rwa [vl_take_full a (by omega), vl_take_full b (by omega)] at this
theorem EqUp.eq {a b : List Int} (h : EqUp a b 0) : vl a = vl b := by
  have key : ∀ n, vl (a.take n) = vl (b.take n) := by
    intro n
    induction n with
    | zero => simp
    | succ n ih => rw [vl_take_adi, vl_take_adi, h n (by omega), ih]
  have := key (a.length + b.length)
  rwa [vl_take_full a (by omega), vl_take_full b (by omega)] at this
theorem low_lt {a b : List Int} (ha : Dg a) (hb : Dg b) (hlb : Low b) (h : a.length < b.length) : vl a < vl b := by
  have h1 := vl_lt ha (m := b.length - 1) (by omega)
  have h2 := low_ge hb hlb (by intro e; subst e; simp at h)
  omega
theorem cmpN_of_lt {x y : Int} (h : x < y) : cmpN x y = -1 := by unfold cmpN; rw [if_pos h]
theorem cmpN_of_gt {x y : Int} (h : y < x) : cmpN x y = 1 := by unfold cmpN; rw [if_neg (by omega), if_pos h]
theorem cmpN_of_eq {x y : Int} (h : x = y) : cmpN x y = 0 := by unfold cmpN; rw [if_neg (by omega), if_neg (by omega)]
set_option maxHeartbeats 1000000 in
theorem c_compareN (a b : Int) (w : World) : Calls Tryz.prog 211 #[.int .i64 a, .int .i64 b] w fun e w' => e = .returned (.int .i64 (cmpN a b)) ∧ w' = w := by
  unfold cmpN
  by_cases h1 : a < b
  · rw [if_pos h1]
    go_enter Tryz.func211, Tryz.ntmps211
    go_wp2
    go_ret
    exact ⟨rfl, rfl⟩
  · rw [if_neg h1]
    by_cases h2 : b < a
    · rw [if_pos h2]
      go_enter Tryz.func211, Tryz.ntmps211
      go_wp2
      go_ret
      exact ⟨rfl, rfl⟩
    · rw [if_neg h2]
      go_enter Tryz.func211, Tryz.ntmps211
      go_wp2
      go_ret
      exact ⟨rfl, rfl⟩
end Go.Proofs.YtbcjlhbpgcjddaaGreatDoor

/- BgD -/
namespace Go.Proofs.YtbcjlhbpgcjddaaGreatDoor
open Go.RowKit

theorem RdL.drew {w : World} {v : Value} {L : List Int} (h : RdL w v L) : RdL w.drew v L := h.below ((Below.refl _ _).drew)
set_option maxHeartbeats 2000000 in
set_option maxRecDepth 20000 in
theorem c_compareSizes (na nb : Bool) (a b : Value) (la lb : List Int) (hla : la.length ≤ 100000) (hda : Dg la) (hdb : Dg lb) (hwa : Low la) (hwb : Low lb) (w : World) (ha : RdL w a la) (hb : RdL w b lb) :
    Calls Tryz.prog 197 #[.agg #[.bool na, a], .agg #[.bool nb, b]] w fun e w' => e = .returned (.int .i64 (cmpN (vl la) (vl lb))) ∧ Below w.heap.size w w' := by
  have HCO := Lib.hid (fun a b w => c_compareN a b w)
  have hb0 : Below w.heap.size w ((w.alloc (.cells #[.bool na, a] 164)).alloc (.cells #[.bool nb, b] 164)) := ((Below.refl _ _).alloc (Nat.le_refl _) _).alloc (by simp) _
  have kA := (Blk.new w #[.bool na, a] 164).alloc (.cells #[.bool nb, b] 164)
  have kB := Blk.new (w.alloc (.cells #[.bool na, a] 164)) #[.bool nb, b] 164
  simp only [World.size_alloc] at kB
  have HA := Lib.hid (ha.below hb0)
  have HB := Lib.hid (hb.below hb0)
  obtain ⟨aa, ca, rfl, _, _⟩ := ha
  obtain ⟨ab, cb, rfl, _, _⟩ := hb
  go_enter Tryz.func197, Tryz.ntmps197
  go_upto_region 1 with (fail)
  generalize (w.alloc _).alloc _ = W at *
  generalize hrb : w.heap.size + 1 = rb at *
  generalize hra : w.heap.size = ra at *
  have HRA := Lib.hid hra
  clear hra hrb
  -- the cells of the boxes in world W, by kA, kB
  have a0 : (W).cell? ⟨ra, 0, none⟩ = some (.bool na) := (kA).cell 0
  have a1 : (W).cell? ⟨ra, 1, none⟩ = some (.slice (aa) la.length ca) := (kA).cell 1
  have b0 : (W).cell? ⟨rb, 0, none⟩ = some (.bool nb) := (kB).cell 0
  have b1 : (W).cell? ⟨rb, 1, none⟩ = some (.slice (ab) lb.length cb) := (kB).cell 1
  by_cases hle : la.length = lb.length
  · have hli : (la.length : Int) = lb.length := by omega
    go_wp2
    go_loopw [5] (fun iv wr => ∃ i : Nat, i ≤ la.length ∧ iv = .int .i64 ((i : Int) - 1) ∧ Hid (EqUp la lb i) ∧ Below W.heap.size W wr) (fun iv _ => (intOf iv + 1).toNat)
    case atStart => exact ⟨la.length, Nat.le_refl _, by simp [hli], Lib.hid (EqUp.start (by omega) (by omega)), Below.refl _ _⟩
    case round =>
      clear a0 a1 b0 b1
      obtain ⟨i, hi, rfl, hE, hbr⟩ := hrel
      have hB0 : Below ra w wr := below_step hbr (by rw [← HRA.out]; exact hb0.size) hb0
      cases i with
      | zero =>
        have he := Lib.hid (cmpN_of_eq hE.out.eq)
        clear hE
        go_wp2
        go_ret
        exact ⟨by rw [he.out]; rfl, HRA.out ▸ hB0⟩
      | succ i =>
        have hsi : ((i + 1 : Nat) : Int) - 1 = i := by omega
        rw [hsi]
        have hia : i < la.length := by omega
        have hib : i < lb.length := by omega
        have kA1 := (kA.next hbr).drew
        have kB1 := (kB.next hbr).drew
        -- the cells of the boxes in world wr.drew, by kA, kB
        have a0 : (wr.drew).cell? ⟨ra, 0, none⟩ = some (.bool na) := (kA1).cell 0
        have a1 : (wr.drew).cell? ⟨ra, 1, none⟩ = some (.slice (aa) la.length ca) := (kA1).cell 1
        have b0 : (wr.drew).cell? ⟨rb, 0, none⟩ = some (.bool nb) := (kB1).cell 0
        have b1 : (wr.drew).cell? ⟨rb, 1, none⟩ = some (.slice (ab) lb.length cb) := (kB1).cell 1
        have hd1 : Below W.heap.size W wr.drew := hbr.drew
        have HA1 := (HA.out.below hbr).drew
        have HB1 := (HB.out.below hbr).drew
        obtain ⟨_, _, e1, _, hca⟩ := HA1
        injection e1 with e1 _ e2
        subst e1 e2
        obtain ⟨_, _, e1, _, hcb⟩ := HB1
        injection e1 with e1 _ e2
        subst e1 e2
        obtain ⟨ga, oa, rfl, q1, _⟩ := hca i hia
        obtain ⟨gb, ob, rfl, q2, _⟩ := hcb i hib
        clear hca hcb
        have i1 : (i : Int) < la.length := by omega
        have i2 : (i : Int) < lb.length := by omega
        generalize hx : la[i]?.getD 0 = x at q1
        generalize hy : lb[i]?.getD 0 = y at q2
        by_cases hxy : x = y
        · subst hxy
          have hE2 := Lib.hid (hE.out.step (hx.trans hy.symm))
          clear hx hy hE
          go_upto_region 6 with (fail)
          go_still (by kernel_rfl)
          change Exit.then _ _ _ _ wr.drew
          go_wp2
          go_roundw
          case rel => exact ⟨i, by omega, rfl, hE2⟩
          case measure => simp [intOf]; try omega
        · have he : Hid (cmpN (vl la) (vl lb) = cmpN x y) := by
            show _ = _
            rcases (by omega : x < y ∨ y < x) with h | h
            · rw [cmpN_of_lt h, cmpN_of_lt (hE.out.lt hda hdb (by rw [hx, hy]; exact h))]
            · rw [cmpN_of_gt h, cmpN_of_gt (hE.out.symm.lt hdb hda (by rw [hx, hy]; exact h))]
          clear hx hy hE
          have r1 : wr.drew.drew.cell? ⟨ga, oa + i, none⟩ = some (.int .i64 x) := q1
          have r2 : wr.drew.drew.cell? ⟨gb, ob + i, none⟩ = some (.int .i64 y) := q2
          go_upto_region 6 with (fail)
          go_still (by kernel_rfl)
          change Exit.then _ _ _ _ wr.drew
          clear a0 a1 b0 b1
          -- the cells of the boxes in world wr.drew.drew, by kA, kB
          have a0 : (wr.drew.drew).cell? ⟨ra, 0, none⟩ = some (.bool na) := (kA1.drew).cell 0
          have a1 : (wr.drew.drew).cell? ⟨ra, 1, none⟩ = some (.slice (some ⟨ga, oa, none⟩) la.length ca) := (kA1.drew).cell 1
          have b0 : (wr.drew.drew).cell? ⟨rb, 0, none⟩ = some (.bool nb) := (kB1.drew).cell 0
          have b1 : (wr.drew.drew).cell? ⟨rb, 1, none⟩ = some (.slice (some ⟨gb, ob, none⟩) lb.length cb) := (kB1.drew).cell 1
          go_upto_region 7 with (fail)
          refine wp_region_still_lit (by kernel_rfl) (by kernel_rfl) ?_
          change wpStill _ _ wr.drew.drew _ _ _
          iterate 10 still_step
          still_call (HCO.out _ _ _)
          still_step
          refine wpStill_nil ?_
          change Exit.then _ _ _ _ wr.drew.drew
          go_wp2
          go_ret
          exact ⟨by rw [he.out]; rfl, HRA.out ▸ hB0.drew.drew⟩
  · have hli : (la.length : Int) ≠ lb.length := by omega
    have he : cmpN (vl la) (vl lb) = cmpN la.length lb.length := by
      rcases Nat.lt_or_ge la.length lb.length with h | h
      · rw [cmpN_of_lt (low_lt hda hdb hwb h), cmpN_of_lt (by omega)]
      · rw [cmpN_of_gt (low_lt hdb hda hwa (by omega)), cmpN_of_gt (by omega)]
    replace he := Lib.hid he
    go_wp2_with fail
    refine (HCO.out _ _ _).mono ?_
    rintro e w1 ⟨rfl, hw⟩
    rw [hw]
    clear hw
    go_wp2
    go_ret
    exact ⟨by rw [he.out]; rfl, HRA.out ▸ hb0⟩
end Go.Proofs.YtbcjlhbpgcjddaaGreatDoor

/- BgE -/
namespace Go.Proofs.YtbcjlhbpgcjddaaGreatDoor
open Go.RowKit

/-- a whole, to be read -/
def WhR (N : Int) (v : Value) (w : World) : Prop := ∃ lv, v = .agg #[.bool (decide (N < 0)), lv] ∧ RdL w lv (dg N.natAbs)
theorem Wh.rd {base : Nat} {N : Int} {v : Value} {w : World} (h : Wh base N v w) : WhR N v w := by
  obtain ⟨lv, h1, h2⟩ := h
  exact ⟨lv, h1, h2.1⟩
theorem WhR.below {N : Int} {v : Value} {w w1 : World} (h : WhR N v w) (hb : Below w.heap.size w w1) : WhR N v w1 := by
  obtain ⟨lv, h1, h2⟩ := h
  exact ⟨lv, h1, h2.below hb⟩
def OwD (V : Int) (base : Nat) (v : Value) (w : World) : Prop := ∃ O, OwnsI w base v O ∧ Dg O ∧ vl O = V ∧ O.length ≤ 200000
theorem OwD.closed (V : Int) (base : Nat) (v : Value) : Closed (OwD V base v) := fun _ _ ⟨O, h1, h2⟩ hb => ⟨O, h1.below hb, h2⟩
theorem dg_D (n : Nat) : Dg (dg n) := (dg_Dg n).1
theorem dg_L (n : Nat) : Low (dg n) := (dg_Dg n).2.1
theorem dg_V (n : Nat) : vl (dg n) = n := (dg_Dg n).2.2
theorem tr_val {O : List Int} {V : Int} {n : Nat} (h : Dg O) (hv : vl O = V) (hn : V = n) : tr O = dg n := by
  rw [tr_dg h, hv, hn]; rfl
theorem cmpN_neg {x y : Int} : cmpN x y < 0 ↔ x < y := by unfold cmpN; split; omega; split <;> omega
theorem RdO.over {ex : List Nat} {w w' : World} {base : Nat} {v : Value} {L : List Int} (h : RdO w base v L) (ho : Over ex w w') (hx : ∀ k ∈ ex, k < base) : RdO w' base v L := by
  by_cases hn : L = []
  · subst hn
    obtain ⟨a, cap, h1, h2, _⟩ := h.1
    exact ⟨⟨a, cap, h1, h2, fun i hi => by simp at hi⟩, fun h => absurd rfl h⟩
  · have h1 := h.2 hn
    have h3 := OwnsI.over h1 ho (fun g hg hm => by have := h1.lt g hg; have := hx g hm; omega)
    exact ⟨h3.rdL, fun _ => h3⟩
theorem sg_same {M N K : Int} {s : Bool} (h1 : Hid (decide (M < 0) = s)) (h2 : Hid (decide (N < 0) = s)) (hK : M + N = K) : (s = decide (K < 0) ∨ K = 0) ∧ ((M.natAbs : Int) + 1 * N.natAbs = K.natAbs) := by
  have h1 := h1.out
  have h2 := h2.out
  cases s
  · simp at h1 h2
    refine ⟨.inl ?_, by omega⟩
    symm
    simp; omega
  · simp at h1 h2
    refine ⟨.inl ?_, by omega⟩
    symm
    simp; omega
theorem sg_diff {M N K : Int} {s t : Bool} (h1 : Hid (decide (M < 0) = s)) (h2 : Hid (decide (N < 0) = t)) (hst : s ≠ t) (hK : M + N = K) (hl : N.natAbs ≤ M.natAbs) : (s = decide (K < 0) ∨ K = 0) ∧ ((M.natAbs : Int) + -1 * N.natAbs = K.natAbs) := by
  have h1 := h1.out
  have h2 := h2.out
  refine ⟨?_, ?_⟩
  · by_cases h0 : K = 0
    · exact .inr h0
    · left
      cases s <;> cases t <;> simp at h1 h2 hst ⊢ <;> omega
  · cases s <;> cases t <;> simp at h1 h2 hst ⊢ <;> omega
theorem Wh.rdO {base : Nat} {K : Int} {b : Bool} {lv : Value} {w : World} (h : Wh base K (.agg #[.bool b, lv]) w) : RdO w base lv (dg K.natAbs) := by
  obtain ⟨l, e, h⟩ := h
  simp only [Value.agg.injEq, Array.mk.injEq, List.cons.injEq] at e
  rw [e.2.1]
  exact h
theorem Blk.other {r : Nat} {cs : Array Value} {T : TypeId} {w : World} (h : Blk r cs T w) {p : Addr} (hp : p.block ≠ r) (v : Value) : Blk r cs T (w.setCell p v) :=
  h.over ((Over.refl [p.block] w).setCell (.inr (by simp)) v) (by simp; omega)
set_option maxHeartbeats 2000000 in
set_option maxRecDepth 20000 in
theorem c_addWholes (M N : Int) (a b : Value) (hM : (dg M.natAbs).length ≤ 100000) (hN : (dg N.natAbs).length ≤ 100000) (w : World) (ha : WhR M a w) (hb : WhR N b w) :
    Calls Tryz.prog 178 #[a, b] w (WhP (M + N) w) := by
  obtain ⟨la, rfl, hra⟩ := ha
  obtain ⟨lb, rfl, hrb⟩ := hb
  obtain ⟨aa, ca, HLA⟩ : ∃ aa ca, Hid (la = .slice aa (dg M.natAbs).length ca) := by obtain ⟨aa, ca, h, _⟩ := hra; exact ⟨aa, ca, h⟩
  obtain ⟨ab, cb, HLB⟩ : ∃ ab cb, Hid (lb = .slice ab (dg N.natAbs).length cb) := by obtain ⟨aa, ca, h, _⟩ := hrb; exact ⟨aa, ca, h⟩
  have kA := ((Blk.new w #[.bool (decide (M < 0)), la] 164).alloc (.cells #[.bool (decide (N < 0)), lb] 164)).alloc (.cells #[.bool false, .slice none 0 0] 164)
  have kB := (Blk.new (w.alloc (.cells #[.bool (decide (M < 0)), la] 164)) #[.bool (decide (N < 0)), lb] 164).alloc (.cells #[.bool false, .slice none 0 0] 164)
  have kS := Blk.new ((w.alloc (.cells #[.bool (decide (M < 0)), la] 164)).alloc (.cells #[.bool (decide (N < 0)), lb] 164)) #[.bool false, .slice none 0 0] 164
  have hb0 : Below w.heap.size w (((w.alloc (.cells #[.bool (decide (M < 0)), la] 164)).alloc (.cells #[.bool (decide (N < 0)), lb] 164)).alloc (.cells #[.bool false, .slice none 0 0] 164)) := (((Below.refl _ _).alloc (Nat.le_refl _) _).alloc (by simp) _).alloc (by simp; omega) _
  simp only [World.size_alloc] at kB kS
  have HR1 := Lib.hid hra
  have HR2 := Lib.hid hrb
  generalize hsa : decide (M < 0) = sa at *
  generalize hsb : decide (N < 0) = sb at *
  have HSA := Lib.hid hsa
  have HSB := Lib.hid hsb
  clear hsa hsb
  obtain ⟨K, hK⟩ : ∃ K, M + N = K := ⟨_, rfl⟩
  rw [hK]
  have hsz := hb0.size
  go_enter Tryz.func178, Tryz.ntmps178
  go_upto_region 1 with (fail)
  generalize ((w.alloc _).alloc _).alloc _ = W at *
  generalize hrs : w.heap.size + 1 + 1 = rs at *
  have a0 : W.cell? ⟨w.heap.size, 0, none⟩ = some (.bool (sa)) := kA.cell 0
  have a1 : W.cell? ⟨w.heap.size, 1, none⟩ = some la := kA.cell 1
  have b0 : W.cell? ⟨w.heap.size + 1, 0, none⟩ = some (.bool (sb)) := kB.cell 0
  have b1 : W.cell? ⟨w.heap.size + 1, 1, none⟩ = some lb := kB.cell 1
  have kAl : w.heap.size < W.heap.size := kA.lt
  have kBl : w.heap.size + 1 < W.heap.size := kB.lt
  have kSl : rs < W.heap.size := kS.lt
  have hn1 : w.heap.size ∉ [rs] := by simp; omega
  have hn2 : w.heap.size + 1 ∉ [rs] := by simp; omega
  by_cases hs : sa = sb
  · subst hs
    go_upto_region 2 with (fail)
    -- impl.addWholes function, 2 region, c_addLimbs sum's contract, c_trimmed whole's contract, M left number, N right number, 1 sign, sa blocks' left number's sign, sg_same HSA HSB hK proof of the sign; world W, kS at rs, HR1/HR2 reads in W
    refine wp_region_cls [rs] (fun _ => false) (fun _ => True) (Blk rs #[.bool false, .slice none 0 0] 164) (by kernel_rfl) (kS) ?_
    apply wpAnyF_hd ⟨W, Over.refl _ _, kS⟩ [true, true, true, true, true, true] 3 (Blk.closed _ _ _) (fun _ _ => trivial) (by kernel_rfl) (by kernel_rfl) (by kernel_rfl) (by kernel_rfl) (by simp)
    · intro E hE hEN hEn; (repeat (first | (refine wpHL_take ?_; go_big_quiet_step (fail); refine wpQuiet_nil ?_) | refine wpHL_skip ?_)); exact wpHL_end rfl
    refine wpAnyF_ready [6] 2 (by kernel_rfl) (by kernel_rfl) (by simp) (AllF.cons ?_ AllF.nil)
    refine stepC_calle (some 16) (fun u => fun w' => Blk rs #[.bool false, .slice none 0 0] 164 w' ∧ OwD ((M).natAbs + (1) * (N).natAbs) (W).heap.size u w') (by rfl) (by rfl) (by rfl) (fun _ => by go_simp) (fun u => (Blk.closed _ _ _).and (OwD.closed _ _ _)) (fun w' hO hD => (c_addLimbs (1) (by omega) _ _ (dg (M).natAbs) (dg (N).natAbs) (by omega) (by omega) (dg_D _) (dg_D _) (by rw [dg_V, dg_V]; omega) _ (HR1.out.below0 (hO.belowGe (B := w.heap.size) hb0 hsz (by simp; omega))) (HR2.out.below0 (hO.belowGe (B := w.heap.size) hb0 hsz (by simp; omega)))).mono fun e w2 ⟨v, O, h1, h2, h3, h4, h5, h6⟩ => ⟨v, h1, .of_below h6, hD.next h6, O, h2.le hO.size, h3, by rw [h4, dg_V, dg_V], by omega⟩) (fun u hne => ?_)
    simp only [Act.put, List.setIfInBounds_toArray, List.set_cons_succ, List.set_cons_zero]
    refine wpAnyF_ready [7] 1 (by kernel_rfl) (by kernel_rfl) (by simp) (AllF.cons ?_ AllF.nil)
    refine stepC_calle (some 17) (fun u2 => fun w' => Blk rs #[.bool false, .slice none 0 0] 164 w' ∧ Wh (W).heap.size K u2 w') (by rfl) (by rfl) (by rfl) (fun _ => by go_simp) (fun u2 => (Blk.closed _ _ _).and (Wh.closed _ _ _)) (fun w' hO ⟨hD1, O, h1, h2, h3, h4⟩ => (c_trimmed (sa) _ O (by omega) _ h1.rdL).mono fun e w2 h => let ⟨v, r1, r2, r3⟩ := h.whole (N := K) (sg_same HSA HSB hK).1 (tr_val h2 h3 (sg_same HSA HSB hK).2); ⟨v, r1, .of_below r3, hD1.next r3, r2.le hO.size⟩) (fun u2 hne => ?_)
    simp only [Act.put, List.setIfInBounds_toArray, List.set_cons_succ, List.set_cons_zero]
    obtain ⟨w9, _, _, lv9, rfl, ho9⟩ := id hne; obtain ⟨sl, scap, rfl, _⟩ := id ho9.1
    refine wpAnyF_ready [8] 0 (by kernel_rfl) (by kernel_rfl) (by simp) (AllF.cons ?_ AllF.nil)
    refine stepC_store (v := .agg #[.bool (decide (K < 0)), .slice sl (dg K.natAbs).length scap]) (rs) (#[.bool false, .slice none 0 0]) (fun w' => Blk rs #[.bool (decide (K < 0)), .slice sl (dg K.natAbs).length scap] 164 w' ∧ RdO w' (W).heap.size (.slice sl (dg K.natAbs).length scap) (dg K.natAbs)) (by rfl) (by rfl) (by rfl) (by rfl) (by rfl) (by rfl) (fun _ => by go_simp) (by rfl) (by simp [Value.cells, one1]) (.inr (by simp)) (fun _ hd => hd.1) ((Blk.closed _ _ _).and (fun _ _ h hb => ⟨h.1.below hb, fun hn => (h.2 hn).below hb⟩)) (fun w1 w2 hd ho hb => ⟨hb, hd.2.rdO.over ho (by simp; omega)⟩) (fun hne => ?_)
    try simp only [Value.cells]
    refine wpAnyF_done (by kernel_rfl) (fun Wz hOz hDz => NoPanic.normal ?_) _
    try dsimp only
    have hbz : Below w.heap.size w Wz := hOz.belowGe (B := w.heap.size) hb0 hsz (by simp; omega)
    have q0 : Wz.cell? ⟨rs, 0, none⟩ = some (.bool (decide (K < 0))) := hDz.1.cell 0
    have q1 : Wz.cell? ⟨rs, 1, none⟩ = some (.slice sl (dg K.natAbs).length scap) := hDz.1.cell 1
    have hRz : RdO Wz w.heap.size (.slice sl (dg K.natAbs).length scap) (dg K.natAbs) := hDz.2.le hsz
    clear hOz hDz hne ho9
    go_wp2
    refine bodyPost_ret (v := .agg #[.bool (decide (K < 0)), .slice sl (dg K.natAbs).length scap]) (by simp [results, Tryz.results178, go_sem, q0, q1]) rfl ?_
    exact ⟨_, rfl, ⟨_, rfl, hRz⟩, hbz⟩
  · have hsd : sa ≠ sb := hs
    have hbe : (sa == sb) = false := by simp [hs]
    have HC := Lib.hid (c_compareSizes sa sb la lb (dg M.natAbs) (dg N.natAbs) (by omega) (dg_D _) (dg_D _) (dg_L _) (dg_L _) W (HR1.out.below hb0) (HR2.out.below hb0))
    rw [dg_V, dg_V] at HC
    generalize hc : cmpN (M.natAbs : Int) (N.natAbs : Int) = c at HC
    by_cases hc0 : c < 0
    · have hl : M.natAbs ≤ N.natAbs := by
        have := (cmpN_neg (x := (M.natAbs : Int)) (y := N.natAbs)).1 (by rw [hc]; exact hc0)
        omega
      have hK2 : N + M = K := by omega
      have hsd2 : sb ≠ sa := fun h => hsd h.symm
      clear hc
      go_wp2_with fail
      refine HC.out.mono ?_
      rintro e W0 ⟨rfl, hb1⟩
      have kA0 := kA.next hb1
      have kB0 := kB.next hb1
      have kS0 := kS.next hb1
      clear a0 a1 b0 b1
      have a0 : W0.cell? ⟨w.heap.size, 0, none⟩ = some (.bool sa) := kA0.cell 0
      have a1 : W0.cell? ⟨w.heap.size, 1, none⟩ = some la := kA0.cell 1
      have b0 : W0.cell? ⟨w.heap.size + 1, 0, none⟩ = some (.bool sb) := kB0.cell 0
      have b1 : W0.cell? ⟨w.heap.size + 1, 1, none⟩ = some lb := kB0.cell 1
      have fa0 := kA0.frozen 0
      have fa1 := kA0.frozen 1
      have fb0 := kB0.frozen 0
      have fb1 := kB0.frozen 1
      have hb2 : Below w.heap.size w W0 := below_step hb1 hsz hb0
      clear HC
      have hla9 := HLA.out
      have hlb9 := HLB.out
      clear HLA HLB
      subst hla9 hlb9
      have kA1 := (((kA0.set 0 (.bool sb)).set 1 (.slice ab (dg N.natAbs).length cb)).other (p := ⟨w.heap.size + 1, 0, none⟩) (by simp) (.bool sa)).other (p := ⟨w.heap.size + 1, 1, none⟩) (by simp) (.slice aa (dg M.natAbs).length ca)
      have kB1 := (((kB0.other (p := ⟨w.heap.size, 0, none⟩) (by simp) (.bool sb)).other (p := ⟨w.heap.size, 1, none⟩) (by simp) (.slice ab (dg N.natAbs).length cb)).set 0 (.bool sa)).set 1 (.slice aa (dg M.natAbs).length ca)
      have kS1 := (((kS0.other (p := ⟨w.heap.size, 0, none⟩) (by simp; omega) (.bool sb)).other (p := ⟨w.heap.size, 1, none⟩) (by simp; omega) (.slice ab (dg N.natAbs).length cb)).other (p := ⟨w.heap.size + 1, 0, none⟩) (by simp; omega) (.bool sa)).other (p := ⟨w.heap.size + 1, 1, none⟩) (by simp; omega) (.slice aa (dg M.natAbs).length ca)
      have hb3 : Below w.heap.size w ((((W0.setCell ⟨w.heap.size, 0, none⟩ (.bool sb)).setCell ⟨w.heap.size, 1, none⟩ (.slice ab (dg N.natAbs).length cb)).setCell ⟨w.heap.size + 1, 0, none⟩ (.bool sa)).setCell ⟨w.heap.size + 1, 1, none⟩ (.slice aa (dg M.natAbs).length ca)) := (((hb2.setCell (Nat.le_refl _) _).setCell (Nat.le_refl _) _).setCell (by simp) _).setCell (by simp) _
      go_upto_region 4 with (fail)
      go_upto_region 5 with (fail)
      generalize (((World.setCell _ _ _).setCell _ _).setCell _ _).setCell _ _ = W1 at *
      clear a0 a1 b0 b1 fa0 fa1 fb0 fb1
      have a0 : W1.cell? ⟨w.heap.size, 0, none⟩ = some (.bool sb) := kA1.cell 0
      have a1 : W1.cell? ⟨w.heap.size, 1, none⟩ = some (.slice ab (dg N.natAbs).length cb) := kA1.cell 1
      have b0 : W1.cell? ⟨w.heap.size + 1, 0, none⟩ = some (.bool sa) := kB1.cell 0
      have b1 : W1.cell? ⟨w.heap.size + 1, 1, none⟩ = some (.slice aa (dg M.natAbs).length ca) := kB1.cell 1
      have kA1l : w.heap.size < W1.heap.size := kA1.lt
      have kB1l : w.heap.size + 1 < W1.heap.size := kB1.lt
      have kS1l : rs < W1.heap.size := kS1.lt
      have hsz1 := hb3.size
      have HRt := HR1
      clear HR1
      have HR1 := HR2
      clear HR2
      have HR2 := HRt
      clear HRt
      -- impl.addWholes function, 5 region, c_addLimbs sum's contract, c_trimmed whole's contract, N left number, M right number, -1 sign, sb blocks' left number's sign, sg_diff HSB HSA hsd2 hK2 hl proof of the sign; world W, kS at rs, HR1/HR2 reads in W
      refine wp_region_cls [rs] (fun _ => false) (fun _ => True) (Blk rs #[.bool false, .slice none 0 0] 164) (by kernel_rfl) (kS1) ?_
      apply wpAnyF_hd ⟨W1, Over.refl _ _, kS1⟩ [true, true, true, true, true, true] 3 (Blk.closed _ _ _) (fun _ _ => trivial) (by kernel_rfl) (by kernel_rfl) (by kernel_rfl) (by kernel_rfl) (by simp)
      · intro E hE hEN hEn; (repeat (first | (refine wpHL_take ?_; go_big_quiet_step (fail); refine wpQuiet_nil ?_) | refine wpHL_skip ?_)); exact wpHL_end rfl
      refine wpAnyF_ready [6] 2 (by kernel_rfl) (by kernel_rfl) (by simp) (AllF.cons ?_ AllF.nil)
      refine stepC_calle (some 30) (fun u => fun w' => Blk rs #[.bool false, .slice none 0 0] 164 w' ∧ OwD ((N).natAbs + (-1) * (M).natAbs) (W1).heap.size u w') (by rfl) (by rfl) (by rfl) (fun _ => by go_simp) (fun u => (Blk.closed _ _ _).and (OwD.closed _ _ _)) (fun w' hO hD => (c_addLimbs (-1) (by omega) _ _ (dg (N).natAbs) (dg (M).natAbs) (by omega) (by omega) (dg_D _) (dg_D _) (by rw [dg_V, dg_V]; omega) _ (HR1.out.below0 (hO.belowGe (B := w.heap.size) hb3 hsz1 (by simp; omega))) (HR2.out.below0 (hO.belowGe (B := w.heap.size) hb3 hsz1 (by simp; omega)))).mono fun e w2 ⟨v, O, h1, h2, h3, h4, h5, h6⟩ => ⟨v, h1, .of_below h6, hD.next h6, O, h2.le hO.size, h3, by rw [h4, dg_V, dg_V], by omega⟩) (fun u hne => ?_)
      simp only [Act.put, List.setIfInBounds_toArray, List.set_cons_succ, List.set_cons_zero]
      refine wpAnyF_ready [7] 1 (by kernel_rfl) (by kernel_rfl) (by simp) (AllF.cons ?_ AllF.nil)
      refine stepC_calle (some 31) (fun u2 => fun w' => Blk rs #[.bool false, .slice none 0 0] 164 w' ∧ Wh (W1).heap.size K u2 w') (by rfl) (by rfl) (by rfl) (fun _ => by go_simp) (fun u2 => (Blk.closed _ _ _).and (Wh.closed _ _ _)) (fun w' hO ⟨hD1, O, h1, h2, h3, h4⟩ => (c_trimmed (sb) _ O (by omega) _ h1.rdL).mono fun e w2 h => let ⟨v, r1, r2, r3⟩ := h.whole (N := K) (sg_diff HSB HSA hsd2 hK2 hl).1 (tr_val h2 h3 (sg_diff HSB HSA hsd2 hK2 hl).2); ⟨v, r1, .of_below r3, hD1.next r3, r2.le hO.size⟩) (fun u2 hne => ?_)
      simp only [Act.put, List.setIfInBounds_toArray, List.set_cons_succ, List.set_cons_zero]
      obtain ⟨w9, _, _, lv9, rfl, ho9⟩ := id hne; obtain ⟨sl, scap, rfl, _⟩ := id ho9.1
      refine wpAnyF_ready [8] 0 (by kernel_rfl) (by kernel_rfl) (by simp) (AllF.cons ?_ AllF.nil)
      refine stepC_store (v := .agg #[.bool (decide (K < 0)), .slice sl (dg K.natAbs).length scap]) (rs) (#[.bool false, .slice none 0 0]) (fun w' => Blk rs #[.bool (decide (K < 0)), .slice sl (dg K.natAbs).length scap] 164 w' ∧ RdO w' (W1).heap.size (.slice sl (dg K.natAbs).length scap) (dg K.natAbs)) (by rfl) (by rfl) (by rfl) (by rfl) (by rfl) (by rfl) (fun _ => by go_simp) (by rfl) (by simp [Value.cells, one1]) (.inr (by simp)) (fun _ hd => hd.1) ((Blk.closed _ _ _).and (fun _ _ h hb => ⟨h.1.below hb, fun hn => (h.2 hn).below hb⟩)) (fun w1 w2 hd ho hb => ⟨hb, hd.2.rdO.over ho (by simp; omega)⟩) (fun hne => ?_)
      try simp only [Value.cells]
      refine wpAnyF_done (by kernel_rfl) (fun Wz hOz hDz => NoPanic.normal ?_) _
      try dsimp only
      have hbz : Below w.heap.size w Wz := hOz.belowGe (B := w.heap.size) hb3 hsz1 (by simp; omega)
      have q0 : Wz.cell? ⟨rs, 0, none⟩ = some (.bool (decide (K < 0))) := hDz.1.cell 0
      have q1 : Wz.cell? ⟨rs, 1, none⟩ = some (.slice sl (dg K.natAbs).length scap) := hDz.1.cell 1
      have hRz : RdO Wz w.heap.size (.slice sl (dg K.natAbs).length scap) (dg K.natAbs) := hDz.2.le hsz1
      clear hOz hDz hne ho9
      go_wp2
      refine bodyPost_ret (v := .agg #[.bool (decide (K < 0)), .slice sl (dg K.natAbs).length scap]) (by simp [results, Tryz.results178, go_sem, q0, q1]) rfl ?_
      exact ⟨_, rfl, ⟨_, rfl, hRz⟩, hbz⟩
    · have hl : N.natAbs ≤ M.natAbs := by
        have := mt (cmpN_neg (x := (M.natAbs : Int)) (y := N.natAbs)).2 (by rw [hc]; exact hc0)
        omega
      clear hc
      go_wp2_with fail
      refine HC.out.mono ?_
      rintro e W1 ⟨rfl, hb1⟩
      have kA1 := kA.next hb1
      have kB1 := kB.next hb1
      have kS1 := kS.next hb1
      have hb2 : Below w.heap.size w W1 := below_step hb1 hsz hb0
      have hsz1 := hb2.size
      clear a0 a1 b0 b1
      have a0 : W1.cell? ⟨w.heap.size, 0, none⟩ = some (.bool sa) := kA1.cell 0
      have a1 : W1.cell? ⟨w.heap.size, 1, none⟩ = some la := kA1.cell 1
      have b0 : W1.cell? ⟨w.heap.size + 1, 0, none⟩ = some (.bool sb) := kB1.cell 0
      have b1 : W1.cell? ⟨w.heap.size + 1, 1, none⟩ = some lb := kB1.cell 1
      have kA1l : w.heap.size < W1.heap.size := kA1.lt
      have kB1l : w.heap.size + 1 < W1.heap.size := kB1.lt
      have kS1l : rs < W1.heap.size := kS1.lt
      clear HC
      go_upto_region 5 with (fail)
      -- impl.addWholes function, 5 region, c_addLimbs sum's contract, c_trimmed whole's contract, M left number, N right number, -1 sign, sa blocks' left number's sign, sg_diff HSA HSB hsd hK hl proof of the sign; world W, kS at rs, HR1/HR2 reads in W
      refine wp_region_cls [rs] (fun _ => false) (fun _ => True) (Blk rs #[.bool false, .slice none 0 0] 164) (by kernel_rfl) (kS1) ?_
      apply wpAnyF_hd ⟨W1, Over.refl _ _, kS1⟩ [true, true, true, true, true, true] 3 (Blk.closed _ _ _) (fun _ _ => trivial) (by kernel_rfl) (by kernel_rfl) (by kernel_rfl) (by kernel_rfl) (by simp)
      · intro E hE hEN hEn; (repeat (first | (refine wpHL_take ?_; go_big_quiet_step (fail); refine wpQuiet_nil ?_) | refine wpHL_skip ?_)); exact wpHL_end rfl
      refine wpAnyF_ready [6] 2 (by kernel_rfl) (by kernel_rfl) (by simp) (AllF.cons ?_ AllF.nil)
      refine stepC_calle (some 30) (fun u => fun w' => Blk rs #[.bool false, .slice none 0 0] 164 w' ∧ OwD ((M).natAbs + (-1) * (N).natAbs) (W1).heap.size u w') (by rfl) (by rfl) (by rfl) (fun _ => by go_simp) (fun u => (Blk.closed _ _ _).and (OwD.closed _ _ _)) (fun w' hO hD => (c_addLimbs (-1) (by omega) _ _ (dg (M).natAbs) (dg (N).natAbs) (by omega) (by omega) (dg_D _) (dg_D _) (by rw [dg_V, dg_V]; omega) _ (HR1.out.below0 (hO.belowGe (B := w.heap.size) hb2 hsz1 (by simp; omega))) (HR2.out.below0 (hO.belowGe (B := w.heap.size) hb2 hsz1 (by simp; omega)))).mono fun e w2 ⟨v, O, h1, h2, h3, h4, h5, h6⟩ => ⟨v, h1, .of_below h6, hD.next h6, O, h2.le hO.size, h3, by rw [h4, dg_V, dg_V], by omega⟩) (fun u hne => ?_)
      simp only [Act.put, List.setIfInBounds_toArray, List.set_cons_succ, List.set_cons_zero]
      refine wpAnyF_ready [7] 1 (by kernel_rfl) (by kernel_rfl) (by simp) (AllF.cons ?_ AllF.nil)
      refine stepC_calle (some 31) (fun u2 => fun w' => Blk rs #[.bool false, .slice none 0 0] 164 w' ∧ Wh (W1).heap.size K u2 w') (by rfl) (by rfl) (by rfl) (fun _ => by go_simp) (fun u2 => (Blk.closed _ _ _).and (Wh.closed _ _ _)) (fun w' hO ⟨hD1, O, h1, h2, h3, h4⟩ => (c_trimmed (sa) _ O (by omega) _ h1.rdL).mono fun e w2 h => let ⟨v, r1, r2, r3⟩ := h.whole (N := K) (sg_diff HSA HSB hsd hK hl).1 (tr_val h2 h3 (sg_diff HSA HSB hsd hK hl).2); ⟨v, r1, .of_below r3, hD1.next r3, r2.le hO.size⟩) (fun u2 hne => ?_)
      simp only [Act.put, List.setIfInBounds_toArray, List.set_cons_succ, List.set_cons_zero]
      obtain ⟨w9, _, _, lv9, rfl, ho9⟩ := id hne; obtain ⟨sl, scap, rfl, _⟩ := id ho9.1
      refine wpAnyF_ready [8] 0 (by kernel_rfl) (by kernel_rfl) (by simp) (AllF.cons ?_ AllF.nil)
      refine stepC_store (v := .agg #[.bool (decide (K < 0)), .slice sl (dg K.natAbs).length scap]) (rs) (#[.bool false, .slice none 0 0]) (fun w' => Blk rs #[.bool (decide (K < 0)), .slice sl (dg K.natAbs).length scap] 164 w' ∧ RdO w' (W1).heap.size (.slice sl (dg K.natAbs).length scap) (dg K.natAbs)) (by rfl) (by rfl) (by rfl) (by rfl) (by rfl) (by rfl) (fun _ => by go_simp) (by rfl) (by simp [Value.cells, one1]) (.inr (by simp)) (fun _ hd => hd.1) ((Blk.closed _ _ _).and (fun _ _ h hb => ⟨h.1.below hb, fun hn => (h.2 hn).below hb⟩)) (fun w1 w2 hd ho hb => ⟨hb, hd.2.rdO.over ho (by simp; omega)⟩) (fun hne => ?_)
      try simp only [Value.cells]
      refine wpAnyF_done (by kernel_rfl) (fun Wz hOz hDz => NoPanic.normal ?_) _
      try dsimp only
      have hbz : Below w.heap.size w Wz := hOz.belowGe (B := w.heap.size) hb2 hsz1 (by simp; omega)
      have q0 : Wz.cell? ⟨rs, 0, none⟩ = some (.bool (decide (K < 0))) := hDz.1.cell 0
      have q1 : Wz.cell? ⟨rs, 1, none⟩ = some (.slice sl (dg K.natAbs).length scap) := hDz.1.cell 1
      have hRz : RdO Wz w.heap.size (.slice sl (dg K.natAbs).length scap) (dg K.natAbs) := hDz.2.le hsz1
      clear hOz hDz hne ho9
      go_wp2
      refine bodyPost_ret (v := .agg #[.bool (decide (K < 0)), .slice sl (dg K.natAbs).length scap]) (by simp [results, Tryz.results178, go_sem, q0, q1]) rfl ?_
      exact ⟨_, rfl, ⟨_, rfl, hRz⟩, hbz⟩
end Go.Proofs.YtbcjlhbpgcjddaaGreatDoor
