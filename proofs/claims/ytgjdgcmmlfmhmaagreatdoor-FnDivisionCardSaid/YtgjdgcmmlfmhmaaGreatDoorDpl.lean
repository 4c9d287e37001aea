/- Plain: division values are polynomials; how many roots they have; orders divide. -/
import Derived.Test.YtgjdgcmmlfmhmaaGreatDoorPoly
import Derived.Test.YtgjdgcmmlfmhmaaGreatDoorDvPlain
namespace Go.Proofs.YtgjdgcmmlfmhmaaGreatDoor

def degN (n : Nat) : Nat := if n % 2 = 1 then (n * n - 1) / 2 else (n * n - 4) / 2
def ledN (n : Nat) : Int := if n % 2 = 1 then n else (n / 2 : Nat)
def degOk (k : Nat) : Bool :=
  if k % 2 = 0 then
    (degN (k / 2) + (degN (k / 2 + 2) + (degN (k / 2 - 1) + degN (k / 2 - 1))) == degN k) && (degN (k / 2 - 2) + (degN (k / 2 + 1) + degN (k / 2 + 1)) == degN (k / 2 + 2) + (degN (k / 2 - 1) + degN (k / 2 - 1))) &&
      (ledN (k / 2) * (ledN (k / 2 + 2) * (ledN (k / 2 - 1) * ledN (k / 2 - 1)) - ledN (k / 2 - 2) * (ledN (k / 2 + 1) * ledN (k / 2 + 1))) == ledN k)
  else if k / 2 % 2 = 0 then
    (degN (k / 2 + 2) + (degN (k / 2) + degN (k / 2) + degN (k / 2)) + 6 == degN k) && (degN (k / 2 - 1) + (degN (k / 2 + 1) + degN (k / 2 + 1) + degN (k / 2 + 1)) == degN k) &&
      (ledN (k / 2 + 2) * (ledN (k / 2) * ledN (k / 2) * ledN (k / 2)) * 16 - ledN (k / 2 - 1) * (ledN (k / 2 + 1) * ledN (k / 2 + 1) * ledN (k / 2 + 1)) == ledN k)
  else
    (degN (k / 2 + 2) + (degN (k / 2) + degN (k / 2) + degN (k / 2)) == degN k) && (degN (k / 2 - 1) + (degN (k / 2 + 1) + degN (k / 2 + 1) + degN (k / 2 + 1)) + 6 == degN k) &&
      (ledN (k / 2 + 2) * (ledN (k / 2) * ledN (k / 2) * ledN (k / 2)) - ledN (k / 2 - 1) * (ledN (k / 2 + 1) * ledN (k / 2 + 1) * ledN (k / 2 + 1)) * 16 == ledN k)
theorem deg_all : ((List.range 42).all fun k => decide (k < 5) || degOk k) = true := by decide +kernel
theorem PolyT.cast {d d' : Nat} {c c' : Int} {f : Int → Int} (h : PolyT d c f) (hd : d = d') (hc : c = c') : PolyT d' c' f := by subst hd; subst hc; exact h
theorem poly_F (A B : Int) : PolyT 3 1 (dvF A B) :=
  .step 2 1 B _ (fun x => A + x * x) (.step 1 1 A _ (fun x => x) .x fun x => rfl) fun x => by unfold dvF; grind
theorem poly_G (A B : Int) : PolyT 6 16 (fun x => 16 * dvF A B x * dvF A B x) := ((((poly_F A B).smul 16).mul (poly_F A B)).cast rfl rfl).ext fun _ => rfl
theorem poly_T (A B : Int) : PolyT 4 3 (dvT A B) :=
  .step 3 3 (-(A * A)) _ (fun x => 12 * B + x * (6 * A + x * (0 + x * 3)))
    (.step 2 3 (12 * B) _ (fun x => 6 * A + x * (0 + x * 3)) (.step 1 3 (6 * A) _ (fun x => 0 + x * 3) (.step 0 3 0 _ (fun _ => 3) (.k 3) fun x => rfl) fun x => rfl) fun x => rfl) fun x => by unfold dvT; grind
theorem poly_Q (A B : Int) : PolyT 6 2 (dvQ A B) :=
  .step 5 2 (-16 * B * B - 2 * A * A * A) _ (fun x => -8 * A * B + x * (-10 * A * A + x * (40 * B + x * (10 * A + x * (0 + x * 2)))))
    (.step 4 2 _ _ (fun x => -10 * A * A + x * (40 * B + x * (10 * A + x * (0 + x * 2))))
      (.step 3 2 _ _ (fun x => 40 * B + x * (10 * A + x * (0 + x * 2))) (.step 2 2 _ _ (fun x => 10 * A + x * (0 + x * 2)) (.step 1 2 _ _ (fun x => 0 + x * 2) (.step 0 2 0 _ (fun _ => 2) (.k 2) fun x => rfl) fun x => rfl) fun x => rfl) fun x => rfl) fun x => rfl)
    fun x => by unfold dvQ; grind
theorem dvE_rec (A B p x : Int) (k : Nat) (hk : 5 ≤ k) : dvE A B p x k = dvN p (dvG A B x p) (dvL A B p x (k - 5)) k := by
  unfold dvE
  rw [show k - 4 = (k - 5) + 1 by omega, dvL]
  unfold eat
  rw [List.getElem?_append_right (by rw [dvL_len]; omega), dvL_len, show k - (5 + (k - 5)) = 0 by omega, show 5 + (k - 5) = k by omega]
  rfl
theorem eat_lt (A B p x : Int) {k i : Nat} (hk : 5 ≤ k) (hi : i < k) : eat (dvL A B p x (k - 5)) i = dvE A B p x i := dvE_of A B p x (k - 5) i (by omega)
/-- the value of number n is a polynomial's -/
def IsPoly (A B p : Int) (n : Nat) : Prop := ∃ F, PolyT (degN n) (ledN n) F ∧ ∀ x, dvE A B p x n = F x % p
theorem dv_poly (A B p : Int) (hp : 5 ≤ p) (n : Nat) : 1 ≤ n → n ≤ 41 → IsPoly A B p n := by
  induction n using Nat.strongRecOn with
  | ind k ih =>
    intro h1 h41
    rcases Nat.lt_or_ge k 5 with hk | hk
    · rcases (show k = 1 ∨ k = 2 ∨ k = 3 ∨ k = 4 by omega) with rfl | rfl | rfl | rfl
      · exact ⟨fun _ => 1, (PolyT.k 1).cast rfl rfl, fun x => by show (1 : Int) = 1 % p; rw [Int.emod_eq_of_lt (by omega) (by omega)]⟩
      · exact ⟨fun _ => 1, (PolyT.k 1).cast rfl rfl, fun x => by show (1 : Int) = 1 % p; rw [Int.emod_eq_of_lt (by omega) (by omega)]⟩
      · exact ⟨dvT A B, (poly_T A B).cast rfl rfl, fun x => rfl⟩
      · exact ⟨dvQ A B, (poly_Q A B).cast rfl rfl, fun x => rfl⟩
    · have hok := List.all_eq_true.1 deg_all k (by simp; omega)
      have hk5 : ¬ k < 5 := by omega
      simp only [hk5, decide_false, Bool.false_or] at hok
      have hG : ∀ x, Cg p (dvG A B x p) (16 * dvF A B x * dvF A B x) := fun x => Cg.mod p _
      have cgo : ∀ {e f : Int}, e = f % p → Cg p e f := fun {e f} h => by rw [h]; exact Cg.mod p f
      unfold degOk at hok
      by_cases h2 : k % 2 = 0
      · rw [if_pos h2] at hok
        simp only [Bool.and_eq_true, beq_iff_eq] at hok
        obtain ⟨⟨q1, q2⟩, q3⟩ := hok
        obtain ⟨Fa, ta, ea⟩ := ih (k / 2) (by omega) (by omega) (by omega)
        obtain ⟨Fb, tb, eb⟩ := ih (k / 2 + 2) (by omega) (by omega) (by omega)
        obtain ⟨Fc, tc, ec⟩ := ih (k / 2 - 1) (by omega) (by omega) (by omega)
        obtain ⟨Fd, td, ed⟩ := ih (k / 2 - 2) (by omega) (by omega) (by omega)
        obtain ⟨Fe, te, ee⟩ := ih (k / 2 + 1) (by omega) (by omega) (by omega)
        refine ⟨fun x => Fa x * (Fb x * (Fc x * Fc x) - Fd x * (Fe x * Fe x)), (ta.mul ((tb.mul (tc.mul tc)).sub ((td.mul (te.mul te)).cast q2 rfl))).cast q1 q3, fun x => ?_⟩
        rw [dvE_rec A B p x k hk]
        unfold dvN
        rw [if_pos h2, eat_lt A B p x hk (by omega), eat_lt A B p x hk (by omega), eat_lt A B p x hk (by omega), eat_lt A B p x hk (by omega), eat_lt A B p x hk (by omega)]
        exact Cg.mul (cgo (ea x)) (Cg.sub (Cg.mul (cgo (eb x)) (Cg.mul (cgo (ec x)) (cgo (ec x)))) (Cg.mul (cgo (ed x)) (Cg.mul (cgo (ee x)) (cgo (ee x)))))
      · rw [if_neg h2] at hok
        obtain ⟨Fa, ta, ea⟩ := ih (k / 2) (by omega) (by omega) (by omega)
        obtain ⟨Fb, tb, eb⟩ := ih (k / 2 + 2) (by omega) (by omega) (by omega)
        obtain ⟨Fc, tc, ec⟩ := ih (k / 2 - 1) (by omega) (by omega) (by omega)
        obtain ⟨Fe, te, ee⟩ := ih (k / 2 + 1) (by omega) (by omega) (by omega)
        by_cases h4 : k / 2 % 2 = 0
        · rw [if_pos h4] at hok
          simp only [Bool.and_eq_true, beq_iff_eq] at hok
          obtain ⟨⟨q1, q2⟩, q3⟩ := hok
          refine ⟨fun x => Fb x * (Fa x * Fa x * Fa x) * (16 * dvF A B x * dvF A B x) - Fc x * (Fe x * Fe x * Fe x), (((tb.mul ((ta.mul ta).mul ta)).mul (poly_G A B)).sub ((tc.mul ((te.mul te).mul te)).cast (q2.trans q1.symm) rfl)).cast q1 q3, fun x => ?_⟩
          rw [dvE_rec A B p x k hk]
          unfold dvN
          rw [if_neg h2, if_pos h4, eat_lt A B p x hk (by omega), eat_lt A B p x hk (by omega), eat_lt A B p x hk (by omega), eat_lt A B p x hk (by omega)]
          exact Cg.sub (Cg.mul (Cg.mul (cgo (eb x)) (Cg.mul (Cg.mul (cgo (ea x)) (cgo (ea x))) (cgo (ea x)))) (hG x)) (Cg.mul (cgo (ec x)) (Cg.mul (Cg.mul (cgo (ee x)) (cgo (ee x))) (cgo (ee x))))
        · rw [if_neg h4] at hok
          simp only [Bool.and_eq_true, beq_iff_eq] at hok
          obtain ⟨⟨q1, q2⟩, q3⟩ := hok
          refine ⟨fun x => Fb x * (Fa x * Fa x * Fa x) - Fc x * (Fe x * Fe x * Fe x) * (16 * dvF A B x * dvF A B x), ((tb.mul ((ta.mul ta).mul ta)).sub (((tc.mul ((te.mul te).mul te)).mul (poly_G A B)).cast (q2.trans q1.symm) rfl)).cast q1 q3, fun x => ?_⟩
          rw [dvE_rec A B p x k hk]
          unfold dvN
          rw [if_neg h2, if_neg h4, eat_lt A B p x hk (by omega), eat_lt A B p x hk (by omega), eat_lt A B p x hk (by omega), eat_lt A B p x hk (by omega)]
          exact Cg.sub (Cg.mul (cgo (eb x)) (Cg.mul (Cg.mul (cgo (ea x)) (cgo (ea x))) (cgo (ea x)))) (Cg.mul (Cg.mul (cgo (ec x)) (Cg.mul (Cg.mul (cgo (ee x)) (cgo (ee x))) (cgo (ee x)))) (hG x))
/-- an even value has the value of half its number as a factor -/
theorem dv_twice (A B p x : Int) {n : Nat} (h1 : 3 ≤ n) (h : dvE A B p x n = 0) : dvE A B p x (2 * n) = 0 := by
  rw [dvE_rec A B p x (2 * n) (by omega)]
  unfold dvN
  rw [if_pos (by omega), eat_lt A B p x (i := 2 * n / 2) (by omega) (by omega), show 2 * n / 2 = n by omega, h]
  simp
theorem dv_roots {A B p : Int} (hp : 5 ≤ p) (hd : NoDiv p) {n : Nat} (h1 : 1 ≤ n) (h40 : n ≤ 40) (hn : (n : Int) % p ≠ 0) (L : List Int) (hL : L.Nodup) (hr : ∀ x ∈ L, (0 ≤ x ∧ x < p) ∧ dvE A B p x n = 0) : L.length ≤ degN n := by
  obtain ⟨F, hF, he⟩ := dv_poly A B p hp n h1 (by omega)
  refine hF.roots (p := p) (by omega) hd ?_ L hL (fun x hx => ⟨(hr x hx).1, by rw [← he x]; exact (hr x hx).2⟩)
  unfold ledN
  split
  · exact hn
  · intro h2
    apply hn
    have h3 : (n : Int) = 2 * ((n / 2 : Nat) : Int) := by omega
    rw [h3, Int.mul_emod, h2]
    simp
end Go.Proofs.YtgjdgcmmlfmhmaaGreatDoor
