/- Plain: polynomials as functions, their degrees and leading coefficients; how many roots they have modulo a prime. -/
import Derived.Test.YtgjdgcmmlfmhmaaGreatDoorPlain
namespace Go.Proofs.YtgjdgcmmlfmhmaaGreatDoor

/-- f is a polynomial of degree d at most; c stands at x^d -/
inductive PolyT : Nat → Int → (Int → Int) → Prop
  | const (c : Int) (f : Int → Int) (h : ∀ x, f x = c) : PolyT 0 c f
  | step (d : Nat) (c a : Int) (f g : Int → Int) (hg : PolyT d c g) (h : ∀ x, f x = a + x * g x) : PolyT (d + 1) c f
theorem PolyT.ext {d : Nat} {c : Int} {f f' : Int → Int} (hf : PolyT d c f) (h : ∀ x, f' x = f x) : PolyT d c f' := by
  cases hf with
  | const c f h0 => exact .const c f' fun x => (h x).trans (h0 x)
  | step d c a f g hg h0 => exact .step d c a f' g hg fun x => (h x).trans (h0 x)
theorem PolyT.add : ∀ {d : Nat} {c c' : Int} {f g : Int → Int}, PolyT d c f → PolyT d c' g → PolyT d (c + c') (fun x => f x + g x)
  | 0, _, _, _, _, .const _ _ h, .const _ _ h' => .const _ _ fun x => by rw [h, h']
  | d + 1, _, _, _, _, .step _ _ a _ u hu h, .step _ _ a' _ v hv h' => .step d _ (a + a') _ _ (hu.add hv) fun x => by rw [h, h', Int.mul_add]; omega
theorem PolyT.smul (k : Int) : ∀ {d : Nat} {c : Int} {f : Int → Int}, PolyT d c f → PolyT d (k * c) (fun x => k * f x)
  | 0, _, _, .const _ _ h => .const _ _ fun x => by rw [h]
  | d + 1, _, _, .step _ _ a _ u hu h => .step d _ (k * a) _ _ (hu.smul k) fun x => by rw [h]; grind
theorem PolyT.sub {d : Nat} {c c' : Int} {f g : Int → Int} (hf : PolyT d c f) (hg : PolyT d c' g) : PolyT d (c - c') (fun x => f x - g x) := by
  have h := hf.add (hg.smul (-1))
  have e : c + -1 * c' = c - c' := by omega
  rw [e] at h
  exact h.ext fun x => by omega
theorem PolyT.up : ∀ {d : Nat} {c : Int} {f : Int → Int}, PolyT d c f → PolyT (d + 1) 0 f
  | 0, _, _, .const c _ h => .step 0 0 c _ (fun _ => 0) (.const 0 _ fun _ => rfl) fun x => by rw [h]; omega
  | d + 1, _, _, .step _ _ a _ u hu h => .step (d + 1) 0 a _ u hu.up h
theorem PolyT.ups {d : Nat} {c : Int} {f : Int → Int} (hf : PolyT d c f) : ∀ k, PolyT (d + k + 1) 0 f
  | 0 => hf.up
  | k + 1 => (hf.ups k).up
theorem PolyT.upTo {d e : Nat} {c : Int} {f : Int → Int} (hf : PolyT d c f) (h : d < e) : PolyT e 0 f := by
  have := hf.ups (e - d - 1)
  rwa [show d + (e - d - 1) + 1 = e by omega] at this
theorem PolyT.mul : ∀ {d e : Nat} {c c' : Int} {f g : Int → Int}, PolyT d c f → PolyT e c' g → PolyT (d + e) (c * c') (fun x => f x * g x)
  | 0, e, _, _, _, g, .const c _ h, hg => by
    have := hg.smul c
    rw [Nat.zero_add]
    exact this.ext fun x => by rw [h]
  | d + 1, e, c, c', _, g, .step _ _ a _ u hu h, hg => by
    have h1 : PolyT (d + e + 1) 0 (fun x => a * g x) := (hg.smul a).upTo (by omega)
    have h2 : PolyT (d + e + 1) (c * c') (fun x => 0 + x * (u x * g x)) := .step (d + e) _ 0 _ _ (hu.mul hg) fun x => rfl
    have h3 := h1.add h2
    rw [show d + 1 + e = d + e + 1 by omega]
    rw [Int.zero_add] at h3
    exact h3.ext fun x => by rw [h]; grind
theorem PolyT.x : PolyT 1 1 (fun x => x) := .step 0 1 0 _ (fun _ => 1) (.const 1 _ fun _ => rfl) fun x => by omega
theorem PolyT.k (c : Int) : PolyT 0 c (fun _ => c) := .const c _ fun _ => rfl
/-- a root parts off -/
theorem PolyT.div : ∀ {d : Nat} {c : Int} {f : Int → Int}, PolyT (d + 1) c f → ∀ r : Int, ∃ q, PolyT d c q ∧ ∀ x, f x - f r = (x - r) * q x
  | 0, c, f, .step _ _ a _ u (.const _ _ hu) h, r => ⟨fun _ => c, .k c, fun x => by rw [h, h, hu, hu]; grind⟩
  | d + 1, c, f, .step _ _ a _ u hu h, r => by
    obtain ⟨q, hq, he⟩ := hu.div r
    refine ⟨fun x => u x + r * q x, ?_, fun x => ?_⟩
    · have := hu.add (hq.smul r).up
      rw [Int.add_zero] at this
      exact this
    · have := he x
      rw [h, h]
      grind
theorem prime_coprime {p : Nat} (hp : 2 ≤ p) (hd : NoDiv (p : Int)) {a : Nat} (ha : ¬ p ∣ a) : Nat.Coprime p a := by
  have hg : Nat.gcd p a ∣ p := Nat.gcd_dvd_left p a
  have hga : Nat.gcd p a ∣ a := Nat.gcd_dvd_right p a
  obtain ⟨k, hk⟩ := hg
  generalize hgg : Nat.gcd p a = g at hk hga
  show Nat.gcd p a = 1
  rw [hgg]
  by_cases h1 : g = 1
  · exact h1
  exfalso
  have g0 : g ≠ 0 := by rintro rfl; omega
  have k0 : k ≠ 0 := by rintro rfl; omega
  by_cases hk1 : k = 1
  · subst hk1
    rw [Nat.mul_one] at hk
    exact ha (hk ▸ hga)
  rcases Nat.le_total g k with hle | hle
  · have h2 : ((g : Int) * g) ≤ p := by
      have : g * g ≤ g * k := Nat.mul_le_mul_left g hle
      have : g * g ≤ p := by omega
      exact_mod_cast this
    refine hd g (by omega) h2 ?_
    have : p % g = 0 := by rw [hk]; exact Nat.mul_mod_right g k
    exact_mod_cast this
  · have h2 : ((k : Int) * k) ≤ p := by
      have : k * k ≤ g * k := Nat.mul_le_mul_right k hle
      have : k * k ≤ p := by omega
      exact_mod_cast this
    refine hd k (by omega) h2 ?_
    have : p % k = 0 := by rw [hk]; exact Nat.mul_mod_left g k
    exact_mod_cast this
theorem prime_mul {p : Int} (hp : 2 ≤ p) (hd : NoDiv p) {a b : Int} (h : a * b % p = 0) : a % p = 0 ∨ b % p = 0 := by
  obtain ⟨q, rfl⟩ := Int.eq_ofNat_of_zero_le (show 0 ≤ p by omega)
  have h1 : (q : Int) ∣ a * b := Int.dvd_of_emod_eq_zero h
  by_cases ha : q ∣ a.natAbs
  · left
    exact Int.emod_eq_zero_of_dvd (Int.ofNat_dvd_left.2 ha)
  · right
    have hc := prime_coprime (by omega) hd ha
    have h2 : q ∣ a.natAbs * b.natAbs := by
      rw [← Int.natAbs_mul]
      exact Int.ofNat_dvd_left.1 h1
    exact Int.emod_eq_zero_of_dvd (Int.ofNat_dvd_left.2 (hc.dvd_of_dvd_mul_left h2))
/-- a polynomial whose leading coefficient is not 0 modulo p has at most as many roots as its degree says -/
theorem PolyT.roots {p : Int} (hp : 2 ≤ p) (hd : NoDiv p) : ∀ {d : Nat} {c : Int} {f : Int → Int}, PolyT d c f → c % p ≠ 0 → ∀ L : List Int, L.Nodup → (∀ x ∈ L, (0 ≤ x ∧ x < p) ∧ f x % p = 0) → L.length ≤ d
  | _, _, _, _, _, [], _, _ => Nat.zero_le _
  | 0, c, f, .const _ _ h, hc, r :: L, _, hL => by
    have := (hL r (by simp)).2
    rw [h] at this
    exact absurd this hc
  | d + 1, c, f, hf, hc, r :: L, hn, hL => by
    obtain ⟨q, hq, he⟩ := hf.div r
    have hn' := List.nodup_cons.1 hn
    have hr := hL r (by simp)
    have := hq.roots hp hd hc L hn'.2 (fun x hx => by
      have hx' := hL x (by simp [hx])
      refine ⟨hx'.1, ?_⟩
      have h1 : (x - r) * q x % p = 0 := by
        rw [← he x, Int.sub_emod, hx'.2, hr.2]; rfl
      rcases prime_mul hp hd h1 with h2 | h2
      · exfalso
        have hne : x ≠ r := fun e => hn'.1 (e ▸ hx)
        have h3 : x % p = r % p := by
          have := Int.emod_emod_of_dvd (x - r) (Int.dvd_refl p)
          have h4 : p ∣ x - r := Int.dvd_of_emod_eq_zero h2
          exact Int.emod_eq_emod_iff_emod_sub_eq_zero.2 h2
        rw [Int.emod_eq_of_lt hx'.1.1 hx'.1.2, Int.emod_eq_of_lt hr.1.1 hr.1.2] at h3
        exact hne h3
      · exact h2)
    simp only [List.length_cons]
    omega
end Go.Proofs.YtgjdgcmmlfmhmaaGreatDoor
