/- Plain: a class of curves and its automorphisms make p - 1. -/
import Derived.Test.YtilgeeaobdebhaaClq
namespace Go.Proofs.Ytilgeeaobdebhaa
open Go.RowKit

theorem mul_inj {q a x y : Nat} (hm : mulOk q = true) (ha : a < q) (h0 : a ≠ 0) (hx : x < q) (hy : y < q) (h : a * x % q = a * y % q) : x = y := by
  have h1 := List.all_eq_true.1 hm a (by simpa using ha)
  simp only [Bool.or_eq_true, beq_iff_eq, h0, false_or] at h1
  have h2 := all2 h1 hx hy
  simp only [Bool.or_eq_true, beq_iff_eq, bne_iff_ne, ne_eq, h, not_true, or_false] at h2
  exact h2
theorem dd_spec : ∀ (L acc : List Nat), acc.Nodup → (ddA L acc).Nodup ∧ ∀ j, j ∈ ddA L acc ↔ j ∈ L ∨ j ∈ acc
  | [], acc, h => ⟨h, fun j => by simp [ddA]⟩
  | x :: L, acc, h => by
    unfold ddA
    by_cases hx : x ∈ acc
    · rw [if_pos (by simpa using hx)]
      obtain ⟨h1, h2⟩ := dd_spec L acc h
      refine ⟨h1, fun j => ?_⟩
      rw [h2]
      constructor
      · rintro (h | h)
        · exact .inl (by simp [h])
        · exact .inr h
      · rintro (h | h)
        · rcases List.mem_cons.1 h with rfl | h
          · exact .inr hx
          · exact .inl h
        · exact .inr h
    · rw [if_neg (by simpa using hx)]
      obtain ⟨h1, h2⟩ := dd_spec L (x :: acc) (List.nodup_cons.2 ⟨hx, h⟩)
      refine ⟨h1, fun j => ?_⟩
      rw [h2]
      simp only [List.mem_cons]
      constructor
      · rintro (h | h | h)
        · exact .inl (.inr h)
        · exact .inl (.inl h)
        · exact .inr h
      · rintro ((h | h) | h)
        · exact .inr (.inl h)
        · exact .inl h
        · exact .inr (.inr h)
theorem map_nodupN {f : Nat → Int × Int} : ∀ (L : List Nat), L.Nodup → (∀ x ∈ L, ∀ y ∈ L, f x = f y → x = y) → (L.map f).Nodup
  | [], _, _ => by simp
  | x :: L, hn, hi => by
    have hn' := List.nodup_cons.1 hn
    rw [List.map_cons, List.nodup_cons]
    refine ⟨fun h => ?_, map_nodupN L hn'.2 (fun a ha b hb => hi a (by simp [ha]) b (by simp [hb]))⟩
    obtain ⟨y, hy, e⟩ := List.mem_map.1 h
    have := hi x (by simp) y (by simp [hy]) e.symm
    exact hn'.1 (this ▸ hy)
def sgn0 (a : Nat) : Nat := if a = 0 then 0 else 1
theorem sgn0_le (a : Nat) : sgn0 a ≤ 1 := by unfold sgn0; split <;> omega
theorem sgn0_mul (a x q : Nat) : a * (sgn0 a * x) % q = a * x % q := by
  unfold sgn0
  split
  · rename_i h; subst h; simp
  · simp
theorem sgn0_inj {q a x y : Nat} (hm : mulOk q = true) (ha : a < q) (hx : x < q) (hy : y < q) (h : a * x % q = a * y % q) : sgn0 a * x = sgn0 a * y := by
  unfold sgn0
  split
  · simp
  · rename_i h0; rw [mul_inj hm ha h0 hx hy h]
theorem sgn0_fix {q a x : Nat} (hm : mulOk q = true) (hq : 5 ≤ q) (ha : a < q) (hx : x < q) : (a * x % q == a) = (sgn0 a * x == sgn0 a) := by
  by_cases h0 : a = 0
  · subst h0; simp [sgn0]
  · have e1 : sgn0 a = 1 := by unfold sgn0; rw [if_neg h0]
    rw [e1, Nat.one_mul]
    by_cases h1 : x = 1
    · subst h1
      rw [Nat.mul_one, Nat.mod_eq_of_lt ha]; simp
    · have : ¬ (a * x % q = a) := fun e => h1 (mul_inj hm ha h0 hx (by omega) (by rw [e, Nat.mul_one, Nat.mod_eq_of_lt ha]))
      rw [beq_eq_false_iff_ne.2 this, beq_eq_false_iff_ne.2 h1]
def phiK (q a b k : Nat) : Int × Int := (((a * (k / q) % q : Nat) : Int), ((b * (k % q) % q : Nat) : Int))
theorem key_parts {q s t i : Nat} (hq : 5 ≤ q) (ht : t ≤ 1) : keyN q s t i / q = s * ((i + 1) ^ 4 % q) ∧ keyN q s t i % q = t * ((i + 1) ^ 6 % q) := by
  unfold keyN
  have h6 := Nat.mod_lt ((i + 1) ^ 6) (show 0 < q by omega)
  have hl : t * ((i + 1) ^ 6 % q) < q := by
    rcases Nat.le_one_iff_eq_zero_or_eq_one.1 ht with h | h
    · rw [h, Nat.zero_mul]; omega
    · rw [h, Nat.one_mul]; exact h6
  generalize t * ((i + 1) ^ 6 % q) = y at hl
  generalize s * ((i + 1) ^ 4 % q) = x
  constructor
  · rw [Nat.mul_comm x q, Nat.mul_add_div (by omega), Nat.div_eq_of_lt hl]; rfl
  · rw [Nat.mul_comm x q, Nat.mul_add_mod, Nat.mod_eq_of_lt hl]
theorem phi_key {q a b i : Nat} (hq : 5 ≤ q) : phiK q a b (keyN q (sgn0 a) (sgn0 b) i) = (((sxN q a (i + 1) : Nat) : Int), ((syN q b (i + 1) : Nat) : Int)) := by
  obtain ⟨h1, h2⟩ := key_parts (q := q) (s := sgn0 a) (t := sgn0 b) (i := i) hq (sgn0_le b)
  unfold phiK sxN syN
  rw [h1, h2, sgn0_mul, sgn0_mul]
/-- the size of a class -/
theorem cl_size {p A B : Int} (hp : tabP p = true) (hA : 0 ≤ A ∧ A ≤ p - 1) (hB : 0 ≤ B ∧ B ≤ p - 1) (hok : okC p A B = true) : ((clS p A B).length : Int) * autV p A B = p - 1 := by
  have hprime := (tabP_of hp).2.2
  have hbd : 5 ≤ p ∧ p ≤ 31 := ⟨(tabP_of hp).1, (tabP_of hp).2.1⟩
  have hsc := fun (u : Int) (hu : 1 ≤ u ∧ u ≤ p - 1) => sc_ok hprime hbd hu hok
  have hbs := fun (u : Int) => sc_bd p A B u (by omega)
  obtain ⟨q, m, T, J, rfl, h5, h31, hall⟩ := cls_cases hp
  have hF := clsF_of hall
  obtain ⟨a, rfl⟩ := Int.eq_ofNat_of_zero_le hA.1
  obtain ⟨b, rfl⟩ := Int.eq_ofNat_of_zero_le hB.1
  have ha : a < q := by omega
  have hb : b < q := by omega
  have h4 : ∀ i, (i + 1) ^ 4 % q < q := fun i => Nat.mod_lt _ (by omega)
  have h6 : ∀ i, (i + 1) ^ 6 % q < q := fun i => Nat.mod_lt _ (by omega)
  obtain ⟨dn, dm⟩ := dd_spec ((List.range (q - 1)).map (keyN q (sgn0 a) (sgn0 b))) [] List.nodup_nil
  have dm2 : ∀ k, k ∈ ddN q (sgn0 a) (sgn0 b) ↔ ∃ i, i < q - 1 ∧ keyN q (sgn0 a) (sgn0 b) i = k := fun k => by
    show k ∈ ddA _ [] ↔ _
    rw [dm]
    simp
  -- the class is the image
  have hlen : (clS (q : Int) a b).length = (ddN q (sgn0 a) (sgn0 b)).length := by
    have n1 : (clS (q : Int) a b).Nodup := (srt_nodup (tabL_srt _)).filter _
    have n2 : ((ddN q (sgn0 a) (sgn0 b)).map (phiK q a b)).Nodup := map_nodupN _ dn (fun x hx y hy e => by
      obtain ⟨i, hi, rfl⟩ := (dm2 x).1 hx
      obtain ⟨j, hj, rfl⟩ := (dm2 y).1 hy
      rw [phi_key h5, phi_key h5] at e
      simp only [Prod.mk.injEq] at e
      have e1 : a * ((i + 1) ^ 4 % q) % q = a * ((j + 1) ^ 4 % q) % q := by exact_mod_cast e.1
      have e2 : b * ((i + 1) ^ 6 % q) % q = b * ((j + 1) ^ 6 % q) % q := by exact_mod_cast e.2
      unfold keyN
      rw [sgn0_inj hF.mu ha (h4 i) (h4 j) e1, sgn0_inj hF.mu hb (h6 i) (h6 j) e2])
    have mem : ∀ d, d ∈ clS (q : Int) a b ↔ d ∈ (ddN q (sgn0 a) (sgn0 b)).map (phiK q a b) := fun d => by
      constructor
      · intro h
        obtain ⟨_, m2⟩ := List.mem_filter.1 h
        unfold isSc at m2
        obtain ⟨i, hi, hs⟩ := List.any_eq_true.1 m2
        simp only [Bool.and_eq_true, beq_iff_eq, scA_nat, scB_nat] at hs
        refine List.mem_map.2 ⟨_, (dm2 _).2 ⟨i, by simpa using hi, rfl⟩, ?_⟩
        rw [phi_key h5]
        exact Prod.ext hs.1 hs.2
      · intro h
        obtain ⟨k, hk, rfl⟩ := List.mem_map.1 h
        obtain ⟨i, hi, rfl⟩ := (dm2 k).1 hk
        rw [phi_key h5]
        have hu := hsc ((i : Int) + 1) ⟨by omega, by omega⟩
        have hbu := hbs ((i : Int) + 1)
        rw [scA_nat, scB_nat] at hu hbu
        refine List.mem_filter.2 ⟨tabL_mk hbu.1 hbu.2 hu, ?_⟩
        unfold isSc
        refine List.any_eq_true.2 ⟨i, by simpa using hi, ?_⟩
        rw [scA_nat, scB_nat]
        simp
    have l1 := len_le _ _ n1 (fun d h => (mem d).1 h)
    have l2 := len_le _ _ n2 (fun d h => (mem d).2 h)
    rw [List.length_map] at l1 l2
    omega
  have haut : autV (q : Int) a b = (autN q (sgn0 a) (sgn0 b) : Nat) := by
    unfold autV autTo autN
    have e : ((q : Int)).toNat - 1 = q - 1 := by simp
    rw [e]
    congr 2
    refine List.filter_congr fun i _ => ?_
    unfold autAt
    rw [scA_nat, scB_nat]
    have c1 : (((sxN q a (i + 1) : Nat) : Int) == (a : Int)) = (sxN q a (i + 1) == a) := by
      by_cases h : sxN q a (i + 1) = a
      · rw [h, beq_self_eq_true, beq_self_eq_true]
      · rw [beq_eq_false_iff_ne.2 h, beq_eq_false_iff_ne.2 (fun e => h (by exact_mod_cast e))]
    have c2 : (((syN q b (i + 1) : Nat) : Int) == (b : Int)) = (syN q b (i + 1) == b) := by
      by_cases h : syN q b (i + 1) = b
      · rw [h, beq_self_eq_true, beq_self_eq_true]
      · rw [beq_eq_false_iff_ne.2 h, beq_eq_false_iff_ne.2 (fun e => h (by exact_mod_cast e))]
    rw [c1, c2]
    unfold sxN syN
    rw [sgn0_fix hF.mu h5 ha (h4 i), sgn0_fix hF.mu h5 hb (h6 i)]
  rw [hlen, haut]
  have hd := hF.dd
  unfold dOk at hd
  simp only [Bool.and_eq_true, beq_iff_eq] at hd
  have hz : ¬ (a = 0 ∧ b = 0) := by
    rintro ⟨rfl, rfl⟩
    rw [ok_nat] at hok
    simp [okN] at hok
  have hfin : (ddN q (sgn0 a) (sgn0 b)).length * autN q (sgn0 a) (sgn0 b) = q - 1 := by
    unfold sgn0
    by_cases h1 : a = 0
    · have h2 : b ≠ 0 := fun h => hz ⟨h1, h⟩
      rw [if_pos h1, if_neg h2]; exact hd.2
    · rw [if_neg h1]
      by_cases h2 : b = 0
      · rw [if_pos h2]; exact hd.1.2
      · rw [if_neg h2]; exact hd.1.1
  have : (((ddN q (sgn0 a) (sgn0 b)).length * autN q (sgn0 a) (sgn0 b) : Nat) : Int) = ((q - 1 : Nat) : Int) := by rw [hfin]
  push_cast at this
  rw [this]
  omega
end Go.Proofs.Ytilgeeaobdebhaa
