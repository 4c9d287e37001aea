/- Plain: classes of curves: their size, their invariant, their trace, their number. -/
import Derived.Test.YtilgeeaobdebhaaClp
namespace Go.Proofs.Ytilgeeaobdebhaa
open Go.RowKit

theorem cls_cases {p : Int} (h : tabP p = true) : ∃ q m T J : Nat, p = (q : Int) ∧ 5 ≤ q ∧ q ≤ 31 ∧ clsAll q m (nrN q) T J = true := by
  obtain ⟨h5, h31, hp⟩ := tabP_of h
  obtain ⟨q, rfl⟩ := Int.eq_ofNat_of_zero_le (show 0 ≤ p by omega)
  have hn : ∀ m d T J, clsAll q m d T J = true → clsAll q m (nrN q) T J = true := fun m d T J hd => by
    have : nrN q = d := by unfold clsAll at hd; simp only [Bool.and_eq_true, beq_iff_eq] at hd; exact hd.1.1.1.1.1.1.1.1.2
    rw [this]; exact hd
  refine ⟨q, ?_⟩
  rcases p_list q (by omega) (primeN_of q hp (by omega)) (by omega) with rfl | rfl | rfl | rfl | rfl | rfl | rfl | rfl | rfl
  · exact ⟨_, _, _, rfl, by omega, by omega, hn _ _ _ _ cls5⟩
  · exact ⟨_, _, _, rfl, by omega, by omega, hn _ _ _ _ cls7⟩
  · exact ⟨_, _, _, rfl, by omega, by omega, hn _ _ _ _ cls11⟩
  · exact ⟨_, _, _, rfl, by omega, by omega, hn _ _ _ _ cls13⟩
  · exact ⟨_, _, _, rfl, by omega, by omega, hn _ _ _ _ cls17⟩
  · exact ⟨_, _, _, rfl, by omega, by omega, hn _ _ _ _ cls19⟩
  · exact ⟨_, _, _, rfl, by omega, by omega, hn _ _ _ _ cls23⟩
  · exact ⟨_, _, _, rfl, by omega, by omega, hn _ _ _ _ cls29⟩
  · exact ⟨_, _, _, rfl, by omega, by omega, hn _ _ _ _ cls31⟩
/-- what the kernel saw, taken apart -/
structure ClsF (q m T J : Nat) : Prop where
  chi : chiOk q m = true
  t : tOk q m T = true
  j : jOk q J = true
  c : clOk q T J = true
  w : twOk q (nrN q) J = true
  ja : jAll q J = true
  cc : ccOk q = true
  mu : mulOk q = true
  dd : dOk q = true
theorem clsF_of {q m T J : Nat} (h : clsAll q m (nrN q) T J = true) : ClsF q m T J := by
  unfold clsAll at h
  simp only [Bool.and_eq_true] at h
  obtain ⟨⟨⟨⟨⟨⟨⟨⟨⟨h1, _⟩, h3⟩, h4⟩, h5⟩, h6⟩, h7⟩, h8⟩, h9⟩, h10⟩ := h
  exact ⟨h1, h3, h4, h5, h6, h7, h8, h9, h10⟩
theorem all2 {q : Nat} {f : Nat → Nat → Bool} (h : ((List.range q).all fun a => (List.range q).all fun b => f a b) = true) {a b : Nat} (ha : a < q) (hb : b < q) : f a b = true :=
  List.all_eq_true.1 (List.all_eq_true.1 h a (by simpa using ha)) b (by simpa using hb)
set_option maxRecDepth 100000 in
theorem inv_nat {q a b : Nat} (hq : 2 ≤ q) : invV (q : Int) a b = (invN q a b : Nat) := by
  have e : ((q : Int) - 2).toNat = q - 2 := by omega
  have e2 : disc (a : Int) b = ((4 * a * a * a + 27 * b * b : Nat) : Int) := by unfold disc; push_cast; rfl
  have e3 : (6912 * (a : Int) * a * a % q) = ((6912 * a * a * a % q : Nat) : Int) := by push_cast; rfl
  unfold invV invM powM invN
  rw [e, e2, e3]
  generalize 4 * a * a * a + 27 * b * b = D
  generalize 6912 * a * a * a % q = E
  have e4 : ((D : Int) ^ (q - 2) % q) = ((D ^ (q - 2) % q : Nat) : Int) := by simp
  rw [e4]
  generalize D ^ (q - 2) % q = F
  simp
theorem scA_nat {q a i : Nat} : scA (q : Int) a ((i : Int) + 1) = (sxN q a (i + 1) : Nat) := by
  have e : (4 : Int).toNat = 4 := rfl
  unfold scA powM sxN
  rw [e]
  push_cast
  rfl
theorem scB_nat {q b i : Nat} : scB (q : Int) b ((i : Int) + 1) = (syN q b (i + 1) : Nat) := by
  have e : (6 : Int).toNat = 6 := rfl
  unfold scB powM syN
  rw [e]
  push_cast
  rfl
theorem cnt_dg {q m T J a b : Nat} (hF : ClsF q m T J) (hq : 5 ≤ q) (ha : a < q) (hb : b < q) : trV a b q = (q : Int) - dg6 T (a * q + b) := by
  have h1 : sN q m a b q = dg6 T (a * q + b) := by simpa using all2 hF.t ha hb
  rw [tr_sN hF.chi hq, h1]
theorem inv_dg {q m T J a b : Nat} (hF : ClsF q m T J) (hq : 5 ≤ q) (ha : a < q) (hb : b < q) (hok : okN q a b = true) : invV (q : Int) a b = (dg5 J (a * q + b) : Nat) := by
  have h1 := all2 hF.j ha hb
  rw [hok] at h1
  have h2 : invN q a b = dg5 J (a * q + b) := by simpa using h1
  rw [inv_nat (by omega), h2]
theorem sx_lt {q a u : Nat} (hq : 0 < q) : sxN q a u < q := Nat.mod_lt _ hq
theorem sy_lt {q a u : Nat} (hq : 0 < q) : syN q a u < q := Nat.mod_lt _ hq
/-- the curves of a class have its invariant and its trace -/
theorem cl_mem {p A B : Int} {d : Int × Int} (hp : tabP p = true) (hA : 0 ≤ A ∧ A ≤ p - 1) (hB : 0 ≤ B ∧ B ≤ p - 1) (hok : okC p A B = true) (h : d ∈ clS p A B) :
    d ∈ tabL p ∧ invV p d.1 d.2 = invV p A B ∧ trC p d = trV A B p := by
  obtain ⟨q, m, T, J, rfl, h5, h31, hall⟩ := cls_cases hp
  have hF := clsF_of hall
  obtain ⟨a, rfl⟩ := Int.eq_ofNat_of_zero_le hA.1
  obtain ⟨b, rfl⟩ := Int.eq_ofNat_of_zero_le hB.1
  have ha : a < q := by omega
  have hb : b < q := by omega
  rw [ok_nat] at hok
  obtain ⟨m1, m2⟩ := List.mem_filter.1 h
  unfold isSc at m2
  obtain ⟨i, hi, hs⟩ := List.any_eq_true.1 m2
  simp only [Bool.and_eq_true, beq_iff_eq, scA_nat, scB_nat] at hs
  have hi' : i < q - 1 := by simpa using hi
  refine ⟨m1, ?_⟩
  have hc := all2 hF.c ha hb
  rw [hok] at hc
  simp only [Bool.not_true, Bool.false_or] at hc
  have hci := List.all_eq_true.1 hc i (by simpa using hi')
  simp only [Bool.and_eq_true, beq_iff_eq] at hci
  obtain ⟨_, _, hokd⟩ := tabL_mem m1
  have e1 := hs.1.symm
  have e2 := hs.2.symm
  have hx := sx_lt (q := q) (a := a) (u := i + 1) (by omega)
  have hy := sy_lt (q := q) (a := b) (u := i + 1) (by omega)
  rw [e1, e2, ok_nat] at hokd
  unfold trC
  rw [e1, e2, cnt_dg hF h5 hx hy, cnt_dg hF h5 ha hb, inv_dg hF h5 hx hy hokd, inv_dg hF h5 ha hb hok, hci.1, hci.2]
  exact ⟨rfl, rfl⟩
theorem cl_self {p A B : Int} (hp : tabP p = true) (hA : 0 ≤ A ∧ A ≤ p - 1) (hB : 0 ≤ B ∧ B ≤ p - 1) (hok : okC p A B = true) : (A, B) ∈ clS p A B := by
  have h5 := tabP_of hp
  refine List.mem_filter.2 ⟨tabL_mk hA hB hok, ?_⟩
  unfold isSc
  refine List.any_eq_true.2 ⟨0, by simp; omega, ?_⟩
  have h1 := sc_one (p := p) (A := A) (B := B) (by omega) hA hB
  simp [h1.1, h1.2]
theorem tw_inv {p A B : Int} (hp : tabP p = true) (hA : 0 ≤ A ∧ A ≤ p - 1) (hB : 0 ≤ B ∧ B ≤ p - 1) (hok : okC p A B = true) : invV p (twA p A) (twB p B) = invV p A B := by
  have hk := (cv_facts hp hA hB hok).1
  obtain ⟨q, m, T, J, rfl, h5, h31, hall⟩ := cls_cases hp
  have hF := clsF_of hall
  obtain ⟨a, rfl⟩ := Int.eq_ofNat_of_zero_le hA.1
  obtain ⟨b, rfl⟩ := Int.eq_ofNat_of_zero_le hB.1
  have ha : a < q := by omega
  have hb : b < q := by omega
  rw [ok_nat] at hok
  have hc := all2 hF.w ha hb
  rw [hok] at hc
  simp only [Bool.not_true, Bool.false_or, beq_iff_eq] at hc
  have eA : twA (q : Int) a = ((a * nrN q * nrN q % q : Nat) : Int) := by unfold twA nr; simp
  have eB : twB (q : Int) b = ((b * nrN q * nrN q * nrN q % q : Nat) : Int) := by unfold twB nr; simp
  rw [eA, eB, ok_nat] at hk
  rw [eA, eB, inv_dg hF h5 (Nat.mod_lt _ (by omega)) (Nat.mod_lt _ (by omega)) hk, inv_dg hF h5 ha hb hok, hc]
theorem cwJ_pos {p j : Int} (h : cjB p j = true) : 0 < (cwJ p j).length := by
  unfold cwJ
  rw [if_pos h]
  unfold cjB at h
  simp only [Bool.and_eq_true] at h
  obtain ⟨hp, hj⟩ := h
  have hj' := inB_true hj
  obtain ⟨q, m, T, J, rfl, h5, h31, hall⟩ := cls_cases hp
  have hF := clsF_of hall
  obtain ⟨n, rfl⟩ := Int.eq_ofNat_of_zero_le hj'.1
  have h1 := List.all_eq_true.1 hF.ja n (by simp; omega)
  obtain ⟨a, ha, h2⟩ := List.any_eq_true.1 h1
  obtain ⟨b, hb, h3⟩ := List.any_eq_true.1 h2
  simp only [Bool.and_eq_true, beq_iff_eq] at h3
  have ha' : a < q := by simpa using ha
  have hb' : b < q := by simpa using hb
  refine List.length_pos_of_mem (a := ((a : Int), (b : Int))) (List.mem_filter.2 ⟨tabL_mk (by omega) (by omega) (by rw [ok_nat]; exact h3.1), ?_⟩)
  rw [inv_dg hF h5 ha' hb' h3.1, h3.2]
  simp
theorem with_inv {p j : Int} {c : Int × Int} (h : c ∈ cwJ p j) : tabB p c.1 c.2 = true ∧ invV p c.1 c.2 = j := by
  unfold cwJ at h
  split at h
  · rename_i hc
    unfold cjB at hc
    simp only [Bool.and_eq_true] at hc
    obtain ⟨m1, m2⟩ := List.mem_filter.1 h
    obtain ⟨a1, a2, a3⟩ := tabL_mem m1
    exact ⟨(cv_ok hc.1 a1 a2 a3).1, by simpa using m2⟩
  · simp at h
/-! the number of classes -/
theorem ltc_nat {x y a b : Nat} : ltc ((x : Int), (y : Int)) ((a : Int), (b : Int)) = (decide (x < a) || (x == a && decide (y < b))) := by
  unfold ltc
  have h1 : decide ((x : Int) < a) = decide (x < a) := by simp
  have h2 : decide ((y : Int) < b) = decide (y < b) := by simp
  have h3 : ((x : Int) == (a : Int)) = (x == a) := by
    by_cases h : x = a
    · subst h; rw [beq_self_eq_true, beq_self_eq_true]
    · rw [beq_eq_false_iff_ne.2 h, beq_eq_false_iff_ne.2 (show (x : Int) ≠ a by omega)]
  rw [h1, h2, h3]
theorem fir_nat {q a b : Nat} : firB (q : Int) a b = firN q a b := by
  unfold firB firTo firN
  have e : ((q : Int)).toNat - 1 = q - 1 := by simp
  rw [e]
  congr 1
  funext i
  unfold scAt
  rw [scA_nat, scB_nat, ltc_nat]
theorem tab_nat (q : Nat) : tabL (q : Int) = (List.range q).flatMap fun (a : Nat) => ((List.range q).filter (okN q a)).map fun (b : Nat) => ((a : Int), (b : Int)) := by
  unfold tabL tabTo rowTo
  have e : ((q : Int)).toNat = q := by simp
  rw [e]
  congr 1
  funext a
  congr 1
  congr 1
  funext b
  exact ok_nat
theorem cl_num {p : Int} (hp : tabP p = true) : clN p = 2 * p + (if p % 4 = 1 then 2 else 0) + (if p % 3 = 1 then 4 else 0) := by
  obtain ⟨q, m, T, J, rfl, h5, h31, hall⟩ := cls_cases hp
  have hF := clsF_of hall
  have hc : ccN q = 2 * q + (if q % 4 = 1 then 2 else 0) + (if q % 3 = 1 then 4 else 0) := by
    have := hF.cc
    unfold ccOk at this
    simpa using this
  have h1 : clN (q : Int) = (ccN q : Nat) := by
    unfold clN cnF
    rw [if_pos hp, tab_nat, List.filter_flatMap, List.length_flatMap]
    unfold ccN
    congr 2
    refine List.map_congr_left fun a _ => ?_
    rw [List.filter_map, List.length_map]
    congr 1
    refine List.filter_congr fun b _ => ?_
    show firB (q : Int) a b = firN q a b
    exact fir_nat
  rw [h1, hc]
  have e1 : ((q : Int) % 4 = 1) ↔ q % 4 = 1 := by omega
  have e2 : ((q : Int) % 3 = 1) ↔ q % 3 = 1 := by omega
  simp only [e1, e2]
  split <;> split <;> simp
end Go.Proofs.Ytilgeeaobdebhaa
