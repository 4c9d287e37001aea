/- Plain: sorted lists of curves without repetition, classes of a table. -/
import Derived.Test.YtilgeeaobdebhaaTabPlain
import Derived.Test.YtilgeeaobdebhaaAut
import Derived.Test.YtilgeeaobdebhaaCmp
namespace Go.Proofs.Ytilgeeaobdebhaa
open Go.RowKit Go.Sort

def ltP (x y : Int × Int) : Prop := x.1 < y.1 ∨ (x.1 = y.1 ∧ x.2 < y.2)
theorem ltP.irr (x : Int × Int) : ¬ ltP x x := by unfold ltP; omega
theorem ltP.trans {x y z : Int × Int} (h : ltP x y) (k : ltP y z) : ltP x z := by unfold ltP at *; omega
theorem ltP.asymm {x y : Int × Int} (h : ltP x y) : ¬ ltP y x := by unfold ltP at *; omega
theorem ltP.tri {x y : Int × Int} (h : ¬ ltP x y) (k : ¬ ltP y x) : x = y := by
  unfold ltP at *
  apply Prod.ext <;> omega
abbrev Srt (L : List (Int × Int)) : Prop := L.Pairwise ltP
theorem srt_ext : ∀ {L M : List (Int × Int)}, Srt L → Srt M → (∀ c, c ∈ L ↔ c ∈ M) → L = M
  | [], [], _, _, _ => rfl
  | [], b :: M, _, _, h => by have := (h b).2 (by simp); simp at this
  | a :: L, [], _, _, h => by have := (h a).1 (by simp); simp at this
  | a :: L, b :: M, h1, h2, h => by
    rw [Srt, List.pairwise_cons] at h1 h2
    have hab : a = b := by
      have ha := (h a).1 (by simp)
      have hb := (h b).2 (by simp)
      rcases List.mem_cons.1 ha with e | ha
      · exact e
      · rcases List.mem_cons.1 hb with e | hb
        · exact e.symm
        · exact absurd (h2.1 a ha) (h1.1 b hb).asymm
    subst hab
    rw [srt_ext h1.2 h2.2 (fun c => ⟨fun hc => by
      rcases List.mem_cons.1 ((h c).1 (by simp [hc])) with e | e
      · subst e; exact absurd (h1.1 c hc) (ltP.irr c)
      · exact e, fun hc => by
      rcases List.mem_cons.1 ((h c).2 (by simp [hc])) with e | e
      · subst e; exact absurd (h2.1 c hc) (ltP.irr c)
      · exact e⟩)]
/-- the sort -/
def leB (x y : Int × Int) : Bool := !(Go.Proofs.ltOf cmpC) y x
theorem leB_iff {x y : Int × Int} : leB x y = true ↔ ¬ ltP y x := by
  unfold leB Go.Proofs.ltOf ltP
  simp only [Bool.not_eq_true', decide_eq_false_iff_not]
  rw [cmpC_lt]
noncomputable def stS (L : List (Int × Int)) : List (Int × Int) := L.mergeSort fun x y => !(Go.Proofs.ltOf cmpC) y x
theorem stS_srt (L : List (Int × Int)) : (stS L).Pairwise (fun x y => ¬ ltP y x) := by
  have h := List.pairwise_mergeSort (le := leB) (fun a b c h k => by rw [leB_iff] at *; unfold ltP at *; omega) (fun a b => by
    have : leB a b = true ∨ leB b a = true := by
      rw [leB_iff, leB_iff]; unfold ltP; omega
    simpa using this) L
  exact h.imp fun h => leB_iff.1 h
theorem stS_mem (L : List (Int × Int)) (c : Int × Int) : c ∈ stS L ↔ c ∈ L := List.mem_mergeSort
theorem stS_len (L : List (Int × Int)) : (stS L).length = L.length := List.length_mergeSort L
/-- repetitions left out: the first k elements -/
abbrev at3 (L : List (Int × Int)) (i : Nat) : Int × Int := L[i]?.getD (0, 0)
def cpTo (L : List (Int × Int)) : Nat → List (Int × Int)
  | 0 => []
  | k + 1 => if k = 0 ∨ at3 L k ≠ at3 L (k - 1) then cpTo L k ++ [at3 L k] else cpTo L k
theorem cpTo_len (L : List (Int × Int)) : ∀ k, (cpTo L k).length ≤ k
  | 0 => Nat.le_refl _
  | k + 1 => by
    have := cpTo_len L k
    unfold cpTo
    split <;> simp <;> omega
theorem cpTo_pos (L : List (Int × Int)) : ∀ k, 1 ≤ k → 1 ≤ (cpTo L k).length
  | 1, _ => by simp [cpTo]
  | k + 2, _ => by
    have := cpTo_pos L (k + 1) (by omega)
    rw [cpTo]
    split <;> simp <;> omega
theorem cpTo_srt (L : List (Int × Int)) (h : L.Pairwise (fun x y => ¬ ltP y x)) : ∀ k, k ≤ L.length → Srt (cpTo L k) ∧ (∀ c, c ∈ cpTo L k ↔ c ∈ L.take k) ∧ (∀ c ∈ cpTo L k, c = at3 L (k - 1) ∨ ltP c (at3 L (k - 1)))
  | 0, _ => ⟨List.Pairwise.nil, fun c => by simp [cpTo], fun c hc => by simp [cpTo] at hc⟩
  | k + 1, hk => by
    obtain ⟨h1, h2, h3⟩ := cpTo_srt L h k (by omega)
    have hat : at3 L k = L[k] := by simp [at3, show k < L.length by omega]
    have htk : L.take (k + 1) = L.take k ++ [at3 L k] := by rw [hat]; exact List.take_succ_eq_append_getElem (by omega)
    rw [cpTo]
    split
    · rename_i hc
      have hlt : ∀ c ∈ cpTo L k, ltP c (at3 L k) := by
        intro c hm
        rcases hc with rfl | hne
        · simp [cpTo] at hm
        · have hk0 : k ≠ 0 := by rintro rfl; simp [cpTo] at hm
          have hat1 : at3 L (k - 1) = L[k - 1] := by simp [at3, show k - 1 < L.length by omega]
          have hle : ¬ ltP (at3 L k) (at3 L (k - 1)) := by
            rw [hat, hat1]
            exact List.pairwise_iff_getElem.1 h (k - 1) k (by omega) (by omega) (by omega)
          have hl : ltP (at3 L (k - 1)) (at3 L k) := by
            rcases Classical.em (ltP (at3 L (k - 1)) (at3 L k)) with h9 | h9
            · exact h9
            · exact absurd (ltP.tri hle h9) hne
          rcases h3 c hm with e | e
          · rw [e]; exact hl
          · exact e.trans hl
      refine ⟨?_, ?_, ?_⟩
      · rw [Srt, List.pairwise_append]
        exact ⟨h1, by simp, fun a ha b hb => by simp at hb; subst hb; exact hlt a ha⟩
      · intro c
        rw [htk, List.mem_append, List.mem_append, h2 c]
      · intro c hm
        rw [List.mem_append] at hm
        simp only [Nat.add_sub_cancel]
        rcases hm with hm | hm
        · exact .inr (hlt c hm)
        · exact .inl (by simpa using hm)
    · rename_i hc
      have hk0 : k ≠ 0 := fun e => hc (.inl e)
      have heq : at3 L k = at3 L (k - 1) := by
        rcases Classical.em (at3 L k = at3 L (k - 1)) with e | e
        · exact e
        · exact absurd (.inr e) hc
      refine ⟨h1, ?_, ?_⟩
      · intro c
        rw [htk, List.mem_append, h2 c]
        constructor
        · exact .inl
        · rintro (hm | hm)
          · exact hm
          · have e : c = at3 L (k - 1) := by rw [← heq]; simpa using hm
            rw [e]
            have hat1 : at3 L (k - 1) = L[k - 1] := by simp [at3, show k - 1 < L.length by omega]
            rw [hat1, List.mem_take_iff_getElem]
            exact ⟨k - 1, by omega, rfl⟩
      · intro c hm
        simp only [Nat.add_sub_cancel]
        rw [heq]
        exact h3 c hm
noncomputable def cpS (L : List (Int × Int)) : List (Int × Int) := cpTo (stS L) (stS L).length
theorem cpS_srt (L : List (Int × Int)) : Srt (cpS L) ∧ ∀ c, c ∈ cpS L ↔ c ∈ L := by
  obtain ⟨h1, h2, _⟩ := cpTo_srt (stS L) (stS_srt L) _ (Nat.le_refl _)
  exact ⟨h1, fun c => by unfold cpS; rw [h2 c, List.take_length, stS_mem]⟩
/-! the table is sorted -/
theorem row_srt (p a : Int) (k : Nat) : Srt (rowTo p a k) ∧ ∀ c ∈ rowTo p a k, c.1 = a := by
  unfold rowTo
  refine ⟨?_, fun c hc => by simp at hc; obtain ⟨_, _, rfl⟩ := hc; rfl⟩
  rw [Srt, List.pairwise_map]
  refine List.Pairwise.imp ?_ (List.pairwise_lt_range.filter _)
  intro x y h
  unfold ltP
  simp
  omega
theorem tab_srt (p : Int) : ∀ k, Srt (tabTo p k) ∧ ∀ c ∈ tabTo p k, c.1 < k
  | 0 => ⟨by simp [tabTo], fun c hc => by simp [tabTo] at hc⟩
  | k + 1 => by
    obtain ⟨h1, h2⟩ := tab_srt p k
    obtain ⟨h3, h4⟩ := row_srt p k p.toNat
    rw [tabTo_succ]
    refine ⟨?_, ?_⟩
    · rw [Srt, List.pairwise_append]
      refine ⟨h1, h3, fun a ha b hb => ?_⟩
      have e1 := h2 a ha
      have e2 := h4 b hb
      unfold ltP; omega
    · intro c hc
      rcases List.mem_append.1 hc with hc | hc
      · have := h2 c hc; omega
      · have := h4 c hc; omega
theorem tabL_srt (p : Int) : Srt (tabL p) := (tab_srt p _).1
theorem tabL_mk {p a b : Int} (ha : 0 ≤ a ∧ a ≤ p - 1) (hb : 0 ≤ b ∧ b ≤ p - 1) (h : okC p a b = true) : (a, b) ∈ tabL p := by
  unfold tabL tabTo rowTo
  simp only [List.mem_flatMap, List.mem_range, List.mem_map, List.mem_filter]
  refine ⟨a.toNat, by omega, b.toNat, ⟨by omega, ?_⟩, ?_⟩
  · rw [Int.toNat_of_nonneg ha.1, Int.toNat_of_nonneg hb.1]; exact h
  · rw [Int.toNat_of_nonneg ha.1, Int.toNat_of_nonneg hb.1]
/-! scaled curves -/
def invAll : Bool := (List.range 32).all fun p => !primeN p || (List.range p).all fun u => u == 0 || (List.range p).any fun v => u * v % p == 1
theorem inv_all : invAll = true := by decide +kernel
theorem inv_ex {p u : Int} (hp : primeB p = true) (h31 : 5 ≤ p ∧ p ≤ 31) (hu : 1 ≤ u ∧ u ≤ p - 1) : ∃ v : Int, u * v % p = 1 := by
  obtain ⟨P, rfl⟩ := Int.eq_ofNat_of_zero_le (show 0 ≤ p by omega)
  obtain ⟨U, rfl⟩ := Int.eq_ofNat_of_zero_le (show 0 ≤ u by omega)
  have hN := primeN_of P hp (by omega)
  have h := inv_all
  unfold invAll at h
  rw [List.all_eq_true] at h
  have h1 := h P (List.mem_range.2 (by omega))
  rw [hN, Bool.not_true, Bool.false_or, List.all_eq_true] at h1
  have h2 := h1 U (List.mem_range.2 (by omega))
  rw [Bool.or_eq_true, List.any_eq_true] at h2
  rcases h2 with h2 | ⟨V, _, h2⟩
  · have : U = 0 := by simpa using h2
    omega
  · refine ⟨(V : Int), ?_⟩
    have : U * V % P = 1 := by simpa using h2
    exact_mod_cast this
theorem cg_powM (u k p : Int) : Cg p (powM u k p) (u ^ k.toNat) := by
  unfold powM
  exact Cg.mod p _
theorem cg_pow {p a b : Int} (h : Cg p a b) : ∀ k : Nat, Cg p (a ^ k) (b ^ k)
  | 0 => by rw [Int.pow_zero, Int.pow_zero]; exact Cg.refl _ _
  | k + 1 => by rw [Int.pow_succ, Int.pow_succ]; exact (cg_pow h k).mul h
theorem sc_disc (p A B u : Int) : Cg p (disc (scA p A u) (scB p B u)) (u ^ 12 * disc A B) := by
  have a1 : Cg p (scA p A u) (A * u ^ 4) := (Cg.mod p _).trans ((Cg.refl p A).mul (cg_powM u 4 p))
  have b1 : Cg p (scB p B u) (B * u ^ 6) := (Cg.mod p _).trans ((Cg.refl p B).mul (cg_powM u 6 p))
  have h : Cg p (disc (scA p A u) (scB p B u)) (disc (A * u ^ 4) (B * u ^ 6)) := by
    unfold disc
    exact ((((Cg.refl p 4).mul a1).mul a1).mul a1).add (((Cg.refl p 27).mul b1).mul b1)
  refine h.trans ?_
  have e : disc (A * u ^ 4) (B * u ^ 6) = u ^ 12 * disc A B := by
    unfold disc
    have e1 : u ^ 12 = u ^ 4 * u ^ 4 * u ^ 4 := by rw [← Int.pow_add, ← Int.pow_add]
    have e2 : u ^ 12 = u ^ 6 * u ^ 6 := by rw [← Int.pow_add]
    rw [Int.mul_add]
    congr 1
    · rw [e1]
      simp only [Int.mul_assoc, Int.mul_left_comm, Int.mul_comm]
    · rw [e2]
      simp only [Int.mul_assoc, Int.mul_left_comm, Int.mul_comm]
  rw [e]
  exact Cg.refl _ _
theorem sc_ok {p A B u : Int} (hp : primeB p = true) (h31 : 5 ≤ p ∧ p ≤ 31) (hu : 1 ≤ u ∧ u ≤ p - 1) (h : okC p A B = true) : okC p (scA p A u) (scB p B u) = true := by
  unfold okC at *
  have h0 : disc A B % p ≠ 0 := by simpa using h
  have hd : disc (scA p A u) (scB p B u) % p ≠ 0 := by
    intro h9
    obtain ⟨v, hv⟩ := inv_ex hp h31 hu
    apply h0
    have g1 : Cg p (u * v) 1 := by
      show u * v % p = 1 % p
      rw [hv, Int.emod_eq_of_lt (by omega) (by omega)]
    have g2 : Cg p (u ^ 12 * disc A B) 0 := by
      refine (sc_disc p A B u).symm.trans ?_
      show _ % p = 0 % p
      rw [h9]; simp
    have g3 := (Cg.refl p (v ^ 12)).mul g2
    have e : v ^ 12 * (u ^ 12 * disc A B) = (u * v) ^ 12 * disc A B := by rw [Int.mul_pow]; simp only [Int.mul_assoc, Int.mul_left_comm]
    rw [e, Int.mul_zero] at g3
    have g4 := ((cg_pow g1 12).mul (Cg.refl p (disc A B))).symm.trans g3
    rw [Int.one_pow, Int.one_mul] at g4
    have := g4.eq
    simpa using this
  simpa using hd
theorem sc_bd (p A B u : Int) (hp : 1 ≤ p) : (0 ≤ scA p A u ∧ scA p A u ≤ p - 1) ∧ (0 ≤ scB p B u ∧ scB p B u ≤ p - 1) := by
  have h1 := Int.emod_nonneg (A * powM u 4 p) (show p ≠ 0 by omega)
  have h2 := Int.emod_lt_of_pos (A * powM u 4 p) (show 0 < p by omega)
  have h3 := Int.emod_nonneg (B * powM u 6 p) (show p ≠ 0 by omega)
  have h4 := Int.emod_lt_of_pos (B * powM u 6 p) (show 0 < p by omega)
  unfold scA scB
  omega
theorem sc_one {p A B : Int} (hp : 2 ≤ p) (hA : 0 ≤ A ∧ A ≤ p - 1) (hB : 0 ≤ B ∧ B ≤ p - 1) : scA p A 1 = A ∧ scB p B 1 = B := by
  have e : ∀ k, powM 1 k p = 1 := fun k => by unfold powM; rw [Int.one_pow, Int.emod_eq_of_lt (by omega) (by omega)]
  unfold scA scB
  rw [e, e, Int.mul_one, Int.mul_one, Int.emod_eq_of_lt (by omega) (by omega), Int.emod_eq_of_lt (by omega) (by omega)]
  exact ⟨rfl, rfl⟩
def scAt (p A B : Int) (i : Nat) : Int × Int := (scA p A (i + 1), scB p B (i + 1))
def scL (p A B : Int) (k : Nat) : List (Int × Int) := (List.range k).map (scAt p A B)
theorem scL_succ (p A B : Int) (k : Nat) : scL p A B (k + 1) = scL p A B k ++ [scAt p A B k] := by unfold scL; rw [List.range_succ, List.map_append]; rfl
theorem scL_len (p A B : Int) (k : Nat) : (scL p A B k).length = k := by simp [scL]
noncomputable def clI (p A B : Int) : List (Int × Int) := cpS (scL p A B (p.toNat - 1))
def isSc (p A B : Int) (k : Nat) (d : Int × Int) : Bool := (List.range k).any fun i => scA p A (i + 1) == d.1 && scB p B (i + 1) == d.2
theorem isSc_succ (p A B : Int) (k : Nat) (d : Int × Int) : isSc p A B (k + 1) d = (isSc p A B k d || (scA p A (k + 1) == d.1 && scB p B (k + 1) == d.2)) := by
  unfold isSc; rw [List.range_succ, List.any_append]; simp
theorem isSc_iff {p A B : Int} {k : Nat} {d : Int × Int} : isSc p A B k d = true ↔ d ∈ scL p A B k := by
  unfold isSc scL scAt
  simp only [List.any_eq_true, List.mem_map, Bool.and_eq_true, beq_iff_eq]
  constructor
  · rintro ⟨i, hi, h1, h2⟩; exact ⟨i, hi, Prod.ext h1 h2⟩
  · rintro ⟨i, hi, rfl⟩; exact ⟨i, hi, rfl, rfl⟩
def clS (p A B : Int) : List (Int × Int) := (tabL p).filter (isSc p A B (p.toNat - 1))
theorem cl_eq {p A B : Int} (h : tabB p A B = true) : clI p A B = clS p A B := by
  obtain ⟨hp, hpr, hA, hB⟩ := tabB_of h
  have hok : okC p A B = true := by
    rw [← tabB_ok (by unfold tabB at h; simp only [Bool.and_eq_true] at h; exact h.1.1.1) hA hB]; exact h
  obtain ⟨h1, h2⟩ := cpS_srt (scL p A B (p.toNat - 1))
  refine srt_ext h1 ((tabL_srt p).filter _) (fun c => ?_)
  unfold clI clS
  rw [h2 c, List.mem_filter, isSc_iff]
  constructor
  · intro hc
    refine ⟨?_, hc⟩
    unfold scL scAt at hc
    simp only [List.mem_map, List.mem_range] at hc
    obtain ⟨i, hi, rfl⟩ := hc
    have hu : 1 ≤ ((i : Int) + 1) ∧ ((i : Int) + 1) ≤ p - 1 := by omega
    obtain ⟨b1, b2⟩ := sc_bd p A B (i + 1) (by omega)
    exact tabL_mk b1 b2 (sc_ok hpr hp hu hok)
  · exact fun hc => hc.2
end Go.Proofs.Ytilgeeaobdebhaa
