/- Plain: codes are told apart by their numbers; a list that is a group of classes has a power of two numbers. -/
import Derived.Test.YtbmcabphjfpkhaaGreatPcJ
namespace Go.Proofs.YtbmcabphjfpkhaaGreat

def cdNe (x y : Nat) : Bool := x.beq y || !(cdN x).beq (cdN y)
def cdNeRow (x : Nat) : Bool := nAllP 256 (cdNe x)
set_option maxRecDepth 100000 in
theorem cd_ne : nAllP 256 cdNeRow = true := by decide +kernel
theorem cd_inj {x y : Nat} (hx : x < 512) (hy : y < 512) (h : cdV x = cdV y) : x = y := by
  have hN : cdN (x % 256) = cdN (y % 256) := by
    rw [← cdN_low, ← cdN_low]
    have h1 := cdV_abs x
    have h2 := cdV_abs y
    rw [h] at h1
    omega
  have h3 := nAllP_of (nAllP_of cd_ne (x % 256) (Nat.mod_lt _ (by omega))) (y % 256) (Nat.mod_lt _ (by omega))
  unfold cdNe at h3
  rw [hN, Nat.beq_refl, Bool.not_true, Bool.or_false] at h3
  have h4 := Nat.eq_of_beq_eq_true h3
  have p1 := cdN_pos x
  have p2 := cdN_pos y
  unfold cdV at h
  split at h <;> split at h <;> omega
theorem code_cd {x : Nat} (hx : x < 512) : codeOf (cdV x) = x := by
  have he : ∃ y, y < 512 ∧ cdV x = cdV y := ⟨x, hx, rfl⟩
  have h1 : codeOf (cdV x) < 512 ∧ cdV x = cdV (codeOf (cdV x)) := by
    unfold codeOf
    rw [dif_pos he]
    exact he.choose_spec
  exact (cd_inj hx h1.1 h1.2).symm
theorem cd_one : cdV 0 = 1 := by decide
theorem ris_pair {L : List Int} (h : risB L = true) : L.Pairwise (· < ·) := by
  rw [List.pairwise_iff_getElem]
  have hs : ∀ k, k + 1 < L.length → L[k]?.getD 0 < L[k + 1]?.getD 0 := fun k hk => by
    have h1 := List.all_eq_true.1 h (k + 1) (by simpa using hk)
    unfold risAt at h1
    simpa using h1
  have hm : ∀ d i, i + d + 1 < L.length → L[i]?.getD 0 < L[i + d + 1]?.getD 0 := fun d => by
    induction d with
    | zero => intro i hi; exact hs i hi
    | succ d ih =>
      intro i hi
      have a := ih i (by omega)
      have b := hs (i + d + 1) (by omega)
      rw [show i + (d + 1) + 1 = i + d + 1 + 1 by omega]
      omega
  intro i j hi hj hij
  have := hm (j - i - 1) i (by omega)
  rw [show i + (j - i - 1) + 1 = j by omega, List.getElem?_eq_getElem hi, List.getElem?_eq_getElem hj] at this
  exact this
theorem gp_grp {L : List Int} (hc : ∀ x ∈ L, ClsV x) (h : gpB L = true) : Grp (L.map codeOf) ∧ (1 ≤ L.length ∧ L.length ≤ 64) := by
  unfold gpB at h
  simp only [Bool.and_eq_true] at h
  obtain ⟨h1, h2, h3, h4, h5⟩ := h
  have HA := fun x hx => code_of (hc x hx) (List.all_eq_true.1 h3 x hx)
  have hp := ris_pair h4
  refine ⟨⟨?_, ?_, ?_⟩, by have := inB_true h1; omega⟩
  · rw [List.mem_map]
    refine ⟨1, (has_mem 1 L).1 h2, ?_⟩
    rw [← cd_one]
    exact code_cd (by omega)
  · intro x hx y hy
    rw [List.mem_map] at hx hy ⊢
    obtain ⟨d, hd, rfl⟩ := hx
    obtain ⟨e, he, rfl⟩ := hy
    unfold mulsB at h5
    have h6 := List.all_eq_true.1 (List.all_eq_true.1 h5 d hd) e he
    unfold mulAt at h6
    exact ⟨_, (has_mem _ _).1 h6, code_cd (xor_lt (HA d hd).1 (HA e he).1)⟩
  · unfold List.Nodup
    rw [List.pairwise_map]
    refine List.Pairwise.imp_of_mem ?_ hp
    intro d e hd he hlt hne
    have a := (HA d hd).2.1
    have b := (HA e he).2.1
    rw [hne, ← b] at a
    omega
theorem gp_pow {L : List Int} (hc : ∀ x ∈ L, ClsV x) (h : gpB L = true) : ∃ k, k ≤ 6 ∧ L.length = 2 ^ k := by
  obtain ⟨h1, h2⟩ := gp_grp hc h
  obtain ⟨k, hk⟩ := h1.pow
  rw [List.length_map] at hk
  refine ⟨k, ?_, hk⟩
  rcases Nat.lt_or_ge 6 k with h3 | h3
  · exfalso
    have := Nat.pow_le_pow_right (show 0 < 2 by omega) (show 7 ≤ k by omega)
    have h7 : 2 ^ 7 = 128 := by decide
    omega
  · exact h3
end Go.Proofs.YtbmcabphjfpkhaaGreat
