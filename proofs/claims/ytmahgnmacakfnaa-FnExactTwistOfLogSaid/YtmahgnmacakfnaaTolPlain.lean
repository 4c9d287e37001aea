/- Plain: the square-free part of a product of twist numbers. -/
import Derived.Test.YtmahgnmacakfnaaTwist
namespace Go.Proofs.Ytmahgnmacakfnaa
open Go.RowKit

def SqN (n : Nat) : Prop := ∀ k, 2 ≤ k → ¬ k * k ∣ n
theorem SqN.of_dvd {n m : Nat} (h : SqN n) (hd : m ∣ n) : SqN m := fun k hk hm => h k hk (Nat.dvd_trans hm hd)
theorem sqN_mul {a b : Nat} (ha : SqN a) (hb : SqN b) (hc : Nat.Coprime a b) : SqN (a * b) := fun k hk hd => by
  have hj : Nat.gcd k a ∣ k := Nat.gcd_dvd_left k a
  have hja : Nat.gcd k a ∣ a := Nat.gcd_dvd_right k a
  have hpos : 0 < Nat.gcd k a := Nat.gcd_pos_of_pos_left _ (by omega)
  rcases Nat.lt_or_ge (Nat.gcd k a) 2 with h2 | h2
  · have h1 : Nat.Coprime k a := by unfold Nat.Coprime; omega
    have h3 : Nat.Coprime (k * k) a := Nat.Coprime.mul_left h1 h1
    exact hb k hk (h3.dvd_of_dvd_mul_left hd)
  · have h1 : Nat.Coprime (Nat.gcd k a) b := Nat.Coprime.coprime_dvd_left hja hc
    have h3 : Nat.Coprime (Nat.gcd k a * Nat.gcd k a) b := Nat.Coprime.mul_left h1 h1
    exact ha _ h2 (h3.dvd_of_dvd_mul_right (Nat.dvd_trans (Nat.mul_dvd_mul hj hj) hd))
theorem sq_key {m h k : Nat} (hm : SqN m) (hk : 2 ≤ k) (hd : k * k ∣ m * (h * h)) (hno : ∀ j, 2 ≤ j → j < k → ¬ j ∣ h) : k ∣ h := by
  have hj : Nat.gcd k h ∣ k := Nat.gcd_dvd_left k h
  have hjh : Nat.gcd k h ∣ h := Nat.gcd_dvd_right k h
  have hle : Nat.gcd k h ≤ k := Nat.le_of_dvd (by omega) hj
  have hpos : 0 < Nat.gcd k h := Nat.gcd_pos_of_pos_left _ (by omega)
  rcases Nat.lt_or_ge (Nat.gcd k h) 2 with h2 | h2
  · have h1 : Nat.Coprime k h := by unfold Nat.Coprime; omega
    have h3 : Nat.Coprime (k * k) (h * h) := Nat.Coprime.mul_left (Nat.Coprime.mul_right h1 h1) (Nat.Coprime.mul_right h1 h1)
    exact absurd (h3.dvd_of_dvd_mul_right hd) (hm k hk)
  · rcases Nat.lt_or_ge (Nat.gcd k h) k with h3 | h3
    · exact absurd hjh (hno _ h2 h3)
    · have : Nat.gcd k h = k := by omega
      rwa [this] at hjh
/-- d is r, but for a square of a number up to 30 -/
def TlR (r : Int) (h k : Nat) : Prop := SqN r.natAbs ∧ 1 ≤ h ∧ h ≤ 30 ∧ ∀ j, 2 ≤ j → j < k → ¬ j ∣ h
theorem TlR.yes {r : Int} {h k : Nat} (H : TlR r h k) (hk : 2 ≤ k) (hd : (r * ((h : Int) * h)).tmod ((k : Int) * k) = 0) :
    TlR r (h / k) k ∧ h / k < h ∧ (r * ((h : Int) * h)).tdiv ((k : Int) * k) = r * (((h / k : Nat) : Int) * ((h / k : Nat) : Int)) := by
  obtain ⟨h1, h2, h3, h4⟩ := H
  have hd' : (k * k) ∣ r.natAbs * (h * h) := by
    have := Int.dvd_of_tmod_eq_zero hd
    have := Int.natAbs_dvd_natAbs.2 this
    simpa [Int.natAbs_mul] using this
  obtain ⟨c, rfl⟩ := sq_key h1 hk hd' h4
  have e : k * c / k = c := Nat.mul_div_cancel_left c (by omega)
  rw [e]
  have hc : 1 ≤ c := by
    rcases Nat.eq_zero_or_pos c with rfl | h
    · simp at h2
    · exact h
  have hlt : c < k * c := by
    have := Nat.mul_le_mul_right c hk
    omega
  refine ⟨⟨h1, hc, by omega, fun j hj hjk hjc => h4 j hj hjk (Nat.dvd_trans hjc (Nat.dvd_mul_left c k))⟩, hlt, ?_⟩
  have : r * (((k * c : Nat) : Int) * ((k * c : Nat) : Int)) = ((k : Int) * k) * (r * ((c : Int) * c)) := by
    rw [Int.natCast_mul]; ac_rfl
  rw [this, Int.mul_tdiv_cancel_left]
  intro h0
  simp only [Int.mul_eq_zero] at h0
  omega
theorem TlR.no {r : Int} {h k : Nat} (H : TlR r h k) (hk : 2 ≤ k) (hd : (r * ((h : Int) * h)).tmod ((k : Int) * k) ≠ 0) : TlR r h (k + 1) := by
  obtain ⟨h1, h2, h3, h4⟩ := H
  refine ⟨h1, h2, h3, fun j hj hjk => ?_⟩
  rcases Nat.lt_or_ge j k with h5 | h5
  · exact h4 j hj h5
  · obtain rfl : j = k := by omega
    rintro ⟨c, rfl⟩
    apply hd
    have : r * (((j * c : Nat) : Int) * ((j * c : Nat) : Int)) = ((j : Int) * j) * (r * ((c : Int) * c)) := by
      rw [Int.natCast_mul]; ac_rfl
    rw [this]; exact Int.mul_tmod_right _ _
theorem TlR.end {r : Int} {h : Nat} (H : TlR r h 31) : h = 1 := by
  obtain ⟨h1, h2, h3, h4⟩ := H
  rcases Nat.lt_or_ge h 2 with h5 | h5
  · omega
  · exact absurd (Nat.dvd_refl h) (h4 h h5 (by omega))
theorem TlR.ne {r : Int} {h k : Nat} (H : TlR r h k) : r ≠ 0 := by
  rintro rfl
  exact H.1 2 (by omega) (by simp)
theorem TlR.less {r x : Int} {h k : Nat} (H : TlR r h k) (hx : x = r * ((h : Int) * h)) (hk : 2 ≤ k) : (x.tdiv ((k : Int) * k)).natAbs < x.natAbs := by
  have h0 := H.ne
  have h1 := H.2.1
  have hx0 : x ≠ 0 := by
    rw [hx]
    intro e
    simp only [Int.mul_eq_zero] at e
    omega
  rw [Int.natAbs_tdiv]
  have : 4 ≤ ((k : Int) * k).natAbs := by rw [Int.natAbs_mul]; exact Nat.mul_le_mul hk hk
  exact Nat.div_lt_self (by omega) (by omega)
/-- what the walks keep: the product of some primes -/
def Tw30 (d : Int) : Prop := SqN d.natAbs ∧ d.natAbs ∣ 6469693230
def tlStep (d v : Int) : Int := d.tdiv (Int.gcd d v) * v.tdiv (Int.gcd d v)
theorem Tw30.bd {d : Int} (h : Tw30 d) : d ≠ 0 ∧ -6469693230 ≤ d ∧ d ≤ 6469693230 := by
  have := Nat.le_of_dvd (by decide) h.2
  refine ⟨?_, by omega, by omega⟩
  rintro rfl
  have := h.2
  simp at this
theorem Tw30.one : Tw30 1 := by
  refine ⟨fun k hk h => ?_, by decide⟩
  have := Nat.le_of_dvd (by decide) h
  have := Nat.mul_le_mul hk hk
  simp at *; omega
theorem Tw30.step {d v : Int} (hd : Tw30 d) (hv : Tw30 v) (hb : v.natAbs ≤ 30) :
    Tw30 (tlStep d v) ∧ ∃ g : Nat, (Int.gcd d v = g ∧ 1 ≤ g ∧ g ≤ 30) ∧ d * v = tlStep d v * ((g : Int) * g) ∧ TlR (tlStep d v) g 2 := by
  obtain ⟨dz, db⟩ := hd.bd
  obtain ⟨vz, vb⟩ := hv.bd
  have hg0 : 0 < Int.gcd d v := Int.gcd_pos_iff.2 (.inl dz)
  have hgd : Int.gcd d v ∣ d.natAbs := Nat.gcd_dvd_left d.natAbs v.natAbs
  have hgv : Int.gcd d v ∣ v.natAbs := Nat.gcd_dvd_right d.natAbs v.natAbs
  have hgl : Int.gcd d v ≤ 30 := Nat.le_trans (Nat.le_of_dvd (by omega) hgv) hb
  have hco : Nat.Coprime (d.natAbs / Int.gcd d v) (v.natAbs / Int.gcd d v) := Nat.coprime_div_gcd_div_gcd hg0
  have ea : (d.tdiv (Int.gcd d v)).natAbs = d.natAbs / Int.gcd d v := by rw [Int.natAbs_tdiv]; simp; rfl
  have eb : (v.tdiv (Int.gcd d v)).natAbs = v.natAbs / Int.gcd d v := by rw [Int.natAbs_tdiv]; simp; rfl
  have hn : (tlStep d v).natAbs = d.natAbs / Int.gcd d v * (v.natAbs / Int.gcd d v) := by unfold tlStep; rw [Int.natAbs_mul, ea, eb]
  have hsq : SqN (tlStep d v).natAbs := by
    rw [hn]
    exact sqN_mul (hd.1.of_dvd (Nat.div_dvd_of_dvd hgd)) (hv.1.of_dvd (Nat.div_dvd_of_dvd hgv)) hco
  refine ⟨⟨hsq, ?_⟩, Int.gcd d v, ⟨rfl, hg0, hgl⟩, ?_, hsq, hg0, hgl, fun j h1 h2 => by omega⟩
  · rw [hn]
    refine Nat.dvd_trans ?_ (Nat.lcm_dvd hd.2 hv.2)
    have : Nat.lcm d.natAbs v.natAbs = d.natAbs / Int.gcd d v * v.natAbs := by
      unfold Nat.lcm
      exact Nat.div_mul_right_comm hgd _ |>.symm ▸ rfl
    rw [this]
    exact Nat.mul_dvd_mul_left _ (Nat.div_dvd_of_dvd hgv)
  · unfold tlStep
    have h1 : d.tdiv (Int.gcd d v) * (Int.gcd d v) = d := Int.tdiv_mul_cancel (Int.gcd_dvd_left d v)
    have h2 : v.tdiv (Int.gcd d v) * (Int.gcd d v) = v := Int.tdiv_mul_cancel (Int.gcd_dvd_right d v)
    calc d * v = (d.tdiv (Int.gcd d v) * (Int.gcd d v)) * (v.tdiv (Int.gcd d v) * (Int.gcd d v)) := by rw [h1, h2]
      _ = _ := by ac_rfl
def sq30 (n : Nat) : Bool := (6469693230 % n == 0) && (n % 4 != 0) && (n % 9 != 0) && (n % 16 != 0) && (n % 25 != 0)
theorem sq30_ok {v : Int} (_ : v ≠ 0) (hb : v.natAbs ≤ 30) (h : sq30 v.natAbs = true) : Tw30 v := by
  unfold sq30 at h
  simp only [Bool.and_eq_true, bne_iff_ne, beq_iff_eq] at h
  refine ⟨fun k hk hd => ?_, Nat.dvd_of_mod_eq_zero (by simp only [h.1.1.1.1])⟩
  have h1 := Nat.le_of_dvd (by omega) hd
  have : k < 6 := by
    rcases Nat.lt_or_ge k 6 with h' | h'
    · exact h'
    · have := Nat.mul_le_mul h' h'; omega
  have := Nat.mod_eq_zero_of_dvd hd
  rcases (by omega : k = 2 ∨ k = 3 ∨ k = 4 ∨ k = 5) with rfl | rfl | rfl | rfl <;> simp_all
theorem tw30_all : ∀ k : Nat, k < 63 → free4 ((k : Int) - 31) = true → ((k : Int) - 31).natAbs ≤ 30 → (k : Int) - 31 ≠ 0 → sq30 ((k : Int) - 31).natAbs = true := by decide +kernel
theorem tw30_of {v : Int} (h : twistB v = true) : Tw30 v ∧ v.natAbs ≤ 30 := by
  unfold twistB at h
  simp only [Bool.and_eq_true, Bool.not_eq_true', beq_eq_false_iff_ne] at h
  have hb := inB_true h.1.1
  have h3 := h.2
  rw [free_small (by omega) (by omega)] at h3
  have := tw30_all (v + 31).toNat (by omega)
  rw [show ((v + 31).toNat : Int) - 31 = v by omega] at this
  exact ⟨sq30_ok h.1.2 (by omega) (this h3 (by omega) h.1.2), by omega⟩
/-- what TwistOfLog gathers -/
def tolF (d : Int) (c : Int × Int) : Int := if c.1 = 2 ∨ c.1 = 3 then tlStep d c.2 else d
def tolL (L : List (Int × Int)) : Int := L.foldl tolF 1
theorem tolL_take (L : List (Int × Int)) {k : Nat} (h : k < L.length) : tolL (L.take (k + 1)) = tolF (tolL (L.take k)) L[k] := by
  unfold tolL
  rw [List.take_succ_eq_append_getElem h, List.foldl_append]; rfl
end Go.Proofs.Ytmahgnmacakfnaa
