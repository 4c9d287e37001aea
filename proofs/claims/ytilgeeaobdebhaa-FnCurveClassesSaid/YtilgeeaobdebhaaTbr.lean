/- Plain: what the laws of the tables ask of single curves. -/
import Derived.Test.YtilgeeaobdebhaaTbq
import Derived.Test.YtilgeeaobdebhaaTab
namespace Go.Proofs.Ytilgeeaobdebhaa
open Go.RowKit

theorem cv_ok {p A B : Int} (hp : tabP p = true) (hA : 0 ≤ A ∧ A ≤ p - 1) (hB : 0 ≤ B ∧ B ≤ p - 1) (h : okC p A B = true) : tabB p A B = true ∧ curveB A B = true ∧ goodP A B p = true := by
  have h5 := tabP_of hp
  have hd : (disc A B % p == 0) = false := by unfold okC at h; simpa using h
  refine ⟨by rw [tabB_ok hp hA hB, h], ?_, ?_⟩
  · unfold curveB
    rw [inB_mk (by omega) (by omega), inB_mk (by omega) (by omega)]
    have : disc A B ≠ 0 := by
      intro e
      rw [e] at hd
      simp at hd
    simp [this]
  · unfold goodP
    rw [inB_mk (by omega) (by omega), h5.2.2, hd]; rfl
/-- what a curve of a trace gives -/
structure CvF (p n : Int) (c : Int × Int) : Prop where
  hp : tabP p = true
  b1 : 0 ≤ c.1 ∧ c.1 ≤ p - 1
  b2 : 0 ≤ c.2 ∧ c.2 ≤ p - 1
  tb : tabB p c.1 c.2 = true
  cb : curveB c.1 c.2 = true
  gd : goodP c.1 c.2 p = true
  ct : cntV c.1 c.2 p = p + 1 - n
  d1 : 0 ≤ twA p c.1 ∧ twA p c.1 ≤ p - 1
  d2 : 0 ≤ twB p c.2 ∧ twB p c.2 ≤ p - 1
  cb2 : curveB (twA p c.1) (twB p c.2) = true
  gd2 : goodP (twA p c.1) (twB p c.2) p = true
  ct2 : cntV (twA p c.1) (twB p c.2) p = p + 1 + n
  nb : -40 ≤ n ∧ n ≤ 40
theorem cvF_of {p n : Int} {c : Int × Int} (hp : tabP p = true) (hm : c ∈ tabL p) (ht : trC p c = n) : CvF p n c := by
  have h5 := tabP_of hp
  obtain ⟨hA, hB, hok⟩ := tabL_mem hm
  obtain ⟨hm2, ht2⟩ := tw_mem hp hm
  obtain ⟨hA2, hB2, hok2⟩ := tabL_mem hm2
  have f1 := cv_ok hp hA hB hok
  have f2 := cv_ok hp hA2 hB2 hok2
  have hb := tr_bd hp (c := c)
  refine ⟨hp, hA, hB, f1.1, f1.2.1, f1.2.2, ?_, hA2, hB2, f2.2.1, f2.2.2, ?_, by omega⟩
  · unfold trC trV at ht; omega
  · rw [ht] at ht2
    unfold trC trV twP at ht2
    simp only at ht2
    omega
theorem with_facts {p n : Int} {c : Int × Int} (h : c ∈ cwT p n) : CvF p n c := by
  unfold cwT at h
  split at h
  · rename_i hp
    obtain ⟨m1, m2⟩ := List.mem_filter.1 h
    exact cvF_of hp m1 (by simpa using m2)
  · simp at h
theorem first_facts {p n : Int} (h : firstB p n = true) : ∃ t, CvF p t (firstV p n) ∧ n = p + 1 - t := by
  unfold firstB at h
  unfold firstV
  split at h
  · rename_i hp
    rw [if_pos hp]
    cases hf : (tabL p).find? (firstAt p n) with
    | none => rw [hf] at h; simp at h
    | some c =>
      have h1 := List.find?_some hf
      have h2 := List.mem_of_find?_eq_some hf
      refine ⟨trC p c, cvF_of hp h2 rfl, ?_⟩
      unfold firstAt at h1
      have : cntV c.1 c.2 p = n := by simpa using h1
      unfold trC trV; omega
  · simp at h
theorem first_no {p n : Int} (h : firstB p n = false) : firstV p n = (0, 0) := by
  unfold firstB at h
  unfold firstV
  split at h
  · rename_i hp
    rw [if_pos hp]
    cases hf : (tabL p).find? (firstAt p n) with
    | none => rfl
    | some c => rw [hf] at h; simp at h
  · rename_i hp
    rw [if_neg hp]
end Go.Proofs.Ytilgeeaobdebhaa
