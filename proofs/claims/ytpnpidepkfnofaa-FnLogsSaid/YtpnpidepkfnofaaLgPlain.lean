/- Plain: logs lead back, shortened logs lead to the same curve, all curves of a log have one invariant. -/
import Derived.Test.YtpnpidepkfnofaaCrvPlain
import Derived.Test.YtpnpidepkfnofaaUndoPlain
namespace Go.Proofs.Ytpnpidepkfnofaa
open Go.RowKit

theorem crO_append : ∀ (L M : List (Int × Int)) (c : Int × Int), crO c (L ++ M) = (crO c L && crO (crE c L) M)
  | [], _, _ => rfl
  | s :: L, M, c => by
    have := crO_append L M (stC c s)
    simp only [List.cons_append, crO, this, crE, List.foldl_cons, Bool.and_assoc]
theorem crE_append (L M : List (Int × Int)) (c : Int × Int) : crE c (L ++ M) = crE (crE c L) M := by
  unfold crE; rw [List.foldl_append]
theorem crE_curve : ∀ (L : List (Int × Int)) (c : Int × Int), curveB c.1 c.2 = true → L.all (fun s => stepB s.1 s.2) = true → crO c L = true → curveB (crE c L).1 (crE c L).2 = true
  | [], _, hc, _, _ => hc
  | s :: L, c, hc, hs, ho => by
    simp only [List.all_cons, Bool.and_eq_true] at hs
    simp only [crO, Bool.and_eq_true] at ho
    exact crE_curve L (stC c s) (stC_curve hs.1 hc ho.1) hs.2 ho.2
theorem tw_ne {v : Int} (h : twistB v = true) : v ≠ 0 := by unfold twistB at h; simp at h; exact h.1.2
theorem stepB_und {s : Int × Int} (h : stepB s.1 s.2 = true) : stepB (und s).1 (und s).2 = true := by
  obtain ⟨k, v⟩ := s
  simp only at h
  rcases stepB_cases h with ⟨rfl, h1⟩ | ⟨rfl, h1⟩ | ⟨rfl, h1, h2⟩ | ⟨rfl, h1, h2⟩
  all_goals simp [und, undK, stepB, h1]
  all_goals exact h2
theorem und_und {s : Int × Int} (h : stepB s.1 s.2 = true) : und (und s) = s := by
  obtain ⟨k, v⟩ := s
  simp only at h
  rcases stepB_cases h with ⟨rfl, h1⟩ | ⟨rfl, h1⟩ | ⟨rfl, h1, h2⟩ | ⟨rfl, h1, h2⟩
  all_goals simp [und, undK]
/-- a step undone -/
theorem st_und {c s : Int × Int} (hc : curveB c.1 c.2 = true) (hs : stepB s.1 s.2 = true) (ho : okS c s = true) : okS (stC c s) (und s) = true ∧ stC (stC c s) (und s) = c := by
  obtain ⟨A, B⟩ := c
  obtain ⟨k, v⟩ := s
  simp only at hc hs
  unfold okS at ho
  simp only at ho
  rcases stepB_cases hs with ⟨rfl, h1⟩ | ⟨rfl, h1⟩ | ⟨rfl, h1, h2⟩ | ⟨rfl, h1, h2⟩
  · have hv := inB_true h1
    have n4 : v * v * v * v ≠ 0 := by simp only [ne_eq, Int.mul_eq_zero]; omega
    have n6 : v * v * v * v * v * v ≠ 0 := by simp only [ne_eq, Int.mul_eq_zero]; omega
    have e4 : A * v * v * v * v = A * (v * v * v * v) := by ac_rfl
    have e6 : B * v * v * v * v * v * v = B * (v * v * v * v * v * v) := by ac_rfl
    constructor
    · simp [okS, stC, und, undK, apOk, apA, apB, dvB, e4, e6]
    · simp [stC, und, undK, apA, apB, e4, e6, Int.mul_ediv_cancel _ n4, Int.mul_ediv_cancel _ n6]
  · have hv := inB_true h1
    replace ho : dvB A B v = true := by simpa [apOk] using ho
    unfold dvB at ho
    simp only [Bool.and_eq_true, beq_iff_eq] at ho
    have e4 : A / (v * v * v * v) * v * v * v * v = A := by
      rw [show A / (v * v * v * v) * v * v * v * v = A / (v * v * v * v) * (v * v * v * v) by ac_rfl]
      exact Int.ediv_mul_cancel (Int.dvd_of_emod_eq_zero ho.1)
    have e6 : B / (v * v * v * v * v * v) * v * v * v * v * v * v = B := by
      rw [show B / (v * v * v * v * v * v) * v * v * v * v * v * v = B / (v * v * v * v * v * v) * (v * v * v * v * v * v) by ac_rfl]
      exact Int.ediv_mul_cancel (Int.dvd_of_emod_eq_zero ho.2)
    constructor
    · simp [okS, stC, und, undK, apOk, apA, apB, e4, e6, hc]
    · simp [stC, und, undK, apA, apB, e4, e6]
  · have hv := tw_ne h1
    have n2 : v * v ≠ 0 := by simp only [ne_eq, Int.mul_eq_zero]; omega
    have n3 : v * v * v ≠ 0 := by simp only [ne_eq, Int.mul_eq_zero]; omega
    have e2 : A * v * v = A * (v * v) := by ac_rfl
    have e3 : B * v * v * v = B * (v * v * v) := by ac_rfl
    constructor
    · simp [okS, stC, und, undK, apOk, apA, apB, udB, e2, e3]
    · simp [stC, und, undK, apA, apB, e2, e3, Int.mul_ediv_cancel _ n2, Int.mul_ediv_cancel _ n3]
  · have hv := tw_ne h1
    replace ho : udB A B v = true := by simpa [apOk] using ho
    unfold udB at ho
    simp only [Bool.and_eq_true, beq_iff_eq] at ho
    have e2 : A / (v * v) * v * v = A := by
      rw [show A / (v * v) * v * v = A / (v * v) * (v * v) by ac_rfl]
      exact Int.ediv_mul_cancel (Int.dvd_of_emod_eq_zero ho.1)
    have e3 : B / (v * v * v) * v * v * v = B := by
      rw [show B / (v * v * v) * v * v * v = B / (v * v * v) * (v * v * v) by ac_rfl]
      exact Int.ediv_mul_cancel (Int.dvd_of_emod_eq_zero ho.2)
    constructor
    · simp [okS, stC, und, undK, apOk, apA, apB, e2, e3, hc]
    · simp [stC, und, undK, apA, apB, e2, e3]
/-- an inverse log leads back -/
theorem inv_back : ∀ (L : List (Int × Int)) (c : Int × Int), curveB c.1 c.2 = true → L.all (fun s => stepB s.1 s.2) = true → crO c L = true → crO (crE c L) (invL L) = true ∧ crE (crE c L) (invL L) = c
  | [], _, _, _, _ => ⟨rfl, rfl⟩
  | s :: L, c, hc, hs, ho => by
    simp only [List.all_cons, Bool.and_eq_true] at hs
    simp only [crO, Bool.and_eq_true] at ho
    have h1 := inv_back L (stC c s) (stC_curve hs.1 hc ho.1) hs.2 ho.2
    have h2 := st_und hc hs.1 ho.1
    have e : invL (s :: L) = invL L ++ [und s] := by simp [invL]
    have e2 : crE c (s :: L) = crE (stC c s) L := rfl
    rw [e, e2, crO_append, crE_append, h1.1, h1.2]
    exact ⟨by simp [crO, h2.1], by simp [crE, h2.2]⟩
theorem inv_steps (L : List (Int × Int)) (h : L.all (fun s => stepB s.1 s.2) = true) : (invL L).all (fun s => stepB s.1 s.2) = true := by
  rw [List.all_eq_true] at h ⊢
  intro x hx
  unfold invL at hx
  rw [List.mem_map] at hx
  obtain ⟨s, hs, rfl⟩ := hx
  exact stepB_und (h s (by simpa using hs))
theorem inv_len (L : List (Int × Int)) : (invL L).length = L.length := by simp [invL]
/-- one more step behind a shortened log -/
theorem sh_step {c : Int × Int} {M : List (Int × Int)} {s : Int × Int} (hc : curveB c.1 c.2 = true) (hM : M.all (fun s => stepB s.1 s.2) = true) (hO : crO c M = true) (hs : stepB s.1 s.2 = true) (ho : okS (crE c M) s = true) :
    (shS M s).all (fun s => stepB s.1 s.2) = true ∧ crO c (shS M s) = true ∧ crE c (shS M s) = stC (crE c M) s := by
  unfold shS
  split
  · rename_i hl
    obtain ⟨M', rfl⟩ := List.getLast?_eq_some_iff.1 hl
    rw [List.dropLast_concat]
    simp only [List.all_append, List.all_cons, List.all_nil, Bool.and_true, Bool.and_eq_true] at hM
    rw [crO_append] at hO
    simp only [crO, Bool.and_true, Bool.and_eq_true] at hO
    have h1 := st_und (crE_curve M' c hc hM.1 hO.1) hM.2 hO.2
    refine ⟨hM.1, hO.1, ?_⟩
    rw [crE_append]
    rw [und_und hs] at h1
    exact h1.2.symm
  · refine ⟨?_, ?_, ?_⟩
    · simp only [List.all_append, List.all_cons, List.all_nil, hM, hs, Bool.and_self]
    · rw [crO_append, hO]; simp [crO, ho]
    · rw [crE_append]; rfl
theorem sh_go : ∀ (L M : List (Int × Int)) (c : Int × Int), curveB c.1 c.2 = true → M.all (fun s => stepB s.1 s.2) = true → crO c M = true → L.all (fun s => stepB s.1 s.2) = true → crO (crE c M) L = true →
    (L.foldl shS M).all (fun s => stepB s.1 s.2) = true ∧ crO c (L.foldl shS M) = true ∧ crE c (L.foldl shS M) = crE (crE c M) L
  | [], M, c, _, hM, hO, _, _ => ⟨hM, hO, rfl⟩
  | s :: L, M, c, hc, hM, hO, hL, ho => by
    simp only [List.all_cons, Bool.and_eq_true] at hL
    simp only [crO, Bool.and_eq_true] at ho
    obtain ⟨h1, h2, h3⟩ := sh_step hc hM hO hL.1 ho.1
    have h4 := sh_go L (shS M s) c hc h1 h2 hL.2 (by rw [h3]; exact ho.2)
    rw [h3] at h4
    exact h4
theorem sh_same {L : List (Int × Int)} {c : Int × Int} (hc : curveB c.1 c.2 = true) (hL : L.all (fun s => stepB s.1 s.2) = true) (ho : crO c L = true) : (shL L).all (fun s => stepB s.1 s.2) = true ∧ crO c (shL L) = true ∧ crE c (shL L) = crE c L :=
  sh_go L [] c hc rfl rfl hL ho
/-- the curves of a log have one invariant: A A A D' = A' A' A' D -/
theorem st_inv {c s : Int × Int} (hs : stepB s.1 s.2 = true) (ho : okS c s = true) : ∃ m n : Int, m ≠ 0 ∧ n ≠ 0 ∧ m * m * m = n * n ∧ ((stC c s).1 = c.1 * m ∧ (stC c s).2 = c.2 * n ∨ c.1 = (stC c s).1 * m ∧ c.2 = (stC c s).2 * n) := by
  obtain ⟨A, B⟩ := c
  obtain ⟨k, v⟩ := s
  simp only at hs
  unfold okS at ho
  simp only at ho
  rcases stepB_cases hs with ⟨rfl, h1⟩ | ⟨rfl, h1⟩ | ⟨rfl, h1, h2⟩ | ⟨rfl, h1, h2⟩
  · have hv := inB_true h1
    refine ⟨v * v * v * v, v * v * v * v * v * v, ?_, ?_, by ac_rfl, .inl ⟨?_, ?_⟩⟩
    · simp only [ne_eq, Int.mul_eq_zero]; omega
    · simp only [ne_eq, Int.mul_eq_zero]; omega
    · show A * v * v * v * v = A * (v * v * v * v); ac_rfl
    · show B * v * v * v * v * v * v = B * (v * v * v * v * v * v); ac_rfl
  · have hv := inB_true h1
    replace ho : dvB A B v = true := by simpa [apOk] using ho
    unfold dvB at ho
    simp only [Bool.and_eq_true, beq_iff_eq] at ho
    refine ⟨v * v * v * v, v * v * v * v * v * v, ?_, ?_, by ac_rfl, .inr ⟨?_, ?_⟩⟩
    · simp only [ne_eq, Int.mul_eq_zero]; omega
    · simp only [ne_eq, Int.mul_eq_zero]; omega
    · exact (Int.ediv_mul_cancel (Int.dvd_of_emod_eq_zero ho.1)).symm
    · exact (Int.ediv_mul_cancel (Int.dvd_of_emod_eq_zero ho.2)).symm
  · have hv := tw_ne h1
    refine ⟨v * v, v * v * v, ?_, ?_, by ac_rfl, .inl ⟨?_, ?_⟩⟩
    · simp only [ne_eq, Int.mul_eq_zero]; omega
    · simp only [ne_eq, Int.mul_eq_zero]; omega
    · show A * v * v = A * (v * v); ac_rfl
    · show B * v * v * v = B * (v * v * v); ac_rfl
  · have hv := tw_ne h1
    replace ho : udB A B v = true := by simpa [apOk] using ho
    unfold udB at ho
    simp only [Bool.and_eq_true, beq_iff_eq] at ho
    refine ⟨v * v, v * v * v, ?_, ?_, by ac_rfl, .inr ⟨?_, ?_⟩⟩
    · simp only [ne_eq, Int.mul_eq_zero]; omega
    · simp only [ne_eq, Int.mul_eq_zero]; omega
    · exact (Int.ediv_mul_cancel (Int.dvd_of_emod_eq_zero ho.1)).symm
    · exact (Int.ediv_mul_cancel (Int.dvd_of_emod_eq_zero ho.2)).symm
def inB3 (c d : Int × Int) : Prop := c.1 * c.1 * c.1 * disc d.1 d.2 = d.1 * d.1 * d.1 * disc c.1 c.2
theorem inv3_scale {A B m n : Int} (h : m * m * m = n * n) : inB3 (A, B) (A * m, B * n) := by
  show A * A * A * disc (A * m) (B * n) = A * m * (A * m) * (A * m) * disc A B
  rw [disc_scale A B m n h]; ac_rfl
theorem st_inv3 {c s : Int × Int} (hs : stepB s.1 s.2 = true) (ho : okS c s = true) : inB3 c (stC c s) := by
  obtain ⟨m, n, _, _, h3, h | h⟩ := st_inv hs ho
  · have := inv3_scale (A := c.1) (B := c.2) h3
    rw [← h.1, ← h.2] at this
    exact this
  · have := inv3_scale (A := (stC c s).1) (B := (stC c s).2) h3
    rw [← h.1, ← h.2] at this
    exact Eq.symm this
theorem inv3_trans {a b c : Int × Int} (hb : disc b.1 b.2 ≠ 0) (h1 : inB3 a b) (h2 : inB3 b c) : inB3 a c := by
  unfold inB3 at *
  have : disc b.1 b.2 * (a.1 * a.1 * a.1 * disc c.1 c.2) = disc b.1 b.2 * (c.1 * c.1 * c.1 * disc a.1 a.2) := by
    calc disc b.1 b.2 * (a.1 * a.1 * a.1 * disc c.1 c.2) = a.1 * a.1 * a.1 * disc b.1 b.2 * disc c.1 c.2 := by ac_rfl
      _ = b.1 * b.1 * b.1 * disc a.1 a.2 * disc c.1 c.2 := by rw [h1]
      _ = b.1 * b.1 * b.1 * disc c.1 c.2 * disc a.1 a.2 := by ac_rfl
      _ = c.1 * c.1 * c.1 * disc b.1 b.2 * disc a.1 a.2 := by rw [h2]
      _ = _ := by ac_rfl
  exact Int.eq_of_mul_eq_mul_left hb this
theorem curve_disc {A B : Int} (h : curveB A B = true) : disc A B ≠ 0 := by unfold curveB at h; simp at h; exact h.2
theorem log_inv3 : ∀ (L : List (Int × Int)) (c : Int × Int), curveB c.1 c.2 = true → L.all (fun s => stepB s.1 s.2) = true → crO c L = true → inB3 c (crE c L)
  | [], _, _, _, _ => rfl
  | s :: L, c, hc, hs, ho => by
    simp only [List.all_cons, Bool.and_eq_true] at hs
    simp only [crO, Bool.and_eq_true] at ho
    have h1 := stC_curve hs.1 hc ho.1
    exact inv3_trans (curve_disc h1) (st_inv3 hs.1 ho.1) (log_inv3 L (stC c s) h1 hs.2 ho.2)
end Go.Proofs.Ytpnpidepkfnofaa
