/- Plain: what the law of logs says of a log that is possible. -/
import Derived.Test.YtpnpidepkfnofaaLgPlain
import Derived.Test.YtpnpidepkfnofaaCrv2
import Derived.Test.YtpnpidepkfnofaaInv
import Derived.Test.YtpnpidepkfnofaaShort
import Derived.Test.YtpnpidepkfnofaaIvP
namespace Go.Proofs.Ytpnpidepkfnofaa
open Go.RowKit

theorem crL_at : ∀ (L : List (Int × Int)) (c : Int × Int) (i : Nat) (h : i < (crL c L).length), (crL c L)[i] = crE c (L.take i)
  | [], c, i, h => by
    have : i = 0 := by simp [crL] at h; omega
    subst this
    rfl
  | s :: L, c, 0, h => rfl
  | s :: L, c, i + 1, h => by
    have := crL_at L (stC c s) i (by simpa [crL] using h)
    simpa [crL, crE] using this
theorem crO_take : ∀ (L : List (Int × Int)) (c : Int × Int) (i : Nat), crO c L = true → crO c (L.take i) = true
  | [], _, _, _ => by simp [crO]
  | s :: L, c, 0, _ => by simp [crO]
  | s :: L, c, i + 1, h => by
    simp only [crO, Bool.and_eq_true] at h
    simp only [List.take_succ_cons, crO, Bool.and_eq_true]
    exact ⟨h.1, crO_take L _ i h.2⟩
/-- one step of a possible log -/
theorem step_at {c : Int × Int} {L : List (Int × Int)} (hc : curveB c.1 c.2 = true) (hs : L.all (fun s => stepB s.1 s.2) = true) (ho : crO c L = true) {i : Nat} (hi : i < L.length) :
    asOk L[i].1 (crE c (L.take i)).1 (crE c (L.take i)).2 L[i].2 = true ∧ stC (crE c (L.take i)) L[i] = crE c (L.take (i + 1)) ∧ stepB L[i].1 L[i].2 = true := by
  have h1 := crO_take L c (i + 1) ho
  rw [List.take_succ_eq_append_getElem hi, crO_append, Bool.and_eq_true] at h1
  have hst : stepB L[i].1 L[i].2 = true := List.all_eq_true.1 hs _ (List.getElem_mem hi)
  have hst2 : (L.take i).all (fun s => stepB s.1 s.2) = true := List.all_eq_true.2 fun x hx => List.all_eq_true.1 hs x (List.mem_of_mem_take hx)
  have hcu := crE_curve (L.take i) c hc hst2 h1.1
  have h2 := h1.2
  simp only [crO, Bool.and_true] at h2
  refine ⟨?_, (crE_take c L hi).symm, hst⟩
  unfold asOk
  rw [hcu, hst]
  exact h2
/-- what is known of a log that is possible -/
structure LogF (a b : Int) (L : List (Int × Int)) (E : Int × Int) : Prop where
  cu : curveB a b = true
  ce : curveB E.1 E.2 = true
  chk : ckB a b L E.1 E.2 = true ∧ ckO a b L E.1 E.2 = true
  inv : logB L = true ∧ ccO E (ivL L) = true ∧ rpE E.1 E.2 (ivL L) = (a, b)
  sho : ccO (a, b) (shR L) = true ∧ rpE a b (shR L) = E ∧ (shR L).length ≤ L.length
  len : (ccL (a, b) L).length = L.length + 1
  fst : ∀ h : 0 < (ccL (a, b) L).length, (ccL (a, b) L)[0] = (a, b)
  lst : ∀ h : L.length < (ccL (a, b) L).length, (ccL (a, b) L)[L.length] = E
  ste : ∀ (i : Nat) (h : i < L.length) (h1 : i < (ccL (a, b) L).length) (h2 : i + 1 < (ccL (a, b) L).length), asOk L[i].1 (ccL (a, b) L)[i].1 (ccL (a, b) L)[i].2 L[i].2 = true ∧
    apA L[i].1 (ccL (a, b) L)[i].1 L[i].2 = (ccL (a, b) L)[i + 1].1 ∧ apB L[i].1 (ccL (a, b) L)[i].2 L[i].2 = (ccL (a, b) L)[i + 1].2 ∧ stepB L[i].1 L[i].2 = true
  iv3 : inB3 (a, b) E
theorem log_facts {a b : Int} {L : List (Int × Int)} (h : ccO (a, b) L = true) : LogF a b L (rpE a b L) := by
  have h0 := h
  unfold ccO at h
  simp only [Bool.and_eq_true] at h
  obtain ⟨⟨hc, hl⟩, ho⟩ := h
  have hl0 := hl
  unfold logB at hl
  simp only [Bool.and_eq_true, decide_eq_true_eq] at hl
  obtain ⟨hs, hlen⟩ := hl
  have hE : rpE a b L = crE (a, b) L := by unfold rpE; rw [if_pos h0]
  have hL : ccL (a, b) L = crL (a, b) L := by unfold ccL; rw [if_pos h0]
  rw [hE]
  have hce := crE_curve L (a, b) hc hs ho
  have hib := inv_back L (a, b) hc hs ho
  have his := inv_steps L hs
  have hsh := sh_same hc hs ho
  have hiL : ivL L = invL L := by unfold ivL; rw [if_pos hl0]
  have hsR : shR L = shL L := by unfold shR; rw [if_pos hl0]
  have hlI : logB (invL L) = true := by unfold logB; rw [his, inv_len]; simpa using hlen
  have hsl : (shL L).length ≤ L.length := by have := shL_len L []; simpa [shL] using this
  have hlS : logB (shL L) = true := by unfold logB; rw [hsh.1]; simp; omega
  have hccI : ccO (crE (a, b) L) (invL L) = true := by unfold ccO; rw [hce, hlI, hib.1]; rfl
  have hccS : ccO (a, b) (shL L) = true := by unfold ccO; rw [hlS, hsh.2.1]; simp [hc]
  have hlen' : (ccL (a, b) L).length = L.length + 1 := by rw [hL, crL_len]
  refine ⟨hc, hce, ?_, ⟨hl0, by rw [hiL]; exact hccI, ?_⟩, ⟨by rw [hsR]; exact hccS, ?_, by rw [hsR]; exact hsl⟩, hlen', ?_, ?_, ?_, log_inv3 L (a, b) hc hs ho⟩
  · have := ck_yes (L := L) hc hl0 hce
    rw [this.1, this.2]
    simp [ho]
  · rw [hiL]; unfold rpE; rw [if_pos hccI]; exact hib.2
  · rw [hsR]; unfold rpE; rw [if_pos hccS]; exact hsh.2.2
  · simp only [hL]
    intro h
    rw [crL_at]
    rfl
  · simp only [hL]
    intro h
    rw [crL_at, List.take_length]
  · simp only [hL]
    intro i h1 h2 h3
    rw [crL_at, crL_at]
    obtain ⟨q1, q2, q3⟩ := step_at hc hs ho h1
    refine ⟨q1, ?_, ?_, q3⟩
    · rw [← q2]; rfl
    · rw [← q2]; rfl
end Go.Proofs.Ytpnpidepkfnofaa
