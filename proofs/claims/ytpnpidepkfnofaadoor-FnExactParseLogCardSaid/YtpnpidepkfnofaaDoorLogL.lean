/- Walks: the law of LogText. -/
import Derived.Test.YtpnpidepkfnofaaDoorLogT
namespace Go.Proofs.YtpnpidepkfnofaaDoor
open Go.RowKit

theorem stepB_bd {k v : Int} (h : stepB k v = true) : (0 ≤ k ∧ k ≤ 3) ∧ (-1000 ≤ v ∧ v ≤ 1000) := by
  unfold stepB at h
  split at h
  · have := inB_true h
    omega
  · split at h
    · rw [Bool.and_eq_true] at h
      have h1 := h.1
      unfold twistB at h1
      simp only [Bool.and_eq_true] at h1
      have := inB_true h1.1.1
      omega
    · cases h
abbrev txtL (L : List (Int × Int)) : ByteArray := txtV ⟨#[117, 112]⟩ ⟨#[100, 111, 119, 110]⟩ ⟨#[116, 119, 105, 115, 116]⟩ ⟨#[117, 110, 116, 119, 105, 115, 116]⟩ L
noncomputable def ltS (L : List (Int × Int)) : ByteArray := if logB L then txtL L else ⟨#[]⟩
end Go.Proofs.YtpnpidepkfnofaaDoor
