/- Walks: the law of LogText. -/
import Derived.Test.YtpnpidepkfnofaaGreatDoorLogT
namespace Go.Proofs.YtpnpidepkfnofaaGreatDoor
open Go.RowKit

theorem stepB_bd {k v : Int} (h : stepB k v = true) : (0 ≤ k ∧ k ≤ 3) ∧ (-1000 ≤ v ∧ v ≤ 1000) := by
  unfold stepB at h
  split at h
  · have := inB_true h
    omega
  · split at h
    · rw [Bool.and_eq_true] at h
      have h1 := h.1
      unfold twistB at h1
      simp only [Bool.and_eq_true] at h1
      have := inB_true h1.1.1
      omega
    · cases h
abbrev txtL (L : List (Int × Int)) : ByteArray := txtV ⟨#[117, 112]⟩ ⟨#[100, 111, 119, 110]⟩ ⟨#[116, 119, 105, 115, 116]⟩ ⟨#[117, 110, 116, 119, 105, 115, 116]⟩ L
noncomputable def ltS (L : List (Int × Int)) : ByteArray := if logB L then txtL L else ⟨#[]⟩
set_option maxHeartbeats 1000000 in
theorem c_sLogText (base : Nat) (v : Value) (L : List (Int × Int)) (hL : L.length ≤ 100000000) (w : World) (ht : TabI w) (hown : OwnsS w base v L) :
    Calls Tryz.prog 7 #[v] w fun e w' => e = .returned (.tuple #[.string (ltS L), .bool (logB L)]) ∧ Below w.heap.size w w' := by
  have hc := c_tlLog base v L hL w hown
  unfold ltS
  cases hb : logB L
  · rw [hb] at hc
    have HC := Lib.hid hc
    clear hc hown
    go_enter Tryz.func7, Tryz.ntmps7
    go_wp2_with fail
    refine HC.out.mono ?_
    rintro e w1 ⟨rfl, hb1⟩
    go_wp2
    go_ret2
    exact ⟨rfl, hb1⟩
  · rw [hb] at hc
    have hlb := logB_of hb
    have h2 : ∀ w1, Below w.heap.size w w1 → Calls Tryz.prog 31 #[v] w1 fun e w' => e = .returned (.string (txtL L)) ∧ Below w1.heap.size w1 w' := fun w1 (hb1 : Below w.heap.size w w1) => c_tlText base v L (by omega) (fun k hk => stepB_bd (hlb.2 k hk)) _ _ _ _ (by decide) (Lib.hid c_tlNames) (Lib.hid (fun y w hy _ => c_l1Int y (by omega) w)) w1 (ht.below hb1) (OwnsP.below hown hb1)
    rw [if_pos rfl]
    generalize txtL L = S at *
    have HC := Lib.hid hc
    have HD := Lib.hid h2
    clear hc h2 hown hlb hb
    go_enter Tryz.func7, Tryz.ntmps7
    go_wp2_with fail
    refine HC.out.mono ?_
    rintro e w1 ⟨rfl, hb1⟩
    go_wp2_with fail
    refine (HD.out _ hb1).mono ?_
    rintro e w2 ⟨rfl, hb2⟩
    go_wp2
    go_ret2
    exact ⟨rfl, below_step hb2 hb1.size hb1⟩
set_option maxHeartbeats 1000000 in
theorem c_iLogText (base : Nat) (v : Value) (L : List (Int × Int)) (hL : L.length ≤ 100000000) (w : World) (ht : TabI w) (hown : OwnsS w base v L) :
    Calls Tryz.prog 6 #[v] w fun e w' => e = .returned (.tuple #[.string (ltS L), .bool (logB L)]) ∧ Below w.heap.size w w' := by
  have hc := c_isLog base v L hL w hown
  unfold ltS
  cases hb : logB L
  · rw [hb] at hc
    have HC := Lib.hid hc
    clear hc hown
    go_enter Tryz.func6, Tryz.ntmps6
    go_wp2_with fail
    refine HC.out.mono ?_
    rintro e w1 ⟨rfl, hb1⟩
    go_wp2
    go_ret2
    exact ⟨rfl, hb1⟩
  · rw [hb] at hc
    have hlb := logB_of hb
    have h2 : ∀ w1, Below w.heap.size w w1 → Calls Tryz.prog 29 #[v] w1 fun e w' => e = .returned (.string (txtL L)) ∧ Below w1.heap.size w1 w' := fun w1 (hb1 : Below w.heap.size w w1) => c_logText base v L (by omega) (fun k hk => stepB_bd (hlb.2 k hk)) _ _ _ _ (by decide) (Lib.hid c_stepNames) (Lib.hid (fun y w hy ht => c_itoa y (by omega) (by omega) w ht)) w1 (ht.below hb1) (OwnsP.below hown hb1)
    rw [if_pos rfl]
    generalize txtL L = S at *
    have HC := Lib.hid hc
    have HD := Lib.hid h2
    clear hc h2 hown hlb hb
    go_enter Tryz.func6, Tryz.ntmps6
    go_wp2_with fail
    refine HC.out.mono ?_
    rintro e w1 ⟨rfl, hb1⟩
    go_wp2_with fail
    refine (HD.out _ hb1).mono ?_
    rintro e w2 ⟨rfl, hb2⟩
    go_wp2
    go_ret2
    exact ⟨rfl, below_step hb2 hb1.size hb1⟩
end Go.Proofs.YtpnpidepkfnofaaGreatDoor
