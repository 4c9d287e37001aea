/- Walks: the law of LogText. -/
import Derived.Test.YtbnbkddcgokniaaDoorLogT
namespace Go.Proofs.YtbnbkddcgokniaaDoor
open Go.RowKit

theorem stepB_bd {k v : Int} (h : stepB k v = true) : (0 ≤ k ∧ k ≤ 3) ∧ (-1000 ≤ v ∧ v ≤ 1000) := by
  unfold stepB at h
  split at h
  · have := inB_true h
    omega
  · split at h
    · rw [Bool.and_eq_true] at h
      have h1 := h.1
      unfold twistB at h1
      simp only [Bool.and_eq_true] at h1
      have := inB_true h1.1.1
      omega
    · cases h
abbrev txtL (L : List (Int × Int)) : ByteArray := txtV ⟨#[117, 112]⟩ ⟨#[100, 111, 119, 110]⟩ ⟨#[116, 119, 105, 115, 116]⟩ ⟨#[117, 110, 116, 119, 105, 115, 116]⟩ L
noncomputable def ltS (L : List (Int × Int)) : ByteArray := if logB L then txtL L else ⟨#[]⟩
set_option maxHeartbeats 1000000 in
theorem c_sLogText (base : Nat) (v : Value) (L : List (Int × Int)) (hL : L.length ≤ 100000000) (w : World) (ht : TabI w) (hown : OwnsS w base v L) :
    Calls Tryd.prog 6 #[v] w fun e w' => e = .returned (.tuple #[.string (ltS L), .bool (logB L)]) ∧ Below w.heap.size w w' := by
  have hc := c_tlLog base v L hL w hown
  unfold ltS
  cases hb : logB L
  · rw [hb] at hc
    have HC := Lib.hid hc
    clear hc hown
    go_enter Tryd.func6, Tryd.ntmps6
    go_wp2_with fail
    refine HC.out.mono ?_
    rintro e w1 ⟨rfl, hb1⟩
    go_wp2
    go_ret2
    exact ⟨rfl, hb1⟩
  · rw [hb] at hc
    have hlb := logB_of hb
    have h2 : ∀ w1, Below w.heap.size w w1 → Calls Tryd.prog 14 #[v] w1 fun e w' => e = .returned (.string (txtL L)) ∧ Below w1.heap.size w1 w' := fun w1 (hb1 : Below w.heap.size w w1) => c_tlText base v L (by omega) (fun k hk => stepB_bd (hlb.2 k hk)) _ _ _ _ (by decide) (Lib.hid c_tlNames) (Lib.hid (fun y w hy _ => c_l1Int y (by omega) w)) w1 (ht.below hb1) (OwnsP.below hown hb1)
    rw [if_pos rfl]
    generalize txtL L = S at *
    have HC := Lib.hid hc
    have HD := Lib.hid h2
    clear hc h2 hown hlb hb
    go_enter Tryd.func6, Tryd.ntmps6
    go_wp2_with fail
    refine HC.out.mono ?_
    rintro e w1 ⟨rfl, hb1⟩
    go_wp2_with fail
    refine (HD.out _ hb1).mono ?_
    rintro e w2 ⟨rfl, hb2⟩
    go_wp2
    go_ret2
    exact ⟨rfl, below_step hb2 hb1.size hb1⟩
set_option maxHeartbeats 1000000 in
theorem c_iLogText (base : Nat) (v : Value) (L : List (Int × Int)) (hL : L.length ≤ 100000000) (w : World) (ht : TabI w) (hown : OwnsS w base v L) :
    Calls Tryd.prog 8 #[v] w fun e w' => e = .returned (.tuple #[.string (ltS L), .bool (logB L)]) ∧ Below w.heap.size w w' := by
  have hc := c_isLog base v L hL w hown
  unfold ltS
  cases hb : logB L
  · rw [hb] at hc
    have HC := Lib.hid hc
    clear hc hown
    go_enter Tryd.func8, Tryd.ntmps8
    go_wp2_with fail
    refine HC.out.mono ?_
    rintro e w1 ⟨rfl, hb1⟩
    go_wp2
    go_ret2
    exact ⟨rfl, hb1⟩
  · rw [hb] at hc
    have hlb := logB_of hb
    have h2 : ∀ w1, Below w.heap.size w w1 → Calls Tryd.prog 17 #[v] w1 fun e w' => e = .returned (.string (txtL L)) ∧ Below w1.heap.size w1 w' := fun w1 (hb1 : Below w.heap.size w w1) => c_logText base v L (by omega) (fun k hk => stepB_bd (hlb.2 k hk)) _ _ _ _ (by decide) (Lib.hid c_stepNames) (Lib.hid (fun y w hy ht => c_itoa y (by omega) (by omega) w ht)) w1 (ht.below hb1) (OwnsP.below hown hb1)
    rw [if_pos rfl]
    generalize txtL L = S at *
    have HC := Lib.hid hc
    have HD := Lib.hid h2
    clear hc h2 hown hlb hb
    go_enter Tryd.func8, Tryd.ntmps8
    go_wp2_with fail
    refine HC.out.mono ?_
    rintro e w1 ⟨rfl, hb1⟩
    go_wp2_with fail
    refine (HD.out _ hb1).mono ?_
    rintro e w2 ⟨rfl, hb2⟩
    go_wp2
    go_ret2
    exact ⟨rfl, below_step hb2 hb1.size hb1⟩
set_option maxHeartbeats 1000000 in
theorem walk_FnExactLogText (v : Value) (L : List (Int × Int)) (_ : ∀ c ∈ L, (Lit.int .i64 c.1).wf = true ∧ (Lit.int .i64 c.2).wf = true) (w : World) (o : RdP w v L) (ht : TabI w) :
    Calls Tryd.prog 3 #[v] w fun e w' => e = .returned (.bool true) ∧ Below w.heap.size w w' := by
  have h0 := c_szStepS v L w o
  by_cases hL : L.length ≤ 1048576
  · rw [if_pos hL] at h0
    have hs : (0 : Int) ≤ 1048576 - L.length := by omega
    have h1 := fun base u W => c_sLogText base u L (by omega) W
    have h2 := fun base u W => c_iLogText base u L (by omega) W
    generalize ltS L = R at h1 h2
    generalize (logB L) = b at h1 h2
    have H0 := Lib.hid h0
    have H1 := Lib.hid h1
    have H2 := Lib.hid h2
    have HO := Lib.hid o
    have HT := Lib.hid ht
    clear h0 h1 h2 o ht
    generalize hz : (1048576 - L.length : Int) = z at H0 hs
    clear hz
    cases b
    all_goals
      go_enter Tryd.func3, Tryd.ntmps3
      go_wp2_with fail
      refine H0.out.mono ?_
      rintro e w' ⟨rfl, rfl⟩
      go_wp2_with fail
      refine (c_toStepS v L hL _ (RdP.belowN HO.out (by (repeat' (first | (with_reducible exact Below.refl _ _) | (with_reducible refine below_step (by assumption) ?_ ?_) | (with_reducible refine Below.alloc ?_ ?_ _) | (with_reducible refine Below.setCell ?_ ?_ _) | (with_reducible refine below_drewN ?_ _) | (with_reducible refine Below.drew ?_) | omega | (simp; omega) | (simp; done)))))).mono ?_
      rintro e w1 ⟨u1, rfl, a1, hb1⟩
      have hz1 := hb1.size
      have bb1 : Below w.heap.size w w1 := by (repeat' (first | (with_reducible exact Below.refl _ _) | (with_reducible refine below_step (by assumption) ?_ ?_) | (with_reducible refine Below.alloc ?_ ?_ _) | (with_reducible refine Below.setCell ?_ ?_ _) | (with_reducible refine below_drewN ?_ _) | (with_reducible refine Below.drew ?_) | omega | (simp; omega) | (simp; done)))
      go_wp2_with fail
      refine (H1.out _ _ _ (HT.out.below bb1) a1).mono ?_
      rintro e w2 ⟨rfl, hb2⟩
      have hz2 := hb2.size
      have bb2 : Below w.heap.size w w2 := below_step hb2 bb1.size bb1
      go_wp2_with fail
      refine (c_toStepS v L hL _ (RdP.belowN HO.out (by (repeat' (first | (with_reducible exact Below.refl _ _) | (with_reducible refine below_step (by assumption) ?_ ?_) | (with_reducible refine Below.alloc ?_ ?_ _) | (with_reducible refine Below.setCell ?_ ?_ _) | (with_reducible refine below_drewN ?_ _) | (with_reducible refine Below.drew ?_) | omega | (simp; omega) | (simp; done)))))).mono ?_
      rintro e w3 ⟨u3, rfl, a3, hb3⟩
      have hz3 := hb3.size
      have bb3 : Below w.heap.size w w3 := below_step hb3 bb2.size bb2
      have l3 := a3.lt
      go_wp2_with fail
      refine (H2.out _ _ _ (HT.out.below bb3) a3).mono ?_
      rintro e w4 ⟨rfl, hb4⟩
      have hz4 := hb4.size
      have a3' := OwnsP.below a3 hb4
      have bb4 : Below w.heap.size w w4 := below_step hb4 bb3.size bb3
      go_wp2_with fail
      refine (c_toStepS v L hL _ (RdP.belowN HO.out (by (repeat' (first | (with_reducible exact Below.refl _ _) | (with_reducible refine below_step (by assumption) ?_ ?_) | (with_reducible refine Below.alloc ?_ ?_ _) | (with_reducible refine Below.setCell ?_ ?_ _) | (with_reducible refine below_drewN ?_ _) | (with_reducible refine Below.drew ?_) | omega | (simp; omega) | (simp; done)))))).mono ?_
      rintro e w6 ⟨u6, rfl, a6, hb6⟩
      have hz6 := hb6.size
      have bb6 : Below w.heap.size w w6 := below_step hb6 bb4.size bb4
      have a36 := OwnsP.below a3' hb6
      go_wp2_with fail
      refine (c_eqStepS _ _ _ _ L (by omega) _ a36 a6).mono ?_
      rintro e w7 ⟨rfl, hb7⟩
      have bb7 : Below w.heap.size w w7 := below_step hb7 bb6.size bb6
      go_wp2
      go_ret
      exact ⟨rfl, bb7⟩
  · rw [if_neg hL] at h0
    have H0 := Lib.hid h0
    clear h0 o
    go_enter Tryd.func3, Tryd.ntmps3
    go_wp2_with fail
    refine H0.out.mono ?_
    rintro e w' ⟨rfl, rfl⟩
    go_wp2
    go_ret
    exact ⟨rfl, Below.refl _ _⟩
end Go.Proofs.YtbnbkddcgokniaaDoor
