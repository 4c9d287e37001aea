/- Walks: the law of ParseLog. -/
import Derived.Test.YtpnpidepkfnofaaDoorPrt
namespace Go.Proofs.YtpnpidepkfnofaaDoor
open Go.RowKit

set_option maxHeartbeats 4000000 in
theorem walk_FnExactParseLog (s : ByteArray) (hs : s.size ≤ maxLen) (w : World) (hE : PEnv w) :
    Calls Tryd.prog 3 #[.string s] w fun e w' => e = .returned (.bool true) ∧ Below w.heap.size w w' := by
  have hs2 := hs
  unfold maxLen at hs2
  clear hs
  by_cases hb : s.size ≤ 1048576
  · have hi : ¬ (1048576 : Int) < (s.size : Int) := by omega
    have hl := plR_len s
    have HS := Lib.hid (fun w h => c_sParseLog s hb w h)
    have HI := Lib.hid (fun w h => c_iParseLog s hb w h)
    unfold PlPost at HS HI
    have HE := Lib.hid hE
    clear hE hb
    generalize plR s = R at *
    generalize plB s = ok at *
    cases ok
    all_goals
      go_enter Tryd.func3, Tryd.ntmps3
      go_wp2_with fail
      refine (HS.out w HE.out).mono ?_
      rintro e w1 ⟨r1, rfl, a1, hb1⟩
      have hE1 := Lib.hid (PEnv.below HE.out hb1)
      have hz1 := hb1.size
      go_wp2_with fail
      refine (HI.out w1 hE1.out).mono ?_
      rintro e w2 ⟨r2, rfl, a2, hb2⟩
      have hE2 := Lib.hid (PEnv.below hE1.out hb2)
      have hz2 := hb2.size
      have l2 := a2.lt
      go_wp2_with fail
      refine (c_eqStepS _ _ _ _ R (by omega) _ a2 (OwnsP.below a1 hb2)).mono ?_
      rintro e w3 ⟨rfl, hb3⟩
      have hE3 := Lib.hid (PEnv.below hE2.out hb3)
      have b13 : Below w1.heap.size w1 w3 := below_step hb3 hz2 hb2
      have hz3 := b13.size
      go_wp2_with fail
      refine (c_markStepS _ _ R (by omega) _ (OwnsP.below a2 hb3)).mono ?_
      rintro e w4 ⟨rfl, m4, hg4⟩
      have b34 := below_of_grown (B := w1.heap.size) hg4 (by omega) (fun k hk => (l2 k hk).1)
      have b14 : Below w1.heap.size w1 w4 := b13.trans b34
      have hz4 := b14.size
      have hE4 := Lib.hid (PEnv.below hE1.out b14)
      have bb4 : Below w.heap.size w w4 := below_step b14 hz1 hb1
      have hk1 : (0 : Int) ≤ 1 + 2 * R.length := by omega
      have a4 := OwnsP.below a1 b14
      clear hE3 hE2 b34 hg4 hb3
      go_wp2_with fail
      refine (c_heldStepS _ _ R.length (by omega) _ m4).mono ?_
      rintro e w' ⟨rfl, rfl⟩
      go_wp2_with fail
      refine (HI.out w4 hE4.out).mono ?_
      rintro e w5 ⟨r5, rfl, a5, hb5⟩
      have bb5 : Below w.heap.size w w5 := below_step hb5 bb4.size bb4
      go_wp2_with fail
      refine (c_eqStepS _ _ _ _ R (by omega) _ a5 (OwnsP.below a4 hb5)).mono ?_
      rintro e w6 ⟨rfl, hb6⟩
      have bb6 : Below w.heap.size w w6 := below_step hb6 bb5.size bb5
      go_wp2_with fail
      refine (c_heldStepS _ _ R.length (by omega) _ (OwnsP.below (OwnsP.below m4 hb5) hb6)).mono ?_
      rintro e w' ⟨rfl, rfl⟩
      go_wp2
      go_ret
      exact ⟨rfl, bb6⟩
  · have hi : (1048576 : Int) < (s.size : Int) := by omega
    clear hE
    go_enter Tryd.func3, Tryd.ntmps3
    go_wp2
    go_ret
    exact ⟨rfl, Below.refl _ _⟩
end Go.Proofs.YtpnpidepkfnofaaDoor
