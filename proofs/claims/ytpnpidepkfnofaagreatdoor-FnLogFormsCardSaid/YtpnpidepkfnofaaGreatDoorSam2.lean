/- Walks: lists of curves, lists of steps held alike. -/
import Derived.Test.YtpnpidepkfnofaaGreatDoorCls
import Derived.Test.YtpnpidepkfnofaaGreatDoorPairC
import Derived.Test.YtpnpidepkfnofaaGreatDoorPairS
namespace Go.Proofs.YtpnpidepkfnofaaGreatDoor
open Go.RowKit

set_option maxHeartbeats 1000000 in
theorem c_pSameSteps (b1 b2 : Nat) (v v' : Value) (L : List (Int × Int)) (hL : L.length ≤ 100000000) (w : World) (hown : OwnsS w b1 v L) (hown' : OwnsS w b2 v' L) :
    Calls Tryz.prog 10 #[v, v'] w fun e w' => e = .returned (.bool true) ∧ Below w.heap.size w w' := by
  obtain ⟨a, cap, rfl, hform⟩ := OwnsP.form hown
  obtain ⟨a', cap', rfl, hform'⟩ := OwnsP.form hown'
  have HF := Lib.hid hform
  have HF' := Lib.hid hform'
  clear hform hown hform' hown'
  go_enter Tryz.func10, Tryz.ntmps10
  go_wp2
  go_loopw [13] (fun i wr => ∃ k : Nat, k ≤ L.length ∧ i = .int .i64 k ∧ Below w.heap.size w wr) (fun i _ => L.length - (intOf i).toNat)
  case atStart => exact ⟨0, Nat.zero_le _, rfl, Below.refl _ _⟩
  case round =>
    obtain ⟨k, hk, rfl, hbl⟩ := hrel
    by_cases hlt : k < L.length
    · obtain ⟨g, rfl, q1, q2, _, hg, _⟩ := HF.out k hlt
      obtain ⟨g', rfl, r1, r2, _, hg', _⟩ := HF'.out k hlt
      have p1 := (hbl.cell (p := ⟨g, k * 2, none⟩) hg).trans q1
      have p2 := (hbl.cell (p := ⟨g, k * 2 + 1, none⟩) hg).trans q2
      have s1 := (hbl.cell (p := ⟨g', k * 2, none⟩) hg').trans r1
      have s2 := (hbl.cell (p := ⟨g', k * 2 + 1, none⟩) hg').trans r2
      have hsz := hbl.size
      have hgr : g < wr.heap.size := by omega
      have hgr' : g' < wr.heap.size := by omega
      clear q1 q2 r1 r2
      generalize L[k] = c at p1 p2 s1 s2
      have i0 : (0 : Int) ≤ (k : Int) := by omega
      have i1 : (k : Int) < (L.length : Int) := by omega
      go_wp2
      (refine wp_region_clq (by kernel_rfl) (by kernel_rfl) ?_; (repeat (go_big_quiet_step (fail))); refine wpQuiet_nil ?_; intro w1 hb1; obtain ⟨hc1, hf1⟩ := bcell hb1; have hz1 := hb1.size; (try simp only [World.size_alloc] at hz1))
      have hb2 := below_step hb1 hsz hbl
      clear hc1 hf1 p1 p2 s1 s2
      go_wp2
      go_roundw
      case rel => exact ⟨k + 1, by omega, by go_num, hb2⟩
      case measure => simp [intOf]; omega
    · obtain rfl : k = L.length := by omega
      go_wp2
      go_ret
      exact ⟨rfl, hbl⟩
end Go.Proofs.YtpnpidepkfnofaaGreatDoor
