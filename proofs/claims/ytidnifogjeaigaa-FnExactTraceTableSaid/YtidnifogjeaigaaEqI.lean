/- Slices of ints that are read: eq. (The same stands in PairI.) -/
import Derived.Test.YtidnifogjeaigaaList
import Derived.BigQuiet
namespace Go.Proofs.Ytidnifogjeaigaa
open Go.RowKit

def RdI (w : World) (v : Value) (xs : List Int) : Prop := ∃ (a : Option Addr) (cap : Nat), v = .slice a xs.length cap ∧ ∀ i, i < xs.length → ∃ g o, a = some ⟨g, o, none⟩ ∧ w.cell? ⟨g, o + i, none⟩ = some (.int .i64 (xs[i]?.getD 0)) ∧ g < w.heap.size
set_option maxHeartbeats 1000000 in
theorem c_eqIntS (v v' : Value) (xs : List Int) (hL : xs.length ≤ 100000000) (w : World) (h1 : RdI w v xs) (h2 : RdI w v' xs) :
    Calls Try.prog 25 #[v, v'] w fun e w' => e = .returned (.bool true) ∧ Below w.heap.size w w' := by
  obtain ⟨a, cap, rfl, hform⟩ := h1
  obtain ⟨a', cap', rfl, hform'⟩ := h2
  have HF := Lib.hid hform
  have HF' := Lib.hid hform'
  clear hform hform'
  go_enter Try.func25, Try.ntmps25
  go_wp2
  go_loopw [5] (fun i wr => ∃ k : Nat, k ≤ xs.length ∧ i = .int .i64 k ∧ Below w.heap.size w wr) (fun i _ => xs.length - (intOf i).toNat)
  case atStart => exact ⟨0, Nat.zero_le _, rfl, Below.refl _ _⟩
  case round =>
    obtain ⟨k, hk, rfl, hbl⟩ := hrel
    by_cases hlt : k < xs.length
    · obtain ⟨g, o, rfl, q1, hg⟩ := HF.out k hlt
      obtain ⟨g', o', rfl, r1, hg'⟩ := HF'.out k hlt
      have q2 := (hbl.cell (p := ⟨g, o + k, none⟩) hg).trans q1
      have r2 := (hbl.cell (p := ⟨g', o' + k, none⟩) hg').trans r1
      clear q1 r1
      generalize xs[k]?.getD 0 = y at q2 r2
      have i0 : (0 : Int) ≤ (k : Int) := by omega
      have i1 : (k : Int) < (xs.length : Int) := by omega
      go_wp2
      go_quiet (fail)
      go_wp2
      go_roundw
      case rel => exact ⟨k + 1, by omega, by go_num, below_drewN hbl _⟩
      case measure => simp [intOf]; omega
    · obtain rfl : k = xs.length := by omega
      go_wp2
      go_ret
      exact ⟨rfl, hbl⟩
end Go.Proofs.Ytidnifogjeaigaa
