/- Walks: InvariantOf, HaveSameInvariant. -/
import Derived.Test.YtpnpidepkfnofaaIvP
import Derived.Test.YtpnpidepkfnofaaCls
import Derived.BigQuiet
import Derived.Deep.Cut
namespace Go.Proofs.Ytpnpidepkfnofaa
open Go.RowKit

set_option maxHeartbeats 1000000 in
theorem c_invariantOf (A B : Int) (hc : curveB A B = true) (w : World) :
    Calls Try.prog 37 #[.agg #[.int .i64 A, .int .i64 B]] w fun e w' => e = .returned (.tuple #[.int .i64 (ivA A B), .int .i64 (ivD A B), .bool true]) ∧ Below w.heap.size w w' := by
  obtain ⟨hA, hB⟩ := curveB_of hc
  have hd := curve_disc hc
  obtain ⟨b1, b2, b3⟩ := disc_bd hA hB
  have hdb : -7000000000 ≤ disc A B ∧ disc A B ≤ 7000000000 := by unfold disc; omega
  have m1 := mulb (x := 6912 * A) (y := A) 6912000 1000 (by omega) hA
  have m2 := mulb (x := 6912 * A * A) (y := A) 6912000000 1000 (by omega) hA
  have HI := Lib.hid (fun W => c_isCurve A B W)
  rw [hc] at HI
  have HG := Lib.hid (fun W => c_gcd (6912 * A * A * A) (disc A B) (by omega) (by omega) W)
  have HC := Lib.hid (fun W => c_core A B hA hB W)
  unfold ivA ivD
  have hfr : frD (6912 * A * A * A) (disc A B) = if disc A B < 0 then -gcdI (6912 * A * A * A) (disc A B) else gcdI (6912 * A * A * A) (disc A B) := rfl
  have hf0 := (frD_facts (n := 6912 * A * A * A) hd).1
  have hgb : 0 < gcdI (6912 * A * A * A) (disc A B) ∧ gcdI (6912 * A * A * A) (disc A B) ≤ 7000000000 := by
    have hp : 0 < Int.gcd (6912 * A * A * A) (disc A B) := Int.gcd_pos_iff.2 (.inr hd)
    have := Nat.le_of_dvd (by omega) (show Int.gcd (6912 * A * A * A) (disc A B) ∣ (disc A B).natAbs from Nat.gcd_dvd_right _ _)
    unfold gcdI
    omega
  generalize frD (6912 * A * A * A) (disc A B) = F at hfr hf0
  generalize gcdI (6912 * A * A * A) (disc A B) = g at HG hfr hgb
  have k0 := Blk.new w #[.int .i64 A, .int .i64 B] 25
  have hw0 : Below w.heap.size w (w.alloc (.cells #[.int .i64 A, .int .i64 B] 25)) := (Below.refl _ _).alloc (Nat.le_refl _) _
  have hl0 : w.heap.size < (w.alloc (.cells #[.int .i64 A, .int .i64 B] 25)).heap.size := by simp
  go_enter Try.func37, Try.ntmps37
  go_wp2_with fail
  generalize w.alloc _ = W at k0 hw0 hl0 ⊢
  refine (HI.out _).mono ?_
  rintro e w1 ⟨rfl, hb1⟩
  have k1 := k0.next hb1
  have hl1 := k1.lt
  have hw1 := below_step hb1 (by omega) hw0
  have c0 : w1.cell? ⟨w.heap.size, 0, none⟩ = some (.int .i64 A) := k1.cell 0
  have c1 : w1.cell? ⟨w.heap.size, 1, none⟩ = some (.int .i64 B) := k1.cell 1
  go_upto_region 3 with (fail)
  (refine wp_region_clq (by kernel_rfl) (by kernel_rfl) ?_; (repeat (go_big_quiet_step ((go_at_call 45; exact Calls.quiet_cls Closed.true _ (HC.out _))))); refine wpQuiet_nil ?_; intro w2 hb2; obtain ⟨hc2, hf2⟩ := bcell hb2; have hz2 := hb2.size; (try simp only [World.size_alloc] at hz2))
  clear c0 c1 hc2 hf2
  have hw2 := below_step hb2 hw1.size hw1
  go_wp2_with fail
  refine (HG.out _).mono ?_
  rintro e w3 ⟨rfl, kd, rfl⟩
  have hw3 := below_drewN hw2 kd
  generalize w2.drewN kd = w3 at hw3 ⊢
  by_cases hneg : disc A B < 0
  · rw [if_pos hneg] at hfr
    subst hfr
    have hg0 : ¬ (-g = 0) := by omega
    have td : ∀ x : Int, -7000000000000 ≤ x ∧ x ≤ 7000000000000 → wrap64 (-(x.tdiv g)) = x.tdiv (-g) := fun x hx => by
      have : (x.tdiv g).natAbs ≤ x.natAbs := by rw [Int.natAbs_tdiv]; exact Nat.div_le_self _ _
      rw [Int.tdiv_neg]
      unfold wrap64; omega
    have t1 := td (6912 * A * A * A) (by omega)
    have t2 := td (disc A B) (by omega)
    go_wp2
    go_quiet (fail)
    go_wp2
    rw [t1, t2]
    refine bodyPost_ret (v := .tuple #[.int .i64 ((6912 * A * A * A).tdiv (-g)), .int .i64 ((disc A B).tdiv (-g)), .bool true]) (by simp [results, Try.results37, go_sem]) rfl ?_
    exact ⟨rfl, below_drewN hw3 _⟩
  · rw [if_neg hneg] at hfr
    subst hfr
    have hg0 : ¬ (F = 0) := hf0
    go_wp2
    go_quiet (fail)
    go_wp2
    have t : (disc A B).tdiv F = disc A B / F := Int.tdiv_eq_ediv_of_nonneg (by omega)
    refine bodyPost_ret (v := .tuple #[.int .i64 ((6912 * A * A * A).tdiv F), .int .i64 (disc A B / F), .bool true]) (by simp [results, Try.results37, go_sem]) rfl ?_
    exact ⟨by rw [t], below_drewN hw3 _⟩
set_option maxHeartbeats 1000000 in
theorem c_haveSame (A B C D : Int) (h1 : curveB A B = true) (h2 : curveB C D = true) (h3 : inB3 (A, B) (C, D)) (w : World) :
    Calls Try.prog 19 #[.agg #[.int .i64 A, .int .i64 B], .agg #[.int .i64 C, .int .i64 D]] w fun e w' => e = .returned (.tuple #[.bool true, .bool true]) ∧ Below w.heap.size w w' := by
  obtain ⟨e1, e2⟩ := iv_same h1 h2 h3
  have HI := fun W => c_isCurve A B W
  have HJ := fun W => c_isCurve C D W
  rw [h1] at HI
  rw [h2] at HJ
  have HA := Lib.hid (c_invariantOf A B h1)
  have HB := c_invariantOf C D h2
  rw [← e1, ← e2] at HB
  replace HI := Lib.hid HI
  replace HJ := Lib.hid HJ
  replace HB := Lib.hid HB
  clear e1 e2 h1 h2 h3
  generalize ivA A B = N at HA HB
  generalize ivD A B = M at HA HB
  have kA := (Blk.new w #[.int .i64 A, .int .i64 B] 25).alloc (.cells #[.int .i64 C, .int .i64 D] 25)
  have kB := Blk.new (w.alloc (.cells #[.int .i64 A, .int .i64 B] 25)) #[.int .i64 C, .int .i64 D] 25
  rw [World.size_alloc] at kB
  have hw0 : Below w.heap.size w ((w.alloc (.cells #[.int .i64 A, .int .i64 B] 25)).alloc (.cells #[.int .i64 C, .int .i64 D] 25)) := ((Below.refl _ _).alloc (Nat.le_refl _) _).alloc (by simp) _
  go_enter Try.func19, Try.ntmps19
  go_wp2_with fail
  generalize (w.alloc _).alloc _ = W at kA kB hw0 ⊢
  refine (HI.out _).mono ?_
  rintro e w1 ⟨rfl, hb1⟩
  have kA1 := kA.next hb1
  have kB1 := kB.next hb1
  have hw1 := below_step hb1 hw0.size hw0
  have c0 : w1.cell? ⟨w.heap.size, 0, none⟩ = some (.int .i64 A) := kA1.cell 0
  have c1 : w1.cell? ⟨w.heap.size, 1, none⟩ = some (.int .i64 B) := kA1.cell 1
  have d0 : w1.cell? ⟨w.heap.size + 1, 0, none⟩ = some (.int .i64 C) := kB1.cell 0
  have d1 : w1.cell? ⟨w.heap.size + 1, 1, none⟩ = some (.int .i64 D) := kB1.cell 1
  go_wp2_with fail
  refine (HJ.out _).mono ?_
  rintro e w2 ⟨rfl, hb2⟩
  have kA2 := kA1.next hb2
  have kB2 := kB1.next hb2
  have hw2 := below_step hb2 hw1.size hw1
  clear c0 c1 d0 d1
  have c0 : w2.cell? ⟨w.heap.size, 0, none⟩ = some (.int .i64 A) := kA2.cell 0
  have c1 : w2.cell? ⟨w.heap.size, 1, none⟩ = some (.int .i64 B) := kA2.cell 1
  go_wp2_with fail
  refine (HA.out _).mono ?_
  rintro e w3 ⟨rfl, hb3⟩
  have kB3 := kB2.next hb3
  have hw3 := below_step hb3 hw2.size hw2
  clear c0 c1
  have d0 : w3.cell? ⟨w.heap.size + 1, 0, none⟩ = some (.int .i64 C) := kB3.cell 0
  have d1 : w3.cell? ⟨w.heap.size + 1, 1, none⟩ = some (.int .i64 D) := kB3.cell 1
  go_wp2_with fail
  refine (HB.out _).mono ?_
  rintro e w4 ⟨rfl, hb4⟩
  have hw4 := below_step hb4 hw3.size hw3
  clear d0 d1
  go_wp2
  go_ret2
  exact ⟨rfl, hw4⟩
end Go.Proofs.Ytpnpidepkfnofaa
