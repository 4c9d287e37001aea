/- Walks: division values asked for, IsDivided. -/
import Derived.Test.YtgjdgcmmlfmhmaaGreatDoorDvS
namespace Go.Proofs.YtgjdgcmmlfmhmaaGreatDoor
open Go.RowKit

def rsZ (o : Bool) (A : Int) : Int := if o then A else 0
noncomputable def dvOk (A B p x n : Int) : Bool := fitB A B p x && inB n 1 40
theorem dvOk_of {A B p x n : Int} (h : dvOk A B p x n = true) : fitB A B p x = true ∧ (1 ≤ n ∧ n ≤ 40) := by
  unfold dvOk at h
  simp only [Bool.and_eq_true] at h
  exact ⟨h.1, inB_true h.2⟩
/-- a value is read out of a row -/
theorem row_at {w : World} {base : Nat} {v : Value} {A B p x : Int} {j n : Nat} (ho : OwnsI w base v (dvL A B p x j)) (hn : n < 5 + j) :
    ∃ g cap, v = .slice (some ⟨g, 0, none⟩) (5 + j) cap ∧ w.cell? ⟨g, n, none⟩ = some (.int .i64 (dvE A B p x n)) := by
  have hl := dvL_len A B p x j
  obtain ⟨a, cap, hv, hc⟩ := ho.form
  obtain ⟨g, ha, h1, _⟩ := hc n (by omega)
  refine ⟨g, cap, by rw [hv, ha, hl], ?_⟩
  rw [h1, ← dvE_of A B p x j n hn]; rfl
def zB (A B p x n : Int) : Bool := dvE A B p x n.toNat == 0 || (n % 2 == 0 && fV A B x % p == 0)
theorem c_sDivisionModulo (A B p x n : Int) (w : World) :
    Calls Tryz.prog 8 #[.agg #[.int .i64 A, .int .i64 B], .int .i64 p, .int .i64 x, .int .i64 n] w fun e w' => e = .returned (.tuple #[.int .i64 (rsZ (dvOk A B p x n) (dvE A B p x n.toNat)), .bool (dvOk A B p x n)]) ∧ Below w.heap.size w w' := by
  have h1 := c_dpAsked A B p x n
  cases ho : dvOk A B p x n
  · have hq : (fitB A B p x && inB n 1 40) = false := ho
    rw [hq] at h1
    have H1 := Lib.hid h1
    clear h1 hq
    go_enter Tryz.func8, Tryz.ntmps8
    go_wp2_with ((go_at_call 33; refine (H1.out _).mono ?_; rintro e w1 ⟨rfl, hb1⟩; obtain ⟨hc1, hf1⟩ := bcell hb1; have hz1 := hb1.size; (try simp only [World.size_alloc] at hz1); (try (have hy1 : w.heap.size < w1.heap.size := by omega)); (try (have hx1 := Nat.lt_of_succ_le hz1)); (try (have hv1 := Nat.lt_of_succ_le (Nat.le_of_lt hx1)))))
    go_ret2
    refine ⟨rfl, ?_⟩
    (repeat' (first | (with_reducible exact Below.refl _ _) | (with_reducible refine below_step (by assumption) ?_ ?_) | (with_reducible refine Below.alloc ?_ ?_ _) | (with_reducible refine Below.setCell ?_ ?_ _) | (with_reducible refine below_drewN ?_ _) | (with_reducible refine Below.drew ?_) | omega | (simp; omega) | (simp; done)))
  · have hq : (fitB A B p x && inB n 1 40) = true := ho
    rw [hq] at h1
    have H1 := Lib.hid h1
    clear h1 hq
    obtain ⟨hf, hn⟩ := dvOk_of ho
    obtain ⟨N, rfl⟩ := Int.eq_ofNat_of_zero_le (show 0 ≤ n by omega)
    have i0 : (0 : Int) ≤ (N : Int) := by omega
    go_enter Tryz.func8, Tryz.ntmps8
    go_wp2_with fail
    (go_at_call 33; refine (H1.out _).mono ?_; rintro e w1 ⟨rfl, hb1⟩; obtain ⟨hc1, hf1⟩ := bcell hb1; have hz1 := hb1.size; (try simp only [World.size_alloc] at hz1); (try (have hy1 : w.heap.size < w1.heap.size := by omega)); (try (have hx1 := Nat.lt_of_succ_le hz1)); (try (have hv1 := Nat.lt_of_succ_le (Nat.le_of_lt hx1))))
    go_wp2_with fail
    (go_at_call 35; refine (c_dpRow A B p x N hf (by omega) _).mono ?_; rintro e w2 ⟨v, rfl, ho2, hb2⟩)
    obtain ⟨g, cap, rfl, hc⟩ := row_at (n := N) ho2 (by omega)
    have i1 : (N : Int) < ((5 + (N - 3) : Nat) : Int) := by omega
    generalize 5 + (N - 3) = len at i1 ⊢
    have hz2 := hb2.size
    go_wp2
    go_ret2
    refine ⟨by simp [rsZ], ?_⟩
    (repeat' (first | (with_reducible exact Below.refl _ _) | (with_reducible refine below_step (by assumption) ?_ ?_) | (with_reducible refine Below.alloc ?_ ?_ _) | (with_reducible refine Below.setCell ?_ ?_ _) | (with_reducible refine below_drewN ?_ _) | (with_reducible refine Below.drew ?_) | omega | (simp; omega) | (simp; done)))
theorem c_iDivisionModulo (A B p x n : Int) (w : World) :
    Calls Tryz.prog 7 #[.agg #[.int .i64 A, .int .i64 B], .int .i64 p, .int .i64 x, .int .i64 n] w fun e w' => e = .returned (.tuple #[.int .i64 (rsZ (dvOk A B p x n) (dvE A B p x n.toNat)), .bool (dvOk A B p x n)]) ∧ Below w.heap.size w w' := by
  cases h1 : fitB A B p x
  · have hq : dvOk A B p x n = false := by unfold dvOk; rw [h1]; rfl
    rw [hq]
    go_enter Tryz.func7, Tryz.ntmps7
    go_wp2_with ((go_at_call 26; refine (c_divisionFits _ _ _ _ _).mono ?_; rintro e w1 ⟨rfl, hb1⟩; obtain ⟨hc1, hf1⟩ := bcell hb1; have hz1 := hb1.size; (try simp only [World.size_alloc] at hz1); (try (have hy1 : w.heap.size < w1.heap.size := by omega)); (try (have hx1 := Nat.lt_of_succ_le hz1)); (try (have hv1 := Nat.lt_of_succ_le (Nat.le_of_lt hx1)))))
    go_ret2
    refine ⟨rfl, ?_⟩
    (repeat' (first | (with_reducible exact Below.refl _ _) | (with_reducible refine below_step (by assumption) ?_ ?_) | (with_reducible refine Below.alloc ?_ ?_ _) | (with_reducible refine Below.setCell ?_ ?_ _) | (with_reducible refine below_drewN ?_ _) | (with_reducible refine Below.drew ?_) | omega | (simp; omega) | (simp; done)))
  · cases h2 : inB n 1 40
    · have hq : dvOk A B p x n = false := by unfold dvOk; rw [h1, h2]; rfl
      rw [hq]
      go_enter Tryz.func7, Tryz.ntmps7
      go_wp2_with (first | ((go_at_call 26; refine (c_divisionFits _ _ _ _ _).mono ?_; rintro e w1 ⟨rfl, hb1⟩; obtain ⟨hc1, hf1⟩ := bcell hb1; have hz1 := hb1.size; (try simp only [World.size_alloc] at hz1); (try (have hy1 : w.heap.size < w1.heap.size := by omega)); (try (have hx1 := Nat.lt_of_succ_le hz1)); (try (have hv1 := Nat.lt_of_succ_le (Nat.le_of_lt hx1))))) | (go_at_call 27; refine (c_inside _ _ _ _).mono ?_; rintro e w' ⟨rfl, rfl⟩))
      go_ret2
      refine ⟨rfl, ?_⟩
      (repeat' (first | (with_reducible exact Below.refl _ _) | (with_reducible refine below_step (by assumption) ?_ ?_) | (with_reducible refine Below.alloc ?_ ?_ _) | (with_reducible refine Below.setCell ?_ ?_ _) | (with_reducible refine below_drewN ?_ _) | (with_reducible refine Below.drew ?_) | omega | (simp; omega) | (simp; done)))
    · have hq : dvOk A B p x n = true := by unfold dvOk; rw [h1, h2]; rfl
      rw [hq]
      obtain ⟨hf, hn⟩ := dvOk_of hq
      clear hq
      obtain ⟨N, rfl⟩ := Int.eq_ofNat_of_zero_le (show 0 ≤ n by omega)
      have i0 : (0 : Int) ≤ (N : Int) := by omega
      go_enter Tryz.func7, Tryz.ntmps7
      go_wp2_with (first | ((go_at_call 26; refine (c_divisionFits _ _ _ _ _).mono ?_; rintro e w1 ⟨rfl, hb1⟩; obtain ⟨hc1, hf1⟩ := bcell hb1; have hz1 := hb1.size; (try simp only [World.size_alloc] at hz1); (try (have hy1 : w.heap.size < w1.heap.size := by omega)); (try (have hx1 := Nat.lt_of_succ_le hz1)); (try (have hv1 := Nat.lt_of_succ_le (Nat.le_of_lt hx1))))) | (go_at_call 27; refine (c_inside _ _ _ _).mono ?_; rintro e w' ⟨rfl, rfl⟩))
      (go_at_call 29; refine (c_divisionRow A B p x N hf (by omega) _).mono ?_; rintro e w2 ⟨v, rfl, ho2, hb2⟩)
      obtain ⟨g, cap, rfl, hc⟩ := row_at (n := N) ho2 (by omega)
      have i1 : (N : Int) < ((5 + (N - 4) : Nat) : Int) := by omega
      generalize 5 + (N - 4) = len at i1 ⊢
      have hz2 := hb2.size
      go_wp2
      go_ret2
      refine ⟨by simp [rsZ], ?_⟩
      (repeat' (first | (with_reducible exact Below.refl _ _) | (with_reducible refine below_step (by assumption) ?_ ?_) | (with_reducible refine Below.alloc ?_ ?_ _) | (with_reducible refine Below.setCell ?_ ?_ _) | (with_reducible refine below_drewN ?_ _) | (with_reducible refine Below.drew ?_) | omega | (simp; omega) | (simp; done)))
theorem c_dpZero (A B p x n : Int) (h : fitB A B p x = true) (hn : 1 ≤ n ∧ n ≤ 40) (w : World) :
    Calls Tryz.prog 34 #[.agg #[.int .i64 A, .int .i64 B], .int .i64 p, .int .i64 x, .int .i64 n] w fun e w' => e = .returned (.bool (zB A B p x n)) ∧ Below w.heap.size w w' := by
  obtain ⟨hA, hB, hp, _, hx⟩ := fit_of h
  obtain ⟨N, rfl⟩ := Int.eq_ofNat_of_zero_le (show 0 ≤ n by omega)
  have i0 : (0 : Int) ≤ (N : Int) := by omega
  have fb := fV_bd (p := p) hA (x := x) (by omega) (by omega)
  have hfb : -2000000000 ≤ fV A B x ∧ fV A B x ≤ 2000000000 := by unfold fV; omega
  have kC : Blk w.heap.size #[.int .i64 A, .int .i64 B] 24 (w.alloc (.cells #[.int .i64 A, .int .i64 B] 24)) := Blk.new _ _ _
  unfold zB
  go_enter Tryz.func34, Tryz.ntmps34
  go_wp2_with fail
  (go_at_call 35; refine (c_dpRow A B p x N h (by omega) _).mono ?_; rintro e w1 ⟨v, rfl, ho2, hb1⟩)
  obtain ⟨g, cap, rfl, hc⟩ := row_at (n := N) ho2 (by omega)
  have i1 : (N : Int) < ((5 + (N - 3) : Nat) : Int) := by omega
  generalize 5 + (N - 3) = len at i1 ⊢
  have kC1 := kC.next hb1
  have hB1 : Below w.heap.size w w1 := below_step hb1 (by simp) ((Below.refl _ _).alloc (Nat.le_refl _) _)
  have hs1 := hB1.size
  have kC10 : (w1).cell? ⟨w.heap.size, 0, none⟩ = some (.int .i64 A) := kC1.cell 0; have kC11 : (w1).cell? ⟨w.heap.size, 1, none⟩ = some (.int .i64 B) := kC1.cell 1; have kC1l : w.heap.size < (w1).heap.size := kC1.lt
  clear hb1 kC kC1
  cases hz : (dvE A B p x N == 0)
  · cases hy : ((N : Int) % 2 == 0)
    · go_wp2
      go_ret
      exact ⟨by rw [Int.toNat_natCast, hz, hy]; rfl, hB1⟩
    · go_wp2_with fail
      (go_at_call 37; refine (c_dpF A B x hA hB (by omega) _).mono ?_; rintro e w2 ⟨rfl, hb2⟩; obtain ⟨hc2, hf2⟩ := bcell hb2; have hz2 := hb2.size; (try simp only [World.size_alloc] at hz2); (try (have hy2 : w.heap.size < w2.heap.size := by omega)); (try (have hx2 := Nat.lt_of_succ_le hz2)); (try (have hv2 := Nat.lt_of_succ_le (Nat.le_of_lt hx2))); (try (have hy2_1 : w1.heap.size < w2.heap.size := by omega)))
      go_wp2_with (go_at_call 36; refine (c_mdMod _ _ (by omega) (by omega) _).mono ?_; rintro e w' ⟨rfl, rfl⟩)
      go_ret
      exact ⟨by rw [Int.toNat_natCast, hz, hy]; rfl, below_step hb2 hs1 hB1⟩
  · go_wp2
    go_ret
    exact ⟨by rw [Int.toNat_natCast, hz]; rfl, hB1⟩
theorem c_isDivided (A B p x n : Int) (h : fitB A B p x = true) (hn : 1 ≤ n ∧ n ≤ 40) (w : World) :
    Calls Tryz.prog 28 #[.agg #[.int .i64 A, .int .i64 B], .int .i64 p, .int .i64 x, .int .i64 n] w fun e w' => e = .returned (.bool (zB A B p x n)) ∧ Below w.heap.size w w' := by
  obtain ⟨hA, hB, hp, _, hx⟩ := fit_of h
  obtain ⟨N, rfl⟩ := Int.eq_ofNat_of_zero_le (show 0 ≤ n by omega)
  have i0 : (0 : Int) ≤ (N : Int) := by omega
  have kC : Blk w.heap.size #[.int .i64 A, .int .i64 B] 24 (w.alloc (.cells #[.int .i64 A, .int .i64 B] 24)) := Blk.new _ _ _
  unfold zB
  go_enter Tryz.func28, Tryz.ntmps28
  go_wp2_with fail
  (go_at_call 29; refine (c_divisionRow A B p x N h (by omega) _).mono ?_; rintro e w1 ⟨v, rfl, ho2, hb1⟩)
  obtain ⟨g, cap, rfl, hc⟩ := row_at (n := N) ho2 (by omega)
  have i1 : (N : Int) < ((5 + (N - 4) : Nat) : Int) := by omega
  generalize 5 + (N - 4) = len at i1 ⊢
  have kC1 := kC.next hb1
  have hB1 : Below w.heap.size w w1 := below_step hb1 (by simp) ((Below.refl _ _).alloc (Nat.le_refl _) _)
  have hs1 := hB1.size
  have kC10 : (w1).cell? ⟨w.heap.size, 0, none⟩ = some (.int .i64 A) := kC1.cell 0; have kC11 : (w1).cell? ⟨w.heap.size, 1, none⟩ = some (.int .i64 B) := kC1.cell 1; have kC1l : w.heap.size < (w1).heap.size := kC1.lt
  clear hb1 kC kC1
  cases hz : (dvE A B p x N == 0)
  · cases hy : ((N : Int) % 2 == 0)
    · go_wp2
      go_ret
      exact ⟨by rw [Int.toNat_natCast, hz, hy]; rfl, hB1⟩
    · go_wp2_with fail
      (go_at_call 30; refine (c_rightSide A B p x hA hB (by omega) (by omega) _).mono ?_; rintro e w2 ⟨rfl, hb2⟩; obtain ⟨hc2, hf2⟩ := bcell hb2; have hz2 := hb2.size; (try simp only [World.size_alloc] at hz2); (try (have hy2 : w.heap.size < w2.heap.size := by omega)); (try (have hx2 := Nat.lt_of_succ_le hz2)); (try (have hv2 := Nat.lt_of_succ_le (Nat.le_of_lt hx2))); (try (have hy2_1 : w1.heap.size < w2.heap.size := by omega)))
      go_wp2
      go_ret
      exact ⟨by rw [Int.toNat_natCast, hz, hy]; rfl, below_step hb2 hs1 hB1⟩
  · go_wp2
    go_ret
    exact ⟨by rw [Int.toNat_natCast, hz]; rfl, hB1⟩
theorem c_sIsDivided (A B p x n : Int) (w : World) :
    Calls Tryz.prog 12 #[.agg #[.int .i64 A, .int .i64 B], .int .i64 p, .int .i64 x, .int .i64 n] w fun e w' => e = .returned (.tuple #[.bool (dvOk A B p x n && zB A B p x n), .bool (dvOk A B p x n)]) ∧ Below w.heap.size w w' := by
  have h1 := c_dpAsked A B p x n
  cases ho : dvOk A B p x n
  · have hq : (fitB A B p x && inB n 1 40) = false := ho
    rw [hq] at h1
    have H1 := Lib.hid h1
    clear h1 hq
    go_enter Tryz.func12, Tryz.ntmps12
    go_wp2_with ((go_at_call 33; refine (H1.out _).mono ?_; rintro e w1 ⟨rfl, hb1⟩; obtain ⟨hc1, hf1⟩ := bcell hb1; have hz1 := hb1.size; (try simp only [World.size_alloc] at hz1); (try (have hy1 : w.heap.size < w1.heap.size := by omega)); (try (have hx1 := Nat.lt_of_succ_le hz1)); (try (have hv1 := Nat.lt_of_succ_le (Nat.le_of_lt hx1)))))
    go_ret2
    refine ⟨rfl, ?_⟩
    (repeat' (first | (with_reducible exact Below.refl _ _) | (with_reducible refine below_step (by assumption) ?_ ?_) | (with_reducible refine Below.alloc ?_ ?_ _) | (with_reducible refine Below.setCell ?_ ?_ _) | (with_reducible refine below_drewN ?_ _) | (with_reducible refine Below.drew ?_) | omega | (simp; omega) | (simp; done)))
  · have hq : (fitB A B p x && inB n 1 40) = true := ho
    rw [hq] at h1
    have H1 := Lib.hid h1
    clear h1 hq
    obtain ⟨hf, hn⟩ := dvOk_of ho
    go_enter Tryz.func12, Tryz.ntmps12
    go_wp2_with fail
    (go_at_call 33; refine (H1.out _).mono ?_; rintro e w1 ⟨rfl, hb1⟩; obtain ⟨hc1, hf1⟩ := bcell hb1; have hz1 := hb1.size; (try simp only [World.size_alloc] at hz1); (try (have hy1 : w.heap.size < w1.heap.size := by omega)); (try (have hx1 := Nat.lt_of_succ_le hz1)); (try (have hv1 := Nat.lt_of_succ_le (Nat.le_of_lt hx1))))
    go_wp2_with fail
    (go_at_call 34; refine (c_dpZero A B p x n hf hn _).mono ?_; rintro e w2 ⟨rfl, hb2⟩; obtain ⟨hc2, hf2⟩ := bcell hb2; have hz2 := hb2.size; (try simp only [World.size_alloc] at hz2); (try (have hy2 : w.heap.size < w2.heap.size := by omega)); (try (have hx2 := Nat.lt_of_succ_le hz2)); (try (have hv2 := Nat.lt_of_succ_le (Nat.le_of_lt hx2))); (try (have hy2_1 : w1.heap.size < w2.heap.size := by omega)))
    go_wp2
    go_ret2
    refine ⟨by simp, ?_⟩
    (repeat' (first | (with_reducible exact Below.refl _ _) | (with_reducible refine below_step (by assumption) ?_ ?_) | (with_reducible refine Below.alloc ?_ ?_ _) | (with_reducible refine Below.setCell ?_ ?_ _) | (with_reducible refine below_drewN ?_ _) | (with_reducible refine Below.drew ?_) | omega | (simp; omega) | (simp; done)))
theorem c_iIsDivided (A B p x n : Int) (w : World) :
    Calls Tryz.prog 11 #[.agg #[.int .i64 A, .int .i64 B], .int .i64 p, .int .i64 x, .int .i64 n] w fun e w' => e = .returned (.tuple #[.bool (dvOk A B p x n && zB A B p x n), .bool (dvOk A B p x n)]) ∧ Below w.heap.size w w' := by
  cases h1 : fitB A B p x
  · have hq : dvOk A B p x n = false := by unfold dvOk; rw [h1]; rfl
    rw [hq]
    go_enter Tryz.func11, Tryz.ntmps11
    go_wp2_with ((go_at_call 26; refine (c_divisionFits _ _ _ _ _).mono ?_; rintro e w1 ⟨rfl, hb1⟩; obtain ⟨hc1, hf1⟩ := bcell hb1; have hz1 := hb1.size; (try simp only [World.size_alloc] at hz1); (try (have hy1 : w.heap.size < w1.heap.size := by omega)); (try (have hx1 := Nat.lt_of_succ_le hz1)); (try (have hv1 := Nat.lt_of_succ_le (Nat.le_of_lt hx1)))))
    go_ret2
    refine ⟨rfl, ?_⟩
    (repeat' (first | (with_reducible exact Below.refl _ _) | (with_reducible refine below_step (by assumption) ?_ ?_) | (with_reducible refine Below.alloc ?_ ?_ _) | (with_reducible refine Below.setCell ?_ ?_ _) | (with_reducible refine below_drewN ?_ _) | (with_reducible refine Below.drew ?_) | omega | (simp; omega) | (simp; done)))
  · cases h2 : inB n 1 40
    · have hq : dvOk A B p x n = false := by unfold dvOk; rw [h1, h2]; rfl
      rw [hq]
      go_enter Tryz.func11, Tryz.ntmps11
      go_wp2_with (first | ((go_at_call 26; refine (c_divisionFits _ _ _ _ _).mono ?_; rintro e w1 ⟨rfl, hb1⟩; obtain ⟨hc1, hf1⟩ := bcell hb1; have hz1 := hb1.size; (try simp only [World.size_alloc] at hz1); (try (have hy1 : w.heap.size < w1.heap.size := by omega)); (try (have hx1 := Nat.lt_of_succ_le hz1)); (try (have hv1 := Nat.lt_of_succ_le (Nat.le_of_lt hx1))))) | (go_at_call 27; refine (c_inside _ _ _ _).mono ?_; rintro e w' ⟨rfl, rfl⟩))
      go_ret2
      refine ⟨rfl, ?_⟩
      (repeat' (first | (with_reducible exact Below.refl _ _) | (with_reducible refine below_step (by assumption) ?_ ?_) | (with_reducible refine Below.alloc ?_ ?_ _) | (with_reducible refine Below.setCell ?_ ?_ _) | (with_reducible refine below_drewN ?_ _) | (with_reducible refine Below.drew ?_) | omega | (simp; omega) | (simp; done)))
    · have hq : dvOk A B p x n = true := by unfold dvOk; rw [h1, h2]; rfl
      rw [hq]
      obtain ⟨hf, hn⟩ := dvOk_of hq
      clear hq
      go_enter Tryz.func11, Tryz.ntmps11
      go_wp2_with (first | ((go_at_call 26; refine (c_divisionFits _ _ _ _ _).mono ?_; rintro e w1 ⟨rfl, hb1⟩; obtain ⟨hc1, hf1⟩ := bcell hb1; have hz1 := hb1.size; (try simp only [World.size_alloc] at hz1); (try (have hy1 : w.heap.size < w1.heap.size := by omega)); (try (have hx1 := Nat.lt_of_succ_le hz1)); (try (have hv1 := Nat.lt_of_succ_le (Nat.le_of_lt hx1))))) | (go_at_call 27; refine (c_inside _ _ _ _).mono ?_; rintro e w' ⟨rfl, rfl⟩))
      (go_at_call 28; refine (c_isDivided A B p x n hf hn _).mono ?_; rintro e w2 ⟨rfl, hb2⟩; obtain ⟨hc2, hf2⟩ := bcell hb2; have hz2 := hb2.size; (try simp only [World.size_alloc] at hz2); (try (have hy2 : w.heap.size < w2.heap.size := by omega)); (try (have hx2 := Nat.lt_of_succ_le hz2)); (try (have hv2 := Nat.lt_of_succ_le (Nat.le_of_lt hx2))); (try (have hy2_1 : w1.heap.size < w2.heap.size := by omega)))
      go_wp2
      go_ret2
      refine ⟨by simp, ?_⟩
      (repeat' (first | (with_reducible exact Below.refl _ _) | (with_reducible refine below_step (by assumption) ?_ ?_) | (with_reducible refine Below.alloc ?_ ?_ _) | (with_reducible refine Below.setCell ?_ ?_ _) | (with_reducible refine below_drewN ?_ _) | (with_reducible refine Below.drew ?_) | omega | (simp; omega) | (simp; done)))
end Go.Proofs.YtgjdgcmmlfmhmaaGreatDoor
