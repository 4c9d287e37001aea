/- Walks: the x of multiples. -/
import Derived.Test.YtgjdgcmmlfmhmaaGreatDoorDvA
namespace Go.Proofs.YtgjdgcmmlfmhmaaGreatDoor
open Go.RowKit

theorem mul_powI (a b : Int) : ∀ k : Nat, (a * b) ^ k = a ^ k * b ^ k
  | 0 => by simp
  | k + 1 => by rw [Int.pow_succ, Int.pow_succ, Int.pow_succ, mul_powI a b k]; ac_rfl
theorem invM_mul (a b p : Int) : Cg p (invM (a * b) p) (invM a p * invM b p) := by
  unfold invM powM
  rw [mul_powI]
  exact Cg.mod' ((Cg.mod p _).symm.mul (Cg.mod p _).symm)
def mxV (A B p x : Int) (N : Nat) : Int :=
  if N % 2 = 1 then (x - dvE A B p x (N - 1) * dvE A B p x (N + 1) * (4 * (fV A B x % p)) * invM (dvE A B p x N * dvE A B p x N) p) % p
  else (x - dvE A B p x (N - 1) * dvE A B p x (N + 1) * invM (dvE A B p x N * dvE A B p x N * (4 * (fV A B x % p))) p) % p
theorem mx_oi (p x T I F : Int) : (x - T % p * I % p * (F % p) % p) % p = (x - T * F * I) % p ∧ (x - T % p * I % p * (F % p)) % p = (x - T * F * I) % p := by
  have r := Cg.refl p
  have h : Cg p (T % p * I % p * (F % p)) (T * F * I) := (((Cg.mod' ((Cg.mod p T).mul (r I))).mul (Cg.mod p F))).trans (by rw [Int.mul_right_comm]; exact r _)
  exact ⟨((r x).sub (Cg.mod' h)).eq, ((r x).sub h).eq⟩
theorem mx_ei (p x T F D : Int) : (x - T % p * invM D p % p * invM (F % p) p % p) % p = (x - T * invM (D * F) p) % p ∧ (x - T % p * invM D p % p * invM (F % p) p) % p = (x - T * invM (D * F) p) % p := by
  have r := Cg.refl p
  have h : Cg p (T % p * invM D p % p * invM (F % p) p) (T * invM (D * F) p) := by
    rw [invM_mod]
    refine ((Cg.mod' ((Cg.mod p T).mul (r _))).mul (r _)).trans ?_
    rw [Int.mul_assoc]
    exact (r T).mul (invM_mul D F p).symm
  exact ⟨((r x).sub (Cg.mod' h)).eq, ((r x).sub h).eq⟩
theorem mx_os (p x T F D : Int) : (x - T % p * (F % p) % p * invM (D % p) p % p) % p = (x - T * F * invM D p) % p ∧ (x - T % p * (F % p) % p * invM (D % p) p) % p = (x - T * F * invM D p) % p := by
  have r := Cg.refl p
  have h : Cg p (T % p * (F % p) % p * invM (D % p) p) (T * F * invM D p) := by
    rw [invM_mod]
    exact (Cg.mod' ((Cg.mod p T).mul (Cg.mod p F))).mul (r _)
  exact ⟨((r x).sub (Cg.mod' h)).eq, ((r x).sub h).eq⟩
theorem mx_es (p x T F D : Int) : (x - T % p * invM (D % p * (F % p) % p) p % p) % p = (x - T * invM (D * F) p) % p ∧ (x - T % p * invM (D % p * (F % p) % p) p) % p = (x - T * invM (D * F) p) % p := by
  have r := Cg.refl p
  have e : invM (D % p * (F % p) % p) p = invM (D * F) p := by
    rw [← invM_mod (D * F) p, ((Cg.mod p D).mul (Cg.mod p F)).eq]
  have h : Cg p (T % p * invM (D % p * (F % p) % p) p) (T * invM (D * F) p) := by
    rw [e]
    exact (Cg.mod p T).mul (r _)
  exact ⟨((r x).sub (Cg.mod' h)).eq, ((r x).sub h).eq⟩
theorem ret2i {a b : Int} {o : Bool} (h : a = b) : Ending.returned (.tuple #[.int .i64 a, .bool o]) = .returned (.tuple #[.int .i64 b, .bool o]) := by rw [h]
noncomputable def mxOk (A B p x n : Int) : Bool := dvOk A B p x n && !zB A B p x n
theorem dvE_bd {A B p x : Int} (hp : 5 ≤ p) (n : Nat) : 0 ≤ dvE A B p x n ∧ dvE A B p x n < p := eat_bd hp _ _
set_option maxHeartbeats 2000000 in
theorem c_iMultipleX (A B p x n : Int) (w : World) :
    Calls Tryz.prog 5 #[.agg #[.int .i64 A, .int .i64 B], .int .i64 p, .int .i64 x, .int .i64 n] w fun e w' => e = .returned (.tuple #[.int .i64 (rsZ (mxOk A B p x n) (mxV A B p x n.toNat)), .bool (mxOk A B p x n)]) ∧ Below w.heap.size w w' := by
  have kC : Blk w.heap.size #[.int .i64 A, .int .i64 B] 24 (w.alloc (.cells #[.int .i64 A, .int .i64 B] 24)) := Blk.new _ _ _
  cases h1 : fitB A B p x
  · have hq : mxOk A B p x n = false := by unfold mxOk dvOk; rw [h1]; rfl
    rw [hq]
    go_enter Tryz.func5, Tryz.ntmps5
    go_wp2_with ((go_at_call 26; refine (c_divisionFits _ _ _ _ _).mono ?_; rintro e w1 ⟨rfl, hb1⟩; obtain ⟨hc1, hf1⟩ := bcell hb1; have hz1 := hb1.size; (try simp only [World.size_alloc] at hz1); (try (have hy1 : w.heap.size < w1.heap.size := by omega)); (try (have hx1 := Nat.lt_of_succ_le hz1)); (try (have hv1 := Nat.lt_of_succ_le (Nat.le_of_lt hx1)))))
    go_ret2
    refine ⟨rfl, ?_⟩
    (repeat' (first | (with_reducible exact Below.refl _ _) | (with_reducible refine below_step (by assumption) ?_ ?_) | (with_reducible refine Below.alloc ?_ ?_ _) | (with_reducible refine Below.setCell ?_ ?_ _) | (with_reducible refine below_drewN ?_ _) | (with_reducible refine Below.drew ?_) | omega | (simp; omega) | (simp; done)))
  · cases h2 : inB n 1 40
    · have hq : mxOk A B p x n = false := by unfold mxOk dvOk; rw [h1, h2]; rfl
      rw [hq]
      go_enter Tryz.func5, Tryz.ntmps5
      go_wp2_with (first | ((go_at_call 26; refine (c_divisionFits _ _ _ _ _).mono ?_; rintro e w1 ⟨rfl, hb1⟩; obtain ⟨hc1, hf1⟩ := bcell hb1; have hz1 := hb1.size; (try simp only [World.size_alloc] at hz1); (try (have hy1 : w.heap.size < w1.heap.size := by omega)); (try (have hx1 := Nat.lt_of_succ_le hz1)); (try (have hv1 := Nat.lt_of_succ_le (Nat.le_of_lt hx1))))) | (go_at_call 27; refine (c_inside _ _ _ _).mono ?_; rintro e w' ⟨rfl, rfl⟩))
      go_ret2
      refine ⟨rfl, ?_⟩
      (repeat' (first | (with_reducible exact Below.refl _ _) | (with_reducible refine below_step (by assumption) ?_ ?_) | (with_reducible refine Below.alloc ?_ ?_ _) | (with_reducible refine Below.setCell ?_ ?_ _) | (with_reducible refine below_drewN ?_ _) | (with_reducible refine Below.drew ?_) | omega | (simp; omega) | (simp; done)))
    · have hn := inB_true h2
      cases h3 : zB A B p x n
      · have hq : mxOk A B p x n = true := by unfold mxOk dvOk; rw [h1, h2, h3]; rfl
        rw [hq]
        obtain ⟨hA, hB, hp, _, hx⟩ := fit_of h1
        obtain ⟨N, rfl⟩ := Int.eq_ofNat_of_zero_le (show 0 ≤ n by omega)
        have hpp : 1 ≤ p ∧ p ≤ 997 := by omega
        have hp0 : (p == 0) = false := by simp; omega
        have bf := mod_bd (fV A B x) p (by omega)
        have d0 := dvE_bd (A := A) (B := B) (x := x) hp.1 (N - 1)
        have d1 := dvE_bd (A := A) (B := B) (x := x) hp.1 N
        have d2 := dvE_bd (A := A) (B := B) (x := x) hp.1 (N + 1)
        obtain ⟨T1, T1'⟩ := pr_bd1 hpp d0 d2
        obtain ⟨D1, _⟩ := pr_bd1 hpp d1 d1
        have bI := invM_bd (dvE A B p x N * dvE A B p x N) p (by omega)
        obtain ⟨P1, P1'⟩ := pr_bd1 hpp T1' bI
        have bF := mod_bd (4 * (fV A B x % p)) p (by omega)
        obtain ⟨R1, R1'⟩ := pr_bd1 hpp P1' bF
        have bJ := invM_bd (4 * (fV A B x % p) % p) p (by omega)
        obtain ⟨S1, S1'⟩ := pr_bd1 hpp P1' bJ
        have HV : Hid (rsZ true (mxV A B p x (N : Int).toNat) = mxV A B p x N) := rfl
        rw [HV.out]
        clear hq
        go_enter Tryz.func5, Tryz.ntmps5
        go_wp2_with fail
        (go_at_call 26; refine (c_divisionFits _ _ _ _ _).mono ?_; rintro e w1 ⟨rfl, hb1⟩; obtain ⟨hc1, hf1⟩ := bcell hb1; have hz1 := hb1.size; (try simp only [World.size_alloc] at hz1); (try (have hy1 : w.heap.size < w1.heap.size := by omega)); (try (have hx1 := Nat.lt_of_succ_le hz1)); (try (have hv1 := Nat.lt_of_succ_le (Nat.le_of_lt hx1))))
        have kC1 := kC.next hb1
        have hB1 : Below w.heap.size w w1 := below_step hb1 (by simp) ((Below.refl _ _).alloc (Nat.le_refl _) _)
        clear hc1 hf1 hz1 hb1 kC
        have kC10 : (w1).cell? ⟨w.heap.size, 0, none⟩ = some (.int .i64 A) := kC1.cell 0; have kC11 : (w1).cell? ⟨w.heap.size, 1, none⟩ = some (.int .i64 B) := kC1.cell 1; have kC1l : w.heap.size < (w1).heap.size := kC1.lt
        go_wp2_with ((go_at_call 27; refine (c_inside _ _ _ _).mono ?_; rintro e w' ⟨rfl, rfl⟩))
        (go_at_call 28; refine (c_isDivided A B p x N h1 hn _).mono ?_; rintro e w2 ⟨rfl, hb2⟩; obtain ⟨hc2, hf2⟩ := bcell hb2; have hz2 := hb2.size; (try simp only [World.size_alloc] at hz2); (try (have hy2 : w.heap.size < w2.heap.size := by omega)); (try (have hx2 := Nat.lt_of_succ_le hz2)); (try (have hv2 := Nat.lt_of_succ_le (Nat.le_of_lt hx2))); (try (have hy2_1 : w1.heap.size < w2.heap.size := by omega)))
        have kC := kC1.next hb2
        have hB2 := below_step hb2 hB1.size hB1
        clear hc2 hf2 hz2 hb2 kC1 kC10 kC11 kC1l hB1
        have kC0 : (w2).cell? ⟨w.heap.size, 0, none⟩ = some (.int .i64 A) := kC.cell 0; have kC1 : (w2).cell? ⟨w.heap.size, 1, none⟩ = some (.int .i64 B) := kC.cell 1; have kCl : w.heap.size < (w2).heap.size := kC.lt
        go_wp2_with fail
        (go_at_call 29; refine (show Calls Tryz.prog _ #[_, _, _, .int .i64 ((N : Int) + 1)] _ _ from (by have h9 := c_divisionRow A B p x (N + 1) h1 (by omega) w2; rw [Int.natCast_add] at h9; exact h9)).mono ?_; rintro e w3 ⟨v, rfl, ho3, hb3⟩)
        obtain ⟨g, cap, rfl, c0⟩ := row_at (n := N - 1) ho3 (by omega)
        have c1 : w3.cell? ⟨g, N, none⟩ = some (.int .i64 (dvE A B p x N)) := by
          obtain ⟨g', cap', hv, h9⟩ := row_at (n := N) ho3 (by omega)
          injection hv with e1 _ _
          injection e1 with e1
          injection e1 with e1
          rw [e1]; exact h9
        have c2 : w3.cell? ⟨g, N + 1, none⟩ = some (.int .i64 (dvE A B p x (N + 1))) := by
          obtain ⟨g', cap', hv, h9⟩ := row_at (n := N + 1) ho3 (by omega)
          injection hv with e1 _ _
          injection e1 with e1
          injection e1 with e1
          rw [e1]; exact h9
        have lg := ho3.ge.2
        have i1 : (N : Int) + 1 < ((5 + (N + 1 - 4) : Nat) : Int) := by omega
        generalize 5 + (N + 1 - 4) = len at i1 ⊢
        have kC3 := kC.next hb3
        have hB3 := below_step hb3 hB2.size hB2
        clear hb3 kC kC0 kC1 kCl hB2 ho3
        have kC30 : (w3).cell? ⟨w.heap.size, 0, none⟩ = some (.int .i64 A) := kC3.cell 0; have kC31 : (w3).cell? ⟨w.heap.size, 1, none⟩ = some (.int .i64 B) := kC3.cell 1; have kC3l : w.heap.size < (w3).heap.size := kC3.lt
        go_wp2_with fail
        (go_at_call 30; refine (c_rightSide A B p x hA hB (by omega) (by omega) _).mono ?_; rintro e w4 ⟨rfl, hb4⟩; obtain ⟨hc4, hf4⟩ := bcell hb4; have hz4 := hb4.size; (try simp only [World.size_alloc] at hz4); (try (have hy4 : w.heap.size < w4.heap.size := by omega)); (try (have hx4 := Nat.lt_of_succ_le hz4)); (try (have hv4 := Nat.lt_of_succ_le (Nat.le_of_lt hx4))); (try (have hy4_1 : w1.heap.size < w4.heap.size := by omega)); (try (have hy4_2 : w2.heap.size < w4.heap.size := by omega)); (try (have hy4_3 : w3.heap.size < w4.heap.size := by omega)))
        have c0 : w4.cell? ⟨g, N - 1, none⟩ = some (.int .i64 (dvE A B p x (N - 1))) := (hc4 _ _ lg).trans c0
        have c1 : w4.cell? ⟨g, N, none⟩ = some (.int .i64 (dvE A B p x N)) := (hc4 _ _ lg).trans c1
        have c2 : w4.cell? ⟨g, N + 1, none⟩ = some (.int .i64 (dvE A B p x (N + 1))) := (hc4 _ _ lg).trans c2
        have hB4 := below_step hb4 hB3.size hB3
        have hs4 := hB4.size
        clear hc4 hf4 hz4 kC3 kC30 kC31 kC3l hB3 hb4
        have i0 : (0 : Int) ≤ (N : Int) := by omega
        go_wp2_with fail
        go_quiet ((go_at_call 31; exact Calls.quiet_of (c_inverse _ _ (by omega) (by omega) _)))
        have hBq := below_drewN hB4 nq
        by_cases ho : N % 2 = 1
        · have hb : ((N : Int) % 2 == 1) = true := by simp; omega
          go_wp2_with (go_at_call 32; refine (c_modulo _ _ (by omega) (by omega) _).mono ?_; rintro e w' ⟨rfl, rfl⟩)
          go_ret2
          refine ⟨ret2i ?_, hBq⟩
          unfold mxV
          rw [if_pos ho]
          first | exact (mx_oi _ _ _ _ _).1 | exact (mx_oi _ _ _ _ _).2
        · have hb : ((N : Int) % 2 == 1) = false := by simp; omega
          go_wp2_with (first | (go_at_call 32; refine (c_modulo _ _ (by omega) (by omega) _).mono ?_; rintro e w' ⟨rfl, rfl⟩) | (go_at_call 31; refine (c_inverse _ _ (by omega) (by omega) _).mono ?_; rintro e w' ⟨rfl, kd, rfl⟩))
          go_ret2
          refine ⟨ret2i ?_, ?_⟩
          · unfold mxV
            rw [if_neg ho]
            first | exact (mx_ei _ _ _ _ _).1 | exact (mx_ei _ _ _ _ _).2
          · first | exact below_drewN hB4 _ | exact below_drewN hBq _
      · have hq : mxOk A B p x n = false := by unfold mxOk dvOk; rw [h1, h2, h3]; rfl
        rw [hq]
        go_enter Tryz.func5, Tryz.ntmps5
        go_wp2_with fail
        (go_at_call 26; refine (c_divisionFits _ _ _ _ _).mono ?_; rintro e w1 ⟨rfl, hb1⟩; obtain ⟨hc1, hf1⟩ := bcell hb1; have hz1 := hb1.size; (try simp only [World.size_alloc] at hz1); (try (have hy1 : w.heap.size < w1.heap.size := by omega)); (try (have hx1 := Nat.lt_of_succ_le hz1)); (try (have hv1 := Nat.lt_of_succ_le (Nat.le_of_lt hx1))))
        have kC1 := kC.next hb1
        have hB1 : Below w.heap.size w w1 := below_step hb1 (by simp) ((Below.refl _ _).alloc (Nat.le_refl _) _)
        have hs1 := hB1.size
        clear hc1 hf1 hz1 hb1 kC
        have kC10 : (w1).cell? ⟨w.heap.size, 0, none⟩ = some (.int .i64 A) := kC1.cell 0; have kC11 : (w1).cell? ⟨w.heap.size, 1, none⟩ = some (.int .i64 B) := kC1.cell 1; have kC1l : w.heap.size < (w1).heap.size := kC1.lt
        go_wp2_with ((go_at_call 27; refine (c_inside _ _ _ _).mono ?_; rintro e w' ⟨rfl, rfl⟩))
        (go_at_call 28; refine (c_isDivided A B p x n h1 hn _).mono ?_; rintro e w2 ⟨rfl, hb2⟩; obtain ⟨hc2, hf2⟩ := bcell hb2; have hz2 := hb2.size; (try simp only [World.size_alloc] at hz2); (try (have hy2 : w.heap.size < w2.heap.size := by omega)); (try (have hx2 := Nat.lt_of_succ_le hz2)); (try (have hv2 := Nat.lt_of_succ_le (Nat.le_of_lt hx2))); (try (have hy2_1 : w1.heap.size < w2.heap.size := by omega)))
        go_wp2
        go_ret2
        exact ⟨rfl, below_step hb2 hs1 hB1⟩
set_option maxHeartbeats 2000000 in
theorem c_sMultipleX (A B p x n : Int) (w : World) :
    Calls Tryz.prog 6 #[.agg #[.int .i64 A, .int .i64 B], .int .i64 p, .int .i64 x, .int .i64 n] w fun e w' => e = .returned (.tuple #[.int .i64 (rsZ (mxOk A B p x n) (mxV A B p x n.toNat)), .bool (mxOk A B p x n)]) ∧ Below w.heap.size w w' := by
  have kC : Blk w.heap.size #[.int .i64 A, .int .i64 B] 24 (w.alloc (.cells #[.int .i64 A, .int .i64 B] 24)) := Blk.new _ _ _
  have h0 := c_dpAsked A B p x n
  cases hd : dvOk A B p x n
  · have hq : mxOk A B p x n = false := by unfold mxOk; rw [hd]; rfl
    have hd' : (fitB A B p x && inB n 1 40) = false := hd
    rw [hd'] at h0
    have H0 := Lib.hid h0
    clear h0 hd'
    rw [hq]
    go_enter Tryz.func6, Tryz.ntmps6
    go_wp2_with ((go_at_call 33; refine (H0.out _).mono ?_; rintro e w1 ⟨rfl, hb1⟩; obtain ⟨hc1, hf1⟩ := bcell hb1; have hz1 := hb1.size; (try simp only [World.size_alloc] at hz1); (try (have hy1 : w.heap.size < w1.heap.size := by omega)); (try (have hx1 := Nat.lt_of_succ_le hz1)); (try (have hv1 := Nat.lt_of_succ_le (Nat.le_of_lt hx1)))))
    go_ret2
    refine ⟨rfl, ?_⟩
    (repeat' (first | (with_reducible exact Below.refl _ _) | (with_reducible refine below_step (by assumption) ?_ ?_) | (with_reducible refine Below.alloc ?_ ?_ _) | (with_reducible refine Below.setCell ?_ ?_ _) | (with_reducible refine below_drewN ?_ _) | (with_reducible refine Below.drew ?_) | omega | (simp; omega) | (simp; done)))
  · have hd' : (fitB A B p x && inB n 1 40) = true := hd
    rw [hd'] at h0
    have H0 := Lib.hid h0
    clear h0 hd'
    obtain ⟨h1, hn⟩ := dvOk_of hd
    cases h3 : zB A B p x n
    · have hq : mxOk A B p x n = true := by unfold mxOk; rw [hd, h3]; rfl
      rw [hq]
      obtain ⟨hA, hB, hp, _, hx⟩ := fit_of h1
      obtain ⟨N, rfl⟩ := Int.eq_ofNat_of_zero_le (show 0 ≤ n by omega)
      have hpp : 1 ≤ p ∧ p ≤ 997 := by omega
      have hp0 : (p == 0) = false := by simp; omega
      have fb := fV_bd (p := p) hA (x := x) (by omega) (by omega)
      have hfb : -2000000000 ≤ fV A B x ∧ fV A B x ≤ 2000000000 := by unfold fV; omega
      clear fb
      have bf := mod_bd (fV A B x) p (by omega)
      have d0 := dvE_bd (A := A) (B := B) (x := x) hp.1 (N - 1)
      have d1 := dvE_bd (A := A) (B := B) (x := x) hp.1 N
      have d2 := dvE_bd (A := A) (B := B) (x := x) hp.1 (N + 1)
      obtain ⟨T1, T1'⟩ := pr_bd1 hpp d0 d2
      obtain ⟨D1, D1'⟩ := pr_bd1 hpp d1 d1
      have bF := mod_bd (4 * (fV A B x % p)) p (by omega)
      obtain ⟨P1, P1'⟩ := pr_bd1 hpp T1' bF
      obtain ⟨Q1, Q1'⟩ := pr_bd1 hpp D1' bF
      have bI := invM_bd (dvE A B p x N * dvE A B p x N % p) p (by omega)
      have bJ := invM_bd (dvE A B p x N * dvE A B p x N % p * (4 * (fV A B x % p) % p) % p) p (by omega)
      obtain ⟨R1, R1'⟩ := pr_bd1 hpp P1' bI
      obtain ⟨S1, S1'⟩ := pr_bd1 hpp T1' bJ
      have HV : Hid (rsZ true (mxV A B p x (N : Int).toNat) = mxV A B p x N) := rfl
      rw [HV.out]
      clear hq
      go_enter Tryz.func6, Tryz.ntmps6
      go_wp2_with fail
      (go_at_call 33; refine (H0.out _).mono ?_; rintro e w1 ⟨rfl, hb1⟩; obtain ⟨hc1, hf1⟩ := bcell hb1; have hz1 := hb1.size; (try simp only [World.size_alloc] at hz1); (try (have hy1 : w.heap.size < w1.heap.size := by omega)); (try (have hx1 := Nat.lt_of_succ_le hz1)); (try (have hv1 := Nat.lt_of_succ_le (Nat.le_of_lt hx1))))
      have kC1 := kC.next hb1
      have hB1 : Below w.heap.size w w1 := below_step hb1 (by simp) ((Below.refl _ _).alloc (Nat.le_refl _) _)
      clear hc1 hf1 hz1 hb1 kC
      have kC10 : (w1).cell? ⟨w.heap.size, 0, none⟩ = some (.int .i64 A) := kC1.cell 0; have kC11 : (w1).cell? ⟨w.heap.size, 1, none⟩ = some (.int .i64 B) := kC1.cell 1; have kC1l : w.heap.size < (w1).heap.size := kC1.lt
      go_wp2_with fail
      (go_at_call 34; refine (c_dpZero A B p x N h1 hn _).mono ?_; rintro e w2 ⟨rfl, hb2⟩; obtain ⟨hc2, hf2⟩ := bcell hb2; have hz2 := hb2.size; (try simp only [World.size_alloc] at hz2); (try (have hy2 : w.heap.size < w2.heap.size := by omega)); (try (have hx2 := Nat.lt_of_succ_le hz2)); (try (have hv2 := Nat.lt_of_succ_le (Nat.le_of_lt hx2))); (try (have hy2_1 : w1.heap.size < w2.heap.size := by omega)))
      have kC := kC1.next hb2
      have hB2 := below_step hb2 hB1.size hB1
      clear hc2 hf2 hz2 hb2 kC1 kC10 kC11 kC1l hB1
      have kC0 : (w2).cell? ⟨w.heap.size, 0, none⟩ = some (.int .i64 A) := kC.cell 0; have kC1 : (w2).cell? ⟨w.heap.size, 1, none⟩ = some (.int .i64 B) := kC.cell 1; have kCl : w.heap.size < (w2).heap.size := kC.lt
      go_wp2_with fail
      (go_at_call 35; refine (c_dpRow A B p x N h1 (by omega) w2).mono ?_; rintro e w3 ⟨v, rfl, ho3, hb3⟩)
      obtain ⟨g, cap, rfl, c0⟩ := row_at (n := N - 1) ho3 (by omega)
      have c1 : w3.cell? ⟨g, N, none⟩ = some (.int .i64 (dvE A B p x N)) := by
        obtain ⟨g', cap', hv, h9⟩ := row_at (n := N) ho3 (by omega)
        injection hv with e1 _ _
        injection e1 with e1
        injection e1 with e1
        rw [e1]; exact h9
      have c2 : w3.cell? ⟨g, N + 1, none⟩ = some (.int .i64 (dvE A B p x (N + 1))) := by
        obtain ⟨g', cap', hv, h9⟩ := row_at (n := N + 1) ho3 (by omega)
        injection hv with e1 _ _
        injection e1 with e1
        injection e1 with e1
        rw [e1]; exact h9
      have lg := ho3.ge.2
      have i1 : (N : Int) + 1 < ((5 + (N - 3) : Nat) : Int) := by omega
      generalize 5 + (N - 3) = len at i1 ⊢
      have kC3 := kC.next hb3
      have hB3 := below_step hb3 hB2.size hB2
      clear hb3 kC kC0 kC1 kCl hB2 ho3
      have kC30 : (w3).cell? ⟨w.heap.size, 0, none⟩ = some (.int .i64 A) := kC3.cell 0; have kC31 : (w3).cell? ⟨w.heap.size, 1, none⟩ = some (.int .i64 B) := kC3.cell 1; have kC3l : w.heap.size < (w3).heap.size := kC3.lt
      go_wp2_with fail
      (go_at_call 37; refine (c_dpF A B x hA hB (by omega) _).mono ?_; rintro e w4 ⟨rfl, hb4⟩; obtain ⟨hc4, hf4⟩ := bcell hb4; have hz4 := hb4.size; (try simp only [World.size_alloc] at hz4); (try (have hy4 : w.heap.size < w4.heap.size := by omega)); (try (have hx4 := Nat.lt_of_succ_le hz4)); (try (have hv4 := Nat.lt_of_succ_le (Nat.le_of_lt hx4))); (try (have hy4_1 : w1.heap.size < w4.heap.size := by omega)); (try (have hy4_2 : w2.heap.size < w4.heap.size := by omega)); (try (have hy4_3 : w3.heap.size < w4.heap.size := by omega)))
      have c0 : w4.cell? ⟨g, N - 1, none⟩ = some (.int .i64 (dvE A B p x (N - 1))) := (hc4 _ _ lg).trans c0
      have c1 : w4.cell? ⟨g, N, none⟩ = some (.int .i64 (dvE A B p x N)) := (hc4 _ _ lg).trans c1
      have c2 : w4.cell? ⟨g, N + 1, none⟩ = some (.int .i64 (dvE A B p x (N + 1))) := (hc4 _ _ lg).trans c2
      have hB4 := below_step hb4 hB3.size hB3
      clear hc4 hf4 hz4 kC3 kC30 kC31 kC3l hB3 hb4
      have i0 : (0 : Int) ≤ (N : Int) := by omega
      go_wp2_with (go_at_call 36; refine (c_mdMod _ _ (by omega) (by omega) _).mono ?_; rintro e w' ⟨rfl, rfl⟩)
      go_quiet (fail)
      have hBq := below_drewN hB4 nq
      by_cases ho : N % 2 = 1
      · have hb : ((N : Int) % 2 == 1) = true := by simp; omega
        go_wp2_with (first | (go_at_call 36; refine (c_mdMod _ _ (by omega) (by omega) _).mono ?_; rintro e w' ⟨rfl, rfl⟩) | (go_at_call 38; refine (c_mdInverse _ _ (by omega) (by omega) _).mono ?_; rintro e w' ⟨rfl, rfl⟩))
        go_ret2
        refine ⟨ret2i ?_, hBq⟩
        unfold mxV
        rw [if_pos ho]
        first | exact (mx_os _ _ _ _ _).1 | exact (mx_os _ _ _ _ _).2
      · have hb : ((N : Int) % 2 == 1) = false := by simp; omega
        go_wp2_with (first | (go_at_call 36; refine (c_mdMod _ _ (by omega) (by omega) _).mono ?_; rintro e w' ⟨rfl, rfl⟩) | (go_at_call 38; refine (c_mdInverse _ _ (by omega) (by omega) _).mono ?_; rintro e w' ⟨rfl, rfl⟩))
        go_ret2
        refine ⟨ret2i ?_, hBq⟩
        unfold mxV
        rw [if_neg ho]
        first | exact (mx_es _ _ _ _ _).1 | exact (mx_es _ _ _ _ _).2
    · have hq : mxOk A B p x n = false := by unfold mxOk; rw [hd, h3]; rfl
      rw [hq]
      go_enter Tryz.func6, Tryz.ntmps6
      go_wp2_with fail
      (go_at_call 33; refine (H0.out _).mono ?_; rintro e w1 ⟨rfl, hb1⟩; obtain ⟨hc1, hf1⟩ := bcell hb1; have hz1 := hb1.size; (try simp only [World.size_alloc] at hz1); (try (have hy1 : w.heap.size < w1.heap.size := by omega)); (try (have hx1 := Nat.lt_of_succ_le hz1)); (try (have hv1 := Nat.lt_of_succ_le (Nat.le_of_lt hx1))))
      have kC1 := kC.next hb1
      have hB1 : Below w.heap.size w w1 := below_step hb1 (by simp) ((Below.refl _ _).alloc (Nat.le_refl _) _)
      have hs1 := hB1.size
      clear hc1 hf1 hz1 hb1 kC
      have kC10 : (w1).cell? ⟨w.heap.size, 0, none⟩ = some (.int .i64 A) := kC1.cell 0; have kC11 : (w1).cell? ⟨w.heap.size, 1, none⟩ = some (.int .i64 B) := kC1.cell 1; have kC1l : w.heap.size < (w1).heap.size := kC1.lt
      go_wp2_with fail
      (go_at_call 34; refine (c_dpZero A B p x n h1 hn _).mono ?_; rintro e w2 ⟨rfl, hb2⟩; obtain ⟨hc2, hf2⟩ := bcell hb2; have hz2 := hb2.size; (try simp only [World.size_alloc] at hz2); (try (have hy2 : w.heap.size < w2.heap.size := by omega)); (try (have hx2 := Nat.lt_of_succ_le hz2)); (try (have hv2 := Nat.lt_of_succ_le (Nat.le_of_lt hx2))); (try (have hy2_1 : w1.heap.size < w2.heap.size := by omega)))
      go_wp2
      go_ret2
      exact ⟨rfl, below_step hb2 hs1 hB1⟩
end Go.Proofs.YtgjdgcmmlfmhmaaGreatDoor
