/- Walks: rows of division values. -/
import Derived.Test.YtgjdgcmmlfmhmaaGreatDoorDivA
import Derived.Test.YtgjdgcmmlfmhmaaGreatDoorDvPlain
import Derived.Test.YtgjdgcmmlfmhmaaGreatDoorApp
namespace Go.Proofs.YtgjdgcmmlfmhmaaGreatDoor
open Go.RowKit

theorem pow_bd {e p : Int} (h0 : 0 ≤ e) (h1 : e < p) (hp : p ≤ 997) : (0 ≤ e * e ∧ e * e ≤ 994009) ∧ (0 ≤ e * e % p ∧ e * e % p < p) ∧ (0 ≤ e * e % p * e ∧ e * e % p * e ≤ 994009) := by
  have h2 := mulb (x := e) (y := e) 997 997 (by omega) (by omega)
  have h3 := Int.mul_nonneg h0 h0
  have h4 := mod_bd (e * e) p (by omega)
  have h5 := mulb (x := e * e % p) (y := e) 997 997 (by omega) (by omega)
  have h6 := Int.mul_nonneg h4.1 h0
  omega
theorem c_dvCube (bx px g n cap base m : Nat) (i p : Int) (hi : i = (m : Int)) (xs : List Int) (w : World) (hp : 5 ≤ p ∧ p ≤ 997) (hb : w.cell? ⟨bx, 0, none⟩ = some (.slice (some ⟨g, 0, none⟩) n cap)) (hpx : w.cell? ⟨px, 0, none⟩ = some (.int .i64 p))
    (ho : OwnsI w base (.slice (some ⟨g, 0, none⟩) n cap) xs) (hm : m < xs.length) (hn : n = xs.length) (hbd : ∀ i, 0 ≤ eat xs i ∧ eat xs i < p) (_ : n < 1000) :
    Calls Tryz.prog 66 #[.int .i64 i, .pointer (some ⟨bx, 0, none⟩), .pointer (some ⟨px, 0, none⟩)] w fun e w' => e = .returned (.int .i64 (eat xs m * eat xs m % p * eat xs m % p)) ∧ ∃ k, w' = w.drewN k := by
  subst hi
  have hc : w.cell? ⟨g, m, none⟩ = some (.int .i64 (eat xs m)) := ho.cell hm
  obtain ⟨e0, e1⟩ := hbd m
  generalize eat xs m = y at *
  obtain ⟨b1, b2, b3⟩ := pow_bd e0 e1 hp.2
  have i0 : (0 : Int) ≤ (m : Int) := by omega
  have i1 : (m : Int) < (n : Int) := by omega
  have hp0 : (p == 0) = false := by simp; omega
  clear hbd hn ho
  go_enter Tryz.func66, Tryz.ntmps66
  go_wp2
  go_quiet (fail)
  go_wp2
  go_ret
  exact ⟨rfl, _, rfl⟩
theorem c_dvSquare (bx px g n cap base m : Nat) (i p : Int) (hi : i = (m : Int)) (xs : List Int) (w : World) (hp : 5 ≤ p ∧ p ≤ 997) (hb : w.cell? ⟨bx, 0, none⟩ = some (.slice (some ⟨g, 0, none⟩) n cap)) (hpx : w.cell? ⟨px, 0, none⟩ = some (.int .i64 p))
    (ho : OwnsI w base (.slice (some ⟨g, 0, none⟩) n cap) xs) (hm : m < xs.length) (hn : n = xs.length) (hbd : ∀ i, 0 ≤ eat xs i ∧ eat xs i < p) (_ : n < 1000) :
    Calls Tryz.prog 67 #[.int .i64 i, .pointer (some ⟨bx, 0, none⟩), .pointer (some ⟨px, 0, none⟩)] w fun e w' => e = .returned (.int .i64 (eat xs m * eat xs m % p)) ∧ ∃ k, w' = w.drewN k := by
  subst hi
  have hc : w.cell? ⟨g, m, none⟩ = some (.int .i64 (eat xs m)) := ho.cell hm
  obtain ⟨e0, e1⟩ := hbd m
  generalize eat xs m = y at *
  obtain ⟨b1, b2, b3⟩ := pow_bd e0 e1 hp.2
  have i0 : (0 : Int) ≤ (m : Int) := by omega
  have i1 : (m : Int) < (n : Int) := by omega
  have hp0 : (p == 0) = false := by simp; omega
  clear hbd hn ho
  go_enter Tryz.func67, Tryz.ntmps67
  go_wp2
  go_quiet (fail)
  go_wp2
  go_ret
  exact ⟨rfl, _, rfl⟩
theorem pr_bd {u v p : Int} (c : Int) (hc : 0 ≤ c) (hp : 1 ≤ p ∧ p ≤ 997) (hu : 0 ≤ u ∧ u < p) (hv : 0 ≤ v ∧ v < p) : (0 ≤ c * u * v ∧ c * u * v ≤ c * 994009) ∧ (0 ≤ c * u * v % p ∧ c * u * v % p < p) := by
  have h1 := mulb (x := u) (y := v) 997 997 (by omega) (by omega)
  have h2 := Int.mul_nonneg hu.1 hv.1
  have h3 := Int.mul_nonneg hc h2
  have h4 := Int.mul_le_mul_of_nonneg_left (show u * v ≤ 994009 by omega) hc
  have h5 := mod_bd (c * u * v) p (by omega)
  rw [Int.mul_assoc] at h5 ⊢
  omega
theorem pr_bd1 {u v p : Int} (hp : 1 ≤ p ∧ p ≤ 997) (hu : 0 ≤ u ∧ u < p) (hv : 0 ≤ v ∧ v < p) : (0 ≤ u * v ∧ u * v ≤ 994009) ∧ (0 ≤ u * v % p ∧ u * v % p < p) := by
  have := pr_bd 1 (by omega) hp hu hv
  simpa using this
set_option maxHeartbeats 4000000 in
set_option maxRecDepth 100000 in
theorem c_divisionRow (A B p x : Int) (N : Nat) (h : fitB A B p x = true) (hN : N ≤ 41) (w : World) :
    Calls Tryz.prog 29 #[.agg #[.int .i64 A, .int .i64 B], .int .i64 p, .int .i64 x, .int .i64 N] w fun e w' => ∃ v, e = .returned v ∧ OwnsI w' w.heap.size v (dvL A B p x (N - 4)) ∧ Below w.heap.size w w' := by
  obtain ⟨hA, hB, hp, _, hx⟩ := fit_of h
  have hp0 : (p == 0) = false := by simp; omega
  have kC := (Blk.new w #[.int .i64 A, .int .i64 B] 24).alloc (.cells #[.int .i64 p] 3)
  have kp := Blk.new (w.alloc (.cells #[.int .i64 A, .int .i64 B] 24)) #[.int .i64 p] 3
  have hB0 : Below w.heap.size w ((w.alloc (.cells #[.int .i64 A, .int .i64 B] 24)).alloc (.cells #[.int .i64 p] 3)) := by (repeat' (first | (with_reducible exact Below.refl _ _) | (with_reducible refine below_step (by assumption) ?_ ?_) | (with_reducible refine Below.alloc ?_ ?_ _) | (with_reducible refine Below.setCell ?_ ?_ _) | (with_reducible refine below_drewN ?_ _) | (with_reducible refine Below.drew ?_) | omega | (simp; omega) | (simp; done)))
  go_enter Tryz.func29, Tryz.ntmps29
  go_wp2
  simp only [World.size_alloc] at kp
  obtain ⟨px, hpx⟩ : ∃ px, px = w.heap.size + 1 := ⟨_, rfl⟩
  simp only [← hpx] at kp ⊢
  generalize (w.alloc (.cells #[.int .i64 A, .int .i64 B] 24)).alloc (.cells #[.int .i64 p] 3) = W at kC kp hB0 ⊢
  have hpc : w.heap.size < px := by omega
  clear hpx
  have kC0 : (W).cell? ⟨w.heap.size, 0, none⟩ = some (.int .i64 A) := kC.cell 0; have kC1 : (W).cell? ⟨w.heap.size, 1, none⟩ = some (.int .i64 B) := kC.cell 1; have kCl : w.heap.size < (W).heap.size := kC.lt
  have kp0 : (W).cell? ⟨px, 0, none⟩ = some (.int .i64 p) := kp.cell 0; have kpl : px < (W).heap.size := kp.lt
  go_quiet ((go_at_call 32; exact quiet_left (c_modulo _ _ (by omega) (by omega) _)))
  have HA := Lib.hid (show A % p = A % p from rfl)
  have ba := mod_bd A p (by omega)
  have bb := mod_bd B p (by omega)
  generalize ha : A % p = a at HA ba ⊢
  generalize hb : B % p = b at bb ⊢
  have Ha := Lib.hid ha
  have Hb := Lib.hid hb
  clear HA ha hb
  obtain ⟨q1, q2⟩ := pr_bd1 (u := x) (v := x) (p := p) (by omega) (by omega) (by omega)
  obtain ⟨q3, q4⟩ := pr_bd1 (u := x * x % p) (v := x) (p := p) (by omega) q2 (by omega)
  go_wp2_with fail
  (go_at_call 30; refine (c_rightSide A B p x hA hB (by omega) (by omega) _).mono ?_; rintro e w1 ⟨rfl, hb1⟩; obtain ⟨hc1, hf1⟩ := bcell hb1; have hz1 := hb1.size; (try simp only [World.size_alloc] at hz1); (try (have hy1 : w.heap.size < w1.heap.size := by omega)); (try (have hx1 := Nat.lt_of_succ_le hz1)); (try (have hv1 := Nat.lt_of_succ_le (Nat.le_of_lt hx1))))
  have kp1 := (kp.drewN nq).next hb1
  have hB1 : Below w.heap.size w w1 := below_step hb1 hB0.size (below_drewN hB0 nq)
  clear hc1 hf1 hz1 hb1 kC kp kC0 kC1 kCl kp0 kpl hB0
  have kp10 : (w1).cell? ⟨px, 0, none⟩ = some (.int .i64 p) := kp1.cell 0; have kp1l : px < (w1).heap.size := kp1.lt
  have bf := mod_bd (fV A B x) p (by omega)
  generalize hf : fV A B x % p = f at bf ⊢
  have Hf := Lib.hid hf
  clear hf
  go_wp2_with fail
  generalize hx2 : x * x % p = x2 at q2 q3 q4 ⊢
  generalize hx3 : x2 * x % p = x3 at q4 ⊢
  have Hx2 := Lib.hid hx2
  have Hx3 := Lib.hid hx3
  clear hx2 hx3 q1 q3
  have hpp : 1 ≤ p ∧ p ≤ 997 := by omega
  have g1 := mod_bd (16 * f) p (by omega)
  obtain ⟨g2, g3⟩ := pr_bd1 hpp g1 bf
  have hxx : 0 ≤ x ∧ x < p := by omega
  go_quiet (fail)
  obtain ⟨s1, s2⟩ := pr_bd1 hpp ba ba
  obtain ⟨r1, _⟩ := pr_bd 3 (by omega) hpp q2 q2
  obtain ⟨r2, _⟩ := pr_bd 6 (by omega) hpp ba q2
  obtain ⟨r3, _⟩ := pr_bd 12 (by omega) hpp bb hxx
  go_wp2_with fail
  (go_at_call 32; refine (c_modulo _ _ (by omega) (by omega) _).mono ?_; rintro e w' ⟨rfl, rfl⟩)
  have T3 := mod_bd (3 * x2 * x2 + 6 * a * x2 + 12 * b * x - a * a % p) p (by omega)
  have HT3 : (3 * x2 * x2 + 6 * a * x2 + 12 * b * x - a * a % p) % p = dvT A B x % p := by rw [← Hx2.out, ← Ha.out, ← Hb.out]; exact dvT_impl A B p x
  generalize hg : 16 * f % p * f % p = g at g3 ⊢
  have Hg : Hid (g = dvG A B x p) := by show _ = _; rw [← hg]; exact dvG_impl A B p x f Hf.out.symm
  generalize (3 * x2 * x2 + 6 * a * x2 + 12 * b * x - a * a % p) % p = t3 at T3 HT3 ⊢
  have Ht3 := Lib.hid HT3
  generalize ha2 : a * a % p = a2 at s2 ⊢
  have Ha2 := Lib.hid ha2
  clear hg ha2 g1 g2 s1 HT3 r1 r2 r3
  obtain ⟨u1, u1'⟩ := pr_bd1 hpp q4 q4
  obtain ⟨u2, u2'⟩ := pr_bd 5 (by omega) hpp ba q2
  obtain ⟨u3, u3'⟩ := pr_bd1 hpp u2' q2
  obtain ⟨u4, u4'⟩ := pr_bd 20 (by omega) hpp bb q4
  obtain ⟨u5, u5'⟩ := pr_bd 5 (by omega) hpp s2 q2
  obtain ⟨u6, u6'⟩ := pr_bd 4 (by omega) hpp ba bb
  obtain ⟨u7, u7'⟩ := pr_bd1 hpp u6' hxx
  obtain ⟨u8, u8'⟩ := pr_bd 8 (by omega) hpp bb bb
  obtain ⟨u9, u9'⟩ := pr_bd1 hpp s2 ba
  go_wp2_with fail
  have kp2 := kp1.drewN nq
  have hB2 := below_drewN hB1 nq
  generalize w1.drewN nq = w2 at kp2 hB2 ⊢
  clear kp1 hB1 kp10 kp1l
  have kp20 : (w2).cell? ⟨px, 0, none⟩ = some (.int .i64 p) := kp2.cell 0; have kp2l : px < (w2).heap.size := kp2.lt
  go_quiet ((go_at_call 32; exact quiet_left (c_modulo _ _ (by omega) (by omega) _)))
  clear u1 u2 u3 u4 u5 u6 u7 u8 u9
  have T4 := mod_bd (2 * (x3 * x3 % p + 5 * a * x2 % p * x2 % p + 20 * b * x3 % p - 5 * a2 * x2 % p - 4 * a * b % p * x % p - 8 * b * b % p - a2 * a % p)) p (by omega)
  have HT4 := dvQ_impl A B p x x2 x3 a b a2 Hx2.out.symm Hx3.out.symm Ha.out.symm Hb.out.symm Ha2.out.symm
  generalize (2 * (x3 * x3 % p + 5 * a * x2 % p * x2 % p + 20 * b * x3 % p - 5 * a2 * x2 % p - 4 * a * b % p * x % p - 8 * b * b % p - a2 * a % p)) % p = t4 at T4 HT4 ⊢
  have Ht4 := Lib.hid HT4
  clear HT4 u1' u2' u3' u4' u5' u6' u7' u8' u9'
  go_wp2_with fail
  have kd := Blk.new ((w2.drewN nq).alloc (.cells #[.int .i64 0, .int .i64 1, .int .i64 1, .int .i64 t3, .int .i64 t4] 3)) #[.slice (some ⟨w2.heap.size, 0, none⟩) 5 5] 29
  have kr := (Blk.new (w2.drewN nq) #[.int .i64 0, .int .i64 1, .int .i64 1, .int .i64 t3, .int .i64 t4] 3).alloc (.cells #[.slice (some ⟨w2.heap.size, 0, none⟩) 5 5] 29)
  have kp3 := ((kp2.drewN nq).alloc (.cells #[.int .i64 0, .int .i64 1, .int .i64 1, .int .i64 t3, .int .i64 t4] 3)).alloc (.cells #[.slice (some ⟨w2.heap.size, 0, none⟩) 5 5] 29)
  have hB3 : Below w.heap.size w (((w2.drewN nq).alloc (.cells #[.int .i64 0, .int .i64 1, .int .i64 1, .int .i64 t3, .int .i64 t4] 3)).alloc (.cells #[.slice (some ⟨w2.heap.size, 0, none⟩) 5 5] 29)) := by
    have := hB2.size
    exact ((below_drewN hB2 nq).alloc (by simp; omega) _).alloc (by simp; omega) _
  have hw2 := hB2.size
  simp only [World.size_alloc, World.heap_drewN] at kd kr
  generalize ((w2.drewN nq).alloc (.cells #[.int .i64 0, .int .i64 1, .int .i64 1, .int .i64 t3, .int .i64 t4] 3)).alloc (.cells #[.slice (some ⟨w2.heap.size, 0, none⟩) 5 5] 29) = W3 at kd kr kp3 hB3 ⊢
  have ho3 : OwnsI W3 w2.heap.size (.slice (some ⟨w2.heap.size, 0, none⟩) 5 5) (dvL A B p x 0) := by
    refine OwnsI.ofBlk rfl ?_ (Nat.le_refl _) (by omega)
    simp only [dvL, List.map_cons, List.map_nil, ← Ht3.out, ← Ht4.out]
    exact kr
  generalize hb2 : w2.heap.size = b2 at kd ho3 kp2l hw2 ⊢
  obtain ⟨bx, hbx⟩ : ∃ bx, bx = b2 + 1 := ⟨_, rfl⟩
  simp only [← hbx] at kd ⊢
  have hbb : b2 < bx := by omega
  clear hb2 hbx kr kp2 hB2 kp20
  go_loopw [21] (fun kk wr => ∃ (k g cap : Nat), kk = .int .i64 k ∧ 5 ≤ k ∧ (k ≤ N + 1 ∨ k = 5) ∧ Blk bx #[.slice (some ⟨g, 0, none⟩) k cap] 29 wr ∧ OwnsI wr b2 (.slice (some ⟨g, 0, none⟩) k cap) (dvL A B p x (k - 5)) ∧ Blk px #[.int .i64 p] 3 wr ∧ Below w.heap.size w wr) (fun kk _ => N + 1 - (intOf kk).toNat)
  case atStart => exact ⟨5, b2, 5, rfl, by omega, .inr rfl, kd, ho3, kp3, hB3⟩
  case round =>
    clear kd ho3 kp3 hB3
    obtain ⟨k, g0, cap, rfl, h5, hkN, kd, ho, kp, hB⟩ := hrel
    by_cases hlt : k ≤ N
    · obtain ⟨hge, hgl⟩ := ho.ge
      have hne := ho.ne kd
      have hlen : (dvL A B p x (k - 5)).length = k := by rw [dvL_len]; omega
      have hbd := fun i => eat_bd (A := A) (B := B) (x := x) hp.1 (k - 5) i
      have HX : Hid (dvL A B p x (k + 1 - 5) = dvL A B p x (k - 5) ++ [dvN p (dvG A B x p) (dvL A B p x (k - 5)) k]) := by
        show _ = _
        rw [show k + 1 - 5 = (k - 5) + 1 by omega, dvL, show 5 + (k - 5) = k by omega]
      generalize dvL A B p x (k - 5) = xs at ho hlen hbd HX
      obtain ⟨m, hm⟩ : ∃ m, m = k / 2 := ⟨_, rfl⟩
      have hkm : (k : Int) / 2 = (m : Int) := by omega
      have hm2 : 2 ≤ m ∧ m + 2 < k := by omega
      have HN : Hid (dvN p (dvG A B x p) xs k = if k % 2 = 0 then (eat xs m * (eat xs (m + 2) * (eat xs (m - 1) * eat xs (m - 1)) - eat xs (m - 2) * (eat xs (m + 1) * eat xs (m + 1)))) % p
          else if m % 2 = 0 then (eat xs (m + 2) * (eat xs m * eat xs m * eat xs m) * dvG A B x p - eat xs (m - 1) * (eat xs (m + 1) * eat xs (m + 1) * eat xs (m + 1))) % p
          else (eat xs (m + 2) * (eat xs m * eat xs m * eat xs m) - eat xs (m - 1) * (eat xs (m + 1) * eat xs (m + 1) * eat xs (m + 1)) * dvG A B x p) % p) := by
        show _ = _
        rw [hm]; rfl
      clear hm
      have lpx : px < wr.heap.size := kp.lt
      have lbx : bx < wr.heap.size := kd.lt
      have npx1 : px ≠ bx := by omega
      have npx2 : px ≠ g0 := by omega
      have hsw := hB.size
      by_cases he : k % 2 = 0
      · have hb : ((k : Int) % 2 == 0) = true := by simp; omega
        have HV : Hid (dvN p (dvG A B x p) xs k = (eat xs m * (eat xs (m + 2) * (eat xs (m - 1) * eat xs (m - 1) % p) % p - eat xs (m - 2) * (eat xs (m + 1) * eat xs (m + 1) % p) % p)) % p) := by
          show _ = _
          rw [HN.out, if_pos he]; exact (ev_impl p _ _ _ _ _).symm
        clear he
        obtain ⟨_, s1⟩ := pr_bd1 hpp (hbd (m - 1)) (hbd (m - 1))
        obtain ⟨_, s2⟩ := pr_bd1 hpp (hbd (m + 1)) (hbd (m + 1))
        obtain ⟨t1, t1'⟩ := pr_bd1 hpp (hbd (m + 2)) s1
        obtain ⟨t2, t2'⟩ := pr_bd1 hpp (hbd (m - 2)) s2
        have t5 := mulb (x := eat xs m) (y := eat xs (m + 2) * (eat xs (m - 1) * eat xs (m - 1) % p) % p - eat xs (m - 2) * (eat xs (m + 1) * eat xs (m + 1) % p) % p) 997 997 (by have := hbd m; omega) (by omega)
        go_wp2
        refine wp_region_cls [bx, g0] (fun i => i == 35) (fun u => Blk bx #[.slice (some ⟨g0, 0, none⟩) k cap] 29 u ∧ OwnsI u b2 (.slice (some ⟨g0, 0, none⟩) k cap) xs) (fun u => Blk bx #[.slice (some ⟨g0, 0, none⟩) k cap] 29 u ∧ OwnsI u b2 (.slice (some ⟨g0, 0, none⟩) k cap) xs) (by kernel_rfl) ⟨kd, ho⟩ ?_
        apply wpAnyF_hd ⟨wr, Over.refl _ _, kd, ho⟩ [true, true, true, true, true, true, true, true, true, true, true, true, true, true, true, true, true, true, true, true, true, true, true, true, true, true, true, true, true, true, true, true, true] 3 ((Blk.closed _ _ _).and (OwnsI.closed _ _ _)) (fun _ h => h) (by kernel_rfl) (by kernel_rfl) (by kernel_rfl) (by kernel_rfl) (by simp)
        · intro E hE hEN hEn
          have n0 : ∀ c : Cls [bx, g0] wr E, c.wd.cell? ⟨bx, 0, none⟩ = some (.slice (some ⟨g0, 0, none⟩) k cap) := fun c => (hEN _ c.more).1.cell 0
          have n1 : ∀ c : Cls [bx, g0] wr E, c.wd.cell? ⟨px, 0, none⟩ = some (.int .i64 p) := fun c => (c.over.cell (p := ⟨px, 0, none⟩) lpx (by simp; omega)).trans (kp.cell 0)
          have n2 : ∀ c : Cls [bx, g0] wr E, c.wd.cell? ⟨g0, m, none⟩ = some (.int .i64 (eat xs m)) := fun c => (hEN _ c.more).2.cell (by omega)
          have n3 : ∀ c : Cls [bx, g0] wr E, c.wd.cell? ⟨g0, m + 2, none⟩ = some (.int .i64 (eat xs (m + 2))) := fun c => (hEN _ c.more).2.cell (by omega)
          have n4 : ∀ c : Cls [bx, g0] wr E, c.wd.cell? ⟨g0, m - 2, none⟩ = some (.int .i64 (eat xs (m - 2))) := fun c => (hEN _ c.more).2.cell (by omega)
          have i1 : (0 : Int) ≤ (m : Int) := by omega
          have i2 : (m : Int) < (k : Int) := by omega
          (repeat (first | (refine wpHL_take ?_; go_big_quiet_step (first | (go_at_call 32; exact Calls.quiet_clsS _ (c_modulo _ _ (by omega) (by omega) _)) | (go_at_call 67; first | exact Calls.quiet_clsD hE _ (c_dvSquare bx px g0 k cap b2 (m - 1) _ p (by omega) xs _ hp (n0 _) (n1 _) (hEN _ (Cls.more _)).2 (by omega) (by omega) hbd (by omega)) | exact Calls.quiet_clsD hE _ (c_dvSquare bx px g0 k cap b2 (m + 1) _ p (by omega) xs _ hp (n0 _) (n1 _) (hEN _ (Cls.more _)).2 (by omega) (by omega) hbd (by omega)))); refine wpQuiet_nil ?_) | refine wpHL_skip ?_))
          exact wpHL_end rfl
        · skip
          refine wpAnyF_ready [33] 2 (by kernel_rfl) (by kernel_rfl) (by simp) ?_
          refine AllF.cons ?_ AllF.nil
          refine stepF_bslice (y := ((eat xs m * (eat xs (m + 2) * (eat xs (m - 1) * eat xs (m - 1) % p) % p - eat xs (m - 2) * (eat xs (m + 1) * eat xs (m + 1) % p) % p)) % p)) (by rfl) (by rfl) (by rfl) (fun _ => by go_simp) ((Blk.closed _ _ _).and (OwnsI.closed _ _ _)) (fun _ h => h) (fun r hne => ?_)
          simp only [Act.put, List.setIfInBounds_toArray, List.set_cons_succ, List.set_cons_zero]
          refine wpAnyF_ready [34] 1 (by kernel_rfl) (by kernel_rfl) (by simp) ?_
          refine AllF.cons ?_ AllF.nil
          refine stepF_app (y := ((eat xs m * (eat xs (m + 2) * (eat xs (m - 1) * eat xs (m - 1) % p) % p - eat xs (m - 2) * (eat xs (m + 1) * eat xs (m + 1) % p) % p)) % p)) (xs := xs) (base := b2) (v := .slice (some ⟨g0, 0, none⟩) k cap) (r := r) (fun u => Blk bx #[.slice (some ⟨g0, 0, none⟩) k cap] 29 u) (by rfl) (by rfl) (by rfl) (by rfl) (by rfl) (by rfl) (Blk.closed _ _ _) (fun u u' hu _ hO' => hu.over hO' (by simp [Value.ownBlock]; omega)) (by omega) (by omega) (by intro g hg; simp [Value.ownBlock] at hg; simp [hg]) (fun u hu => ⟨hu.1.1, hu.1.2, hu.2⟩) (fun u x1 x2 => ⟨x1, x2⟩) (fun v' hne2 => ?_)
          simp only [Act.put, List.setIfInBounds_toArray, List.set_cons_succ, List.set_cons_zero]
          have hl : (xs ++ [((eat xs m * (eat xs (m + 2) * (eat xs (m - 1) * eat xs (m - 1) % p) % p - eat xs (m - 2) * (eat xs (m + 1) * eat xs (m + 1) % p) % p)) % p)]).length = k + 1 := by simp; omega
          obtain ⟨g1, cap1, rfl⟩ : ∃ g1 cap1, v' = .slice (some ⟨g1, 0, none⟩) (k + 1) cap1 := by
            obtain ⟨u, _, _, hu⟩ := hne2
            obtain ⟨a1, cap1, hv, hc⟩ := hu.form
            obtain ⟨g1, ha, _⟩ := hc 0 (by omega)
            exact ⟨g1, cap1, by rw [hv, ha, hl]⟩
          refine wpAnyF_ready [35] 0 (by kernel_rfl) (by kernel_rfl) (by simp) ?_
          refine AllF.cons ?_ AllF.nil
          refine stepF_store1 (v := .slice (some ⟨g1, 0, none⟩) (k + 1) cap1) (old := .slice (some ⟨g0, 0, none⟩) k cap) (r := bx) (T := 29) (fun _ => True) (fun u => Blk bx #[.slice (some ⟨g1, 0, none⟩) (k + 1) cap1] 29 u ∧ OwnsI u b2 (.slice (some ⟨g1, 0, none⟩) (k + 1) cap1) (xs ++ [((eat xs m * (eat xs (m + 2) * (eat xs (m - 1) * eat xs (m - 1) % p) % p - eat xs (m - 2) * (eat xs (m + 1) * eat xs (m + 1) % p) % p)) % p)])) (by rfl) (by rfl) (by rfl) (by rfl) (by rfl) (by rfl) (fun _ => by go_simp) rfl rfl (fun u hu => hu.1.1) (.inr (by simp)) ((Blk.closed _ _ _).and (OwnsI.closed _ _ _)) (fun _ _ => trivial) (by simp) (fun u u' hu hO hb => ⟨hb, hu.2.over hO (by intro g hg; have h1 := hu.2.ne hu.1.1; simp [Value.ownBlock] at hg; simp; omega)⟩) (fun hne3 => ?_)
          refine wpAnyF_done (by kernel_rfl) (fun Wz hOz hDz => ?_) _
          refine NoPanic.normal ?_
          have hBz : Below w.heap.size w Wz := ⟨hOz.os.trans hB.os, hOz.tape.trans hB.tape, hOz.output.trans hB.output, Nat.le_trans hB.size hOz.size, fun i hi => (hOz.block i (by omega) (by simp; omega)).trans (hB.block i hi)⟩
          have kpz := kp.over hOz (by simp; omega)
          go_wp2
          go_roundw
          case rel => exact ⟨k + 1, g1, cap1, by go_num, by omega, by omega, hDz.1, by rw [HX.out, HV.out]; exact hDz.2, kpz, hBz⟩
          case measure => simp [intOf]; omega
      · have hb : ((k : Int) % 2 == 0) = false := by simp; omega
        obtain ⟨_, s1⟩ := pr_bd1 hpp (hbd m) (hbd m)
        obtain ⟨_, s1'⟩ := pr_bd1 hpp s1 (hbd m)
        obtain ⟨t1, t1'⟩ := pr_bd1 hpp (hbd (m + 2)) s1'
        obtain ⟨_, s2⟩ := pr_bd1 hpp (hbd (m + 1)) (hbd (m + 1))
        obtain ⟨_, s2'⟩ := pr_bd1 hpp s2 (hbd (m + 1))
        obtain ⟨t2, t2'⟩ := pr_bd1 hpp (hbd (m - 1)) s2'
        have hoc : ∀ c : Cls [] wr (fun _ => True), OwnsI c.wd b2 (.slice (some ⟨g0, 0, none⟩) k cap) xs := fun c => ho.below c.over.below
        have n0 : ∀ c : Cls [] wr (fun _ => True), c.wd.cell? ⟨bx, 0, none⟩ = some (.slice (some ⟨g0, 0, none⟩) k cap) := fun c => (kd.next c.over.below).cell 0
        have n1 : ∀ c : Cls [] wr (fun _ => True), c.wd.cell? ⟨px, 0, none⟩ = some (.int .i64 p) := fun c => (kp.next c.over.below).cell 0
        have n3 : ∀ c : Cls [] wr (fun _ => True), c.wd.cell? ⟨g0, m + 2, none⟩ = some (.int .i64 (eat xs (m + 2))) := fun c => (hoc c).cell (by omega)
        have n4 : ∀ c : Cls [] wr (fun _ => True), c.wd.cell? ⟨g0, m - 1, none⟩ = some (.int .i64 (eat xs (m - 1))) := fun c => (hoc c).cell (by omega)
        go_wp2
        (refine wp_region_clq (by kernel_rfl) (by kernel_rfl) ?_; (repeat (go_big_quiet_step (first | (go_at_call 66; first | exact Calls.quiet_clsD Closed.true _ (c_dvCube bx px g0 k cap b2 m _ p (by omega) xs _ hp (n0 _) (n1 _) (hoc _) (by omega) (by omega) hbd (by omega)) | exact Calls.quiet_clsD Closed.true _ (c_dvCube bx px g0 k cap b2 (m + 1) _ p (by omega) xs _ hp (n0 _) (n1 _) (hoc _) (by omega) (by omega) hbd (by omega)))))); refine wpQuiet_nil ?_; intro w5 hb5; obtain ⟨hc5, hf5⟩ := bcell hb5; have hz5 := hb5.size; (try simp only [World.size_alloc] at hz5))
        clear n0 n1 n3 n4 hoc hc5 hf5 hz5
        have kd := kd.next hb5
        have ho := ho.below hb5
        have kp := kp.next hb5
        have hB := below_step hb5 hsw hB
        have hsw := hB.size
        have hgl : g0 < w5.heap.size := ho.ge.2
        have lpx : px < w5.heap.size := kp.lt
        have lbx : bx < w5.heap.size := kd.lt
        clear hb5
        have HY : Hid (dvN p (dvG A B x p) xs k = if m % 2 = 0 then (eat xs (m + 2) * (eat xs m * eat xs m % p * eat xs m % p) % p * g % p - eat xs (m - 1) * (eat xs (m + 1) * eat xs (m + 1) % p * eat xs (m + 1) % p) % p) % p
            else (eat xs (m + 2) * (eat xs m * eat xs m % p * eat xs m % p) % p - eat xs (m - 1) * (eat xs (m + 1) * eat xs (m + 1) % p * eat xs (m + 1) % p) % p * g % p) % p) := by
          show _ = _
          rw [HN.out, if_neg he, Hg.out, od0_impl, od1_impl]
        generalize eat xs (m + 2) * (eat xs m * eat xs m % p * eat xs m % p) % p = y1 at t1' HY ⊢
        generalize eat xs (m - 1) * (eat xs (m + 1) * eat xs (m + 1) % p * eat xs (m + 1) % p) % p = y2 at t2' HY ⊢
        clear he s1 s1' s2 s2' t1 t2 HN
        have p0 := kp.cell 0
        have p0' : w5.cell? ⟨px, 0, none⟩ = some (.int .i64 p) := p0
        clear p0
        by_cases hm0 : m % 2 = 0
        · have hb2 : ((m : Int) % 2 == 0) = true := by simp; omega
          obtain ⟨z1, z1'⟩ := pr_bd1 hpp t1' g3
          have HV : Hid (dvN p (dvG A B x p) xs k = (y1 * g % p - y2) % p) := by show _ = _; rw [HY.out, if_pos hm0]
          clear hm0 HY
          go_wp2
          refine wp_region_cls [bx, g0] (fun i => i == 8) (fun u => Blk bx #[.slice (some ⟨g0, 0, none⟩) k cap] 29 u ∧ OwnsI u b2 (.slice (some ⟨g0, 0, none⟩) k cap) xs) (fun u => Blk bx #[.slice (some ⟨g0, 0, none⟩) k cap] 29 u ∧ OwnsI u b2 (.slice (some ⟨g0, 0, none⟩) k cap) xs) (by kernel_rfl) ⟨kd, ho⟩ ?_
          apply wpAnyF_hd ⟨w5, Over.refl _ _, kd, ho⟩ [true, true, true, true, true, true] 3 ((Blk.closed _ _ _).and (OwnsI.closed _ _ _)) (fun _ h => h) (by kernel_rfl) (by kernel_rfl) (by kernel_rfl) (by kernel_rfl) (by simp)
          · intro E hE hEN hEn
            have n0 : ∀ c : Cls [bx, g0] w5 E, c.wd.cell? ⟨bx, 0, none⟩ = some (.slice (some ⟨g0, 0, none⟩) k cap) := fun c => (hEN _ c.more).1.cell 0
            have n1 : ∀ c : Cls [bx, g0] w5 E, c.wd.cell? ⟨px, 0, none⟩ = some (.int .i64 p) := fun c => (c.over.cell (p := ⟨px, 0, none⟩) lpx (by simp; omega)).trans (kp.cell 0)
            (repeat (first | (refine wpHL_take ?_; go_big_quiet_step ((go_at_call 32; exact Calls.quiet_clsS _ (c_modulo _ _ (by omega) (by omega) _))); refine wpQuiet_nil ?_) | refine wpHL_skip ?_))
            exact wpHL_end rfl
          · skip
            refine wpAnyF_ready [6] 2 (by kernel_rfl) (by kernel_rfl) (by simp) ?_
            refine AllF.cons ?_ AllF.nil
            refine stepF_bslice (y := ((y1 * g % p - y2) % p)) (by rfl) (by rfl) (by rfl) (fun _ => by go_simp) ((Blk.closed _ _ _).and (OwnsI.closed _ _ _)) (fun _ h => h) (fun r hne => ?_)
            simp only [Act.put, List.setIfInBounds_toArray, List.set_cons_succ, List.set_cons_zero]
            refine wpAnyF_ready [7] 1 (by kernel_rfl) (by kernel_rfl) (by simp) ?_
            refine AllF.cons ?_ AllF.nil
            refine stepF_app (y := ((y1 * g % p - y2) % p)) (xs := xs) (base := b2) (v := .slice (some ⟨g0, 0, none⟩) k cap) (r := r) (fun u => Blk bx #[.slice (some ⟨g0, 0, none⟩) k cap] 29 u) (by rfl) (by rfl) (by rfl) (by rfl) (by rfl) (by rfl) (Blk.closed _ _ _) (fun u u' hu _ hO' => hu.over hO' (by simp [Value.ownBlock]; omega)) (by omega) (by omega) (by intro g hg; simp [Value.ownBlock] at hg; simp [hg]) (fun u hu => ⟨hu.1.1, hu.1.2, hu.2⟩) (fun u x1 x2 => ⟨x1, x2⟩) (fun v' hne2 => ?_)
            simp only [Act.put, List.setIfInBounds_toArray, List.set_cons_succ, List.set_cons_zero]
            have hl : (xs ++ [((y1 * g % p - y2) % p)]).length = k + 1 := by simp; omega
            obtain ⟨g1, cap1, rfl⟩ : ∃ g1 cap1, v' = .slice (some ⟨g1, 0, none⟩) (k + 1) cap1 := by
              obtain ⟨u, _, _, hu⟩ := hne2
              obtain ⟨a1, cap1, hv, hc⟩ := hu.form
              obtain ⟨g1, ha, _⟩ := hc 0 (by omega)
              exact ⟨g1, cap1, by rw [hv, ha, hl]⟩
            refine wpAnyF_ready [8] 0 (by kernel_rfl) (by kernel_rfl) (by simp) ?_
            refine AllF.cons ?_ AllF.nil
            refine stepF_store1 (v := .slice (some ⟨g1, 0, none⟩) (k + 1) cap1) (old := .slice (some ⟨g0, 0, none⟩) k cap) (r := bx) (T := 29) (fun _ => True) (fun u => Blk bx #[.slice (some ⟨g1, 0, none⟩) (k + 1) cap1] 29 u ∧ OwnsI u b2 (.slice (some ⟨g1, 0, none⟩) (k + 1) cap1) (xs ++ [((y1 * g % p - y2) % p)])) (by rfl) (by rfl) (by rfl) (by rfl) (by rfl) (by rfl) (fun _ => by go_simp) rfl rfl (fun u hu => hu.1.1) (.inr (by simp)) ((Blk.closed _ _ _).and (OwnsI.closed _ _ _)) (fun _ _ => trivial) (by simp) (fun u u' hu hO hb => ⟨hb, hu.2.over hO (by intro g hg; have h1 := hu.2.ne hu.1.1; simp [Value.ownBlock] at hg; simp; omega)⟩) (fun hne3 => ?_)
            refine wpAnyF_done (by kernel_rfl) (fun Wz hOz hDz => ?_) _
            refine NoPanic.normal ?_
            have hBz : Below w.heap.size w Wz := ⟨hOz.os.trans hB.os, hOz.tape.trans hB.tape, hOz.output.trans hB.output, Nat.le_trans hB.size hOz.size, fun i hi => (hOz.block i (by omega) (by simp; omega)).trans (hB.block i hi)⟩
            have kpz := kp.over hOz (by simp; omega)
            go_wp2
            go_roundw
            case rel => exact ⟨k + 1, g1, cap1, by go_num, by omega, by omega, hDz.1, by rw [HX.out, HV.out]; exact hDz.2, kpz, hBz⟩
            case measure => simp [intOf]; omega
        · have hb2 : ((m : Int) % 2 == 0) = false := by simp; omega
          obtain ⟨z1, z1'⟩ := pr_bd1 hpp t2' g3
          have HV : Hid (dvN p (dvG A B x p) xs k = (y1 - y2 * g % p) % p) := by show _ = _; rw [HY.out, if_neg hm0]
          clear hm0 HY
          go_wp2
          refine wp_region_cls [bx, g0] (fun i => i == 8) (fun u => Blk bx #[.slice (some ⟨g0, 0, none⟩) k cap] 29 u ∧ OwnsI u b2 (.slice (some ⟨g0, 0, none⟩) k cap) xs) (fun u => Blk bx #[.slice (some ⟨g0, 0, none⟩) k cap] 29 u ∧ OwnsI u b2 (.slice (some ⟨g0, 0, none⟩) k cap) xs) (by kernel_rfl) ⟨kd, ho⟩ ?_
          apply wpAnyF_hd ⟨w5, Over.refl _ _, kd, ho⟩ [true, true, true, true, true, true] 3 ((Blk.closed _ _ _).and (OwnsI.closed _ _ _)) (fun _ h => h) (by kernel_rfl) (by kernel_rfl) (by kernel_rfl) (by kernel_rfl) (by simp)
          · intro E hE hEN hEn
            have n0 : ∀ c : Cls [bx, g0] w5 E, c.wd.cell? ⟨bx, 0, none⟩ = some (.slice (some ⟨g0, 0, none⟩) k cap) := fun c => (hEN _ c.more).1.cell 0
            have n1 : ∀ c : Cls [bx, g0] w5 E, c.wd.cell? ⟨px, 0, none⟩ = some (.int .i64 p) := fun c => (c.over.cell (p := ⟨px, 0, none⟩) lpx (by simp; omega)).trans (kp.cell 0)
            (repeat (first | (refine wpHL_take ?_; go_big_quiet_step ((go_at_call 32; exact Calls.quiet_clsS _ (c_modulo _ _ (by omega) (by omega) _))); refine wpQuiet_nil ?_) | refine wpHL_skip ?_))
            exact wpHL_end rfl
          · skip
            refine wpAnyF_ready [6] 2 (by kernel_rfl) (by kernel_rfl) (by simp) ?_
            refine AllF.cons ?_ AllF.nil
            refine stepF_bslice (y := ((y1 - y2 * g % p) % p)) (by rfl) (by rfl) (by rfl) (fun _ => by go_simp) ((Blk.closed _ _ _).and (OwnsI.closed _ _ _)) (fun _ h => h) (fun r hne => ?_)
            simp only [Act.put, List.setIfInBounds_toArray, List.set_cons_succ, List.set_cons_zero]
            refine wpAnyF_ready [7] 1 (by kernel_rfl) (by kernel_rfl) (by simp) ?_
            refine AllF.cons ?_ AllF.nil
            refine stepF_app (y := ((y1 - y2 * g % p) % p)) (xs := xs) (base := b2) (v := .slice (some ⟨g0, 0, none⟩) k cap) (r := r) (fun u => Blk bx #[.slice (some ⟨g0, 0, none⟩) k cap] 29 u) (by rfl) (by rfl) (by rfl) (by rfl) (by rfl) (by rfl) (Blk.closed _ _ _) (fun u u' hu _ hO' => hu.over hO' (by simp [Value.ownBlock]; omega)) (by omega) (by omega) (by intro g hg; simp [Value.ownBlock] at hg; simp [hg]) (fun u hu => ⟨hu.1.1, hu.1.2, hu.2⟩) (fun u x1 x2 => ⟨x1, x2⟩) (fun v' hne2 => ?_)
            simp only [Act.put, List.setIfInBounds_toArray, List.set_cons_succ, List.set_cons_zero]
            have hl : (xs ++ [((y1 - y2 * g % p) % p)]).length = k + 1 := by simp; omega
            obtain ⟨g1, cap1, rfl⟩ : ∃ g1 cap1, v' = .slice (some ⟨g1, 0, none⟩) (k + 1) cap1 := by
              obtain ⟨u, _, _, hu⟩ := hne2
              obtain ⟨a1, cap1, hv, hc⟩ := hu.form
              obtain ⟨g1, ha, _⟩ := hc 0 (by omega)
              exact ⟨g1, cap1, by rw [hv, ha, hl]⟩
            refine wpAnyF_ready [8] 0 (by kernel_rfl) (by kernel_rfl) (by simp) ?_
            refine AllF.cons ?_ AllF.nil
            refine stepF_store1 (v := .slice (some ⟨g1, 0, none⟩) (k + 1) cap1) (old := .slice (some ⟨g0, 0, none⟩) k cap) (r := bx) (T := 29) (fun _ => True) (fun u => Blk bx #[.slice (some ⟨g1, 0, none⟩) (k + 1) cap1] 29 u ∧ OwnsI u b2 (.slice (some ⟨g1, 0, none⟩) (k + 1) cap1) (xs ++ [((y1 - y2 * g % p) % p)])) (by rfl) (by rfl) (by rfl) (by rfl) (by rfl) (by rfl) (fun _ => by go_simp) rfl rfl (fun u hu => hu.1.1) (.inr (by simp)) ((Blk.closed _ _ _).and (OwnsI.closed _ _ _)) (fun _ _ => trivial) (by simp) (fun u u' hu hO hb => ⟨hb, hu.2.over hO (by intro g hg; have h1 := hu.2.ne hu.1.1; simp [Value.ownBlock] at hg; simp; omega)⟩) (fun hne3 => ?_)
            refine wpAnyF_done (by kernel_rfl) (fun Wz hOz hDz => ?_) _
            refine NoPanic.normal ?_
            have hBz : Below w.heap.size w Wz := ⟨hOz.os.trans hB.os, hOz.tape.trans hB.tape, hOz.output.trans hB.output, Nat.le_trans hB.size hOz.size, fun i hi => (hOz.block i (by omega) (by simp; omega)).trans (hB.block i hi)⟩
            have kpz := kp.over hOz (by simp; omega)
            go_wp2
            go_roundw
            case rel => exact ⟨k + 1, g1, cap1, by go_num, by omega, by omega, hDz.1, by rw [HX.out, HV.out]; exact hDz.2, kpz, hBz⟩
            case measure => simp [intOf]; omega
    · have hkN2 : Hid (N - 4 = k - 5) := by show _ = _; omega
      have kd0 : wr.cell? ⟨bx, 0, none⟩ = some (.slice (some ⟨g0, 0, none⟩) k cap) := kd.cell 0
      go_wp2
      go_ret
      refine ⟨_, rfl, ?_, hB⟩
      rw [hkN2.out]
      exact ho.le hw2
end Go.Proofs.YtgjdgcmmlfmhmaaGreatDoor
