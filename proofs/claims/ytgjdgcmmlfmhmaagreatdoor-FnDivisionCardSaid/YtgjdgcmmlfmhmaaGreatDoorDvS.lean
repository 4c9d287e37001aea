/- Walks: rows of division values, the reference's. -/
import Derived.Test.YtgjdgcmmlfmhmaaGreatDoorDv
namespace Go.Proofs.YtgjdgcmmlfmhmaaGreatDoor
open Go.RowKit

theorem c_dpCube (a b p : Int) (hp : 1 ≤ p ∧ p ≤ 997) (ha : 0 ≤ a ∧ a < p) (hb : 0 ≤ b ∧ b < p) (w : World) :
    Calls Tryz.prog 71 #[.int .i64 a, .int .i64 b, .int .i64 p] w fun e w' => e = .returned (.int .i64 (a * (b * b % p * b % p) % p)) ∧ w = w' := by
  obtain ⟨b1, b2, b3⟩ := pow_bd hb.1 hb.2 hp.2
  have hp0 : (p == 0) = false := by simp; omega
  have h4 := mod_bd (b * b % p * b) p (by omega)
  obtain ⟨h5, h6⟩ := pr_bd1 hp ha h4
  go_enter Tryz.func71, Tryz.ntmps71
  go_wp2
  go_ret
  exact ⟨rfl, rfl⟩
theorem c_dpThird (A B x : Int) (hA : -1000 ≤ A ∧ A ≤ 1000) (hB : -10000 ≤ B ∧ B ≤ 10000) (hx : 0 ≤ x ∧ x ≤ 1000) (w : World) :
    Calls Tryz.prog 70 #[.agg #[.int .i64 A, .int .i64 B], .int .i64 x] w fun e w' => e = .returned (.int .i64 (dvT A B x)) ∧ Below w.heap.size w w' := by
  have h1 := mulb (x := 3 * x) (y := x) 3000 1000 (by omega) (by omega)
  have h2 := mulb (x := 3 * x * x) (y := x) 3000000 1000 (by omega) (by omega)
  have h3 := mulb (x := 3 * x * x * x) (y := x) 3000000000 1000 (by omega) (by omega)
  have h4 := mulb (x := 6 * A) (y := x) 6000 1000 (by omega) (by omega)
  have h5 := mulb (x := 6 * A * x) (y := x) 6000000 1000 (by omega) (by omega)
  have h6 := mulb (x := 12 * B) (y := x) 120000 1000 (by omega) (by omega)
  have h7 := mulb (x := A) (y := A) 1000 1000 (by omega) (by omega)
  go_enter Tryz.func70, Tryz.ntmps70
  go_wp2
  go_ret
  refine ⟨rfl, ?_⟩
  (repeat' (first | (with_reducible exact Below.refl _ _) | (with_reducible refine below_step (by assumption) ?_ ?_) | (with_reducible refine Below.alloc ?_ ?_ _) | (with_reducible refine Below.setCell ?_ ?_ _) | (with_reducible refine below_drewN ?_ _) | (with_reducible refine Below.drew ?_) | omega | (simp; omega) | (simp; done)))
theorem dvT_bd (A B x : Int) (hA : -1000 ≤ A ∧ A ≤ 1000) (hB : -10000 ≤ B ∧ B ≤ 10000) (hx : 0 ≤ x ∧ x ≤ 1000) : -4000000000000 ≤ dvT A B x ∧ dvT A B x ≤ 4000000000000 := by
  have h1 := mulb (x := 3 * x) (y := x) 3000 1000 (by omega) (by omega)
  have h2 := mulb (x := 3 * x * x) (y := x) 3000000 1000 (by omega) (by omega)
  have h3 := mulb (x := 3 * x * x * x) (y := x) 3000000000 1000 (by omega) (by omega)
  have h4 := mulb (x := 6 * A) (y := x) 6000 1000 (by omega) (by omega)
  have h5 := mulb (x := 6 * A * x) (y := x) 6000000 1000 (by omega) (by omega)
  have h6 := mulb (x := 12 * B) (y := x) 120000 1000 (by omega) (by omega)
  have h7 := mulb (x := A) (y := A) 1000 1000 (by omega) (by omega)
  unfold dvT
  omega
set_option maxHeartbeats 4000000 in
set_option maxRecDepth 100000 in
theorem c_dpRow (A B p x : Int) (N : Nat) (h : fitB A B p x = true) (hN : N ≤ 40) (w : World) :
    Calls Tryz.prog 35 #[.agg #[.int .i64 A, .int .i64 B], .int .i64 p, .int .i64 x, .int .i64 N] w fun e w' => ∃ v, e = .returned v ∧ OwnsI w' w.heap.size v (dvL A B p x (N - 3)) ∧ Below w.heap.size w w' := by
  obtain ⟨hA, hB, hp, _, hx⟩ := fit_of h
  have hp0 : (p == 0) = false := by simp; omega
  have kQ := Blk.new w #[.int .i64 A, .int .i64 B] 24
  have hB0 : Below w.heap.size w (w.alloc (.cells #[.int .i64 A, .int .i64 B] 24)) := by (repeat' (first | (with_reducible exact Below.refl _ _) | (with_reducible refine below_step (by assumption) ?_ ?_) | (with_reducible refine Below.alloc ?_ ?_ _) | (with_reducible refine Below.setCell ?_ ?_ _) | (with_reducible refine below_drewN ?_ _) | (with_reducible refine Below.drew ?_) | omega | (simp; omega) | (simp; done)))
  go_enter Tryz.func35, Tryz.ntmps35
  go_wp2
  generalize w.alloc (.cells #[.int .i64 A, .int .i64 B] 24) = W at kQ hB0 ⊢
  have kQ0 : (W).cell? ⟨w.heap.size, 0, none⟩ = some (.int .i64 A) := kQ.cell 0; have kQ1 : (W).cell? ⟨w.heap.size, 1, none⟩ = some (.int .i64 B) := kQ.cell 1; have kQl : w.heap.size < (W).heap.size := kQ.lt
  go_quiet ((go_at_call 36; exact quiet_left (c_mdMod _ _ (by omega) (by omega) _)))
  have ba := mod_bd A p (by omega)
  have bb := mod_bd B p (by omega)
  generalize ha : A % p = a at ba ⊢
  generalize hb : B % p = b at bb ⊢
  have Ha := Lib.hid ha
  have Hb := Lib.hid hb
  clear ha hb
  go_wp2_with fail
  (go_at_call 37; refine (c_dpF A B x hA hB (by omega) _).mono ?_; rintro e w1 ⟨rfl, hb1⟩; obtain ⟨hc1, hf1⟩ := bcell hb1; have hz1 := hb1.size; (try simp only [World.size_alloc] at hz1); (try (have hy1 : w.heap.size < w1.heap.size := by omega)); (try (have hx1 := Nat.lt_of_succ_le hz1)); (try (have hv1 := Nat.lt_of_succ_le (Nat.le_of_lt hx1))))
  have kR := (kQ.drewN nq).next hb1
  have hB1 : Below w.heap.size w w1 := below_step hb1 hB0.size (below_drewN hB0 nq)
  clear hc1 hf1 hz1 hb1 kQ kQ0 kQ1 kQl hB0
  have fb := fV_bd (p := p) hA (x := x) (by omega) (by omega)
  have kR0 : (w1).cell? ⟨w.heap.size, 0, none⟩ = some (.int .i64 A) := kR.cell 0; have kR1 : (w1).cell? ⟨w.heap.size, 1, none⟩ = some (.int .i64 B) := kR.cell 1; have kRl : w.heap.size < (w1).heap.size := kR.lt
  have hfb : -2000000000 ≤ fV A B x ∧ fV A B x ≤ 2000000000 := by unfold fV; omega
  go_wp2_with fail
  (go_at_call 36; refine (c_mdMod _ _ (by omega) (by omega) _).mono ?_; rintro e w' ⟨rfl, rfl⟩)
  have bf := mod_bd (fV A B x) p (by omega)
  generalize hf : fV A B x % p = f at bf ⊢
  have Hf := Lib.hid hf
  clear hf fb hfb
  have hpp : 1 ≤ p ∧ p ≤ 997 := by omega
  obtain ⟨g1, g1'⟩ := pr_bd 16 (by omega) hpp bf bf
  have hxx : 0 ≤ x ∧ x < p := by omega
  obtain ⟨q1, q2⟩ := pr_bd1 hpp hxx hxx
  obtain ⟨q3, q4⟩ := pr_bd1 hpp q2 hxx
  obtain ⟨u1, u1'⟩ := pr_bd1 hpp q4 q4
  obtain ⟨v1, v1'⟩ := pr_bd1 hpp q2 q2
  obtain ⟨u2, u2'⟩ := pr_bd 5 (by omega) hpp ba v1'
  obtain ⟨u4, u4'⟩ := pr_bd 20 (by omega) hpp bb q4
  obtain ⟨v2, v2'⟩ := pr_bd1 hpp ba ba
  obtain ⟨u5, u5'⟩ := pr_bd 5 (by omega) hpp v2' q2
  obtain ⟨u6, u6'⟩ := pr_bd 4 (by omega) hpp ba bb
  obtain ⟨u7, u7'⟩ := pr_bd1 hpp u6' hxx
  obtain ⟨u8, u8'⟩ := pr_bd 8 (by omega) hpp bb bb
  obtain ⟨u9, u9'⟩ := pr_bd1 hpp v2' ba
  go_wp2_with fail
  generalize hx2 : x * x % p = x2 at *
  generalize hx3 : x2 * x % p = x3 at *
  have Hx2 := Lib.hid hx2
  have Hx3 := Lib.hid hx3
  clear hx2 hx3
  go_quiet (fail)
  have HT4 := dvQ_spec A B p x x2 x3 a b Hx2.out.symm Hx3.out.symm Ha.out.symm Hb.out.symm
  generalize hq : 2 * (x3 * x3 % p + 5 * a * (x2 * x2 % p) % p + 20 * b * x3 % p - 5 * (a * a % p) * x2 % p - 4 * a * b % p * x % p - 8 * b * b % p - a * a % p * a % p) = qq at HT4 ⊢
  have hqb : -20000 ≤ qq ∧ qq ≤ 20000 := by omega
  have Ht4 := Lib.hid HT4
  clear hq HT4 u1 u1' v1 v1' u2 u2' u4 u4' v2 v2' u5 u5' u6 u6' u7 u7' u8 u8' u9 u9' q1 q3
  generalize hg : 16 * f * f % p = g at g1' ⊢
  have Hg : Hid (g = dvG A B x p) := by show _ = _; rw [← hg]; exact dvG_spec A B p x f Hf.out.symm
  clear hg g1
  have tb := dvT_bd A B x hA hB (by omega)
  go_wp2_with fail
  (go_at_call 70; refine (c_dpThird A B x hA hB (by omega) _).mono ?_; rintro e w2 ⟨rfl, hb2⟩; obtain ⟨hc2, hf2⟩ := bcell hb2; have hz2 := hb2.size; (try simp only [World.size_alloc] at hz2); (try (have hy2 : w.heap.size < w2.heap.size := by omega)); (try (have hx2 := Nat.lt_of_succ_le hz2)); (try (have hv2 := Nat.lt_of_succ_le (Nat.le_of_lt hx2))); (try (have hy2_1 : w1.heap.size < w2.heap.size := by omega)))
  have hB2 : Below w.heap.size w w2 := below_step hb2 hB1.size (below_drewN hB1 nq)
  clear hc2 hf2 hz2 hb2 kR kR0 kR1 kRl hB1
  go_wp2_with (go_at_call 36; refine (c_mdMod _ _ (by omega) (by omega) _).mono ?_; rintro e w' ⟨rfl, rfl⟩)
  have hw2 := hB2.size
  have kr := Blk.new w2 #[.int .i64 0, .int .i64 1, .int .i64 1, .int .i64 (dvT A B x % p), .int .i64 (qq % p)] 3
  have hB3 : Below w.heap.size w (w2.alloc (.cells #[.int .i64 0, .int .i64 1, .int .i64 1, .int .i64 (dvT A B x % p), .int .i64 (qq % p)] 3)) := hB2.alloc (by omega) _
  generalize w2.alloc (.cells #[.int .i64 0, .int .i64 1, .int .i64 1, .int .i64 (dvT A B x % p), .int .i64 (qq % p)] 3) = W3 at kr hB3 ⊢
  have ho3 : OwnsI W3 w2.heap.size (.slice (some ⟨w2.heap.size, 0, none⟩) 5 5) (dvL A B p x 0) := by
    refine OwnsI.ofBlk rfl ?_ (Nat.le_refl _) (by omega)
    simp only [dvL, List.map_cons, List.map_nil, ← Ht4.out]
    exact kr
  generalize hb2 : w2.heap.size = b2 at ho3 hw2 ⊢
  clear hb2 kr hB2
  go_loopw [16, 17] (fun sv kk wr => ∃ (k g0 cap : Nat), kk = .int .i64 k ∧ sv = .slice (some ⟨g0, 0, none⟩) k cap ∧ 5 ≤ k ∧ (k ≤ N + 2 ∨ k = 5) ∧ OwnsI wr b2 (.slice (some ⟨g0, 0, none⟩) k cap) (dvL A B p x (k - 5)) ∧ Below w.heap.size w wr ∧ b2 ≤ wr.heap.size) (fun _ kk _ => N + 2 - (intOf kk).toNat)
  case atStart => exact ⟨5, b2, 5, rfl, rfl, by omega, .inr rfl, ho3, hB3, by have := ho3.ge; omega⟩
  case round =>
    clear ho3 hB3
    obtain ⟨k, g0, cap, rfl, rfl, h5, hkN, ho, hB, hbs⟩ := hrel
    by_cases hlt : k ≤ N + 1
    · obtain ⟨hge, hgl⟩ := ho.ge
      have hlen : (dvL A B p x (k - 5)).length = k := by rw [dvL_len]; omega
      have hbd := fun i => eat_bd (A := A) (B := B) (x := x) hp.1 (k - 5) i
      have HX : Hid (dvL A B p x (k + 1 - 5) = dvL A B p x (k - 5) ++ [dvN p (dvG A B x p) (dvL A B p x (k - 5)) k]) := by
        show _ = _
        rw [show k + 1 - 5 = (k - 5) + 1 by omega, dvL, show 5 + (k - 5) = k by omega]
      generalize dvL A B p x (k - 5) = xs at ho hlen hbd HX
      obtain ⟨m, hm⟩ : ∃ m, m = k / 2 := ⟨_, rfl⟩
      have hkm : (k : Int) / 2 = (m : Int) := by omega
      have hm2 : 2 ≤ m ∧ m + 2 < k := by omega
      have HN : Hid (dvN p (dvG A B x p) xs k = if k % 2 = 0 then (eat xs m * (eat xs (m + 2) * (eat xs (m - 1) * eat xs (m - 1)) - eat xs (m - 2) * (eat xs (m + 1) * eat xs (m + 1)))) % p
          else if m % 2 = 0 then (eat xs (m + 2) * (eat xs m * eat xs m * eat xs m) * dvG A B x p - eat xs (m - 1) * (eat xs (m + 1) * eat xs (m + 1) * eat xs (m + 1))) % p
          else (eat xs (m + 2) * (eat xs m * eat xs m * eat xs m) - eat xs (m - 1) * (eat xs (m + 1) * eat xs (m + 1) * eat xs (m + 1)) * dvG A B x p) % p) := by
        show _ = _
        rw [hm]; rfl
      clear hm
      have hsw := hB.size
      have c0 : wr.cell? ⟨g0, m, none⟩ = some (.int .i64 (eat xs m)) := ho.cell (by omega)
      have c1 : wr.cell? ⟨g0, m + 1, none⟩ = some (.int .i64 (eat xs (m + 1))) := ho.cell (by omega)
      have c2 : wr.cell? ⟨g0, m + 2, none⟩ = some (.int .i64 (eat xs (m + 2))) := ho.cell (by omega)
      have c3 : wr.cell? ⟨g0, m - 1, none⟩ = some (.int .i64 (eat xs (m - 1))) := ho.cell (by omega)
      have c4 : wr.cell? ⟨g0, m - 2, none⟩ = some (.int .i64 (eat xs (m - 2))) := ho.cell (by omega)
      have i1 : (0 : Int) ≤ (m : Int) := by omega
      have i2 : (m : Int) < (k : Int) := by omega
      by_cases he : k % 2 = 0
      · have hb : ((k : Int) % 2 == 1) = false := by simp; omega
        obtain ⟨s0, s1⟩ := pr_bd1 hpp (hbd (m - 1)) (hbd (m - 1))
        obtain ⟨s0', s2⟩ := pr_bd1 hpp (hbd (m + 1)) (hbd (m + 1))
        obtain ⟨t1, t1'⟩ := pr_bd1 hpp (hbd (m + 2)) s1
        obtain ⟨t2, t2'⟩ := pr_bd1 hpp (hbd (m - 2)) s2
        have HV : Hid (dvN p (dvG A B x p) xs k = eat xs m * ((eat xs (m + 2) * (eat xs (m - 1) * eat xs (m - 1) % p) % p - eat xs (m - 2) * (eat xs (m + 1) * eat xs (m + 1) % p) % p) % p) % p) := by
          show _ = _
          rw [HN.out, if_pos he]; exact (ev_spec p _ _ _ _ _).symm
        clear he HN
        have e0 := hbd m
        go_wp2_with fail
        go_quiet (fail)
        generalize eat xs (m + 2) * (eat xs (m - 1) * eat xs (m - 1) % p) % p = y1 at t1' HV ⊢
        go_wp2_with fail
        have ho := ho.below (below_drewN' wr nq)
        have hB := below_drewN hB nq
        generalize hwq : wr.drewN nq = wq at ho hB ⊢
        have c0 : wq.cell? ⟨g0, m, none⟩ = some (.int .i64 (eat xs m)) := ho.cell (by omega)
        have c1 : wq.cell? ⟨g0, m + 1, none⟩ = some (.int .i64 (eat xs (m + 1))) := ho.cell (by omega)
        have c4 : wq.cell? ⟨g0, m - 2, none⟩ = some (.int .i64 (eat xs (m - 2))) := ho.cell (by omega)
        have hsq : b2 ≤ wq.heap.size := by rw [← hwq]; exact hbs
        clear hwq
        go_quiet (fail)
        generalize eat xs (m - 2) * (eat xs (m + 1) * eat xs (m + 1) % p) % p = y2 at t2' HV ⊢
        go_wp2_with fail
        have ho := ho.below (below_drewN' wq nq)
        have hB := below_drewN hB nq
        generalize hwz : wq.drewN nq = wz at ho hB ⊢
        have hbs : b2 ≤ wz.heap.size := by rw [← hwz]; exact hsq
        clear hwz hsq
        have t3 := mod_bd (y1 - y2) p (by omega)
        obtain ⟨t4, t4'⟩ := pr_bd1 hpp e0 t3
        have hsw := hB.size
        refine wp_region_cls [g0] (fun _ => false) (fun u => OwnsI u b2 (.slice (some ⟨g0, 0, none⟩) k cap) xs) (fun u => OwnsI u b2 (.slice (some ⟨g0, 0, none⟩) k cap) xs) (by kernel_rfl) ho ?_
        apply wpAnyF_hd ⟨wz, Over.refl _ _, ho⟩ [true, true, true, true, true, true, true, true, true, true, true, true, true] 3 (OwnsI.closed _ _ _) (fun _ h => h) (by kernel_rfl) (by kernel_rfl) (by kernel_rfl) (by kernel_rfl) (by simp)
        · intro E hE hEN hEn
          have n2 : ∀ c : Cls [g0] wz E, c.wd.cell? ⟨g0, m, none⟩ = some (.int .i64 (eat xs m)) := fun c => (hEN _ c.more).cell (by omega)
          (repeat (first | (refine wpHL_take ?_; go_big_quiet_step ((go_at_call 36; exact Calls.quiet_clsS _ (c_mdMod _ _ (by omega) (by omega) _))); refine wpQuiet_nil ?_) | refine wpHL_skip ?_))
          exact wpHL_end rfl
        · refine wpAnyF_ready [13] 2 (by kernel_rfl) (by kernel_rfl) (by simp) ?_
          refine AllF.cons ?_ AllF.nil
          refine stepF_bslice (y := eat xs m * ((y1 - y2) % p) % p) (by rfl) (by rfl) (by rfl) (fun _ => by go_simp) (OwnsI.closed _ _ _) (fun _ h => h) (fun r hne => ?_)
          simp only [Act.put, List.setIfInBounds_toArray, List.set_cons_succ, List.set_cons_zero]
          refine wpAnyF_ready [14] 1 (by kernel_rfl) (by kernel_rfl) (by simp) ?_
          refine AllF.cons ?_ AllF.nil
          refine stepF_app (y := eat xs m * ((y1 - y2) % p) % p) (xs := xs) (base := b2) (v := .slice (some ⟨g0, 0, none⟩) k cap) (r := r) (fun _ => True) (by rfl) (by rfl) (by rfl) (by rfl) (by rfl) (by rfl) Closed.true (fun _ _ _ _ _ => trivial) (by omega) (by omega) (by intro g hg; simp [Value.ownBlock] at hg; simp [hg]) (fun u hu => ⟨trivial, hu.1, hu.2⟩) (fun u _ x2 => x2) (fun v' hne2 => ?_)
          simp only [Act.put, List.setIfInBounds_toArray, List.set_cons_succ, List.set_cons_zero]
          have hl : (xs ++ [eat xs m * ((y1 - y2) % p) % p]).length = k + 1 := by simp; omega
          obtain ⟨g1, cap1, rfl⟩ : ∃ g1 cap1, v' = .slice (some ⟨g1, 0, none⟩) (k + 1) cap1 := by
            obtain ⟨u, _, _, hu⟩ := hne2
            obtain ⟨a1, cap1, hv, hc⟩ := hu.form
            obtain ⟨g1, ha, _⟩ := hc 0 (by omega)
            exact ⟨g1, cap1, by rw [hv, ha, hl]⟩
          apply wpAnyF_hd hne2 [false, false, false, false, false, false, false, false, false, false, false, false, false, false, false, true] 0 ((Closed.true.and (OwnsI.closed _ _ _)).and (OwnsI.closed _ _ _)) (fun _ h => h.1.2) (by kernel_rfl) (by kernel_rfl) (by kernel_rfl) (by kernel_rfl) (by simp)
          · intro E hE hEN hEn
            (repeat (first | (refine wpHL_take ?_; go_big_quiet_step (fail); refine wpQuiet_nil ?_) | refine wpHL_skip ?_))
            exact wpHL_end rfl
          · refine wpAnyF_done (by kernel_rfl) (fun Wz hOz hDz => ?_) _
            refine NoPanic.normal ?_
            have hBz : Below w.heap.size w Wz := ⟨hOz.os.trans hB.os, hOz.tape.trans hB.tape, hOz.output.trans hB.output, Nat.le_trans hB.size hOz.size, fun i hi => (hOz.block i (by omega) (by simp; omega)).trans (hB.block i hi)⟩
            have hsz := hOz.size
            go_wp2
            go_roundw
            case rel => exact ⟨k + 1, g1, cap1, by go_num, rfl, by omega, by omega, by rw [HX.out, HV.out]; exact hDz.2, hBz, by omega⟩
            case measure => simp [intOf]; omega
      · have hb : ((k : Int) % 2 == 1) = true := by simp; omega
        obtain ⟨_, s1⟩ := pr_bd1 hpp (hbd m) (hbd m)
        obtain ⟨_, s1'⟩ := pr_bd1 hpp s1 (hbd m)
        obtain ⟨t1, t1'⟩ := pr_bd1 hpp (hbd (m + 2)) s1'
        obtain ⟨_, s2⟩ := pr_bd1 hpp (hbd (m + 1)) (hbd (m + 1))
        obtain ⟨_, s2'⟩ := pr_bd1 hpp s2 (hbd (m + 1))
        obtain ⟨t2, t2'⟩ := pr_bd1 hpp (hbd (m - 1)) s2'
        go_wp2_with fail
        go_quiet ((go_at_call 71; exact quiet_left (c_dpCube _ _ p hpp (hbd _) (hbd _) _)))
        have HY : Hid (dvN p (dvG A B x p) xs k = if m % 2 = 0 then (g * (eat xs (m + 2) * (eat xs m * eat xs m % p * eat xs m % p) % p) % p - eat xs (m - 1) * (eat xs (m + 1) * eat xs (m + 1) % p * eat xs (m + 1) % p) % p) % p
            else (eat xs (m + 2) * (eat xs m * eat xs m % p * eat xs m % p) % p - g * (eat xs (m - 1) * (eat xs (m + 1) * eat xs (m + 1) % p * eat xs (m + 1) % p) % p) % p) % p) := by
          show _ = _
          rw [HN.out, if_neg he, Hg.out, od0_spec, od1_spec]
        generalize eat xs (m + 2) * (eat xs m * eat xs m % p * eat xs m % p) % p = y1 at t1' HY ⊢
        generalize eat xs (m - 1) * (eat xs (m + 1) * eat xs (m + 1) % p * eat xs (m + 1) % p) % p = y2 at t2' HY ⊢
        clear he s1 s1' s2 s2' t1 t2 HN c0 c1 c2 c3 c4
        have ho := ho.below (below_drewN' wr nq)
        have hB := below_drewN hB nq
        have hbz : b2 ≤ (wr.drewN nq).heap.size := hbs
        generalize wr.drewN nq = wz at ho hB hbz ⊢
        by_cases hm0 : m % 2 = 0
        · have hb2 : ((m : Int) % 2 == 0) = true := by simp; omega
          obtain ⟨z1, z1'⟩ := pr_bd1 hpp g1' t1'
          have HV : Hid (dvN p (dvG A B x p) xs k = (g * y1 - y2) % p) := by show _ = _; rw [HY.out, if_pos hm0]; exact ((Cg.mod p (g * y1)).sub (Cg.refl p y2)).eq
          clear hm0 HY
          go_wp2_with (first | (go_at_call 36; refine (c_mdMod _ _ (by omega) (by omega) _).mono ?_; rintro e w' ⟨rfl, rfl⟩) | (at_builtin; refine wpList_app_int (y := (g * y1 - y2) % p) rfl _ _ (by rfl) b2 _ xs (by rfl) ho (by rfl) (by omega) hbz ?_; intro v' w4 ho4 hb4 hg4))
          have hl : (xs ++ [(g * y1 - y2) % p]).length = k + 1 := by simp; omega
          have hB4 : Below w.heap.size w w4 := below_step hb4 hw2 hB
          have hs4 := hb4.size
          obtain ⟨a1, cap1, hv, hc⟩ := ho4.form
          obtain ⟨g2, ha, _⟩ := hc 0 (by omega)
          subst ha
          rw [hl] at hv
          subst hv
          clear hc
          go_roundw
          case rel => exact ⟨k + 1, g2, cap1, by go_num, rfl, by omega, by omega, by rw [HX.out, HV.out]; exact ho4, hB4, by omega⟩
          case measure => simp [intOf]; omega
        · have hb2 : ((m : Int) % 2 == 0) = false := by simp; omega
          obtain ⟨z1, z1'⟩ := pr_bd1 hpp g1' t2'
          have HV : Hid (dvN p (dvG A B x p) xs k = (y1 - g * y2) % p) := by show _ = _; rw [HY.out, if_neg hm0]; exact ((Cg.refl p y1).sub (Cg.mod p (g * y2))).eq
          clear hm0 HY
          go_wp2_with (first | (go_at_call 36; refine (c_mdMod _ _ (by omega) (by omega) _).mono ?_; rintro e w' ⟨rfl, rfl⟩) | (at_builtin; refine wpList_app_int (y := (y1 - g * y2) % p) rfl _ _ (by rfl) b2 _ xs (by rfl) ho (by rfl) (by omega) hbz ?_; intro v' w4 ho4 hb4 hg4))
          have hl : (xs ++ [(y1 - g * y2) % p]).length = k + 1 := by simp; omega
          have hB4 : Below w.heap.size w w4 := below_step hb4 hw2 hB
          have hs4 := hb4.size
          obtain ⟨a1, cap1, hv, hc⟩ := ho4.form
          obtain ⟨g2, ha, _⟩ := hc 0 (by omega)
          subst ha
          rw [hl] at hv
          subst hv
          clear hc
          go_roundw
          case rel => exact ⟨k + 1, g2, cap1, by go_num, rfl, by omega, by omega, by rw [HX.out, HV.out]; exact ho4, hB4, by omega⟩
          case measure => simp [intOf]; omega
    · have hkN2 : Hid (N - 3 = k - 5) := by show _ = _; omega
      go_wp2
      go_ret
      refine ⟨_, rfl, ?_, hB⟩
      rw [hkN2.out]
      exact ho.le hw2
end Go.Proofs.YtgjdgcmmlfmhmaaGreatDoor
