/- Walks: sums of two points modulo a small prime (fmAdd, addModulo). -/
import Derived.Test.YtgjdgcmmlfmhmaaGreatDoorFcU
import Derived.Test.YtgjdgcmmlfmhmaaGreatDoorBgT
import Derived.Test.YtgjdgcmmlfmhmaaGreatDoorStV
namespace Go.Proofs.YtgjdgcmmlfmhmaaGreatDoor
open Go.RowKit

theorem RdL.zero {w : World} {v : Value} (h : RdL w v []) : ∃ x cap, v = .slice x 0 cap := by
  obtain ⟨x, cap, rfl, _, _⟩ := h
  exact ⟨x, cap, rfl⟩
theorem RdL.two {w : World} {v : Value} {a b : Int} (h : RdL w v [a, b]) : ∃ g o cap, v = .slice (some ⟨g, o, none⟩) 2 cap ∧ w.cell? ⟨g, o, none⟩ = some (.int .i64 a) ∧ w.cell? ⟨g, o + 1, none⟩ = some (.int .i64 b) ∧ g < w.heap.size := by
  obtain ⟨x, cap, rfl, _, hc⟩ := h
  obtain ⟨g, o, rfl, h0, hg⟩ := hc 0 (by simp)
  obtain ⟨g', o', e, h1, _⟩ := hc 1 (by simp)
  injection e with e
  injection e with e1 e2
  subst e1 e2
  exact ⟨g, o, cap, rfl, by simpa using h0, by simpa using h1, hg⟩
theorem RdL.ofBlk {w : World} {g : Nat} {a b : Int} {T : TypeId} (h : Blk g #[.int .i64 a, .int .i64 b] T w) : RdL w (.slice (some ⟨g, 0, none⟩) 2 2) [a, b] := by
  refine ⟨some ⟨g, 0, none⟩, 2, rfl, Nat.le_refl _, fun i hi => ⟨g, 0, rfl, ?_, h.lt⟩⟩
  rw [Nat.zero_add]
  match i, hi with
  | 0, _ => exact h.cell 0
  | 1, _ => exact h.cell 1
theorem RdL.empty (w : World) : RdL w (.slice Option.none 0 0) [] := ⟨Option.none, 0, rfl, Nat.le_refl _, fun i hi => by simp at hi⟩
/-- a list that reads as L is given back -/
def AddP (L : List Int) (w : World) (e : Ending) (w' : World) : Prop := ∃ v', e = .returned v' ∧ RdL w' v' L ∧ Below w.heap.size w w'
theorem fin_bd {p L a c : Int} (hp : 5 ≤ p ∧ p ≤ 31) (ha : 0 ≤ a ∧ a < p) :
    (0 ≤ L % p ∧ L % p < p) ∧ (0 ≤ L % p * (L % p) ∧ L % p * (L % p) ≤ 961) ∧ (0 ≤ (L % p * (L % p) - a - c) % p ∧ (L % p * (L % p) - a - c) % p < p) ∧
    (-961 ≤ L % p * (a - (L % p * (L % p) - a - c) % p) ∧ L % p * (a - (L % p * (L % p) - a - c) % p) ≤ 961) := by
  have h1 := mod_bd L p (by omega)
  have h2 := mulb (x := L % p) (y := L % p) 31 31 (by omega) (by omega)
  have h3 := mod_bd (L % p * (L % p) - a - c) p (by omega)
  have h4 := mulb (x := L % p) (y := a - (L % p * (L % p) - a - c) % p) 31 31 (by omega) (by omega)
  have h5 := Int.mul_nonneg h1.1 h1.1
  omega
set_option maxHeartbeats 1000000 in
theorem c_fmAdd (A B p : Int) (hA : -1000 ≤ A ∧ A ≤ 1000) (hp : 5 ≤ p ∧ p ≤ 31) (s t : Option (Int × Int)) (hs : PtIn p s) (ht : PtIn p t) (v u : Value) (w : World) (rs : RdL w v (ptL s)) (rt : RdL w u (ptL t)) :
    Calls Tryz.prog 95 #[.agg #[.int .i64 A, .int .i64 B], .int .i64 p, v, u] w (AddP (ptL (fmS A p s t)) w) := by
  have hb0 : Below w.heap.size w (w.alloc (.cells #[.int .i64 A, .int .i64 B] 24)) := (Below.refl _ _).alloc (Nat.le_refl _) _
  have kC := Blk.new w #[.int .i64 A, .int .i64 B] 24
  have js := rs.below hb0
  have jt := rt.below hb0
  have hsz := hb0.size
  rcases s with _ | ⟨a, b⟩
  · obtain ⟨x, cap, rfl⟩ := RdL.zero rs
    clear js rs rt
    -- spec.fmAdd the function, c_ownL the copy's contract, t the one that is copied
    go_enter Tryz.func95, Tryz.ntmps95
    go_upto_region 1 with (fail)
    generalize w.alloc _ = W at *
    go_wp2_with fail
    refine (c_ownL _ (ptL t) (by have := ptL_len t; omega) _ jt).mono ?_
    rintro e w1 ⟨v', rfl, ho, hb⟩
    go_wp2
    go_ret
    exact ⟨_, rfl, ho.1, below_step hb hsz hb0⟩
  rcases t with _ | ⟨c, d⟩
  · obtain ⟨x, cap, rfl⟩ := RdL.zero rt
    obtain ⟨g, o, cap', rfl, _⟩ := RdL.two rs
    clear jt rs rt
    -- spec.fmAdd the function, c_ownL the copy's contract, (some (a, b)) the one that is copied
    go_enter Tryz.func95, Tryz.ntmps95
    go_upto_region 1 with (fail)
    generalize w.alloc _ = W at *
    go_wp2_with fail
    refine (c_ownL _ (ptL (some (a, b))) (by have := ptL_len (some (a, b)); omega) _ js).mono ?_
    rintro e w1 ⟨v', rfl, ho, hb⟩
    go_wp2
    go_ret
    exact ⟨_, rfl, ho.1, below_step hb hsz hb0⟩
  obtain ⟨g, o, cap, rfl, s0, s1, hg⟩ := RdL.two js
  obtain ⟨g', o', cap', rfl, t0, t1, hg'⟩ := RdL.two jt
  clear js jt rs rt
  obtain ⟨ha, hb⟩ := hs
  obtain ⟨hc, hd⟩ := ht
  simp only at ha hb hc hd
  have HF := Lib.hid fun L => @fin_bd p L a c hp ha
  by_cases hac : a = c
  · subst hac
    by_cases hbd : b = d ∧ b ≠ 0
    · obtain ⟨rfl, hb0'⟩ := hbd
      have HV : Hid (fmS A p (some (a, b)) (some (a, b)) = some (fmFin p ((3 * a * a + A) * invM (2 * b) p) a b a)) := Lib.hid (by unfold fmS; simp [hb0'])
      have m1 := mulb (x := 3 * a) (y := a) 93 31 (by omega) (by omega)
      have bi := invM_bd (2 * b) p (by omega)
      have m2 := mulb (x := 3 * a * a + A) (y := invM (2 * b) p) 4000 31 (by omega) (by omega)
      rw [HV.out]
      unfold fmFin
      have HF2 := HF.out ((3 * a * a + A) * invM (2 * b) p)
      clear HF
      go_enter Tryz.func95, Tryz.ntmps95
      go_upto_region 1 with (fail)
      generalize w.alloc _ = W at *
      have kC0 : (W).cell? ⟨w.heap.size, 0, none⟩ = some (.int .i64 A) := kC.cell 0; have kC1 : (W).cell? ⟨w.heap.size, 1, none⟩ = some (.int .i64 B) := kC.cell 1; have kCl : w.heap.size < (W).heap.size := kC.lt
      go_wp2
      go_quiet (fail)
      -- the world behind a region that only draws, as W again
      replace s0 : (W.drewN nq).cell? ⟨g, o, none⟩ = some (.int .i64 a) := s0
      replace s1 : (W.drewN nq).cell? ⟨g, o + 1, none⟩ = some (.int .i64 b) := s1
      replace t0 : (W.drewN nq).cell? ⟨g', o', none⟩ = some (.int .i64 a) := t0
      replace t1 : (W.drewN nq).cell? ⟨g', o' + 1, none⟩ = some (.int .i64 b) := t1
      replace kC := kC.drewN nq
      replace hb0 := below_drewN hb0 nq
      replace hg : g < (W.drewN nq).heap.size := hg
      replace hg' : g' < (W.drewN nq).heap.size := hg'
      replace hsz := hb0.size
      clear kC0 kC1 kCl
      generalize W.drewN nq = W at *
      have kC0 : (W).cell? ⟨w.heap.size, 0, none⟩ = some (.int .i64 A) := kC.cell 0; have kC1 : (W).cell? ⟨w.heap.size, 1, none⟩ = some (.int .i64 B) := kC.cell 1; have kCl : w.heap.size < (W).heap.size := kC.lt
      go_wp2
      go_quiet (fail)
      -- the world behind a region that only draws, as W again
      replace s0 : (W.drewN nq).cell? ⟨g, o, none⟩ = some (.int .i64 a) := s0
      replace s1 : (W.drewN nq).cell? ⟨g, o + 1, none⟩ = some (.int .i64 b) := s1
      replace t0 : (W.drewN nq).cell? ⟨g', o', none⟩ = some (.int .i64 a) := t0
      replace t1 : (W.drewN nq).cell? ⟨g', o' + 1, none⟩ = some (.int .i64 b) := t1
      replace kC := kC.drewN nq
      replace hb0 := below_drewN hb0 nq
      replace hg : g < (W.drewN nq).heap.size := hg
      replace hg' : g' < (W.drewN nq).heap.size := hg'
      replace hsz := hb0.size
      clear kC0 kC1 kCl
      generalize W.drewN nq = W at *
      have kC0 : (W).cell? ⟨w.heap.size, 0, none⟩ = some (.int .i64 A) := kC.cell 0; have kC1 : (W).cell? ⟨w.heap.size, 1, none⟩ = some (.int .i64 B) := kC.cell 1; have kCl : w.heap.size < (W).heap.size := kC.lt
      go_wp2
      go_quiet ((go_at_call 38; refine Calls.quiet_of_same ((c_mdInverse _ _ (by omega) (by omega) _).mono fun _ _ h => ⟨h.1, h.2.symm⟩)))
      -- the world behind a region that only draws, as W again
      replace s0 : (W.drewN nq).cell? ⟨g, o, none⟩ = some (.int .i64 a) := s0
      replace s1 : (W.drewN nq).cell? ⟨g, o + 1, none⟩ = some (.int .i64 b) := s1
      replace t0 : (W.drewN nq).cell? ⟨g', o', none⟩ = some (.int .i64 a) := t0
      replace t1 : (W.drewN nq).cell? ⟨g', o' + 1, none⟩ = some (.int .i64 b) := t1
      replace kC := kC.drewN nq
      replace hb0 := below_drewN hb0 nq
      replace hg : g < (W.drewN nq).heap.size := hg
      replace hg' : g' < (W.drewN nq).heap.size := hg'
      replace hsz := hb0.size
      clear kC0 kC1 kCl
      generalize W.drewN nq = W at *
      have kC0 : (W).cell? ⟨w.heap.size, 0, none⟩ = some (.int .i64 A) := kC.cell 0; have kC1 : (W).cell? ⟨w.heap.size, 1, none⟩ = some (.int .i64 B) := kC.cell 1; have kCl : w.heap.size < (W).heap.size := kC.lt
      go_wp2_with ((go_at_call 36; refine (c_mdMod _ _ (by omega) (by omega) _).mono ?_; rintro e w' ⟨rfl, rfl⟩))
      obtain ⟨f1, f2, f3, f4⟩ := HF2
      go_quiet ((go_at_call 36; refine Calls.quiet_of_same ((c_mdMod _ _ (by omega) (by omega) _).mono fun _ _ h => ⟨h.1, h.2.symm⟩)))
      -- the world behind a region that only draws, as W again
      replace s0 : (W.drewN nq).cell? ⟨g, o, none⟩ = some (.int .i64 a) := s0
      replace s1 : (W.drewN nq).cell? ⟨g, o + 1, none⟩ = some (.int .i64 b) := s1
      replace t0 : (W.drewN nq).cell? ⟨g', o', none⟩ = some (.int .i64 a) := t0
      replace t1 : (W.drewN nq).cell? ⟨g', o' + 1, none⟩ = some (.int .i64 b) := t1
      replace kC := kC.drewN nq
      replace hb0 := below_drewN hb0 nq
      replace hg : g < (W.drewN nq).heap.size := hg
      replace hg' : g' < (W.drewN nq).heap.size := hg'
      replace hsz := hb0.size
      clear kC0 kC1 kCl
      generalize W.drewN nq = W at *
      have kC0 : (W).cell? ⟨w.heap.size, 0, none⟩ = some (.int .i64 A) := kC.cell 0; have kC1 : (W).cell? ⟨w.heap.size, 1, none⟩ = some (.int .i64 B) := kC.cell 1; have kCl : w.heap.size < (W).heap.size := kC.lt
      -- spec.fmAdd the function, 13 its last region, spec.mdMod the callee, c_mdMod _ _ (by omega) (by omega) _ the callee's contract, ((3 * a * a + A) * invM (2 * b) p % p * ((3 * a * a + A) * invM (2 * b) p % p) - a - a) % p the x, ((3 * a * a + A) * invM (2 * b) p % p * (a - ((3 * a * a + A) * invM (2 * b) p % p * ((3 * a * a + A) * invM (2 * b) p % p) - a - a) % p) - b) % p the y
      go_upto_region 13 with (fail)
      refine wp_region_cls [] (fun _ => false) (fun _ => True) (fun _ => True) (by kernel_rfl) (trivial) ?_
      apply wpAnyF_hd ⟨W.drew, (Over.refl _ _).drew, trivial⟩ [true, true, true, true, true, true, true, true, true, true, true, true, true, true] 2 (Closed.true) (fun _ _ => trivial) (by kernel_rfl) (by kernel_rfl) (by kernel_rfl) (by kernel_rfl) (by simp)
      · intro E hE hEN hEn; (repeat (first | (refine wpHL_take ?_; go_big_quiet_step ((go_at_call 36; exact Calls.quiet_clsS _ (c_mdMod _ _ (by omega) (by omega) _))); refine wpQuiet_nil ?_) | refine wpHL_skip ?_)); exact wpHL_end rfl
      refine wpAnyF_ready [14] 1 (by kernel_rfl) (by kernel_rfl) (by simp) (AllF.cons ?_ AllF.nil)
      refine stepV (some 110) (fun yv => fun w' => RdL w' yv [((3 * a * a + A) * invM (2 * b) p % p * ((3 * a * a + A) * invM (2 * b) p % p) - a - a) % p, ((3 * a * a + A) * invM (2 * b) p % p * (a - ((3 * a * a + A) * invM (2 * b) p % p * ((3 * a * a + A) * invM (2 * b) p % p) - a - a) % p) - b) % p]) (by rfl) (by rfl) (by rfl) (fun yv => fun _ _ h hb => RdL.below h hb) (fun w' hO _ => ⟨.slice (some ⟨w'.heap.size, 0, none⟩) 2 2, w'.alloc (.cells #[.int .i64 (((3 * a * a + A) * invM (2 * b) p % p * ((3 * a * a + A) * invM (2 * b) p % p) - a - a) % p), .int .i64 (((3 * a * a + A) * invM (2 * b) p % p * (a - ((3 * a * a + A) * invM (2 * b) p % p * ((3 * a * a + A) * invM (2 * b) p % p) - a - a) % p) - b) % p)] 3), by go_simp, hO.alloc _, RdL.ofBlk (Blk.new w' _ _)⟩) (fun yv hne => ?_)
      simp only [Act.put, List.setIfInBounds_toArray, List.set_cons_succ, List.set_cons_zero]
      apply wpAnyF_hd hne [false, false, false, false, false, false, false, false, false, false, false, false, false, false, false, true] 0 (fun _ _ h hb => RdL.below h hb) (fun _ _ => trivial) (by kernel_rfl) (by kernel_rfl) (by kernel_rfl) (by kernel_rfl) (by simp)
      · intro E hE hEN hEn; (repeat (first | (refine wpHL_take ?_; go_big_quiet_step ((go_at_call 36; exact Calls.quiet_clsS _ (c_mdMod _ _ (by omega) (by omega) _))); refine wpQuiet_nil ?_) | refine wpHL_skip ?_)); exact wpHL_end rfl
      refine wpAnyF_done (by kernel_rfl) (fun Wz hOz hDz => NoPanic.normal ?_) _
      try dsimp only
      go_wp2
      go_ret
      exact ⟨_, rfl, hDz, below_step hOz.below hsz hb0⟩
    · have HV : Hid (fmS A p (some (a, b)) (some (a, d)) = none) := Lib.hid (by unfold fmS; simp only [if_true]; rw [if_neg hbd])
      rw [HV.out]
      clear HF
      have hbd' : b ≠ d ∨ (b = d ∧ b = 0) := by omega
      go_enter Tryz.func95, Tryz.ntmps95
      go_upto_region 1 with (fail)
      generalize w.alloc _ = W at *
      have kC0 : (W).cell? ⟨w.heap.size, 0, none⟩ = some (.int .i64 A) := kC.cell 0; have kC1 : (W).cell? ⟨w.heap.size, 1, none⟩ = some (.int .i64 B) := kC.cell 1; have kCl : w.heap.size < (W).heap.size := kC.lt
      go_wp2
      go_quiet (fail)
      -- the world behind a region that only draws, as W again
      replace s0 : (W.drewN nq).cell? ⟨g, o, none⟩ = some (.int .i64 a) := s0
      replace s1 : (W.drewN nq).cell? ⟨g, o + 1, none⟩ = some (.int .i64 b) := s1
      replace t0 : (W.drewN nq).cell? ⟨g', o', none⟩ = some (.int .i64 a) := t0
      replace t1 : (W.drewN nq).cell? ⟨g', o' + 1, none⟩ = some (.int .i64 d) := t1
      replace kC := kC.drewN nq
      replace hb0 := below_drewN hb0 nq
      replace hg : g < (W.drewN nq).heap.size := hg
      replace hg' : g' < (W.drewN nq).heap.size := hg'
      replace hsz := hb0.size
      clear kC0 kC1 kCl
      generalize W.drewN nq = W at *
      have kC0 : (W).cell? ⟨w.heap.size, 0, none⟩ = some (.int .i64 A) := kC.cell 0; have kC1 : (W).cell? ⟨w.heap.size, 1, none⟩ = some (.int .i64 B) := kC.cell 1; have kCl : w.heap.size < (W).heap.size := kC.lt
      go_wp2
      rcases hbd' with h | ⟨rfl, rfl⟩
      · go_quiet (fail)
        have hB := below_drewN hb0 nq
        go_wp2
        go_ret
        exact ⟨_, rfl, RdL.empty _, hB⟩
      · go_quiet (fail)
        have hB := below_drewN hb0 nq
        go_wp2
        go_ret
        exact ⟨_, rfl, RdL.empty _, hB⟩
  · have HV : Hid (fmS A p (some (a, b)) (some (c, d)) = some (fmFin p ((d - b) * invM (c - a) p) a b c)) := Lib.hid (by unfold fmS; simp [hac])
    have bi := invM_bd (c - a) p (by omega)
    have m2 := mulb (x := d - b) (y := invM (c - a) p) 31 31 (by omega) (by omega)
    rw [HV.out]
    unfold fmFin
    have HF2 := HF.out ((d - b) * invM (c - a) p)
    clear HF
    go_enter Tryz.func95, Tryz.ntmps95
    go_upto_region 1 with (fail)
    generalize w.alloc _ = W at *
    have kC0 : (W).cell? ⟨w.heap.size, 0, none⟩ = some (.int .i64 A) := kC.cell 0; have kC1 : (W).cell? ⟨w.heap.size, 1, none⟩ = some (.int .i64 B) := kC.cell 1; have kCl : w.heap.size < (W).heap.size := kC.lt
    go_wp2
    go_quiet (fail)
    -- the world behind a region that only draws, as W again
    replace s0 : (W.drewN nq).cell? ⟨g, o, none⟩ = some (.int .i64 a) := s0
    replace s1 : (W.drewN nq).cell? ⟨g, o + 1, none⟩ = some (.int .i64 b) := s1
    replace t0 : (W.drewN nq).cell? ⟨g', o', none⟩ = some (.int .i64 c) := t0
    replace t1 : (W.drewN nq).cell? ⟨g', o' + 1, none⟩ = some (.int .i64 d) := t1
    replace kC := kC.drewN nq
    replace hb0 := below_drewN hb0 nq
    replace hg : g < (W.drewN nq).heap.size := hg
    replace hg' : g' < (W.drewN nq).heap.size := hg'
    replace hsz := hb0.size
    clear kC0 kC1 kCl
    generalize W.drewN nq = W at *
    have kC0 : (W).cell? ⟨w.heap.size, 0, none⟩ = some (.int .i64 A) := kC.cell 0; have kC1 : (W).cell? ⟨w.heap.size, 1, none⟩ = some (.int .i64 B) := kC.cell 1; have kCl : w.heap.size < (W).heap.size := kC.lt
    go_wp2
    go_quiet ((go_at_call 38; refine Calls.quiet_of_same ((c_mdInverse _ _ (by omega) (by omega) _).mono fun _ _ h => ⟨h.1, h.2.symm⟩)))
    -- the world behind a region that only draws, as W again
    replace s0 : (W.drewN nq).cell? ⟨g, o, none⟩ = some (.int .i64 a) := s0
    replace s1 : (W.drewN nq).cell? ⟨g, o + 1, none⟩ = some (.int .i64 b) := s1
    replace t0 : (W.drewN nq).cell? ⟨g', o', none⟩ = some (.int .i64 c) := t0
    replace t1 : (W.drewN nq).cell? ⟨g', o' + 1, none⟩ = some (.int .i64 d) := t1
    replace kC := kC.drewN nq
    replace hb0 := below_drewN hb0 nq
    replace hg : g < (W.drewN nq).heap.size := hg
    replace hg' : g' < (W.drewN nq).heap.size := hg'
    replace hsz := hb0.size
    clear kC0 kC1 kCl
    generalize W.drewN nq = W at *
    have kC0 : (W).cell? ⟨w.heap.size, 0, none⟩ = some (.int .i64 A) := kC.cell 0; have kC1 : (W).cell? ⟨w.heap.size, 1, none⟩ = some (.int .i64 B) := kC.cell 1; have kCl : w.heap.size < (W).heap.size := kC.lt
    go_wp2_with ((go_at_call 36; refine (c_mdMod _ _ (by omega) (by omega) _).mono ?_; rintro e w' ⟨rfl, rfl⟩))
    obtain ⟨f1, f2, f3, f4⟩ := HF2
    go_quiet ((go_at_call 36; refine Calls.quiet_of_same ((c_mdMod _ _ (by omega) (by omega) _).mono fun _ _ h => ⟨h.1, h.2.symm⟩)))
    -- the world behind a region that only draws, as W again
    replace s0 : (W.drewN nq).cell? ⟨g, o, none⟩ = some (.int .i64 a) := s0
    replace s1 : (W.drewN nq).cell? ⟨g, o + 1, none⟩ = some (.int .i64 b) := s1
    replace t0 : (W.drewN nq).cell? ⟨g', o', none⟩ = some (.int .i64 c) := t0
    replace t1 : (W.drewN nq).cell? ⟨g', o' + 1, none⟩ = some (.int .i64 d) := t1
    replace kC := kC.drewN nq
    replace hb0 := below_drewN hb0 nq
    replace hg : g < (W.drewN nq).heap.size := hg
    replace hg' : g' < (W.drewN nq).heap.size := hg'
    replace hsz := hb0.size
    clear kC0 kC1 kCl
    generalize W.drewN nq = W at *
    have kC0 : (W).cell? ⟨w.heap.size, 0, none⟩ = some (.int .i64 A) := kC.cell 0; have kC1 : (W).cell? ⟨w.heap.size, 1, none⟩ = some (.int .i64 B) := kC.cell 1; have kCl : w.heap.size < (W).heap.size := kC.lt
    -- spec.fmAdd the function, 13 its last region, spec.mdMod the callee, c_mdMod _ _ (by omega) (by omega) _ the callee's contract, ((d - b) * invM (c - a) p % p * ((d - b) * invM (c - a) p % p) - a - c) % p the x, ((d - b) * invM (c - a) p % p * (a - ((d - b) * invM (c - a) p % p * ((d - b) * invM (c - a) p % p) - a - c) % p) - b) % p the y
    go_upto_region 13 with (fail)
    refine wp_region_cls [] (fun _ => false) (fun _ => True) (fun _ => True) (by kernel_rfl) (trivial) ?_
    apply wpAnyF_hd ⟨W.drew, (Over.refl _ _).drew, trivial⟩ [true, true, true, true, true, true, true, true, true, true, true, true, true, true] 2 (Closed.true) (fun _ _ => trivial) (by kernel_rfl) (by kernel_rfl) (by kernel_rfl) (by kernel_rfl) (by simp)
    · intro E hE hEN hEn; (repeat (first | (refine wpHL_take ?_; go_big_quiet_step ((go_at_call 36; exact Calls.quiet_clsS _ (c_mdMod _ _ (by omega) (by omega) _))); refine wpQuiet_nil ?_) | refine wpHL_skip ?_)); exact wpHL_end rfl
    refine wpAnyF_ready [14] 1 (by kernel_rfl) (by kernel_rfl) (by simp) (AllF.cons ?_ AllF.nil)
    refine stepV (some 110) (fun yv => fun w' => RdL w' yv [((d - b) * invM (c - a) p % p * ((d - b) * invM (c - a) p % p) - a - c) % p, ((d - b) * invM (c - a) p % p * (a - ((d - b) * invM (c - a) p % p * ((d - b) * invM (c - a) p % p) - a - c) % p) - b) % p]) (by rfl) (by rfl) (by rfl) (fun yv => fun _ _ h hb => RdL.below h hb) (fun w' hO _ => ⟨.slice (some ⟨w'.heap.size, 0, none⟩) 2 2, w'.alloc (.cells #[.int .i64 (((d - b) * invM (c - a) p % p * ((d - b) * invM (c - a) p % p) - a - c) % p), .int .i64 (((d - b) * invM (c - a) p % p * (a - ((d - b) * invM (c - a) p % p * ((d - b) * invM (c - a) p % p) - a - c) % p) - b) % p)] 3), by go_simp, hO.alloc _, RdL.ofBlk (Blk.new w' _ _)⟩) (fun yv hne => ?_)
    simp only [Act.put, List.setIfInBounds_toArray, List.set_cons_succ, List.set_cons_zero]
    apply wpAnyF_hd hne [false, false, false, false, false, false, false, false, false, false, false, false, false, false, false, true] 0 (fun _ _ h hb => RdL.below h hb) (fun _ _ => trivial) (by kernel_rfl) (by kernel_rfl) (by kernel_rfl) (by kernel_rfl) (by simp)
    · intro E hE hEN hEn; (repeat (first | (refine wpHL_take ?_; go_big_quiet_step ((go_at_call 36; exact Calls.quiet_clsS _ (c_mdMod _ _ (by omega) (by omega) _))); refine wpQuiet_nil ?_) | refine wpHL_skip ?_)); exact wpHL_end rfl
    refine wpAnyF_done (by kernel_rfl) (fun Wz hOz hDz => NoPanic.normal ?_) _
    try dsimp only
    go_wp2
    go_ret
    exact ⟨_, rfl, hDz, below_step hOz.below hsz hb0⟩
set_option maxHeartbeats 1000000 in
theorem c_addModulo (A B p : Int) (hA : -1000 ≤ A ∧ A ≤ 1000) (hp : 5 ≤ p ∧ p ≤ 31) (s t : Option (Int × Int)) (hs : PtIn p s) (ht : PtIn p t) (v u : Value) (w : World) (rs : RdL w v (ptL s)) (rt : RdL w u (ptL t)) :
    Calls Tryz.prog 93 #[.agg #[.int .i64 A, .int .i64 B], .int .i64 p, v, u] w (AddP (ptL (fmI A p s t)) w) := by
  have hb0 : Below w.heap.size w (w.alloc (.cells #[.int .i64 A, .int .i64 B] 24)) := (Below.refl _ _).alloc (Nat.le_refl _) _
  have kC := Blk.new w #[.int .i64 A, .int .i64 B] 24
  have js := rs.below hb0
  have jt := rt.below hb0
  have hsz := hb0.size
  rcases s with _ | ⟨a, b⟩
  · obtain ⟨x, cap, rfl⟩ := RdL.zero rs
    clear js rs rt
    -- impl.addModulo the function, c_cloneL the copy's contract, t the one that is copied
    go_enter Tryz.func93, Tryz.ntmps93
    go_upto_region 1 with (fail)
    generalize w.alloc _ = W at *
    go_wp2_with fail
    refine (c_cloneL _ (ptL t) (by have := ptL_len t; omega) _ jt).mono ?_
    rintro e w1 ⟨v', rfl, ho, hb⟩
    go_wp2
    go_ret
    exact ⟨_, rfl, ho.1, below_step hb hsz hb0⟩
  rcases t with _ | ⟨c, d⟩
  · obtain ⟨x, cap, rfl⟩ := RdL.zero rt
    obtain ⟨g, o, cap', rfl, _⟩ := RdL.two rs
    clear jt rs rt
    -- impl.addModulo the function, c_cloneL the copy's contract, (some (a, b)) the one that is copied
    go_enter Tryz.func93, Tryz.ntmps93
    go_upto_region 1 with (fail)
    generalize w.alloc _ = W at *
    go_wp2_with fail
    refine (c_cloneL _ (ptL (some (a, b))) (by have := ptL_len (some (a, b)); omega) _ js).mono ?_
    rintro e w1 ⟨v', rfl, ho, hb⟩
    go_wp2
    go_ret
    exact ⟨_, rfl, ho.1, below_step hb hsz hb0⟩
  obtain ⟨g, o, cap, rfl, s0, s1, hg⟩ := RdL.two js
  obtain ⟨g', o', cap', rfl, t0, t1, hg'⟩ := RdL.two jt
  clear js jt rs rt
  obtain ⟨ha, hb⟩ := hs
  obtain ⟨hc, hd⟩ := ht
  simp only at ha hb hc hd
  have hp0 : (p == 0) = false := by simp; omega
  have HF := Lib.hid fun L => @fin_bd p L a c hp ha
  by_cases hac : a = c
  · subst hac
    by_cases hbd : (b + d) % p = 0
    · have HV : Hid (fmI A p (some (a, b)) (some (a, d)) = none) := Lib.hid (by unfold fmI; simp only [if_true]; rw [if_pos hbd])
      rw [HV.out]
      clear HF
      have hq : ((b + d) % p == 0) = true := by simp [hbd]
      go_enter Tryz.func93, Tryz.ntmps93
      go_upto_region 1 with (fail)
      generalize w.alloc _ = W at *
      have kC0 : (W).cell? ⟨w.heap.size, 0, none⟩ = some (.int .i64 A) := kC.cell 0; have kC1 : (W).cell? ⟨w.heap.size, 1, none⟩ = some (.int .i64 B) := kC.cell 1; have kCl : w.heap.size < (W).heap.size := kC.lt
      go_wp2
      go_quiet (fail)
      have hB := below_drewN hb0 nq
      go_wp2
      go_ret
      exact ⟨_, rfl, RdL.empty _, hB⟩
    · have HV : Hid (fmI A p (some (a, b)) (some (a, d)) = some (fmFin p ((3 * a * a + A) * invM (2 * b) p) a b a)) := Lib.hid (by unfold fmI; simp only [if_true]; rw [if_neg hbd])
      have hq : ((b + d) % p == 0) = false := by simp [hbd]
      have m1 := mulb (x := 3 * a) (y := a) 93 31 (by omega) (by omega)
      have bi := invM_bd (2 * b) p (by omega)
      have n1 := mod_bd (3 * a * a + A) p (by omega)
      have n2 := Int.mul_nonneg n1.1 bi.1
      have n3 := mulb (x := (3 * a * a + A) % p) (y := invM (2 * b) p) 31 31 (by omega) (by omega)
      rw [HV.out]
      unfold fmFin
      have HF2 := HF.out ((3 * a * a + A) * invM (2 * b) p)
      clear HF
      go_enter Tryz.func93, Tryz.ntmps93
      go_upto_region 1 with (fail)
      generalize w.alloc _ = W at *
      have kC0 : (W).cell? ⟨w.heap.size, 0, none⟩ = some (.int .i64 A) := kC.cell 0; have kC1 : (W).cell? ⟨w.heap.size, 1, none⟩ = some (.int .i64 B) := kC.cell 1; have kCl : w.heap.size < (W).heap.size := kC.lt
      go_wp2
      go_quiet (fail)
      -- the world behind a region that only draws, as W again
      replace s0 : (W.drewN nq).cell? ⟨g, o, none⟩ = some (.int .i64 a) := s0
      replace s1 : (W.drewN nq).cell? ⟨g, o + 1, none⟩ = some (.int .i64 b) := s1
      replace t0 : (W.drewN nq).cell? ⟨g', o', none⟩ = some (.int .i64 a) := t0
      replace t1 : (W.drewN nq).cell? ⟨g', o' + 1, none⟩ = some (.int .i64 d) := t1
      replace kC := kC.drewN nq
      replace hb0 := below_drewN hb0 nq
      replace hg : g < (W.drewN nq).heap.size := hg
      replace hg' : g' < (W.drewN nq).heap.size := hg'
      replace hsz := hb0.size
      clear kC0 kC1 kCl
      generalize W.drewN nq = W at *
      have kC0 : (W).cell? ⟨w.heap.size, 0, none⟩ = some (.int .i64 A) := kC.cell 0; have kC1 : (W).cell? ⟨w.heap.size, 1, none⟩ = some (.int .i64 B) := kC.cell 1; have kCl : w.heap.size < (W).heap.size := kC.lt
      go_wp2
      go_quiet (fail)
      -- the world behind a region that only draws, as W again
      replace s0 : (W.drewN nq).cell? ⟨g, o, none⟩ = some (.int .i64 a) := s0
      replace s1 : (W.drewN nq).cell? ⟨g, o + 1, none⟩ = some (.int .i64 b) := s1
      replace t0 : (W.drewN nq).cell? ⟨g', o', none⟩ = some (.int .i64 a) := t0
      replace t1 : (W.drewN nq).cell? ⟨g', o' + 1, none⟩ = some (.int .i64 d) := t1
      replace kC := kC.drewN nq
      replace hb0 := below_drewN hb0 nq
      replace hg : g < (W.drewN nq).heap.size := hg
      replace hg' : g' < (W.drewN nq).heap.size := hg'
      replace hsz := hb0.size
      clear kC0 kC1 kCl
      generalize W.drewN nq = W at *
      have kC0 : (W).cell? ⟨w.heap.size, 0, none⟩ = some (.int .i64 A) := kC.cell 0; have kC1 : (W).cell? ⟨w.heap.size, 1, none⟩ = some (.int .i64 B) := kC.cell 1; have kCl : w.heap.size < (W).heap.size := kC.lt
      go_wp2
      go_quiet (fail)
      -- the world behind a region that only draws, as W again
      replace s0 : (W.drewN nq).cell? ⟨g, o, none⟩ = some (.int .i64 a) := s0
      replace s1 : (W.drewN nq).cell? ⟨g, o + 1, none⟩ = some (.int .i64 b) := s1
      replace t0 : (W.drewN nq).cell? ⟨g', o', none⟩ = some (.int .i64 a) := t0
      replace t1 : (W.drewN nq).cell? ⟨g', o' + 1, none⟩ = some (.int .i64 d) := t1
      replace kC := kC.drewN nq
      replace hb0 := below_drewN hb0 nq
      replace hg : g < (W.drewN nq).heap.size := hg
      replace hg' : g' < (W.drewN nq).heap.size := hg'
      replace hsz := hb0.size
      clear kC0 kC1 kCl
      generalize W.drewN nq = W at *
      have kC0 : (W).cell? ⟨w.heap.size, 0, none⟩ = some (.int .i64 A) := kC.cell 0; have kC1 : (W).cell? ⟨w.heap.size, 1, none⟩ = some (.int .i64 B) := kC.cell 1; have kCl : w.heap.size < (W).heap.size := kC.lt
      go_wp2
      go_quiet (fail)
      -- the world behind a region that only draws, as W again
      replace s0 : (W.drewN nq).cell? ⟨g, o, none⟩ = some (.int .i64 a) := s0
      replace s1 : (W.drewN nq).cell? ⟨g, o + 1, none⟩ = some (.int .i64 b) := s1
      replace t0 : (W.drewN nq).cell? ⟨g', o', none⟩ = some (.int .i64 a) := t0
      replace t1 : (W.drewN nq).cell? ⟨g', o' + 1, none⟩ = some (.int .i64 d) := t1
      replace kC := kC.drewN nq
      replace hb0 := below_drewN hb0 nq
      replace hg : g < (W.drewN nq).heap.size := hg
      replace hg' : g' < (W.drewN nq).heap.size := hg'
      replace hsz := hb0.size
      clear kC0 kC1 kCl
      generalize W.drewN nq = W at *
      have kC0 : (W).cell? ⟨w.heap.size, 0, none⟩ = some (.int .i64 A) := kC.cell 0; have kC1 : (W).cell? ⟨w.heap.size, 1, none⟩ = some (.int .i64 B) := kC.cell 1; have kCl : w.heap.size < (W).heap.size := kC.lt
      -- a, d: t's numbers; 3 * a * a + A the numerator; 2 * b the denominator
      go_wp2_with (first | (go_at_call 32; refine (c_modulo _ _ (by omega) (by omega) _).mono ?_; rintro e w' ⟨rfl, rfl⟩) | (go_at_call 31; refine (c_inverse _ _ (by omega) (by omega) _).mono ?_; rintro e w' ⟨rfl, kd, rfl⟩))
      -- the world behind a region that only draws, as W again
      replace s0 : (W.drewN kd).cell? ⟨g, o, none⟩ = some (.int .i64 a) := s0
      replace s1 : (W.drewN kd).cell? ⟨g, o + 1, none⟩ = some (.int .i64 b) := s1
      replace t0 : (W.drewN kd).cell? ⟨g', o', none⟩ = some (.int .i64 a) := t0
      replace t1 : (W.drewN kd).cell? ⟨g', o' + 1, none⟩ = some (.int .i64 d) := t1
      replace kC := kC.drewN kd
      replace hb0 := below_drewN hb0 kd
      replace hg : g < (W.drewN kd).heap.size := hg
      replace hg' : g' < (W.drewN kd).heap.size := hg'
      replace hsz := hb0.size
      clear kC0 kC1 kCl
      generalize W.drewN kd = W at *
      have kC0 : (W).cell? ⟨w.heap.size, 0, none⟩ = some (.int .i64 A) := kC.cell 0; have kC1 : (W).cell? ⟨w.heap.size, 1, none⟩ = some (.int .i64 B) := kC.cell 1; have kCl : w.heap.size < (W).heap.size := kC.lt
      rw [slope_mod p (3 * a * a + A) (invM (2 * b) p)]
      obtain ⟨f1, f2, f3, f4⟩ := HF2
      go_quiet ((go_at_call 32; refine Calls.quiet_of_same ((c_modulo _ _ (by omega) (by omega) _).mono fun _ _ h => ⟨h.1, h.2.symm⟩)))
      -- the world behind a region that only draws, as W again
      replace s0 : (W.drewN nq).cell? ⟨g, o, none⟩ = some (.int .i64 a) := s0
      replace s1 : (W.drewN nq).cell? ⟨g, o + 1, none⟩ = some (.int .i64 b) := s1
      replace t0 : (W.drewN nq).cell? ⟨g', o', none⟩ = some (.int .i64 a) := t0
      replace t1 : (W.drewN nq).cell? ⟨g', o' + 1, none⟩ = some (.int .i64 d) := t1
      replace kC := kC.drewN nq
      replace hb0 := below_drewN hb0 nq
      replace hg : g < (W.drewN nq).heap.size := hg
      replace hg' : g' < (W.drewN nq).heap.size := hg'
      replace hsz := hb0.size
      clear kC0 kC1 kCl
      generalize W.drewN nq = W at *
      have kC0 : (W).cell? ⟨w.heap.size, 0, none⟩ = some (.int .i64 A) := kC.cell 0; have kC1 : (W).cell? ⟨w.heap.size, 1, none⟩ = some (.int .i64 B) := kC.cell 1; have kCl : w.heap.size < (W).heap.size := kC.lt
      -- impl.addModulo the function, 12 its last region, impl.modulo the callee, c_modulo _ _ (by omega) (by omega) _ the callee's contract, ((3 * a * a + A) * invM (2 * b) p % p * ((3 * a * a + A) * invM (2 * b) p % p) - a - a) % p the x, ((3 * a * a + A) * invM (2 * b) p % p * (a - ((3 * a * a + A) * invM (2 * b) p % p * ((3 * a * a + A) * invM (2 * b) p % p) - a - a) % p) - b) % p the y
      go_upto_region 12 with (fail)
      refine wp_region_cls [] (fun _ => false) (fun _ => True) (fun _ => True) (by kernel_rfl) (trivial) ?_
      apply wpAnyF_hd ⟨W.drew, (Over.refl _ _).drew, trivial⟩ [true, true, true, true, true, true, true, true, true, true, true, true, true, true] 2 (Closed.true) (fun _ _ => trivial) (by kernel_rfl) (by kernel_rfl) (by kernel_rfl) (by kernel_rfl) (by simp)
      · intro E hE hEN hEn; (repeat (first | (refine wpHL_take ?_; go_big_quiet_step ((go_at_call 32; exact Calls.quiet_clsS _ (c_modulo _ _ (by omega) (by omega) _))); refine wpQuiet_nil ?_) | refine wpHL_skip ?_)); exact wpHL_end rfl
      refine wpAnyF_ready [14] 1 (by kernel_rfl) (by kernel_rfl) (by simp) (AllF.cons ?_ AllF.nil)
      refine stepV (some 117) (fun yv => fun w' => RdL w' yv [((3 * a * a + A) * invM (2 * b) p % p * ((3 * a * a + A) * invM (2 * b) p % p) - a - a) % p, ((3 * a * a + A) * invM (2 * b) p % p * (a - ((3 * a * a + A) * invM (2 * b) p % p * ((3 * a * a + A) * invM (2 * b) p % p) - a - a) % p) - b) % p]) (by rfl) (by rfl) (by rfl) (fun yv => fun _ _ h hb => RdL.below h hb) (fun w' hO _ => ⟨.slice (some ⟨w'.heap.size, 0, none⟩) 2 2, w'.alloc (.cells #[.int .i64 (((3 * a * a + A) * invM (2 * b) p % p * ((3 * a * a + A) * invM (2 * b) p % p) - a - a) % p), .int .i64 (((3 * a * a + A) * invM (2 * b) p % p * (a - ((3 * a * a + A) * invM (2 * b) p % p * ((3 * a * a + A) * invM (2 * b) p % p) - a - a) % p) - b) % p)] 3), by go_simp, hO.alloc _, RdL.ofBlk (Blk.new w' _ _)⟩) (fun yv hne => ?_)
      simp only [Act.put, List.setIfInBounds_toArray, List.set_cons_succ, List.set_cons_zero]
      apply wpAnyF_hd hne [false, false, false, false, false, false, false, false, false, false, false, false, false, false, false, true] 0 (fun _ _ h hb => RdL.below h hb) (fun _ _ => trivial) (by kernel_rfl) (by kernel_rfl) (by kernel_rfl) (by kernel_rfl) (by simp)
      · intro E hE hEN hEn; (repeat (first | (refine wpHL_take ?_; go_big_quiet_step ((go_at_call 32; exact Calls.quiet_clsS _ (c_modulo _ _ (by omega) (by omega) _))); refine wpQuiet_nil ?_) | refine wpHL_skip ?_)); exact wpHL_end rfl
      refine wpAnyF_done (by kernel_rfl) (fun Wz hOz hDz => NoPanic.normal ?_) _
      try dsimp only
      go_wp2
      go_ret
      exact ⟨_, rfl, hDz, below_step hOz.below hsz hb0⟩
  · have HV : Hid (fmI A p (some (a, b)) (some (c, d)) = some (fmFin p ((d - b) * invM (c - a) p) a b c)) := Lib.hid (by unfold fmI; simp [hac])
    have bi := invM_bd (c - a) p (by omega)
    have n1 := mod_bd (d - b) p (by omega)
    have n2 := Int.mul_nonneg n1.1 bi.1
    have n3 := mulb (x := (d - b) % p) (y := invM (c - a) p) 31 31 (by omega) (by omega)
    rw [HV.out]
    unfold fmFin
    have HF2 := HF.out ((d - b) * invM (c - a) p)
    clear HF
    go_enter Tryz.func93, Tryz.ntmps93
    go_upto_region 1 with (fail)
    generalize w.alloc _ = W at *
    have kC0 : (W).cell? ⟨w.heap.size, 0, none⟩ = some (.int .i64 A) := kC.cell 0; have kC1 : (W).cell? ⟨w.heap.size, 1, none⟩ = some (.int .i64 B) := kC.cell 1; have kCl : w.heap.size < (W).heap.size := kC.lt
    go_wp2
    go_quiet (fail)
    -- the world behind a region that only draws, as W again
    replace s0 : (W.drewN nq).cell? ⟨g, o, none⟩ = some (.int .i64 a) := s0
    replace s1 : (W.drewN nq).cell? ⟨g, o + 1, none⟩ = some (.int .i64 b) := s1
    replace t0 : (W.drewN nq).cell? ⟨g', o', none⟩ = some (.int .i64 c) := t0
    replace t1 : (W.drewN nq).cell? ⟨g', o' + 1, none⟩ = some (.int .i64 d) := t1
    replace kC := kC.drewN nq
    replace hb0 := below_drewN hb0 nq
    replace hg : g < (W.drewN nq).heap.size := hg
    replace hg' : g' < (W.drewN nq).heap.size := hg'
    replace hsz := hb0.size
    clear kC0 kC1 kCl
    generalize W.drewN nq = W at *
    have kC0 : (W).cell? ⟨w.heap.size, 0, none⟩ = some (.int .i64 A) := kC.cell 0; have kC1 : (W).cell? ⟨w.heap.size, 1, none⟩ = some (.int .i64 B) := kC.cell 1; have kCl : w.heap.size < (W).heap.size := kC.lt
    go_wp2
    go_quiet (fail)
    -- the world behind a region that only draws, as W again
    replace s0 : (W.drewN nq).cell? ⟨g, o, none⟩ = some (.int .i64 a) := s0
    replace s1 : (W.drewN nq).cell? ⟨g, o + 1, none⟩ = some (.int .i64 b) := s1
    replace t0 : (W.drewN nq).cell? ⟨g', o', none⟩ = some (.int .i64 c) := t0
    replace t1 : (W.drewN nq).cell? ⟨g', o' + 1, none⟩ = some (.int .i64 d) := t1
    replace kC := kC.drewN nq
    replace hb0 := below_drewN hb0 nq
    replace hg : g < (W.drewN nq).heap.size := hg
    replace hg' : g' < (W.drewN nq).heap.size := hg'
    replace hsz := hb0.size
    clear kC0 kC1 kCl
    generalize W.drewN nq = W at *
    have kC0 : (W).cell? ⟨w.heap.size, 0, none⟩ = some (.int .i64 A) := kC.cell 0; have kC1 : (W).cell? ⟨w.heap.size, 1, none⟩ = some (.int .i64 B) := kC.cell 1; have kCl : w.heap.size < (W).heap.size := kC.lt
    go_wp2
    go_quiet (fail)
    -- the world behind a region that only draws, as W again
    replace s0 : (W.drewN nq).cell? ⟨g, o, none⟩ = some (.int .i64 a) := s0
    replace s1 : (W.drewN nq).cell? ⟨g, o + 1, none⟩ = some (.int .i64 b) := s1
    replace t0 : (W.drewN nq).cell? ⟨g', o', none⟩ = some (.int .i64 c) := t0
    replace t1 : (W.drewN nq).cell? ⟨g', o' + 1, none⟩ = some (.int .i64 d) := t1
    replace kC := kC.drewN nq
    replace hb0 := below_drewN hb0 nq
    replace hg : g < (W.drewN nq).heap.size := hg
    replace hg' : g' < (W.drewN nq).heap.size := hg'
    replace hsz := hb0.size
    clear kC0 kC1 kCl
    generalize W.drewN nq = W at *
    have kC0 : (W).cell? ⟨w.heap.size, 0, none⟩ = some (.int .i64 A) := kC.cell 0; have kC1 : (W).cell? ⟨w.heap.size, 1, none⟩ = some (.int .i64 B) := kC.cell 1; have kCl : w.heap.size < (W).heap.size := kC.lt
    -- c, d: t's numbers; d - b the numerator; c - a the denominator
    go_wp2_with (first | (go_at_call 32; refine (c_modulo _ _ (by omega) (by omega) _).mono ?_; rintro e w' ⟨rfl, rfl⟩) | (go_at_call 31; refine (c_inverse _ _ (by omega) (by omega) _).mono ?_; rintro e w' ⟨rfl, kd, rfl⟩))
    -- the world behind a region that only draws, as W again
    replace s0 : (W.drewN kd).cell? ⟨g, o, none⟩ = some (.int .i64 a) := s0
    replace s1 : (W.drewN kd).cell? ⟨g, o + 1, none⟩ = some (.int .i64 b) := s1
    replace t0 : (W.drewN kd).cell? ⟨g', o', none⟩ = some (.int .i64 c) := t0
    replace t1 : (W.drewN kd).cell? ⟨g', o' + 1, none⟩ = some (.int .i64 d) := t1
    replace kC := kC.drewN kd
    replace hb0 := below_drewN hb0 kd
    replace hg : g < (W.drewN kd).heap.size := hg
    replace hg' : g' < (W.drewN kd).heap.size := hg'
    replace hsz := hb0.size
    clear kC0 kC1 kCl
    generalize W.drewN kd = W at *
    have kC0 : (W).cell? ⟨w.heap.size, 0, none⟩ = some (.int .i64 A) := kC.cell 0; have kC1 : (W).cell? ⟨w.heap.size, 1, none⟩ = some (.int .i64 B) := kC.cell 1; have kCl : w.heap.size < (W).heap.size := kC.lt
    rw [slope_mod p (d - b) (invM (c - a) p)]
    obtain ⟨f1, f2, f3, f4⟩ := HF2
    go_quiet ((go_at_call 32; refine Calls.quiet_of_same ((c_modulo _ _ (by omega) (by omega) _).mono fun _ _ h => ⟨h.1, h.2.symm⟩)))
    -- the world behind a region that only draws, as W again
    replace s0 : (W.drewN nq).cell? ⟨g, o, none⟩ = some (.int .i64 a) := s0
    replace s1 : (W.drewN nq).cell? ⟨g, o + 1, none⟩ = some (.int .i64 b) := s1
    replace t0 : (W.drewN nq).cell? ⟨g', o', none⟩ = some (.int .i64 c) := t0
    replace t1 : (W.drewN nq).cell? ⟨g', o' + 1, none⟩ = some (.int .i64 d) := t1
    replace kC := kC.drewN nq
    replace hb0 := below_drewN hb0 nq
    replace hg : g < (W.drewN nq).heap.size := hg
    replace hg' : g' < (W.drewN nq).heap.size := hg'
    replace hsz := hb0.size
    clear kC0 kC1 kCl
    generalize W.drewN nq = W at *
    have kC0 : (W).cell? ⟨w.heap.size, 0, none⟩ = some (.int .i64 A) := kC.cell 0; have kC1 : (W).cell? ⟨w.heap.size, 1, none⟩ = some (.int .i64 B) := kC.cell 1; have kCl : w.heap.size < (W).heap.size := kC.lt
    -- impl.addModulo the function, 12 its last region, impl.modulo the callee, c_modulo _ _ (by omega) (by omega) _ the callee's contract, ((d - b) * invM (c - a) p % p * ((d - b) * invM (c - a) p % p) - a - c) % p the x, ((d - b) * invM (c - a) p % p * (a - ((d - b) * invM (c - a) p % p * ((d - b) * invM (c - a) p % p) - a - c) % p) - b) % p the y
    go_upto_region 12 with (fail)
    refine wp_region_cls [] (fun _ => false) (fun _ => True) (fun _ => True) (by kernel_rfl) (trivial) ?_
    apply wpAnyF_hd ⟨W.drew, (Over.refl _ _).drew, trivial⟩ [true, true, true, true, true, true, true, true, true, true, true, true, true, true] 2 (Closed.true) (fun _ _ => trivial) (by kernel_rfl) (by kernel_rfl) (by kernel_rfl) (by kernel_rfl) (by simp)
    · intro E hE hEN hEn; (repeat (first | (refine wpHL_take ?_; go_big_quiet_step ((go_at_call 32; exact Calls.quiet_clsS _ (c_modulo _ _ (by omega) (by omega) _))); refine wpQuiet_nil ?_) | refine wpHL_skip ?_)); exact wpHL_end rfl
    refine wpAnyF_ready [14] 1 (by kernel_rfl) (by kernel_rfl) (by simp) (AllF.cons ?_ AllF.nil)
    refine stepV (some 117) (fun yv => fun w' => RdL w' yv [((d - b) * invM (c - a) p % p * ((d - b) * invM (c - a) p % p) - a - c) % p, ((d - b) * invM (c - a) p % p * (a - ((d - b) * invM (c - a) p % p * ((d - b) * invM (c - a) p % p) - a - c) % p) - b) % p]) (by rfl) (by rfl) (by rfl) (fun yv => fun _ _ h hb => RdL.below h hb) (fun w' hO _ => ⟨.slice (some ⟨w'.heap.size, 0, none⟩) 2 2, w'.alloc (.cells #[.int .i64 (((d - b) * invM (c - a) p % p * ((d - b) * invM (c - a) p % p) - a - c) % p), .int .i64 (((d - b) * invM (c - a) p % p * (a - ((d - b) * invM (c - a) p % p * ((d - b) * invM (c - a) p % p) - a - c) % p) - b) % p)] 3), by go_simp, hO.alloc _, RdL.ofBlk (Blk.new w' _ _)⟩) (fun yv hne => ?_)
    simp only [Act.put, List.setIfInBounds_toArray, List.set_cons_succ, List.set_cons_zero]
    apply wpAnyF_hd hne [false, false, false, false, false, false, false, false, false, false, false, false, false, false, false, true] 0 (fun _ _ h hb => RdL.below h hb) (fun _ _ => trivial) (by kernel_rfl) (by kernel_rfl) (by kernel_rfl) (by kernel_rfl) (by simp)
    · intro E hE hEN hEn; (repeat (first | (refine wpHL_take ?_; go_big_quiet_step ((go_at_call 32; exact Calls.quiet_clsS _ (c_modulo _ _ (by omega) (by omega) _))); refine wpQuiet_nil ?_) | refine wpHL_skip ?_)); exact wpHL_end rfl
    refine wpAnyF_done (by kernel_rfl) (fun Wz hOz hDz => NoPanic.normal ?_) _
    try dsimp only
    go_wp2
    go_ret
    exact ⟨_, rfl, hDz, below_step hOz.below hsz hb0⟩
end Go.Proofs.YtgjdgcmmlfmhmaaGreatDoor
