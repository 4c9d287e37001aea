/- Walks: multiples of a point modulo a small prime (fmTimes, timesModulo). -/
import Derived.Test.YtgjdgcmmlfmhmaaGreatDoorFmA
namespace Go.Proofs.YtgjdgcmmlfmhmaaGreatDoor
open Go.RowKit

set_option maxHeartbeats 1000000 in
theorem c_fmTimes (A B p n : Int) (hA : -1000 ≤ A ∧ A ≤ 1000) (hp : 5 ≤ p ∧ p ≤ 31) (hn : 0 ≤ n ∧ n < 32) (s : Option (Int × Int)) (hs : PtIn p s) (v : Value) (w : World) (rs : RdL w v (ptL s)) :
    Calls Tryz.prog 61 #[.agg #[.int .i64 A, .int .i64 B], .int .i64 p, .int .i64 n, v] w (AddP (ptL (fmT (fmS A p) 5 n none s)) w) := by
  have HA := Lib.hid (fun (s t : Option (Int × Int)) (hs : PtIn p s) (ht : PtIn p t) (v u : Value) (W : World) (rs : RdL W v (ptL s)) (rt : RdL W u (ptL t)) => c_fmAdd A B p hA hp s t hs ht v u W rs rt)
  have hb0 : Below w.heap.size w (w.alloc (.cells #[.int .i64 A, .int .i64 B] 24)) := (Below.refl _ _).alloc (Nat.le_refl _) _
  have kC := Blk.new w #[.int .i64 A, .int .i64 B] 24
  have js := rs.below hb0
  have hsz := hb0.size
  generalize hTT : fmT (fmS A p) 5 n none s = T
  go_enter Tryz.func61, Tryz.ntmps61
  go_upto_region 1 with (fail)
  generalize w.alloc _ = W at *
  go_wp2
  go_loopw [2, 9, 10] (fun mv ov xv wr => ∃ (k : Nat) (m : Int) (o x : Option (Int × Int)), mv = .int .i64 m ∧ (0 ≤ m ∧ m < 32) ∧ m.toNat < 2 ^ k ∧ Hid (fmT (fmS A p) k m o x = T) ∧ PtIn p o ∧ PtIn p x ∧ RdL wr ov (ptL o) ∧ RdL wr xv (ptL x) ∧ Below W.heap.size W wr) (fun mv _ _ _ => (intOf mv).toNat)
  case atStart => exact ⟨5, n, none, s, rfl, hn, by omega, hTT, trivial, hs, RdL.empty _, js, Below.refl _ _⟩
  -- fmS the sum (fmS, fmI), fmS_in its range
  case round =>
    obtain ⟨k, m, o, x, rfl, hm, hk, HT, ho, hx, ro, rx, hbw⟩ := hrel
    have kD := kC.next hbw
    have hbz := hbw.size
    by_cases h0 : 0 < m
    · obtain ⟨k, rfl⟩ : ∃ k', k = k' + 1 := by
        cases k with
        | zero => simp at hk; omega
        | succ k => exact ⟨k, rfl⟩
      rw [Nat.pow_succ] at hk
      have hk2 : (m / 2).toNat < 2 ^ k := by omega
      have hT := HT.out
      rw [fmT_step _ h0] at hT
      clear HT
      have kD0 : (wr).cell? ⟨w.heap.size, 0, none⟩ = some (.int .i64 A) := kD.cell 0; have kD1 : (wr).cell? ⟨w.heap.size, 1, none⟩ = some (.int .i64 B) := kD.cell 1; have kDl : w.heap.size < (wr).heap.size := kD.lt
      by_cases hod : m % 2 = 1
      · have hb : (m % 2 == 1) = true := by simp [hod]
        rw [if_pos hod] at hT
        have HT2 := Lib.hid hT
        clear hT
        go_wp2_with fail
        refine (HA.out o x ho hx _ _ _ ro rx).mono ?_
        rintro e w1 ⟨o', rfl, ro1, hb1⟩
        replace kD := kD.next hb1
        have rx1 := rx.below hb1
        clear kD0 kD1 kDl
        have kD0 : (w1).cell? ⟨w.heap.size, 0, none⟩ = some (.int .i64 A) := kD.cell 0; have kD1 : (w1).cell? ⟨w.heap.size, 1, none⟩ = some (.int .i64 B) := kD.cell 1; have kDl : w.heap.size < (w1).heap.size := kD.lt
        have hbw1 := below_step hb1 hbz hbw
        go_wp2_with fail
        refine (HA.out x x hx hx _ _ _ rx1 rx1).mono ?_
        rintro e w2 ⟨x', rfl, rx2, hb2⟩
        go_wp2
        go_roundw
        case rel => exact ⟨k, m / 2, fmS A p o x, fmS A p x x, by go_num, by omega, hk2, HT2, fmS_in (by omega) ho hx, fmS_in (by omega) hx hx, ro1.below hb2, rx2, below_step hb2 hbw1.size hbw1⟩
        case measure => simp [intOf]; omega
      · have hb : (m % 2 == 1) = false := by simp [hod]
        rw [if_neg hod] at hT
        have HT2 := Lib.hid hT
        clear hT
        go_wp2_with fail
        refine (HA.out x x hx hx _ _ _ rx rx).mono ?_
        rintro e w2 ⟨x', rfl, rx2, hb2⟩
        go_wp2
        go_roundw
        case rel => exact ⟨k, m / 2, o, fmS A p x x, by go_num, by omega, hk2, HT2, ho, fmS_in (by omega) hx hx, ro.below hb2, rx2, below_step hb2 hbz hbw⟩
        case measure => simp [intOf]; omega
    · have hT := HT.out
      rw [fmT_stop _ (by omega)] at hT
      have hbb := below_step hbw hsz hb0
      go_wp2
      go_ret
      exact ⟨_, rfl, hT ▸ ro, hbb⟩
set_option maxHeartbeats 1000000 in
theorem c_timesModulo (A B p n : Int) (hA : -1000 ≤ A ∧ A ≤ 1000) (hp : 5 ≤ p ∧ p ≤ 31) (hn : 0 ≤ n ∧ n < 32) (s : Option (Int × Int)) (hs : PtIn p s) (v : Value) (w : World) (rs : RdL w v (ptL s)) :
    Calls Tryz.prog 58 #[.agg #[.int .i64 A, .int .i64 B], .int .i64 p, .int .i64 n, v] w (AddP (ptL (fmT (fmI A p) 5 n none s)) w) := by
  have HA := Lib.hid (fun (s t : Option (Int × Int)) (hs : PtIn p s) (ht : PtIn p t) (v u : Value) (W : World) (rs : RdL W v (ptL s)) (rt : RdL W u (ptL t)) => c_addModulo A B p hA hp s t hs ht v u W rs rt)
  have hb0 : Below w.heap.size w (w.alloc (.cells #[.int .i64 A, .int .i64 B] 24)) := (Below.refl _ _).alloc (Nat.le_refl _) _
  have kC := Blk.new w #[.int .i64 A, .int .i64 B] 24
  have js := rs.below hb0
  have hsz := hb0.size
  have hmx : max n (-n) = n := by omega
  have hlt : ¬ n < 0 := by omega
  generalize hTT : fmT (fmI A p) 5 n none s = T
  go_enter Tryz.func58, Tryz.ntmps58
  go_upto_region 1 with (fail)
  generalize w.alloc _ = W at *
  go_wp2
  go_loopw [2, 3, 9] (fun mv xv ov wr => ∃ (k : Nat) (m : Int) (o x : Option (Int × Int)), mv = .int .i64 m ∧ (0 ≤ m ∧ m < 32) ∧ m.toNat < 2 ^ k ∧ Hid (fmT (fmI A p) k m o x = T) ∧ PtIn p o ∧ PtIn p x ∧ RdL wr ov (ptL o) ∧ RdL wr xv (ptL x) ∧ Below W.heap.size W wr) (fun mv _ _ _ => (intOf mv).toNat)
  case atStart => exact ⟨5, n, none, s, (by go_num), hn, by omega, hTT, trivial, hs, RdL.empty _, js, Below.refl _ _⟩
  -- fmI the sum (fmS, fmI), fmI_in its range
  case round =>
    obtain ⟨k, m, o, x, rfl, hm, hk, HT, ho, hx, ro, rx, hbw⟩ := hrel
    have kD := kC.next hbw
    have hbz := hbw.size
    by_cases h0 : 0 < m
    · obtain ⟨k, rfl⟩ : ∃ k', k = k' + 1 := by
        cases k with
        | zero => simp at hk; omega
        | succ k => exact ⟨k, rfl⟩
      rw [Nat.pow_succ] at hk
      have hk2 : (m / 2).toNat < 2 ^ k := by omega
      have hT := HT.out
      rw [fmT_step _ h0] at hT
      clear HT
      have kD0 : (wr).cell? ⟨w.heap.size, 0, none⟩ = some (.int .i64 A) := kD.cell 0; have kD1 : (wr).cell? ⟨w.heap.size, 1, none⟩ = some (.int .i64 B) := kD.cell 1; have kDl : w.heap.size < (wr).heap.size := kD.lt
      by_cases hod : m % 2 = 1
      · have hb : (m % 2 == 1) = true := by simp [hod]
        rw [if_pos hod] at hT
        have HT2 := Lib.hid hT
        clear hT
        go_wp2_with fail
        refine (HA.out o x ho hx _ _ _ ro rx).mono ?_
        rintro e w1 ⟨o', rfl, ro1, hb1⟩
        replace kD := kD.next hb1
        have rx1 := rx.below hb1
        clear kD0 kD1 kDl
        have kD0 : (w1).cell? ⟨w.heap.size, 0, none⟩ = some (.int .i64 A) := kD.cell 0; have kD1 : (w1).cell? ⟨w.heap.size, 1, none⟩ = some (.int .i64 B) := kD.cell 1; have kDl : w.heap.size < (w1).heap.size := kD.lt
        have hbw1 := below_step hb1 hbz hbw
        go_wp2_with fail
        refine (HA.out x x hx hx _ _ _ rx1 rx1).mono ?_
        rintro e w2 ⟨x', rfl, rx2, hb2⟩
        go_wp2
        go_roundw
        case rel => exact ⟨k, m / 2, fmI A p o x, fmI A p x x, by go_num, by omega, hk2, HT2, fmI_in (by omega) ho hx, fmI_in (by omega) hx hx, ro1.below hb2, rx2, below_step hb2 hbw1.size hbw1⟩
        case measure => simp [intOf]; omega
      · have hb : (m % 2 == 1) = false := by simp [hod]
        rw [if_neg hod] at hT
        have HT2 := Lib.hid hT
        clear hT
        go_wp2_with fail
        refine (HA.out x x hx hx _ _ _ rx rx).mono ?_
        rintro e w2 ⟨x', rfl, rx2, hb2⟩
        go_wp2
        go_roundw
        case rel => exact ⟨k, m / 2, o, fmI A p x x, by go_num, by omega, hk2, HT2, ho, fmI_in (by omega) hx hx, ro.below hb2, rx2, below_step hb2 hbz hbw⟩
        case measure => simp [intOf]; omega
    · have hT := HT.out
      rw [fmT_stop _ (by omega)] at hT
      have hbb := below_step hbw hsz hb0
      go_wp2
      go_ret
      exact ⟨_, rfl, hT ▸ ro, hbb⟩
end Go.Proofs.YtgjdgcmmlfmhmaaGreatDoor
