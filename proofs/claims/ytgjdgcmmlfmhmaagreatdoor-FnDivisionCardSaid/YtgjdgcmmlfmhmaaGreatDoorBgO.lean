/- Walks: the whole of a number (wholeOf, bgOf). -/
import Derived.Test.YtgjdgcmmlfmhmaaGreatDoorBgT
namespace Go.Proofs.YtgjdgcmmlfmhmaaGreatDoor
open Go.RowKit

/-- a whole is returned -/
def WhP (N : Int) (w : World) (e : Ending) (w' : World) : Prop := ∃ v, e = .returned v ∧ Wh w.heap.size N v w' ∧ Below w.heap.size w w'
theorem tr_low {n : Nat} : tr (dg n) = dg n := by
  have h := dg_Dg n
  rw [tr_dg h.1, h.2.2]; rfl
theorem wh_sign {N : Int} {L : List Int} (h : tr L = dg N.natAbs) : (decide (N < 0) && !(tr L).isEmpty) = decide (N < 0) := by
  rw [h]
  by_cases hN : N < 0
  · have : dg N.natAbs ≠ [] := fun h => by have := dg_nil.1 h; omega
    rw [isEmpty_dec rfl]
    simp [hN, this]
  · simp [hN]
/-- trimmed digits are a whole -/
theorem TrP.whole {neg : Bool} {N : Int} {L : List Int} (hs : neg = decide (N < 0) ∨ N = 0) (hL : tr L = dg N.natAbs) {w : World} {e : Ending} {w' : World} (h : TrP neg L w e w') : WhP N w e w' := by
  obtain ⟨lv, h1, h2, h3⟩ := h
  refine ⟨_, h1, ⟨lv, ?_, by rw [← hL]; exact h2⟩, h3⟩
  rcases hs with rfl | rfl
  · rw [wh_sign hL]
  · rw [hL]
    simp [dg_zero]
theorem dg_step {M N : Nat} {L : List Int} (h : L ++ dg M = dg N) (hM : M ≠ 0) : (L ++ [((M : Int)) % 10000]) ++ dg (M / 10000) = dg N := by
  rw [← h, dg_pos hM, List.append_assoc]
  rfl
theorem dg_left {M N : Nat} {L : List Int} (h : L ++ dg M = dg N) : L.length ≤ (dg N).length := by rw [← h]; simp
set_option maxHeartbeats 1000000 in
theorem c_wholeOf (n : Int) (hn : -1000000000000000000 ≤ n ∧ n ≤ 1000000000000000000) (w : World) :
    Calls Tryz.prog 77 #[.int .i64 n] w (WhP n w) := by
  have kS := Blk.new w #[.bool false, .slice none 0 0] 37
  have hb0 : Below w.heap.size w (w.alloc (.cells #[.bool false, .slice none 0 0] 37)) := (Below.refl _ _).alloc (Nat.le_refl _) _
  obtain ⟨N, hN⟩ : ∃ N, N = n.natAbs := ⟨_, rfl⟩
  have hlen : (dg N).length ≤ 5 := dg_len (by omega)
  have hNb : N ≤ 1000000000000000000 := by omega
  by_cases hneg : n < 0
  · have hab : -n = (N : Int) := by omega
    have HN := Lib.hid hN
    clear hN
    have hle : ¬ (-n < n) := by omega
    have hlt : n < -n := by omega
    go_enter Tryz.func77, Tryz.ntmps77
    go_upto_region 1 with (fail)
    generalize w.alloc _ = W at *
    go_upto_region 4 with (fail)
    go_loopw [0, 4] (fun m l wr => ∃ (M : Nat) (L : List Int), m = .int .i64 M ∧ M ≤ 1000000000000000000 ∧ Hid (L ++ dg M = dg N) ∧ OwnsI wr W.heap.size l L ∧ Below W.heap.size W wr) (fun m _ _ => (intOf m).toNat)
    case atStart => exact ⟨N, [], by first | rfl | rw [hab], by omega, Lib.hid rfl, OwnsI.nil _ _, Below.refl _ _⟩
    case round =>
      obtain ⟨M, L, rfl, hM, hD, ho, hb⟩ := hrel
      have hll : L.length ≤ 5 := Nat.le_trans (dg_left hD.out) hlen
      have hbs := hb.size
      by_cases hM0 : M = 0
      · subst hM0
        have hL : L = dg N := by have := hD.out; rwa [dg_zero, List.append_nil] at this
        have kS1 := kS.next hb
        go_wp2_with fail
        refine ((c_trimmed true) _ L (by omega) _ ho.rdL).mono ?_
        rintro e w1 hP
        have hW := hP.whole (N := n) (.inl (by simp [hneg])) (by rw [hL, tr_low, HN.out])
        obtain ⟨v, rfl, hwh, hb1⟩ := hW
        obtain ⟨lv, rfl, ho2⟩ := id hwh
        rw [← HN.out] at ho2
        have hs : decide (n < 0) = true := by simp; omega
        rw [hs]
        obtain ⟨sl, scap, rfl, _⟩ := id ho2.1
        have kS2 := kS1.next hb1
        have c0 : w1.cell? ⟨w.heap.size, 0, none⟩ = some (.bool false) := kS2.cell 0
        have c1 : w1.cell? ⟨w.heap.size, 1, none⟩ = some (.slice none 0 0) := kS2.cell 1
        have z0 := kS2.frozen 0
        have z1 := kS2.frozen 1
        have hS : w.heap.size ≤ w.heap.size := Nat.le_refl _
        have k9 := (kS2.set 0 (.bool true)).set 1 (.slice sl (dg N).length scap)
        have hbb := below_step (below_step hb1 hbs hb) hb0.size hb0
        have hB9 : Below w.heap.size w ((w1.setCell ⟨w.heap.size, 0, none⟩ (.bool true)).setCell ⟨w.heap.size, 1, none⟩ (.slice sl (dg N).length scap)) := (hbb.setCell hS _).setCell hS _
        have ho9 := ho2.set2 (S := w.heap.size) kS1.lt (.bool true) (.slice sl (dg N).length scap)
        replace ho9 : RdO _ w.heap.size _ _ := ho9.le (Nat.le_of_lt kS1.lt)
        clear hP hwh ho2 hL
        go_wp2
        generalize (World.setCell (World.setCell _ _ _) _ _) = w9 at hB9 k9 ho9 ⊢
        have q0 : w9.cell? ⟨w.heap.size, 0, none⟩ = some (.bool true) := k9.cell 0
        have q1 : w9.cell? ⟨w.heap.size, 1, none⟩ = some (.slice sl (dg N).length scap) := k9.cell 1
        refine bodyPost_ret (v := .agg #[.bool true, .slice sl (dg N).length scap]) (by simp [results, Tryz.results77, go_sem, q0, q1]) rfl ?_
        exact ⟨_, rfl, ⟨_, by rw [hs], by rw [← HN.out]; exact ho9⟩, hB9⟩
      · have hD2 := Lib.hid (dg_step hD.out hM0)
        have hpos : (0 : Int) < (M : Int) := by omega
        have hnn : (0 : Int) ≤ (M : Int) := by omega
        clear hD
        go_wp2_with (at_builtin; refine wpList_app_int rfl _ _ rfl W.heap.size _ L rfl ho rfl (by omega) hbs ?_; intro v' w4 ho4 hb4 hg4)
        go_wp2
        go_roundw
        case rel => exact ⟨M / 10000, _, by go_num, by omega, hD2, ho4, hb.trans hb4⟩
        case measure => simp [intOf]; omega
  · have hab : n = (N : Int) := by omega
    have HN := Lib.hid hN
    clear hN
    have hle : -(N : Int) ≤ (N : Int) := by omega
    go_enter Tryz.func77, Tryz.ntmps77
    go_upto_region 1 with (fail)
    generalize w.alloc _ = W at *
    go_upto_region 4 with (fail)
    go_loopw [0, 4] (fun m l wr => ∃ (M : Nat) (L : List Int), m = .int .i64 M ∧ M ≤ 1000000000000000000 ∧ Hid (L ++ dg M = dg N) ∧ OwnsI wr W.heap.size l L ∧ Below W.heap.size W wr) (fun m _ _ => (intOf m).toNat)
    case atStart => exact ⟨N, [], by first | rfl | rw [hab], by omega, Lib.hid rfl, OwnsI.nil _ _, Below.refl _ _⟩
    case round =>
      obtain ⟨M, L, rfl, hM, hD, ho, hb⟩ := hrel
      have hll : L.length ≤ 5 := Nat.le_trans (dg_left hD.out) hlen
      have hbs := hb.size
      by_cases hM0 : M = 0
      · subst hM0
        have hL : L = dg N := by have := hD.out; rwa [dg_zero, List.append_nil] at this
        have kS1 := kS.next hb
        go_wp2_with fail
        refine ((c_trimmed false) _ L (by omega) _ ho.rdL).mono ?_
        rintro e w1 hP
        have hW := hP.whole (N := n) (.inl (by simp; omega)) (by rw [hL, tr_low, HN.out])
        obtain ⟨v, rfl, hwh, hb1⟩ := hW
        obtain ⟨lv, rfl, ho2⟩ := id hwh
        rw [← HN.out] at ho2
        have hs : decide (n < 0) = false := by simp; omega
        rw [hs]
        obtain ⟨sl, scap, rfl, _⟩ := id ho2.1
        have kS2 := kS1.next hb1
        have c0 : w1.cell? ⟨w.heap.size, 0, none⟩ = some (.bool false) := kS2.cell 0
        have c1 : w1.cell? ⟨w.heap.size, 1, none⟩ = some (.slice none 0 0) := kS2.cell 1
        have z0 := kS2.frozen 0
        have z1 := kS2.frozen 1
        have hS : w.heap.size ≤ w.heap.size := Nat.le_refl _
        have k9 := (kS2.set 0 (.bool false)).set 1 (.slice sl (dg N).length scap)
        have hbb := below_step (below_step hb1 hbs hb) hb0.size hb0
        have hB9 : Below w.heap.size w ((w1.setCell ⟨w.heap.size, 0, none⟩ (.bool false)).setCell ⟨w.heap.size, 1, none⟩ (.slice sl (dg N).length scap)) := (hbb.setCell hS _).setCell hS _
        have ho9 := ho2.set2 (S := w.heap.size) kS1.lt (.bool false) (.slice sl (dg N).length scap)
        replace ho9 : RdO _ w.heap.size _ _ := ho9.le (Nat.le_of_lt kS1.lt)
        clear hP hwh ho2 hL
        go_wp2
        generalize (World.setCell (World.setCell _ _ _) _ _) = w9 at hB9 k9 ho9 ⊢
        have q0 : w9.cell? ⟨w.heap.size, 0, none⟩ = some (.bool false) := k9.cell 0
        have q1 : w9.cell? ⟨w.heap.size, 1, none⟩ = some (.slice sl (dg N).length scap) := k9.cell 1
        refine bodyPost_ret (v := .agg #[.bool false, .slice sl (dg N).length scap]) (by simp [results, Tryz.results77, go_sem, q0, q1]) rfl ?_
        exact ⟨_, rfl, ⟨_, by rw [hs], by rw [← HN.out]; exact ho9⟩, hB9⟩
      · have hD2 := Lib.hid (dg_step hD.out hM0)
        have hpos : (0 : Int) < (M : Int) := by omega
        have hnn : (0 : Int) ≤ (M : Int) := by omega
        clear hD
        go_wp2_with (at_builtin; refine wpList_app_int rfl _ _ rfl W.heap.size _ L rfl ho rfl (by omega) hbs ?_; intro v' w4 ho4 hb4 hg4)
        go_wp2
        go_roundw
        case rel => exact ⟨M / 10000, _, by go_num, by omega, hD2, ho4, hb.trans hb4⟩
        case measure => simp [intOf]; omega
theorem c_mostB (a b : Int) (w : World) : Calls Tryz.prog 97 #[.int .i64 a, .int .i64 b] w fun e w' => e = .returned (.int .i64 (if b < a then a else b)) ∧ w' = w := by
  by_cases h : b < a
  · rw [if_pos h]
    go_enter Tryz.func97, Tryz.ntmps97
    go_wp2
    go_ret
    exact ⟨rfl, rfl⟩
  · rw [if_neg h]
    go_enter Tryz.func97, Tryz.ntmps97
    go_wp2
    go_ret
    exact ⟨rfl, rfl⟩
theorem c_absB (n : Int) (hn : -1000000000000000000 ≤ n ∧ n ≤ 1000000000000000000) (w : World) : Calls Tryz.prog 118 #[.int .i64 n] w fun e w' => e = .returned (.int .i64 n.natAbs) ∧ w' = w := by
  have HM := Lib.hid (c_mostB n (-n) w)
  have he : (if -n < n then n else -n) = (n.natAbs : Int) := by split <;> omega
  rw [he] at HM
  clear he
  generalize (n.natAbs : Int) = m at HM ⊢
  go_enter Tryz.func118, Tryz.ntmps118
  go_wp2_with fail
  refine HM.out.mono ?_
  rintro e w' ⟨rfl, rfl⟩
  go_wp2
  go_ret
  exact ⟨rfl, rfl⟩
set_option maxHeartbeats 1000000 in
theorem c_bgOf (n : Int) (hn : -1000000000000000000 ≤ n ∧ n ≤ 1000000000000000000) (w : World) :
    Calls Tryz.prog 91 #[.int .i64 n] w (WhP n w) := by
  have kS := Blk.new w #[.bool false, .slice none 0 0] 37
  have hb0 : Below w.heap.size w (w.alloc (.cells #[.bool false, .slice none 0 0] 37)) := (Below.refl _ _).alloc (Nat.le_refl _) _
  have HA := Lib.hid (fun W => c_absB n hn W)
  obtain ⟨N, hN⟩ : ∃ N, N = n.natAbs := ⟨_, rfl⟩
  rw [← hN] at HA
  have hlen : (dg N).length ≤ 5 := dg_len (by omega)
  have hNb : N ≤ 1000000000000000000 := by omega
  by_cases hneg : n < 0
  · have HN := Lib.hid hN
    clear hN
    have hab : True := trivial
    go_enter Tryz.func91, Tryz.ntmps91
    go_upto_region 1 with (fail)
    generalize w.alloc _ = W at *
    go_wp2_with fail
    refine (HA.out _).mono ?_
    rintro e w' ⟨rfl, hw⟩
    rw [hw]
    clear hw
    go_upto_region 3 with (fail)
    go_loopw [4, 3] (fun m l wr => ∃ (M : Nat) (L : List Int), m = .int .i64 M ∧ M ≤ 1000000000000000000 ∧ Hid (L ++ dg M = dg N) ∧ OwnsI wr W.heap.size l L ∧ Below W.heap.size W wr) (fun m _ _ => (intOf m).toNat)
    case atStart => exact ⟨N, [], by first | rfl | rw [hab], by omega, Lib.hid rfl, OwnsI.nil _ _, Below.refl _ _⟩
    case round =>
      obtain ⟨M, L, rfl, hM, hD, ho, hb⟩ := hrel
      have hll : L.length ≤ 5 := Nat.le_trans (dg_left hD.out) hlen
      have hbs := hb.size
      by_cases hM0 : M = 0
      · subst hM0
        have hL : L = dg N := by have := hD.out; rwa [dg_zero, List.append_nil] at this
        have kS1 := kS.next hb
        go_wp2_with fail
        refine ((c_bgMake true) _ L (by omega) _ ho.rdL).mono ?_
        rintro e w1 hP
        have hW := hP.whole (N := n) (.inl (by simp [hneg])) (by rw [hL, tr_low, HN.out])
        obtain ⟨v, rfl, hwh, hb1⟩ := hW
        obtain ⟨lv, rfl, ho2⟩ := id hwh
        rw [← HN.out] at ho2
        have hs : decide (n < 0) = true := by simp; omega
        rw [hs]
        obtain ⟨sl, scap, rfl, _⟩ := id ho2.1
        have kS2 := kS1.next hb1
        have c0 : w1.cell? ⟨w.heap.size, 0, none⟩ = some (.bool false) := kS2.cell 0
        have c1 : w1.cell? ⟨w.heap.size, 1, none⟩ = some (.slice none 0 0) := kS2.cell 1
        have z0 := kS2.frozen 0
        have z1 := kS2.frozen 1
        have hS : w.heap.size ≤ w.heap.size := Nat.le_refl _
        have k9 := (kS2.set 0 (.bool true)).set 1 (.slice sl (dg N).length scap)
        have hbb := below_step (below_step hb1 hbs hb) hb0.size hb0
        have hB9 : Below w.heap.size w ((w1.setCell ⟨w.heap.size, 0, none⟩ (.bool true)).setCell ⟨w.heap.size, 1, none⟩ (.slice sl (dg N).length scap)) := (hbb.setCell hS _).setCell hS _
        have ho9 := ho2.set2 (S := w.heap.size) kS1.lt (.bool true) (.slice sl (dg N).length scap)
        replace ho9 : RdO _ w.heap.size _ _ := ho9.le (Nat.le_of_lt kS1.lt)
        clear hP hwh ho2 hL
        go_wp2
        generalize (World.setCell (World.setCell _ _ _) _ _) = w9 at hB9 k9 ho9 ⊢
        have q0 : w9.cell? ⟨w.heap.size, 0, none⟩ = some (.bool true) := k9.cell 0
        have q1 : w9.cell? ⟨w.heap.size, 1, none⟩ = some (.slice sl (dg N).length scap) := k9.cell 1
        refine bodyPost_ret (v := .agg #[.bool true, .slice sl (dg N).length scap]) (by simp [results, Tryz.results91, go_sem, q0, q1]) rfl ?_
        exact ⟨_, rfl, ⟨_, by rw [hs], by rw [← HN.out]; exact ho9⟩, hB9⟩
      · have hD2 := Lib.hid (dg_step hD.out hM0)
        have hpos : (0 : Int) < (M : Int) := by omega
        have hnn : (0 : Int) ≤ (M : Int) := by omega
        clear hD
        go_wp2_with (at_builtin; refine wpList_app_int rfl _ _ rfl W.heap.size _ L rfl ho rfl (by omega) hbs ?_; intro v' w4 ho4 hb4 hg4)
        go_wp2
        go_roundw
        case rel => exact ⟨M / 10000, _, by go_num, by omega, hD2, ho4, hb.trans hb4⟩
        case measure => simp [intOf]; omega
  · have HN := Lib.hid hN
    clear hN
    have hab : True := trivial
    go_enter Tryz.func91, Tryz.ntmps91
    go_upto_region 1 with (fail)
    generalize w.alloc _ = W at *
    go_wp2_with fail
    refine (HA.out _).mono ?_
    rintro e w' ⟨rfl, hw⟩
    rw [hw]
    clear hw
    go_upto_region 3 with (fail)
    go_loopw [4, 3] (fun m l wr => ∃ (M : Nat) (L : List Int), m = .int .i64 M ∧ M ≤ 1000000000000000000 ∧ Hid (L ++ dg M = dg N) ∧ OwnsI wr W.heap.size l L ∧ Below W.heap.size W wr) (fun m _ _ => (intOf m).toNat)
    case atStart => exact ⟨N, [], by first | rfl | rw [hab], by omega, Lib.hid rfl, OwnsI.nil _ _, Below.refl _ _⟩
    case round =>
      obtain ⟨M, L, rfl, hM, hD, ho, hb⟩ := hrel
      have hll : L.length ≤ 5 := Nat.le_trans (dg_left hD.out) hlen
      have hbs := hb.size
      by_cases hM0 : M = 0
      · subst hM0
        have hL : L = dg N := by have := hD.out; rwa [dg_zero, List.append_nil] at this
        have kS1 := kS.next hb
        go_wp2_with fail
        refine ((c_bgMake (decide (n < 0))) _ L (by omega) _ ho.rdL).mono ?_
        rintro e w1 hP
        have hW := hP.whole (N := n) (.inl rfl) (by rw [hL, tr_low, HN.out])
        obtain ⟨v, rfl, hwh, hb1⟩ := hW
        obtain ⟨lv, rfl, ho2⟩ := id hwh
        rw [← HN.out] at ho2
        have hs : decide (n < 0) = false := by simp; omega
        rw [hs]
        obtain ⟨sl, scap, rfl, _⟩ := id ho2.1
        have kS2 := kS1.next hb1
        have c0 : w1.cell? ⟨w.heap.size, 0, none⟩ = some (.bool false) := kS2.cell 0
        have c1 : w1.cell? ⟨w.heap.size, 1, none⟩ = some (.slice none 0 0) := kS2.cell 1
        have z0 := kS2.frozen 0
        have z1 := kS2.frozen 1
        have hS : w.heap.size ≤ w.heap.size := Nat.le_refl _
        have k9 := (kS2.set 0 (.bool false)).set 1 (.slice sl (dg N).length scap)
        have hbb := below_step (below_step hb1 hbs hb) hb0.size hb0
        have hB9 : Below w.heap.size w ((w1.setCell ⟨w.heap.size, 0, none⟩ (.bool false)).setCell ⟨w.heap.size, 1, none⟩ (.slice sl (dg N).length scap)) := (hbb.setCell hS _).setCell hS _
        have ho9 := ho2.set2 (S := w.heap.size) kS1.lt (.bool false) (.slice sl (dg N).length scap)
        replace ho9 : RdO _ w.heap.size _ _ := ho9.le (Nat.le_of_lt kS1.lt)
        clear hP hwh ho2 hL
        go_wp2
        generalize (World.setCell (World.setCell _ _ _) _ _) = w9 at hB9 k9 ho9 ⊢
        have q0 : w9.cell? ⟨w.heap.size, 0, none⟩ = some (.bool false) := k9.cell 0
        have q1 : w9.cell? ⟨w.heap.size, 1, none⟩ = some (.slice sl (dg N).length scap) := k9.cell 1
        refine bodyPost_ret (v := .agg #[.bool false, .slice sl (dg N).length scap]) (by simp [results, Tryz.results91, go_sem, q0, q1]) rfl ?_
        exact ⟨_, rfl, ⟨_, by rw [hs], by rw [← HN.out]; exact ho9⟩, hB9⟩
      · have hD2 := Lib.hid (dg_step hD.out hM0)
        have hpos : (0 : Int) < (M : Int) := by omega
        have hnn : (0 : Int) ≤ (M : Int) := by omega
        clear hD
        go_wp2_with (at_builtin; refine wpList_app_int rfl _ _ rfl W.heap.size _ L rfl ho rfl (by omega) hbs ?_; intro v' w4 ho4 hb4 hg4)
        go_wp2
        go_roundw
        case rel => exact ⟨M / 10000, _, by go_num, by omega, hD2, ho4, hb.trans hb4⟩
        case measure => simp [intOf]; omega
end Go.Proofs.YtgjdgcmmlfmhmaaGreatDoor
