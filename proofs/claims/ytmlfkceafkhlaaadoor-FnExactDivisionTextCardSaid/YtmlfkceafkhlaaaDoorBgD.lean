/- Walks: the order of absolute values (compareSizes). -/
import Derived.Test.YtmlfkceafkhlaaaDoorBgC
import Derived.Still
import Derived.StillTail
import Derived.StillTactics
namespace Go.Proofs.YtmlfkceafkhlaaaDoor
open Go.RowKit

theorem RdL.drew {w : World} {v : Value} {L : List Int} (h : RdL w v L) : RdL w.drew v L := h.below ((Below.refl _ _).drew)
set_option maxHeartbeats 2000000 in
set_option maxRecDepth 20000 in
theorem c_compareSizes (na nb : Bool) (a b : Value) (la lb : List Int) (hla : la.length ≤ 100000) (hda : Dg la) (hdb : Dg lb) (hwa : Low la) (hwb : Low lb) (w : World) (ha : RdL w a la) (hb : RdL w b lb) :
    Calls Tryd.prog 64 #[.agg #[.bool na, a], .agg #[.bool nb, b]] w fun e w' => e = .returned (.int .i64 (cmpN (vl la) (vl lb))) ∧ Below w.heap.size w w' := by
  have HCO := Lib.hid (fun a b w => c_compareN a b w)
  have hb0 : Below w.heap.size w ((w.alloc (.cells #[.bool na, a] 31)).alloc (.cells #[.bool nb, b] 31)) := ((Below.refl _ _).alloc (Nat.le_refl _) _).alloc (by simp) _
  have kA := (Blk.new w #[.bool na, a] 31).alloc (.cells #[.bool nb, b] 31)
  have kB := Blk.new (w.alloc (.cells #[.bool na, a] 31)) #[.bool nb, b] 31
  simp only [World.size_alloc] at kB
  have HA := Lib.hid (ha.below hb0)
  have HB := Lib.hid (hb.below hb0)
  obtain ⟨aa, ca, rfl, _, _⟩ := ha
  obtain ⟨ab, cb, rfl, _, _⟩ := hb
  go_enter Tryd.func64, Tryd.ntmps64
  go_upto_region 1 with (fail)
  generalize (w.alloc _).alloc _ = W at *
  generalize hrb : w.heap.size + 1 = rb at *
  generalize hra : w.heap.size = ra at *
  have HRA := Lib.hid hra
  clear hra hrb
  -- the cells of the boxes in world W, by kA, kB
  have a0 : (W).cell? ⟨ra, 0, none⟩ = some (.bool na) := (kA).cell 0
  have a1 : (W).cell? ⟨ra, 1, none⟩ = some (.slice (aa) la.length ca) := (kA).cell 1
  have b0 : (W).cell? ⟨rb, 0, none⟩ = some (.bool nb) := (kB).cell 0
  have b1 : (W).cell? ⟨rb, 1, none⟩ = some (.slice (ab) lb.length cb) := (kB).cell 1
  by_cases hle : la.length = lb.length
  · have hli : (la.length : Int) = lb.length := by omega
    go_wp2
    go_loopw [5] (fun iv wr => ∃ i : Nat, i ≤ la.length ∧ iv = .int .i64 ((i : Int) - 1) ∧ Hid (EqUp la lb i) ∧ Below W.heap.size W wr) (fun iv _ => (intOf iv + 1).toNat)
    case atStart => exact ⟨la.length, Nat.le_refl _, by simp [hli], Lib.hid (EqUp.start (by omega) (by omega)), Below.refl _ _⟩
    case round =>
      clear a0 a1 b0 b1
      obtain ⟨i, hi, rfl, hE, hbr⟩ := hrel
      have hB0 : Below ra w wr := below_step hbr (by rw [← HRA.out]; exact hb0.size) hb0
      cases i with
      | zero =>
        have he := Lib.hid (cmpN_of_eq hE.out.eq)
        clear hE
        go_wp2
        go_ret
        exact ⟨by rw [he.out]; rfl, HRA.out ▸ hB0⟩
      | succ i =>
        have hsi : ((i + 1 : Nat) : Int) - 1 = i := by omega
        rw [hsi]
        have hia : i < la.length := by omega
        have hib : i < lb.length := by omega
        have kA1 := (kA.next hbr).drew
        have kB1 := (kB.next hbr).drew
        -- the cells of the boxes in world wr.drew, by kA, kB
        have a0 : (wr.drew).cell? ⟨ra, 0, none⟩ = some (.bool na) := (kA1).cell 0
        have a1 : (wr.drew).cell? ⟨ra, 1, none⟩ = some (.slice (aa) la.length ca) := (kA1).cell 1
        have b0 : (wr.drew).cell? ⟨rb, 0, none⟩ = some (.bool nb) := (kB1).cell 0
        have b1 : (wr.drew).cell? ⟨rb, 1, none⟩ = some (.slice (ab) lb.length cb) := (kB1).cell 1
        have hd1 : Below W.heap.size W wr.drew := hbr.drew
        have HA1 := (HA.out.below hbr).drew
        have HB1 := (HB.out.below hbr).drew
        obtain ⟨_, _, e1, _, hca⟩ := HA1
        injection e1 with e1 _ e2
        subst e1 e2
        obtain ⟨_, _, e1, _, hcb⟩ := HB1
        injection e1 with e1 _ e2
        subst e1 e2
        obtain ⟨ga, oa, rfl, q1, _⟩ := hca i hia
        obtain ⟨gb, ob, rfl, q2, _⟩ := hcb i hib
        clear hca hcb
        have i1 : (i : Int) < la.length := by omega
        have i2 : (i : Int) < lb.length := by omega
        generalize hx : la[i]?.getD 0 = x at q1
        generalize hy : lb[i]?.getD 0 = y at q2
        by_cases hxy : x = y
        · subst hxy
          have hE2 := Lib.hid (hE.out.step (hx.trans hy.symm))
          clear hx hy hE
          go_upto_region 6 with (fail)
          go_still (by kernel_rfl)
          change Exit.then _ _ _ _ wr.drew
          go_wp2
          go_roundw
          case rel => exact ⟨i, by omega, rfl, hE2⟩
          case measure => simp [intOf]; try omega
        · have he : Hid (cmpN (vl la) (vl lb) = cmpN x y) := by
            show _ = _
            rcases (by omega : x < y ∨ y < x) with h | h
            · rw [cmpN_of_lt h, cmpN_of_lt (hE.out.lt hda hdb (by rw [hx, hy]; exact h))]
            · rw [cmpN_of_gt h, cmpN_of_gt (hE.out.symm.lt hdb hda (by rw [hx, hy]; exact h))]
          clear hx hy hE
          have r1 : wr.drew.drew.cell? ⟨ga, oa + i, none⟩ = some (.int .i64 x) := q1
          have r2 : wr.drew.drew.cell? ⟨gb, ob + i, none⟩ = some (.int .i64 y) := q2
          go_upto_region 6 with (fail)
          go_still (by kernel_rfl)
          change Exit.then _ _ _ _ wr.drew
          clear a0 a1 b0 b1
          -- the cells of the boxes in world wr.drew.drew, by kA, kB
          have a0 : (wr.drew.drew).cell? ⟨ra, 0, none⟩ = some (.bool na) := (kA1.drew).cell 0
          have a1 : (wr.drew.drew).cell? ⟨ra, 1, none⟩ = some (.slice (some ⟨ga, oa, none⟩) la.length ca) := (kA1.drew).cell 1
          have b0 : (wr.drew.drew).cell? ⟨rb, 0, none⟩ = some (.bool nb) := (kB1.drew).cell 0
          have b1 : (wr.drew.drew).cell? ⟨rb, 1, none⟩ = some (.slice (some ⟨gb, ob, none⟩) lb.length cb) := (kB1.drew).cell 1
          go_upto_region 7 with (fail)
          refine wp_region_still_lit (by kernel_rfl) (by kernel_rfl) ?_
          change wpStill _ _ wr.drew.drew _ _ _
          iterate 10 still_step
          still_call (HCO.out _ _ _)
          still_step
          refine wpStill_nil ?_
          change Exit.then _ _ _ _ wr.drew.drew
          go_wp2
          go_ret
          exact ⟨by rw [he.out]; rfl, HRA.out ▸ hB0.drew.drew⟩
  · have hli : (la.length : Int) ≠ lb.length := by omega
    have he : cmpN (vl la) (vl lb) = cmpN la.length lb.length := by
      rcases Nat.lt_or_ge la.length lb.length with h | h
      · rw [cmpN_of_lt (low_lt hda hdb hwb h), cmpN_of_lt (by omega)]
      · rw [cmpN_of_gt (low_lt hdb hda hwa (by omega)), cmpN_of_gt (by omega)]
    replace he := Lib.hid he
    go_wp2_with fail
    refine (HCO.out _ _ _).mono ?_
    rintro e w1 ⟨rfl, hw⟩
    rw [hw]
    clear hw
    go_wp2
    go_ret
    exact ⟨by rw [he.out]; rfl, HRA.out ▸ hb0⟩
end Go.Proofs.YtmlfkceafkhlaaaDoor
