/- Several texts joined: BgD BgE BgF BgM BgR BgS BgU BgV BgW BgX BgG. -/
import Derived.Test.YtgjdgcmmlfmhmaaGreatDoorBgC
import Derived.Still
import Derived.StillTail
import Derived.StillTactics
import Derived.Test.YtgjdgcmmlfmhmaaGreatDoorChain
import Derived.BigRegion
import Derived.Test.YtgjdgcmmlfmhmaaGreatDoorBgQ
/- BgD -/
namespace Go.Proofs.YtgjdgcmmlfmhmaaGreatDoor
open Go.RowKit

theorem RdL.drew {w : World} {v : Value} {L : List Int} (h : RdL w v L) : RdL w.drew v L := h.below ((Below.refl _ _).drew)
set_option maxHeartbeats 2000000 in
set_option maxRecDepth 20000 in
theorem c_compareSizes (na nb : Bool) (a b : Value) (la lb : List Int) (hla : la.length ≤ 100000) (hda : Dg la) (hdb : Dg lb) (hwa : Low la) (hwb : Low lb) (w : World) (ha : RdL w a la) (hb : RdL w b lb) :
    Calls Tryz.prog 120 #[.agg #[.bool na, a], .agg #[.bool nb, b]] w fun e w' => e = .returned (.int .i64 (cmpN (vl la) (vl lb))) ∧ Below w.heap.size w w' := by
  have HCO := Lib.hid (fun a b w => c_compareN a b w)
  have hb0 : Below w.heap.size w ((w.alloc (.cells #[.bool na, a] 37)).alloc (.cells #[.bool nb, b] 37)) := ((Below.refl _ _).alloc (Nat.le_refl _) _).alloc (by simp) _
  have kA := (Blk.new w #[.bool na, a] 37).alloc (.cells #[.bool nb, b] 37)
  have kB := Blk.new (w.alloc (.cells #[.bool na, a] 37)) #[.bool nb, b] 37
  simp only [World.size_alloc] at kB
  have HA := Lib.hid (ha.below hb0)
  have HB := Lib.hid (hb.below hb0)
  obtain ⟨aa, ca, rfl, _, _⟩ := ha
  obtain ⟨ab, cb, rfl, _, _⟩ := hb
  go_enter Tryz.func120, Tryz.ntmps120
  go_upto_region 1 with (fail)
  generalize (w.alloc _).alloc _ = W at *
  generalize hrb : w.heap.size + 1 = rb at *
  generalize hra : w.heap.size = ra at *
  have HRA := Lib.hid hra
  clear hra hrb
  -- the cells of the boxes in world W, by kA, kB
  have a0 : (W).cell? ⟨ra, 0, none⟩ = some (.bool na) := (kA).cell 0
  have a1 : (W).cell? ⟨ra, 1, none⟩ = some (.slice (aa) la.length ca) := (kA).cell 1
  have b0 : (W).cell? ⟨rb, 0, none⟩ = some (.bool nb) := (kB).cell 0
  have b1 : (W).cell? ⟨rb, 1, none⟩ = some (.slice (ab) lb.length cb) := (kB).cell 1
  by_cases hle : la.length = lb.length
  · have hli : (la.length : Int) = lb.length := by omega
    go_wp2
    go_loopw [5] (fun iv wr => ∃ i : Nat, i ≤ la.length ∧ iv = .int .i64 ((i : Int) - 1) ∧ Hid (EqUp la lb i) ∧ Below W.heap.size W wr) (fun iv _ => (intOf iv + 1).toNat)
    case atStart => exact ⟨la.length, Nat.le_refl _, by simp [hli], Lib.hid (EqUp.start (by omega) (by omega)), Below.refl _ _⟩
    case round =>
      clear a0 a1 b0 b1
      obtain ⟨i, hi, rfl, hE, hbr⟩ := hrel
      have hB0 : Below ra w wr := below_step hbr (by rw [← HRA.out]; exact hb0.size) hb0
      cases i with
      | zero =>
        have he := Lib.hid (cmpN_of_eq hE.out.eq)
        clear hE
        go_wp2
        go_ret
        exact ⟨by rw [he.out]; rfl, HRA.out ▸ hB0⟩
      | succ i =>
        have hsi : ((i + 1 : Nat) : Int) - 1 = i := by omega
        rw [hsi]
        have hia : i < la.length := by omega
        have hib : i < lb.length := by omega
        have kA1 := (kA.next hbr).drew
        have kB1 := (kB.next hbr).drew
        -- the cells of the boxes in world wr.drew, by kA, kB
        have a0 : (wr.drew).cell? ⟨ra, 0, none⟩ = some (.bool na) := (kA1).cell 0
        have a1 : (wr.drew).cell? ⟨ra, 1, none⟩ = some (.slice (aa) la.length ca) := (kA1).cell 1
        have b0 : (wr.drew).cell? ⟨rb, 0, none⟩ = some (.bool nb) := (kB1).cell 0
        have b1 : (wr.drew).cell? ⟨rb, 1, none⟩ = some (.slice (ab) lb.length cb) := (kB1).cell 1
        have hd1 : Below W.heap.size W wr.drew := hbr.drew
        have HA1 := (HA.out.below hbr).drew
        have HB1 := (HB.out.below hbr).drew
        obtain ⟨_, _, e1, _, hca⟩ := HA1
        injection e1 with e1 _ e2
        subst e1 e2
        obtain ⟨_, _, e1, _, hcb⟩ := HB1
        injection e1 with e1 _ e2
        subst e1 e2
        obtain ⟨ga, oa, rfl, q1, _⟩ := hca i hia
        obtain ⟨gb, ob, rfl, q2, _⟩ := hcb i hib
        clear hca hcb
        have i1 : (i : Int) < la.length := by omega
        have i2 : (i : Int) < lb.length := by omega
        generalize hx : la[i]?.getD 0 = x at q1
        generalize hy : lb[i]?.getD 0 = y at q2
        by_cases hxy : x = y
        · subst hxy
          have hE2 := Lib.hid (hE.out.step (hx.trans hy.symm))
          clear hx hy hE
          go_upto_region 6 with (fail)
          go_still (by kernel_rfl)
          change Exit.then _ _ _ _ wr.drew
          go_wp2
          go_roundw
          case rel => exact ⟨i, by omega, rfl, hE2⟩
          case measure => simp [intOf]; try omega
        · have he : Hid (cmpN (vl la) (vl lb) = cmpN x y) := by
            show _ = _
            rcases (by omega : x < y ∨ y < x) with h | h
            · rw [cmpN_of_lt h, cmpN_of_lt (hE.out.lt hda hdb (by rw [hx, hy]; exact h))]
            · rw [cmpN_of_gt h, cmpN_of_gt (hE.out.symm.lt hdb hda (by rw [hx, hy]; exact h))]
          clear hx hy hE
          have r1 : wr.drew.drew.cell? ⟨ga, oa + i, none⟩ = some (.int .i64 x) := q1
          have r2 : wr.drew.drew.cell? ⟨gb, ob + i, none⟩ = some (.int .i64 y) := q2
          go_upto_region 6 with (fail)
          go_still (by kernel_rfl)
          change Exit.then _ _ _ _ wr.drew
          clear a0 a1 b0 b1
          -- the cells of the boxes in world wr.drew.drew, by kA, kB
          have a0 : (wr.drew.drew).cell? ⟨ra, 0, none⟩ = some (.bool na) := (kA1.drew).cell 0
          have a1 : (wr.drew.drew).cell? ⟨ra, 1, none⟩ = some (.slice (some ⟨ga, oa, none⟩) la.length ca) := (kA1.drew).cell 1
          have b0 : (wr.drew.drew).cell? ⟨rb, 0, none⟩ = some (.bool nb) := (kB1.drew).cell 0
          have b1 : (wr.drew.drew).cell? ⟨rb, 1, none⟩ = some (.slice (some ⟨gb, ob, none⟩) lb.length cb) := (kB1.drew).cell 1
          go_upto_region 7 with (fail)
          refine wp_region_still_lit (by kernel_rfl) (by kernel_rfl) ?_
          change wpStill _ _ wr.drew.drew _ _ _
          iterate 10 still_step
          still_call (HCO.out _ _ _)
          still_step
          refine wpStill_nil ?_
          change Exit.then _ _ _ _ wr.drew.drew
          go_wp2
          go_ret
          exact ⟨by rw [he.out]; rfl, HRA.out ▸ hB0.drew.drew⟩
  · have hli : (la.length : Int) ≠ lb.length := by omega
    have he : cmpN (vl la) (vl lb) = cmpN la.length lb.length := by
      rcases Nat.lt_or_ge la.length lb.length with h | h
      · rw [cmpN_of_lt (low_lt hda hdb hwb h), cmpN_of_lt (by omega)]
      · rw [cmpN_of_gt (low_lt hdb hda hwa (by omega)), cmpN_of_gt (by omega)]
    replace he := Lib.hid he
    go_wp2_with fail
    refine (HCO.out _ _ _).mono ?_
    rintro e w1 ⟨rfl, hw⟩
    rw [hw]
    clear hw
    go_wp2
    go_ret
    exact ⟨by rw [he.out]; rfl, HRA.out ▸ hb0⟩
end Go.Proofs.YtgjdgcmmlfmhmaaGreatDoor

/- BgE -/
namespace Go.Proofs.YtgjdgcmmlfmhmaaGreatDoor
open Go.RowKit

/-- a whole, to be read -/
def WhR (N : Int) (v : Value) (w : World) : Prop := ∃ lv, v = .agg #[.bool (decide (N < 0)), lv] ∧ RdL w lv (dg N.natAbs)
theorem Wh.rd {base : Nat} {N : Int} {v : Value} {w : World} (h : Wh base N v w) : WhR N v w := by
  obtain ⟨lv, h1, h2⟩ := h
  exact ⟨lv, h1, h2.1⟩
theorem WhR.below {N : Int} {v : Value} {w w1 : World} (h : WhR N v w) (hb : Below w.heap.size w w1) : WhR N v w1 := by
  obtain ⟨lv, h1, h2⟩ := h
  exact ⟨lv, h1, h2.below hb⟩
def OwD (V : Int) (base : Nat) (v : Value) (w : World) : Prop := ∃ O, OwnsI w base v O ∧ Dg O ∧ vl O = V ∧ O.length ≤ 200000
theorem OwD.closed (V : Int) (base : Nat) (v : Value) : Closed (OwD V base v) := fun _ _ ⟨O, h1, h2⟩ hb => ⟨O, h1.below hb, h2⟩
theorem dg_D (n : Nat) : Dg (dg n) := (dg_Dg n).1
theorem dg_L (n : Nat) : Low (dg n) := (dg_Dg n).2.1
theorem dg_V (n : Nat) : vl (dg n) = n := (dg_Dg n).2.2
theorem tr_val {O : List Int} {V : Int} {n : Nat} (h : Dg O) (hv : vl O = V) (hn : V = n) : tr O = dg n := by
  rw [tr_dg h, hv, hn]; rfl
theorem cmpN_neg {x y : Int} : cmpN x y < 0 ↔ x < y := by unfold cmpN; split; omega; split <;> omega
theorem RdO.over {ex : List Nat} {w w' : World} {base : Nat} {v : Value} {L : List Int} (h : RdO w base v L) (ho : Over ex w w') (hx : ∀ k ∈ ex, k < base) : RdO w' base v L := by
  by_cases hn : L = []
  · subst hn
    obtain ⟨a, cap, h1, h2, _⟩ := h.1
    exact ⟨⟨a, cap, h1, h2, fun i hi => by simp at hi⟩, fun h => absurd rfl h⟩
  · have h1 := h.2 hn
    have h3 := OwnsI.over h1 ho (fun g hg hm => by have := h1.lt g hg; have := hx g hm; omega)
    exact ⟨h3.rdL, fun _ => h3⟩
theorem sg_same {M N K : Int} {s : Bool} (h1 : Hid (decide (M < 0) = s)) (h2 : Hid (decide (N < 0) = s)) (hK : M + N = K) : (s = decide (K < 0) ∨ K = 0) ∧ ((M.natAbs : Int) + 1 * N.natAbs = K.natAbs) := by
  have h1 := h1.out
  have h2 := h2.out
  cases s
  · simp at h1 h2
    refine ⟨.inl ?_, by omega⟩
    symm
    simp; omega
  · simp at h1 h2
    refine ⟨.inl ?_, by omega⟩
    symm
    simp; omega
theorem sg_diff {M N K : Int} {s t : Bool} (h1 : Hid (decide (M < 0) = s)) (h2 : Hid (decide (N < 0) = t)) (hst : s ≠ t) (hK : M + N = K) (hl : N.natAbs ≤ M.natAbs) : (s = decide (K < 0) ∨ K = 0) ∧ ((M.natAbs : Int) + -1 * N.natAbs = K.natAbs) := by
  have h1 := h1.out
  have h2 := h2.out
  refine ⟨?_, ?_⟩
  · by_cases h0 : K = 0
    · exact .inr h0
    · left
      cases s <;> cases t <;> simp at h1 h2 hst ⊢ <;> omega
  · cases s <;> cases t <;> simp at h1 h2 hst ⊢ <;> omega
theorem Wh.rdO {base : Nat} {K : Int} {b : Bool} {lv : Value} {w : World} (h : Wh base K (.agg #[.bool b, lv]) w) : RdO w base lv (dg K.natAbs) := by
  obtain ⟨l, e, h⟩ := h
  simp only [Value.agg.injEq, Array.mk.injEq, List.cons.injEq] at e
  rw [e.2.1]
  exact h
theorem Blk.other {r : Nat} {cs : Array Value} {T : TypeId} {w : World} (h : Blk r cs T w) {p : Addr} (hp : p.block ≠ r) (v : Value) : Blk r cs T (w.setCell p v) :=
  h.over ((Over.refl [p.block] w).setCell (.inr (by simp)) v) (by simp; omega)
set_option maxHeartbeats 2000000 in
set_option maxRecDepth 20000 in
theorem c_addWholes (M N : Int) (a b : Value) (hM : (dg M.natAbs).length ≤ 100000) (hN : (dg N.natAbs).length ≤ 100000) (w : World) (ha : WhR M a w) (hb : WhR N b w) :
    Calls Tryz.prog 104 #[a, b] w (WhP (M + N) w) := by
  obtain ⟨la, rfl, hra⟩ := ha
  obtain ⟨lb, rfl, hrb⟩ := hb
  obtain ⟨aa, ca, HLA⟩ : ∃ aa ca, Hid (la = .slice aa (dg M.natAbs).length ca) := by obtain ⟨aa, ca, h, _⟩ := hra; exact ⟨aa, ca, h⟩
  obtain ⟨ab, cb, HLB⟩ : ∃ ab cb, Hid (lb = .slice ab (dg N.natAbs).length cb) := by obtain ⟨aa, ca, h, _⟩ := hrb; exact ⟨aa, ca, h⟩
  have kA := ((Blk.new w #[.bool (decide (M < 0)), la] 37).alloc (.cells #[.bool (decide (N < 0)), lb] 37)).alloc (.cells #[.bool false, .slice none 0 0] 37)
  have kB := (Blk.new (w.alloc (.cells #[.bool (decide (M < 0)), la] 37)) #[.bool (decide (N < 0)), lb] 37).alloc (.cells #[.bool false, .slice none 0 0] 37)
  have kS := Blk.new ((w.alloc (.cells #[.bool (decide (M < 0)), la] 37)).alloc (.cells #[.bool (decide (N < 0)), lb] 37)) #[.bool false, .slice none 0 0] 37
  have hb0 : Below w.heap.size w (((w.alloc (.cells #[.bool (decide (M < 0)), la] 37)).alloc (.cells #[.bool (decide (N < 0)), lb] 37)).alloc (.cells #[.bool false, .slice none 0 0] 37)) := (((Below.refl _ _).alloc (Nat.le_refl _) _).alloc (by simp) _).alloc (by simp; omega) _
  simp only [World.size_alloc] at kB kS
  have HR1 := Lib.hid hra
  have HR2 := Lib.hid hrb
  generalize hsa : decide (M < 0) = sa at *
  generalize hsb : decide (N < 0) = sb at *
  have HSA := Lib.hid hsa
  have HSB := Lib.hid hsb
  clear hsa hsb
  obtain ⟨K, hK⟩ : ∃ K, M + N = K := ⟨_, rfl⟩
  rw [hK]
  have hsz := hb0.size
  go_enter Tryz.func104, Tryz.ntmps104
  go_upto_region 1 with (fail)
  generalize ((w.alloc _).alloc _).alloc _ = W at *
  generalize hrs : w.heap.size + 1 + 1 = rs at *
  have a0 : W.cell? ⟨w.heap.size, 0, none⟩ = some (.bool (sa)) := kA.cell 0
  have a1 : W.cell? ⟨w.heap.size, 1, none⟩ = some la := kA.cell 1
  have b0 : W.cell? ⟨w.heap.size + 1, 0, none⟩ = some (.bool (sb)) := kB.cell 0
  have b1 : W.cell? ⟨w.heap.size + 1, 1, none⟩ = some lb := kB.cell 1
  have kAl : w.heap.size < W.heap.size := kA.lt
  have kBl : w.heap.size + 1 < W.heap.size := kB.lt
  have kSl : rs < W.heap.size := kS.lt
  have hn1 : w.heap.size ∉ [rs] := by simp; omega
  have hn2 : w.heap.size + 1 ∉ [rs] := by simp; omega
  by_cases hs : sa = sb
  · subst hs
    go_upto_region 2 with (fail)
    -- impl.addWholes function, 2 region, c_addLimbs sum's contract, c_trimmed whole's contract, M left number, N right number, 1 sign, sa blocks' left number's sign, sg_same HSA HSB hK proof of the sign; world W, kS at rs, HR1/HR2 reads in W
    refine wp_region_cls [rs] (fun _ => false) (fun _ => True) (Blk rs #[.bool false, .slice none 0 0] 37) (by kernel_rfl) (kS) ?_
    apply wpAnyF_hd ⟨W, Over.refl _ _, kS⟩ [true, true, true, true, true, true] 3 (Blk.closed _ _ _) (fun _ _ => trivial) (by kernel_rfl) (by kernel_rfl) (by kernel_rfl) (by kernel_rfl) (by simp)
    · intro E hE hEN hEn; (repeat (first | (refine wpHL_take ?_; go_big_quiet_step (fail); refine wpQuiet_nil ?_) | refine wpHL_skip ?_)); exact wpHL_end rfl
    refine wpAnyF_ready [6] 2 (by kernel_rfl) (by kernel_rfl) (by simp) (AllF.cons ?_ AllF.nil)
    refine stepC_calle (some 16) (fun u => fun w' => Blk rs #[.bool false, .slice none 0 0] 37 w' ∧ OwD ((M).natAbs + (1) * (N).natAbs) (W).heap.size u w') (by rfl) (by rfl) (by rfl) (fun _ => by go_simp) (fun u => (Blk.closed _ _ _).and (OwD.closed _ _ _)) (fun w' hO hD => (c_addLimbs (1) (by omega) _ _ (dg (M).natAbs) (dg (N).natAbs) (by omega) (by omega) (dg_D _) (dg_D _) (by rw [dg_V, dg_V]; omega) _ (HR1.out.below0 (hO.belowGe (B := w.heap.size) hb0 hsz (by simp; omega))) (HR2.out.below0 (hO.belowGe (B := w.heap.size) hb0 hsz (by simp; omega)))).mono fun e w2 ⟨v, O, h1, h2, h3, h4, h5, h6⟩ => ⟨v, h1, .of_below h6, hD.next h6, O, h2.le hO.size, h3, by rw [h4, dg_V, dg_V], by omega⟩) (fun u hne => ?_)
    simp only [Act.put, List.setIfInBounds_toArray, List.set_cons_succ, List.set_cons_zero]
    refine wpAnyF_ready [7] 1 (by kernel_rfl) (by kernel_rfl) (by simp) (AllF.cons ?_ AllF.nil)
    refine stepC_calle (some 17) (fun u2 => fun w' => Blk rs #[.bool false, .slice none 0 0] 37 w' ∧ Wh (W).heap.size K u2 w') (by rfl) (by rfl) (by rfl) (fun _ => by go_simp) (fun u2 => (Blk.closed _ _ _).and (Wh.closed _ _ _)) (fun w' hO ⟨hD1, O, h1, h2, h3, h4⟩ => (c_trimmed (sa) _ O (by omega) _ h1.rdL).mono fun e w2 h => let ⟨v, r1, r2, r3⟩ := h.whole (N := K) (sg_same HSA HSB hK).1 (tr_val h2 h3 (sg_same HSA HSB hK).2); ⟨v, r1, .of_below r3, hD1.next r3, r2.le hO.size⟩) (fun u2 hne => ?_)
    simp only [Act.put, List.setIfInBounds_toArray, List.set_cons_succ, List.set_cons_zero]
    obtain ⟨w9, _, _, lv9, rfl, ho9⟩ := id hne; obtain ⟨sl, scap, rfl, _⟩ := id ho9.1
    refine wpAnyF_ready [8] 0 (by kernel_rfl) (by kernel_rfl) (by simp) (AllF.cons ?_ AllF.nil)
    refine stepC_store (v := .agg #[.bool (decide (K < 0)), .slice sl (dg K.natAbs).length scap]) (rs) (#[.bool false, .slice none 0 0]) (fun w' => Blk rs #[.bool (decide (K < 0)), .slice sl (dg K.natAbs).length scap] 37 w' ∧ RdO w' (W).heap.size (.slice sl (dg K.natAbs).length scap) (dg K.natAbs)) (by rfl) (by rfl) (by rfl) (by rfl) (by rfl) (by rfl) (fun _ => by go_simp) (by rfl) (by simp [Value.cells, one1]) (.inr (by simp)) (fun _ hd => hd.1) ((Blk.closed _ _ _).and (fun _ _ h hb => ⟨h.1.below hb, fun hn => (h.2 hn).below hb⟩)) (fun w1 w2 hd ho hb => ⟨hb, hd.2.rdO.over ho (by simp; omega)⟩) (fun hne => ?_)
    try simp only [Value.cells]
    refine wpAnyF_done (by kernel_rfl) (fun Wz hOz hDz => NoPanic.normal ?_) _
    try dsimp only
    have hbz : Below w.heap.size w Wz := hOz.belowGe (B := w.heap.size) hb0 hsz (by simp; omega)
    have q0 : Wz.cell? ⟨rs, 0, none⟩ = some (.bool (decide (K < 0))) := hDz.1.cell 0
    have q1 : Wz.cell? ⟨rs, 1, none⟩ = some (.slice sl (dg K.natAbs).length scap) := hDz.1.cell 1
    have hRz : RdO Wz w.heap.size (.slice sl (dg K.natAbs).length scap) (dg K.natAbs) := hDz.2.le hsz
    clear hOz hDz hne ho9
    go_wp2
    refine bodyPost_ret (v := .agg #[.bool (decide (K < 0)), .slice sl (dg K.natAbs).length scap]) (by simp [results, Tryz.results104, go_sem, q0, q1]) rfl ?_
    exact ⟨_, rfl, ⟨_, rfl, hRz⟩, hbz⟩
  · have hsd : sa ≠ sb := hs
    have hbe : (sa == sb) = false := by simp [hs]
    have HC := Lib.hid (c_compareSizes sa sb la lb (dg M.natAbs) (dg N.natAbs) (by omega) (dg_D _) (dg_D _) (dg_L _) (dg_L _) W (HR1.out.below hb0) (HR2.out.below hb0))
    rw [dg_V, dg_V] at HC
    generalize hc : cmpN (M.natAbs : Int) (N.natAbs : Int) = c at HC
    by_cases hc0 : c < 0
    · have hl : M.natAbs ≤ N.natAbs := by
        have := (cmpN_neg (x := (M.natAbs : Int)) (y := N.natAbs)).1 (by rw [hc]; exact hc0)
        omega
      have hK2 : N + M = K := by omega
      have hsd2 : sb ≠ sa := fun h => hsd h.symm
      clear hc
      go_wp2_with fail
      refine HC.out.mono ?_
      rintro e W0 ⟨rfl, hb1⟩
      have kA0 := kA.next hb1
      have kB0 := kB.next hb1
      have kS0 := kS.next hb1
      clear a0 a1 b0 b1
      have a0 : W0.cell? ⟨w.heap.size, 0, none⟩ = some (.bool sa) := kA0.cell 0
      have a1 : W0.cell? ⟨w.heap.size, 1, none⟩ = some la := kA0.cell 1
      have b0 : W0.cell? ⟨w.heap.size + 1, 0, none⟩ = some (.bool sb) := kB0.cell 0
      have b1 : W0.cell? ⟨w.heap.size + 1, 1, none⟩ = some lb := kB0.cell 1
      have fa0 := kA0.frozen 0
      have fa1 := kA0.frozen 1
      have fb0 := kB0.frozen 0
      have fb1 := kB0.frozen 1
      have hb2 : Below w.heap.size w W0 := below_step hb1 hsz hb0
      clear HC
      have hla9 := HLA.out
      have hlb9 := HLB.out
      clear HLA HLB
      subst hla9 hlb9
      have kA1 := (((kA0.set 0 (.bool sb)).set 1 (.slice ab (dg N.natAbs).length cb)).other (p := ⟨w.heap.size + 1, 0, none⟩) (by simp) (.bool sa)).other (p := ⟨w.heap.size + 1, 1, none⟩) (by simp) (.slice aa (dg M.natAbs).length ca)
      have kB1 := (((kB0.other (p := ⟨w.heap.size, 0, none⟩) (by simp) (.bool sb)).other (p := ⟨w.heap.size, 1, none⟩) (by simp) (.slice ab (dg N.natAbs).length cb)).set 0 (.bool sa)).set 1 (.slice aa (dg M.natAbs).length ca)
      have kS1 := (((kS0.other (p := ⟨w.heap.size, 0, none⟩) (by simp; omega) (.bool sb)).other (p := ⟨w.heap.size, 1, none⟩) (by simp; omega) (.slice ab (dg N.natAbs).length cb)).other (p := ⟨w.heap.size + 1, 0, none⟩) (by simp; omega) (.bool sa)).other (p := ⟨w.heap.size + 1, 1, none⟩) (by simp; omega) (.slice aa (dg M.natAbs).length ca)
      have hb3 : Below w.heap.size w ((((W0.setCell ⟨w.heap.size, 0, none⟩ (.bool sb)).setCell ⟨w.heap.size, 1, none⟩ (.slice ab (dg N.natAbs).length cb)).setCell ⟨w.heap.size + 1, 0, none⟩ (.bool sa)).setCell ⟨w.heap.size + 1, 1, none⟩ (.slice aa (dg M.natAbs).length ca)) := (((hb2.setCell (Nat.le_refl _) _).setCell (Nat.le_refl _) _).setCell (by simp) _).setCell (by simp) _
      go_upto_region 4 with (fail)
      go_upto_region 5 with (fail)
      generalize (((World.setCell _ _ _).setCell _ _).setCell _ _).setCell _ _ = W1 at *
      clear a0 a1 b0 b1 fa0 fa1 fb0 fb1
      have a0 : W1.cell? ⟨w.heap.size, 0, none⟩ = some (.bool sb) := kA1.cell 0
      have a1 : W1.cell? ⟨w.heap.size, 1, none⟩ = some (.slice ab (dg N.natAbs).length cb) := kA1.cell 1
      have b0 : W1.cell? ⟨w.heap.size + 1, 0, none⟩ = some (.bool sa) := kB1.cell 0
      have b1 : W1.cell? ⟨w.heap.size + 1, 1, none⟩ = some (.slice aa (dg M.natAbs).length ca) := kB1.cell 1
      have kA1l : w.heap.size < W1.heap.size := kA1.lt
      have kB1l : w.heap.size + 1 < W1.heap.size := kB1.lt
      have kS1l : rs < W1.heap.size := kS1.lt
      have hsz1 := hb3.size
      have HRt := HR1
      clear HR1
      have HR1 := HR2
      clear HR2
      have HR2 := HRt
      clear HRt
      -- impl.addWholes function, 5 region, c_addLimbs sum's contract, c_trimmed whole's contract, N left number, M right number, -1 sign, sb blocks' left number's sign, sg_diff HSB HSA hsd2 hK2 hl proof of the sign; world W, kS at rs, HR1/HR2 reads in W
      refine wp_region_cls [rs] (fun _ => false) (fun _ => True) (Blk rs #[.bool false, .slice none 0 0] 37) (by kernel_rfl) (kS1) ?_
      apply wpAnyF_hd ⟨W1, Over.refl _ _, kS1⟩ [true, true, true, true, true, true] 3 (Blk.closed _ _ _) (fun _ _ => trivial) (by kernel_rfl) (by kernel_rfl) (by kernel_rfl) (by kernel_rfl) (by simp)
      · intro E hE hEN hEn; (repeat (first | (refine wpHL_take ?_; go_big_quiet_step (fail); refine wpQuiet_nil ?_) | refine wpHL_skip ?_)); exact wpHL_end rfl
      refine wpAnyF_ready [6] 2 (by kernel_rfl) (by kernel_rfl) (by simp) (AllF.cons ?_ AllF.nil)
      refine stepC_calle (some 30) (fun u => fun w' => Blk rs #[.bool false, .slice none 0 0] 37 w' ∧ OwD ((N).natAbs + (-1) * (M).natAbs) (W1).heap.size u w') (by rfl) (by rfl) (by rfl) (fun _ => by go_simp) (fun u => (Blk.closed _ _ _).and (OwD.closed _ _ _)) (fun w' hO hD => (c_addLimbs (-1) (by omega) _ _ (dg (N).natAbs) (dg (M).natAbs) (by omega) (by omega) (dg_D _) (dg_D _) (by rw [dg_V, dg_V]; omega) _ (HR1.out.below0 (hO.belowGe (B := w.heap.size) hb3 hsz1 (by simp; omega))) (HR2.out.below0 (hO.belowGe (B := w.heap.size) hb3 hsz1 (by simp; omega)))).mono fun e w2 ⟨v, O, h1, h2, h3, h4, h5, h6⟩ => ⟨v, h1, .of_below h6, hD.next h6, O, h2.le hO.size, h3, by rw [h4, dg_V, dg_V], by omega⟩) (fun u hne => ?_)
      simp only [Act.put, List.setIfInBounds_toArray, List.set_cons_succ, List.set_cons_zero]
      refine wpAnyF_ready [7] 1 (by kernel_rfl) (by kernel_rfl) (by simp) (AllF.cons ?_ AllF.nil)
      refine stepC_calle (some 31) (fun u2 => fun w' => Blk rs #[.bool false, .slice none 0 0] 37 w' ∧ Wh (W1).heap.size K u2 w') (by rfl) (by rfl) (by rfl) (fun _ => by go_simp) (fun u2 => (Blk.closed _ _ _).and (Wh.closed _ _ _)) (fun w' hO ⟨hD1, O, h1, h2, h3, h4⟩ => (c_trimmed (sb) _ O (by omega) _ h1.rdL).mono fun e w2 h => let ⟨v, r1, r2, r3⟩ := h.whole (N := K) (sg_diff HSB HSA hsd2 hK2 hl).1 (tr_val h2 h3 (sg_diff HSB HSA hsd2 hK2 hl).2); ⟨v, r1, .of_below r3, hD1.next r3, r2.le hO.size⟩) (fun u2 hne => ?_)
      simp only [Act.put, List.setIfInBounds_toArray, List.set_cons_succ, List.set_cons_zero]
      obtain ⟨w9, _, _, lv9, rfl, ho9⟩ := id hne; obtain ⟨sl, scap, rfl, _⟩ := id ho9.1
      refine wpAnyF_ready [8] 0 (by kernel_rfl) (by kernel_rfl) (by simp) (AllF.cons ?_ AllF.nil)
      refine stepC_store (v := .agg #[.bool (decide (K < 0)), .slice sl (dg K.natAbs).length scap]) (rs) (#[.bool false, .slice none 0 0]) (fun w' => Blk rs #[.bool (decide (K < 0)), .slice sl (dg K.natAbs).length scap] 37 w' ∧ RdO w' (W1).heap.size (.slice sl (dg K.natAbs).length scap) (dg K.natAbs)) (by rfl) (by rfl) (by rfl) (by rfl) (by rfl) (by rfl) (fun _ => by go_simp) (by rfl) (by simp [Value.cells, one1]) (.inr (by simp)) (fun _ hd => hd.1) ((Blk.closed _ _ _).and (fun _ _ h hb => ⟨h.1.below hb, fun hn => (h.2 hn).below hb⟩)) (fun w1 w2 hd ho hb => ⟨hb, hd.2.rdO.over ho (by simp; omega)⟩) (fun hne => ?_)
      try simp only [Value.cells]
      refine wpAnyF_done (by kernel_rfl) (fun Wz hOz hDz => NoPanic.normal ?_) _
      try dsimp only
      have hbz : Below w.heap.size w Wz := hOz.belowGe (B := w.heap.size) hb3 hsz1 (by simp; omega)
      have q0 : Wz.cell? ⟨rs, 0, none⟩ = some (.bool (decide (K < 0))) := hDz.1.cell 0
      have q1 : Wz.cell? ⟨rs, 1, none⟩ = some (.slice sl (dg K.natAbs).length scap) := hDz.1.cell 1
      have hRz : RdO Wz w.heap.size (.slice sl (dg K.natAbs).length scap) (dg K.natAbs) := hDz.2.le hsz1
      clear hOz hDz hne ho9
      go_wp2
      refine bodyPost_ret (v := .agg #[.bool (decide (K < 0)), .slice sl (dg K.natAbs).length scap]) (by simp [results, Tryz.results104, go_sem, q0, q1]) rfl ?_
      exact ⟨_, rfl, ⟨_, rfl, hRz⟩, hbz⟩
    · have hl : N.natAbs ≤ M.natAbs := by
        have := mt (cmpN_neg (x := (M.natAbs : Int)) (y := N.natAbs)).2 (by rw [hc]; exact hc0)
        omega
      clear hc
      go_wp2_with fail
      refine HC.out.mono ?_
      rintro e W1 ⟨rfl, hb1⟩
      have kA1 := kA.next hb1
      have kB1 := kB.next hb1
      have kS1 := kS.next hb1
      have hb2 : Below w.heap.size w W1 := below_step hb1 hsz hb0
      have hsz1 := hb2.size
      clear a0 a1 b0 b1
      have a0 : W1.cell? ⟨w.heap.size, 0, none⟩ = some (.bool sa) := kA1.cell 0
      have a1 : W1.cell? ⟨w.heap.size, 1, none⟩ = some la := kA1.cell 1
      have b0 : W1.cell? ⟨w.heap.size + 1, 0, none⟩ = some (.bool sb) := kB1.cell 0
      have b1 : W1.cell? ⟨w.heap.size + 1, 1, none⟩ = some lb := kB1.cell 1
      have kA1l : w.heap.size < W1.heap.size := kA1.lt
      have kB1l : w.heap.size + 1 < W1.heap.size := kB1.lt
      have kS1l : rs < W1.heap.size := kS1.lt
      clear HC
      go_upto_region 5 with (fail)
      -- impl.addWholes function, 5 region, c_addLimbs sum's contract, c_trimmed whole's contract, M left number, N right number, -1 sign, sa blocks' left number's sign, sg_diff HSA HSB hsd hK hl proof of the sign; world W, kS at rs, HR1/HR2 reads in W
      refine wp_region_cls [rs] (fun _ => false) (fun _ => True) (Blk rs #[.bool false, .slice none 0 0] 37) (by kernel_rfl) (kS1) ?_
      apply wpAnyF_hd ⟨W1, Over.refl _ _, kS1⟩ [true, true, true, true, true, true] 3 (Blk.closed _ _ _) (fun _ _ => trivial) (by kernel_rfl) (by kernel_rfl) (by kernel_rfl) (by kernel_rfl) (by simp)
      · intro E hE hEN hEn; (repeat (first | (refine wpHL_take ?_; go_big_quiet_step (fail); refine wpQuiet_nil ?_) | refine wpHL_skip ?_)); exact wpHL_end rfl
      refine wpAnyF_ready [6] 2 (by kernel_rfl) (by kernel_rfl) (by simp) (AllF.cons ?_ AllF.nil)
      refine stepC_calle (some 30) (fun u => fun w' => Blk rs #[.bool false, .slice none 0 0] 37 w' ∧ OwD ((M).natAbs + (-1) * (N).natAbs) (W1).heap.size u w') (by rfl) (by rfl) (by rfl) (fun _ => by go_simp) (fun u => (Blk.closed _ _ _).and (OwD.closed _ _ _)) (fun w' hO hD => (c_addLimbs (-1) (by omega) _ _ (dg (M).natAbs) (dg (N).natAbs) (by omega) (by omega) (dg_D _) (dg_D _) (by rw [dg_V, dg_V]; omega) _ (HR1.out.below0 (hO.belowGe (B := w.heap.size) hb2 hsz1 (by simp; omega))) (HR2.out.below0 (hO.belowGe (B := w.heap.size) hb2 hsz1 (by simp; omega)))).mono fun e w2 ⟨v, O, h1, h2, h3, h4, h5, h6⟩ => ⟨v, h1, .of_below h6, hD.next h6, O, h2.le hO.size, h3, by rw [h4, dg_V, dg_V], by omega⟩) (fun u hne => ?_)
      simp only [Act.put, List.setIfInBounds_toArray, List.set_cons_succ, List.set_cons_zero]
      refine wpAnyF_ready [7] 1 (by kernel_rfl) (by kernel_rfl) (by simp) (AllF.cons ?_ AllF.nil)
      refine stepC_calle (some 31) (fun u2 => fun w' => Blk rs #[.bool false, .slice none 0 0] 37 w' ∧ Wh (W1).heap.size K u2 w') (by rfl) (by rfl) (by rfl) (fun _ => by go_simp) (fun u2 => (Blk.closed _ _ _).and (Wh.closed _ _ _)) (fun w' hO ⟨hD1, O, h1, h2, h3, h4⟩ => (c_trimmed (sa) _ O (by omega) _ h1.rdL).mono fun e w2 h => let ⟨v, r1, r2, r3⟩ := h.whole (N := K) (sg_diff HSA HSB hsd hK hl).1 (tr_val h2 h3 (sg_diff HSA HSB hsd hK hl).2); ⟨v, r1, .of_below r3, hD1.next r3, r2.le hO.size⟩) (fun u2 hne => ?_)
      simp only [Act.put, List.setIfInBounds_toArray, List.set_cons_succ, List.set_cons_zero]
      obtain ⟨w9, _, _, lv9, rfl, ho9⟩ := id hne; obtain ⟨sl, scap, rfl, _⟩ := id ho9.1
      refine wpAnyF_ready [8] 0 (by kernel_rfl) (by kernel_rfl) (by simp) (AllF.cons ?_ AllF.nil)
      refine stepC_store (v := .agg #[.bool (decide (K < 0)), .slice sl (dg K.natAbs).length scap]) (rs) (#[.bool false, .slice none 0 0]) (fun w' => Blk rs #[.bool (decide (K < 0)), .slice sl (dg K.natAbs).length scap] 37 w' ∧ RdO w' (W1).heap.size (.slice sl (dg K.natAbs).length scap) (dg K.natAbs)) (by rfl) (by rfl) (by rfl) (by rfl) (by rfl) (by rfl) (fun _ => by go_simp) (by rfl) (by simp [Value.cells, one1]) (.inr (by simp)) (fun _ hd => hd.1) ((Blk.closed _ _ _).and (fun _ _ h hb => ⟨h.1.below hb, fun hn => (h.2 hn).below hb⟩)) (fun w1 w2 hd ho hb => ⟨hb, hd.2.rdO.over ho (by simp; omega)⟩) (fun hne => ?_)
      try simp only [Value.cells]
      refine wpAnyF_done (by kernel_rfl) (fun Wz hOz hDz => NoPanic.normal ?_) _
      try dsimp only
      have hbz : Below w.heap.size w Wz := hOz.belowGe (B := w.heap.size) hb2 hsz1 (by simp; omega)
      have q0 : Wz.cell? ⟨rs, 0, none⟩ = some (.bool (decide (K < 0))) := hDz.1.cell 0
      have q1 : Wz.cell? ⟨rs, 1, none⟩ = some (.slice sl (dg K.natAbs).length scap) := hDz.1.cell 1
      have hRz : RdO Wz w.heap.size (.slice sl (dg K.natAbs).length scap) (dg K.natAbs) := hDz.2.le hsz1
      clear hOz hDz hne ho9
      go_wp2
      refine bodyPost_ret (v := .agg #[.bool (decide (K < 0)), .slice sl (dg K.natAbs).length scap]) (by simp [results, Tryz.results104, go_sem, q0, q1]) rfl ?_
      exact ⟨_, rfl, ⟨_, rfl, hRz⟩, hbz⟩
set_option maxHeartbeats 2000000 in
set_option maxRecDepth 20000 in
theorem c_bgAdd (M N : Int) (a b : Value) (hM : (dg M.natAbs).length ≤ 100000) (hN : (dg N.natAbs).length ≤ 100000) (w : World) (ha : WhR M a w) (hb : WhR N b w) :
    Calls Tryz.prog 106 #[a, b] w (WhP (M + N) w) := by
  obtain ⟨la, rfl, hra⟩ := ha
  obtain ⟨lb, rfl, hrb⟩ := hb
  have kA := ((Blk.new w #[.bool (decide (M < 0)), la] 37).alloc (.cells #[.bool (decide (N < 0)), lb] 37)).alloc (.cells #[.bool false, .slice none 0 0] 37)
  have kB := (Blk.new (w.alloc (.cells #[.bool (decide (M < 0)), la] 37)) #[.bool (decide (N < 0)), lb] 37).alloc (.cells #[.bool false, .slice none 0 0] 37)
  have kS := Blk.new ((w.alloc (.cells #[.bool (decide (M < 0)), la] 37)).alloc (.cells #[.bool (decide (N < 0)), lb] 37)) #[.bool false, .slice none 0 0] 37
  have hb0 : Below w.heap.size w (((w.alloc (.cells #[.bool (decide (M < 0)), la] 37)).alloc (.cells #[.bool (decide (N < 0)), lb] 37)).alloc (.cells #[.bool false, .slice none 0 0] 37)) := (((Below.refl _ _).alloc (Nat.le_refl _) _).alloc (by simp) _).alloc (by simp; omega) _
  simp only [World.size_alloc] at kB kS
  have HR1 := Lib.hid hra
  have HR2 := Lib.hid hrb
  generalize hsa : decide (M < 0) = sa at *
  generalize hsb : decide (N < 0) = sb at *
  have HSA := Lib.hid hsa
  have HSB := Lib.hid hsb
  clear hsa hsb
  obtain ⟨K, hK⟩ : ∃ K, M + N = K := ⟨_, rfl⟩
  rw [hK]
  have hsz := hb0.size
  go_enter Tryz.func106, Tryz.ntmps106
  go_upto_region 1 with (fail)
  generalize ((w.alloc _).alloc _).alloc _ = W at *
  generalize hrs : w.heap.size + 1 + 1 = rs at *
  have a0 : W.cell? ⟨w.heap.size, 0, none⟩ = some (.bool (sa)) := kA.cell 0
  have a1 : W.cell? ⟨w.heap.size, 1, none⟩ = some la := kA.cell 1
  have b0 : W.cell? ⟨w.heap.size + 1, 0, none⟩ = some (.bool (sb)) := kB.cell 0
  have b1 : W.cell? ⟨w.heap.size + 1, 1, none⟩ = some lb := kB.cell 1
  have kAl : w.heap.size < W.heap.size := kA.lt
  have kBl : w.heap.size + 1 < W.heap.size := kB.lt
  have kSl : rs < W.heap.size := kS.lt
  have hn1 : w.heap.size ∉ [rs] := by simp; omega
  have hn2 : w.heap.size + 1 ∉ [rs] := by simp; omega
  by_cases hs : sa = sb
  · subst hs
    go_upto_region 2 with (fail)
    -- spec.bgAdd function, 2 region, c_bgCombine sum's contract, c_bgMake whole's contract, M left number, N right number, 1 sign, sa blocks' left number's sign, sg_same HSA HSB hK proof of the sign; world W, kS at rs, HR1/HR2 reads in W
    refine wp_region_cls [rs] (fun _ => false) (fun _ => True) (Blk rs #[.bool false, .slice none 0 0] 37) (by kernel_rfl) (kS) ?_
    apply wpAnyF_hd ⟨W, Over.refl _ _, kS⟩ [true, true, true, true, true, true] 3 (Blk.closed _ _ _) (fun _ _ => trivial) (by kernel_rfl) (by kernel_rfl) (by kernel_rfl) (by kernel_rfl) (by simp)
    · intro E hE hEN hEn; (repeat (first | (refine wpHL_take ?_; go_big_quiet_step (fail); refine wpQuiet_nil ?_) | refine wpHL_skip ?_)); exact wpHL_end rfl
    refine wpAnyF_ready [6] 2 (by kernel_rfl) (by kernel_rfl) (by simp) (AllF.cons ?_ AllF.nil)
    refine stepC_calle (some 16) (fun u => fun w' => Blk rs #[.bool false, .slice none 0 0] 37 w' ∧ OwD ((M).natAbs + (1) * (N).natAbs) (W).heap.size u w') (by rfl) (by rfl) (by rfl) (fun _ => by go_simp) (fun u => (Blk.closed _ _ _).and (OwD.closed _ _ _)) (fun w' hO hD => (c_bgCombine (1) (by omega) _ _ (dg (M).natAbs) (dg (N).natAbs) (by omega) (by omega) (dg_D _) (dg_D _) (by rw [dg_V, dg_V]; omega) _ (HR1.out.below0 (hO.belowGe (B := w.heap.size) hb0 hsz (by simp; omega))) (HR2.out.below0 (hO.belowGe (B := w.heap.size) hb0 hsz (by simp; omega)))).mono fun e w2 ⟨v, O, h1, h2, h3, h4, h5, h6⟩ => ⟨v, h1, .of_below h6, hD.next h6, O, h2.le hO.size, h3, by rw [h4, dg_V, dg_V], by omega⟩) (fun u hne => ?_)
    simp only [Act.put, List.setIfInBounds_toArray, List.set_cons_succ, List.set_cons_zero]
    refine wpAnyF_ready [7] 1 (by kernel_rfl) (by kernel_rfl) (by simp) (AllF.cons ?_ AllF.nil)
    refine stepC_calle (some 17) (fun u2 => fun w' => Blk rs #[.bool false, .slice none 0 0] 37 w' ∧ Wh (W).heap.size K u2 w') (by rfl) (by rfl) (by rfl) (fun _ => by go_simp) (fun u2 => (Blk.closed _ _ _).and (Wh.closed _ _ _)) (fun w' hO ⟨hD1, O, h1, h2, h3, h4⟩ => (c_bgMake (sa) _ O (by omega) _ h1.rdL).mono fun e w2 h => let ⟨v, r1, r2, r3⟩ := h.whole (N := K) (sg_same HSA HSB hK).1 (tr_val h2 h3 (sg_same HSA HSB hK).2); ⟨v, r1, .of_below r3, hD1.next r3, r2.le hO.size⟩) (fun u2 hne => ?_)
    simp only [Act.put, List.setIfInBounds_toArray, List.set_cons_succ, List.set_cons_zero]
    obtain ⟨w9, _, _, lv9, rfl, ho9⟩ := id hne; obtain ⟨sl, scap, rfl, _⟩ := id ho9.1
    refine wpAnyF_ready [8] 0 (by kernel_rfl) (by kernel_rfl) (by simp) (AllF.cons ?_ AllF.nil)
    refine stepC_store (v := .agg #[.bool (decide (K < 0)), .slice sl (dg K.natAbs).length scap]) (rs) (#[.bool false, .slice none 0 0]) (fun w' => Blk rs #[.bool (decide (K < 0)), .slice sl (dg K.natAbs).length scap] 37 w' ∧ RdO w' (W).heap.size (.slice sl (dg K.natAbs).length scap) (dg K.natAbs)) (by rfl) (by rfl) (by rfl) (by rfl) (by rfl) (by rfl) (fun _ => by go_simp) (by rfl) (by simp [Value.cells, one1]) (.inr (by simp)) (fun _ hd => hd.1) ((Blk.closed _ _ _).and (fun _ _ h hb => ⟨h.1.below hb, fun hn => (h.2 hn).below hb⟩)) (fun w1 w2 hd ho hb => ⟨hb, hd.2.rdO.over ho (by simp; omega)⟩) (fun hne => ?_)
    try simp only [Value.cells]
    refine wpAnyF_done (by kernel_rfl) (fun Wz hOz hDz => NoPanic.normal ?_) _
    try dsimp only
    have hbz : Below w.heap.size w Wz := hOz.belowGe (B := w.heap.size) hb0 hsz (by simp; omega)
    have q0 : Wz.cell? ⟨rs, 0, none⟩ = some (.bool (decide (K < 0))) := hDz.1.cell 0
    have q1 : Wz.cell? ⟨rs, 1, none⟩ = some (.slice sl (dg K.natAbs).length scap) := hDz.1.cell 1
    have hRz : RdO Wz w.heap.size (.slice sl (dg K.natAbs).length scap) (dg K.natAbs) := hDz.2.le hsz
    clear hOz hDz hne ho9
    go_wp2
    refine bodyPost_ret (v := .agg #[.bool (decide (K < 0)), .slice sl (dg K.natAbs).length scap]) (by simp [results, Tryz.results106, go_sem, q0, q1]) rfl ?_
    exact ⟨_, rfl, ⟨_, rfl, hRz⟩, hbz⟩
  · have hsd : sa ≠ sb := hs
    have hsd2 : sb ≠ sa := fun h => hsd h.symm
    have hbe : (sa == sb) = false := by simp [hs]
    have HC := Lib.hid (c_bgOrder la lb (dg M.natAbs) (dg N.natAbs) (by omega) (by omega) (dg_D _) (dg_D _) W (HR1.out.below hb0) (HR2.out.below hb0))
    rw [dg_V, dg_V] at HC
    generalize hc : cmpN (M.natAbs : Int) (N.natAbs : Int) = c at HC
    by_cases hc0 : c < 0
    · have hl : M.natAbs ≤ N.natAbs := by
        have := (cmpN_neg (x := (M.natAbs : Int)) (y := N.natAbs)).1 (by rw [hc]; exact hc0)
        omega
      have hK2 : N + M = K := by omega
      have hc1 : ¬ (0 ≤ c) := by omega
      clear hc
      go_wp2_with fail
      refine HC.out.mono ?_
      rintro e W1 ⟨rfl, hw⟩
      rw [hw]
      clear hw HC
      go_upto_region 5 with (fail)
      have HRt := HR1
      clear HR1
      have HR1 := HR2
      clear HR2
      have HR2 := HRt
      clear HRt
      -- spec.bgAdd function, 5 region, c_bgCombine sum's contract, c_bgMake whole's contract, N left number, M right number, -1 sign, sb blocks' left number's sign, sg_diff HSB HSA hsd2 hK2 hl proof of the sign; world W, kS at rs, HR1/HR2 reads in W
      refine wp_region_cls [rs] (fun _ => false) (fun _ => True) (Blk rs #[.bool false, .slice none 0 0] 37) (by kernel_rfl) (kS) ?_
      apply wpAnyF_hd ⟨W, Over.refl _ _, kS⟩ [true, true, true, true, true, true] 3 (Blk.closed _ _ _) (fun _ _ => trivial) (by kernel_rfl) (by kernel_rfl) (by kernel_rfl) (by kernel_rfl) (by simp)
      · intro E hE hEN hEn; (repeat (first | (refine wpHL_take ?_; go_big_quiet_step (fail); refine wpQuiet_nil ?_) | refine wpHL_skip ?_)); exact wpHL_end rfl
      refine wpAnyF_ready [6] 2 (by kernel_rfl) (by kernel_rfl) (by simp) (AllF.cons ?_ AllF.nil)
      refine stepC_calle (some 38) (fun u => fun w' => Blk rs #[.bool false, .slice none 0 0] 37 w' ∧ OwD ((N).natAbs + (-1) * (M).natAbs) (W).heap.size u w') (by rfl) (by rfl) (by rfl) (fun _ => by go_simp) (fun u => (Blk.closed _ _ _).and (OwD.closed _ _ _)) (fun w' hO hD => (c_bgCombine (-1) (by omega) _ _ (dg (N).natAbs) (dg (M).natAbs) (by omega) (by omega) (dg_D _) (dg_D _) (by rw [dg_V, dg_V]; omega) _ (HR1.out.below0 (hO.belowGe (B := w.heap.size) hb0 hsz (by simp; omega))) (HR2.out.below0 (hO.belowGe (B := w.heap.size) hb0 hsz (by simp; omega)))).mono fun e w2 ⟨v, O, h1, h2, h3, h4, h5, h6⟩ => ⟨v, h1, .of_below h6, hD.next h6, O, h2.le hO.size, h3, by rw [h4, dg_V, dg_V], by omega⟩) (fun u hne => ?_)
      simp only [Act.put, List.setIfInBounds_toArray, List.set_cons_succ, List.set_cons_zero]
      refine wpAnyF_ready [7] 1 (by kernel_rfl) (by kernel_rfl) (by simp) (AllF.cons ?_ AllF.nil)
      refine stepC_calle (some 39) (fun u2 => fun w' => Blk rs #[.bool false, .slice none 0 0] 37 w' ∧ Wh (W).heap.size K u2 w') (by rfl) (by rfl) (by rfl) (fun _ => by go_simp) (fun u2 => (Blk.closed _ _ _).and (Wh.closed _ _ _)) (fun w' hO ⟨hD1, O, h1, h2, h3, h4⟩ => (c_bgMake (sb) _ O (by omega) _ h1.rdL).mono fun e w2 h => let ⟨v, r1, r2, r3⟩ := h.whole (N := K) (sg_diff HSB HSA hsd2 hK2 hl).1 (tr_val h2 h3 (sg_diff HSB HSA hsd2 hK2 hl).2); ⟨v, r1, .of_below r3, hD1.next r3, r2.le hO.size⟩) (fun u2 hne => ?_)
      simp only [Act.put, List.setIfInBounds_toArray, List.set_cons_succ, List.set_cons_zero]
      obtain ⟨w9, _, _, lv9, rfl, ho9⟩ := id hne; obtain ⟨sl, scap, rfl, _⟩ := id ho9.1
      refine wpAnyF_ready [8] 0 (by kernel_rfl) (by kernel_rfl) (by simp) (AllF.cons ?_ AllF.nil)
      refine stepC_store (v := .agg #[.bool (decide (K < 0)), .slice sl (dg K.natAbs).length scap]) (rs) (#[.bool false, .slice none 0 0]) (fun w' => Blk rs #[.bool (decide (K < 0)), .slice sl (dg K.natAbs).length scap] 37 w' ∧ RdO w' (W).heap.size (.slice sl (dg K.natAbs).length scap) (dg K.natAbs)) (by rfl) (by rfl) (by rfl) (by rfl) (by rfl) (by rfl) (fun _ => by go_simp) (by rfl) (by simp [Value.cells, one1]) (.inr (by simp)) (fun _ hd => hd.1) ((Blk.closed _ _ _).and (fun _ _ h hb => ⟨h.1.below hb, fun hn => (h.2 hn).below hb⟩)) (fun w1 w2 hd ho hb => ⟨hb, hd.2.rdO.over ho (by simp; omega)⟩) (fun hne => ?_)
      try simp only [Value.cells]
      refine wpAnyF_done (by kernel_rfl) (fun Wz hOz hDz => NoPanic.normal ?_) _
      try dsimp only
      have hbz : Below w.heap.size w Wz := hOz.belowGe (B := w.heap.size) hb0 hsz (by simp; omega)
      have q0 : Wz.cell? ⟨rs, 0, none⟩ = some (.bool (decide (K < 0))) := hDz.1.cell 0
      have q1 : Wz.cell? ⟨rs, 1, none⟩ = some (.slice sl (dg K.natAbs).length scap) := hDz.1.cell 1
      have hRz : RdO Wz w.heap.size (.slice sl (dg K.natAbs).length scap) (dg K.natAbs) := hDz.2.le hsz
      clear hOz hDz hne ho9
      go_wp2
      refine bodyPost_ret (v := .agg #[.bool (decide (K < 0)), .slice sl (dg K.natAbs).length scap]) (by simp [results, Tryz.results106, go_sem, q0, q1]) rfl ?_
      exact ⟨_, rfl, ⟨_, rfl, hRz⟩, hbz⟩
    · have hl : N.natAbs ≤ M.natAbs := by
        have := mt (cmpN_neg (x := (M.natAbs : Int)) (y := N.natAbs)).2 (by rw [hc]; exact hc0)
        omega
      have hc1 : 0 ≤ c := by omega
      clear hc
      go_wp2_with fail
      refine HC.out.mono ?_
      rintro e W1 ⟨rfl, hw⟩
      rw [hw]
      clear hw HC
      go_upto_region 4 with (fail)
      -- spec.bgAdd function, 4 region, c_bgCombine sum's contract, c_bgMake whole's contract, M left number, N right number, -1 sign, sa blocks' left number's sign, sg_diff HSA HSB hsd hK hl proof of the sign; world W, kS at rs, HR1/HR2 reads in W
      refine wp_region_cls [rs] (fun _ => false) (fun _ => True) (Blk rs #[.bool false, .slice none 0 0] 37) (by kernel_rfl) (kS) ?_
      apply wpAnyF_hd ⟨W, Over.refl _ _, kS⟩ [true, true, true, true, true, true] 3 (Blk.closed _ _ _) (fun _ _ => trivial) (by kernel_rfl) (by kernel_rfl) (by kernel_rfl) (by kernel_rfl) (by simp)
      · intro E hE hEN hEn; (repeat (first | (refine wpHL_take ?_; go_big_quiet_step (fail); refine wpQuiet_nil ?_) | refine wpHL_skip ?_)); exact wpHL_end rfl
      refine wpAnyF_ready [6] 2 (by kernel_rfl) (by kernel_rfl) (by simp) (AllF.cons ?_ AllF.nil)
      refine stepC_calle (some 30) (fun u => fun w' => Blk rs #[.bool false, .slice none 0 0] 37 w' ∧ OwD ((M).natAbs + (-1) * (N).natAbs) (W).heap.size u w') (by rfl) (by rfl) (by rfl) (fun _ => by go_simp) (fun u => (Blk.closed _ _ _).and (OwD.closed _ _ _)) (fun w' hO hD => (c_bgCombine (-1) (by omega) _ _ (dg (M).natAbs) (dg (N).natAbs) (by omega) (by omega) (dg_D _) (dg_D _) (by rw [dg_V, dg_V]; omega) _ (HR1.out.below0 (hO.belowGe (B := w.heap.size) hb0 hsz (by simp; omega))) (HR2.out.below0 (hO.belowGe (B := w.heap.size) hb0 hsz (by simp; omega)))).mono fun e w2 ⟨v, O, h1, h2, h3, h4, h5, h6⟩ => ⟨v, h1, .of_below h6, hD.next h6, O, h2.le hO.size, h3, by rw [h4, dg_V, dg_V], by omega⟩) (fun u hne => ?_)
      simp only [Act.put, List.setIfInBounds_toArray, List.set_cons_succ, List.set_cons_zero]
      refine wpAnyF_ready [7] 1 (by kernel_rfl) (by kernel_rfl) (by simp) (AllF.cons ?_ AllF.nil)
      refine stepC_calle (some 31) (fun u2 => fun w' => Blk rs #[.bool false, .slice none 0 0] 37 w' ∧ Wh (W).heap.size K u2 w') (by rfl) (by rfl) (by rfl) (fun _ => by go_simp) (fun u2 => (Blk.closed _ _ _).and (Wh.closed _ _ _)) (fun w' hO ⟨hD1, O, h1, h2, h3, h4⟩ => (c_bgMake (sa) _ O (by omega) _ h1.rdL).mono fun e w2 h => let ⟨v, r1, r2, r3⟩ := h.whole (N := K) (sg_diff HSA HSB hsd hK hl).1 (tr_val h2 h3 (sg_diff HSA HSB hsd hK hl).2); ⟨v, r1, .of_below r3, hD1.next r3, r2.le hO.size⟩) (fun u2 hne => ?_)
      simp only [Act.put, List.setIfInBounds_toArray, List.set_cons_succ, List.set_cons_zero]
      obtain ⟨w9, _, _, lv9, rfl, ho9⟩ := id hne; obtain ⟨sl, scap, rfl, _⟩ := id ho9.1
      refine wpAnyF_ready [8] 0 (by kernel_rfl) (by kernel_rfl) (by simp) (AllF.cons ?_ AllF.nil)
      refine stepC_store (v := .agg #[.bool (decide (K < 0)), .slice sl (dg K.natAbs).length scap]) (rs) (#[.bool false, .slice none 0 0]) (fun w' => Blk rs #[.bool (decide (K < 0)), .slice sl (dg K.natAbs).length scap] 37 w' ∧ RdO w' (W).heap.size (.slice sl (dg K.natAbs).length scap) (dg K.natAbs)) (by rfl) (by rfl) (by rfl) (by rfl) (by rfl) (by rfl) (fun _ => by go_simp) (by rfl) (by simp [Value.cells, one1]) (.inr (by simp)) (fun _ hd => hd.1) ((Blk.closed _ _ _).and (fun _ _ h hb => ⟨h.1.below hb, fun hn => (h.2 hn).below hb⟩)) (fun w1 w2 hd ho hb => ⟨hb, hd.2.rdO.over ho (by simp; omega)⟩) (fun hne => ?_)
      try simp only [Value.cells]
      refine wpAnyF_done (by kernel_rfl) (fun Wz hOz hDz => NoPanic.normal ?_) _
      try dsimp only
      have hbz : Below w.heap.size w Wz := hOz.belowGe (B := w.heap.size) hb0 hsz (by simp; omega)
      have q0 : Wz.cell? ⟨rs, 0, none⟩ = some (.bool (decide (K < 0))) := hDz.1.cell 0
      have q1 : Wz.cell? ⟨rs, 1, none⟩ = some (.slice sl (dg K.natAbs).length scap) := hDz.1.cell 1
      have hRz : RdO Wz w.heap.size (.slice sl (dg K.natAbs).length scap) (dg K.natAbs) := hDz.2.le hsz
      clear hOz hDz hne ho9
      go_wp2
      refine bodyPost_ret (v := .agg #[.bool (decide (K < 0)), .slice sl (dg K.natAbs).length scap]) (by simp [results, Tryz.results106, go_sem, q0, q1]) rfl ?_
      exact ⟨_, rfl, ⟨_, rfl, hRz⟩, hbz⟩
end Go.Proofs.YtgjdgcmmlfmhmaaGreatDoor

/- BgF -/
namespace Go.Proofs.YtgjdgcmmlfmhmaaGreatDoor
open Go.RowKit

set_option maxHeartbeats 1000000 in
set_option maxRecDepth 20000 in
theorem c_bgMinus (N : Int) (a : Value) (hN : (dg N.natAbs).length ≤ 100000) (w : World) (ha : WhR N a w) :
    Calls Tryz.prog 117 #[a] w (WhP (-N) w) := by
  obtain ⟨la, rfl, hra⟩ := ha
  have kA := (Blk.new w #[.bool (decide (N < 0)), la] 37).alloc (.cells #[.bool false, .slice none 0 0] 37)
  have kS := Blk.new (w.alloc (.cells #[.bool (decide (N < 0)), la] 37)) #[.bool false, .slice none 0 0] 37
  have hb0 : Below w.heap.size w ((w.alloc (.cells #[.bool (decide (N < 0)), la] 37)).alloc (.cells #[.bool false, .slice none 0 0] 37)) := ((Below.refl _ _).alloc (Nat.le_refl _) _).alloc (by simp) _
  simp only [World.size_alloc] at kS
  have HR1 := Lib.hid hra
  generalize hsa : decide (N < 0) = sa at *
  have HSA := Lib.hid hsa
  clear hsa
  obtain ⟨K, hK⟩ : ∃ K, -N = K := ⟨_, rfl⟩
  rw [hK]
  have hsz := hb0.size
  have hKn : K.natAbs = N.natAbs := by omega
  have hsK : (!sa) = decide (K < 0) ∨ K = 0 := by
    have := HSA.out
    by_cases h0 : K = 0
    · exact .inr h0
    · left
      cases sa <;> simp at this ⊢ <;> omega
  have HT := Lib.hid (fun W (hb : Below w.heap.size w W) => ((c_bgMake (!sa) la (dg N.natAbs) (by omega) W (HR1.out.below hb)).mono fun e w' h => h.whole (N := K) hsK (by rw [tr_low, hKn])))
  clear hsK hKn hK
  go_enter Tryz.func117, Tryz.ntmps117
  go_upto_region 1 with (fail)
  generalize (w.alloc _).alloc _ = W at *
  generalize hrs : w.heap.size + 1 = rs at *
  have a0 : W.cell? ⟨w.heap.size, 0, none⟩ = some (.bool sa) := kA.cell 0
  have a1 : W.cell? ⟨w.heap.size, 1, none⟩ = some la := kA.cell 1
  go_wp2_with fail
  refine (HT.out W hb0).mono ?_
  rintro e w1 ⟨v, rfl, hwh, hb1⟩
  obtain ⟨lv, rfl, ho⟩ := hwh
  obtain ⟨sl, scap, rfl, _⟩ := id ho.1
  have kS1 := kS.next hb1
  have c0 : w1.cell? ⟨rs, 0, none⟩ = some (.bool false) := kS1.cell 0
  have c1 : w1.cell? ⟨rs, 1, none⟩ = some (.slice none 0 0) := kS1.cell 1
  have z0 := kS1.frozen 0
  have z1 := kS1.frozen 1
  have hbb : Below w.heap.size w w1 := below_step hb1 hsz hb0
  have k9 := (kS1.set 0 (.bool (decide (K < 0)))).set 1 (.slice sl (dg K.natAbs).length scap)
  have hB9 : Below w.heap.size w ((w1.setCell ⟨rs, 0, none⟩ (.bool (decide (K < 0)))).setCell ⟨rs, 1, none⟩ (.slice sl (dg K.natAbs).length scap)) := (hbb.setCell (by simp; omega) _).setCell (by simp; omega) _
  have ho9 := ho.set2 (S := rs) kS.lt (.bool (decide (K < 0))) (.slice sl (dg K.natAbs).length scap)
  replace ho9 : RdO _ w.heap.size _ _ := ho9.le hsz
  clear HT ho
  go_wp2
  generalize (World.setCell (World.setCell _ _ _) _ _) = w9 at hB9 k9 ho9 ⊢
  have q0 : w9.cell? ⟨rs, 0, none⟩ = some (.bool (decide (K < 0))) := k9.cell 0
  have q1 : w9.cell? ⟨rs, 1, none⟩ = some (.slice sl (dg K.natAbs).length scap) := k9.cell 1
  refine bodyPost_ret (v := .agg #[.bool (decide (K < 0)), .slice sl (dg K.natAbs).length scap]) (by simp [results, Tryz.results117, go_sem, q0, q1]) rfl ?_
  exact ⟨_, rfl, ⟨_, rfl, ho9⟩, hB9⟩
theorem WhR.below0 {n : Nat} {N : Int} {v : Value} {w w1 : World} (h : WhR N v w) (hb : Below n w w1) (hn : n = w.heap.size := by rfl) : WhR N v w1 := h.below (hn ▸ hb)
set_option maxHeartbeats 1000000 in
set_option maxRecDepth 20000 in
theorem c_bgSub (M N : Int) (a b : Value) (hM : (dg M.natAbs).length ≤ 100000) (hN : (dg N.natAbs).length ≤ 100000) (w : World) (ha : WhR M a w) (hb : WhR N b w) :
    Calls Tryz.prog 90 #[a, b] w (WhP (M + -N) w) := by
  have HW1 := Lib.hid ha
  have HW2 := Lib.hid hb
  obtain ⟨la, rfl, _⟩ := ha
  obtain ⟨lb, rfl, _⟩ := hb
  have kA := ((Blk.new w #[.bool (decide (M < 0)), la] 37).alloc (.cells #[.bool (decide (N < 0)), lb] 37)).alloc (.cells #[.bool false, .slice none 0 0] 37)
  have kB := (Blk.new (w.alloc (.cells #[.bool (decide (M < 0)), la] 37)) #[.bool (decide (N < 0)), lb] 37).alloc (.cells #[.bool false, .slice none 0 0] 37)
  have kS := Blk.new ((w.alloc (.cells #[.bool (decide (M < 0)), la] 37)).alloc (.cells #[.bool (decide (N < 0)), lb] 37)) #[.bool false, .slice none 0 0] 37
  have hb0 : Below w.heap.size w (((w.alloc (.cells #[.bool (decide (M < 0)), la] 37)).alloc (.cells #[.bool (decide (N < 0)), lb] 37)).alloc (.cells #[.bool false, .slice none 0 0] 37)) := (((Below.refl _ _).alloc (Nat.le_refl _) _).alloc (by simp) _).alloc (by simp; omega) _
  simp only [World.size_alloc] at kB kS
  generalize decide (M < 0) = sa at *
  generalize decide (N < 0) = sb at *
  obtain ⟨K, hK⟩ : ∃ K, M + -N = K := ⟨_, rfl⟩
  rw [hK]
  have hN2 : (dg (-N).natAbs).length ≤ 100000 := by rw [Int.natAbs_neg]; exact hN
  have HK := Lib.hid hK
  clear hK
  have hsz := hb0.size
  go_enter Tryz.func90, Tryz.ntmps90
  go_upto_region 1 with (fail)
  generalize ((w.alloc _).alloc _).alloc _ = W at *
  generalize hrs : w.heap.size + 1 + 1 = rs at *
  have a0 : W.cell? ⟨w.heap.size, 0, none⟩ = some (.bool sa) := kA.cell 0
  have a1 : W.cell? ⟨w.heap.size, 1, none⟩ = some la := kA.cell 1
  have b0 : W.cell? ⟨w.heap.size + 1, 0, none⟩ = some (.bool sb) := kB.cell 0
  have b1 : W.cell? ⟨w.heap.size + 1, 1, none⟩ = some lb := kB.cell 1
  have kAl : w.heap.size < W.heap.size := kA.lt
  have kBl : w.heap.size + 1 < W.heap.size := kB.lt
  have kSl : rs < W.heap.size := kS.lt
  have hn1 : w.heap.size ∉ [rs] := by simp; omega
  have hn2 : w.heap.size + 1 ∉ [rs] := by simp; omega
  refine wp_region_cls [rs] (fun _ => false) (fun _ => True) (Blk rs #[.bool false, .slice none 0 0] 37) (by kernel_rfl) (kS) ?_
  apply wpAnyF_hd ⟨W, Over.refl _ _, kS⟩ [true, true] 3 (Blk.closed _ _ _) (fun _ _ => trivial) (by kernel_rfl) (by kernel_rfl) (by kernel_rfl) (by kernel_rfl) (by simp)
  · intro E hE hEN hEn; (repeat (first | (refine wpHL_take ?_; go_big_quiet_step (fail); refine wpQuiet_nil ?_) | refine wpHL_skip ?_)); exact wpHL_end rfl
  refine wpAnyF_ready [2] 2 (by kernel_rfl) (by kernel_rfl) (by simp) (AllF.cons ?_ AllF.nil)
  refine stepC_calle (some 7) (fun u => fun w' => Blk rs #[.bool false, .slice none 0 0] 37 w' ∧ Wh W.heap.size (-N) u w') (by rfl) (by rfl) (by rfl) (fun _ => by go_simp) (fun u => (Blk.closed _ _ _).and (Wh.closed _ _ _)) (fun w' hO hD => (c_bgMinus N _ hN _ (HW2.out.below0 (hO.belowGe (B := w.heap.size) hb0 hsz (by simp; omega)))).mono fun e w2 ⟨v, h1, h2, h3⟩ => ⟨v, h1, .of_below h3, hD.next h3, h2.le hO.size⟩) (fun u hne => ?_)
  simp only [Act.put, List.setIfInBounds_toArray, List.set_cons_succ, List.set_cons_zero]
  refine wpAnyF_ready [3] 1 (by kernel_rfl) (by kernel_rfl) (by simp) (AllF.cons ?_ AllF.nil)
  refine stepC_calle (some 8) (fun u2 => fun w' => Blk rs #[.bool false, .slice none 0 0] 37 w' ∧ Wh W.heap.size K u2 w') (by rfl) (by rfl) (by rfl) (fun _ => by go_simp) (fun u2 => (Blk.closed _ _ _).and (Wh.closed _ _ _)) (fun w' hO hD => (c_bgAdd M (-N) _ _ hM hN2 _ (HW1.out.below0 (hO.belowGe (B := w.heap.size) hb0 hsz (by simp; omega))) hD.2.rd).mono fun e w2 ⟨v, h1, h2, h3⟩ => ⟨v, h1, .of_below h3, hD.1.next h3, HK.out ▸ h2.le hO.size⟩) (fun u2 hne => ?_)
  simp only [Act.put, List.setIfInBounds_toArray, List.set_cons_succ, List.set_cons_zero]
  obtain ⟨w9, _, _, lv9, rfl, ho9⟩ := id hne; obtain ⟨sl, scap, rfl, _⟩ := id ho9.1
  refine wpAnyF_ready [4] 0 (by kernel_rfl) (by kernel_rfl) (by simp) (AllF.cons ?_ AllF.nil)
  refine stepC_store (v := .agg #[.bool (decide (K < 0)), .slice sl (dg K.natAbs).length scap]) (rs) (#[.bool false, .slice none 0 0]) (fun w' => Blk rs #[.bool (decide (K < 0)), .slice sl (dg K.natAbs).length scap] 37 w' ∧ RdO w' W.heap.size (.slice sl (dg K.natAbs).length scap) (dg K.natAbs)) (by rfl) (by rfl) (by rfl) (by rfl) (by rfl) (by rfl) (fun _ => by go_simp) (by rfl) (by simp [Value.cells, one1]) (.inr (by simp)) (fun _ hd => hd.1) ((Blk.closed _ _ _).and (fun _ _ h hb => ⟨h.1.below hb, fun hn => (h.2 hn).below hb⟩)) (fun w1 w2 hd ho hb => ⟨hb, hd.2.rdO.over ho (by simp; omega)⟩) (fun hne => ?_)
  try simp only [Value.cells]
  refine wpAnyF_done (by kernel_rfl) (fun Wz hOz hDz => NoPanic.normal ?_) _
  try dsimp only
  have hbz : Below w.heap.size w Wz := hOz.belowGe (B := w.heap.size) hb0 hsz (by simp; omega)
  have q0 : Wz.cell? ⟨rs, 0, none⟩ = some (.bool (decide (K < 0))) := hDz.1.cell 0
  have q1 : Wz.cell? ⟨rs, 1, none⟩ = some (.slice sl (dg K.natAbs).length scap) := hDz.1.cell 1
  have hRz : RdO Wz w.heap.size (.slice sl (dg K.natAbs).length scap) (dg K.natAbs) := hDz.2.le hsz
  clear hOz hDz hne ho9
  go_wp2
  refine bodyPost_ret (v := .agg #[.bool (decide (K < 0)), .slice sl (dg K.natAbs).length scap]) (by simp [results, Tryz.results90, go_sem, q0, q1]) rfl ?_
  exact ⟨_, rfl, ⟨_, rfl, hRz⟩, hbz⟩
end Go.Proofs.YtgjdgcmmlfmhmaaGreatDoor

/- BgM -/
namespace Go.Proofs.YtgjdgcmmlfmhmaaGreatDoor
open Go.RowKit

theorem sg_mul {M N : Int} {s t : Bool} (h1 : Hid (decide (M < 0) = s)) (h2 : Hid (decide (N < 0) = t)) : (s != t) = decide (M * N < 0) ∨ M * N = 0 := by
  have h1 := h1.out
  have h2 := h2.out
  by_cases hM : M = 0
  · right; rw [hM, Int.zero_mul]
  by_cases hN : N = 0
  · right; rw [hN, Int.mul_zero]
  left
  cases s <;> cases t <;> simp at h1 h2 ⊢
  · exact Int.mul_nonneg h1 h2
  · exact Int.mul_neg_of_pos_of_neg (by omega) h2
  · exact Int.mul_neg_of_neg_of_pos h1 (by omega)
  · exact Int.le_of_lt (Int.mul_pos_of_neg_of_neg h1 h2)
set_option maxHeartbeats 4000000 in
set_option maxRecDepth 20000 in
theorem c_mulWholes (M N : Int) (a b : Value) (hM : (dg M.natAbs).length ≤ 40000) (hN : (dg N.natAbs).length ≤ 40000) (w : World) (ha : WhR M a w) (hb : WhR N b w) :
    Calls Tryz.prog 103 #[a, b] w (WhP (M * N) w) := by
  obtain ⟨la, rfl, hra⟩ := ha
  obtain ⟨lb, rfl, hrb⟩ := hb
  have kA := ((Blk.new w #[.bool (decide (M < 0)), la] 37).alloc (.cells #[.bool (decide (N < 0)), lb] 37)).alloc (.cells #[.bool false, .slice none 0 0] 37)
  have kB := (Blk.new (w.alloc (.cells #[.bool (decide (M < 0)), la] 37)) #[.bool (decide (N < 0)), lb] 37).alloc (.cells #[.bool false, .slice none 0 0] 37)
  have kS := Blk.new ((w.alloc (.cells #[.bool (decide (M < 0)), la] 37)).alloc (.cells #[.bool (decide (N < 0)), lb] 37)) #[.bool false, .slice none 0 0] 37
  have hb0 : Below w.heap.size w (((w.alloc (.cells #[.bool (decide (M < 0)), la] 37)).alloc (.cells #[.bool (decide (N < 0)), lb] 37)).alloc (.cells #[.bool false, .slice none 0 0] 37)) := (((Below.refl _ _).alloc (Nat.le_refl _) _).alloc (by simp) _).alloc (by simp; omega) _
  simp only [World.size_alloc] at kB kS
  have HR1 := Lib.hid hra
  have HR2 := Lib.hid hrb
  generalize hsa : decide (M < 0) = sa at *
  generalize hsb : decide (N < 0) = sb at *
  have HSA := Lib.hid hsa
  have HSB := Lib.hid hsb
  clear hsa hsb
  have HSG := Lib.hid (sg_mul HSA HSB)
  obtain ⟨K, hK⟩ : ∃ K, M * N = K := ⟨_, rfl⟩
  have HV : Hid (vl (dg M.natAbs) * vl (dg N.natAbs) = K.natAbs) := by
    show _ = _
    rw [dg_V, dg_V, ← hK, Int.natAbs_mul, Int.natCast_mul]
  rw [hK] at HSG ⊢
  clear hK
  have hdA := dg_D M.natAbs
  have hdB := dg_D N.natAbs
  generalize dg M.natAbs = A at *
  generalize dg N.natAbs = B at *
  have hsz := hb0.size
  obtain ⟨aa, ca, rfl, _, _⟩ := hra
  obtain ⟨ab, cb, rfl, _, _⟩ := hrb
  go_enter Tryz.func103, Tryz.ntmps103
  go_upto_region 1 with (fail)
  generalize ((w.alloc _).alloc _).alloc _ = W at *
  generalize hrs : w.heap.size + 1 + 1 = rs at *
  have HA := Lib.hid (HR1.out.below hb0)
  have HB := Lib.hid (HR2.out.below hb0)
  obtain ⟨wm, hmk, ho0, hbm⟩ := mk_ints W (A.length + B.length + 1) (by omega)
  simp only [Int.natCast_add, Int.cast_ofNat_Int] at hmk
  have a1 : W.cell? ⟨w.heap.size, 1, none⟩ = some (.slice aa A.length ca) := kA.cell 1
  have b1 : W.cell? ⟨w.heap.size + 1, 1, none⟩ = some (.slice ab B.length cb) := kB.cell 1
  go_upto_region 2 with (fail)
  clear hmk
  have a1m : wm.cell? ⟨w.heap.size, 1, none⟩ = some (.slice aa A.length ca) := (kA.next hbm).cell 1
  generalize hG : W.heap.size = G at *
  have HG := Lib.hid hG
  clear hG
  have kSl : rs < G := by rw [← HG.out]; exact kS.lt
  have kAl : w.heap.size < G := by rw [← HG.out]; exact kA.lt
  have kBl : w.heap.size + 1 < G := by rw [← HG.out]; exact kB.lt
  go_upto_region 3 with (fail)
  go_loopw [23] (fun iv wr => ∃ (i : Nat) (S : List Int), i ≤ A.length ∧ iv = .int .i64 i ∧ Hid (S.length = A.length + B.length + 1 ∧ Dg S ∧ vl S = vl (A.take i) * vl B) ∧ OwnsI wr G (.slice (some ⟨G, 0, none⟩) (A.length + B.length + 1) (A.length + B.length + 1)) S ∧ Below G W wr) (fun iv _ => A.length - (intOf iv).toNat)
  case atStart => exact ⟨0, List.replicate (A.length + B.length + 1) 0, by omega, rfl, ⟨by simp, fun x hx => by rw [List.eq_of_mem_replicate hx]; omega, by rw [vl_zeros]; simp [vl]⟩, ho0, hbm⟩
  case round =>
    clear ho0 hbm a1m
    obtain ⟨i, S, hi, rfl, hS, ho, hb⟩ := hrel
    have kA1 := kA.next (HG.out ▸ hb)
    have kB1 := kB.next (HG.out ▸ hb)
    have kS1 := kS.next (HG.out ▸ hb)
    by_cases hlt : i < A.length
    · have hxa := hdA.adi i
      obtain ⟨_, _, e1, _, hca⟩ := HA.out
      injection e1 with e1 _ e2
      subst e1 e2
      obtain ⟨ga, oa, rfl, q1, hga⟩ := hca i hlt
      have d1 := (hb.cell (p := ⟨ga, oa + i, none⟩) (HG.out ▸ hga)).trans q1
      generalize ex : A[i]?.getD 0 = x at d1 hxa
      have HX := Lib.hid ex
      clear ex q1 hca
      go_upto_region 7 with (fail)
      go_loopw [8, 9] (fun cv kv wr => ∃ (k : Nat) (c : Int) (S : List Int), i ≤ k ∧ k ≤ A.length + B.length + 1 ∧ cv = .int .i64 c ∧ kv = .int .i64 k ∧ Hid (Mi A B (A.length + B.length + 1) i k x S c) ∧ OwnsI wr G (.slice (some ⟨G, 0, none⟩) (A.length + B.length + 1) (A.length + B.length + 1)) S ∧ Below G W wr) (fun _ kv _ => A.length + B.length + 1 - (intOf kv).toNat)
      case atStart => exact ⟨i, 0, S, by omega, by omega, rfl, rfl, Lib.hid (Mi.start hS.out.1 hS.out.2.1 hS.out.2.2), ho, hb⟩
      case round =>
        clear hS ho kA1 kB1 kS1 hb d1
        obtain ⟨k, c, S, hik, hk, rfl, rfl, hI, ho, hb⟩ := hrel
        by_cases hkn : k < A.length + B.length + 1
        · have hl := Lib.hid hI.out.len
          have s1 := ho.cell (i := k) (by rw [hl.out]; exact hkn)
          have f1 := ho.frozen k
          have hsb := hI.out.dg.adi k
          have hclo := hI.out.lo
          have hchi := hI.out.hi
          have kB1 := kB.next (HG.out ▸ hb)
          have b1r : wr.cell? ⟨w.heap.size + 1, 1, none⟩ = some (.slice ab B.length cb) := kB1.cell 1
          have hG2 : G < wr.heap.size := (ho.lt G rfl).2
          generalize es : S[k]?.getD 0 = s at s1 hsb
          obtain ⟨d, hkd⟩ : ∃ d, k = i + d := ⟨k - i, by omega⟩
          have hki : (k : Int) - (i : Int) = (d : Int) := by omega
          have hdi : k - i = d := by omega
          have HKD := Lib.hid hkd
          clear hkd
          by_cases hd : d < B.length
          · obtain ⟨gb, ob, rfl, q2, hgb⟩ := (by obtain ⟨_, _, e1, _, hcb⟩ := HB.out; injection e1 with e1 _ e2; subst e1 e2; exact hcb d hd : ∃ g o, ab = some ⟨g, o, none⟩ ∧ W.cell? ⟨g, o + d, none⟩ = some (.int .i64 (B[d]?.getD 0)) ∧ g < W.heap.size)
            have d2 := (hb.cell (p := ⟨gb, ob + d, none⟩) (HG.out ▸ hgb)).trans q2
            have hyb := hdB.adi d
            generalize ey : B[d]?.getD 0 = y at d2 hyb
            have hm := mul_bdD hxa hyb
            have hz0 : 0 ≤ s + c + x * y := by omega
            have HI2 := Lib.hid (hI.out.step (y := y) hkn hik hxa hdB es (by rw [hdi]; exact ey))
            clear es ey q2 hI hdi
            go_wp2
            go_roundw
            case rel => exact ⟨k + 1, (s + c + x * y) / 10000, S.set k ((s + c + x * y) % 10000), by omega, by omega, by go_num, by go_num, HI2, ho.setG hl.out.symm k _, hb.setCell (Nat.le_refl _) _⟩
            case measure => simp [intOf]; omega
          · have ey : B[k - i]?.getD 0 = 0 := by rw [hdi]; simp [hd]
            have hz0 : 0 ≤ s + c := by omega
            have HI2 := Lib.hid (hI.out.step hkn hik hxa hdB es ey)
            rw [Int.mul_zero, Int.add_zero] at HI2
            clear es ey hI hdi
            go_wp2
            go_roundw
            case rel => exact ⟨k + 1, (s + c) / 10000, S.set k ((s + c) % 10000), by omega, by omega, by go_num, by go_num, HI2, ho.setG hl.out.symm k _, hb.setCell (Nat.le_refl _) _⟩
            case measure => simp [intOf]; omega
        · obtain rfl : k = A.length + B.length + 1 := by omega
          have HI2 := Lib.hid (And.intro hI.out.len (And.intro hI.out.dg (hI.out.done hdA hdB HX.out hlt rfl).2))
          clear hI
          go_wp2
          go_roundw
          case rel => exact ⟨i + 1, S, by omega, by go_num, HI2, ho, hb⟩
          case measure => simp [intOf]; omega
    · obtain rfl : i = A.length := by omega
      have hl := hS.out.1
      have HT := Lib.hid ((c_trimmed (sa != sb) _ S (by omega) wr ho.rdL).mono fun e w' h => h.whole (N := K) HSG.out (tr_val hS.out.2.1 (hS.out.2.2.trans (by rw [vl_take_full A (Nat.le_refl _)])) HV.out))
      clear hS hl
      have a0 : wr.cell? ⟨w.heap.size, 0, none⟩ = some (.bool sa) := kA1.cell 0
      have b0 : wr.cell? ⟨w.heap.size + 1, 0, none⟩ = some (.bool sb) := kB1.cell 0
      have hb2 : Below w.heap.size w wr := below_step (HG.out ▸ hb) hsz hb0
      have hsz2 := hb2.size
      have hGr := hb.size
      go_wp2_with fail
      refine HT.out.mono ?_
      rintro e w1 ⟨v, rfl, hwh, hb1⟩
      obtain ⟨lv, rfl, ho9⟩ := hwh
      obtain ⟨sl, scap, rfl, _⟩ := id ho9.1
      have kS2 := kS1.next hb1
      have c0 : w1.cell? ⟨rs, 0, none⟩ = some (.bool false) := kS2.cell 0
      have c1 : w1.cell? ⟨rs, 1, none⟩ = some (.slice none 0 0) := kS2.cell 1
      have z0 := kS2.frozen 0
      have z1 := kS2.frozen 1
      have hbb : Below w.heap.size w w1 := below_step hb1 hsz2 hb2
      have k9 := (kS2.set 0 (.bool (decide (K < 0)))).set 1 (.slice sl (dg K.natAbs).length scap)
      have hB9 : Below w.heap.size w ((w1.setCell ⟨rs, 0, none⟩ (.bool (decide (K < 0)))).setCell ⟨rs, 1, none⟩ (.slice sl (dg K.natAbs).length scap)) := (hbb.setCell (by simp; omega) _).setCell (by simp; omega) _
      have ho8 := ho9.set2 (S := rs) kS1.lt (.bool (decide (K < 0))) (.slice sl (dg K.natAbs).length scap)
      replace ho8 : RdO _ w.heap.size _ _ := ho8.le hsz2
      clear HT ho9
      go_wp2
      generalize (World.setCell (World.setCell _ _ _) _ _) = w9 at hB9 k9 ho8 ⊢
      have q0 : w9.cell? ⟨rs, 0, none⟩ = some (.bool (decide (K < 0))) := k9.cell 0
      have q1 : w9.cell? ⟨rs, 1, none⟩ = some (.slice sl (dg K.natAbs).length scap) := k9.cell 1
      refine bodyPost_ret (v := .agg #[.bool (decide (K < 0)), .slice sl (dg K.natAbs).length scap]) (by simp [results, Tryz.results103, go_sem, q0, q1]) rfl ?_
      exact ⟨_, rfl, ⟨_, rfl, ho8⟩, hB9⟩
end Go.Proofs.YtgjdgcmmlfmhmaaGreatDoor

/- BgR -/
namespace Go.Proofs.YtgjdgcmmlfmhmaaGreatDoor
open Go.RowKit

theorem adi_set {S : List Int} {j : Nat} (h : j < S.length) (v : Int) (k : Nat) : (S.set j v)[k]?.getD 0 = if j = k then v else S[k]?.getD 0 := by
  rw [List.getElem?_set]
  split
  · rename_i e
    subst e
    simp
  · rfl
/-- sums of products: round i, before k -/
structure Su (a b : List Int) (n i k : Nat) (x : Int) (S : List Int) : Prop where
  len : S.length = n
  bd : ∀ j : Nat, 0 ≤ S[j]?.getD 0 ∧ S[j]?.getD 0 ≤ ((i : Int) + 1) * 99980001
  tl : ∀ j : Nat, i + k ≤ j → S[j]?.getD 0 ≤ (i : Int) * 99980001
  eq : vl S = vl (a.take i) * vl b + 10000 ^ i * (x * vl (b.take k))
theorem Su.step {a b : List Int} {n i k : Nat} {x y s : Int} {S : List Int} (h : Su a b n i k x S) (hk : i + k < n) (hx : 0 ≤ x ∧ x ≤ 9999) (hb : Dg b) (hs : S[i + k]?.getD 0 = s) (hy : b[k]?.getD 0 = y) : Su a b n i (k + 1) x (S.set (i + k) (s + x * y)) := by
  have hyb := hb.adi k
  rw [hy] at hyb
  have hm := mul_bdD hx hyb
  have h1 := h.tl (i + k) (Nat.le_refl _)
  have h2 := (h.bd (i + k)).1
  rw [hs] at h1 h2
  have hl : i + k < S.length := by rw [h.len]; exact hk
  refine ⟨by simp [h.len], fun j => ?_, fun j hj => ?_, ?_⟩
  · rw [adi_set hl]
    split
    · rw [Int.add_mul]; omega
    · exact h.bd j
  · rw [adi_set hl, if_neg (by omega)]
    exact h.tl j (by omega)
  · rw [vl_set hl, hs, h.eq, vl_take_adi, hy, Int.pow_add, Int.mul_add, Int.mul_add, Int.mul_left_comm x, show s + x * y - s = x * y by omega, Int.mul_assoc, Int.add_assoc]
/-- between rounds -/
structure So (a b : List Int) (n i : Nat) (S : List Int) : Prop where
  len : S.length = n
  bd : ∀ j : Nat, 0 ≤ S[j]?.getD 0 ∧ S[j]?.getD 0 ≤ (i : Int) * 99980001
  eq : vl S = vl (a.take i) * vl b
theorem So.start {a b : List Int} (n : Nat) : So a b n 0 (List.replicate n 0) := by
  refine ⟨by simp, fun j => ?_, by rw [vl_zeros]; simp [vl]⟩
  have : (List.replicate n (0 : Int))[j]?.getD 0 = 0 := by
    rw [List.getElem?_replicate]; split <;> rfl
  rw [this]; omega
theorem So.su {a b : List Int} {n i : Nat} {S : List Int} (h : So a b n i S) (x : Int) : Su a b n i 0 x S :=
  ⟨h.len, fun j => by have := h.bd j; omega, fun j _ => (h.bd j).2, by rw [h.eq]; simp [vl]⟩
theorem Su.so {a b : List Int} {n i : Nat} {x : Int} {S : List Int} (h : Su a b n i b.length x S) (hx : a[i]?.getD 0 = x) : So a b n (i + 1) S :=
  ⟨h.len, fun j => by have := h.bd j; rw [Int.natCast_add]; exact this, by rw [h.eq, vl_take_full b (Nat.le_refl _), vl_take_adi, hx, Int.add_mul, Int.mul_assoc]⟩
/-- carries: before digit i -/
structure Ca (S : List Int) (Bd : Int) (i : Nat) (O : List Int) (c : Int) : Prop where
  len : O.length = i
  dg : Dg O
  lo : 0 ≤ c
  hi : c ≤ Bd
  eq : vl O + c * 10000 ^ i = vl (S.take i)
theorem Ca.start {S : List Int} {Bd : Int} (h : 0 ≤ Bd) : Ca S Bd 0 [] 0 := ⟨rfl, fun x hx => by simp at hx, by omega, h, by simp [vl]⟩
theorem Ca.step {S : List Int} {Bd s c : Int} {i : Nat} {O : List Int} (h : Ca S Bd i O c) (hs : S[i]?.getD 0 = s) (hb : 0 ≤ s ∧ s ≤ Bd) : Ca S Bd (i + 1) (O ++ [(s + c) % 10000]) ((s + c) / 10000) := by
  have hlo := h.lo
  have hhi := h.hi
  refine ⟨by simp [h.len], h.dg.snoc (by omega), by omega, by omega, ?_⟩
  have he := h.eq
  rw [vl_snoc, h.len, vl_take_adi, hs, Int.pow_succ, Int.mul_left_comm, Int.add_assoc, ← Int.mul_add, show (s + c) % 10000 + (s + c) / 10000 * 10000 = c + s by omega, Int.mul_add, Int.mul_comm _ c]
  omega
theorem Ca.done {S : List Int} {Bd c V : Int} {n : Nat} {O : List Int} (h : Ca S Bd n O c) (hl : S.length = n) (hV : vl S = V) (hlt : V < 10000 ^ n) : vl O = V := by
  have he := h.eq
  rw [vl_take_full S (by omega), hV] at he
  have h2 := h.dg.nn
  have hlo := h.lo
  have hp := pw_pos n
  rcases (by omega : 0 < c ∨ c = 0) with hc | hc
  · exfalso
    have := Int.mul_le_mul_of_nonneg_right (show (1 : Int) ≤ c by omega) (show (0 : Int) ≤ 10000 ^ n by omega)
    rw [Int.one_mul] at this
    omega
  · subst hc
    rw [Int.zero_mul, Int.add_zero] at he
    exact he
theorem ca_get {S O : List Int} {i : Nat} (h : O.length = i) : (O ++ S.drop i)[i]?.getD 0 = S[i]?.getD 0 := by
  rw [List.getElem?_append_right (by omega), h, Nat.sub_self, List.getElem?_drop]; rfl
theorem ca_set {S O : List Int} {i : Nat} (h : O.length = i) (hi : i < S.length) (d : Int) : (O ++ S.drop i).set i d = (O ++ [d]) ++ S.drop (i + 1) := by
  rw [List.set_append, if_neg (by omega), h, Nat.sub_self, List.drop_eq_getElem_cons hi, List.set_cons_zero, List.append_assoc]
  rfl
theorem ca_len {S O : List Int} {i : Nat} (h : O.length = i) (hi : i ≤ S.length) : (O ++ S.drop i).length = S.length := by simp; omega
end Go.Proofs.YtgjdgcmmlfmhmaaGreatDoor

/- BgS -/
namespace Go.Proofs.YtgjdgcmmlfmhmaaGreatDoor
open Go.RowKit

set_option maxHeartbeats 4000000 in
set_option maxRecDepth 20000 in
theorem c_bgMul (M N : Int) (a b : Value) (hM : (dg M.natAbs).length ≤ 40000) (hN : (dg N.natAbs).length ≤ 40000) (w : World) (ha : WhR M a w) (hb : WhR N b w) :
    Calls Tryz.prog 108 #[a, b] w (WhP (M * N) w) := by
  obtain ⟨la, rfl, hra⟩ := ha
  obtain ⟨lb, rfl, hrb⟩ := hb
  have kA := ((Blk.new w #[.bool (decide (M < 0)), la] 37).alloc (.cells #[.bool (decide (N < 0)), lb] 37)).alloc (.cells #[.bool false, .slice none 0 0] 37)
  have kB := (Blk.new (w.alloc (.cells #[.bool (decide (M < 0)), la] 37)) #[.bool (decide (N < 0)), lb] 37).alloc (.cells #[.bool false, .slice none 0 0] 37)
  have kS := Blk.new ((w.alloc (.cells #[.bool (decide (M < 0)), la] 37)).alloc (.cells #[.bool (decide (N < 0)), lb] 37)) #[.bool false, .slice none 0 0] 37
  have hb0 : Below w.heap.size w (((w.alloc (.cells #[.bool (decide (M < 0)), la] 37)).alloc (.cells #[.bool (decide (N < 0)), lb] 37)).alloc (.cells #[.bool false, .slice none 0 0] 37)) := (((Below.refl _ _).alloc (Nat.le_refl _) _).alloc (by simp) _).alloc (by simp; omega) _
  simp only [World.size_alloc] at kB kS
  have HR1 := Lib.hid hra
  have HR2 := Lib.hid hrb
  generalize hsa : decide (M < 0) = sa at *
  generalize hsb : decide (N < 0) = sb at *
  have HSA := Lib.hid hsa
  have HSB := Lib.hid hsb
  clear hsa hsb
  have HSG := Lib.hid (sg_mul HSA HSB)
  obtain ⟨K, hK⟩ : ∃ K, M * N = K := ⟨_, rfl⟩
  have HV : Hid (vl (dg M.natAbs) * vl (dg N.natAbs) = K.natAbs) := by
    show _ = _
    rw [dg_V, dg_V, ← hK, Int.natAbs_mul, Int.natCast_mul]
  rw [hK] at HSG ⊢
  clear hK
  have hdA := dg_D M.natAbs
  have hdB := dg_D N.natAbs
  generalize dg M.natAbs = A at *
  generalize dg N.natAbs = B at *
  have hsz := hb0.size
  obtain ⟨aa, ca, rfl, _, _⟩ := hra
  obtain ⟨ab, cb, rfl, _, _⟩ := hrb
  go_enter Tryz.func108, Tryz.ntmps108
  go_upto_region 1 with (fail)
  generalize ((w.alloc _).alloc _).alloc _ = W at *
  generalize hrs : w.heap.size + 1 + 1 = rs at *
  have HA := Lib.hid (HR1.out.below hb0)
  have HB := Lib.hid (HR2.out.below hb0)
  obtain ⟨wm, hmk, ho0, hbm⟩ := mk_ints W (A.length + B.length) (by omega)
  simp only [Int.natCast_add] at hmk
  have a1 : W.cell? ⟨w.heap.size, 1, none⟩ = some (.slice aa A.length ca) := kA.cell 1
  have b1 : W.cell? ⟨w.heap.size + 1, 1, none⟩ = some (.slice ab B.length cb) := kB.cell 1
  go_upto_region 2 with (fail)
  clear hmk
  have a1m : wm.cell? ⟨w.heap.size, 1, none⟩ = some (.slice aa A.length ca) := (kA.next hbm).cell 1
  generalize hG : W.heap.size = G at *
  have HG := Lib.hid hG
  clear hG
  have kSl : rs < G := by rw [← HG.out]; exact kS.lt
  have kAl : w.heap.size < G := by rw [← HG.out]; exact kA.lt
  have kBl : w.heap.size + 1 < G := by rw [← HG.out]; exact kB.lt
  have kSl2 : (0 : Int) ≤ A.length := by omega
  go_upto_region 3 with (fail)
  go_loopw [24] (fun iv wr => ∃ (i : Nat) (S : List Int), i ≤ A.length ∧ iv = .int .i64 i ∧ Hid (So A B (A.length + B.length) i S) ∧ OwnsI wr G (.slice (some ⟨G, 0, none⟩) (A.length + B.length) (A.length + B.length)) S ∧ Below G W wr) (fun iv _ => A.length - (intOf iv).toNat)
  case atStart => exact ⟨0, List.replicate (A.length + B.length) 0, by omega, rfl, Lib.hid (So.start _), ho0, hbm⟩
  case round =>
    clear ho0 hbm a1m
    obtain ⟨i, S, hi, rfl, hS, ho, hb⟩ := hrel
    by_cases hlt : i < A.length
    · have hxa := hdA.adi i
      obtain ⟨_, _, e1, _, hca⟩ := HA.out
      injection e1 with e1 _ e2
      subst e1 e2
      obtain ⟨ga, oa, rfl, q1, hga⟩ := hca i hlt
      have d1 := (hb.cell (p := ⟨ga, oa + i, none⟩) (HG.out ▸ hga)).trans q1
      have kB1 := kB.next (HG.out ▸ hb)
      have b1r : wr.cell? ⟨w.heap.size + 1, 1, none⟩ = some (.slice ab B.length cb) := kB1.cell 1
      generalize ex : A[i]?.getD 0 = x at d1 hxa
      have HX := Lib.hid ex
      clear ex q1 hca
      go_upto_region 6 with (fail)
      go_loopw [32] (fun kv wr => ∃ (k : Nat) (S : List Int), k ≤ B.length ∧ kv = .int .i64 k ∧ Hid (Su A B (A.length + B.length) i k x S) ∧ OwnsI wr G (.slice (some ⟨G, 0, none⟩) (A.length + B.length) (A.length + B.length)) S ∧ Below G W wr) (fun kv _ => B.length - (intOf kv).toNat)
      case atStart => exact ⟨0, S, by omega, rfl, Lib.hid (hS.out.su x), ho, hb⟩
      case round =>
        clear hS ho kB1 hb d1 b1r
        obtain ⟨k, S, hk, rfl, hI, ho, hb⟩ := hrel
        by_cases hkn : k < B.length
        · have hl := Lib.hid hI.out.len
          have hik : i + k < (A.length + B.length) := by omega
          have s1 := ho.cell (i := i + k) (by rw [hl.out]; exact hik)
          have f1 := ho.frozen (i + k)
          have hsb := hI.out.bd (i + k)
          have hG2 : G < wr.heap.size := (ho.lt G rfl).2
          have hA4 : ((i : Int) + 1) * 99980001 ≤ 5000000000000 := by omega
          generalize es : S[i + k]?.getD 0 = s at s1 hsb
          obtain ⟨gb, ob, rfl, q2, hgb⟩ := (by obtain ⟨_, _, e1, _, hcb⟩ := HB.out; injection e1 with e1 _ e2; subst e1 e2; exact hcb k hkn : ∃ g o, ab = some ⟨g, o, none⟩ ∧ W.cell? ⟨g, o + k, none⟩ = some (.int .i64 (B[k]?.getD 0)) ∧ g < W.heap.size)
          have d2 := (hb.cell (p := ⟨gb, ob + k, none⟩) (HG.out ▸ hgb)).trans q2
          have hyb := hdB.adi k
          generalize ey : B[k]?.getD 0 = y at d2 hyb
          have hm := mul_bdD hxa hyb
          have hs5 : 0 ≤ s ∧ s ≤ 5000000000000 := by omega
          have hz0 : 0 ≤ s + x * y := by omega
          have HI2 := Lib.hid (hI.out.step (y := y) hik hxa hdB es ey)
          clear es ey q2 hI hsb hA4
          go_wp2
          go_roundw
          case rel => exact ⟨k + 1, S.set (i + k) (s + x * y), by omega, by go_num, HI2, ho.setG hl.out.symm (i + k) _, hb.setCell (Nat.le_refl _) _⟩
          case measure => simp [intOf]; omega
        · obtain rfl : k = B.length := by omega
          have HI2 := Lib.hid (hI.out.so HX.out)
          clear hI
          go_wp2
          go_roundw
          case rel => exact ⟨i + 1, S, by omega, by go_num, HI2, ho, hb⟩
          case measure => simp [intOf]; omega
    · obtain rfl : i = A.length := by omega
      have hsl := Lib.hid hS.out.len
      have hbd := Lib.hid hS.out.bd
      have hVS : Hid (vl S = K.natAbs) := by
        show _ = _
        rw [hS.out.eq, vl_take_full A (Nat.le_refl _), HV.out]
      clear hS
      have hnn : (0 : Int) ≤ (A.length : Int) * 99980001 := by omega
      have hnb : (A.length : Int) * 99980001 ≤ 4000000000000 := by omega
      obtain ⟨Bd, hBd⟩ : ∃ Bd, (A.length : Int) * 99980001 = Bd := ⟨_, rfl⟩
      rw [hBd] at hbd hnn hnb
      clear hBd
      go_upto_region 13 with (fail)
      go_loopw [10, 52] (fun cv iv wr => ∃ (i : Nat) (c : Int) (O : List Int), i ≤ (A.length + B.length) ∧ cv = .int .i64 c ∧ iv = .int .i64 i ∧ Hid (Ca S Bd i O c) ∧ OwnsI wr G (.slice (some ⟨G, 0, none⟩) (A.length + B.length) (A.length + B.length)) (O ++ S.drop i) ∧ Below G W wr) (fun _ iv _ => (A.length + B.length) - (intOf iv).toNat)
      case atStart => exact ⟨0, 0, [], by omega, rfl, rfl, Lib.hid (Ca.start hnn), by simpa using ho, hb⟩
      case round =>
        clear ho hb
        obtain ⟨i, c, O, hi9, rfl, rfl, hI, ho, hb⟩ := hrel
        have hol := Lib.hid hI.out.len
        by_cases hin : i < (A.length + B.length)
        · have hlL : Hid ((O ++ S.drop i).length = (A.length + B.length)) := by
            show _ = _
            rw [ca_len hol.out (by rw [hsl.out]; exact hi9), hsl.out]
          have s1 := ho.cell (i := i) (by rw [hlL.out]; exact hin)
          rw [ca_get hol.out] at s1
          have f1 := ho.frozen i
          have hsb := hbd.out i
          have hclo := hI.out.lo
          have hchi := hI.out.hi
          have hG2 : G < wr.heap.size := (ho.lt G rfl).2
          generalize es : S[i]?.getD 0 = s at s1 hsb
          have hz0 : 0 ≤ s + c := by omega
          have HI2 := Lib.hid (hI.out.step es hsb)
          have HO2 := Lib.hid (ca_set hol.out (by rw [hsl.out]; exact hin) ((s + c) % 10000))
          clear es hI
          go_wp2
          go_roundw
          case rel => exact ⟨i + 1, (s + c) / 10000, O ++ [(s + c) % 10000], by omega, by go_num, by go_num, HI2, by rw [← HO2.out]; exact ho.setG hlL.out.symm i _, hb.setCell (Nat.le_refl _) _⟩
          case measure => simp [intOf]; omega
        · obtain rfl : i = (A.length + B.length) := by omega
          have hval : vl O = K.natAbs := hI.out.done hsl.out hVS.out (by rw [← HV.out]; exact mul_lt hdA hdB (Nat.le_refl _) (Nat.le_refl _))
          rw [List.drop_of_length_le (by rw [hsl.out]; exact Nat.le_refl _), List.append_nil] at ho
          have kA1 := kA.next (HG.out ▸ hb)
          have kB1 := kB.next (HG.out ▸ hb)
          have kS1 := kS.next (HG.out ▸ hb)
          have HTR := Lib.hid (tr_val hI.out.dg hval rfl)
          have hr9 := ho.rdL
          obtain ⟨_, _, e9, _⟩ := id hr9
          have HT := Lib.hid ((c_bgMake (sa != sb) _ O (by rw [hol.out]; omega) wr hr9).mono fun e w' h => h.whole (N := K) HSG.out HTR.out)
          clear hval hI e9 hr9
          have a0 : wr.cell? ⟨w.heap.size, 0, none⟩ = some (.bool sa) := kA1.cell 0
          have b0 : wr.cell? ⟨w.heap.size + 1, 0, none⟩ = some (.bool sb) := kB1.cell 0
          have hb2 : Below w.heap.size w wr := below_step (HG.out ▸ hb) hsz hb0
          have hsz2 := hb2.size
          have hGr := hb.size
          go_wp2_with fail
          refine HT.out.mono ?_
          rintro e w1 ⟨v, rfl, hwh, hb1⟩
          obtain ⟨lv, rfl, ho9⟩ := hwh
          obtain ⟨sl, scap, rfl, _⟩ := id ho9.1
          have kS2 := kS1.next hb1
          have c0 : w1.cell? ⟨rs, 0, none⟩ = some (.bool false) := kS2.cell 0
          have c1 : w1.cell? ⟨rs, 1, none⟩ = some (.slice none 0 0) := kS2.cell 1
          have z0 := kS2.frozen 0
          have z1 := kS2.frozen 1
          have hbb : Below w.heap.size w w1 := below_step hb1 hsz2 hb2
          have k9 := (kS2.set 0 (.bool (decide (K < 0)))).set 1 (.slice sl (dg K.natAbs).length scap)
          have hB9 : Below w.heap.size w ((w1.setCell ⟨rs, 0, none⟩ (.bool (decide (K < 0)))).setCell ⟨rs, 1, none⟩ (.slice sl (dg K.natAbs).length scap)) := (hbb.setCell (by simp; omega) _).setCell (by simp; omega) _
          have ho8 := ho9.set2 (S := rs) kS1.lt (.bool (decide (K < 0))) (.slice sl (dg K.natAbs).length scap)
          replace ho8 : RdO _ w.heap.size _ _ := ho8.le hsz2
          clear HT ho9
          go_wp2
          generalize (World.setCell (World.setCell _ _ _) _ _) = w9 at hB9 k9 ho8 ⊢
          have q0 : w9.cell? ⟨rs, 0, none⟩ = some (.bool (decide (K < 0))) := k9.cell 0
          have q1 : w9.cell? ⟨rs, 1, none⟩ = some (.slice sl (dg K.natAbs).length scap) := k9.cell 1
          refine bodyPost_ret (v := .agg #[.bool (decide (K < 0)), .slice sl (dg K.natAbs).length scap]) (by simp [results, Tryz.results108, go_sem, q0, q1]) rfl ?_
          exact ⟨_, rfl, ⟨_, rfl, ho8⟩, hB9⟩
end Go.Proofs.YtgjdgcmmlfmhmaaGreatDoor

/- BgU -/
namespace Go.Proofs.YtgjdgcmmlfmhmaaGreatDoor
open Go.RowKit

set_option maxHeartbeats 1000000 in
set_option maxRecDepth 20000 in
theorem c_bgTimes (M n : Int) (a : Value) (hM : (dg M.natAbs).length ≤ 40000) (hn : -1000000000000000000 ≤ n ∧ n ≤ 1000000000000000000) (w : World) (ha : WhR M a w) :
    Calls Tryz.prog 107 #[a, .int .i64 n] w (WhP (M * n) w) := by
  have HW1 := Lib.hid ha
  have hlen : (dg n.natAbs).length ≤ 5 := dg_len (by omega)
  obtain ⟨la, rfl, _⟩ := ha
  have kA := (Blk.new w #[.bool (decide (M < 0)), la] 37).alloc (.cells #[.bool false, .slice none 0 0] 37)
  have kS := Blk.new (w.alloc (.cells #[.bool (decide (M < 0)), la] 37)) #[.bool false, .slice none 0 0] 37
  have hb0 : Below w.heap.size w ((w.alloc (.cells #[.bool (decide (M < 0)), la] 37)).alloc (.cells #[.bool false, .slice none 0 0] 37)) := ((Below.refl _ _).alloc (Nat.le_refl _) _).alloc (by simp) _
  simp only [World.size_alloc] at kS
  generalize decide (M < 0) = sa at *
  obtain ⟨K, hK⟩ : ∃ K, M * n = K := ⟨_, rfl⟩
  rw [hK]
  have HK := Lib.hid hK
  clear hK
  have HN := Lib.hid (fun w => c_bgOf n hn w)
  have hsz := hb0.size
  go_enter Tryz.func107, Tryz.ntmps107
  go_upto_region 1 with (fail)
  generalize (w.alloc _).alloc _ = W at *
  generalize hrs : w.heap.size + 1 = rs at *
  have a0 : W.cell? ⟨w.heap.size, 0, none⟩ = some (.bool sa) := kA.cell 0
  have a1 : W.cell? ⟨w.heap.size, 1, none⟩ = some la := kA.cell 1
  have kAl : w.heap.size < W.heap.size := kA.lt
  have kSl : rs < W.heap.size := kS.lt
  have hn1 : w.heap.size ∉ [rs] := by simp; omega
  refine wp_region_cls [rs] (fun _ => false) (fun _ => True) (Blk rs #[.bool false, .slice none 0 0] 37) (by kernel_rfl) (kS) ?_
  apply wpAnyF_hd ⟨W, Over.refl _ _, kS⟩ [true, true] 3 (Blk.closed _ _ _) (fun _ _ => trivial) (by kernel_rfl) (by kernel_rfl) (by kernel_rfl) (by kernel_rfl) (by simp)
  · intro E hE hEN hEn; (repeat (first | (refine wpHL_take ?_; go_big_quiet_step (fail); refine wpQuiet_nil ?_) | refine wpHL_skip ?_)); exact wpHL_end rfl
  refine wpAnyF_ready [2] 2 (by kernel_rfl) (by kernel_rfl) (by simp) (AllF.cons ?_ AllF.nil)
  refine stepC_calle (some 7) (fun u => fun w' => Blk rs #[.bool false, .slice none 0 0] 37 w' ∧ Wh W.heap.size n u w') (by rfl) (by rfl) (by rfl) (fun _ => by go_simp) (fun u => (Blk.closed _ _ _).and (Wh.closed _ _ _)) (fun w' hO hD => (HN.out _).mono fun e w2 ⟨v, h1, h2, h3⟩ => ⟨v, h1, .of_below h3, hD.next h3, h2.le hO.size⟩) (fun u hne => ?_)
  simp only [Act.put, List.setIfInBounds_toArray, List.set_cons_succ, List.set_cons_zero]
  refine wpAnyF_ready [3] 1 (by kernel_rfl) (by kernel_rfl) (by simp) (AllF.cons ?_ AllF.nil)
  refine stepC_calle (some 8) (fun u2 => fun w' => Blk rs #[.bool false, .slice none 0 0] 37 w' ∧ Wh W.heap.size K u2 w') (by rfl) (by rfl) (by rfl) (fun _ => by go_simp) (fun u2 => (Blk.closed _ _ _).and (Wh.closed _ _ _)) (fun w' hO hD => (c_bgMul M n _ _ hM (by omega) _ (HW1.out.below0 (hO.belowGe (B := w.heap.size) hb0 hsz (by simp; omega))) hD.2.rd).mono fun e w2 ⟨v, h1, h2, h3⟩ => ⟨v, h1, .of_below h3, hD.1.next h3, HK.out ▸ h2.le hO.size⟩) (fun u2 hne => ?_)
  simp only [Act.put, List.setIfInBounds_toArray, List.set_cons_succ, List.set_cons_zero]
  obtain ⟨w9, _, _, lv9, rfl, ho9⟩ := id hne; obtain ⟨sl, scap, rfl, _⟩ := id ho9.1
  refine wpAnyF_ready [4] 0 (by kernel_rfl) (by kernel_rfl) (by simp) (AllF.cons ?_ AllF.nil)
  refine stepC_store (v := .agg #[.bool (decide (K < 0)), .slice sl (dg K.natAbs).length scap]) (rs) (#[.bool false, .slice none 0 0]) (fun w' => Blk rs #[.bool (decide (K < 0)), .slice sl (dg K.natAbs).length scap] 37 w' ∧ RdO w' W.heap.size (.slice sl (dg K.natAbs).length scap) (dg K.natAbs)) (by rfl) (by rfl) (by rfl) (by rfl) (by rfl) (by rfl) (fun _ => by go_simp) (by rfl) (by simp [Value.cells, one1]) (.inr (by simp)) (fun _ hd => hd.1) ((Blk.closed _ _ _).and (fun _ _ h hb => ⟨h.1.below hb, fun hn => (h.2 hn).below hb⟩)) (fun w1 w2 hd ho hb => ⟨hb, hd.2.rdO.over ho (by simp; omega)⟩) (fun hne => ?_)
  try simp only [Value.cells]
  refine wpAnyF_done (by kernel_rfl) (fun Wz hOz hDz => NoPanic.normal ?_) _
  try dsimp only
  have hbz : Below w.heap.size w Wz := hOz.belowGe (B := w.heap.size) hb0 hsz (by simp; omega)
  have q0 : Wz.cell? ⟨rs, 0, none⟩ = some (.bool (decide (K < 0))) := hDz.1.cell 0
  have q1 : Wz.cell? ⟨rs, 1, none⟩ = some (.slice sl (dg K.natAbs).length scap) := hDz.1.cell 1
  have hRz : RdO Wz w.heap.size (.slice sl (dg K.natAbs).length scap) (dg K.natAbs) := hDz.2.le hsz
  clear hOz hDz hne ho9
  go_wp2
  refine bodyPost_ret (v := .agg #[.bool (decide (K < 0)), .slice sl (dg K.natAbs).length scap]) (by simp [results, Tryz.results107, go_sem, q0, q1]) rfl ?_
  exact ⟨_, rfl, ⟨_, rfl, hRz⟩, hbz⟩
end Go.Proofs.YtgjdgcmmlfmhmaaGreatDoor

/- BgV -/
namespace Go.Proofs.YtgjdgcmmlfmhmaaGreatDoor
open Go.RowKit

/-- a slice of wholes that reads as a list of numbers -/
def RdWs (w : World) (v : Value) (Ns : List Int) : Prop := ∃ (a : Option Addr) (cap : Nat), v = .slice a Ns.length cap ∧ ∀ i (_ : i < Ns.length), ∃ g o lv, a = some ⟨g, o, none⟩ ∧ w.cell? ⟨g, o + i * 2, none⟩ = some (.bool (decide (Ns[i] < 0))) ∧ w.cell? ⟨g, o + i * 2 + 1, none⟩ = some lv ∧ RdL w lv (dg Ns[i].natAbs) ∧ g < w.heap.size
def sm : List Int → Int
  | [] => 0
  | x :: l => x + sm l
theorem sm_snoc : ∀ (l : List Int) (x : Int), sm (l ++ [x]) = sm l + x
  | [], x => by simp [sm]
  | y :: l, x => by simp only [List.cons_append, sm, sm_snoc l x]; omega
def pr : List Int → Int
  | [] => 1
  | x :: l => x * pr l
theorem pr_snoc : ∀ (l : List Int) (x : Int), pr (l ++ [x]) = pr l * x
  | [], x => by simp [pr]
  | y :: l, x => by simp only [List.cons_append, pr, pr_snoc l x, Int.mul_assoc]
theorem hP9 {Ns : List Int} (h : Hid (∀ k, k ≤ Ns.length → (dg (sm (Ns.take k)).natAbs).length ≤ 100000)) (k : Nat) (hk : k ≤ Ns.length) : (dg (sm (Ns.take k)).natAbs).length ≤ 100000 := h.out k hk
set_option maxHeartbeats 2000000 in
set_option maxRecDepth 20000 in
theorem c_sumWholes (Ns : List Int) (v : Value) (hNl : Ns.length ≤ 1000) (hN : ∀ i (h : i < Ns.length), (dg Ns[i].natAbs).length ≤ 100000) (hP : ∀ k, k ≤ Ns.length → (dg (sm (Ns.take k)).natAbs).length ≤ 100000) (w : World) (hv : RdWs w v Ns) :
    Calls Tryz.prog 80 #[v] w (WhP (sm Ns) w) := by
  have HN := Lib.hid hN
  have HP := Lib.hid hP
  have HV := Lib.hid hv
  obtain ⟨a, cap, rfl, hc⟩ := hv
  have HC := Lib.hid hc
  clear hN hP hc
  go_enter Tryz.func80, Tryz.ntmps80
  go_upto_region 2 with (fail)
  have kS := (Blk.new w #[.bool false, .slice none 0 0] 37).alloc (.cells #[.bool false, .slice none 0 0] 37)
  have kC := Blk.new (w.alloc (.cells #[.bool false, .slice none 0 0] 37)) #[.bool false, .slice none 0 0] 37
  have hb0 : Below w.heap.size w ((w.alloc (.cells #[.bool false, .slice none 0 0] 37)).alloc (.cells #[.bool false, .slice none 0 0] 37)) := ((Below.refl _ _).alloc (Nat.le_refl _) _).alloc (by simp) _
  have hsz0 : w.heap.size + 2 ≤ ((w.alloc (.cells #[.bool false, .slice none 0 0] 37)).alloc (.cells #[.bool false, .slice none 0 0] 37)).heap.size := by simp
  simp only [World.size_alloc] at kC
  generalize (w.alloc _).alloc _ = W at *
  obtain ⟨rc, hrc⟩ : ∃ rc, w.heap.size + 1 = rc := ⟨_, rfl⟩
  have HRC : Hid (w.heap.size + 1 = rc) := Lib.hid hrc
  rw [hrc] at kC ⊢
  go_upto_region 3 with (fail)
  go_loopw [9] (fun iv wr => ∃ (k : Nat) (V : Int) (sl : Option Addr) (scap : Nat), k ≤ Ns.length ∧ iv = .int .i64 k ∧ Hid (V = sm (Ns.take k)) ∧ Blk w.heap.size #[.bool false, .slice none 0 0] 37 wr ∧ Blk rc #[.bool (decide (V < 0)), .slice sl (dg V.natAbs).length scap] 37 wr ∧ Hid (RdO wr (w.heap.size + 2) (.slice sl (dg V.natAbs).length scap) (dg V.natAbs)) ∧ Below w.heap.size w wr) (fun iv _ => Ns.length - (intOf iv).toNat)
  case atStart => exact ⟨0, 0, none, 0, by omega, rfl, rfl, kS, by simpa [dg_zero] using kC, by simp only [Int.natAbs_zero, dg_zero]; exact ⟨⟨none, 0, rfl, Nat.le_refl _, fun i hi => by simp at hi⟩, fun h => absurd rfl h⟩, hb0⟩
  case round =>
    clear kS kC hb0 hsz0
    obtain ⟨k, V, sl, scap, hk, rfl, hV, kS, kC, hR, hb⟩ := hrel
    have hsz := hb.size
    have hCl : rc < wr.heap.size := kC.lt
    by_cases hlt : k < Ns.length
    · obtain ⟨g, o, lv, rfl, q0, q1, hr, hg⟩ := HC.out k hlt
      have hVn := hP9 HP k hk
      have hyn := HN.out k hlt
      have hV2 : Hid (V + Ns[k] = sm (Ns.take (k + 1))) := by
        show _ = _
        rw [List.take_succ_eq_append_getElem hlt, sm_snoc, ← hV.out]
      rw [← hV.out] at hVn
      generalize Ns[k] = y at q0 q1 hr hyn hV2
      have d0 := (hb.cell (p := ⟨g, o + k * 2, none⟩) hg).trans q0
      have d1 := (hb.cell (p := ⟨g, o + k * 2 + 1, none⟩) hg).trans q1
      obtain ⟨s2, c2, rfl, _⟩ := id hr
      have HRY := Lib.hid hr
      generalize hby : decide (y < 0) = sy at d0
      have HBY := Lib.hid hby
      clear q0 q1 hr hby
      go_upto_region 5 with (fail)
      have kE := Blk.new wr #[.bool sy, .slice s2 (dg y.natAbs).length c2] 37
      have kC1 := kC.alloc (.cells #[.bool sy, .slice s2 (dg y.natAbs).length c2] 37)
      have kS1 := kS.alloc (.cells #[.bool sy, .slice s2 (dg y.natAbs).length c2] 37)
      have hbe : Below wr.heap.size wr (wr.alloc (.cells #[.bool sy, .slice s2 (dg y.natAbs).length c2] 37)) := (Below.refl _ _).alloc (Nat.le_refl _) _
      have hb1 : Below w.heap.size w (wr.alloc (.cells #[.bool sy, .slice s2 (dg y.natAbs).length c2] 37)) := hb.alloc hsz _
      have HR1 := Lib.hid (hR.out.1.below hbe)
      have HR2 := Lib.hid (HRY.out.below hb1)
      have hW5 : wr.heap.size < (wr.alloc (.cells #[.bool sy, .slice s2 (dg y.natAbs).length c2] 37)).heap.size := by simp
      clear d0 d1 kC kS
      generalize wr.alloc _ = W5 at *
      have e0 : W5.cell? ⟨wr.heap.size, 0, none⟩ = some (.bool sy) := kE.cell 0
      have e1 : W5.cell? ⟨wr.heap.size, 1, none⟩ = some (.slice s2 (dg y.natAbs).length c2) := kE.cell 1
      have x0 : W5.cell? ⟨rc, 0, none⟩ = some (.bool (decide (V < 0))) := kC1.cell 0
      have x1 : W5.cell? ⟨rc, 1, none⟩ = some (.slice sl (dg V.natAbs).length scap) := kC1.cell 1
      go_wp2_with fail
      refine (c_addWholes V y _ _ hVn hyn W5 ⟨_, rfl, HR1.out⟩ ⟨_, by rw [HBY.out], HR2.out⟩).mono ?_
      rintro e w1 ⟨v, rfl, hwh, hb2⟩
      obtain ⟨lv, rfl, ho9⟩ := hwh
      obtain ⟨s9, c9, rfl, _⟩ := id ho9.1
      have kC2 := kC1.next hb2
      have kS2 := kS1.next hb2
      clear e0 e1 x0 x1
      have x0 : w1.cell? ⟨rc, 0, none⟩ = some (.bool (decide (V < 0))) := kC2.cell 0
      have x1 : w1.cell? ⟨rc, 1, none⟩ = some (.slice sl (dg V.natAbs).length scap) := kC2.cell 1
      have z0 := kC2.frozen 0
      have z1 := kC2.frozen 1
      have hb3 : Below w.heap.size w w1 := below_step hb2 hb1.size hb1
      have k9 := (kC2.set 0 (.bool (decide (V + y < 0)))).set 1 (.slice s9 (dg (V + y).natAbs).length c9)
      have hr9 := HRC.out
      have hne9 : rc ≠ w.heap.size := by omega
      have hle9 : w.heap.size ≤ rc := by omega
      have kS9 := (kS2.other (p := ⟨rc, 0, none⟩) hne9 (.bool (decide (V + y < 0)))).other (p := ⟨rc, 1, none⟩) hne9 (.slice s9 (dg (V + y).natAbs).length c9)
      have hB9 : Below w.heap.size w ((w1.setCell ⟨rc, 0, none⟩ (.bool (decide (V + y < 0)))).setCell ⟨rc, 1, none⟩ (.slice s9 (dg (V + y).natAbs).length c9)) := (hb3.setCell hle9 _).setCell hle9 _
      have HO9 := Lib.hid ((ho9.set2 (S := rc) (by omega) (.bool (decide (V + y < 0))) (.slice s9 (dg (V + y).natAbs).length c9)).le (base' := w.heap.size + 2) (by omega))
      clear ho9 hR HR1 HR2 hr9
      go_wp2
      go_roundw
      case rel => exact ⟨k + 1, V + y, s9, c9, by omega, by go_num, hV2, kS9, k9, HO9, hB9⟩
      case measure => simp [intOf]; omega
    · obtain rfl : k = Ns.length := by omega
      have hVe := hV.out
      rw [List.take_length] at hVe
      have c0 : wr.cell? ⟨rc, 0, none⟩ = some (.bool (decide (V < 0))) := kC.cell 0
      have c1 : wr.cell? ⟨rc, 1, none⟩ = some (.slice sl (dg V.natAbs).length scap) := kC.cell 1
      have s0 : wr.cell? ⟨w.heap.size, 0, none⟩ = some (.bool false) := kS.cell 0
      have s1 : wr.cell? ⟨w.heap.size, 1, none⟩ = some (.slice none 0 0) := kS.cell 1
      have z0 := kS.frozen 0
      have z1 := kS.frozen 1
      have hSl : w.heap.size < wr.heap.size := kS.lt
      have HVE := Lib.hid hVe
      have k9 := (kS.set 0 (.bool (decide (V < 0)))).set 1 (.slice sl (dg V.natAbs).length scap)
      have hB9 : Below w.heap.size w ((wr.setCell ⟨w.heap.size, 0, none⟩ (.bool (decide (V < 0)))).setCell ⟨w.heap.size, 1, none⟩ (.slice sl (dg V.natAbs).length scap)) := (hb.setCell (Nat.le_refl _) _).setCell (Nat.le_refl _) _
      have ho8 := (hR.out.set2 (S := w.heap.size) (by omega) (.bool (decide (V < 0))) (.slice sl (dg V.natAbs).length scap)).le (base' := w.heap.size) (by omega)
      clear hR hVe hV
      go_wp2
      generalize (World.setCell (World.setCell _ _ _) _ _) = w9 at hB9 k9 ho8 ⊢
      have q0 : w9.cell? ⟨w.heap.size, 0, none⟩ = some (.bool (decide (V < 0))) := k9.cell 0
      have q1 : w9.cell? ⟨w.heap.size, 1, none⟩ = some (.slice sl (dg V.natAbs).length scap) := k9.cell 1
      refine bodyPost_ret (v := .agg #[.bool (decide (V < 0)), .slice sl (dg V.natAbs).length scap]) (by simp [results, Tryz.results80, go_sem, q0, q1]) rfl ?_
      rw [← HVE.out]
      exact ⟨_, rfl, ⟨_, rfl, ho8⟩, hB9⟩
end Go.Proofs.YtgjdgcmmlfmhmaaGreatDoor

/- BgW -/
namespace Go.Proofs.YtgjdgcmmlfmhmaaGreatDoor
open Go.RowKit

theorem hP8 {Ns : List Int} (h : Hid (∀ k, k ≤ Ns.length → (dg (pr (Ns.take k)).natAbs).length ≤ 40000)) (k : Nat) (hk : k ≤ Ns.length) : (dg (pr (Ns.take k)).natAbs).length ≤ 40000 := h.out k hk
set_option maxHeartbeats 2000000 in
set_option maxRecDepth 20000 in
theorem c_productWholes (Ns : List Int) (v : Value) (hNl : Ns.length ≤ 1000) (hN : ∀ i (h : i < Ns.length), (dg Ns[i].natAbs).length ≤ 40000) (hP : ∀ k, k ≤ Ns.length → (dg (pr (Ns.take k)).natAbs).length ≤ 40000) (w : World) (hv : RdWs w v Ns) :
    Calls Tryz.prog 79 #[v] w (WhP (pr Ns) w) := by
  have HN := Lib.hid hN
  have HP := Lib.hid hP
  have HV := Lib.hid hv
  obtain ⟨a, cap, rfl, hc⟩ := hv
  have HC := Lib.hid hc
  clear hN hP hc
  go_enter Tryz.func79, Tryz.ntmps79
  have kS := Blk.new w #[.bool false, .slice none 0 0] 37
  have hb0 : Below w.heap.size w (w.alloc (.cells #[.bool false, .slice none 0 0] 37)) := (Below.refl _ _).alloc (Nat.le_refl _) _
  have hW0 : (w.alloc (.cells #[.bool false, .slice none 0 0] 37)).heap.size = w.heap.size + 1 := by simp
  go_upto_region 1 with (fail)
  generalize w.alloc _ = W0 at *
  go_wp2_with fail
  refine (c_wholeOf 1 (by omega) W0).mono ?_
  rintro e w1 ⟨v, rfl, hwh, hb1⟩
  obtain ⟨lv, rfl, ho1⟩ := hwh
  obtain ⟨s1, c1, rfl, _⟩ := id ho1.1
  have hW1 := hb1.size
  have HRC : Hid (w.heap.size + 1 ≤ w1.heap.size) := by show _ ≤ _; omega
  have kS1 := (kS.next hb1).alloc (.cells #[.bool false, .slice s1 (dg 1).length c1] 37)
  have kC := Blk.new w1 #[.bool false, .slice s1 (dg 1).length c1] 37
  have hbe : Below w1.heap.size w1 (w1.alloc (.cells #[.bool false, .slice s1 (dg 1).length c1] 37)) := (Below.refl _ _).alloc (Nat.le_refl _) _
  have hb2 : Below w.heap.size w (w1.alloc (.cells #[.bool false, .slice s1 (dg 1).length c1] 37)) := (below_step hb1 (by omega) hb0).alloc (by omega) _
  have HO1 : Hid (RdO (w1.alloc (.cells #[.bool false, .slice s1 (dg 1).length c1] 37)) (w.heap.size + 1) (.slice s1 (dg 1).length c1) (dg 1)) := ⟨ho1.1.below hbe, fun hn => ((ho1.2 hn).below hbe).le (by omega)⟩
  clear ho1 hb0 hb1 hbe kS
  go_upto_region 3 with (fail)
  generalize w1.alloc _ = W at *
  generalize hrc : w1.heap.size = rc at *
  clear hrc
  go_loopw [9] (fun iv wr => ∃ (k : Nat) (V : Int) (sl : Option Addr) (scap : Nat), k ≤ Ns.length ∧ iv = .int .i64 k ∧ Hid (V = pr (Ns.take k)) ∧ Blk w.heap.size #[.bool false, .slice none 0 0] 37 wr ∧ Blk rc #[.bool (decide (V < 0)), .slice sl (dg V.natAbs).length scap] 37 wr ∧ Hid (RdO wr (w.heap.size + 1) (.slice sl (dg V.natAbs).length scap) (dg V.natAbs)) ∧ Below w.heap.size w wr) (fun iv _ => Ns.length - (intOf iv).toNat)
  case atStart => exact ⟨0, 1, s1, c1, by omega, rfl, rfl, kS1, kC, HO1, hb2⟩
  case round =>
    clear kS1 kC hb2 HO1
    obtain ⟨k, V, sl, scap, hk, rfl, hV, kS, kC, hR, hb⟩ := hrel
    have hsz := hb.size
    have hCl : rc < wr.heap.size := kC.lt
    by_cases hlt : k < Ns.length
    · obtain ⟨g, o, lv, rfl, q0, q1, hr, hg⟩ := HC.out k hlt
      have hVn := hP8 HP k hk
      have hyn := HN.out k hlt
      have hV2 : Hid (V * Ns[k] = pr (Ns.take (k + 1))) := by
        show _ = _
        rw [List.take_succ_eq_append_getElem hlt, pr_snoc, ← hV.out]
      rw [← hV.out] at hVn
      generalize Ns[k] = y at q0 q1 hr hyn hV2
      have d0 := (hb.cell (p := ⟨g, o + k * 2, none⟩) hg).trans q0
      have d1 := (hb.cell (p := ⟨g, o + k * 2 + 1, none⟩) hg).trans q1
      obtain ⟨s2, c2, rfl, _⟩ := id hr
      have HRY := Lib.hid hr
      generalize hby : decide (y < 0) = sy at d0
      have HBY := Lib.hid hby
      clear q0 q1 hr hby
      go_upto_region 5 with (fail)
      have kE := Blk.new wr #[.bool sy, .slice s2 (dg y.natAbs).length c2] 37
      have kC1 := kC.alloc (.cells #[.bool sy, .slice s2 (dg y.natAbs).length c2] 37)
      have kS1 := kS.alloc (.cells #[.bool sy, .slice s2 (dg y.natAbs).length c2] 37)
      have hbe : Below wr.heap.size wr (wr.alloc (.cells #[.bool sy, .slice s2 (dg y.natAbs).length c2] 37)) := (Below.refl _ _).alloc (Nat.le_refl _) _
      have hb1 : Below w.heap.size w (wr.alloc (.cells #[.bool sy, .slice s2 (dg y.natAbs).length c2] 37)) := hb.alloc hsz _
      have HR1 := Lib.hid (hR.out.1.below hbe)
      have HR2 := Lib.hid (HRY.out.below hb1)
      have hW5 : wr.heap.size < (wr.alloc (.cells #[.bool sy, .slice s2 (dg y.natAbs).length c2] 37)).heap.size := by simp
      clear d0 d1 kC kS
      generalize wr.alloc _ = W5 at *
      have e0 : W5.cell? ⟨wr.heap.size, 0, none⟩ = some (.bool sy) := kE.cell 0
      have e1 : W5.cell? ⟨wr.heap.size, 1, none⟩ = some (.slice s2 (dg y.natAbs).length c2) := kE.cell 1
      have x0 : W5.cell? ⟨rc, 0, none⟩ = some (.bool (decide (V < 0))) := kC1.cell 0
      have x1 : W5.cell? ⟨rc, 1, none⟩ = some (.slice sl (dg V.natAbs).length scap) := kC1.cell 1
      go_wp2_with fail
      refine (c_mulWholes V y _ _ hVn hyn W5 ⟨_, rfl, HR1.out⟩ ⟨_, by rw [HBY.out], HR2.out⟩).mono ?_
      rintro e w1 ⟨v, rfl, hwh, hb2⟩
      obtain ⟨lv, rfl, ho9⟩ := hwh
      obtain ⟨s9, c9, rfl, _⟩ := id ho9.1
      have kC2 := kC1.next hb2
      have kS2 := kS1.next hb2
      clear e0 e1 x0 x1
      have x0 : w1.cell? ⟨rc, 0, none⟩ = some (.bool (decide (V < 0))) := kC2.cell 0
      have x1 : w1.cell? ⟨rc, 1, none⟩ = some (.slice sl (dg V.natAbs).length scap) := kC2.cell 1
      have z0 := kC2.frozen 0
      have z1 := kC2.frozen 1
      have hb3 : Below w.heap.size w w1 := below_step hb2 hb1.size hb1
      have k9 := (kC2.set 0 (.bool (decide (V * y < 0)))).set 1 (.slice s9 (dg (V * y).natAbs).length c9)
      have hr9 := HRC.out
      have hne9 : rc ≠ w.heap.size := by omega
      have hle9 : w.heap.size ≤ rc := by omega
      have kS9 := (kS2.other (p := ⟨rc, 0, none⟩) hne9 (.bool (decide (V * y < 0)))).other (p := ⟨rc, 1, none⟩) hne9 (.slice s9 (dg (V * y).natAbs).length c9)
      have hB9 : Below w.heap.size w ((w1.setCell ⟨rc, 0, none⟩ (.bool (decide (V * y < 0)))).setCell ⟨rc, 1, none⟩ (.slice s9 (dg (V * y).natAbs).length c9)) := (hb3.setCell hle9 _).setCell hle9 _
      have HO9 := Lib.hid ((ho9.set2 (S := rc) (by omega) (.bool (decide (V * y < 0))) (.slice s9 (dg (V * y).natAbs).length c9)).le (base' := w.heap.size + 1) (by omega))
      clear ho9 hR HR1 HR2 hr9
      go_wp2
      go_roundw
      case rel => exact ⟨k + 1, V * y, s9, c9, by omega, by go_num, hV2, kS9, k9, HO9, hB9⟩
      case measure => simp [intOf]; omega
    · obtain rfl : k = Ns.length := by omega
      have hVe := hV.out
      rw [List.take_length] at hVe
      have c0 : wr.cell? ⟨rc, 0, none⟩ = some (.bool (decide (V < 0))) := kC.cell 0
      have c1 : wr.cell? ⟨rc, 1, none⟩ = some (.slice sl (dg V.natAbs).length scap) := kC.cell 1
      have s0 : wr.cell? ⟨w.heap.size, 0, none⟩ = some (.bool false) := kS.cell 0
      have s1 : wr.cell? ⟨w.heap.size, 1, none⟩ = some (.slice none 0 0) := kS.cell 1
      have z0 := kS.frozen 0
      have z1 := kS.frozen 1
      have hSl : w.heap.size < wr.heap.size := kS.lt
      have HVE := Lib.hid hVe
      have k9 := (kS.set 0 (.bool (decide (V < 0)))).set 1 (.slice sl (dg V.natAbs).length scap)
      have hB9 : Below w.heap.size w ((wr.setCell ⟨w.heap.size, 0, none⟩ (.bool (decide (V < 0)))).setCell ⟨w.heap.size, 1, none⟩ (.slice sl (dg V.natAbs).length scap)) := (hb.setCell (Nat.le_refl _) _).setCell (Nat.le_refl _) _
      have ho8 := (hR.out.set2 (S := w.heap.size) (by omega) (.bool (decide (V < 0))) (.slice sl (dg V.natAbs).length scap)).le (base' := w.heap.size) (by omega)
      clear hR hVe hV
      go_wp2
      generalize (World.setCell (World.setCell _ _ _) _ _) = w9 at hB9 k9 ho8 ⊢
      have q0 : w9.cell? ⟨w.heap.size, 0, none⟩ = some (.bool (decide (V < 0))) := k9.cell 0
      have q1 : w9.cell? ⟨w.heap.size, 1, none⟩ = some (.slice sl (dg V.natAbs).length scap) := k9.cell 1
      refine bodyPost_ret (v := .agg #[.bool (decide (V < 0)), .slice sl (dg V.natAbs).length scap]) (by simp [results, Tryz.results79, go_sem, q0, q1]) rfl ?_
      rw [← HVE.out]
      exact ⟨_, rfl, ⟨_, rfl, ho8⟩, hB9⟩
end Go.Proofs.YtgjdgcmmlfmhmaaGreatDoor

/- BgX -/
namespace Go.Proofs.YtgjdgcmmlfmhmaaGreatDoor
open Go.RowKit

noncomputable def okW (K : Int) : Bool := decide ((dg K.natAbs).length ≤ 400)
def ResP (base : Nat) (K : Int) (w : World) (e : Ending) (w' : World) : Prop := ∃ v, e = .returned (.tuple #[v, .bool (okW K)]) ∧ Wh base (if okW K then K else 0) v w' ∧ Below w.heap.size w w'
set_option maxHeartbeats 1000000 in
set_option maxRecDepth 20000 in
theorem c_wholeResult (base : Nat) (K : Int) (a : Value) (hl : (dg K.natAbs).length ≤ 100000) (w : World) (ha : Wh base K a w) :
    Calls Tryz.prog 45 #[a] w (ResP base K w) := by
  obtain ⟨la, rfl, hr⟩ := ha
  obtain ⟨sl, scap, rfl, _⟩ := id hr.1
  have hb0 : Below w.heap.size w ((w.alloc (.cells #[.bool (decide (K < 0)), .slice sl (dg K.natAbs).length scap] 37)).alloc (.cells #[.bool false, .slice none 0 0] 37)) := ((Below.refl _ _).alloc (Nat.le_refl _) _).alloc (by simp) _
  have kA := (Blk.new w #[.bool (decide (K < 0)), .slice sl (dg K.natAbs).length scap] 37).alloc (.cells #[.bool false, .slice none 0 0] 37)
  have kS := Blk.new (w.alloc (.cells #[.bool (decide (K < 0)), .slice sl (dg K.natAbs).length scap] 37)) #[.bool false, .slice none 0 0] 37
  simp only [World.size_alloc] at kS
  have hR0 : Hid (RdO ((w.alloc (.cells #[.bool (decide (K < 0)), .slice sl (dg K.natAbs).length scap] 37)).alloc (.cells #[.bool false, .slice none 0 0] 37)) base (.slice sl (dg K.natAbs).length scap) (dg K.natAbs)) := ⟨hr.1.below hb0, fun hn => (hr.2 hn).below hb0⟩
  have hsz := hb0.size
  unfold ResP
  by_cases h : (dg K.natAbs).length ≤ 400
  · have hok : okW K = true := by simp [okW, h]
    rw [hok]
    have h4 : ¬ ((400 : Int) < ((dg K.natAbs).length : Int)) := by omega
    have HOK := Lib.hid hok
    clear hok
    go_enter Tryz.func45, Tryz.ntmps45
    go_upto_region 1 with (fail)
    generalize (w.alloc _).alloc _ = W at *
    have a0 : W.cell? ⟨w.heap.size, 0, none⟩ = some (.bool (decide (K < 0))) := kA.cell 0
    have a1 : W.cell? ⟨w.heap.size, 1, none⟩ = some (.slice sl (dg K.natAbs).length scap) := kA.cell 1
    have c0 : W.cell? ⟨w.heap.size + 1, 0, none⟩ = some (.bool false) := kS.cell 0
    have c1 : W.cell? ⟨w.heap.size + 1, 1, none⟩ = some (.slice none 0 0) := kS.cell 1
    have z0 := kS.frozen 0
    have z1 := kS.frozen 1
    have kSl := kS.lt
    have k9 := (kS.set 0 (.bool (decide (K < 0)))).set 1 (.slice sl (dg K.natAbs).length scap)
    have hB9 : Below w.heap.size w ((W.setCell ⟨w.heap.size + 1, 0, none⟩ (.bool (decide (K < 0)))).setCell ⟨w.heap.size + 1, 1, none⟩ (.slice sl (dg K.natAbs).length scap)) := (hb0.setCell (by simp) _).setCell (by simp) _
    have hW9 : Wh base K (.agg #[.bool (decide (K < 0)), .slice sl (dg K.natAbs).length scap]) ((W.setCell ⟨w.heap.size + 1, 0, none⟩ (.bool (decide (K < 0)))).setCell ⟨w.heap.size + 1, 1, none⟩ (.slice sl (dg K.natAbs).length scap)) := ⟨_, rfl, hr.1.below hB9, fun hn => (hr.2 hn).below hB9⟩
    go_wp2
    generalize (World.setCell (World.setCell _ _ _) _ _) = w9 at hB9 k9 hW9 ⊢
    have q0 : w9.cell? ⟨w.heap.size + 1, 0, none⟩ = some (.bool (decide (K < 0))) := k9.cell 0
    have q1 : w9.cell? ⟨w.heap.size + 1, 1, none⟩ = some (.slice sl (dg K.natAbs).length scap) := k9.cell 1
    refine bodyPost_ret (v := .tuple #[.agg #[.bool (decide (K < 0)), .slice sl (dg K.natAbs).length scap], .bool true]) (by simp [results, Tryz.results45, go_sem, q0, q1]) rfl ?_
    exact ⟨_, rfl, hW9, hB9⟩
  · have hok : okW K = false := by simp [okW]; omega
    rw [hok]
    have h4 : (400 : Int) < ((dg K.natAbs).length : Int) := by omega
    have HOK := Lib.hid hok
    clear hok
    go_enter Tryz.func45, Tryz.ntmps45
    go_upto_region 1 with (fail)
    generalize (w.alloc _).alloc _ = W at *
    have a0 : W.cell? ⟨w.heap.size, 0, none⟩ = some (.bool (decide (K < 0))) := kA.cell 0
    have a1 : W.cell? ⟨w.heap.size, 1, none⟩ = some (.slice sl (dg K.natAbs).length scap) := kA.cell 1
    have c0 : W.cell? ⟨w.heap.size + 1, 0, none⟩ = some (.bool false) := kS.cell 0
    have c1 : W.cell? ⟨w.heap.size + 1, 1, none⟩ = some (.slice none 0 0) := kS.cell 1
    have z0 := kS.frozen 0
    have z1 := kS.frozen 1
    have kSl := kS.lt
    have k9 := (kS.set 0 (.bool false)).set 1 (.slice none 0 0)
    have hB9 : Below w.heap.size w ((W.setCell ⟨w.heap.size + 1, 0, none⟩ (.bool false)).setCell ⟨w.heap.size + 1, 1, none⟩ (.slice none 0 0)) := (hb0.setCell (by simp) _).setCell (by simp) _
    go_wp2
    generalize (World.setCell (World.setCell _ _ _) _ _) = w9 at hB9 k9 ⊢
    have q0 : w9.cell? ⟨w.heap.size + 1, 0, none⟩ = some (.bool false) := k9.cell 0
    have q1 : w9.cell? ⟨w.heap.size + 1, 1, none⟩ = some (.slice none 0 0) := k9.cell 1
    refine bodyPost_ret (v := .tuple #[.agg #[.bool false, .slice none 0 0], .bool false]) (by simp [results, Tryz.results45, go_sem, q0, q1]) rfl ?_
    have hz : dg (Int.natAbs 0) = [] := dg_zero
    exact ⟨_, rfl, ⟨_, rfl, by rw [hz]; exact ⟨⟨none, 0, rfl, Nat.le_refl _, fun i hi => by simp at hi⟩, fun h => absurd rfl h⟩⟩, hB9⟩
end Go.Proofs.YtgjdgcmmlfmhmaaGreatDoor

/- BgG -/
namespace Go.Proofs.YtgjdgcmmlfmhmaaGreatDoor
open Go.RowKit

theorem inB_in {n lo hi : Int} (h : lo ≤ n ∧ n ≤ hi) : inB n lo hi = true := by simp [inB]; omega
theorem c_l1All (L : List Int) (lo hi : Int) (v : Value) (hL : ∀ x ∈ L, lo ≤ x ∧ x ≤ hi) (hl : L.length ≤ 100000) (w : World) (h : RdL w v L) :
    Calls Tryz.prog 88 #[v, .int .i64 lo, .int .i64 hi] w fun e w' => e = .returned (.bool true) ∧ w = w' := by
  obtain ⟨a, cap, rfl, _, hc⟩ := h
  have HC : Hid (∀ i, i < L.length → ∃ g o x, a = some ⟨g, o, none⟩ ∧ w.cell? ⟨g, o + i, none⟩ = some (.int .i64 x) ∧ inB x lo hi = true) := fun i hi => by
    obtain ⟨g, o, h1, h2, _⟩ := hc i hi
    refine ⟨g, o, _, h1, h2, inB_in (hL _ ?_)⟩
    rw [List.getElem?_eq_getElem hi]
    exact List.getElem_mem hi
  clear hc
  generalize L.length = n at *
  go_enter Tryz.func88, Tryz.ntmps88
  go_wp2
  go_loopw [11] (fun iv wr => ∃ i : Nat, i ≤ n ∧ iv = .int .i64 i ∧ w = wr) (fun iv _ => n - (intOf iv).toNat)
  case atStart => exact ⟨0, by omega, rfl, rfl⟩
  case round =>
    obtain ⟨i, hin, rfl, rfl⟩ := hrel
    by_cases hlt : i < n
    · obtain ⟨g, o, x, rfl, q, hx⟩ := HC.out i hlt
      have HX := Lib.hid hx
      have HQ : Hid (Calls Tryz.prog 60 #[.int .i64 x, .int .i64 lo, .int .i64 hi] w fun e w' => e = .returned (.bool true) ∧ w = w') := (c_l1In x lo hi w).mono fun e w' h => ⟨h.1.trans (by rw [hx]), h.2⟩
      clear hx HC
      go_wp2_with fail
      refine HQ.out.mono ?_
      rintro e w1 ⟨rfl, rfl⟩
      go_wp2
      go_roundw
      case rel => exact ⟨i + 1, by omega, by go_num, trivial⟩
      case measure => simp [intOf]; omega
    · obtain rfl : i = n := by omega
      go_wp2
      go_ret
      exact ⟨rfl, rfl⟩
set_option maxHeartbeats 1000000 in
set_option maxRecDepth 20000 in
theorem c_bgGood (K : Int) (a : Value) (hl : (dg K.natAbs).length ≤ 100000) (w : World) (ha : WhR K a w) :
    Calls Tryz.prog 50 #[a] w fun e w' => e = .returned (.bool (okW K)) ∧ Below w.heap.size w w' := by
  obtain ⟨la, rfl, hr⟩ := ha
  have hD := dg_Dg K.natAbs
  have hb0 : Below w.heap.size w (w.alloc (.cells #[.bool (decide (K < 0)), la] 37)) := (Below.refl _ _).alloc (Nat.le_refl _) _
  have kA := Blk.new w #[.bool (decide (K < 0)), la] 37
  have hr0 := hr.below hb0
  have HALL : Hid (∀ W, RdL W la (dg K.natAbs) → Calls Tryz.prog 88 #[la, .int .i64 0, .int .i64 9999] W fun e w' => e = .returned (.bool true) ∧ W = w') := fun W hW => c_l1All _ 0 9999 la hD.1 hl W hW
  have HR0 := Lib.hid hr0
  obtain ⟨ra, cap, rfl, _, hc⟩ := hr0
  clear hr
  by_cases h4 : (dg K.natAbs).length ≤ 400
  · have hok : okW K = true := by simp [okW, h4]
    rw [hok]
    have h4' : ((dg K.natAbs).length : Int) ≤ 400 := by omega
    have h0 : (dg K.natAbs) = [] ∨ (dg K.natAbs) ≠ [] := by by_cases h : dg K.natAbs = [] <;> simp [h]
    rcases h0 with h0 | h0
    · have hK0 : K = 0 := by have := dg_nil.1 h0; omega
      subst hK0
      have hn0 : ((dg (Int.natAbs 0)).length : Int) = 0 := by rw [h0]; rfl
      have hnn : decide ((0 : Int) < 0) = false := rfl
      rw [hnn] at hb0 kA HR0 ⊢
      have hn00 : (dg (Int.natAbs 0)).length = 0 := by omega
      rw [hn00] at HALL HR0 kA hb0 ⊢
      clear hn0 h4 h4' hl hok hD hc
      go_enter Tryz.func50, Tryz.ntmps50
      go_upto_region 1 with (fail)
      generalize w.alloc _ = W at *
      have a0 : W.cell? ⟨w.heap.size, 0, none⟩ = some (.bool false) := kA.cell 0
      have a1 : W.cell? ⟨w.heap.size, 1, none⟩ = some (.slice ra 0 cap) := kA.cell 1
      go_wp2_with fail
      refine (HALL.out W (by rw [h0]; exact HR0.out |> fun h => by rw [h0] at h; exact h)).mono ?_
      rintro e w1 ⟨rfl, rfl⟩
      go_wp2
      go_ret
      exact ⟨rfl, hb0⟩
    · have hlast : ∃ g o x, ra = some ⟨g, o, none⟩ ∧ (w.alloc (.cells #[.bool (decide (K < 0)), .slice ra (dg K.natAbs).length cap] 37)).cell? ⟨g, o + ((dg K.natAbs).length - 1), none⟩ = some (.int .i64 x) ∧ 0 < x := by
        have hpos := List.length_pos_iff.2 h0
        obtain ⟨g, o, h1, h2, _⟩ := hc ((dg K.natAbs).length - 1) (by omega)
        refine ⟨g, o, _, h1, h2, ?_⟩
        rw [List.getElem?_eq_getElem (by omega)]
        have hx := hD.2.1 h0
        rw [List.getLast_eq_getElem] at hx
        have := hD.1 _ (List.getElem_mem (show (dg K.natAbs).length - 1 < (dg K.natAbs).length by omega))
        simp only [Option.getD_some]
        omega
      obtain ⟨g, o, x, rfl, qx, hx⟩ := hlast
      have hpos : 0 < (dg K.natAbs).length := List.length_pos_iff.2 h0
      have hge : (1 : Int) ≤ ((dg K.natAbs).length : Int) := by omega
      have hgt : (0 : Int) < ((dg K.natAbs).length : Int) := by omega
      have hne : ¬ ((dg K.natAbs).length : Int) = 0 := by omega
      have HR1 := Lib.hid (HALL.out _ HR0.out)
      clear hc HR0 HALL hD hok h0
      generalize hN : (dg K.natAbs).length = N at *
      obtain ⟨j, rfl⟩ : ∃ j, N = j + 1 := ⟨N - 1, by omega⟩
      have hj : ((j + 1 : Nat) : Int) - 1 = (j : Int) := by omega
      rw [Nat.add_sub_cancel] at qx
      clear hN hl h4
      generalize decide (K < 0) = sg at *
      go_enter Tryz.func50, Tryz.ntmps50
      go_upto_region 1 with (fail)
      generalize w.alloc _ = W at *
      have a0 : W.cell? ⟨w.heap.size, 0, none⟩ = some (.bool sg) := kA.cell 0
      have a1 : W.cell? ⟨w.heap.size, 1, none⟩ = some (.slice (some ⟨g, o, none⟩) (j + 1) cap) := kA.cell 1
      go_wp2_with fail
      refine HR1.out.mono ?_
      rintro e w1 ⟨rfl, rfl⟩
      go_wp2
      go_ret
      exact ⟨rfl, hb0⟩
  · have hok : okW K = false := by simp [okW]; omega
    rw [hok]
    have h4' : ¬ ((dg K.natAbs).length : Int) ≤ 400 := by omega
    have h4'' : (400 : Int) < ((dg K.natAbs).length : Int) := by omega
    clear hc HR0 HALL hD hok hl h4
    generalize (dg K.natAbs).length = N at *
    generalize decide (K < 0) = sg at *
    go_enter Tryz.func50, Tryz.ntmps50
    go_upto_region 1 with (fail)
    generalize w.alloc _ = W at *
    have a0 : W.cell? ⟨w.heap.size, 0, none⟩ = some (.bool sg) := kA.cell 0
    have a1 : W.cell? ⟨w.heap.size, 1, none⟩ = some (.slice ra N cap) := kA.cell 1
    go_wp2
    go_ret
    exact ⟨rfl, hb0⟩
set_option maxHeartbeats 1000000 in
set_option maxRecDepth 20000 in
theorem c_bgIf (base : Nat) (K : Int) (a : Value) (hl : (dg K.natAbs).length ≤ 100000) (w : World) (ha : Wh base K a w) :
    Calls Tryz.prog 81 #[a] w (ResP base K w) := by
  obtain ⟨la, rfl, hr⟩ := ha
  have hrr := Lib.hid hr
  obtain ⟨sl, scap, rfl, _⟩ := id hr.1
  have hb0 : Below w.heap.size w ((w.alloc (.cells #[.bool (decide (K < 0)), .slice sl (dg K.natAbs).length scap] 37)).alloc (.cells #[.bool false, .slice none 0 0] 37)) := ((Below.refl _ _).alloc (Nat.le_refl _) _).alloc (by simp) _
  have kA := (Blk.new w #[.bool (decide (K < 0)), .slice sl (dg K.natAbs).length scap] 37).alloc (.cells #[.bool false, .slice none 0 0] 37)
  have kS := Blk.new (w.alloc (.cells #[.bool (decide (K < 0)), .slice sl (dg K.natAbs).length scap] 37)) #[.bool false, .slice none 0 0] 37
  simp only [World.size_alloc] at kS
  have hr1 := hr.1.below hb0
  have HG : Hid (∀ W, RdL W (.slice sl (dg K.natAbs).length scap) (dg K.natAbs) → Calls Tryz.prog 50 #[.agg #[.bool (decide (K < 0)), .slice sl (dg K.natAbs).length scap]] W fun e w' => e = .returned (.bool (okW K)) ∧ Below W.heap.size W w') := fun W h => c_bgGood K _ hl W ⟨_, rfl, h⟩
  have HR1 := Lib.hid hr1
  have hsz := hb0.size
  clear hr hr1
  go_enter Tryz.func81, Tryz.ntmps81
  go_upto_region 1 with (fail)
  generalize (w.alloc _).alloc _ = W at *
  have a0 : W.cell? ⟨w.heap.size, 0, none⟩ = some (.bool (decide (K < 0))) := kA.cell 0
  have a1 : W.cell? ⟨w.heap.size, 1, none⟩ = some (.slice sl (dg K.natAbs).length scap) := kA.cell 1
  generalize hrs : w.heap.size + 1 = rs at *
  have hrs2 : w.heap.size ≤ rs := by omega
  clear hrs
  go_wp2_with fail
  refine (HG.out W HR1.out).mono ?_
  rintro e w1 ⟨rfl, hb1⟩
  have kA1 := kA.next hb1
  have kS1 := kS.next hb1
  have hbb : Below w.heap.size w w1 := below_step hb1 hsz hb0
  clear kA kS a0 a1 HG HR1 hb1
  have c0 : w1.cell? ⟨rs, 0, none⟩ = some (.bool false) := kS1.cell 0
  have c1 : w1.cell? ⟨rs, 1, none⟩ = some (.slice none 0 0) := kS1.cell 1
  have a0 : w1.cell? ⟨w.heap.size, 0, none⟩ = some (.bool (decide (K < 0))) := kA1.cell 0
  have a1 : w1.cell? ⟨w.heap.size, 1, none⟩ = some (.slice sl (dg K.natAbs).length scap) := kA1.cell 1
  have z0 := kS1.frozen 0
  have z1 := kS1.frozen 1
  have kSl := kS1.lt
  by_cases hk : okW K = true
  · rw [hk]
    have HK := Lib.hid hk
    clear hk
    have k9 := (kS1.set 0 (.bool (decide (K < 0)))).set 1 (.slice sl (dg K.natAbs).length scap)
    have hB9 : Below w.heap.size w ((w1.setCell ⟨rs, 0, none⟩ (.bool (decide (K < 0)))).setCell ⟨rs, 1, none⟩ (.slice sl (dg K.natAbs).length scap)) := (hbb.setCell (by simpa using hrs2) _).setCell (by simpa using hrs2) _
    have hW9 : RdO ((w1.setCell ⟨rs, 0, none⟩ (.bool (decide (K < 0)))).setCell ⟨rs, 1, none⟩ (.slice sl (dg K.natAbs).length scap)) base (.slice sl (dg K.natAbs).length scap) (dg K.natAbs) := ⟨hrr.out.1.below hB9, fun hn => (hrr.out.2 hn).below hB9⟩
    go_wp2
    generalize (World.setCell (World.setCell _ _ _) _ _) = w9 at hB9 k9 hW9 ⊢
    have q0 : w9.cell? ⟨rs, 0, none⟩ = some (.bool (decide (K < 0))) := k9.cell 0
    have q1 : w9.cell? ⟨rs, 1, none⟩ = some (.slice sl (dg K.natAbs).length scap) := k9.cell 1
    refine bodyPost_ret (v := .tuple #[.agg #[.bool (decide (K < 0)), .slice sl (dg K.natAbs).length scap], .bool true]) (by simp [results, Tryz.results81, go_sem, q0, q1]) rfl ?_
    unfold ResP
    rw [HK.out]
    exact ⟨_, rfl, ⟨_, rfl, hW9⟩, hB9⟩
  · have hk' : okW K = false := by simpa using hk
    rw [hk']
    have HK := Lib.hid hk'
    clear hk hk'
    have k9 := (kS1.set 0 (.bool false)).set 1 (.slice none 0 0)
    have hB9 : Below w.heap.size w ((w1.setCell ⟨rs, 0, none⟩ (.bool false)).setCell ⟨rs, 1, none⟩ (.slice none 0 0)) := (hbb.setCell (by simpa using hrs2) _).setCell (by simpa using hrs2) _
    go_wp2
    generalize (World.setCell (World.setCell _ _ _) _ _) = w9 at hB9 k9 ⊢
    have q0 : w9.cell? ⟨rs, 0, none⟩ = some (.bool false) := k9.cell 0
    have q1 : w9.cell? ⟨rs, 1, none⟩ = some (.slice none 0 0) := k9.cell 1
    refine bodyPost_ret (v := .tuple #[.agg #[.bool false, .slice none 0 0], .bool false]) (by simp [results, Tryz.results81, go_sem, q0, q1]) rfl ?_
    have hz : dg (Int.natAbs 0) = [] := dg_zero
    unfold ResP
    rw [HK.out]
    simp only [Bool.false_eq_true, if_false]
    exact ⟨_, rfl, ⟨_, rfl, by rw [hz]; exact ⟨⟨none, 0, rfl, Nat.le_refl _, fun i hi => by simp at hi⟩, fun h => absurd rfl h⟩⟩, hB9⟩
end Go.Proofs.YtgjdgcmmlfmhmaaGreatDoor
