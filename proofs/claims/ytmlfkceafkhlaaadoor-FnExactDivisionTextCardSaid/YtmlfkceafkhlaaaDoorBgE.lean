/- Walks: sums of wholes (addWholes, bgAdd). -/
import Derived.Test.YtmlfkceafkhlaaaDoorBgD
import Derived.Test.YtmlfkceafkhlaaaDoorChain
import Derived.BigRegion
namespace Go.Proofs.YtmlfkceafkhlaaaDoor
open Go.RowKit

/-- a whole, to be read -/
def WhR (N : Int) (v : Value) (w : World) : Prop := ∃ lv, v = .agg #[.bool (decide (N < 0)), lv] ∧ RdL w lv (dg N.natAbs)
theorem Wh.rd {base : Nat} {N : Int} {v : Value} {w : World} (h : Wh base N v w) : WhR N v w := by
  obtain ⟨lv, h1, h2⟩ := h
  exact ⟨lv, h1, h2.1⟩
theorem WhR.below {N : Int} {v : Value} {w w1 : World} (h : WhR N v w) (hb : Below w.heap.size w w1) : WhR N v w1 := by
  obtain ⟨lv, h1, h2⟩ := h
  exact ⟨lv, h1, h2.below hb⟩
def OwD (V : Int) (base : Nat) (v : Value) (w : World) : Prop := ∃ O, OwnsI w base v O ∧ Dg O ∧ vl O = V ∧ O.length ≤ 200000
theorem OwD.closed (V : Int) (base : Nat) (v : Value) : Closed (OwD V base v) := fun _ _ ⟨O, h1, h2⟩ hb => ⟨O, h1.below hb, h2⟩
theorem dg_D (n : Nat) : Dg (dg n) := (dg_Dg n).1
theorem dg_L (n : Nat) : Low (dg n) := (dg_Dg n).2.1
theorem dg_V (n : Nat) : vl (dg n) = n := (dg_Dg n).2.2
theorem tr_val {O : List Int} {V : Int} {n : Nat} (h : Dg O) (hv : vl O = V) (hn : V = n) : tr O = dg n := by
  rw [tr_dg h, hv, hn]; rfl
theorem cmpN_neg {x y : Int} : cmpN x y < 0 ↔ x < y := by unfold cmpN; split; omega; split <;> omega
theorem RdO.over {ex : List Nat} {w w' : World} {base : Nat} {v : Value} {L : List Int} (h : RdO w base v L) (ho : Over ex w w') (hx : ∀ k ∈ ex, k < base) : RdO w' base v L := by
  by_cases hn : L = []
  · subst hn
    obtain ⟨a, cap, h1, h2, _⟩ := h.1
    exact ⟨⟨a, cap, h1, h2, fun i hi => by simp at hi⟩, fun h => absurd rfl h⟩
  · have h1 := h.2 hn
    have h3 := OwnsI.over h1 ho (fun g hg hm => by have := h1.lt g hg; have := hx g hm; omega)
    exact ⟨h3.rdL, fun _ => h3⟩
theorem sg_same {M N K : Int} {s : Bool} (h1 : Hid (decide (M < 0) = s)) (h2 : Hid (decide (N < 0) = s)) (hK : M + N = K) : (s = decide (K < 0) ∨ K = 0) ∧ ((M.natAbs : Int) + 1 * N.natAbs = K.natAbs) := by
  have h1 := h1.out
  have h2 := h2.out
  cases s
  · simp at h1 h2
    refine ⟨.inl ?_, by omega⟩
    symm
    simp; omega
  · simp at h1 h2
    refine ⟨.inl ?_, by omega⟩
    symm
    simp; omega
theorem sg_diff {M N K : Int} {s t : Bool} (h1 : Hid (decide (M < 0) = s)) (h2 : Hid (decide (N < 0) = t)) (hst : s ≠ t) (hK : M + N = K) (hl : N.natAbs ≤ M.natAbs) : (s = decide (K < 0) ∨ K = 0) ∧ ((M.natAbs : Int) + -1 * N.natAbs = K.natAbs) := by
  have h1 := h1.out
  have h2 := h2.out
  refine ⟨?_, ?_⟩
  · by_cases h0 : K = 0
    · exact .inr h0
    · left
      cases s <;> cases t <;> simp at h1 h2 hst ⊢ <;> omega
  · cases s <;> cases t <;> simp at h1 h2 hst ⊢ <;> omega
theorem Wh.rdO {base : Nat} {K : Int} {b : Bool} {lv : Value} {w : World} (h : Wh base K (.agg #[.bool b, lv]) w) : RdO w base lv (dg K.natAbs) := by
  obtain ⟨l, e, h⟩ := h
  simp only [Value.agg.injEq, Array.mk.injEq, List.cons.injEq] at e
  rw [e.2.1]
  exact h
theorem Blk.other {r : Nat} {cs : Array Value} {T : TypeId} {w : World} (h : Blk r cs T w) {p : Addr} (hp : p.block ≠ r) (v : Value) : Blk r cs T (w.setCell p v) :=
  h.over ((Over.refl [p.block] w).setCell (.inr (by simp)) v) (by simp; omega)
set_option maxHeartbeats 2000000 in
set_option maxRecDepth 20000 in
theorem c_addWholes (M N : Int) (a b : Value) (hM : (dg M.natAbs).length ≤ 100000) (hN : (dg N.natAbs).length ≤ 100000) (w : World) (ha : WhR M a w) (hb : WhR N b w) :
    Calls Tryd.prog 52 #[a, b] w (WhP (M + N) w) := by
  obtain ⟨la, rfl, hra⟩ := ha
  obtain ⟨lb, rfl, hrb⟩ := hb
  obtain ⟨aa, ca, HLA⟩ : ∃ aa ca, Hid (la = .slice aa (dg M.natAbs).length ca) := by obtain ⟨aa, ca, h, _⟩ := hra; exact ⟨aa, ca, h⟩
  obtain ⟨ab, cb, HLB⟩ : ∃ ab cb, Hid (lb = .slice ab (dg N.natAbs).length cb) := by obtain ⟨aa, ca, h, _⟩ := hrb; exact ⟨aa, ca, h⟩
  have kA := ((Blk.new w #[.bool (decide (M < 0)), la] 31).alloc (.cells #[.bool (decide (N < 0)), lb] 31)).alloc (.cells #[.bool false, .slice none 0 0] 31)
  have kB := (Blk.new (w.alloc (.cells #[.bool (decide (M < 0)), la] 31)) #[.bool (decide (N < 0)), lb] 31).alloc (.cells #[.bool false, .slice none 0 0] 31)
  have kS := Blk.new ((w.alloc (.cells #[.bool (decide (M < 0)), la] 31)).alloc (.cells #[.bool (decide (N < 0)), lb] 31)) #[.bool false, .slice none 0 0] 31
  have hb0 : Below w.heap.size w (((w.alloc (.cells #[.bool (decide (M < 0)), la] 31)).alloc (.cells #[.bool (decide (N < 0)), lb] 31)).alloc (.cells #[.bool false, .slice none 0 0] 31)) := (((Below.refl _ _).alloc (Nat.le_refl _) _).alloc (by simp) _).alloc (by simp; omega) _
  simp only [World.size_alloc] at kB kS
  have HR1 := Lib.hid hra
  have HR2 := Lib.hid hrb
  generalize hsa : decide (M < 0) = sa at *
  generalize hsb : decide (N < 0) = sb at *
  have HSA := Lib.hid hsa
  have HSB := Lib.hid hsb
  clear hsa hsb
  obtain ⟨K, hK⟩ : ∃ K, M + N = K := ⟨_, rfl⟩
  rw [hK]
  have hsz := hb0.size
  go_enter Tryd.func52, Tryd.ntmps52
  go_upto_region 1 with (fail)
  generalize ((w.alloc _).alloc _).alloc _ = W at *
  generalize hrs : w.heap.size + 1 + 1 = rs at *
  have a0 : W.cell? ⟨w.heap.size, 0, none⟩ = some (.bool (sa)) := kA.cell 0
  have a1 : W.cell? ⟨w.heap.size, 1, none⟩ = some la := kA.cell 1
  have b0 : W.cell? ⟨w.heap.size + 1, 0, none⟩ = some (.bool (sb)) := kB.cell 0
  have b1 : W.cell? ⟨w.heap.size + 1, 1, none⟩ = some lb := kB.cell 1
  have kAl : w.heap.size < W.heap.size := kA.lt
  have kBl : w.heap.size + 1 < W.heap.size := kB.lt
  have kSl : rs < W.heap.size := kS.lt
  have hn1 : w.heap.size ∉ [rs] := by simp; omega
  have hn2 : w.heap.size + 1 ∉ [rs] := by simp; omega
  by_cases hs : sa = sb
  · subst hs
    go_upto_region 2 with (fail)
    -- impl.addWholes function, 2 region, c_addLimbs sum's contract, c_trimmed whole's contract, M left number, N right number, 1 sign, sa blocks' left number's sign, sg_same HSA HSB hK proof of the sign; world W, kS at rs, HR1/HR2 reads in W
    refine wp_region_cls [rs] (fun _ => false) (fun _ => True) (Blk rs #[.bool false, .slice none 0 0] 31) (by kernel_rfl) (kS) ?_
    apply wpAnyF_hd ⟨W, Over.refl _ _, kS⟩ [true, true, true, true, true, true] 3 (Blk.closed _ _ _) (fun _ _ => trivial) (by kernel_rfl) (by kernel_rfl) (by kernel_rfl) (by kernel_rfl) (by simp)
    · intro E hE hEN hEn; (repeat (first | (refine wpHL_take ?_; go_big_quiet_step (fail); refine wpQuiet_nil ?_) | refine wpHL_skip ?_)); exact wpHL_end rfl
    refine wpAnyF_ready [6] 2 (by kernel_rfl) (by kernel_rfl) (by simp) (AllF.cons ?_ AllF.nil)
    refine stepC_calle (some 16) (fun u => fun w' => Blk rs #[.bool false, .slice none 0 0] 31 w' ∧ OwD ((M).natAbs + (1) * (N).natAbs) (W).heap.size u w') (by rfl) (by rfl) (by rfl) (fun _ => by go_simp) (fun u => (Blk.closed _ _ _).and (OwD.closed _ _ _)) (fun w' hO hD => (c_addLimbs (1) (by omega) _ _ (dg (M).natAbs) (dg (N).natAbs) (by omega) (by omega) (dg_D _) (dg_D _) (by rw [dg_V, dg_V]; omega) _ (HR1.out.below0 (hO.belowGe (B := w.heap.size) hb0 hsz (by simp; omega))) (HR2.out.below0 (hO.belowGe (B := w.heap.size) hb0 hsz (by simp; omega)))).mono fun e w2 ⟨v, O, h1, h2, h3, h4, h5, h6⟩ => ⟨v, h1, .of_below h6, hD.next h6, O, h2.le hO.size, h3, by rw [h4, dg_V, dg_V], by omega⟩) (fun u hne => ?_)
    simp only [Act.put, List.setIfInBounds_toArray, List.set_cons_succ, List.set_cons_zero]
    refine wpAnyF_ready [7] 1 (by kernel_rfl) (by kernel_rfl) (by simp) (AllF.cons ?_ AllF.nil)
    refine stepC_calle (some 17) (fun u2 => fun w' => Blk rs #[.bool false, .slice none 0 0] 31 w' ∧ Wh (W).heap.size K u2 w') (by rfl) (by rfl) (by rfl) (fun _ => by go_simp) (fun u2 => (Blk.closed _ _ _).and (Wh.closed _ _ _)) (fun w' hO ⟨hD1, O, h1, h2, h3, h4⟩ => (c_trimmed (sa) _ O (by omega) _ h1.rdL).mono fun e w2 h => let ⟨v, r1, r2, r3⟩ := h.whole (N := K) (sg_same HSA HSB hK).1 (tr_val h2 h3 (sg_same HSA HSB hK).2); ⟨v, r1, .of_below r3, hD1.next r3, r2.le hO.size⟩) (fun u2 hne => ?_)
    simp only [Act.put, List.setIfInBounds_toArray, List.set_cons_succ, List.set_cons_zero]
    obtain ⟨w9, _, _, lv9, rfl, ho9⟩ := id hne; obtain ⟨sl, scap, rfl, _⟩ := id ho9.1
    refine wpAnyF_ready [8] 0 (by kernel_rfl) (by kernel_rfl) (by simp) (AllF.cons ?_ AllF.nil)
    refine stepC_store (v := .agg #[.bool (decide (K < 0)), .slice sl (dg K.natAbs).length scap]) (rs) (#[.bool false, .slice none 0 0]) (fun w' => Blk rs #[.bool (decide (K < 0)), .slice sl (dg K.natAbs).length scap] 31 w' ∧ RdO w' (W).heap.size (.slice sl (dg K.natAbs).length scap) (dg K.natAbs)) (by rfl) (by rfl) (by rfl) (by rfl) (by rfl) (by rfl) (fun _ => by go_simp) (by rfl) (by simp [Value.cells, one1]) (.inr (by simp)) (fun _ hd => hd.1) ((Blk.closed _ _ _).and (fun _ _ h hb => ⟨h.1.below hb, fun hn => (h.2 hn).below hb⟩)) (fun w1 w2 hd ho hb => ⟨hb, hd.2.rdO.over ho (by simp; omega)⟩) (fun hne => ?_)
    try simp only [Value.cells]
    refine wpAnyF_done (by kernel_rfl) (fun Wz hOz hDz => NoPanic.normal ?_) _
    try dsimp only
    have hbz : Below w.heap.size w Wz := hOz.belowGe (B := w.heap.size) hb0 hsz (by simp; omega)
    have q0 : Wz.cell? ⟨rs, 0, none⟩ = some (.bool (decide (K < 0))) := hDz.1.cell 0
    have q1 : Wz.cell? ⟨rs, 1, none⟩ = some (.slice sl (dg K.natAbs).length scap) := hDz.1.cell 1
    have hRz : RdO Wz w.heap.size (.slice sl (dg K.natAbs).length scap) (dg K.natAbs) := hDz.2.le hsz
    clear hOz hDz hne ho9
    go_wp2
    refine bodyPost_ret (v := .agg #[.bool (decide (K < 0)), .slice sl (dg K.natAbs).length scap]) (by simp [results, Tryd.results52, go_sem, q0, q1]) rfl ?_
    exact ⟨_, rfl, ⟨_, rfl, hRz⟩, hbz⟩
  · have hsd : sa ≠ sb := hs
    have hbe : (sa == sb) = false := by simp [hs]
    have HC := Lib.hid (c_compareSizes sa sb la lb (dg M.natAbs) (dg N.natAbs) (by omega) (dg_D _) (dg_D _) (dg_L _) (dg_L _) W (HR1.out.below hb0) (HR2.out.below hb0))
    rw [dg_V, dg_V] at HC
    generalize hc : cmpN (M.natAbs : Int) (N.natAbs : Int) = c at HC
    by_cases hc0 : c < 0
    · have hl : M.natAbs ≤ N.natAbs := by
        have := (cmpN_neg (x := (M.natAbs : Int)) (y := N.natAbs)).1 (by rw [hc]; exact hc0)
        omega
      have hK2 : N + M = K := by omega
      have hsd2 : sb ≠ sa := fun h => hsd h.symm
      clear hc
      go_wp2_with fail
      refine HC.out.mono ?_
      rintro e W0 ⟨rfl, hb1⟩
      have kA0 := kA.next hb1
      have kB0 := kB.next hb1
      have kS0 := kS.next hb1
      clear a0 a1 b0 b1
      have a0 : W0.cell? ⟨w.heap.size, 0, none⟩ = some (.bool sa) := kA0.cell 0
      have a1 : W0.cell? ⟨w.heap.size, 1, none⟩ = some la := kA0.cell 1
      have b0 : W0.cell? ⟨w.heap.size + 1, 0, none⟩ = some (.bool sb) := kB0.cell 0
      have b1 : W0.cell? ⟨w.heap.size + 1, 1, none⟩ = some lb := kB0.cell 1
      have fa0 := kA0.frozen 0
      have fa1 := kA0.frozen 1
      have fb0 := kB0.frozen 0
      have fb1 := kB0.frozen 1
      have hb2 : Below w.heap.size w W0 := below_step hb1 hsz hb0
      clear HC
      have hla9 := HLA.out
      have hlb9 := HLB.out
      clear HLA HLB
      subst hla9 hlb9
      have kA1 := (((kA0.set 0 (.bool sb)).set 1 (.slice ab (dg N.natAbs).length cb)).other (p := ⟨w.heap.size + 1, 0, none⟩) (by simp) (.bool sa)).other (p := ⟨w.heap.size + 1, 1, none⟩) (by simp) (.slice aa (dg M.natAbs).length ca)
      have kB1 := (((kB0.other (p := ⟨w.heap.size, 0, none⟩) (by simp) (.bool sb)).other (p := ⟨w.heap.size, 1, none⟩) (by simp) (.slice ab (dg N.natAbs).length cb)).set 0 (.bool sa)).set 1 (.slice aa (dg M.natAbs).length ca)
      have kS1 := (((kS0.other (p := ⟨w.heap.size, 0, none⟩) (by simp; omega) (.bool sb)).other (p := ⟨w.heap.size, 1, none⟩) (by simp; omega) (.slice ab (dg N.natAbs).length cb)).other (p := ⟨w.heap.size + 1, 0, none⟩) (by simp; omega) (.bool sa)).other (p := ⟨w.heap.size + 1, 1, none⟩) (by simp; omega) (.slice aa (dg M.natAbs).length ca)
      have hb3 : Below w.heap.size w ((((W0.setCell ⟨w.heap.size, 0, none⟩ (.bool sb)).setCell ⟨w.heap.size, 1, none⟩ (.slice ab (dg N.natAbs).length cb)).setCell ⟨w.heap.size + 1, 0, none⟩ (.bool sa)).setCell ⟨w.heap.size + 1, 1, none⟩ (.slice aa (dg M.natAbs).length ca)) := (((hb2.setCell (Nat.le_refl _) _).setCell (Nat.le_refl _) _).setCell (by simp) _).setCell (by simp) _
      go_upto_region 4 with (fail)
      go_upto_region 5 with (fail)
      generalize (((World.setCell _ _ _).setCell _ _).setCell _ _).setCell _ _ = W1 at *
      clear a0 a1 b0 b1 fa0 fa1 fb0 fb1
      have a0 : W1.cell? ⟨w.heap.size, 0, none⟩ = some (.bool sb) := kA1.cell 0
      have a1 : W1.cell? ⟨w.heap.size, 1, none⟩ = some (.slice ab (dg N.natAbs).length cb) := kA1.cell 1
      have b0 : W1.cell? ⟨w.heap.size + 1, 0, none⟩ = some (.bool sa) := kB1.cell 0
      have b1 : W1.cell? ⟨w.heap.size + 1, 1, none⟩ = some (.slice aa (dg M.natAbs).length ca) := kB1.cell 1
      have kA1l : w.heap.size < W1.heap.size := kA1.lt
      have kB1l : w.heap.size + 1 < W1.heap.size := kB1.lt
      have kS1l : rs < W1.heap.size := kS1.lt
      have hsz1 := hb3.size
      have HRt := HR1
      clear HR1
      have HR1 := HR2
      clear HR2
      have HR2 := HRt
      clear HRt
      -- impl.addWholes function, 5 region, c_addLimbs sum's contract, c_trimmed whole's contract, N left number, M right number, -1 sign, sb blocks' left number's sign, sg_diff HSB HSA hsd2 hK2 hl proof of the sign; world W, kS at rs, HR1/HR2 reads in W
      refine wp_region_cls [rs] (fun _ => false) (fun _ => True) (Blk rs #[.bool false, .slice none 0 0] 31) (by kernel_rfl) (kS1) ?_
      apply wpAnyF_hd ⟨W1, Over.refl _ _, kS1⟩ [true, true, true, true, true, true] 3 (Blk.closed _ _ _) (fun _ _ => trivial) (by kernel_rfl) (by kernel_rfl) (by kernel_rfl) (by kernel_rfl) (by simp)
      · intro E hE hEN hEn; (repeat (first | (refine wpHL_take ?_; go_big_quiet_step (fail); refine wpQuiet_nil ?_) | refine wpHL_skip ?_)); exact wpHL_end rfl
      refine wpAnyF_ready [6] 2 (by kernel_rfl) (by kernel_rfl) (by simp) (AllF.cons ?_ AllF.nil)
      refine stepC_calle (some 30) (fun u => fun w' => Blk rs #[.bool false, .slice none 0 0] 31 w' ∧ OwD ((N).natAbs + (-1) * (M).natAbs) (W1).heap.size u w') (by rfl) (by rfl) (by rfl) (fun _ => by go_simp) (fun u => (Blk.closed _ _ _).and (OwD.closed _ _ _)) (fun w' hO hD => (c_addLimbs (-1) (by omega) _ _ (dg (N).natAbs) (dg (M).natAbs) (by omega) (by omega) (dg_D _) (dg_D _) (by rw [dg_V, dg_V]; omega) _ (HR1.out.below0 (hO.belowGe (B := w.heap.size) hb3 hsz1 (by simp; omega))) (HR2.out.below0 (hO.belowGe (B := w.heap.size) hb3 hsz1 (by simp; omega)))).mono fun e w2 ⟨v, O, h1, h2, h3, h4, h5, h6⟩ => ⟨v, h1, .of_below h6, hD.next h6, O, h2.le hO.size, h3, by rw [h4, dg_V, dg_V], by omega⟩) (fun u hne => ?_)
      simp only [Act.put, List.setIfInBounds_toArray, List.set_cons_succ, List.set_cons_zero]
      refine wpAnyF_ready [7] 1 (by kernel_rfl) (by kernel_rfl) (by simp) (AllF.cons ?_ AllF.nil)
      refine stepC_calle (some 31) (fun u2 => fun w' => Blk rs #[.bool false, .slice none 0 0] 31 w' ∧ Wh (W1).heap.size K u2 w') (by rfl) (by rfl) (by rfl) (fun _ => by go_simp) (fun u2 => (Blk.closed _ _ _).and (Wh.closed _ _ _)) (fun w' hO ⟨hD1, O, h1, h2, h3, h4⟩ => (c_trimmed (sb) _ O (by omega) _ h1.rdL).mono fun e w2 h => let ⟨v, r1, r2, r3⟩ := h.whole (N := K) (sg_diff HSB HSA hsd2 hK2 hl).1 (tr_val h2 h3 (sg_diff HSB HSA hsd2 hK2 hl).2); ⟨v, r1, .of_below r3, hD1.next r3, r2.le hO.size⟩) (fun u2 hne => ?_)
      simp only [Act.put, List.setIfInBounds_toArray, List.set_cons_succ, List.set_cons_zero]
      obtain ⟨w9, _, _, lv9, rfl, ho9⟩ := id hne; obtain ⟨sl, scap, rfl, _⟩ := id ho9.1
      refine wpAnyF_ready [8] 0 (by kernel_rfl) (by kernel_rfl) (by simp) (AllF.cons ?_ AllF.nil)
      refine stepC_store (v := .agg #[.bool (decide (K < 0)), .slice sl (dg K.natAbs).length scap]) (rs) (#[.bool false, .slice none 0 0]) (fun w' => Blk rs #[.bool (decide (K < 0)), .slice sl (dg K.natAbs).length scap] 31 w' ∧ RdO w' (W1).heap.size (.slice sl (dg K.natAbs).length scap) (dg K.natAbs)) (by rfl) (by rfl) (by rfl) (by rfl) (by rfl) (by rfl) (fun _ => by go_simp) (by rfl) (by simp [Value.cells, one1]) (.inr (by simp)) (fun _ hd => hd.1) ((Blk.closed _ _ _).and (fun _ _ h hb => ⟨h.1.below hb, fun hn => (h.2 hn).below hb⟩)) (fun w1 w2 hd ho hb => ⟨hb, hd.2.rdO.over ho (by simp; omega)⟩) (fun hne => ?_)
      try simp only [Value.cells]
      refine wpAnyF_done (by kernel_rfl) (fun Wz hOz hDz => NoPanic.normal ?_) _
      try dsimp only
      have hbz : Below w.heap.size w Wz := hOz.belowGe (B := w.heap.size) hb3 hsz1 (by simp; omega)
      have q0 : Wz.cell? ⟨rs, 0, none⟩ = some (.bool (decide (K < 0))) := hDz.1.cell 0
      have q1 : Wz.cell? ⟨rs, 1, none⟩ = some (.slice sl (dg K.natAbs).length scap) := hDz.1.cell 1
      have hRz : RdO Wz w.heap.size (.slice sl (dg K.natAbs).length scap) (dg K.natAbs) := hDz.2.le hsz1
      clear hOz hDz hne ho9
      go_wp2
      refine bodyPost_ret (v := .agg #[.bool (decide (K < 0)), .slice sl (dg K.natAbs).length scap]) (by simp [results, Tryd.results52, go_sem, q0, q1]) rfl ?_
      exact ⟨_, rfl, ⟨_, rfl, hRz⟩, hbz⟩
    · have hl : N.natAbs ≤ M.natAbs := by
        have := mt (cmpN_neg (x := (M.natAbs : Int)) (y := N.natAbs)).2 (by rw [hc]; exact hc0)
        omega
      clear hc
      go_wp2_with fail
      refine HC.out.mono ?_
      rintro e W1 ⟨rfl, hb1⟩
      have kA1 := kA.next hb1
      have kB1 := kB.next hb1
      have kS1 := kS.next hb1
      have hb2 : Below w.heap.size w W1 := below_step hb1 hsz hb0
      have hsz1 := hb2.size
      clear a0 a1 b0 b1
      have a0 : W1.cell? ⟨w.heap.size, 0, none⟩ = some (.bool sa) := kA1.cell 0
      have a1 : W1.cell? ⟨w.heap.size, 1, none⟩ = some la := kA1.cell 1
      have b0 : W1.cell? ⟨w.heap.size + 1, 0, none⟩ = some (.bool sb) := kB1.cell 0
      have b1 : W1.cell? ⟨w.heap.size + 1, 1, none⟩ = some lb := kB1.cell 1
      have kA1l : w.heap.size < W1.heap.size := kA1.lt
      have kB1l : w.heap.size + 1 < W1.heap.size := kB1.lt
      have kS1l : rs < W1.heap.size := kS1.lt
      clear HC
      go_upto_region 5 with (fail)
      -- impl.addWholes function, 5 region, c_addLimbs sum's contract, c_trimmed whole's contract, M left number, N right number, -1 sign, sa blocks' left number's sign, sg_diff HSA HSB hsd hK hl proof of the sign; world W, kS at rs, HR1/HR2 reads in W
      refine wp_region_cls [rs] (fun _ => false) (fun _ => True) (Blk rs #[.bool false, .slice none 0 0] 31) (by kernel_rfl) (kS1) ?_
      apply wpAnyF_hd ⟨W1, Over.refl _ _, kS1⟩ [true, true, true, true, true, true] 3 (Blk.closed _ _ _) (fun _ _ => trivial) (by kernel_rfl) (by kernel_rfl) (by kernel_rfl) (by kernel_rfl) (by simp)
      · intro E hE hEN hEn; (repeat (first | (refine wpHL_take ?_; go_big_quiet_step (fail); refine wpQuiet_nil ?_) | refine wpHL_skip ?_)); exact wpHL_end rfl
      refine wpAnyF_ready [6] 2 (by kernel_rfl) (by kernel_rfl) (by simp) (AllF.cons ?_ AllF.nil)
      refine stepC_calle (some 30) (fun u => fun w' => Blk rs #[.bool false, .slice none 0 0] 31 w' ∧ OwD ((M).natAbs + (-1) * (N).natAbs) (W1).heap.size u w') (by rfl) (by rfl) (by rfl) (fun _ => by go_simp) (fun u => (Blk.closed _ _ _).and (OwD.closed _ _ _)) (fun w' hO hD => (c_addLimbs (-1) (by omega) _ _ (dg (M).natAbs) (dg (N).natAbs) (by omega) (by omega) (dg_D _) (dg_D _) (by rw [dg_V, dg_V]; omega) _ (HR1.out.below0 (hO.belowGe (B := w.heap.size) hb2 hsz1 (by simp; omega))) (HR2.out.below0 (hO.belowGe (B := w.heap.size) hb2 hsz1 (by simp; omega)))).mono fun e w2 ⟨v, O, h1, h2, h3, h4, h5, h6⟩ => ⟨v, h1, .of_below h6, hD.next h6, O, h2.le hO.size, h3, by rw [h4, dg_V, dg_V], by omega⟩) (fun u hne => ?_)
      simp only [Act.put, List.setIfInBounds_toArray, List.set_cons_succ, List.set_cons_zero]
      refine wpAnyF_ready [7] 1 (by kernel_rfl) (by kernel_rfl) (by simp) (AllF.cons ?_ AllF.nil)
      refine stepC_calle (some 31) (fun u2 => fun w' => Blk rs #[.bool false, .slice none 0 0] 31 w' ∧ Wh (W1).heap.size K u2 w') (by rfl) (by rfl) (by rfl) (fun _ => by go_simp) (fun u2 => (Blk.closed _ _ _).and (Wh.closed _ _ _)) (fun w' hO ⟨hD1, O, h1, h2, h3, h4⟩ => (c_trimmed (sa) _ O (by omega) _ h1.rdL).mono fun e w2 h => let ⟨v, r1, r2, r3⟩ := h.whole (N := K) (sg_diff HSA HSB hsd hK hl).1 (tr_val h2 h3 (sg_diff HSA HSB hsd hK hl).2); ⟨v, r1, .of_below r3, hD1.next r3, r2.le hO.size⟩) (fun u2 hne => ?_)
      simp only [Act.put, List.setIfInBounds_toArray, List.set_cons_succ, List.set_cons_zero]
      obtain ⟨w9, _, _, lv9, rfl, ho9⟩ := id hne; obtain ⟨sl, scap, rfl, _⟩ := id ho9.1
      refine wpAnyF_ready [8] 0 (by kernel_rfl) (by kernel_rfl) (by simp) (AllF.cons ?_ AllF.nil)
      refine stepC_store (v := .agg #[.bool (decide (K < 0)), .slice sl (dg K.natAbs).length scap]) (rs) (#[.bool false, .slice none 0 0]) (fun w' => Blk rs #[.bool (decide (K < 0)), .slice sl (dg K.natAbs).length scap] 31 w' ∧ RdO w' (W1).heap.size (.slice sl (dg K.natAbs).length scap) (dg K.natAbs)) (by rfl) (by rfl) (by rfl) (by rfl) (by rfl) (by rfl) (fun _ => by go_simp) (by rfl) (by simp [Value.cells, one1]) (.inr (by simp)) (fun _ hd => hd.1) ((Blk.closed _ _ _).and (fun _ _ h hb => ⟨h.1.below hb, fun hn => (h.2 hn).below hb⟩)) (fun w1 w2 hd ho hb => ⟨hb, hd.2.rdO.over ho (by simp; omega)⟩) (fun hne => ?_)
      try simp only [Value.cells]
      refine wpAnyF_done (by kernel_rfl) (fun Wz hOz hDz => NoPanic.normal ?_) _
      try dsimp only
      have hbz : Below w.heap.size w Wz := hOz.belowGe (B := w.heap.size) hb2 hsz1 (by simp; omega)
      have q0 : Wz.cell? ⟨rs, 0, none⟩ = some (.bool (decide (K < 0))) := hDz.1.cell 0
      have q1 : Wz.cell? ⟨rs, 1, none⟩ = some (.slice sl (dg K.natAbs).length scap) := hDz.1.cell 1
      have hRz : RdO Wz w.heap.size (.slice sl (dg K.natAbs).length scap) (dg K.natAbs) := hDz.2.le hsz1
      clear hOz hDz hne ho9
      go_wp2
      refine bodyPost_ret (v := .agg #[.bool (decide (K < 0)), .slice sl (dg K.natAbs).length scap]) (by simp [results, Tryd.results52, go_sem, q0, q1]) rfl ?_
      exact ⟨_, rfl, ⟨_, rfl, hRz⟩, hbz⟩
set_option maxHeartbeats 2000000 in
set_option maxRecDepth 20000 in
theorem c_bgAdd (M N : Int) (a b : Value) (hM : (dg M.natAbs).length ≤ 100000) (hN : (dg N.natAbs).length ≤ 100000) (w : World) (ha : WhR M a w) (hb : WhR N b w) :
    Calls Tryd.prog 28 #[a, b] w (WhP (M + N) w) := by
  obtain ⟨la, rfl, hra⟩ := ha
  obtain ⟨lb, rfl, hrb⟩ := hb
  have kA := ((Blk.new w #[.bool (decide (M < 0)), la] 31).alloc (.cells #[.bool (decide (N < 0)), lb] 31)).alloc (.cells #[.bool false, .slice none 0 0] 31)
  have kB := (Blk.new (w.alloc (.cells #[.bool (decide (M < 0)), la] 31)) #[.bool (decide (N < 0)), lb] 31).alloc (.cells #[.bool false, .slice none 0 0] 31)
  have kS := Blk.new ((w.alloc (.cells #[.bool (decide (M < 0)), la] 31)).alloc (.cells #[.bool (decide (N < 0)), lb] 31)) #[.bool false, .slice none 0 0] 31
  have hb0 : Below w.heap.size w (((w.alloc (.cells #[.bool (decide (M < 0)), la] 31)).alloc (.cells #[.bool (decide (N < 0)), lb] 31)).alloc (.cells #[.bool false, .slice none 0 0] 31)) := (((Below.refl _ _).alloc (Nat.le_refl _) _).alloc (by simp) _).alloc (by simp; omega) _
  simp only [World.size_alloc] at kB kS
  have HR1 := Lib.hid hra
  have HR2 := Lib.hid hrb
  generalize hsa : decide (M < 0) = sa at *
  generalize hsb : decide (N < 0) = sb at *
  have HSA := Lib.hid hsa
  have HSB := Lib.hid hsb
  clear hsa hsb
  obtain ⟨K, hK⟩ : ∃ K, M + N = K := ⟨_, rfl⟩
  rw [hK]
  have hsz := hb0.size
  go_enter Tryd.func28, Tryd.ntmps28
  go_upto_region 1 with (fail)
  generalize ((w.alloc _).alloc _).alloc _ = W at *
  generalize hrs : w.heap.size + 1 + 1 = rs at *
  have a0 : W.cell? ⟨w.heap.size, 0, none⟩ = some (.bool (sa)) := kA.cell 0
  have a1 : W.cell? ⟨w.heap.size, 1, none⟩ = some la := kA.cell 1
  have b0 : W.cell? ⟨w.heap.size + 1, 0, none⟩ = some (.bool (sb)) := kB.cell 0
  have b1 : W.cell? ⟨w.heap.size + 1, 1, none⟩ = some lb := kB.cell 1
  have kAl : w.heap.size < W.heap.size := kA.lt
  have kBl : w.heap.size + 1 < W.heap.size := kB.lt
  have kSl : rs < W.heap.size := kS.lt
  have hn1 : w.heap.size ∉ [rs] := by simp; omega
  have hn2 : w.heap.size + 1 ∉ [rs] := by simp; omega
  by_cases hs : sa = sb
  · subst hs
    go_upto_region 2 with (fail)
    -- spec.bgAdd function, 2 region, c_bgCombine sum's contract, c_bgMake whole's contract, M left number, N right number, 1 sign, sa blocks' left number's sign, sg_same HSA HSB hK proof of the sign; world W, kS at rs, HR1/HR2 reads in W
    refine wp_region_cls [rs] (fun _ => false) (fun _ => True) (Blk rs #[.bool false, .slice none 0 0] 31) (by kernel_rfl) (kS) ?_
    apply wpAnyF_hd ⟨W, Over.refl _ _, kS⟩ [true, true, true, true, true, true] 3 (Blk.closed _ _ _) (fun _ _ => trivial) (by kernel_rfl) (by kernel_rfl) (by kernel_rfl) (by kernel_rfl) (by simp)
    · intro E hE hEN hEn; (repeat (first | (refine wpHL_take ?_; go_big_quiet_step (fail); refine wpQuiet_nil ?_) | refine wpHL_skip ?_)); exact wpHL_end rfl
    refine wpAnyF_ready [6] 2 (by kernel_rfl) (by kernel_rfl) (by simp) (AllF.cons ?_ AllF.nil)
    refine stepC_calle (some 16) (fun u => fun w' => Blk rs #[.bool false, .slice none 0 0] 31 w' ∧ OwD ((M).natAbs + (1) * (N).natAbs) (W).heap.size u w') (by rfl) (by rfl) (by rfl) (fun _ => by go_simp) (fun u => (Blk.closed _ _ _).and (OwD.closed _ _ _)) (fun w' hO hD => (c_bgCombine (1) (by omega) _ _ (dg (M).natAbs) (dg (N).natAbs) (by omega) (by omega) (dg_D _) (dg_D _) (by rw [dg_V, dg_V]; omega) _ (HR1.out.below0 (hO.belowGe (B := w.heap.size) hb0 hsz (by simp; omega))) (HR2.out.below0 (hO.belowGe (B := w.heap.size) hb0 hsz (by simp; omega)))).mono fun e w2 ⟨v, O, h1, h2, h3, h4, h5, h6⟩ => ⟨v, h1, .of_below h6, hD.next h6, O, h2.le hO.size, h3, by rw [h4, dg_V, dg_V], by omega⟩) (fun u hne => ?_)
    simp only [Act.put, List.setIfInBounds_toArray, List.set_cons_succ, List.set_cons_zero]
    refine wpAnyF_ready [7] 1 (by kernel_rfl) (by kernel_rfl) (by simp) (AllF.cons ?_ AllF.nil)
    refine stepC_calle (some 17) (fun u2 => fun w' => Blk rs #[.bool false, .slice none 0 0] 31 w' ∧ Wh (W).heap.size K u2 w') (by rfl) (by rfl) (by rfl) (fun _ => by go_simp) (fun u2 => (Blk.closed _ _ _).and (Wh.closed _ _ _)) (fun w' hO ⟨hD1, O, h1, h2, h3, h4⟩ => (c_bgMake (sa) _ O (by omega) _ h1.rdL).mono fun e w2 h => let ⟨v, r1, r2, r3⟩ := h.whole (N := K) (sg_same HSA HSB hK).1 (tr_val h2 h3 (sg_same HSA HSB hK).2); ⟨v, r1, .of_below r3, hD1.next r3, r2.le hO.size⟩) (fun u2 hne => ?_)
    simp only [Act.put, List.setIfInBounds_toArray, List.set_cons_succ, List.set_cons_zero]
    obtain ⟨w9, _, _, lv9, rfl, ho9⟩ := id hne; obtain ⟨sl, scap, rfl, _⟩ := id ho9.1
    refine wpAnyF_ready [8] 0 (by kernel_rfl) (by kernel_rfl) (by simp) (AllF.cons ?_ AllF.nil)
    refine stepC_store (v := .agg #[.bool (decide (K < 0)), .slice sl (dg K.natAbs).length scap]) (rs) (#[.bool false, .slice none 0 0]) (fun w' => Blk rs #[.bool (decide (K < 0)), .slice sl (dg K.natAbs).length scap] 31 w' ∧ RdO w' (W).heap.size (.slice sl (dg K.natAbs).length scap) (dg K.natAbs)) (by rfl) (by rfl) (by rfl) (by rfl) (by rfl) (by rfl) (fun _ => by go_simp) (by rfl) (by simp [Value.cells, one1]) (.inr (by simp)) (fun _ hd => hd.1) ((Blk.closed _ _ _).and (fun _ _ h hb => ⟨h.1.below hb, fun hn => (h.2 hn).below hb⟩)) (fun w1 w2 hd ho hb => ⟨hb, hd.2.rdO.over ho (by simp; omega)⟩) (fun hne => ?_)
    try simp only [Value.cells]
    refine wpAnyF_done (by kernel_rfl) (fun Wz hOz hDz => NoPanic.normal ?_) _
    try dsimp only
    have hbz : Below w.heap.size w Wz := hOz.belowGe (B := w.heap.size) hb0 hsz (by simp; omega)
    have q0 : Wz.cell? ⟨rs, 0, none⟩ = some (.bool (decide (K < 0))) := hDz.1.cell 0
    have q1 : Wz.cell? ⟨rs, 1, none⟩ = some (.slice sl (dg K.natAbs).length scap) := hDz.1.cell 1
    have hRz : RdO Wz w.heap.size (.slice sl (dg K.natAbs).length scap) (dg K.natAbs) := hDz.2.le hsz
    clear hOz hDz hne ho9
    go_wp2
    refine bodyPost_ret (v := .agg #[.bool (decide (K < 0)), .slice sl (dg K.natAbs).length scap]) (by simp [results, Tryd.results28, go_sem, q0, q1]) rfl ?_
    exact ⟨_, rfl, ⟨_, rfl, hRz⟩, hbz⟩
  · have hsd : sa ≠ sb := hs
    have hsd2 : sb ≠ sa := fun h => hsd h.symm
    have hbe : (sa == sb) = false := by simp [hs]
    have HC := Lib.hid (c_bgOrder la lb (dg M.natAbs) (dg N.natAbs) (by omega) (by omega) (dg_D _) (dg_D _) W (HR1.out.below hb0) (HR2.out.below hb0))
    rw [dg_V, dg_V] at HC
    generalize hc : cmpN (M.natAbs : Int) (N.natAbs : Int) = c at HC
    by_cases hc0 : c < 0
    · have hl : M.natAbs ≤ N.natAbs := by
        have := (cmpN_neg (x := (M.natAbs : Int)) (y := N.natAbs)).1 (by rw [hc]; exact hc0)
        omega
      have hK2 : N + M = K := by omega
      have hc1 : ¬ (0 ≤ c) := by omega
      clear hc
      go_wp2_with fail
      refine HC.out.mono ?_
      rintro e W1 ⟨rfl, hw⟩
      rw [hw]
      clear hw HC
      go_upto_region 5 with (fail)
      have HRt := HR1
      clear HR1
      have HR1 := HR2
      clear HR2
      have HR2 := HRt
      clear HRt
      -- spec.bgAdd function, 5 region, c_bgCombine sum's contract, c_bgMake whole's contract, N left number, M right number, -1 sign, sb blocks' left number's sign, sg_diff HSB HSA hsd2 hK2 hl proof of the sign; world W, kS at rs, HR1/HR2 reads in W
      refine wp_region_cls [rs] (fun _ => false) (fun _ => True) (Blk rs #[.bool false, .slice none 0 0] 31) (by kernel_rfl) (kS) ?_
      apply wpAnyF_hd ⟨W, Over.refl _ _, kS⟩ [true, true, true, true, true, true] 3 (Blk.closed _ _ _) (fun _ _ => trivial) (by kernel_rfl) (by kernel_rfl) (by kernel_rfl) (by kernel_rfl) (by simp)
      · intro E hE hEN hEn; (repeat (first | (refine wpHL_take ?_; go_big_quiet_step (fail); refine wpQuiet_nil ?_) | refine wpHL_skip ?_)); exact wpHL_end rfl
      refine wpAnyF_ready [6] 2 (by kernel_rfl) (by kernel_rfl) (by simp) (AllF.cons ?_ AllF.nil)
      refine stepC_calle (some 38) (fun u => fun w' => Blk rs #[.bool false, .slice none 0 0] 31 w' ∧ OwD ((N).natAbs + (-1) * (M).natAbs) (W).heap.size u w') (by rfl) (by rfl) (by rfl) (fun _ => by go_simp) (fun u => (Blk.closed _ _ _).and (OwD.closed _ _ _)) (fun w' hO hD => (c_bgCombine (-1) (by omega) _ _ (dg (N).natAbs) (dg (M).natAbs) (by omega) (by omega) (dg_D _) (dg_D _) (by rw [dg_V, dg_V]; omega) _ (HR1.out.below0 (hO.belowGe (B := w.heap.size) hb0 hsz (by simp; omega))) (HR2.out.below0 (hO.belowGe (B := w.heap.size) hb0 hsz (by simp; omega)))).mono fun e w2 ⟨v, O, h1, h2, h3, h4, h5, h6⟩ => ⟨v, h1, .of_below h6, hD.next h6, O, h2.le hO.size, h3, by rw [h4, dg_V, dg_V], by omega⟩) (fun u hne => ?_)
      simp only [Act.put, List.setIfInBounds_toArray, List.set_cons_succ, List.set_cons_zero]
      refine wpAnyF_ready [7] 1 (by kernel_rfl) (by kernel_rfl) (by simp) (AllF.cons ?_ AllF.nil)
      refine stepC_calle (some 39) (fun u2 => fun w' => Blk rs #[.bool false, .slice none 0 0] 31 w' ∧ Wh (W).heap.size K u2 w') (by rfl) (by rfl) (by rfl) (fun _ => by go_simp) (fun u2 => (Blk.closed _ _ _).and (Wh.closed _ _ _)) (fun w' hO ⟨hD1, O, h1, h2, h3, h4⟩ => (c_bgMake (sb) _ O (by omega) _ h1.rdL).mono fun e w2 h => let ⟨v, r1, r2, r3⟩ := h.whole (N := K) (sg_diff HSB HSA hsd2 hK2 hl).1 (tr_val h2 h3 (sg_diff HSB HSA hsd2 hK2 hl).2); ⟨v, r1, .of_below r3, hD1.next r3, r2.le hO.size⟩) (fun u2 hne => ?_)
      simp only [Act.put, List.setIfInBounds_toArray, List.set_cons_succ, List.set_cons_zero]
      obtain ⟨w9, _, _, lv9, rfl, ho9⟩ := id hne; obtain ⟨sl, scap, rfl, _⟩ := id ho9.1
      refine wpAnyF_ready [8] 0 (by kernel_rfl) (by kernel_rfl) (by simp) (AllF.cons ?_ AllF.nil)
      refine stepC_store (v := .agg #[.bool (decide (K < 0)), .slice sl (dg K.natAbs).length scap]) (rs) (#[.bool false, .slice none 0 0]) (fun w' => Blk rs #[.bool (decide (K < 0)), .slice sl (dg K.natAbs).length scap] 31 w' ∧ RdO w' (W).heap.size (.slice sl (dg K.natAbs).length scap) (dg K.natAbs)) (by rfl) (by rfl) (by rfl) (by rfl) (by rfl) (by rfl) (fun _ => by go_simp) (by rfl) (by simp [Value.cells, one1]) (.inr (by simp)) (fun _ hd => hd.1) ((Blk.closed _ _ _).and (fun _ _ h hb => ⟨h.1.below hb, fun hn => (h.2 hn).below hb⟩)) (fun w1 w2 hd ho hb => ⟨hb, hd.2.rdO.over ho (by simp; omega)⟩) (fun hne => ?_)
      try simp only [Value.cells]
      refine wpAnyF_done (by kernel_rfl) (fun Wz hOz hDz => NoPanic.normal ?_) _
      try dsimp only
      have hbz : Below w.heap.size w Wz := hOz.belowGe (B := w.heap.size) hb0 hsz (by simp; omega)
      have q0 : Wz.cell? ⟨rs, 0, none⟩ = some (.bool (decide (K < 0))) := hDz.1.cell 0
      have q1 : Wz.cell? ⟨rs, 1, none⟩ = some (.slice sl (dg K.natAbs).length scap) := hDz.1.cell 1
      have hRz : RdO Wz w.heap.size (.slice sl (dg K.natAbs).length scap) (dg K.natAbs) := hDz.2.le hsz
      clear hOz hDz hne ho9
      go_wp2
      refine bodyPost_ret (v := .agg #[.bool (decide (K < 0)), .slice sl (dg K.natAbs).length scap]) (by simp [results, Tryd.results28, go_sem, q0, q1]) rfl ?_
      exact ⟨_, rfl, ⟨_, rfl, hRz⟩, hbz⟩
    · have hl : N.natAbs ≤ M.natAbs := by
        have := mt (cmpN_neg (x := (M.natAbs : Int)) (y := N.natAbs)).2 (by rw [hc]; exact hc0)
        omega
      have hc1 : 0 ≤ c := by omega
      clear hc
      go_wp2_with fail
      refine HC.out.mono ?_
      rintro e W1 ⟨rfl, hw⟩
      rw [hw]
      clear hw HC
      go_upto_region 4 with (fail)
      -- spec.bgAdd function, 4 region, c_bgCombine sum's contract, c_bgMake whole's contract, M left number, N right number, -1 sign, sa blocks' left number's sign, sg_diff HSA HSB hsd hK hl proof of the sign; world W, kS at rs, HR1/HR2 reads in W
      refine wp_region_cls [rs] (fun _ => false) (fun _ => True) (Blk rs #[.bool false, .slice none 0 0] 31) (by kernel_rfl) (kS) ?_
      apply wpAnyF_hd ⟨W, Over.refl _ _, kS⟩ [true, true, true, true, true, true] 3 (Blk.closed _ _ _) (fun _ _ => trivial) (by kernel_rfl) (by kernel_rfl) (by kernel_rfl) (by kernel_rfl) (by simp)
      · intro E hE hEN hEn; (repeat (first | (refine wpHL_take ?_; go_big_quiet_step (fail); refine wpQuiet_nil ?_) | refine wpHL_skip ?_)); exact wpHL_end rfl
      refine wpAnyF_ready [6] 2 (by kernel_rfl) (by kernel_rfl) (by simp) (AllF.cons ?_ AllF.nil)
      refine stepC_calle (some 30) (fun u => fun w' => Blk rs #[.bool false, .slice none 0 0] 31 w' ∧ OwD ((M).natAbs + (-1) * (N).natAbs) (W).heap.size u w') (by rfl) (by rfl) (by rfl) (fun _ => by go_simp) (fun u => (Blk.closed _ _ _).and (OwD.closed _ _ _)) (fun w' hO hD => (c_bgCombine (-1) (by omega) _ _ (dg (M).natAbs) (dg (N).natAbs) (by omega) (by omega) (dg_D _) (dg_D _) (by rw [dg_V, dg_V]; omega) _ (HR1.out.below0 (hO.belowGe (B := w.heap.size) hb0 hsz (by simp; omega))) (HR2.out.below0 (hO.belowGe (B := w.heap.size) hb0 hsz (by simp; omega)))).mono fun e w2 ⟨v, O, h1, h2, h3, h4, h5, h6⟩ => ⟨v, h1, .of_below h6, hD.next h6, O, h2.le hO.size, h3, by rw [h4, dg_V, dg_V], by omega⟩) (fun u hne => ?_)
      simp only [Act.put, List.setIfInBounds_toArray, List.set_cons_succ, List.set_cons_zero]
      refine wpAnyF_ready [7] 1 (by kernel_rfl) (by kernel_rfl) (by simp) (AllF.cons ?_ AllF.nil)
      refine stepC_calle (some 31) (fun u2 => fun w' => Blk rs #[.bool false, .slice none 0 0] 31 w' ∧ Wh (W).heap.size K u2 w') (by rfl) (by rfl) (by rfl) (fun _ => by go_simp) (fun u2 => (Blk.closed _ _ _).and (Wh.closed _ _ _)) (fun w' hO ⟨hD1, O, h1, h2, h3, h4⟩ => (c_bgMake (sa) _ O (by omega) _ h1.rdL).mono fun e w2 h => let ⟨v, r1, r2, r3⟩ := h.whole (N := K) (sg_diff HSA HSB hsd hK hl).1 (tr_val h2 h3 (sg_diff HSA HSB hsd hK hl).2); ⟨v, r1, .of_below r3, hD1.next r3, r2.le hO.size⟩) (fun u2 hne => ?_)
      simp only [Act.put, List.setIfInBounds_toArray, List.set_cons_succ, List.set_cons_zero]
      obtain ⟨w9, _, _, lv9, rfl, ho9⟩ := id hne; obtain ⟨sl, scap, rfl, _⟩ := id ho9.1
      refine wpAnyF_ready [8] 0 (by kernel_rfl) (by kernel_rfl) (by simp) (AllF.cons ?_ AllF.nil)
      refine stepC_store (v := .agg #[.bool (decide (K < 0)), .slice sl (dg K.natAbs).length scap]) (rs) (#[.bool false, .slice none 0 0]) (fun w' => Blk rs #[.bool (decide (K < 0)), .slice sl (dg K.natAbs).length scap] 31 w' ∧ RdO w' (W).heap.size (.slice sl (dg K.natAbs).length scap) (dg K.natAbs)) (by rfl) (by rfl) (by rfl) (by rfl) (by rfl) (by rfl) (fun _ => by go_simp) (by rfl) (by simp [Value.cells, one1]) (.inr (by simp)) (fun _ hd => hd.1) ((Blk.closed _ _ _).and (fun _ _ h hb => ⟨h.1.below hb, fun hn => (h.2 hn).below hb⟩)) (fun w1 w2 hd ho hb => ⟨hb, hd.2.rdO.over ho (by simp; omega)⟩) (fun hne => ?_)
      try simp only [Value.cells]
      refine wpAnyF_done (by kernel_rfl) (fun Wz hOz hDz => NoPanic.normal ?_) _
      try dsimp only
      have hbz : Below w.heap.size w Wz := hOz.belowGe (B := w.heap.size) hb0 hsz (by simp; omega)
      have q0 : Wz.cell? ⟨rs, 0, none⟩ = some (.bool (decide (K < 0))) := hDz.1.cell 0
      have q1 : Wz.cell? ⟨rs, 1, none⟩ = some (.slice sl (dg K.natAbs).length scap) := hDz.1.cell 1
      have hRz : RdO Wz w.heap.size (.slice sl (dg K.natAbs).length scap) (dg K.natAbs) := hDz.2.le hsz
      clear hOz hDz hne ho9
      go_wp2
      refine bodyPost_ret (v := .agg #[.bool (decide (K < 0)), .slice sl (dg K.natAbs).length scap]) (by simp [results, Tryd.results28, go_sem, q0, q1]) rfl ?_
      exact ⟨_, rfl, ⟨_, rfl, hRz⟩, hbz⟩
end Go.Proofs.YtmlfkceafkhlaaaDoor
