/- Walks: wholes compared, marked, held; the law of DivisionWhole. -/
import Derived.Test.YtmlfkceafkhlaaaDwE
import Derived.Test.YtmlfkceafkhlaaaPairI
namespace Go.Proofs.Ytmlfkceafkhlaaa
open Go.RowKit

/-- a list of limbs that was marked -/
def MkO (w : World) (base : Nat) (v : Value) (L : List Int) : Prop := (∃ (a : Option Addr) (cap : Nat), v = .slice a L.length cap) ∧ (L ≠ [] → OwnsI w base v (markI L.length))
theorem MkO.below {w w1 : World} {base : Nat} {v : Value} {L : List Int} (h : MkO w base v L) (hb : Below w.heap.size w w1) : MkO w1 base v L := ⟨h.1, fun hn => (h.2 hn).below hb⟩
theorem over_grown {w w1 : World} {v : Value} (hg : w.grownBy w1 v.ownBlock) : Over v.ownBlock.toList w w1 := by
  cases hv : v.ownBlock with
  | none => rw [hv] at hg; exact ⟨hg.os, hg.tape, hg.output, hg.size, fun k hk _ => hg.block k hk (by simp)⟩
  | some g2 => rw [hv] at hg; exact ⟨hg.os, hg.tape, hg.output, hg.size, fun k hk hn => hg.block k hk (by simpa using hn)⟩
theorem Over.ahead {ex : List Nat} {w w1 w2 : World} (hb : Below w.heap.size w w1) (h : Over ex w1 w2) : Over ex w w2 :=
  ⟨h.os.trans hb.os, h.tape.trans hb.tape, h.output.trans hb.output, Nat.le_trans hb.size h.size, fun k hk hn => (h.block k (Nat.lt_of_lt_of_le hk hb.size) hn).trans (hb.block k hk)⟩
/-- the block that marking writes -/
def exO (v : Value) (L : List Int) : List Nat := if L = [] then [] else v.ownBlock.toList
theorem exO_lt {w : World} {base : Nat} {v : Value} {L : List Int} (h : RdO w base v L) : ∀ g ∈ exO v L, base ≤ g ∧ g < w.heap.size := by
  intro g hg
  unfold exO at hg
  split at hg
  · simp at hg
  · rename_i hn
    exact (h.2 hn).lt g (by simpa using hg)
theorem c_markO (base : Nat) (v : Value) (L : List Int) (hL : L.length ≤ 100000) (w : World) (h : RdO w base v L) :
    Calls Try.prog 46 #[v, .int .i64 1] w fun e w' => e = .returned (.int .i64 (1 + L.length)) ∧ MkO w' base v L ∧ Over (exO v L) w w' := by
  by_cases hn : L = []
  · subst hn
    obtain ⟨a, cap, rfl, _⟩ := h.1
    clear h
    have hm : MkO w base (.slice a 0 cap) [] := ⟨⟨a, cap, rfl⟩, fun h => absurd rfl h⟩
    have HM := Lib.hid hm
    clear hm
    show Calls Try.prog 46 #[.slice a 0 cap, .int .i64 1] w _
    go_enter Try.func46, Try.ntmps46
    go_wp2
    go_loopw [1, 5] (fun m i wr => m = .int .i64 1 ∧ i = .int .i64 0 ∧ w = wr) (fun _ i _ => 0)
    case atStart => exact ⟨rfl, rfl, rfl⟩
    case round =>
      obtain ⟨rfl, rfl, rfl⟩ := hrel
      go_wp2
      go_ret
      exact ⟨rfl, HM.out, Over.refl _ _⟩
  · refine (c_markIntS base v L (by omega) w (h.2 hn)).mono ?_
    rintro e w' ⟨rfl, h2, h3⟩
    obtain ⟨a, cap, hv, _⟩ := h.1
    exact ⟨rfl, ⟨⟨a, cap, hv⟩, fun _ => h2⟩, by unfold exO; rw [if_neg hn]; exact over_grown h3⟩
theorem c_heldO (base : Nat) (v : Value) (L : List Int) (hL : L.length ≤ 100000) (w : World) (h : MkO w base v L) :
    Calls Try.prog 47 #[v, .int .i64 1] w fun e w' => e = .returned (.int .i64 (1 + L.length)) ∧ w = w' := by
  by_cases hn : L = []
  · subst hn
    obtain ⟨a, cap, rfl⟩ := h.1
    clear h
    show Calls Try.prog 47 #[.slice a 0 cap, .int .i64 1] w _
    go_enter Try.func47, Try.ntmps47
    go_wp2
    go_loopw [1, 5] (fun m i wr => m = .int .i64 1 ∧ i = .int .i64 0 ∧ w = wr) (fun _ i _ => 0)
    case atStart => exact ⟨rfl, rfl, rfl⟩
    case round =>
      obtain ⟨rfl, rfl, rfl⟩ := hrel
      go_wp2
      go_ret
      exact ⟨rfl, rfl⟩
  · exact c_heldIntS base v L.length (by omega) w (h.2 hn)
theorem c_markWhole (base : Nat) (s : Bool) (v : Value) (L : List Int) (hL : L.length ≤ 100000) (w : World) (h : RdO w base v L) :
    Calls Try.prog 25 #[.agg #[.bool s, v], .int .i64 1] w fun e w' => e = .returned (.int .i64 (1 + L.length)) ∧ MkO w' base v L ∧ Over (exO v L) w w' := by
  have kA := Blk.new w #[.bool s, v] 42
  have hb0 : Below w.heap.size w (w.alloc (.cells #[.bool s, v] 42)) := (Below.refl _ _).alloc (Nat.le_refl _) _
  have h0 : RdO (w.alloc (.cells #[.bool s, v] 42)) base v L := RdO.below h hb0
  have HM := Lib.hid (c_markO base v L hL _ h0)
  clear h0 h
  go_enter Try.func25, Try.ntmps25
  go_upto_region 1 with (fail)
  generalize w.alloc _ = W at *
  have a0 : W.cell? ⟨w.heap.size, 0, none⟩ = some (.bool s) := kA.cell 0
  have a1 : W.cell? ⟨w.heap.size, 1, none⟩ = some v := kA.cell 1
  go_wp2_with fail
  refine HM.out.mono ?_
  rintro e w1 ⟨rfl, hm, ho⟩
  go_wp2
  go_ret
  exact ⟨rfl, hm, ho.ahead hb0⟩
theorem c_heldWhole (base : Nat) (s : Bool) (v : Value) (L : List Int) (hL : L.length ≤ 100000) (w : World) (h : MkO w base v L) :
    Calls Try.prog 26 #[.agg #[.bool s, v], .int .i64 1] w fun e w' => e = .returned (.int .i64 (1 + L.length)) ∧ Below w.heap.size w w' := by
  have kA := Blk.new w #[.bool s, v] 42
  have hb0 : Below w.heap.size w (w.alloc (.cells #[.bool s, v] 42)) := (Below.refl _ _).alloc (Nat.le_refl _) _
  have h0 : MkO (w.alloc (.cells #[.bool s, v] 42)) base v L := MkO.below h hb0
  have HM := Lib.hid (c_heldO base v L hL _ h0)
  clear h0 h
  go_enter Try.func26, Try.ntmps26
  go_upto_region 1 with (fail)
  generalize w.alloc _ = W at *
  have a0 : W.cell? ⟨w.heap.size, 0, none⟩ = some (.bool s) := kA.cell 0
  have a1 : W.cell? ⟨w.heap.size, 1, none⟩ = some v := kA.cell 1
  go_wp2_with fail
  refine HM.out.mono ?_
  rintro e w1 ⟨rfl, rfl⟩
  go_wp2
  go_ret
  exact ⟨rfl, hb0⟩
theorem c_eqWhole (s : Bool) (v v' : Value) (L : List Int) (hL : L.length ≤ 100000) (w : World) (h : RdL w v L) (h' : RdL w v' L) :
    Calls Try.prog 24 #[.agg #[.bool s, v], .agg #[.bool s, v']] w fun e w' => e = .returned (.bool true) ∧ Below w.heap.size w w' := by
  have kA := (Blk.new w #[.bool s, v] 42).alloc (.cells #[.bool s, v'] 42)
  have kB := Blk.new (w.alloc (.cells #[.bool s, v] 42)) #[.bool s, v'] 42
  simp only [World.size_alloc] at kB
  have hb0 : Below w.heap.size w ((w.alloc (.cells #[.bool s, v] 42)).alloc (.cells #[.bool s, v'] 42)) := ((Below.refl _ _).alloc (Nat.le_refl _) _).alloc (by simp) _
  have HE := Lib.hid (c_eqIntS v v' L (by omega) _ (h.below hb0).rd (h'.below hb0).rd)
  have hsz := hb0.size
  clear h h'
  go_enter Try.func24, Try.ntmps24
  go_upto_region 1 with (fail)
  generalize (w.alloc _).alloc _ = W at *
  have a0 : W.cell? ⟨w.heap.size, 0, none⟩ = some (.bool s) := kA.cell 0
  have a1 : W.cell? ⟨w.heap.size, 1, none⟩ = some v := kA.cell 1
  have b0 : W.cell? ⟨w.heap.size + 1, 0, none⟩ = some (.bool s) := kB.cell 0
  have b1 : W.cell? ⟨w.heap.size + 1, 1, none⟩ = some v' := kB.cell 1
  go_wp2_with fail
  refine HE.out.mono ?_
  rintro e w1 ⟨rfl, hb1⟩
  go_wp2
  go_ret
  exact ⟨rfl, below_step hb1 hsz hb0⟩
set_option maxHeartbeats 4000000 in
set_option maxRecDepth 20000 in
theorem walk_FnExactDivisionWhole (A B x n : Int) (_ : (Lit.int .i64 A).wf = true) (_ : (Lit.int .i64 B).wf = true) (_ : (Lit.int .i64 x).wf = true) (_ : (Lit.int .i64 n).wf = true) (w : World) :
    Calls Try.prog 4 #[.agg #[.int .i64 A, .int .i64 B], .int .i64 x, .int .i64 n] w fun e w' => e = .returned (.bool true) ∧ Below w.heap.size w w' := by
  have HS := Lib.hid (c_sDivisionWhole A B x n)
  have HI := Lib.hid (c_iDivisionWhole A B x n)
  have hl : (dg (dwVal A B x n).natAbs).length ≤ 100000 := by
    unfold dwVal
    split
    · rename_i h
      unfold dwFine at h
      rw [Bool.and_eq_true] at h
      have h2 : (dg (dwE A B x n.toNat).natAbs).length ≤ 400 := by simpa [okW] using h.2
      omega
    · rw [show dg (Int.natAbs 0) = [] from dg_zero]; simp
  generalize dwVal A B x n = V at *
  generalize dwFine A B x n = fine at *
  have kA := Blk.new w #[.int .i64 A, .int .i64 B] 40
  have hb0 : Below w.heap.size w (w.alloc (.cells #[.int .i64 A, .int .i64 B] 40)) := (Below.refl _ _).alloc (Nat.le_refl _) _
  have hz0 := hb0.size
  go_enter Try.func4, Try.ntmps4
  go_upto_region 1 with (fail)
  generalize w.alloc _ = W0 at *
  have jA := kA
  have hB := hb0
  clear kA hb0
  have kA0 : W0.cell? ⟨w.heap.size, 0, none⟩ = some (.int .i64 A) := jA.cell 0
  have kA1 : W0.cell? ⟨w.heap.size, 1, none⟩ = some (.int .i64 B) := jA.cell 1
  have kAl := jA.lt
  go_wp2_with fail
  -- 0: world ahead, 1: world behind; jA: the argument's block; hB: Below from w
  refine (c_toCurve _ _ _).mono ?_
  rintro e w1 ⟨rfl, hb1⟩
  replace jA := jA.next hb1
  replace hB := below_step hb1 hB.size hB
  have hz1 := hB.size
  clear kA0 kA1 kAl
  go_wp2_with fail
  refine (HS.out _).mono ?_
  -- the call's result world w2, with value v2 (WhRes V fine)
  rintro e w2 ⟨v2, rfl, hw2, hb2⟩
  obtain ⟨l2, rfl, r2⟩ := hw2
  obtain ⟨s2, p2, rfl, _⟩ := id r2.1
  replace jA := jA.next hb2
  replace hB := below_step hb2 hB.size hB
  have hz2 := hB.size
  -- a new variable at the end of w2, holding value of call 2 ; world W3, block k3
  have k3 := Blk.new w2 #[.bool (decide (V < 0)), .slice s2 (dg V.natAbs).length p2] 42
  have hb3 : Below w2.heap.size w2 (w2.alloc (.cells #[.bool (decide (V < 0)), .slice s2 (dg V.natAbs).length p2] 42)) := (Below.refl _ _).alloc (Nat.le_refl _) _
  replace jA := jA.next hb3
  replace hB := below_step hb3 hB.size hB
  have hz3 := hB.size
  have hy3 := hb3.size
  have hr2 : w.heap.size ≤ w2.heap.size := hz2
  go_upto_region 2 with (fail)
  generalize w2.alloc _ = w3 at *
  have q2 : RdL w3 (.slice s2 (dg V.natAbs).length p2) (dg V.natAbs) := r2.1.below hb3
  clear r2 hb2 hb3
  generalize hs2 : w2.heap.size = r7 at *
  have hr7 : r7 < w3.heap.size := k3.lt
  clear hs2
  have kA0 : w3.cell? ⟨w.heap.size, 0, none⟩ = some (.int .i64 A) := jA.cell 0
  have kA1 : w3.cell? ⟨w.heap.size, 1, none⟩ = some (.int .i64 B) := jA.cell 1
  have kAl := jA.lt
  go_wp2_with fail
  -- 3: world ahead, 4: world behind; jA: the argument's block; hB: Below from w
  refine (c_toCurve _ _ _).mono ?_
  rintro e w4 ⟨rfl, hb4⟩
  replace jA := jA.next hb4
  replace hB := below_step hb4 hB.size hB
  have hz4 := hB.size
  clear kA0 kA1 kAl
  replace k3 := k3.next hb4
  replace q2 := q2.below hb4
  have hr74 : r7 < w4.heap.size := k3.lt
  go_wp2_with fail
  refine (HI.out _).mono ?_
  -- the call's result world w5, with value v5 (WhRes V fine)
  rintro e w5 ⟨v5, rfl, hw5, hb5⟩
  obtain ⟨l5, rfl, r5⟩ := hw5
  obtain ⟨s5, p5, rfl, _⟩ := id r5.1
  replace jA := jA.next hb5
  replace hB := below_step hb5 hB.size hB
  have hz5 := hB.size
  replace k3 := k3.next hb5
  have q5 := q2.below hb5
  -- a new variable at the end of w5, holding value of call 5 ; world W6, block k6
  have k6 := Blk.new w5 #[.bool (decide (V < 0)), .slice s5 (dg V.natAbs).length p5] 42
  have hb6 : Below w5.heap.size w5 (w5.alloc (.cells #[.bool (decide (V < 0)), .slice s5 (dg V.natAbs).length p5] 42)) := (Below.refl _ _).alloc (Nat.le_refl _) _
  replace jA := jA.next hb6
  replace hB := below_step hb6 hB.size hB
  have hz6 := hB.size
  have hy6 := hb6.size
  replace k3 := k3.next hb6
  go_upto_region 3 with (fail)
  generalize w5.alloc _ = w6 at *
  have b46 : Below w4.heap.size w4 w6 := below_step hb6 hb5.size hb5
  have q6 : RdL w6 (.slice s2 (dg V.natAbs).length p2) (dg V.natAbs) := q5.below hb6
  have o6 : RdO w6 w4.heap.size (.slice s5 (dg V.natAbs).length p5) (dg V.natAbs) := RdO.below r5 hb6
  have hr9w5 : w4.heap.size ≤ w5.heap.size := hb5.size
  have hex := exO_lt r5
  clear r5 q5 hb5
  generalize hs5 : w5.heap.size = r9 at *
  have hr9 : r9 < w6.heap.size := k6.lt
  have k30 : w6.cell? ⟨r7, 0, none⟩ = some (.bool (decide (V < 0))) := k3.cell 0
  have k31 : w6.cell? ⟨r7, 1, none⟩ = some (.slice s2 (dg V.natAbs).length p2) := k3.cell 1
  have k60 : w6.cell? ⟨r9, 0, none⟩ = some (.bool (decide (V < 0))) := k6.cell 0
  have k61 : w6.cell? ⟨r9, 1, none⟩ = some (.slice s5 (dg V.natAbs).length p5) := k6.cell 1
  clear hb6
  -- compared
  go_wp2_with fail
  refine (c_eqWhole _ _ _ _ hl _ o6.1 q6).mono ?_
  rintro e w7 ⟨rfl, hb7⟩
  replace jA := jA.next hb7
  replace k3 := k3.next hb7
  replace k6 := k6.next hb7
  replace hB := below_step hb7 hB.size hB
  have b47 := below_step hb7 b46.size b46
  have q7 := q6.below hb7
  have o7 := RdO.below o6 hb7
  have hz7 := hb7.size
  clear q6 o6 b46 hb7 k30 k31 k60 k61
  have k60 : w7.cell? ⟨r9, 0, none⟩ = some (.bool (decide (V < 0))) := k6.cell 0
  have k61 : w7.cell? ⟨r9, 1, none⟩ = some (.slice s5 (dg V.natAbs).length p5) := k6.cell 1
  -- marked
  go_wp2_with fail
  refine (c_markWhole w4.heap.size _ _ _ hl w7 o7).mono ?_
  rintro e w8 ⟨rfl, m8, ho8⟩
  have b48 : Below w4.heap.size w4 w8 := ho8.belowGe b47 b47.size (fun g hg => (hex g hg).1)
  have q8 := q2.below b48
  have hn9 : r9 ∉ exO (.slice s5 (dg V.natAbs).length p5) (dg V.natAbs) := fun hg => by
    have := (hex r9 hg).2
    omega
  have hn7 : r7 ∉ exO (.slice s5 (dg V.natAbs).length p5) (dg V.natAbs) := fun hg => by
    have := (hex r7 hg).1
    omega
  have hnA : w.heap.size ∉ exO (.slice s5 (dg V.natAbs).length p5) (dg V.natAbs) := fun hg => by
    have := (hex _ hg).1
    omega
  have hB8 : Below w.heap.size w w8 := ho8.belowGe hB hB.size (fun g hg => by have := (hex g hg).1; omega)
  replace jA := jA.over ho8 hnA
  replace k3 := k3.over ho8 hn7
  replace k6 := k6.over ho8 hn9
  clear hB q7 o7 b47 ho8 hn9 hn7 hnA k60 k61 hex
  have k60 : w8.cell? ⟨r9, 0, none⟩ = some (.bool (decide (V < 0))) := k6.cell 0
  have k61 : w8.cell? ⟨r9, 1, none⟩ = some (.slice s5 (dg V.natAbs).length p5) := k6.cell 1
  -- held
  go_wp2_with fail
  refine (c_heldWhole w4.heap.size _ _ _ hl w8 m8).mono ?_
  rintro e w9 ⟨rfl, hb9⟩
  replace jA := jA.next hb9
  replace k3 := k3.next hb9
  replace k6 := k6.next hb9
  have hB := below_step hb9 hB8.size hB8
  have q9 := q8.below hb9
  have m9 := m8.below hb9
  have hz9 := hB.size
  clear hB8 q8 m8 hb9 k60 k61 b48
  have kA0 : w9.cell? ⟨w.heap.size, 0, none⟩ = some (.int .i64 A) := jA.cell 0
  have kA1 : w9.cell? ⟨w.heap.size, 1, none⟩ = some (.int .i64 B) := jA.cell 1
  have kAl := jA.lt
  go_wp2_with fail
  -- 9: world ahead, A: world behind; jA: the argument's block; hB: Below from w
  refine (c_toCurve _ _ _).mono ?_
  rintro e wA ⟨rfl, hbA⟩
  replace jA := jA.next hbA
  replace hB := below_step hbA hB.size hB
  have hzA := hB.size
  clear kA0 kA1 kAl
  replace k3 := k3.next hbA
  replace k6 := k6.next hbA
  replace q9 := q9.below hbA
  replace m9 := m9.below hbA
  go_wp2_with fail
  refine (HI.out _).mono ?_
  -- the call's result world wB, with value vB (WhRes V fine)
  rintro e wB ⟨vB, rfl, hwB, hbB⟩
  obtain ⟨lB, rfl, rB⟩ := hwB
  obtain ⟨sB, pB, rfl, _⟩ := id rB.1
  replace jA := jA.next hbB
  replace hB := below_step hbB hB.size hB
  have hzB := hB.size
  replace k3 := k3.next hbB
  replace k6 := k6.next hbB
  replace q9 := q9.below hbB
  replace m9 := m9.below hbB
  -- a new variable at the end of wB, holding value of call B ; world WC, block kC
  have kC := Blk.new wB #[.bool (decide (V < 0)), .slice sB (dg V.natAbs).length pB] 42
  have hbC : Below wB.heap.size wB (wB.alloc (.cells #[.bool (decide (V < 0)), .slice sB (dg V.natAbs).length pB] 42)) := (Below.refl _ _).alloc (Nat.le_refl _) _
  replace jA := jA.next hbC
  replace hB := below_step hbC hB.size hB
  have hzC := hB.size
  have hyC := hbC.size
  replace k3 := k3.next hbC
  replace k6 := k6.next hbC
  replace q9 := q9.below hbC
  replace m9 := m9.below hbC
  have oC := rB.1.below hbC
  go_upto_region 14 with (fail)
  generalize wB.alloc _ = wC at *
  clear rB hbC hbB hbA
  generalize wB.heap.size = r13 at *
  have k30 : wC.cell? ⟨r7, 0, none⟩ = some (.bool (decide (V < 0))) := k3.cell 0
  have k31 : wC.cell? ⟨r7, 1, none⟩ = some (.slice s2 (dg V.natAbs).length p2) := k3.cell 1
  have kC0 : wC.cell? ⟨r13, 0, none⟩ = some (.bool (decide (V < 0))) := kC.cell 0
  have kC1 : wC.cell? ⟨r13, 1, none⟩ = some (.slice sB (dg V.natAbs).length pB) := kC.cell 1
  go_wp2_with fail
  refine (c_eqWhole _ _ _ _ hl _ oC q9).mono ?_
  rintro e wD ⟨rfl, hbD⟩
  replace k6 := k6.next hbD
  replace m9 := m9.below hbD
  replace hB := below_step hbD hB.size hB
  clear k3 kC k30 k31 kC0 kC1 oC q9 hbD jA
  have k60 : wD.cell? ⟨r9, 0, none⟩ = some (.bool (decide (V < 0))) := k6.cell 0
  have k61 : wD.cell? ⟨r9, 1, none⟩ = some (.slice s5 (dg V.natAbs).length p5) := k6.cell 1
  go_wp2_with fail
  refine (c_heldWhole w4.heap.size _ _ _ hl wD m9).mono ?_
  rintro e wE ⟨rfl, hbE⟩
  replace hB := below_step hbE hB.size hB
  clear k6 k60 k61 m9 hbE
  go_wp2
  go_ret
  exact ⟨rfl, hB⟩
end Go.Proofs.Ytmlfkceafkhlaaa
