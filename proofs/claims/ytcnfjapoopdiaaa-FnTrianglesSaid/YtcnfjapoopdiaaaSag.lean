/- Walks: the reference's products and differences of valid fractions; whether a point is one of a curve. -/
import Derived.Test.YtcnfjapoopdiaaaFrOps
import Derived.Test.YtcnfjapoopdiaaaChain
import Derived.Test.YtcnfjapoopdiaaaPt2
import Derived.Deep.Cut
namespace Go.Proofs.Ytcnfjapoopdiaaa
open Go.RowKit

theorem c_frTwo (a b c d : Int) (h1 : frOk a b = true) (h2 : frOk c d = true) (w : World) :
    Calls Try.prog 69 #[.agg #[.int .i64 a, .int .i64 b], .agg #[.int .i64 c, .int .i64 d]] w fun e w' => e = .returned (.bool true) ∧ Below w.heap.size w w' := by
  have H1 := Lib.hid (fun W => c_frGood a b W)
  have H2 := Lib.hid (fun W => c_frGood c d W)
  rw [h1] at H1
  rw [h2] at H2
  have kA := (Blk.new w #[.int .i64 a, .int .i64 b] 25).alloc (.cells #[.int .i64 c, .int .i64 d] 25)
  have kB := Blk.new (w.alloc (.cells #[.int .i64 a, .int .i64 b] 25)) #[.int .i64 c, .int .i64 d] 25
  have hb0 : Below w.heap.size w ((w.alloc (.cells #[.int .i64 a, .int .i64 b] 25)).alloc (.cells #[.int .i64 c, .int .i64 d] 25)) := ((Below.refl _ _).alloc (Nat.le_refl _) _).alloc (by simp) _
  simp only [World.size_alloc] at kB
  go_enter Try.func69, Try.ntmps69
  go_wp2_with fail
  refine (H1.out _).mono ?_
  rintro e w1 ⟨rfl, hb1⟩
  have kB1 := kB.next hb1
  have kB10 : (w1).cell? ⟨w.heap.size + 1, 0, none⟩ = some (.int .i64 c) := kB1.cell 0; have kB11 : (w1).cell? ⟨w.heap.size + 1, 1, none⟩ = some (.int .i64 d) := kB1.cell 1; have kB1l : w.heap.size + 1 < (w1).heap.size := kB1.lt
  have bb1 := below_step hb1 hb0.size hb0
  clear kA kB kB1 hb0 hb1
  go_wp2_with fail
  refine (H2.out _).mono ?_
  rintro e w2 ⟨rfl, hb2⟩
  have bb2 := below_step hb2 bb1.size bb1
  go_wp2
  go_ret
  exact ⟨rfl, bb2⟩
set_option maxHeartbeats 1000000 in
theorem c_sProductOf (a b c d : Int) (h1 : frOk a b = true) (h2 : frOk c d = true) (w : World) :
    Calls Try.prog 23 #[.agg #[.int .i64 a, .int .i64 b], .agg #[.int .i64 c, .int .i64 d]] w fun r w' => r = .returned (.tuple #[.agg #[.int .i64 (rsI (mOk (a * c) (b * d)) (mkN (a * c) (b * d))), .int .i64 (rsI (mOk (a * c) (b * d)) (mkD (a * c) (b * d)))], .bool (mOk (a * c) (b * d))]) ∧ Below w.heap.size w w' := by
  have HT := Lib.hid (fun W => c_frTwo a b c d h1 h2 W)
  have HO := Lib.hid (fun W => c_frMul a b c d h1 h2 W)
  generalize rsI (mOk (a * c) (b * d)) (mkN (a * c) (b * d)) = U at *
  generalize rsI (mOk (a * c) (b * d)) (mkD (a * c) (b * d)) = V at *
  generalize mOk (a * c) (b * d) = m at *
  have kA := ((Blk.new w #[.int .i64 a, .int .i64 b] 25).alloc (.cells #[.int .i64 c, .int .i64 d] 25)).alloc (.cells #[.int .i64 0, .int .i64 0] 25)
  have kB := (Blk.new (w.alloc (.cells #[.int .i64 a, .int .i64 b] 25)) #[.int .i64 c, .int .i64 d] 25).alloc (.cells #[.int .i64 0, .int .i64 0] 25)
  have kR := Blk.new ((w.alloc (.cells #[.int .i64 a, .int .i64 b] 25)).alloc (.cells #[.int .i64 c, .int .i64 d] 25)) #[.int .i64 0, .int .i64 0] 25
  have hb0 : Below w.heap.size w (((w.alloc (.cells #[.int .i64 a, .int .i64 b] 25)).alloc (.cells #[.int .i64 c, .int .i64 d] 25)).alloc (.cells #[.int .i64 0, .int .i64 0] 25)) := (((Below.refl _ _).alloc (Nat.le_refl _) _).alloc (by simp) _).alloc (by simp; omega) _
  simp only [World.size_alloc] at kB kR
  go_enter Try.func23, Try.ntmps23
  go_wp2_with fail
  refine (HT.out _).mono ?_
  rintro e w1 ⟨rfl, hb1⟩
  have bb1 := below_step hb1 hb0.size hb0
  replace kA := kA.next hb1
  replace kB := kB.next hb1
  replace kR := kR.next hb1
  clear hb1 hb0
  have kA0 : (w1).cell? ⟨w.heap.size, 0, none⟩ = some (.int .i64 a) := kA.cell 0; have kA1 : (w1).cell? ⟨w.heap.size, 1, none⟩ = some (.int .i64 b) := kA.cell 1; have kAl : w.heap.size < (w1).heap.size := kA.lt
  have kB0 : (w1).cell? ⟨w.heap.size + 1, 0, none⟩ = some (.int .i64 c) := kB.cell 0; have kB1 : (w1).cell? ⟨w.heap.size + 1, 1, none⟩ = some (.int .i64 d) := kB.cell 1; have kBl : w.heap.size + 1 < (w1).heap.size := kB.lt
  go_wp2_with fail
  refine (HO.out _).mono ?_
  rintro e w2 ⟨rfl, hb2⟩
  have bb2 := below_step hb2 bb1.size bb1
  replace kR := kR.next hb2
  clear kA0 kA1 kAl kB0 kB1 kBl
  have kR0 : (w2).cell? ⟨w.heap.size + 1 + 1, 0, none⟩ = some (.int .i64 0) := kR.cell 0; have kR1 : (w2).cell? ⟨w.heap.size + 1 + 1, 1, none⟩ = some (.int .i64 0) := kR.cell 1; have kRf0 : (w2).frozen? ⟨w.heap.size + 1 + 1, 0, none⟩ = false := kR.frozen 0; have kRf1 : (w2).frozen? ⟨w.heap.size + 1 + 1, 1, none⟩ = false := kR.frozen 1; have kRl : w.heap.size + 1 + 1 < (w2).heap.size := kR.lt
  have k9 := (kR.set 0 (.int .i64 U)).set 1 (.int .i64 V)
  have hB9 : Below w.heap.size w ((w2.setCell ⟨w.heap.size + 1 + 1, 0, none⟩ (.int .i64 U)).setCell ⟨w.heap.size + 1 + 1, 1, none⟩ (.int .i64 V)) := (bb2.setCell (by simp; omega) _).setCell (by simp; omega) _
  go_wp2
  generalize (World.setCell (World.setCell _ _ _) _ _) = w9 at k9 hB9 ⊢
  have q0 : w9.cell? ⟨w.heap.size + 1 + 1, 0, none⟩ = some (.int .i64 U) := k9.cell 0
  have q1 : w9.cell? ⟨w.heap.size + 1 + 1, 1, none⟩ = some (.int .i64 V) := k9.cell 1
  refine bodyPost_ret (v := .tuple #[.agg #[.int .i64 U, .int .i64 V], .bool m]) (by simp [results, Try.results23, go_sem, q0, q1]) rfl ?_
  exact ⟨rfl, hB9⟩
set_option maxHeartbeats 1000000 in
theorem c_sDifferenceOf (a b c d : Int) (h1 : frOk a b = true) (h2 : frOk c d = true) (w : World) :
    Calls Try.prog 24 #[.agg #[.int .i64 a, .int .i64 b], .agg #[.int .i64 c, .int .i64 d]] w fun r w' => r = .returned (.tuple #[.agg #[.int .i64 (rsI (mOk (a * d - c * b) (b * d)) (mkN (a * d - c * b) (b * d))), .int .i64 (rsI (mOk (a * d - c * b) (b * d)) (mkD (a * d - c * b) (b * d)))], .bool (mOk (a * d - c * b) (b * d))]) ∧ Below w.heap.size w w' := by
  have HT := Lib.hid (fun W => c_frTwo a b c d h1 h2 W)
  have HO := Lib.hid (fun W => c_frSub a b c d h1 h2 W)
  generalize rsI (mOk (a * d - c * b) (b * d)) (mkN (a * d - c * b) (b * d)) = U at *
  generalize rsI (mOk (a * d - c * b) (b * d)) (mkD (a * d - c * b) (b * d)) = V at *
  generalize mOk (a * d - c * b) (b * d) = m at *
  have kA := ((Blk.new w #[.int .i64 a, .int .i64 b] 25).alloc (.cells #[.int .i64 c, .int .i64 d] 25)).alloc (.cells #[.int .i64 0, .int .i64 0] 25)
  have kB := (Blk.new (w.alloc (.cells #[.int .i64 a, .int .i64 b] 25)) #[.int .i64 c, .int .i64 d] 25).alloc (.cells #[.int .i64 0, .int .i64 0] 25)
  have kR := Blk.new ((w.alloc (.cells #[.int .i64 a, .int .i64 b] 25)).alloc (.cells #[.int .i64 c, .int .i64 d] 25)) #[.int .i64 0, .int .i64 0] 25
  have hb0 : Below w.heap.size w (((w.alloc (.cells #[.int .i64 a, .int .i64 b] 25)).alloc (.cells #[.int .i64 c, .int .i64 d] 25)).alloc (.cells #[.int .i64 0, .int .i64 0] 25)) := (((Below.refl _ _).alloc (Nat.le_refl _) _).alloc (by simp) _).alloc (by simp; omega) _
  simp only [World.size_alloc] at kB kR
  go_enter Try.func24, Try.ntmps24
  go_wp2_with fail
  refine (HT.out _).mono ?_
  rintro e w1 ⟨rfl, hb1⟩
  have bb1 := below_step hb1 hb0.size hb0
  replace kA := kA.next hb1
  replace kB := kB.next hb1
  replace kR := kR.next hb1
  clear hb1 hb0
  have kA0 : (w1).cell? ⟨w.heap.size, 0, none⟩ = some (.int .i64 a) := kA.cell 0; have kA1 : (w1).cell? ⟨w.heap.size, 1, none⟩ = some (.int .i64 b) := kA.cell 1; have kAl : w.heap.size < (w1).heap.size := kA.lt
  have kB0 : (w1).cell? ⟨w.heap.size + 1, 0, none⟩ = some (.int .i64 c) := kB.cell 0; have kB1 : (w1).cell? ⟨w.heap.size + 1, 1, none⟩ = some (.int .i64 d) := kB.cell 1; have kBl : w.heap.size + 1 < (w1).heap.size := kB.lt
  go_wp2_with fail
  refine (HO.out _).mono ?_
  rintro e w2 ⟨rfl, hb2⟩
  have bb2 := below_step hb2 bb1.size bb1
  replace kR := kR.next hb2
  clear kA0 kA1 kAl kB0 kB1 kBl
  have kR0 : (w2).cell? ⟨w.heap.size + 1 + 1, 0, none⟩ = some (.int .i64 0) := kR.cell 0; have kR1 : (w2).cell? ⟨w.heap.size + 1 + 1, 1, none⟩ = some (.int .i64 0) := kR.cell 1; have kRf0 : (w2).frozen? ⟨w.heap.size + 1 + 1, 0, none⟩ = false := kR.frozen 0; have kRf1 : (w2).frozen? ⟨w.heap.size + 1 + 1, 1, none⟩ = false := kR.frozen 1; have kRl : w.heap.size + 1 + 1 < (w2).heap.size := kR.lt
  have k9 := (kR.set 0 (.int .i64 U)).set 1 (.int .i64 V)
  have hB9 : Below w.heap.size w ((w2.setCell ⟨w.heap.size + 1 + 1, 0, none⟩ (.int .i64 U)).setCell ⟨w.heap.size + 1 + 1, 1, none⟩ (.int .i64 V)) := (bb2.setCell (by simp; omega) _).setCell (by simp; omega) _
  go_wp2
  generalize (World.setCell (World.setCell _ _ _) _ _) = w9 at k9 hB9 ⊢
  have q0 : w9.cell? ⟨w.heap.size + 1 + 1, 0, none⟩ = some (.int .i64 U) := k9.cell 0
  have q1 : w9.cell? ⟨w.heap.size + 1 + 1, 1, none⟩ = some (.int .i64 V) := k9.cell 1
  refine bodyPost_ret (v := .tuple #[.agg #[.int .i64 U, .int .i64 V], .bool m]) (by simp [results, Try.results24, go_sem, q0, q1]) rfl ?_
  exact ⟨rfl, hB9⟩
theorem c_iIsPointOf (A B X Y E : Int) (hC : curveB A B = true) (w : World) :
    Calls Try.prog 25 #[.agg #[.int .i64 A, .int .i64 B], .agg #[.int .i64 X, .int .i64 Y, .int .i64 E]] w fun r w' => r = .returned (.bool (ptF A B X Y E)) ∧ Below w.heap.size w w' := by
  have HP := Lib.hid (fun W => c_isPoint A B X Y E hC W)
  have hb0 : Below w.heap.size w ((w.alloc (.cells #[.int .i64 A, .int .i64 B] 49)).alloc (.cells #[.int .i64 X, .int .i64 Y, .int .i64 E] 30)) := ((Below.refl _ _).alloc (Nat.le_refl _) _).alloc (by simp) _
  go_enter Try.func25, Try.ntmps25
  go_wp2_with fail
  refine (HP.out _).mono ?_
  rintro e w1 ⟨rfl, hb1⟩
  have bb1 := below_step hb1 hb0.size hb0
  go_wp2
  go_ret
  exact ⟨rfl, bb1⟩
end Go.Proofs.Ytcnfjapoopdiaaa
