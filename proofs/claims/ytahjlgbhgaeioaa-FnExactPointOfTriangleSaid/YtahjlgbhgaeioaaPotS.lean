/- Walks: the point of a triangle, the reference's own. -/
import Derived.Test.YtahjlgbhgaeioaaPotD
import Derived.Test.YtahjlgbhgaeioaaPtS
import Derived.Test.YtahjlgbhgaeioaaRoot
import Derived.Deep.Cut
namespace Go.Proofs.Ytahjlgbhgaeioaa
open Go.RowKit

set_option maxHeartbeats 4000000 in
set_option maxRecDepth 100000 in
theorem c_sPotNo (n p q r s t u a b c : Int) (h : vlB n p q r s t u = false) (w : World) :
    Calls Try.prog 4 #[.int .i64 n, .agg #[.int .i64 p, .int .i64 q, .int .i64 r, .int .i64 s, .int .i64 t, .int .i64 u]] w (potP w a b c false) := by
  have HV : Hid (∀ w, _) := fun w => c_cnValid n p q r s t u w
  rw [h] at HV
  clear h
  have kT := (Blk.new w #[.int .i64 p, .int .i64 q, .int .i64 r, .int .i64 s, .int .i64 t, .int .i64 u] 32).alloc (.cells #[.int .i64 0, .int .i64 0, .int .i64 0] 27)
  have kP := Blk.new (w.alloc (.cells #[.int .i64 p, .int .i64 q, .int .i64 r, .int .i64 s, .int .i64 t, .int .i64 u] 32)) #[.int .i64 0, .int .i64 0, .int .i64 0] 27
  simp only [World.size_alloc] at kP
  have hB : Below w.heap.size w ((w.alloc (.cells #[.int .i64 p, .int .i64 q, .int .i64 r, .int .i64 s, .int .i64 t, .int .i64 u] 32)).alloc (.cells #[.int .i64 0, .int .i64 0, .int .i64 0] 27)) := by (repeat' (first | (with_reducible exact Below.refl _ _) | (with_reducible refine below_step (by assumption) ?_ ?_) | (with_reducible refine Below.alloc ?_ ?_ _) | (with_reducible refine Below.setCell ?_ ?_ _) | (with_reducible refine below_drewN ?_ _) | (with_reducible refine Below.drew ?_) | omega | (simp; omega) | (simp; done)))
  have hs := hB.size
  go_enter Try.func4, Try.ntmps4
  go_wp2_with fail
  generalize ((w.alloc (.cells #[.int .i64 p, .int .i64 q, .int .i64 r, .int .i64 s, .int .i64 t, .int .i64 u] 32)).alloc (.cells #[.int .i64 0, .int .i64 0, .int .i64 0] 27)) = W at *
  have kT0 : (W).cell? ⟨w.heap.size, 0, none⟩ = some (.int .i64 p) := kT.cell 0; have kT1 : (W).cell? ⟨w.heap.size, 1, none⟩ = some (.int .i64 q) := kT.cell 1; have kT2 : (W).cell? ⟨w.heap.size, 2, none⟩ = some (.int .i64 r) := kT.cell 2; have kT3 : (W).cell? ⟨w.heap.size, 3, none⟩ = some (.int .i64 s) := kT.cell 3; have kT4 : (W).cell? ⟨w.heap.size, 4, none⟩ = some (.int .i64 t) := kT.cell 4; have kT5 : (W).cell? ⟨w.heap.size, 5, none⟩ = some (.int .i64 u) := kT.cell 5; have kTl : w.heap.size < (W).heap.size := kT.lt
  go_wp2_with fail
  refine (HV.out _).mono ?_
  rintro e u1 ⟨rfl, hb1⟩
  clear kT0 kT1 kT2 kT3 kT4 kT5 kTl
  replace kT := kT.next hb1
  replace kP := kP.next hb1
  replace hB := below_step hb1 hs hB
  replace hs := hB.size
  clear hb1
  have kP0 : (u1).cell? ⟨w.heap.size + 1, 0, none⟩ = some (.int .i64 0) := kP.cell 0; have kP1 : (u1).cell? ⟨w.heap.size + 1, 1, none⟩ = some (.int .i64 0) := kP.cell 1; have kP2 : (u1).cell? ⟨w.heap.size + 1, 2, none⟩ = some (.int .i64 0) := kP.cell 2; have kPf0 : (u1).frozen? ⟨w.heap.size + 1, 0, none⟩ = false := kP.frozen 0; have kPf1 : (u1).frozen? ⟨w.heap.size + 1, 1, none⟩ = false := kP.frozen 1; have kPf2 : (u1).frozen? ⟨w.heap.size + 1, 2, none⟩ = false := kP.frozen 2; have kPl : w.heap.size + 1 < (u1).heap.size := kP.lt
  go_wp2
  have R := (((kP.set 0 (.int .i64 0)).set 1 (.int .i64 0)).set 2 (.int .i64 0))
  have hR : Below w.heap.size w (((u1.setCell ⟨w.heap.size + 1, 0, none⟩ (.int .i64 0)).setCell ⟨w.heap.size + 1, 1, none⟩ (.int .i64 0)).setCell ⟨w.heap.size + 1, 2, none⟩ (.int .i64 0)) := by (repeat' (first | (with_reducible exact Below.refl _ _) | (with_reducible refine below_step (by assumption) ?_ ?_) | (with_reducible refine Below.alloc ?_ ?_ _) | (with_reducible refine Below.setCell ?_ ?_ _) | (with_reducible refine below_drewN ?_ _) | (with_reducible refine Below.drew ?_) | omega | (simp; omega) | (simp; done)))
  simp only [List.setIfInBounds_toArray, List.set_cons_zero, List.set_cons_succ] at R
  clear kP kP0 kP1 kP2 kPf0 kPf1 kPf2 kPl
  generalize (((u1.setCell ⟨w.heap.size + 1, 0, none⟩ (.int .i64 0)).setCell ⟨w.heap.size + 1, 1, none⟩ (.int .i64 0)).setCell ⟨w.heap.size + 1, 2, none⟩ (.int .i64 0)) = W9 at R hR ⊢
  have R0 : (W9).cell? ⟨w.heap.size + 1, 0, none⟩ = some (.int .i64 0) := R.cell 0; have R1 : (W9).cell? ⟨w.heap.size + 1, 1, none⟩ = some (.int .i64 0) := R.cell 1; have R2 : (W9).cell? ⟨w.heap.size + 1, 2, none⟩ = some (.int .i64 0) := R.cell 2; have Rl : w.heap.size + 1 < (W9).heap.size := R.lt
  refine bodyPost_ret (v := .tuple #[.agg #[.int .i64 0, .int .i64 0, .int .i64 0], .bool false]) (by simp [results, Try.results4, go_sem, R0, R1, R2]) rfl ?_
  exact potP_no rfl hR
set_option maxHeartbeats 4000000 in
set_option maxRecDepth 100000 in
theorem c_sPotMain (n p q r s t u a1 b1 a2 b2 a3 b3 a4 b4 a5 b5 a6 b6 e : Int) (m1 m2 m3 m4 m5 m6 : Bool) (hv : vlB n p q r s t u = true) (hn : 1 ≤ n ∧ n ≤ 31) (he : 0 ≤ e ∧ e ≤ 40000)
    (H1 : Hid (∀ w : World, Calls Try.prog 9 #[.agg #[.int .i64 p, .int .i64 q], .agg #[.int .i64 t, .int .i64 u]] w fun x w' => x = .returned (.tuple #[.agg #[.int .i64 a1, .int .i64 b1], .bool m1]) ∧ Below w.heap.size w w'))
    (H2 : Hid (∀ w : World, Calls Try.prog 10 #[.agg #[.int .i64 r, .int .i64 s], .agg #[.int .i64 r, .int .i64 s]] w fun x w' => x = .returned (.tuple #[.agg #[.int .i64 a2, .int .i64 b2], .bool m2]) ∧ Below w.heap.size w w'))
    (H3 : m1 = true → Hid (∀ w : World, Calls Try.prog 10 #[.agg #[.int .i64 n, .int .i64 1], .agg #[.int .i64 a1, .int .i64 b1]] w fun x w' => x = .returned (.tuple #[.agg #[.int .i64 a3, .int .i64 b3], .bool m3]) ∧ Below w.heap.size w w'))
    (H4 : m1 = true → Hid (∀ w : World, Calls Try.prog 10 #[.agg #[.int .i64 (2 * n * n), .int .i64 1], .agg #[.int .i64 a1, .int .i64 b1]] w fun x w' => x = .returned (.tuple #[.agg #[.int .i64 a4, .int .i64 b4], .bool m4]) ∧ Below w.heap.size w w'))
    (H5 : m3 = true → Hid (∀ w : World, Calls Try.prog 12 #[.agg #[.int .i64 a3, .int .i64 b3], .agg #[.int .i64 r, .int .i64 s]] w fun x w' => x = .returned (.tuple #[.agg #[.int .i64 a5, .int .i64 b5], .bool m5]) ∧ Below w.heap.size w w'))
    (H6 : m2 = true → m4 = true → Hid (∀ w : World, Calls Try.prog 12 #[.agg #[.int .i64 a4, .int .i64 b4], .agg #[.int .i64 a2, .int .i64 b2]] w fun x w' => x = .returned (.tuple #[.agg #[.int .i64 a6, .int .i64 b6], .bool m6]) ∧ Below w.heap.size w w'))
    (HR : m5 = true → Hid (∀ w : World, Calls Try.prog 13 #[.int .i64 b5] w fun x w' => x = .returned (.int .i64 e) ∧ Below w.heap.size w w')) (w : World) :
    Calls Try.prog 4 #[.int .i64 n, .agg #[.int .i64 p, .int .i64 q, .int .i64 r, .int .i64 s, .int .i64 t, .int .i64 u]] w (potP w a5 a6 e (m1 && m2 && m3 && m4 && m5 && m6 && ((e * e == b5) && inB e 1 20 && (e * e * e == b6) && ptF (congA n) 0 a5 a6 e))) := by
  have HV : Hid (∀ w, _) := fun w => c_cnValid n p q r s t u w
  rw [hv] at HV
  have hq := congA_bd hn.1 hn.2
  have HC : Hid (∀ w, _) := fun w => c_cnCurve n hn.1 hn.2 w
  have HP : Hid (∀ w, _) := fun w => c_ptOn (congA n) 0 a5 a6 e (by unfold congA; omega) (by omega) w
  have HI := Lib.hid (fun k w => c_frInt k w)
  have HL := Lib.hid (fun k w => c_l1In k 1 20 w)
  have hnn : 1 ≤ n * n ∧ n * n ≤ 961 := ⟨by have := Int.mul_le_mul hn.1 hn.1 (by omega) (by omega); omega, by have := Int.mul_le_mul hn.2 hn.2 (by omega) (by omega); omega⟩
  have hm : 2 * n * n = 2 * (n * n) := Int.mul_assoc 2 n n
  have hw2 : IntKind.i64.wrap (2 * n) = 2 * n := IntWalk.i64_in _ (by omega)
  have hw3 : IntKind.i64.wrap (2 * n * n) = 2 * n * n := IntWalk.i64_in _ (by omega)
  have hee : 0 ≤ e * e ∧ e * e ≤ 1600000000 := ⟨Int.mul_nonneg he.1 he.1, by have := Int.mul_le_mul he.2 he.2 he.1 (by omega); omega⟩
  have he3 : 0 ≤ e * e * e ∧ e * e * e ≤ 64000000000000 := ⟨Int.mul_nonneg hee.1 he.1, by have := Int.mul_le_mul hee.2 he.2 he.1 (by omega); omega⟩
  have hwe : IntKind.i64.wrap (e * e) = e * e := IntWalk.i64_in _ (by omega)
  have hwf : IntKind.i64.wrap (e * e * e) = e * e * e := IntWalk.i64_in _ (by omega)
  clear hv hq hm hnn hee he3 he hn
  generalize congA n = A at *
  obtain ⟨o, ho⟩ : ∃ o, (m1 && m2 && m3 && m4 && m5 && m6 && ((e * e == b5) && inB e 1 20 && (e * e * e == b6) && ptF A 0 a5 a6 e)) = o := ⟨_, rfl⟩
  rw [ho]
  have HO := Lib.hid ho
  clear ho
  have J3 := Lib.hid H3
  have J4 := Lib.hid H4
  have J5 := Lib.hid H5
  have J6 := Lib.hid H6
  have JR := Lib.hid HR
  clear H3 H4 H5 H6 HR
  have kT := (Blk.new w #[.int .i64 p, .int .i64 q, .int .i64 r, .int .i64 s, .int .i64 t, .int .i64 u] 32).alloc (.cells #[.int .i64 0, .int .i64 0, .int .i64 0] 27)
  have kP := Blk.new (w.alloc (.cells #[.int .i64 p, .int .i64 q, .int .i64 r, .int .i64 s, .int .i64 t, .int .i64 u] 32)) #[.int .i64 0, .int .i64 0, .int .i64 0] 27
  simp only [World.size_alloc] at kP
  have hB : Below w.heap.size w ((w.alloc (.cells #[.int .i64 p, .int .i64 q, .int .i64 r, .int .i64 s, .int .i64 t, .int .i64 u] 32)).alloc (.cells #[.int .i64 0, .int .i64 0, .int .i64 0] 27)) := by (repeat' (first | (with_reducible exact Below.refl _ _) | (with_reducible refine below_step (by assumption) ?_ ?_) | (with_reducible refine Below.alloc ?_ ?_ _) | (with_reducible refine Below.setCell ?_ ?_ _) | (with_reducible refine below_drewN ?_ _) | (with_reducible refine Below.drew ?_) | omega | (simp; omega) | (simp; done)))
  have hs := hB.size
  go_enter Try.func4, Try.ntmps4
  go_wp2_with fail
  generalize ((w.alloc (.cells #[.int .i64 p, .int .i64 q, .int .i64 r, .int .i64 s, .int .i64 t, .int .i64 u] 32)).alloc (.cells #[.int .i64 0, .int .i64 0, .int .i64 0] 27)) = W at *
  have kT0 : (W).cell? ⟨w.heap.size, 0, none⟩ = some (.int .i64 p) := kT.cell 0; have kT1 : (W).cell? ⟨w.heap.size, 1, none⟩ = some (.int .i64 q) := kT.cell 1; have kT2 : (W).cell? ⟨w.heap.size, 2, none⟩ = some (.int .i64 r) := kT.cell 2; have kT3 : (W).cell? ⟨w.heap.size, 3, none⟩ = some (.int .i64 s) := kT.cell 3; have kT4 : (W).cell? ⟨w.heap.size, 4, none⟩ = some (.int .i64 t) := kT.cell 4; have kT5 : (W).cell? ⟨w.heap.size, 5, none⟩ = some (.int .i64 u) := kT.cell 5; have kTl : w.heap.size < (W).heap.size := kT.lt
  go_wp2_with fail
  refine (HV.out _).mono ?_
  rintro e u1 ⟨rfl, hb1⟩
  clear kT0 kT1 kT2 kT3 kT4 kT5 kTl
  replace kT := kT.next hb1
  replace kP := kP.next hb1
  replace hB := below_step hb1 hs hB
  replace hs := hB.size
  clear hb1
  have kT0 : (u1).cell? ⟨w.heap.size, 0, none⟩ = some (.int .i64 p) := kT.cell 0; have kT1 : (u1).cell? ⟨w.heap.size, 1, none⟩ = some (.int .i64 q) := kT.cell 1; have kT2 : (u1).cell? ⟨w.heap.size, 2, none⟩ = some (.int .i64 r) := kT.cell 2; have kT3 : (u1).cell? ⟨w.heap.size, 3, none⟩ = some (.int .i64 s) := kT.cell 3; have kT4 : (u1).cell? ⟨w.heap.size, 4, none⟩ = some (.int .i64 t) := kT.cell 4; have kT5 : (u1).cell? ⟨w.heap.size, 5, none⟩ = some (.int .i64 u) := kT.cell 5; have kTl : w.heap.size < (u1).heap.size := kT.lt
  go_wp2_with fail
  refine (H1.out _).mono ?_
  rintro e' v3 ⟨rfl, hb⟩
  clear kT0 kT1 kT2 kT3 kT4 kT5 kTl
  replace kT := kT.next hb
  replace kP := kP.next hb
  replace hB := below_step hb hs hB
  replace hs := hB.size
  clear hb
  replace kT := kT.alloc (.cells #[.int .i64 a1, .int .i64 b1] 30)
  replace kP := kP.alloc (.cells #[.int .i64 a1, .int .i64 b1] 30)
  have k6 := Blk.new v3 #[.int .i64 a1, .int .i64 b1] 30
  replace hB := hB.alloc hs (.cells #[.int .i64 a1, .int .i64 b1] 30)
  replace hs := hB.size
  go_upto_region 4 with (fail)
  generalize v3.alloc _ = W3 at *
  generalize v3.heap.size = r6 at *
  have kT0 : (W3).cell? ⟨w.heap.size, 0, none⟩ = some (.int .i64 p) := kT.cell 0; have kT1 : (W3).cell? ⟨w.heap.size, 1, none⟩ = some (.int .i64 q) := kT.cell 1; have kT2 : (W3).cell? ⟨w.heap.size, 2, none⟩ = some (.int .i64 r) := kT.cell 2; have kT3 : (W3).cell? ⟨w.heap.size, 3, none⟩ = some (.int .i64 s) := kT.cell 3; have kT4 : (W3).cell? ⟨w.heap.size, 4, none⟩ = some (.int .i64 t) := kT.cell 4; have kT5 : (W3).cell? ⟨w.heap.size, 5, none⟩ = some (.int .i64 u) := kT.cell 5; have kTl : w.heap.size < (W3).heap.size := kT.lt
  go_wp2_with fail
  refine (H2.out _).mono ?_
  rintro e' v4 ⟨rfl, hb⟩
  clear kT0 kT1 kT2 kT3 kT4 kT5 kTl
  replace kT := kT.next hb
  replace kP := kP.next hb
  replace k6 := k6.next hb
  replace hB := below_step hb hs hB
  replace hs := hB.size
  clear hb
  replace kT := kT.alloc (.cells #[.int .i64 a2, .int .i64 b2] 30)
  replace kP := kP.alloc (.cells #[.int .i64 a2, .int .i64 b2] 30)
  replace k6 := k6.alloc (.cells #[.int .i64 a2, .int .i64 b2] 30)
  have k8 := Blk.new v4 #[.int .i64 a2, .int .i64 b2] 30
  replace hB := hB.alloc hs (.cells #[.int .i64 a2, .int .i64 b2] 30)
  replace hs := hB.size
  go_upto_region 5 with (fail)
  generalize v4.alloc _ = W4 at *
  generalize v4.heap.size = r8 at *
  cases m1
  · replace HO := Lib.hid (show false = o by simpa using HO.out)
    have kP0 : (W4).cell? ⟨w.heap.size + 1, 0, none⟩ = some (.int .i64 0) := kP.cell 0; have kP1 : (W4).cell? ⟨w.heap.size + 1, 1, none⟩ = some (.int .i64 0) := kP.cell 1; have kP2 : (W4).cell? ⟨w.heap.size + 1, 2, none⟩ = some (.int .i64 0) := kP.cell 2; have kPf0 : (W4).frozen? ⟨w.heap.size + 1, 0, none⟩ = false := kP.frozen 0; have kPf1 : (W4).frozen? ⟨w.heap.size + 1, 1, none⟩ = false := kP.frozen 1; have kPf2 : (W4).frozen? ⟨w.heap.size + 1, 2, none⟩ = false := kP.frozen 2; have kPl : w.heap.size + 1 < (W4).heap.size := kP.lt
    go_wp2
    have R := (((kP.set 0 (.int .i64 0)).set 1 (.int .i64 0)).set 2 (.int .i64 0))
    have hR : Below w.heap.size w (((W4.setCell ⟨w.heap.size + 1, 0, none⟩ (.int .i64 0)).setCell ⟨w.heap.size + 1, 1, none⟩ (.int .i64 0)).setCell ⟨w.heap.size + 1, 2, none⟩ (.int .i64 0)) := by (repeat' (first | (with_reducible exact Below.refl _ _) | (with_reducible refine below_step (by assumption) ?_ ?_) | (with_reducible refine Below.alloc ?_ ?_ _) | (with_reducible refine Below.setCell ?_ ?_ _) | (with_reducible refine below_drewN ?_ _) | (with_reducible refine Below.drew ?_) | omega | (simp; omega) | (simp; done)))
    simp only [List.setIfInBounds_toArray, List.set_cons_zero, List.set_cons_succ] at R
    clear kP kP0 kP1 kP2 kPf0 kPf1 kPf2 kPl
    generalize (((W4.setCell ⟨w.heap.size + 1, 0, none⟩ (.int .i64 0)).setCell ⟨w.heap.size + 1, 1, none⟩ (.int .i64 0)).setCell ⟨w.heap.size + 1, 2, none⟩ (.int .i64 0)) = W9 at R hR ⊢
    have R0 : (W9).cell? ⟨w.heap.size + 1, 0, none⟩ = some (.int .i64 0) := R.cell 0; have R1 : (W9).cell? ⟨w.heap.size + 1, 1, none⟩ = some (.int .i64 0) := R.cell 1; have R2 : (W9).cell? ⟨w.heap.size + 1, 2, none⟩ = some (.int .i64 0) := R.cell 2; have Rl : w.heap.size + 1 < (W9).heap.size := R.lt
    refine bodyPost_ret (v := .tuple #[.agg #[.int .i64 0, .int .i64 0, .int .i64 0], .bool false]) (by simp [results, Try.results4, go_sem, R0, R1, R2]) rfl ?_
    exact potP_no HO.out.symm hR
  cases m2
  · replace HO := Lib.hid (show false = o by simpa using HO.out)
    have kP0 : (W4).cell? ⟨w.heap.size + 1, 0, none⟩ = some (.int .i64 0) := kP.cell 0; have kP1 : (W4).cell? ⟨w.heap.size + 1, 1, none⟩ = some (.int .i64 0) := kP.cell 1; have kP2 : (W4).cell? ⟨w.heap.size + 1, 2, none⟩ = some (.int .i64 0) := kP.cell 2; have kPf0 : (W4).frozen? ⟨w.heap.size + 1, 0, none⟩ = false := kP.frozen 0; have kPf1 : (W4).frozen? ⟨w.heap.size + 1, 1, none⟩ = false := kP.frozen 1; have kPf2 : (W4).frozen? ⟨w.heap.size + 1, 2, none⟩ = false := kP.frozen 2; have kPl : w.heap.size + 1 < (W4).heap.size := kP.lt
    go_wp2
    have R := (((kP.set 0 (.int .i64 0)).set 1 (.int .i64 0)).set 2 (.int .i64 0))
    have hR : Below w.heap.size w (((W4.setCell ⟨w.heap.size + 1, 0, none⟩ (.int .i64 0)).setCell ⟨w.heap.size + 1, 1, none⟩ (.int .i64 0)).setCell ⟨w.heap.size + 1, 2, none⟩ (.int .i64 0)) := by (repeat' (first | (with_reducible exact Below.refl _ _) | (with_reducible refine below_step (by assumption) ?_ ?_) | (with_reducible refine Below.alloc ?_ ?_ _) | (with_reducible refine Below.setCell ?_ ?_ _) | (with_reducible refine below_drewN ?_ _) | (with_reducible refine Below.drew ?_) | omega | (simp; omega) | (simp; done)))
    simp only [List.setIfInBounds_toArray, List.set_cons_zero, List.set_cons_succ] at R
    clear kP kP0 kP1 kP2 kPf0 kPf1 kPf2 kPl
    generalize (((W4.setCell ⟨w.heap.size + 1, 0, none⟩ (.int .i64 0)).setCell ⟨w.heap.size + 1, 1, none⟩ (.int .i64 0)).setCell ⟨w.heap.size + 1, 2, none⟩ (.int .i64 0)) = W9 at R hR ⊢
    have R0 : (W9).cell? ⟨w.heap.size + 1, 0, none⟩ = some (.int .i64 0) := R.cell 0; have R1 : (W9).cell? ⟨w.heap.size + 1, 1, none⟩ = some (.int .i64 0) := R.cell 1; have R2 : (W9).cell? ⟨w.heap.size + 1, 2, none⟩ = some (.int .i64 0) := R.cell 2; have Rl : w.heap.size + 1 < (W9).heap.size := R.lt
    refine bodyPost_ret (v := .tuple #[.agg #[.int .i64 0, .int .i64 0, .int .i64 0], .bool false]) (by simp [results, Try.results4, go_sem, R0, R1, R2]) rfl ?_
    exact potP_no HO.out.symm hR
  have I3 := J3.out (by trivial)
  have I4 := J4.out (by trivial)
  clear J3 J4 H1 H2
  have k60 : (W4).cell? ⟨r6, 0, none⟩ = some (.int .i64 a1) := k6.cell 0; have k61 : (W4).cell? ⟨r6, 1, none⟩ = some (.int .i64 b1) := k6.cell 1; have k6l : r6 < (W4).heap.size := k6.lt
  go_wp2
  apply region_join1 (fun r10 Wz => Over [] W4 Wz ∧ (fun _ => True) Wz ∧ W4.heap.size ≤ r10 ∧ Blk r10 #[.int .i64 a3, .int .i64 b3] 30 Wz)
  · intro hcont
    refine wp_region_cls [] (fun _ => false) (fun _ => True) (KD (fun _ => True) []) (by kernel_rfl) ⟨trivial, MemL.nil _⟩ ?_
    apply wpAnyF_hd ⟨W4, Over.refl _ _, trivial, MemL.nil _⟩ [true, true, true, true, true, true, true] 3 (KD.closed (Closed.true) _) (fun _ _ => trivial) (by kernel_rfl) (by kernel_rfl) (by kernel_rfl) (by kernel_rfl) (by simp)
    · intro E hE hEN hEn; (repeat (first | (refine wpHL_take ?_; go_big_quiet_step ((first | (go_at_call 11; exact Calls.quiet_cls hE _ (HI.out _ _)) | (go_at_call 10; exact Calls.quiet_cls hE _ (I3.out _)))); refine wpQuiet_nil ?_) | refine wpHL_skip ?_)); exact wpHL_end rfl
    refine wpAnyF_ready [7] 2 (by kernel_rfl) (by kernel_rfl) (by simp) ?_
    refine AllF.cons ?_ ?_
    · refine stepK_alloc (zs := #[.int .i64 0, .int .i64 0]) (T := 30) (by rfl) (by rfl) (by rfl) (fun _ => by go_simp) (Closed.true) (fun r10 hr10 hl10 hne => ?_)
      simp only [Act.put, List.setIfInBounds_toArray, List.set_cons_succ, List.set_cons_zero]
      refine wpAnyF_ready [8] 1 (by kernel_rfl) (by kernel_rfl) (by simp) ?_
      refine AllF.cons ?_ ?_
      · refine stepK_store (v := .agg #[.int .i64 a3, .int .i64 b3]) [] [] (by rfl) (by rfl) (by rfl) (by rfl) (by rfl) (by rfl) (fun _ => by go_simp) (by rfl) (by simp [Value.cells, one1]) (.inl hr10) (Closed.true) (fun _ _ h _ => h) (by simp) (fun hne => ?_)
        try simp only [Value.cells]
        apply wpAnyF_hd hne [false, false, false, false, false, false, false, false, false, true] 0 (KD.closed (Closed.true) _) (fun _ _ => trivial) (by kernel_rfl) (by kernel_rfl) (by kernel_rfl) (by kernel_rfl) (by simp)
        · intro E hE hEN hEn; (repeat (first | (refine wpHL_take ?_; go_big_quiet_step ((first | (go_at_call 11; exact Calls.quiet_cls hE _ (HI.out _ _)) | (go_at_call 10; exact Calls.quiet_cls hE _ (I3.out _)))); refine wpQuiet_nil ?_) | refine wpHL_skip ?_)); exact wpHL_end rfl
        refine wpAnyF_done (by kernel_rfl) (fun Wz hOz hDz => ?_) _
        exact hcont r10 Wz ⟨hOz, hDz.1, (by omega), hDz.2.head⟩
      exact AllF.nil
    exact AllF.nil
  try dsimp only
  rintro r10 W5 ⟨hO, _, hr, k10⟩
  have hq := hO.below
  clear k60 k61 k6l
  clear hO hr
  replace kT := kT.next hq
  replace kP := kP.next hq
  replace k6 := k6.next hq
  replace k8 := k8.next hq
  replace hB := below_step hq hs hB
  replace hs := hB.size
  clear hq
  have k60 : (W5).cell? ⟨r6, 0, none⟩ = some (.int .i64 a1) := k6.cell 0; have k61 : (W5).cell? ⟨r6, 1, none⟩ = some (.int .i64 b1) := k6.cell 1; have k6l : r6 < (W5).heap.size := k6.lt
  go_wp2
  apply region_join1 (fun r12 Wz => Over [] W5 Wz ∧ (fun _ => True) Wz ∧ W5.heap.size ≤ r12 ∧ Blk r12 #[.int .i64 a4, .int .i64 b4] 30 Wz)
  · intro hcont
    refine wp_region_cls [] (fun _ => false) (fun _ => True) (KD (fun _ => True) []) (by kernel_rfl) ⟨trivial, MemL.nil _⟩ ?_
    apply wpAnyF_hd ⟨W5, Over.refl _ _, trivial, MemL.nil _⟩ [true, true, true, true, true, true, true, true, true, true] 3 (KD.closed (Closed.true) _) (fun _ _ => trivial) (by kernel_rfl) (by kernel_rfl) (by kernel_rfl) (by kernel_rfl) (by simp)
    · intro E hE hEN hEn; (repeat (first | (refine wpHL_take ?_; go_big_quiet_step ((first | (go_at_call 11; exact Calls.quiet_cls hE _ (HI.out _ _)) | (go_at_call 10; exact Calls.quiet_cls hE _ (I4.out _)))); refine wpQuiet_nil ?_) | refine wpHL_skip ?_)); exact wpHL_end rfl
    refine wpAnyF_ready [10] 2 (by kernel_rfl) (by kernel_rfl) (by simp) ?_
    refine AllF.cons ?_ ?_
    · refine stepK_alloc (zs := #[.int .i64 0, .int .i64 0]) (T := 30) (by rfl) (by rfl) (by rfl) (fun _ => by go_simp) (Closed.true) (fun r12 hr12 hl12 hne => ?_)
      simp only [Act.put, List.setIfInBounds_toArray, List.set_cons_succ, List.set_cons_zero]
      refine wpAnyF_ready [11] 1 (by kernel_rfl) (by kernel_rfl) (by simp) ?_
      refine AllF.cons ?_ ?_
      · refine stepK_store (v := .agg #[.int .i64 a4, .int .i64 b4]) [] [] (by rfl) (by rfl) (by rfl) (by rfl) (by rfl) (by rfl) (fun _ => by go_simp) (by rfl) (by simp [Value.cells, one1]) (.inl hr12) (Closed.true) (fun _ _ h _ => h) (by simp) (fun hne => ?_)
        try simp only [Value.cells]
        apply wpAnyF_hd hne [false, false, false, false, false, false, false, false, false, false, false, false, true] 0 (KD.closed (Closed.true) _) (fun _ _ => trivial) (by kernel_rfl) (by kernel_rfl) (by kernel_rfl) (by kernel_rfl) (by simp)
        · intro E hE hEN hEn; (repeat (first | (refine wpHL_take ?_; go_big_quiet_step ((first | (go_at_call 11; exact Calls.quiet_cls hE _ (HI.out _ _)) | (go_at_call 10; exact Calls.quiet_cls hE _ (I4.out _)))); refine wpQuiet_nil ?_) | refine wpHL_skip ?_)); exact wpHL_end rfl
        refine wpAnyF_done (by kernel_rfl) (fun Wz hOz hDz => ?_) _
        exact hcont r12 Wz ⟨hOz, hDz.1, (by omega), hDz.2.head⟩
      exact AllF.nil
    exact AllF.nil
  try dsimp only
  rintro r12 W6 ⟨hO, _, hr, k12⟩
  have hq := hO.below
  clear k60 k61 k6l
  clear hO hr
  replace kT := kT.next hq
  replace kP := kP.next hq
  replace k6 := k6.next hq
  replace k8 := k8.next hq
  replace k10 := k10.next hq
  replace hB := below_step hq hs hB
  replace hs := hB.size
  clear hq
  clear I3 I4 HI
  cases m3
  · replace HO := Lib.hid (show false = o by simpa using HO.out)
    have kP0 : (W6).cell? ⟨w.heap.size + 1, 0, none⟩ = some (.int .i64 0) := kP.cell 0; have kP1 : (W6).cell? ⟨w.heap.size + 1, 1, none⟩ = some (.int .i64 0) := kP.cell 1; have kP2 : (W6).cell? ⟨w.heap.size + 1, 2, none⟩ = some (.int .i64 0) := kP.cell 2; have kPf0 : (W6).frozen? ⟨w.heap.size + 1, 0, none⟩ = false := kP.frozen 0; have kPf1 : (W6).frozen? ⟨w.heap.size + 1, 1, none⟩ = false := kP.frozen 1; have kPf2 : (W6).frozen? ⟨w.heap.size + 1, 2, none⟩ = false := kP.frozen 2; have kPl : w.heap.size + 1 < (W6).heap.size := kP.lt
    go_wp2
    have R := (((kP.set 0 (.int .i64 0)).set 1 (.int .i64 0)).set 2 (.int .i64 0))
    have hR : Below w.heap.size w (((W6.setCell ⟨w.heap.size + 1, 0, none⟩ (.int .i64 0)).setCell ⟨w.heap.size + 1, 1, none⟩ (.int .i64 0)).setCell ⟨w.heap.size + 1, 2, none⟩ (.int .i64 0)) := by (repeat' (first | (with_reducible exact Below.refl _ _) | (with_reducible refine below_step (by assumption) ?_ ?_) | (with_reducible refine Below.alloc ?_ ?_ _) | (with_reducible refine Below.setCell ?_ ?_ _) | (with_reducible refine below_drewN ?_ _) | (with_reducible refine Below.drew ?_) | omega | (simp; omega) | (simp; done)))
    simp only [List.setIfInBounds_toArray, List.set_cons_zero, List.set_cons_succ] at R
    clear kP kP0 kP1 kP2 kPf0 kPf1 kPf2 kPl
    generalize (((W6.setCell ⟨w.heap.size + 1, 0, none⟩ (.int .i64 0)).setCell ⟨w.heap.size + 1, 1, none⟩ (.int .i64 0)).setCell ⟨w.heap.size + 1, 2, none⟩ (.int .i64 0)) = W9 at R hR ⊢
    have R0 : (W9).cell? ⟨w.heap.size + 1, 0, none⟩ = some (.int .i64 0) := R.cell 0; have R1 : (W9).cell? ⟨w.heap.size + 1, 1, none⟩ = some (.int .i64 0) := R.cell 1; have R2 : (W9).cell? ⟨w.heap.size + 1, 2, none⟩ = some (.int .i64 0) := R.cell 2; have Rl : w.heap.size + 1 < (W9).heap.size := R.lt
    refine bodyPost_ret (v := .tuple #[.agg #[.int .i64 0, .int .i64 0, .int .i64 0], .bool false]) (by simp [results, Try.results4, go_sem, R0, R1, R2]) rfl ?_
    exact potP_no HO.out.symm hR
  cases m4
  · replace HO := Lib.hid (show false = o by simpa using HO.out)
    have kP0 : (W6).cell? ⟨w.heap.size + 1, 0, none⟩ = some (.int .i64 0) := kP.cell 0; have kP1 : (W6).cell? ⟨w.heap.size + 1, 1, none⟩ = some (.int .i64 0) := kP.cell 1; have kP2 : (W6).cell? ⟨w.heap.size + 1, 2, none⟩ = some (.int .i64 0) := kP.cell 2; have kPf0 : (W6).frozen? ⟨w.heap.size + 1, 0, none⟩ = false := kP.frozen 0; have kPf1 : (W6).frozen? ⟨w.heap.size + 1, 1, none⟩ = false := kP.frozen 1; have kPf2 : (W6).frozen? ⟨w.heap.size + 1, 2, none⟩ = false := kP.frozen 2; have kPl : w.heap.size + 1 < (W6).heap.size := kP.lt
    go_wp2
    have R := (((kP.set 0 (.int .i64 0)).set 1 (.int .i64 0)).set 2 (.int .i64 0))
    have hR : Below w.heap.size w (((W6.setCell ⟨w.heap.size + 1, 0, none⟩ (.int .i64 0)).setCell ⟨w.heap.size + 1, 1, none⟩ (.int .i64 0)).setCell ⟨w.heap.size + 1, 2, none⟩ (.int .i64 0)) := by (repeat' (first | (with_reducible exact Below.refl _ _) | (with_reducible refine below_step (by assumption) ?_ ?_) | (with_reducible refine Below.alloc ?_ ?_ _) | (with_reducible refine Below.setCell ?_ ?_ _) | (with_reducible refine below_drewN ?_ _) | (with_reducible refine Below.drew ?_) | omega | (simp; omega) | (simp; done)))
    simp only [List.setIfInBounds_toArray, List.set_cons_zero, List.set_cons_succ] at R
    clear kP kP0 kP1 kP2 kPf0 kPf1 kPf2 kPl
    generalize (((W6.setCell ⟨w.heap.size + 1, 0, none⟩ (.int .i64 0)).setCell ⟨w.heap.size + 1, 1, none⟩ (.int .i64 0)).setCell ⟨w.heap.size + 1, 2, none⟩ (.int .i64 0)) = W9 at R hR ⊢
    have R0 : (W9).cell? ⟨w.heap.size + 1, 0, none⟩ = some (.int .i64 0) := R.cell 0; have R1 : (W9).cell? ⟨w.heap.size + 1, 1, none⟩ = some (.int .i64 0) := R.cell 1; have R2 : (W9).cell? ⟨w.heap.size + 1, 2, none⟩ = some (.int .i64 0) := R.cell 2; have Rl : w.heap.size + 1 < (W9).heap.size := R.lt
    refine bodyPost_ret (v := .tuple #[.agg #[.int .i64 0, .int .i64 0, .int .i64 0], .bool false]) (by simp [results, Try.results4, go_sem, R0, R1, R2]) rfl ?_
    exact potP_no HO.out.symm hR
  have I5 := J5.out (by trivial)
  have I6 := J6.out (by trivial) (by trivial)
  clear J5 J6
  have k100 : (W6).cell? ⟨r10, 0, none⟩ = some (.int .i64 a3) := k10.cell 0; have k101 : (W6).cell? ⟨r10, 1, none⟩ = some (.int .i64 b3) := k10.cell 1; have k10l : r10 < (W6).heap.size := k10.lt
  have kT0 : (W6).cell? ⟨w.heap.size, 0, none⟩ = some (.int .i64 p) := kT.cell 0; have kT1 : (W6).cell? ⟨w.heap.size, 1, none⟩ = some (.int .i64 q) := kT.cell 1; have kT2 : (W6).cell? ⟨w.heap.size, 2, none⟩ = some (.int .i64 r) := kT.cell 2; have kT3 : (W6).cell? ⟨w.heap.size, 3, none⟩ = some (.int .i64 s) := kT.cell 3; have kT4 : (W6).cell? ⟨w.heap.size, 4, none⟩ = some (.int .i64 t) := kT.cell 4; have kT5 : (W6).cell? ⟨w.heap.size, 5, none⟩ = some (.int .i64 u) := kT.cell 5; have kTl : w.heap.size < (W6).heap.size := kT.lt
  go_wp2_with fail
  refine (I5.out _).mono ?_
  rintro e' v11 ⟨rfl, hb⟩
  clear k100 k101 k10l
  clear kT0 kT1 kT2 kT3 kT4 kT5 kTl
  replace kT := kT.next hb
  replace kP := kP.next hb
  replace k6 := k6.next hb
  replace k8 := k8.next hb
  replace k10 := k10.next hb
  replace k12 := k12.next hb
  replace hB := below_step hb hs hB
  replace hs := hB.size
  clear hb
  replace kT := kT.alloc (.cells #[.int .i64 a5, .int .i64 b5] 30)
  replace kP := kP.alloc (.cells #[.int .i64 a5, .int .i64 b5] 30)
  replace k6 := k6.alloc (.cells #[.int .i64 a5, .int .i64 b5] 30)
  replace k8 := k8.alloc (.cells #[.int .i64 a5, .int .i64 b5] 30)
  replace k10 := k10.alloc (.cells #[.int .i64 a5, .int .i64 b5] 30)
  replace k12 := k12.alloc (.cells #[.int .i64 a5, .int .i64 b5] 30)
  have k14 := Blk.new v11 #[.int .i64 a5, .int .i64 b5] 30
  replace hB := hB.alloc hs (.cells #[.int .i64 a5, .int .i64 b5] 30)
  replace hs := hB.size
  go_upto_region 12 with (fail)
  generalize v11.alloc _ = W7 at *
  generalize v11.heap.size = r14 at *
  have k120 : (W7).cell? ⟨r12, 0, none⟩ = some (.int .i64 a4) := k12.cell 0; have k121 : (W7).cell? ⟨r12, 1, none⟩ = some (.int .i64 b4) := k12.cell 1; have k12l : r12 < (W7).heap.size := k12.lt
  have k80 : (W7).cell? ⟨r8, 0, none⟩ = some (.int .i64 a2) := k8.cell 0; have k81 : (W7).cell? ⟨r8, 1, none⟩ = some (.int .i64 b2) := k8.cell 1; have k8l : r8 < (W7).heap.size := k8.lt
  go_wp2_with fail
  refine (I6.out _).mono ?_
  rintro e' v12 ⟨rfl, hb⟩
  clear k120 k121 k12l
  clear k80 k81 k8l
  replace kT := kT.next hb
  replace kP := kP.next hb
  replace k6 := k6.next hb
  replace k8 := k8.next hb
  replace k10 := k10.next hb
  replace k12 := k12.next hb
  replace k14 := k14.next hb
  replace hB := below_step hb hs hB
  replace hs := hB.size
  clear hb
  replace kT := kT.alloc (.cells #[.int .i64 a6, .int .i64 b6] 30)
  replace kP := kP.alloc (.cells #[.int .i64 a6, .int .i64 b6] 30)
  replace k6 := k6.alloc (.cells #[.int .i64 a6, .int .i64 b6] 30)
  replace k8 := k8.alloc (.cells #[.int .i64 a6, .int .i64 b6] 30)
  replace k10 := k10.alloc (.cells #[.int .i64 a6, .int .i64 b6] 30)
  replace k12 := k12.alloc (.cells #[.int .i64 a6, .int .i64 b6] 30)
  replace k14 := k14.alloc (.cells #[.int .i64 a6, .int .i64 b6] 30)
  have k16 := Blk.new v12 #[.int .i64 a6, .int .i64 b6] 30
  replace hB := hB.alloc hs (.cells #[.int .i64 a6, .int .i64 b6] 30)
  replace hs := hB.size
  go_upto_region 13 with (fail)
  generalize v12.alloc _ = W8 at *
  generalize v12.heap.size = r16 at *
  cases m5
  · replace HO := Lib.hid (show false = o by simpa using HO.out)
    have kP0 : (W8).cell? ⟨w.heap.size + 1, 0, none⟩ = some (.int .i64 0) := kP.cell 0; have kP1 : (W8).cell? ⟨w.heap.size + 1, 1, none⟩ = some (.int .i64 0) := kP.cell 1; have kP2 : (W8).cell? ⟨w.heap.size + 1, 2, none⟩ = some (.int .i64 0) := kP.cell 2; have kPf0 : (W8).frozen? ⟨w.heap.size + 1, 0, none⟩ = false := kP.frozen 0; have kPf1 : (W8).frozen? ⟨w.heap.size + 1, 1, none⟩ = false := kP.frozen 1; have kPf2 : (W8).frozen? ⟨w.heap.size + 1, 2, none⟩ = false := kP.frozen 2; have kPl : w.heap.size + 1 < (W8).heap.size := kP.lt
    go_wp2
    have R := (((kP.set 0 (.int .i64 0)).set 1 (.int .i64 0)).set 2 (.int .i64 0))
    have hR : Below w.heap.size w (((W8.setCell ⟨w.heap.size + 1, 0, none⟩ (.int .i64 0)).setCell ⟨w.heap.size + 1, 1, none⟩ (.int .i64 0)).setCell ⟨w.heap.size + 1, 2, none⟩ (.int .i64 0)) := by (repeat' (first | (with_reducible exact Below.refl _ _) | (with_reducible refine below_step (by assumption) ?_ ?_) | (with_reducible refine Below.alloc ?_ ?_ _) | (with_reducible refine Below.setCell ?_ ?_ _) | (with_reducible refine below_drewN ?_ _) | (with_reducible refine Below.drew ?_) | omega | (simp; omega) | (simp; done)))
    simp only [List.setIfInBounds_toArray, List.set_cons_zero, List.set_cons_succ] at R
    clear kP kP0 kP1 kP2 kPf0 kPf1 kPf2 kPl
    generalize (((W8.setCell ⟨w.heap.size + 1, 0, none⟩ (.int .i64 0)).setCell ⟨w.heap.size + 1, 1, none⟩ (.int .i64 0)).setCell ⟨w.heap.size + 1, 2, none⟩ (.int .i64 0)) = W9 at R hR ⊢
    have R0 : (W9).cell? ⟨w.heap.size + 1, 0, none⟩ = some (.int .i64 0) := R.cell 0; have R1 : (W9).cell? ⟨w.heap.size + 1, 1, none⟩ = some (.int .i64 0) := R.cell 1; have R2 : (W9).cell? ⟨w.heap.size + 1, 2, none⟩ = some (.int .i64 0) := R.cell 2; have Rl : w.heap.size + 1 < (W9).heap.size := R.lt
    refine bodyPost_ret (v := .tuple #[.agg #[.int .i64 0, .int .i64 0, .int .i64 0], .bool false]) (by simp [results, Try.results4, go_sem, R0, R1, R2]) rfl ?_
    exact potP_no HO.out.symm hR
  cases m6
  · replace HO := Lib.hid (show false = o by simpa using HO.out)
    have kP0 : (W8).cell? ⟨w.heap.size + 1, 0, none⟩ = some (.int .i64 0) := kP.cell 0; have kP1 : (W8).cell? ⟨w.heap.size + 1, 1, none⟩ = some (.int .i64 0) := kP.cell 1; have kP2 : (W8).cell? ⟨w.heap.size + 1, 2, none⟩ = some (.int .i64 0) := kP.cell 2; have kPf0 : (W8).frozen? ⟨w.heap.size + 1, 0, none⟩ = false := kP.frozen 0; have kPf1 : (W8).frozen? ⟨w.heap.size + 1, 1, none⟩ = false := kP.frozen 1; have kPf2 : (W8).frozen? ⟨w.heap.size + 1, 2, none⟩ = false := kP.frozen 2; have kPl : w.heap.size + 1 < (W8).heap.size := kP.lt
    go_wp2
    have R := (((kP.set 0 (.int .i64 0)).set 1 (.int .i64 0)).set 2 (.int .i64 0))
    have hR : Below w.heap.size w (((W8.setCell ⟨w.heap.size + 1, 0, none⟩ (.int .i64 0)).setCell ⟨w.heap.size + 1, 1, none⟩ (.int .i64 0)).setCell ⟨w.heap.size + 1, 2, none⟩ (.int .i64 0)) := by (repeat' (first | (with_reducible exact Below.refl _ _) | (with_reducible refine below_step (by assumption) ?_ ?_) | (with_reducible refine Below.alloc ?_ ?_ _) | (with_reducible refine Below.setCell ?_ ?_ _) | (with_reducible refine below_drewN ?_ _) | (with_reducible refine Below.drew ?_) | omega | (simp; omega) | (simp; done)))
    simp only [List.setIfInBounds_toArray, List.set_cons_zero, List.set_cons_succ] at R
    clear kP kP0 kP1 kP2 kPf0 kPf1 kPf2 kPl
    generalize (((W8.setCell ⟨w.heap.size + 1, 0, none⟩ (.int .i64 0)).setCell ⟨w.heap.size + 1, 1, none⟩ (.int .i64 0)).setCell ⟨w.heap.size + 1, 2, none⟩ (.int .i64 0)) = W9 at R hR ⊢
    have R0 : (W9).cell? ⟨w.heap.size + 1, 0, none⟩ = some (.int .i64 0) := R.cell 0; have R1 : (W9).cell? ⟨w.heap.size + 1, 1, none⟩ = some (.int .i64 0) := R.cell 1; have R2 : (W9).cell? ⟨w.heap.size + 1, 2, none⟩ = some (.int .i64 0) := R.cell 2; have Rl : w.heap.size + 1 < (W9).heap.size := R.lt
    refine bodyPost_ret (v := .tuple #[.agg #[.int .i64 0, .int .i64 0, .int .i64 0], .bool false]) (by simp [results, Try.results4, go_sem, R0, R1, R2]) rfl ?_
    exact potP_no HO.out.symm hR
  have IR := JR.out (by trivial)
  clear JR I5 I6
  have k140 : (W8).cell? ⟨r14, 0, none⟩ = some (.int .i64 a5) := k14.cell 0; have k141 : (W8).cell? ⟨r14, 1, none⟩ = some (.int .i64 b5) := k14.cell 1; have k14l : r14 < (W8).heap.size := k14.lt
  have k160 : (W8).cell? ⟨r16, 0, none⟩ = some (.int .i64 a6) := k16.cell 0; have k161 : (W8).cell? ⟨r16, 1, none⟩ = some (.int .i64 b6) := k16.cell 1; have k16l : r16 < (W8).heap.size := k16.lt
  go_wp2
  apply region_join1 (fun r18 Wz => Over [] W8 Wz ∧ (fun _ => True) Wz ∧ W8.heap.size ≤ r18 ∧ Blk r18 #[.int .i64 a5, .int .i64 a6, .int .i64 e] 27 Wz)
  · intro hcont
    refine wp_region_cls [] (fun _ => false) (fun _ => True) (KD (fun _ => True) []) (by kernel_rfl) ⟨trivial, MemL.nil _⟩ ?_
    apply wpAnyF_hd ⟨W8, Over.refl _ _, trivial, MemL.nil _⟩ [true, true, true, true, true, true, true, true] 2 (KD.closed (Closed.true) _) (fun _ _ => trivial) (by kernel_rfl) (by kernel_rfl) (by kernel_rfl) (by kernel_rfl) (by simp)
    · intro E hE hEN hEn; (repeat (first | (refine wpHL_take ?_; go_big_quiet_step ((go_at_call 13; exact Calls.quiet_cls hE _ (IR.out _))); refine wpQuiet_nil ?_) | refine wpHL_skip ?_)); exact wpHL_end rfl
    refine wpAnyF_ready [8] 1 (by kernel_rfl) (by kernel_rfl) (by simp) ?_
    refine AllF.cons ?_ ?_
    · refine stepK_alloc (zs := #[.int .i64 0, .int .i64 0, .int .i64 0]) (T := 27) (by rfl) (by rfl) (by rfl) (fun _ => by go_simp) (Closed.true) (fun r18 hr18 hl18 hne => ?_)
      simp only [Act.put, List.setIfInBounds_toArray, List.set_cons_succ, List.set_cons_zero]
      refine wpAnyF_ready [9] 0 (by kernel_rfl) (by kernel_rfl) (by simp) ?_
      refine AllF.cons ?_ ?_
      · refine stepK_store (v := .agg #[.int .i64 a5, .int .i64 a6, .int .i64 e]) [] [] (by rfl) (by rfl) (by rfl) (by rfl) (by rfl) (by rfl) (fun _ => by go_simp) (by rfl) (by simp [Value.cells, one1]) (.inl hr18) (Closed.true) (fun _ _ h _ => h) (by simp) (fun hne => ?_)
        try simp only [Value.cells]
        refine wpAnyF_done (by kernel_rfl) (fun Wz hOz hDz => ?_) _
        exact hcont r18 Wz ⟨hOz, hDz.1, (by omega), hDz.2.head⟩
      exact AllF.nil
    exact AllF.nil
  try dsimp only
  rintro r18 W9 ⟨hO, _, hr, k18⟩
  have hq := hO.below
  clear k140 k141 k14l
  clear k160 k161 k16l
  clear hO hr
  replace kT := kT.next hq
  replace kP := kP.next hq
  replace k6 := k6.next hq
  replace k8 := k8.next hq
  replace k10 := k10.next hq
  replace k12 := k12.next hq
  replace k14 := k14.next hq
  replace k16 := k16.next hq
  replace hB := below_step hq hs hB
  replace hs := hB.size
  clear hq
  clear IR
  have k180 : (W9).cell? ⟨r18, 0, none⟩ = some (.int .i64 a5) := k18.cell 0; have k181 : (W9).cell? ⟨r18, 1, none⟩ = some (.int .i64 a6) := k18.cell 1; have k182 : (W9).cell? ⟨r18, 2, none⟩ = some (.int .i64 e) := k18.cell 2; have k18l : r18 < (W9).heap.size := k18.lt
  have k140 : (W9).cell? ⟨r14, 0, none⟩ = some (.int .i64 a5) := k14.cell 0; have k141 : (W9).cell? ⟨r14, 1, none⟩ = some (.int .i64 b5) := k14.cell 1; have k14l : r14 < (W9).heap.size := k14.lt
  have k160 : (W9).cell? ⟨r16, 0, none⟩ = some (.int .i64 a6) := k16.cell 0; have k161 : (W9).cell? ⟨r16, 1, none⟩ = some (.int .i64 b6) := k16.cell 1; have k16l : r16 < (W9).heap.size := k16.lt
  have x1 : ∃ g, (e * e == b5) = g := ⟨_, rfl⟩
  obtain ⟨g1, q1⟩ := x1
  have x3 : ∃ g, (e * e * e == b6) = g := ⟨_, rfl⟩
  obtain ⟨g3, q3⟩ := x3
  have x2 : ∃ g, inB e 1 20 = g := ⟨_, rfl⟩
  obtain ⟨g2, q2⟩ := x2
  have x4 : ∃ g, ptF A 0 a5 a6 e = g := ⟨_, rfl⟩
  obtain ⟨g4, q4⟩ := x4
  rw [q1, q2, q3, q4] at HO
  rw [q4] at HP
  have n1 := neB q1
  have n3 := neB q3
  have HL' : Hid (∀ w, _) := fun w => c_l1In e 1 20 w
  rw [q2] at HL'
  clear HL q2 q4
  cases g1
  · replace HO := Lib.hid (show false = o by simpa using HO.out)
    go_wp2
    (refine wp_region_clq (by kernel_rfl) (by kernel_rfl) ?_; (repeat (go_big_quiet_step ((first | (go_at_call 14; exact Calls.quiet_clsS _ (HL'.out _)) | (go_at_call 16; exact Calls.quiet_cls Closed.true _ (HC.out _)) | (go_at_call 15; exact Calls.quiet_cls Closed.true _ (HP.out _)))))); refine wpQuiet_nil ?_; intro w1 hb1; obtain ⟨hc1, hf1⟩ := bcell hb1; have hz1 := hb1.size; (try simp only [World.size_alloc] at hz1))
    have hb9 := hb1
    clear hb1 hc1 hf1 k180 k181 k182 k18l k140 k141 k14l k160 k161 k16l
    replace kT := kT.next hb9
    replace kP := kP.next hb9
    replace k6 := k6.next hb9
    replace k8 := k8.next hb9
    replace k10 := k10.next hb9
    replace k12 := k12.next hb9
    replace k14 := k14.next hb9
    replace k16 := k16.next hb9
    replace k18 := k18.next hb9
    replace hB := below_step hb9 hs hB
    replace hs := hB.size
    clear hb9
    have kP0 : (w1).cell? ⟨w.heap.size + 1, 0, none⟩ = some (.int .i64 0) := kP.cell 0; have kP1 : (w1).cell? ⟨w.heap.size + 1, 1, none⟩ = some (.int .i64 0) := kP.cell 1; have kP2 : (w1).cell? ⟨w.heap.size + 1, 2, none⟩ = some (.int .i64 0) := kP.cell 2; have kPf0 : (w1).frozen? ⟨w.heap.size + 1, 0, none⟩ = false := kP.frozen 0; have kPf1 : (w1).frozen? ⟨w.heap.size + 1, 1, none⟩ = false := kP.frozen 1; have kPf2 : (w1).frozen? ⟨w.heap.size + 1, 2, none⟩ = false := kP.frozen 2; have kPl : w.heap.size + 1 < (w1).heap.size := kP.lt
    go_wp2
    have R := (((kP.set 0 (.int .i64 0)).set 1 (.int .i64 0)).set 2 (.int .i64 0))
    have hR : Below w.heap.size w (((w1.setCell ⟨w.heap.size + 1, 0, none⟩ (.int .i64 0)).setCell ⟨w.heap.size + 1, 1, none⟩ (.int .i64 0)).setCell ⟨w.heap.size + 1, 2, none⟩ (.int .i64 0)) := by (repeat' (first | (with_reducible exact Below.refl _ _) | (with_reducible refine below_step (by assumption) ?_ ?_) | (with_reducible refine Below.alloc ?_ ?_ _) | (with_reducible refine Below.setCell ?_ ?_ _) | (with_reducible refine below_drewN ?_ _) | (with_reducible refine Below.drew ?_) | omega | (simp; omega) | (simp; done)))
    simp only [List.setIfInBounds_toArray, List.set_cons_zero, List.set_cons_succ] at R
    clear kP kP0 kP1 kP2 kPf0 kPf1 kPf2 kPl
    generalize (((w1.setCell ⟨w.heap.size + 1, 0, none⟩ (.int .i64 0)).setCell ⟨w.heap.size + 1, 1, none⟩ (.int .i64 0)).setCell ⟨w.heap.size + 1, 2, none⟩ (.int .i64 0)) = W9 at R hR ⊢
    have R0 : (W9).cell? ⟨w.heap.size + 1, 0, none⟩ = some (.int .i64 0) := R.cell 0; have R1 : (W9).cell? ⟨w.heap.size + 1, 1, none⟩ = some (.int .i64 0) := R.cell 1; have R2 : (W9).cell? ⟨w.heap.size + 1, 2, none⟩ = some (.int .i64 0) := R.cell 2; have Rl : w.heap.size + 1 < (W9).heap.size := R.lt
    refine bodyPost_ret (v := .tuple #[.agg #[.int .i64 0, .int .i64 0, .int .i64 0], .bool false]) (by simp [results, Try.results4, go_sem, R0, R1, R2]) rfl ?_
    exact potP_no HO.out.symm hR
  cases g2
  · replace HO := Lib.hid (show false = o by simpa using HO.out)
    go_wp2
    (refine wp_region_clq (by kernel_rfl) (by kernel_rfl) ?_; (repeat (go_big_quiet_step ((first | (go_at_call 14; exact Calls.quiet_clsS _ (HL'.out _)) | (go_at_call 16; exact Calls.quiet_cls Closed.true _ (HC.out _)) | (go_at_call 15; exact Calls.quiet_cls Closed.true _ (HP.out _)))))); refine wpQuiet_nil ?_; intro w1 hb1; obtain ⟨hc1, hf1⟩ := bcell hb1; have hz1 := hb1.size; (try simp only [World.size_alloc] at hz1))
    have hb9 := hb1
    clear hb1 hc1 hf1 k180 k181 k182 k18l k140 k141 k14l k160 k161 k16l
    replace kT := kT.next hb9
    replace kP := kP.next hb9
    replace k6 := k6.next hb9
    replace k8 := k8.next hb9
    replace k10 := k10.next hb9
    replace k12 := k12.next hb9
    replace k14 := k14.next hb9
    replace k16 := k16.next hb9
    replace k18 := k18.next hb9
    replace hB := below_step hb9 hs hB
    replace hs := hB.size
    clear hb9
    have kP0 : (w1).cell? ⟨w.heap.size + 1, 0, none⟩ = some (.int .i64 0) := kP.cell 0; have kP1 : (w1).cell? ⟨w.heap.size + 1, 1, none⟩ = some (.int .i64 0) := kP.cell 1; have kP2 : (w1).cell? ⟨w.heap.size + 1, 2, none⟩ = some (.int .i64 0) := kP.cell 2; have kPf0 : (w1).frozen? ⟨w.heap.size + 1, 0, none⟩ = false := kP.frozen 0; have kPf1 : (w1).frozen? ⟨w.heap.size + 1, 1, none⟩ = false := kP.frozen 1; have kPf2 : (w1).frozen? ⟨w.heap.size + 1, 2, none⟩ = false := kP.frozen 2; have kPl : w.heap.size + 1 < (w1).heap.size := kP.lt
    go_wp2
    have R := (((kP.set 0 (.int .i64 0)).set 1 (.int .i64 0)).set 2 (.int .i64 0))
    have hR : Below w.heap.size w (((w1.setCell ⟨w.heap.size + 1, 0, none⟩ (.int .i64 0)).setCell ⟨w.heap.size + 1, 1, none⟩ (.int .i64 0)).setCell ⟨w.heap.size + 1, 2, none⟩ (.int .i64 0)) := by (repeat' (first | (with_reducible exact Below.refl _ _) | (with_reducible refine below_step (by assumption) ?_ ?_) | (with_reducible refine Below.alloc ?_ ?_ _) | (with_reducible refine Below.setCell ?_ ?_ _) | (with_reducible refine below_drewN ?_ _) | (with_reducible refine Below.drew ?_) | omega | (simp; omega) | (simp; done)))
    simp only [List.setIfInBounds_toArray, List.set_cons_zero, List.set_cons_succ] at R
    clear kP kP0 kP1 kP2 kPf0 kPf1 kPf2 kPl
    generalize (((w1.setCell ⟨w.heap.size + 1, 0, none⟩ (.int .i64 0)).setCell ⟨w.heap.size + 1, 1, none⟩ (.int .i64 0)).setCell ⟨w.heap.size + 1, 2, none⟩ (.int .i64 0)) = W9 at R hR ⊢
    have R0 : (W9).cell? ⟨w.heap.size + 1, 0, none⟩ = some (.int .i64 0) := R.cell 0; have R1 : (W9).cell? ⟨w.heap.size + 1, 1, none⟩ = some (.int .i64 0) := R.cell 1; have R2 : (W9).cell? ⟨w.heap.size + 1, 2, none⟩ = some (.int .i64 0) := R.cell 2; have Rl : w.heap.size + 1 < (W9).heap.size := R.lt
    refine bodyPost_ret (v := .tuple #[.agg #[.int .i64 0, .int .i64 0, .int .i64 0], .bool false]) (by simp [results, Try.results4, go_sem, R0, R1, R2]) rfl ?_
    exact potP_no HO.out.symm hR
  cases g3
  · replace HO := Lib.hid (show false = o by simpa using HO.out)
    go_wp2
    (refine wp_region_clq (by kernel_rfl) (by kernel_rfl) ?_; (repeat (go_big_quiet_step ((first | (go_at_call 14; exact Calls.quiet_clsS _ (HL'.out _)) | (go_at_call 16; exact Calls.quiet_cls Closed.true _ (HC.out _)) | (go_at_call 15; exact Calls.quiet_cls Closed.true _ (HP.out _)))))); refine wpQuiet_nil ?_; intro w1 hb1; obtain ⟨hc1, hf1⟩ := bcell hb1; have hz1 := hb1.size; (try simp only [World.size_alloc] at hz1))
    have hb9 := hb1
    clear hb1 hc1 hf1 k180 k181 k182 k18l k140 k141 k14l k160 k161 k16l
    replace kT := kT.next hb9
    replace kP := kP.next hb9
    replace k6 := k6.next hb9
    replace k8 := k8.next hb9
    replace k10 := k10.next hb9
    replace k12 := k12.next hb9
    replace k14 := k14.next hb9
    replace k16 := k16.next hb9
    replace k18 := k18.next hb9
    replace hB := below_step hb9 hs hB
    replace hs := hB.size
    clear hb9
    have kP0 : (w1).cell? ⟨w.heap.size + 1, 0, none⟩ = some (.int .i64 0) := kP.cell 0; have kP1 : (w1).cell? ⟨w.heap.size + 1, 1, none⟩ = some (.int .i64 0) := kP.cell 1; have kP2 : (w1).cell? ⟨w.heap.size + 1, 2, none⟩ = some (.int .i64 0) := kP.cell 2; have kPf0 : (w1).frozen? ⟨w.heap.size + 1, 0, none⟩ = false := kP.frozen 0; have kPf1 : (w1).frozen? ⟨w.heap.size + 1, 1, none⟩ = false := kP.frozen 1; have kPf2 : (w1).frozen? ⟨w.heap.size + 1, 2, none⟩ = false := kP.frozen 2; have kPl : w.heap.size + 1 < (w1).heap.size := kP.lt
    go_wp2
    have R := (((kP.set 0 (.int .i64 0)).set 1 (.int .i64 0)).set 2 (.int .i64 0))
    have hR : Below w.heap.size w (((w1.setCell ⟨w.heap.size + 1, 0, none⟩ (.int .i64 0)).setCell ⟨w.heap.size + 1, 1, none⟩ (.int .i64 0)).setCell ⟨w.heap.size + 1, 2, none⟩ (.int .i64 0)) := by (repeat' (first | (with_reducible exact Below.refl _ _) | (with_reducible refine below_step (by assumption) ?_ ?_) | (with_reducible refine Below.alloc ?_ ?_ _) | (with_reducible refine Below.setCell ?_ ?_ _) | (with_reducible refine below_drewN ?_ _) | (with_reducible refine Below.drew ?_) | omega | (simp; omega) | (simp; done)))
    simp only [List.setIfInBounds_toArray, List.set_cons_zero, List.set_cons_succ] at R
    clear kP kP0 kP1 kP2 kPf0 kPf1 kPf2 kPl
    generalize (((w1.setCell ⟨w.heap.size + 1, 0, none⟩ (.int .i64 0)).setCell ⟨w.heap.size + 1, 1, none⟩ (.int .i64 0)).setCell ⟨w.heap.size + 1, 2, none⟩ (.int .i64 0)) = W9 at R hR ⊢
    have R0 : (W9).cell? ⟨w.heap.size + 1, 0, none⟩ = some (.int .i64 0) := R.cell 0; have R1 : (W9).cell? ⟨w.heap.size + 1, 1, none⟩ = some (.int .i64 0) := R.cell 1; have R2 : (W9).cell? ⟨w.heap.size + 1, 2, none⟩ = some (.int .i64 0) := R.cell 2; have Rl : w.heap.size + 1 < (W9).heap.size := R.lt
    refine bodyPost_ret (v := .tuple #[.agg #[.int .i64 0, .int .i64 0, .int .i64 0], .bool false]) (by simp [results, Try.results4, go_sem, R0, R1, R2]) rfl ?_
    exact potP_no HO.out.symm hR
  cases g4
  · replace HO := Lib.hid (show false = o by simpa using HO.out)
    go_wp2
    (refine wp_region_clq (by kernel_rfl) (by kernel_rfl) ?_; (repeat (go_big_quiet_step ((first | (go_at_call 14; exact Calls.quiet_clsS _ (HL'.out _)) | (go_at_call 16; exact Calls.quiet_cls Closed.true _ (HC.out _)) | (go_at_call 15; exact Calls.quiet_cls Closed.true _ (HP.out _)))))); refine wpQuiet_nil ?_; intro w1 hb1; obtain ⟨hc1, hf1⟩ := bcell hb1; have hz1 := hb1.size; (try simp only [World.size_alloc] at hz1))
    have hb9 := hb1
    clear hb1 hc1 hf1 k180 k181 k182 k18l k140 k141 k14l k160 k161 k16l
    replace kT := kT.next hb9
    replace kP := kP.next hb9
    replace k6 := k6.next hb9
    replace k8 := k8.next hb9
    replace k10 := k10.next hb9
    replace k12 := k12.next hb9
    replace k14 := k14.next hb9
    replace k16 := k16.next hb9
    replace k18 := k18.next hb9
    replace hB := below_step hb9 hs hB
    replace hs := hB.size
    clear hb9
    have kP0 : (w1).cell? ⟨w.heap.size + 1, 0, none⟩ = some (.int .i64 0) := kP.cell 0; have kP1 : (w1).cell? ⟨w.heap.size + 1, 1, none⟩ = some (.int .i64 0) := kP.cell 1; have kP2 : (w1).cell? ⟨w.heap.size + 1, 2, none⟩ = some (.int .i64 0) := kP.cell 2; have kPf0 : (w1).frozen? ⟨w.heap.size + 1, 0, none⟩ = false := kP.frozen 0; have kPf1 : (w1).frozen? ⟨w.heap.size + 1, 1, none⟩ = false := kP.frozen 1; have kPf2 : (w1).frozen? ⟨w.heap.size + 1, 2, none⟩ = false := kP.frozen 2; have kPl : w.heap.size + 1 < (w1).heap.size := kP.lt
    go_wp2
    have R := (((kP.set 0 (.int .i64 0)).set 1 (.int .i64 0)).set 2 (.int .i64 0))
    have hR : Below w.heap.size w (((w1.setCell ⟨w.heap.size + 1, 0, none⟩ (.int .i64 0)).setCell ⟨w.heap.size + 1, 1, none⟩ (.int .i64 0)).setCell ⟨w.heap.size + 1, 2, none⟩ (.int .i64 0)) := by (repeat' (first | (with_reducible exact Below.refl _ _) | (with_reducible refine below_step (by assumption) ?_ ?_) | (with_reducible refine Below.alloc ?_ ?_ _) | (with_reducible refine Below.setCell ?_ ?_ _) | (with_reducible refine below_drewN ?_ _) | (with_reducible refine Below.drew ?_) | omega | (simp; omega) | (simp; done)))
    simp only [List.setIfInBounds_toArray, List.set_cons_zero, List.set_cons_succ] at R
    clear kP kP0 kP1 kP2 kPf0 kPf1 kPf2 kPl
    generalize (((w1.setCell ⟨w.heap.size + 1, 0, none⟩ (.int .i64 0)).setCell ⟨w.heap.size + 1, 1, none⟩ (.int .i64 0)).setCell ⟨w.heap.size + 1, 2, none⟩ (.int .i64 0)) = W9 at R hR ⊢
    have R0 : (W9).cell? ⟨w.heap.size + 1, 0, none⟩ = some (.int .i64 0) := R.cell 0; have R1 : (W9).cell? ⟨w.heap.size + 1, 1, none⟩ = some (.int .i64 0) := R.cell 1; have R2 : (W9).cell? ⟨w.heap.size + 1, 2, none⟩ = some (.int .i64 0) := R.cell 2; have Rl : w.heap.size + 1 < (W9).heap.size := R.lt
    refine bodyPost_ret (v := .tuple #[.agg #[.int .i64 0, .int .i64 0, .int .i64 0], .bool false]) (by simp [results, Try.results4, go_sem, R0, R1, R2]) rfl ?_
    exact potP_no HO.out.symm hR
  go_wp2
  (refine wp_region_clq (by kernel_rfl) (by kernel_rfl) ?_; (repeat (go_big_quiet_step ((first | (go_at_call 14; exact Calls.quiet_clsS _ (HL'.out _)) | (go_at_call 16; exact Calls.quiet_cls Closed.true _ (HC.out _)) | (go_at_call 15; exact Calls.quiet_cls Closed.true _ (HP.out _)))))); refine wpQuiet_nil ?_; intro w1 hb1; obtain ⟨hc1, hf1⟩ := bcell hb1; have hz1 := hb1.size; (try simp only [World.size_alloc] at hz1))
  have hb9 := hb1
  clear hb1 hc1 hf1 k180 k181 k182 k18l k140 k141 k14l k160 k161 k16l
  replace kT := kT.next hb9
  replace kP := kP.next hb9
  replace k6 := k6.next hb9
  replace k8 := k8.next hb9
  replace k10 := k10.next hb9
  replace k12 := k12.next hb9
  replace k14 := k14.next hb9
  replace k16 := k16.next hb9
  replace k18 := k18.next hb9
  replace hB := below_step hb9 hs hB
  replace hs := hB.size
  clear hb9
  have k180 : (w1).cell? ⟨r18, 0, none⟩ = some (.int .i64 a5) := k18.cell 0; have k181 : (w1).cell? ⟨r18, 1, none⟩ = some (.int .i64 a6) := k18.cell 1; have k182 : (w1).cell? ⟨r18, 2, none⟩ = some (.int .i64 e) := k18.cell 2; have k18l : r18 < (w1).heap.size := k18.lt
  replace HO := Lib.hid (show true = o by simpa using HO.out)
  have kP0 : (w1).cell? ⟨w.heap.size + 1, 0, none⟩ = some (.int .i64 0) := kP.cell 0; have kP1 : (w1).cell? ⟨w.heap.size + 1, 1, none⟩ = some (.int .i64 0) := kP.cell 1; have kP2 : (w1).cell? ⟨w.heap.size + 1, 2, none⟩ = some (.int .i64 0) := kP.cell 2; have kPf0 : (w1).frozen? ⟨w.heap.size + 1, 0, none⟩ = false := kP.frozen 0; have kPf1 : (w1).frozen? ⟨w.heap.size + 1, 1, none⟩ = false := kP.frozen 1; have kPf2 : (w1).frozen? ⟨w.heap.size + 1, 2, none⟩ = false := kP.frozen 2; have kPl : w.heap.size + 1 < (w1).heap.size := kP.lt
  go_wp2
  have R := (((kP.set 0 (.int .i64 a5)).set 1 (.int .i64 a6)).set 2 (.int .i64 e))
  have hR : Below w.heap.size w (((w1.setCell ⟨w.heap.size + 1, 0, none⟩ (.int .i64 a5)).setCell ⟨w.heap.size + 1, 1, none⟩ (.int .i64 a6)).setCell ⟨w.heap.size + 1, 2, none⟩ (.int .i64 e)) := by (repeat' (first | (with_reducible exact Below.refl _ _) | (with_reducible refine below_step (by assumption) ?_ ?_) | (with_reducible refine Below.alloc ?_ ?_ _) | (with_reducible refine Below.setCell ?_ ?_ _) | (with_reducible refine below_drewN ?_ _) | (with_reducible refine Below.drew ?_) | omega | (simp; omega) | (simp; done)))
  simp only [List.setIfInBounds_toArray, List.set_cons_zero, List.set_cons_succ] at R
  clear kP kP0 kP1 kP2 kPf0 kPf1 kPf2 kPl
  generalize (((w1.setCell ⟨w.heap.size + 1, 0, none⟩ (.int .i64 a5)).setCell ⟨w.heap.size + 1, 1, none⟩ (.int .i64 a6)).setCell ⟨w.heap.size + 1, 2, none⟩ (.int .i64 e)) = W9 at R hR ⊢
  have R0 : (W9).cell? ⟨w.heap.size + 1, 0, none⟩ = some (.int .i64 a5) := R.cell 0; have R1 : (W9).cell? ⟨w.heap.size + 1, 1, none⟩ = some (.int .i64 a6) := R.cell 1; have R2 : (W9).cell? ⟨w.heap.size + 1, 2, none⟩ = some (.int .i64 e) := R.cell 2; have Rl : w.heap.size + 1 < (W9).heap.size := R.lt
  refine bodyPost_ret (v := .tuple #[.agg #[.int .i64 a5, .int .i64 a6, .int .i64 e], .bool true]) (by simp [results, Try.results4, go_sem, R0, R1, R2]) rfl ?_
  exact potP_yes HO.out.symm hR
end Go.Proofs.Ytahjlgbhgaeioaa
