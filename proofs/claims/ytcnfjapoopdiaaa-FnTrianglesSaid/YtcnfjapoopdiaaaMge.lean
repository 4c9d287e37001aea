/- Several texts joined: PotS PotI PotB. -/
import Derived.Test.YtcnfjapoopdiaaaMgd
import Derived.Test.YtcnfjapoopdiaaaRoot
import Derived.Deep.Cut
import Derived.Test.YtcnfjapoopdiaaaCalcB
import Derived.Test.YtcnfjapoopdiaaaPt2
import Derived.Test.YtcnfjapoopdiaaaFv
/- PotS -/
namespace Go.Proofs.Ytcnfjapoopdiaaa
open Go.RowKit

set_option maxHeartbeats 4000000 in
set_option maxRecDepth 100000 in
theorem c_sPotNo (n p q r s t u a b c : Int) (h : vlB n p q r s t u = false) (w : World) :
    Calls Try.prog 11 #[.int .i64 n, .agg #[.int .i64 p, .int .i64 q, .int .i64 r, .int .i64 s, .int .i64 t, .int .i64 u]] w (potP w a b c false) := by
  have HV : Hid (∀ w, _) := fun w => c_cnValid n p q r s t u w
  rw [h] at HV
  clear h
  have kT := (Blk.new w #[.int .i64 p, .int .i64 q, .int .i64 r, .int .i64 s, .int .i64 t, .int .i64 u] 27).alloc (.cells #[.int .i64 0, .int .i64 0, .int .i64 0] 30)
  have kP := Blk.new (w.alloc (.cells #[.int .i64 p, .int .i64 q, .int .i64 r, .int .i64 s, .int .i64 t, .int .i64 u] 27)) #[.int .i64 0, .int .i64 0, .int .i64 0] 30
  simp only [World.size_alloc] at kP
  have hB : Below w.heap.size w ((w.alloc (.cells #[.int .i64 p, .int .i64 q, .int .i64 r, .int .i64 s, .int .i64 t, .int .i64 u] 27)).alloc (.cells #[.int .i64 0, .int .i64 0, .int .i64 0] 30)) := by (repeat' (first | (with_reducible exact Below.refl _ _) | (with_reducible refine below_step (by assumption) ?_ ?_) | (with_reducible refine Below.alloc ?_ ?_ _) | (with_reducible refine Below.setCell ?_ ?_ _) | (with_reducible refine below_drewN ?_ _) | (with_reducible refine Below.drew ?_) | omega | (simp; omega) | (simp; done)))
  have hs := hB.size
  go_enter Try.func11, Try.ntmps11
  go_wp2_with fail
  generalize ((w.alloc (.cells #[.int .i64 p, .int .i64 q, .int .i64 r, .int .i64 s, .int .i64 t, .int .i64 u] 27)).alloc (.cells #[.int .i64 0, .int .i64 0, .int .i64 0] 30)) = W at *
  have kT0 : (W).cell? ⟨w.heap.size, 0, none⟩ = some (.int .i64 p) := kT.cell 0; have kT1 : (W).cell? ⟨w.heap.size, 1, none⟩ = some (.int .i64 q) := kT.cell 1; have kT2 : (W).cell? ⟨w.heap.size, 2, none⟩ = some (.int .i64 r) := kT.cell 2; have kT3 : (W).cell? ⟨w.heap.size, 3, none⟩ = some (.int .i64 s) := kT.cell 3; have kT4 : (W).cell? ⟨w.heap.size, 4, none⟩ = some (.int .i64 t) := kT.cell 4; have kT5 : (W).cell? ⟨w.heap.size, 5, none⟩ = some (.int .i64 u) := kT.cell 5; have kTl : w.heap.size < (W).heap.size := kT.lt
  go_wp2_with fail
  refine (HV.out _).mono ?_
  rintro e u1 ⟨rfl, hb1⟩
  clear kT0 kT1 kT2 kT3 kT4 kT5 kTl
  replace kT := kT.next hb1
  replace kP := kP.next hb1
  replace hB := below_step hb1 hs hB
  replace hs := hB.size
  clear hb1
  have kP0 : (u1).cell? ⟨w.heap.size + 1, 0, none⟩ = some (.int .i64 0) := kP.cell 0; have kP1 : (u1).cell? ⟨w.heap.size + 1, 1, none⟩ = some (.int .i64 0) := kP.cell 1; have kP2 : (u1).cell? ⟨w.heap.size + 1, 2, none⟩ = some (.int .i64 0) := kP.cell 2; have kPf0 : (u1).frozen? ⟨w.heap.size + 1, 0, none⟩ = false := kP.frozen 0; have kPf1 : (u1).frozen? ⟨w.heap.size + 1, 1, none⟩ = false := kP.frozen 1; have kPf2 : (u1).frozen? ⟨w.heap.size + 1, 2, none⟩ = false := kP.frozen 2; have kPl : w.heap.size + 1 < (u1).heap.size := kP.lt
  go_wp2
  have R := (((kP.set 0 (.int .i64 0)).set 1 (.int .i64 0)).set 2 (.int .i64 0))
  have hR : Below w.heap.size w (((u1.setCell ⟨w.heap.size + 1, 0, none⟩ (.int .i64 0)).setCell ⟨w.heap.size + 1, 1, none⟩ (.int .i64 0)).setCell ⟨w.heap.size + 1, 2, none⟩ (.int .i64 0)) := by (repeat' (first | (with_reducible exact Below.refl _ _) | (with_reducible refine below_step (by assumption) ?_ ?_) | (with_reducible refine Below.alloc ?_ ?_ _) | (with_reducible refine Below.setCell ?_ ?_ _) | (with_reducible refine below_drewN ?_ _) | (with_reducible refine Below.drew ?_) | omega | (simp; omega) | (simp; done)))
  simp only [List.setIfInBounds_toArray, List.set_cons_zero, List.set_cons_succ] at R
  clear kP kP0 kP1 kP2 kPf0 kPf1 kPf2 kPl
  generalize (((u1.setCell ⟨w.heap.size + 1, 0, none⟩ (.int .i64 0)).setCell ⟨w.heap.size + 1, 1, none⟩ (.int .i64 0)).setCell ⟨w.heap.size + 1, 2, none⟩ (.int .i64 0)) = W9 at R hR ⊢
  have R0 : (W9).cell? ⟨w.heap.size + 1, 0, none⟩ = some (.int .i64 0) := R.cell 0; have R1 : (W9).cell? ⟨w.heap.size + 1, 1, none⟩ = some (.int .i64 0) := R.cell 1; have R2 : (W9).cell? ⟨w.heap.size + 1, 2, none⟩ = some (.int .i64 0) := R.cell 2; have Rl : w.heap.size + 1 < (W9).heap.size := R.lt
  refine bodyPost_ret (v := .tuple #[.agg #[.int .i64 0, .int .i64 0, .int .i64 0], .bool false]) (by simp [results, Try.results11, go_sem, R0, R1, R2]) rfl ?_
  exact potP_no rfl hR
set_option maxHeartbeats 4000000 in
set_option maxRecDepth 100000 in
theorem c_sPotMain (n p q r s t u a1 b1 a2 b2 a3 b3 a4 b4 a5 b5 a6 b6 e : Int) (m1 m2 m3 m4 m5 m6 : Bool) (hv : vlB n p q r s t u = true) (hn : 1 ≤ n ∧ n ≤ 31) (he : 0 ≤ e ∧ e ≤ 40000)
    (H1 : Hid (∀ w : World, Calls Try.prog 48 #[.agg #[.int .i64 p, .int .i64 q], .agg #[.int .i64 t, .int .i64 u]] w fun x w' => x = .returned (.tuple #[.agg #[.int .i64 a1, .int .i64 b1], .bool m1]) ∧ Below w.heap.size w w'))
    (H2 : Hid (∀ w : World, Calls Try.prog 49 #[.agg #[.int .i64 r, .int .i64 s], .agg #[.int .i64 r, .int .i64 s]] w fun x w' => x = .returned (.tuple #[.agg #[.int .i64 a2, .int .i64 b2], .bool m2]) ∧ Below w.heap.size w w'))
    (H3 : m1 = true → Hid (∀ w : World, Calls Try.prog 49 #[.agg #[.int .i64 n, .int .i64 1], .agg #[.int .i64 a1, .int .i64 b1]] w fun x w' => x = .returned (.tuple #[.agg #[.int .i64 a3, .int .i64 b3], .bool m3]) ∧ Below w.heap.size w w'))
    (H4 : m1 = true → Hid (∀ w : World, Calls Try.prog 49 #[.agg #[.int .i64 (2 * n * n), .int .i64 1], .agg #[.int .i64 a1, .int .i64 b1]] w fun x w' => x = .returned (.tuple #[.agg #[.int .i64 a4, .int .i64 b4], .bool m4]) ∧ Below w.heap.size w w'))
    (H5 : m3 = true → Hid (∀ w : World, Calls Try.prog 51 #[.agg #[.int .i64 a3, .int .i64 b3], .agg #[.int .i64 r, .int .i64 s]] w fun x w' => x = .returned (.tuple #[.agg #[.int .i64 a5, .int .i64 b5], .bool m5]) ∧ Below w.heap.size w w'))
    (H6 : m2 = true → m4 = true → Hid (∀ w : World, Calls Try.prog 51 #[.agg #[.int .i64 a4, .int .i64 b4], .agg #[.int .i64 a2, .int .i64 b2]] w fun x w' => x = .returned (.tuple #[.agg #[.int .i64 a6, .int .i64 b6], .bool m6]) ∧ Below w.heap.size w w'))
    (HR : m5 = true → Hid (∀ w : World, Calls Try.prog 52 #[.int .i64 b5] w fun x w' => x = .returned (.int .i64 e) ∧ Below w.heap.size w w')) (w : World) :
    Calls Try.prog 11 #[.int .i64 n, .agg #[.int .i64 p, .int .i64 q, .int .i64 r, .int .i64 s, .int .i64 t, .int .i64 u]] w (potP w a5 a6 e (m1 && m2 && m3 && m4 && m5 && m6 && ((e * e == b5) && inB e 1 20 && (e * e * e == b6) && ptF (congA n) 0 a5 a6 e))) := by
  have HV : Hid (∀ w, _) := fun w => c_cnValid n p q r s t u w
  rw [hv] at HV
  have hq := congA_bd hn.1 hn.2
  have HC : Hid (∀ w, _) := fun w => c_cnCurve n hn.1 hn.2 w
  have HP : Hid (∀ w, _) := fun w => c_ptOn (congA n) 0 a5 a6 e (by unfold congA; omega) (by omega) w
  have HI := Lib.hid (fun k w => c_frInt k w)
  have HL := Lib.hid (fun k w => c_l1In k 1 20 w)
  have hnn : 1 ≤ n * n ∧ n * n ≤ 961 := ⟨by have := Int.mul_le_mul hn.1 hn.1 (by omega) (by omega); omega, by have := Int.mul_le_mul hn.2 hn.2 (by omega) (by omega); omega⟩
  have hm : 2 * n * n = 2 * (n * n) := Int.mul_assoc 2 n n
  have hw2 : IntKind.i64.wrap (2 * n) = 2 * n := IntWalk.i64_in _ (by omega)
  have hw3 : IntKind.i64.wrap (2 * n * n) = 2 * n * n := IntWalk.i64_in _ (by omega)
  have hee : 0 ≤ e * e ∧ e * e ≤ 1600000000 := ⟨Int.mul_nonneg he.1 he.1, by have := Int.mul_le_mul he.2 he.2 he.1 (by omega); omega⟩
  have he3 : 0 ≤ e * e * e ∧ e * e * e ≤ 64000000000000 := ⟨Int.mul_nonneg hee.1 he.1, by have := Int.mul_le_mul hee.2 he.2 he.1 (by omega); omega⟩
  have hwe : IntKind.i64.wrap (e * e) = e * e := IntWalk.i64_in _ (by omega)
  have hwf : IntKind.i64.wrap (e * e * e) = e * e * e := IntWalk.i64_in _ (by omega)
  clear hv hq hm hnn hee he3 he hn
  generalize congA n = A at *
  obtain ⟨o, ho⟩ : ∃ o, (m1 && m2 && m3 && m4 && m5 && m6 && ((e * e == b5) && inB e 1 20 && (e * e * e == b6) && ptF A 0 a5 a6 e)) = o := ⟨_, rfl⟩
  rw [ho]
  have HO := Lib.hid ho
  clear ho
  have J3 := Lib.hid H3
  have J4 := Lib.hid H4
  have J5 := Lib.hid H5
  have J6 := Lib.hid H6
  have JR := Lib.hid HR
  clear H3 H4 H5 H6 HR
  have kT := (Blk.new w #[.int .i64 p, .int .i64 q, .int .i64 r, .int .i64 s, .int .i64 t, .int .i64 u] 27).alloc (.cells #[.int .i64 0, .int .i64 0, .int .i64 0] 30)
  have kP := Blk.new (w.alloc (.cells #[.int .i64 p, .int .i64 q, .int .i64 r, .int .i64 s, .int .i64 t, .int .i64 u] 27)) #[.int .i64 0, .int .i64 0, .int .i64 0] 30
  simp only [World.size_alloc] at kP
  have hB : Below w.heap.size w ((w.alloc (.cells #[.int .i64 p, .int .i64 q, .int .i64 r, .int .i64 s, .int .i64 t, .int .i64 u] 27)).alloc (.cells #[.int .i64 0, .int .i64 0, .int .i64 0] 30)) := by (repeat' (first | (with_reducible exact Below.refl _ _) | (with_reducible refine below_step (by assumption) ?_ ?_) | (with_reducible refine Below.alloc ?_ ?_ _) | (with_reducible refine Below.setCell ?_ ?_ _) | (with_reducible refine below_drewN ?_ _) | (with_reducible refine Below.drew ?_) | omega | (simp; omega) | (simp; done)))
  have hs := hB.size
  go_enter Try.func11, Try.ntmps11
  go_wp2_with fail
  generalize ((w.alloc (.cells #[.int .i64 p, .int .i64 q, .int .i64 r, .int .i64 s, .int .i64 t, .int .i64 u] 27)).alloc (.cells #[.int .i64 0, .int .i64 0, .int .i64 0] 30)) = W at *
  have kT0 : (W).cell? ⟨w.heap.size, 0, none⟩ = some (.int .i64 p) := kT.cell 0; have kT1 : (W).cell? ⟨w.heap.size, 1, none⟩ = some (.int .i64 q) := kT.cell 1; have kT2 : (W).cell? ⟨w.heap.size, 2, none⟩ = some (.int .i64 r) := kT.cell 2; have kT3 : (W).cell? ⟨w.heap.size, 3, none⟩ = some (.int .i64 s) := kT.cell 3; have kT4 : (W).cell? ⟨w.heap.size, 4, none⟩ = some (.int .i64 t) := kT.cell 4; have kT5 : (W).cell? ⟨w.heap.size, 5, none⟩ = some (.int .i64 u) := kT.cell 5; have kTl : w.heap.size < (W).heap.size := kT.lt
  go_wp2_with fail
  refine (HV.out _).mono ?_
  rintro e u1 ⟨rfl, hb1⟩
  clear kT0 kT1 kT2 kT3 kT4 kT5 kTl
  replace kT := kT.next hb1
  replace kP := kP.next hb1
  replace hB := below_step hb1 hs hB
  replace hs := hB.size
  clear hb1
  have kT0 : (u1).cell? ⟨w.heap.size, 0, none⟩ = some (.int .i64 p) := kT.cell 0; have kT1 : (u1).cell? ⟨w.heap.size, 1, none⟩ = some (.int .i64 q) := kT.cell 1; have kT2 : (u1).cell? ⟨w.heap.size, 2, none⟩ = some (.int .i64 r) := kT.cell 2; have kT3 : (u1).cell? ⟨w.heap.size, 3, none⟩ = some (.int .i64 s) := kT.cell 3; have kT4 : (u1).cell? ⟨w.heap.size, 4, none⟩ = some (.int .i64 t) := kT.cell 4; have kT5 : (u1).cell? ⟨w.heap.size, 5, none⟩ = some (.int .i64 u) := kT.cell 5; have kTl : w.heap.size < (u1).heap.size := kT.lt
  go_wp2_with fail
  refine (H1.out _).mono ?_
  rintro e' v3 ⟨rfl, hb⟩
  clear kT0 kT1 kT2 kT3 kT4 kT5 kTl
  replace kT := kT.next hb
  replace kP := kP.next hb
  replace hB := below_step hb hs hB
  replace hs := hB.size
  clear hb
  replace kT := kT.alloc (.cells #[.int .i64 a1, .int .i64 b1] 25)
  replace kP := kP.alloc (.cells #[.int .i64 a1, .int .i64 b1] 25)
  have k6 := Blk.new v3 #[.int .i64 a1, .int .i64 b1] 25
  replace hB := hB.alloc hs (.cells #[.int .i64 a1, .int .i64 b1] 25)
  replace hs := hB.size
  go_upto_region 4 with (fail)
  generalize v3.alloc _ = W3 at *
  generalize v3.heap.size = r6 at *
  have kT0 : (W3).cell? ⟨w.heap.size, 0, none⟩ = some (.int .i64 p) := kT.cell 0; have kT1 : (W3).cell? ⟨w.heap.size, 1, none⟩ = some (.int .i64 q) := kT.cell 1; have kT2 : (W3).cell? ⟨w.heap.size, 2, none⟩ = some (.int .i64 r) := kT.cell 2; have kT3 : (W3).cell? ⟨w.heap.size, 3, none⟩ = some (.int .i64 s) := kT.cell 3; have kT4 : (W3).cell? ⟨w.heap.size, 4, none⟩ = some (.int .i64 t) := kT.cell 4; have kT5 : (W3).cell? ⟨w.heap.size, 5, none⟩ = some (.int .i64 u) := kT.cell 5; have kTl : w.heap.size < (W3).heap.size := kT.lt
  go_wp2_with fail
  refine (H2.out _).mono ?_
  rintro e' v4 ⟨rfl, hb⟩
  clear kT0 kT1 kT2 kT3 kT4 kT5 kTl
  replace kT := kT.next hb
  replace kP := kP.next hb
  replace k6 := k6.next hb
  replace hB := below_step hb hs hB
  replace hs := hB.size
  clear hb
  replace kT := kT.alloc (.cells #[.int .i64 a2, .int .i64 b2] 25)
  replace kP := kP.alloc (.cells #[.int .i64 a2, .int .i64 b2] 25)
  replace k6 := k6.alloc (.cells #[.int .i64 a2, .int .i64 b2] 25)
  have k8 := Blk.new v4 #[.int .i64 a2, .int .i64 b2] 25
  replace hB := hB.alloc hs (.cells #[.int .i64 a2, .int .i64 b2] 25)
  replace hs := hB.size
  go_upto_region 5 with (fail)
  generalize v4.alloc _ = W4 at *
  generalize v4.heap.size = r8 at *
  cases m1
  · replace HO := Lib.hid (show false = o by simpa using HO.out)
    have kP0 : (W4).cell? ⟨w.heap.size + 1, 0, none⟩ = some (.int .i64 0) := kP.cell 0; have kP1 : (W4).cell? ⟨w.heap.size + 1, 1, none⟩ = some (.int .i64 0) := kP.cell 1; have kP2 : (W4).cell? ⟨w.heap.size + 1, 2, none⟩ = some (.int .i64 0) := kP.cell 2; have kPf0 : (W4).frozen? ⟨w.heap.size + 1, 0, none⟩ = false := kP.frozen 0; have kPf1 : (W4).frozen? ⟨w.heap.size + 1, 1, none⟩ = false := kP.frozen 1; have kPf2 : (W4).frozen? ⟨w.heap.size + 1, 2, none⟩ = false := kP.frozen 2; have kPl : w.heap.size + 1 < (W4).heap.size := kP.lt
    go_wp2
    have R := (((kP.set 0 (.int .i64 0)).set 1 (.int .i64 0)).set 2 (.int .i64 0))
    have hR : Below w.heap.size w (((W4.setCell ⟨w.heap.size + 1, 0, none⟩ (.int .i64 0)).setCell ⟨w.heap.size + 1, 1, none⟩ (.int .i64 0)).setCell ⟨w.heap.size + 1, 2, none⟩ (.int .i64 0)) := by (repeat' (first | (with_reducible exact Below.refl _ _) | (with_reducible refine below_step (by assumption) ?_ ?_) | (with_reducible refine Below.alloc ?_ ?_ _) | (with_reducible refine Below.setCell ?_ ?_ _) | (with_reducible refine below_drewN ?_ _) | (with_reducible refine Below.drew ?_) | omega | (simp; omega) | (simp; done)))
    simp only [List.setIfInBounds_toArray, List.set_cons_zero, List.set_cons_succ] at R
    clear kP kP0 kP1 kP2 kPf0 kPf1 kPf2 kPl
    generalize (((W4.setCell ⟨w.heap.size + 1, 0, none⟩ (.int .i64 0)).setCell ⟨w.heap.size + 1, 1, none⟩ (.int .i64 0)).setCell ⟨w.heap.size + 1, 2, none⟩ (.int .i64 0)) = W9 at R hR ⊢
    have R0 : (W9).cell? ⟨w.heap.size + 1, 0, none⟩ = some (.int .i64 0) := R.cell 0; have R1 : (W9).cell? ⟨w.heap.size + 1, 1, none⟩ = some (.int .i64 0) := R.cell 1; have R2 : (W9).cell? ⟨w.heap.size + 1, 2, none⟩ = some (.int .i64 0) := R.cell 2; have Rl : w.heap.size + 1 < (W9).heap.size := R.lt
    refine bodyPost_ret (v := .tuple #[.agg #[.int .i64 0, .int .i64 0, .int .i64 0], .bool false]) (by simp [results, Try.results11, go_sem, R0, R1, R2]) rfl ?_
    exact potP_no HO.out.symm hR
  cases m2
  · replace HO := Lib.hid (show false = o by simpa using HO.out)
    have kP0 : (W4).cell? ⟨w.heap.size + 1, 0, none⟩ = some (.int .i64 0) := kP.cell 0; have kP1 : (W4).cell? ⟨w.heap.size + 1, 1, none⟩ = some (.int .i64 0) := kP.cell 1; have kP2 : (W4).cell? ⟨w.heap.size + 1, 2, none⟩ = some (.int .i64 0) := kP.cell 2; have kPf0 : (W4).frozen? ⟨w.heap.size + 1, 0, none⟩ = false := kP.frozen 0; have kPf1 : (W4).frozen? ⟨w.heap.size + 1, 1, none⟩ = false := kP.frozen 1; have kPf2 : (W4).frozen? ⟨w.heap.size + 1, 2, none⟩ = false := kP.frozen 2; have kPl : w.heap.size + 1 < (W4).heap.size := kP.lt
    go_wp2
    have R := (((kP.set 0 (.int .i64 0)).set 1 (.int .i64 0)).set 2 (.int .i64 0))
    have hR : Below w.heap.size w (((W4.setCell ⟨w.heap.size + 1, 0, none⟩ (.int .i64 0)).setCell ⟨w.heap.size + 1, 1, none⟩ (.int .i64 0)).setCell ⟨w.heap.size + 1, 2, none⟩ (.int .i64 0)) := by (repeat' (first | (with_reducible exact Below.refl _ _) | (with_reducible refine below_step (by assumption) ?_ ?_) | (with_reducible refine Below.alloc ?_ ?_ _) | (with_reducible refine Below.setCell ?_ ?_ _) | (with_reducible refine below_drewN ?_ _) | (with_reducible refine Below.drew ?_) | omega | (simp; omega) | (simp; done)))
    simp only [List.setIfInBounds_toArray, List.set_cons_zero, List.set_cons_succ] at R
    clear kP kP0 kP1 kP2 kPf0 kPf1 kPf2 kPl
    generalize (((W4.setCell ⟨w.heap.size + 1, 0, none⟩ (.int .i64 0)).setCell ⟨w.heap.size + 1, 1, none⟩ (.int .i64 0)).setCell ⟨w.heap.size + 1, 2, none⟩ (.int .i64 0)) = W9 at R hR ⊢
    have R0 : (W9).cell? ⟨w.heap.size + 1, 0, none⟩ = some (.int .i64 0) := R.cell 0; have R1 : (W9).cell? ⟨w.heap.size + 1, 1, none⟩ = some (.int .i64 0) := R.cell 1; have R2 : (W9).cell? ⟨w.heap.size + 1, 2, none⟩ = some (.int .i64 0) := R.cell 2; have Rl : w.heap.size + 1 < (W9).heap.size := R.lt
    refine bodyPost_ret (v := .tuple #[.agg #[.int .i64 0, .int .i64 0, .int .i64 0], .bool false]) (by simp [results, Try.results11, go_sem, R0, R1, R2]) rfl ?_
    exact potP_no HO.out.symm hR
  have I3 := J3.out (by trivial)
  have I4 := J4.out (by trivial)
  clear J3 J4 H1 H2
  have k60 : (W4).cell? ⟨r6, 0, none⟩ = some (.int .i64 a1) := k6.cell 0; have k61 : (W4).cell? ⟨r6, 1, none⟩ = some (.int .i64 b1) := k6.cell 1; have k6l : r6 < (W4).heap.size := k6.lt
  go_wp2
  apply region_join1 (fun r10 Wz => Over [] W4 Wz ∧ (fun _ => True) Wz ∧ W4.heap.size ≤ r10 ∧ Blk r10 #[.int .i64 a3, .int .i64 b3] 25 Wz)
  · intro hcont
    refine wp_region_cls [] (fun _ => false) (fun _ => True) (KD (fun _ => True) []) (by kernel_rfl) ⟨trivial, MemL.nil _⟩ ?_
    apply wpAnyF_hd ⟨W4, Over.refl _ _, trivial, MemL.nil _⟩ [true, true, true, true, true, true, true] 3 (KD.closed (Closed.true) _) (fun _ _ => trivial) (by kernel_rfl) (by kernel_rfl) (by kernel_rfl) (by kernel_rfl) (by simp)
    · intro E hE hEN hEn; (repeat (first | (refine wpHL_take ?_; go_big_quiet_step ((first | (go_at_call 50; exact Calls.quiet_cls hE _ (HI.out _ _)) | (go_at_call 49; exact Calls.quiet_cls hE _ (I3.out _)))); refine wpQuiet_nil ?_) | refine wpHL_skip ?_)); exact wpHL_end rfl
    refine wpAnyF_ready [7] 2 (by kernel_rfl) (by kernel_rfl) (by simp) ?_
    refine AllF.cons ?_ ?_
    · refine stepK_alloc (zs := #[.int .i64 0, .int .i64 0]) (T := 25) (by rfl) (by rfl) (by rfl) (fun _ => by go_simp) (Closed.true) (fun r10 hr10 hl10 hne => ?_)
      simp only [Act.put, List.setIfInBounds_toArray, List.set_cons_succ, List.set_cons_zero]
      refine wpAnyF_ready [8] 1 (by kernel_rfl) (by kernel_rfl) (by simp) ?_
      refine AllF.cons ?_ ?_
      · refine stepK_store (v := .agg #[.int .i64 a3, .int .i64 b3]) [] [] (by rfl) (by rfl) (by rfl) (by rfl) (by rfl) (by rfl) (fun _ => by go_simp) (by rfl) (by simp [Value.cells, one1]) (.inl hr10) (Closed.true) (fun _ _ h _ => h) (by simp) (fun hne => ?_)
        try simp only [Value.cells]
        apply wpAnyF_hd hne [false, false, false, false, false, false, false, false, false, true] 0 (KD.closed (Closed.true) _) (fun _ _ => trivial) (by kernel_rfl) (by kernel_rfl) (by kernel_rfl) (by kernel_rfl) (by simp)
        · intro E hE hEN hEn; (repeat (first | (refine wpHL_take ?_; go_big_quiet_step ((first | (go_at_call 50; exact Calls.quiet_cls hE _ (HI.out _ _)) | (go_at_call 49; exact Calls.quiet_cls hE _ (I3.out _)))); refine wpQuiet_nil ?_) | refine wpHL_skip ?_)); exact wpHL_end rfl
        refine wpAnyF_done (by kernel_rfl) (fun Wz hOz hDz => ?_) _
        exact hcont r10 Wz ⟨hOz, hDz.1, (by omega), hDz.2.head⟩
      exact AllF.nil
    exact AllF.nil
  try dsimp only
  rintro r10 W5 ⟨hO, _, hr, k10⟩
  have hq := hO.below
  clear k60 k61 k6l
  clear hO hr
  replace kT := kT.next hq
  replace kP := kP.next hq
  replace k6 := k6.next hq
  replace k8 := k8.next hq
  replace hB := below_step hq hs hB
  replace hs := hB.size
  clear hq
  have k60 : (W5).cell? ⟨r6, 0, none⟩ = some (.int .i64 a1) := k6.cell 0; have k61 : (W5).cell? ⟨r6, 1, none⟩ = some (.int .i64 b1) := k6.cell 1; have k6l : r6 < (W5).heap.size := k6.lt
  go_wp2
  apply region_join1 (fun r12 Wz => Over [] W5 Wz ∧ (fun _ => True) Wz ∧ W5.heap.size ≤ r12 ∧ Blk r12 #[.int .i64 a4, .int .i64 b4] 25 Wz)
  · intro hcont
    refine wp_region_cls [] (fun _ => false) (fun _ => True) (KD (fun _ => True) []) (by kernel_rfl) ⟨trivial, MemL.nil _⟩ ?_
    apply wpAnyF_hd ⟨W5, Over.refl _ _, trivial, MemL.nil _⟩ [true, true, true, true, true, true, true, true, true, true] 3 (KD.closed (Closed.true) _) (fun _ _ => trivial) (by kernel_rfl) (by kernel_rfl) (by kernel_rfl) (by kernel_rfl) (by simp)
    · intro E hE hEN hEn; (repeat (first | (refine wpHL_take ?_; go_big_quiet_step ((first | (go_at_call 50; exact Calls.quiet_cls hE _ (HI.out _ _)) | (go_at_call 49; exact Calls.quiet_cls hE _ (I4.out _)))); refine wpQuiet_nil ?_) | refine wpHL_skip ?_)); exact wpHL_end rfl
    refine wpAnyF_ready [10] 2 (by kernel_rfl) (by kernel_rfl) (by simp) ?_
    refine AllF.cons ?_ ?_
    · refine stepK_alloc (zs := #[.int .i64 0, .int .i64 0]) (T := 25) (by rfl) (by rfl) (by rfl) (fun _ => by go_simp) (Closed.true) (fun r12 hr12 hl12 hne => ?_)
      simp only [Act.put, List.setIfInBounds_toArray, List.set_cons_succ, List.set_cons_zero]
      refine wpAnyF_ready [11] 1 (by kernel_rfl) (by kernel_rfl) (by simp) ?_
      refine AllF.cons ?_ ?_
      · refine stepK_store (v := .agg #[.int .i64 a4, .int .i64 b4]) [] [] (by rfl) (by rfl) (by rfl) (by rfl) (by rfl) (by rfl) (fun _ => by go_simp) (by rfl) (by simp [Value.cells, one1]) (.inl hr12) (Closed.true) (fun _ _ h _ => h) (by simp) (fun hne => ?_)
        try simp only [Value.cells]
        apply wpAnyF_hd hne [false, false, false, false, false, false, false, false, false, false, false, false, true] 0 (KD.closed (Closed.true) _) (fun _ _ => trivial) (by kernel_rfl) (by kernel_rfl) (by kernel_rfl) (by kernel_rfl) (by simp)
        · intro E hE hEN hEn; (repeat (first | (refine wpHL_take ?_; go_big_quiet_step ((first | (go_at_call 50; exact Calls.quiet_cls hE _ (HI.out _ _)) | (go_at_call 49; exact Calls.quiet_cls hE _ (I4.out _)))); refine wpQuiet_nil ?_) | refine wpHL_skip ?_)); exact wpHL_end rfl
        refine wpAnyF_done (by kernel_rfl) (fun Wz hOz hDz => ?_) _
        exact hcont r12 Wz ⟨hOz, hDz.1, (by omega), hDz.2.head⟩
      exact AllF.nil
    exact AllF.nil
  try dsimp only
  rintro r12 W6 ⟨hO, _, hr, k12⟩
  have hq := hO.below
  clear k60 k61 k6l
  clear hO hr
  replace kT := kT.next hq
  replace kP := kP.next hq
  replace k6 := k6.next hq
  replace k8 := k8.next hq
  replace k10 := k10.next hq
  replace hB := below_step hq hs hB
  replace hs := hB.size
  clear hq
  clear I3 I4 HI
  cases m3
  · replace HO := Lib.hid (show false = o by simpa using HO.out)
    have kP0 : (W6).cell? ⟨w.heap.size + 1, 0, none⟩ = some (.int .i64 0) := kP.cell 0; have kP1 : (W6).cell? ⟨w.heap.size + 1, 1, none⟩ = some (.int .i64 0) := kP.cell 1; have kP2 : (W6).cell? ⟨w.heap.size + 1, 2, none⟩ = some (.int .i64 0) := kP.cell 2; have kPf0 : (W6).frozen? ⟨w.heap.size + 1, 0, none⟩ = false := kP.frozen 0; have kPf1 : (W6).frozen? ⟨w.heap.size + 1, 1, none⟩ = false := kP.frozen 1; have kPf2 : (W6).frozen? ⟨w.heap.size + 1, 2, none⟩ = false := kP.frozen 2; have kPl : w.heap.size + 1 < (W6).heap.size := kP.lt
    go_wp2
    have R := (((kP.set 0 (.int .i64 0)).set 1 (.int .i64 0)).set 2 (.int .i64 0))
    have hR : Below w.heap.size w (((W6.setCell ⟨w.heap.size + 1, 0, none⟩ (.int .i64 0)).setCell ⟨w.heap.size + 1, 1, none⟩ (.int .i64 0)).setCell ⟨w.heap.size + 1, 2, none⟩ (.int .i64 0)) := by (repeat' (first | (with_reducible exact Below.refl _ _) | (with_reducible refine below_step (by assumption) ?_ ?_) | (with_reducible refine Below.alloc ?_ ?_ _) | (with_reducible refine Below.setCell ?_ ?_ _) | (with_reducible refine below_drewN ?_ _) | (with_reducible refine Below.drew ?_) | omega | (simp; omega) | (simp; done)))
    simp only [List.setIfInBounds_toArray, List.set_cons_zero, List.set_cons_succ] at R
    clear kP kP0 kP1 kP2 kPf0 kPf1 kPf2 kPl
    generalize (((W6.setCell ⟨w.heap.size + 1, 0, none⟩ (.int .i64 0)).setCell ⟨w.heap.size + 1, 1, none⟩ (.int .i64 0)).setCell ⟨w.heap.size + 1, 2, none⟩ (.int .i64 0)) = W9 at R hR ⊢
    have R0 : (W9).cell? ⟨w.heap.size + 1, 0, none⟩ = some (.int .i64 0) := R.cell 0; have R1 : (W9).cell? ⟨w.heap.size + 1, 1, none⟩ = some (.int .i64 0) := R.cell 1; have R2 : (W9).cell? ⟨w.heap.size + 1, 2, none⟩ = some (.int .i64 0) := R.cell 2; have Rl : w.heap.size + 1 < (W9).heap.size := R.lt
    refine bodyPost_ret (v := .tuple #[.agg #[.int .i64 0, .int .i64 0, .int .i64 0], .bool false]) (by simp [results, Try.results11, go_sem, R0, R1, R2]) rfl ?_
    exact potP_no HO.out.symm hR
  cases m4
  · replace HO := Lib.hid (show false = o by simpa using HO.out)
    have kP0 : (W6).cell? ⟨w.heap.size + 1, 0, none⟩ = some (.int .i64 0) := kP.cell 0; have kP1 : (W6).cell? ⟨w.heap.size + 1, 1, none⟩ = some (.int .i64 0) := kP.cell 1; have kP2 : (W6).cell? ⟨w.heap.size + 1, 2, none⟩ = some (.int .i64 0) := kP.cell 2; have kPf0 : (W6).frozen? ⟨w.heap.size + 1, 0, none⟩ = false := kP.frozen 0; have kPf1 : (W6).frozen? ⟨w.heap.size + 1, 1, none⟩ = false := kP.frozen 1; have kPf2 : (W6).frozen? ⟨w.heap.size + 1, 2, none⟩ = false := kP.frozen 2; have kPl : w.heap.size + 1 < (W6).heap.size := kP.lt
    go_wp2
    have R := (((kP.set 0 (.int .i64 0)).set 1 (.int .i64 0)).set 2 (.int .i64 0))
    have hR : Below w.heap.size w (((W6.setCell ⟨w.heap.size + 1, 0, none⟩ (.int .i64 0)).setCell ⟨w.heap.size + 1, 1, none⟩ (.int .i64 0)).setCell ⟨w.heap.size + 1, 2, none⟩ (.int .i64 0)) := by (repeat' (first | (with_reducible exact Below.refl _ _) | (with_reducible refine below_step (by assumption) ?_ ?_) | (with_reducible refine Below.alloc ?_ ?_ _) | (with_reducible refine Below.setCell ?_ ?_ _) | (with_reducible refine below_drewN ?_ _) | (with_reducible refine Below.drew ?_) | omega | (simp; omega) | (simp; done)))
    simp only [List.setIfInBounds_toArray, List.set_cons_zero, List.set_cons_succ] at R
    clear kP kP0 kP1 kP2 kPf0 kPf1 kPf2 kPl
    generalize (((W6.setCell ⟨w.heap.size + 1, 0, none⟩ (.int .i64 0)).setCell ⟨w.heap.size + 1, 1, none⟩ (.int .i64 0)).setCell ⟨w.heap.size + 1, 2, none⟩ (.int .i64 0)) = W9 at R hR ⊢
    have R0 : (W9).cell? ⟨w.heap.size + 1, 0, none⟩ = some (.int .i64 0) := R.cell 0; have R1 : (W9).cell? ⟨w.heap.size + 1, 1, none⟩ = some (.int .i64 0) := R.cell 1; have R2 : (W9).cell? ⟨w.heap.size + 1, 2, none⟩ = some (.int .i64 0) := R.cell 2; have Rl : w.heap.size + 1 < (W9).heap.size := R.lt
    refine bodyPost_ret (v := .tuple #[.agg #[.int .i64 0, .int .i64 0, .int .i64 0], .bool false]) (by simp [results, Try.results11, go_sem, R0, R1, R2]) rfl ?_
    exact potP_no HO.out.symm hR
  have I5 := J5.out (by trivial)
  have I6 := J6.out (by trivial) (by trivial)
  clear J5 J6
  have k100 : (W6).cell? ⟨r10, 0, none⟩ = some (.int .i64 a3) := k10.cell 0; have k101 : (W6).cell? ⟨r10, 1, none⟩ = some (.int .i64 b3) := k10.cell 1; have k10l : r10 < (W6).heap.size := k10.lt
  have kT0 : (W6).cell? ⟨w.heap.size, 0, none⟩ = some (.int .i64 p) := kT.cell 0; have kT1 : (W6).cell? ⟨w.heap.size, 1, none⟩ = some (.int .i64 q) := kT.cell 1; have kT2 : (W6).cell? ⟨w.heap.size, 2, none⟩ = some (.int .i64 r) := kT.cell 2; have kT3 : (W6).cell? ⟨w.heap.size, 3, none⟩ = some (.int .i64 s) := kT.cell 3; have kT4 : (W6).cell? ⟨w.heap.size, 4, none⟩ = some (.int .i64 t) := kT.cell 4; have kT5 : (W6).cell? ⟨w.heap.size, 5, none⟩ = some (.int .i64 u) := kT.cell 5; have kTl : w.heap.size < (W6).heap.size := kT.lt
  go_wp2_with fail
  refine (I5.out _).mono ?_
  rintro e' v11 ⟨rfl, hb⟩
  clear k100 k101 k10l
  clear kT0 kT1 kT2 kT3 kT4 kT5 kTl
  replace kT := kT.next hb
  replace kP := kP.next hb
  replace k6 := k6.next hb
  replace k8 := k8.next hb
  replace k10 := k10.next hb
  replace k12 := k12.next hb
  replace hB := below_step hb hs hB
  replace hs := hB.size
  clear hb
  replace kT := kT.alloc (.cells #[.int .i64 a5, .int .i64 b5] 25)
  replace kP := kP.alloc (.cells #[.int .i64 a5, .int .i64 b5] 25)
  replace k6 := k6.alloc (.cells #[.int .i64 a5, .int .i64 b5] 25)
  replace k8 := k8.alloc (.cells #[.int .i64 a5, .int .i64 b5] 25)
  replace k10 := k10.alloc (.cells #[.int .i64 a5, .int .i64 b5] 25)
  replace k12 := k12.alloc (.cells #[.int .i64 a5, .int .i64 b5] 25)
  have k14 := Blk.new v11 #[.int .i64 a5, .int .i64 b5] 25
  replace hB := hB.alloc hs (.cells #[.int .i64 a5, .int .i64 b5] 25)
  replace hs := hB.size
  go_upto_region 12 with (fail)
  generalize v11.alloc _ = W7 at *
  generalize v11.heap.size = r14 at *
  have k120 : (W7).cell? ⟨r12, 0, none⟩ = some (.int .i64 a4) := k12.cell 0; have k121 : (W7).cell? ⟨r12, 1, none⟩ = some (.int .i64 b4) := k12.cell 1; have k12l : r12 < (W7).heap.size := k12.lt
  have k80 : (W7).cell? ⟨r8, 0, none⟩ = some (.int .i64 a2) := k8.cell 0; have k81 : (W7).cell? ⟨r8, 1, none⟩ = some (.int .i64 b2) := k8.cell 1; have k8l : r8 < (W7).heap.size := k8.lt
  go_wp2_with fail
  refine (I6.out _).mono ?_
  rintro e' v12 ⟨rfl, hb⟩
  clear k120 k121 k12l
  clear k80 k81 k8l
  replace kT := kT.next hb
  replace kP := kP.next hb
  replace k6 := k6.next hb
  replace k8 := k8.next hb
  replace k10 := k10.next hb
  replace k12 := k12.next hb
  replace k14 := k14.next hb
  replace hB := below_step hb hs hB
  replace hs := hB.size
  clear hb
  replace kT := kT.alloc (.cells #[.int .i64 a6, .int .i64 b6] 25)
  replace kP := kP.alloc (.cells #[.int .i64 a6, .int .i64 b6] 25)
  replace k6 := k6.alloc (.cells #[.int .i64 a6, .int .i64 b6] 25)
  replace k8 := k8.alloc (.cells #[.int .i64 a6, .int .i64 b6] 25)
  replace k10 := k10.alloc (.cells #[.int .i64 a6, .int .i64 b6] 25)
  replace k12 := k12.alloc (.cells #[.int .i64 a6, .int .i64 b6] 25)
  replace k14 := k14.alloc (.cells #[.int .i64 a6, .int .i64 b6] 25)
  have k16 := Blk.new v12 #[.int .i64 a6, .int .i64 b6] 25
  replace hB := hB.alloc hs (.cells #[.int .i64 a6, .int .i64 b6] 25)
  replace hs := hB.size
  go_upto_region 13 with (fail)
  generalize v12.alloc _ = W8 at *
  generalize v12.heap.size = r16 at *
  cases m5
  · replace HO := Lib.hid (show false = o by simpa using HO.out)
    have kP0 : (W8).cell? ⟨w.heap.size + 1, 0, none⟩ = some (.int .i64 0) := kP.cell 0; have kP1 : (W8).cell? ⟨w.heap.size + 1, 1, none⟩ = some (.int .i64 0) := kP.cell 1; have kP2 : (W8).cell? ⟨w.heap.size + 1, 2, none⟩ = some (.int .i64 0) := kP.cell 2; have kPf0 : (W8).frozen? ⟨w.heap.size + 1, 0, none⟩ = false := kP.frozen 0; have kPf1 : (W8).frozen? ⟨w.heap.size + 1, 1, none⟩ = false := kP.frozen 1; have kPf2 : (W8).frozen? ⟨w.heap.size + 1, 2, none⟩ = false := kP.frozen 2; have kPl : w.heap.size + 1 < (W8).heap.size := kP.lt
    go_wp2
    have R := (((kP.set 0 (.int .i64 0)).set 1 (.int .i64 0)).set 2 (.int .i64 0))
    have hR : Below w.heap.size w (((W8.setCell ⟨w.heap.size + 1, 0, none⟩ (.int .i64 0)).setCell ⟨w.heap.size + 1, 1, none⟩ (.int .i64 0)).setCell ⟨w.heap.size + 1, 2, none⟩ (.int .i64 0)) := by (repeat' (first | (with_reducible exact Below.refl _ _) | (with_reducible refine below_step (by assumption) ?_ ?_) | (with_reducible refine Below.alloc ?_ ?_ _) | (with_reducible refine Below.setCell ?_ ?_ _) | (with_reducible refine below_drewN ?_ _) | (with_reducible refine Below.drew ?_) | omega | (simp; omega) | (simp; done)))
    simp only [List.setIfInBounds_toArray, List.set_cons_zero, List.set_cons_succ] at R
    clear kP kP0 kP1 kP2 kPf0 kPf1 kPf2 kPl
    generalize (((W8.setCell ⟨w.heap.size + 1, 0, none⟩ (.int .i64 0)).setCell ⟨w.heap.size + 1, 1, none⟩ (.int .i64 0)).setCell ⟨w.heap.size + 1, 2, none⟩ (.int .i64 0)) = W9 at R hR ⊢
    have R0 : (W9).cell? ⟨w.heap.size + 1, 0, none⟩ = some (.int .i64 0) := R.cell 0; have R1 : (W9).cell? ⟨w.heap.size + 1, 1, none⟩ = some (.int .i64 0) := R.cell 1; have R2 : (W9).cell? ⟨w.heap.size + 1, 2, none⟩ = some (.int .i64 0) := R.cell 2; have Rl : w.heap.size + 1 < (W9).heap.size := R.lt
    refine bodyPost_ret (v := .tuple #[.agg #[.int .i64 0, .int .i64 0, .int .i64 0], .bool false]) (by simp [results, Try.results11, go_sem, R0, R1, R2]) rfl ?_
    exact potP_no HO.out.symm hR
  cases m6
  · replace HO := Lib.hid (show false = o by simpa using HO.out)
    have kP0 : (W8).cell? ⟨w.heap.size + 1, 0, none⟩ = some (.int .i64 0) := kP.cell 0; have kP1 : (W8).cell? ⟨w.heap.size + 1, 1, none⟩ = some (.int .i64 0) := kP.cell 1; have kP2 : (W8).cell? ⟨w.heap.size + 1, 2, none⟩ = some (.int .i64 0) := kP.cell 2; have kPf0 : (W8).frozen? ⟨w.heap.size + 1, 0, none⟩ = false := kP.frozen 0; have kPf1 : (W8).frozen? ⟨w.heap.size + 1, 1, none⟩ = false := kP.frozen 1; have kPf2 : (W8).frozen? ⟨w.heap.size + 1, 2, none⟩ = false := kP.frozen 2; have kPl : w.heap.size + 1 < (W8).heap.size := kP.lt
    go_wp2
    have R := (((kP.set 0 (.int .i64 0)).set 1 (.int .i64 0)).set 2 (.int .i64 0))
    have hR : Below w.heap.size w (((W8.setCell ⟨w.heap.size + 1, 0, none⟩ (.int .i64 0)).setCell ⟨w.heap.size + 1, 1, none⟩ (.int .i64 0)).setCell ⟨w.heap.size + 1, 2, none⟩ (.int .i64 0)) := by (repeat' (first | (with_reducible exact Below.refl _ _) | (with_reducible refine below_step (by assumption) ?_ ?_) | (with_reducible refine Below.alloc ?_ ?_ _) | (with_reducible refine Below.setCell ?_ ?_ _) | (with_reducible refine below_drewN ?_ _) | (with_reducible refine Below.drew ?_) | omega | (simp; omega) | (simp; done)))
    simp only [List.setIfInBounds_toArray, List.set_cons_zero, List.set_cons_succ] at R
    clear kP kP0 kP1 kP2 kPf0 kPf1 kPf2 kPl
    generalize (((W8.setCell ⟨w.heap.size + 1, 0, none⟩ (.int .i64 0)).setCell ⟨w.heap.size + 1, 1, none⟩ (.int .i64 0)).setCell ⟨w.heap.size + 1, 2, none⟩ (.int .i64 0)) = W9 at R hR ⊢
    have R0 : (W9).cell? ⟨w.heap.size + 1, 0, none⟩ = some (.int .i64 0) := R.cell 0; have R1 : (W9).cell? ⟨w.heap.size + 1, 1, none⟩ = some (.int .i64 0) := R.cell 1; have R2 : (W9).cell? ⟨w.heap.size + 1, 2, none⟩ = some (.int .i64 0) := R.cell 2; have Rl : w.heap.size + 1 < (W9).heap.size := R.lt
    refine bodyPost_ret (v := .tuple #[.agg #[.int .i64 0, .int .i64 0, .int .i64 0], .bool false]) (by simp [results, Try.results11, go_sem, R0, R1, R2]) rfl ?_
    exact potP_no HO.out.symm hR
  have IR := JR.out (by trivial)
  clear JR I5 I6
  have k140 : (W8).cell? ⟨r14, 0, none⟩ = some (.int .i64 a5) := k14.cell 0; have k141 : (W8).cell? ⟨r14, 1, none⟩ = some (.int .i64 b5) := k14.cell 1; have k14l : r14 < (W8).heap.size := k14.lt
  have k160 : (W8).cell? ⟨r16, 0, none⟩ = some (.int .i64 a6) := k16.cell 0; have k161 : (W8).cell? ⟨r16, 1, none⟩ = some (.int .i64 b6) := k16.cell 1; have k16l : r16 < (W8).heap.size := k16.lt
  go_wp2
  apply region_join1 (fun r18 Wz => Over [] W8 Wz ∧ (fun _ => True) Wz ∧ W8.heap.size ≤ r18 ∧ Blk r18 #[.int .i64 a5, .int .i64 a6, .int .i64 e] 30 Wz)
  · intro hcont
    refine wp_region_cls [] (fun _ => false) (fun _ => True) (KD (fun _ => True) []) (by kernel_rfl) ⟨trivial, MemL.nil _⟩ ?_
    apply wpAnyF_hd ⟨W8, Over.refl _ _, trivial, MemL.nil _⟩ [true, true, true, true, true, true, true, true] 2 (KD.closed (Closed.true) _) (fun _ _ => trivial) (by kernel_rfl) (by kernel_rfl) (by kernel_rfl) (by kernel_rfl) (by simp)
    · intro E hE hEN hEn; (repeat (first | (refine wpHL_take ?_; go_big_quiet_step ((go_at_call 52; exact Calls.quiet_cls hE _ (IR.out _))); refine wpQuiet_nil ?_) | refine wpHL_skip ?_)); exact wpHL_end rfl
    refine wpAnyF_ready [8] 1 (by kernel_rfl) (by kernel_rfl) (by simp) ?_
    refine AllF.cons ?_ ?_
    · refine stepK_alloc (zs := #[.int .i64 0, .int .i64 0, .int .i64 0]) (T := 30) (by rfl) (by rfl) (by rfl) (fun _ => by go_simp) (Closed.true) (fun r18 hr18 hl18 hne => ?_)
      simp only [Act.put, List.setIfInBounds_toArray, List.set_cons_succ, List.set_cons_zero]
      refine wpAnyF_ready [9] 0 (by kernel_rfl) (by kernel_rfl) (by simp) ?_
      refine AllF.cons ?_ ?_
      · refine stepK_store (v := .agg #[.int .i64 a5, .int .i64 a6, .int .i64 e]) [] [] (by rfl) (by rfl) (by rfl) (by rfl) (by rfl) (by rfl) (fun _ => by go_simp) (by rfl) (by simp [Value.cells, one1]) (.inl hr18) (Closed.true) (fun _ _ h _ => h) (by simp) (fun hne => ?_)
        try simp only [Value.cells]
        refine wpAnyF_done (by kernel_rfl) (fun Wz hOz hDz => ?_) _
        exact hcont r18 Wz ⟨hOz, hDz.1, (by omega), hDz.2.head⟩
      exact AllF.nil
    exact AllF.nil
  try dsimp only
  rintro r18 W9 ⟨hO, _, hr, k18⟩
  have hq := hO.below
  clear k140 k141 k14l
  clear k160 k161 k16l
  clear hO hr
  replace kT := kT.next hq
  replace kP := kP.next hq
  replace k6 := k6.next hq
  replace k8 := k8.next hq
  replace k10 := k10.next hq
  replace k12 := k12.next hq
  replace k14 := k14.next hq
  replace k16 := k16.next hq
  replace hB := below_step hq hs hB
  replace hs := hB.size
  clear hq
  clear IR
  have k180 : (W9).cell? ⟨r18, 0, none⟩ = some (.int .i64 a5) := k18.cell 0; have k181 : (W9).cell? ⟨r18, 1, none⟩ = some (.int .i64 a6) := k18.cell 1; have k182 : (W9).cell? ⟨r18, 2, none⟩ = some (.int .i64 e) := k18.cell 2; have k18l : r18 < (W9).heap.size := k18.lt
  have k140 : (W9).cell? ⟨r14, 0, none⟩ = some (.int .i64 a5) := k14.cell 0; have k141 : (W9).cell? ⟨r14, 1, none⟩ = some (.int .i64 b5) := k14.cell 1; have k14l : r14 < (W9).heap.size := k14.lt
  have k160 : (W9).cell? ⟨r16, 0, none⟩ = some (.int .i64 a6) := k16.cell 0; have k161 : (W9).cell? ⟨r16, 1, none⟩ = some (.int .i64 b6) := k16.cell 1; have k16l : r16 < (W9).heap.size := k16.lt
  have x1 : ∃ g, (e * e == b5) = g := ⟨_, rfl⟩
  obtain ⟨g1, q1⟩ := x1
  have x3 : ∃ g, (e * e * e == b6) = g := ⟨_, rfl⟩
  obtain ⟨g3, q3⟩ := x3
  have x2 : ∃ g, inB e 1 20 = g := ⟨_, rfl⟩
  obtain ⟨g2, q2⟩ := x2
  have x4 : ∃ g, ptF A 0 a5 a6 e = g := ⟨_, rfl⟩
  obtain ⟨g4, q4⟩ := x4
  rw [q1, q2, q3, q4] at HO
  rw [q4] at HP
  have n1 := neB q1
  have n3 := neB q3
  have HL' : Hid (∀ w, _) := fun w => c_l1In e 1 20 w
  rw [q2] at HL'
  clear HL q2 q4
  cases g1
  · replace HO := Lib.hid (show false = o by simpa using HO.out)
    go_wp2
    (refine wp_region_clq (by kernel_rfl) (by kernel_rfl) ?_; (repeat (go_big_quiet_step ((first | (go_at_call 53; exact Calls.quiet_clsS _ (HL'.out _)) | (go_at_call 29; exact Calls.quiet_cls Closed.true _ (HC.out _)) | (go_at_call 28; exact Calls.quiet_cls Closed.true _ (HP.out _)))))); refine wpQuiet_nil ?_; intro w1 hb1; obtain ⟨hc1, hf1⟩ := bcell hb1; have hz1 := hb1.size; (try simp only [World.size_alloc] at hz1))
    have hb9 := hb1
    clear hb1 hc1 hf1 k180 k181 k182 k18l k140 k141 k14l k160 k161 k16l
    replace kT := kT.next hb9
    replace kP := kP.next hb9
    replace k6 := k6.next hb9
    replace k8 := k8.next hb9
    replace k10 := k10.next hb9
    replace k12 := k12.next hb9
    replace k14 := k14.next hb9
    replace k16 := k16.next hb9
    replace k18 := k18.next hb9
    replace hB := below_step hb9 hs hB
    replace hs := hB.size
    clear hb9
    have kP0 : (w1).cell? ⟨w.heap.size + 1, 0, none⟩ = some (.int .i64 0) := kP.cell 0; have kP1 : (w1).cell? ⟨w.heap.size + 1, 1, none⟩ = some (.int .i64 0) := kP.cell 1; have kP2 : (w1).cell? ⟨w.heap.size + 1, 2, none⟩ = some (.int .i64 0) := kP.cell 2; have kPf0 : (w1).frozen? ⟨w.heap.size + 1, 0, none⟩ = false := kP.frozen 0; have kPf1 : (w1).frozen? ⟨w.heap.size + 1, 1, none⟩ = false := kP.frozen 1; have kPf2 : (w1).frozen? ⟨w.heap.size + 1, 2, none⟩ = false := kP.frozen 2; have kPl : w.heap.size + 1 < (w1).heap.size := kP.lt
    go_wp2
    have R := (((kP.set 0 (.int .i64 0)).set 1 (.int .i64 0)).set 2 (.int .i64 0))
    have hR : Below w.heap.size w (((w1.setCell ⟨w.heap.size + 1, 0, none⟩ (.int .i64 0)).setCell ⟨w.heap.size + 1, 1, none⟩ (.int .i64 0)).setCell ⟨w.heap.size + 1, 2, none⟩ (.int .i64 0)) := by (repeat' (first | (with_reducible exact Below.refl _ _) | (with_reducible refine below_step (by assumption) ?_ ?_) | (with_reducible refine Below.alloc ?_ ?_ _) | (with_reducible refine Below.setCell ?_ ?_ _) | (with_reducible refine below_drewN ?_ _) | (with_reducible refine Below.drew ?_) | omega | (simp; omega) | (simp; done)))
    simp only [List.setIfInBounds_toArray, List.set_cons_zero, List.set_cons_succ] at R
    clear kP kP0 kP1 kP2 kPf0 kPf1 kPf2 kPl
    generalize (((w1.setCell ⟨w.heap.size + 1, 0, none⟩ (.int .i64 0)).setCell ⟨w.heap.size + 1, 1, none⟩ (.int .i64 0)).setCell ⟨w.heap.size + 1, 2, none⟩ (.int .i64 0)) = W9 at R hR ⊢
    have R0 : (W9).cell? ⟨w.heap.size + 1, 0, none⟩ = some (.int .i64 0) := R.cell 0; have R1 : (W9).cell? ⟨w.heap.size + 1, 1, none⟩ = some (.int .i64 0) := R.cell 1; have R2 : (W9).cell? ⟨w.heap.size + 1, 2, none⟩ = some (.int .i64 0) := R.cell 2; have Rl : w.heap.size + 1 < (W9).heap.size := R.lt
    refine bodyPost_ret (v := .tuple #[.agg #[.int .i64 0, .int .i64 0, .int .i64 0], .bool false]) (by simp [results, Try.results11, go_sem, R0, R1, R2]) rfl ?_
    exact potP_no HO.out.symm hR
  cases g2
  · replace HO := Lib.hid (show false = o by simpa using HO.out)
    go_wp2
    (refine wp_region_clq (by kernel_rfl) (by kernel_rfl) ?_; (repeat (go_big_quiet_step ((first | (go_at_call 53; exact Calls.quiet_clsS _ (HL'.out _)) | (go_at_call 29; exact Calls.quiet_cls Closed.true _ (HC.out _)) | (go_at_call 28; exact Calls.quiet_cls Closed.true _ (HP.out _)))))); refine wpQuiet_nil ?_; intro w1 hb1; obtain ⟨hc1, hf1⟩ := bcell hb1; have hz1 := hb1.size; (try simp only [World.size_alloc] at hz1))
    have hb9 := hb1
    clear hb1 hc1 hf1 k180 k181 k182 k18l k140 k141 k14l k160 k161 k16l
    replace kT := kT.next hb9
    replace kP := kP.next hb9
    replace k6 := k6.next hb9
    replace k8 := k8.next hb9
    replace k10 := k10.next hb9
    replace k12 := k12.next hb9
    replace k14 := k14.next hb9
    replace k16 := k16.next hb9
    replace k18 := k18.next hb9
    replace hB := below_step hb9 hs hB
    replace hs := hB.size
    clear hb9
    have kP0 : (w1).cell? ⟨w.heap.size + 1, 0, none⟩ = some (.int .i64 0) := kP.cell 0; have kP1 : (w1).cell? ⟨w.heap.size + 1, 1, none⟩ = some (.int .i64 0) := kP.cell 1; have kP2 : (w1).cell? ⟨w.heap.size + 1, 2, none⟩ = some (.int .i64 0) := kP.cell 2; have kPf0 : (w1).frozen? ⟨w.heap.size + 1, 0, none⟩ = false := kP.frozen 0; have kPf1 : (w1).frozen? ⟨w.heap.size + 1, 1, none⟩ = false := kP.frozen 1; have kPf2 : (w1).frozen? ⟨w.heap.size + 1, 2, none⟩ = false := kP.frozen 2; have kPl : w.heap.size + 1 < (w1).heap.size := kP.lt
    go_wp2
    have R := (((kP.set 0 (.int .i64 0)).set 1 (.int .i64 0)).set 2 (.int .i64 0))
    have hR : Below w.heap.size w (((w1.setCell ⟨w.heap.size + 1, 0, none⟩ (.int .i64 0)).setCell ⟨w.heap.size + 1, 1, none⟩ (.int .i64 0)).setCell ⟨w.heap.size + 1, 2, none⟩ (.int .i64 0)) := by (repeat' (first | (with_reducible exact Below.refl _ _) | (with_reducible refine below_step (by assumption) ?_ ?_) | (with_reducible refine Below.alloc ?_ ?_ _) | (with_reducible refine Below.setCell ?_ ?_ _) | (with_reducible refine below_drewN ?_ _) | (with_reducible refine Below.drew ?_) | omega | (simp; omega) | (simp; done)))
    simp only [List.setIfInBounds_toArray, List.set_cons_zero, List.set_cons_succ] at R
    clear kP kP0 kP1 kP2 kPf0 kPf1 kPf2 kPl
    generalize (((w1.setCell ⟨w.heap.size + 1, 0, none⟩ (.int .i64 0)).setCell ⟨w.heap.size + 1, 1, none⟩ (.int .i64 0)).setCell ⟨w.heap.size + 1, 2, none⟩ (.int .i64 0)) = W9 at R hR ⊢
    have R0 : (W9).cell? ⟨w.heap.size + 1, 0, none⟩ = some (.int .i64 0) := R.cell 0; have R1 : (W9).cell? ⟨w.heap.size + 1, 1, none⟩ = some (.int .i64 0) := R.cell 1; have R2 : (W9).cell? ⟨w.heap.size + 1, 2, none⟩ = some (.int .i64 0) := R.cell 2; have Rl : w.heap.size + 1 < (W9).heap.size := R.lt
    refine bodyPost_ret (v := .tuple #[.agg #[.int .i64 0, .int .i64 0, .int .i64 0], .bool false]) (by simp [results, Try.results11, go_sem, R0, R1, R2]) rfl ?_
    exact potP_no HO.out.symm hR
  cases g3
  · replace HO := Lib.hid (show false = o by simpa using HO.out)
    go_wp2
    (refine wp_region_clq (by kernel_rfl) (by kernel_rfl) ?_; (repeat (go_big_quiet_step ((first | (go_at_call 53; exact Calls.quiet_clsS _ (HL'.out _)) | (go_at_call 29; exact Calls.quiet_cls Closed.true _ (HC.out _)) | (go_at_call 28; exact Calls.quiet_cls Closed.true _ (HP.out _)))))); refine wpQuiet_nil ?_; intro w1 hb1; obtain ⟨hc1, hf1⟩ := bcell hb1; have hz1 := hb1.size; (try simp only [World.size_alloc] at hz1))
    have hb9 := hb1
    clear hb1 hc1 hf1 k180 k181 k182 k18l k140 k141 k14l k160 k161 k16l
    replace kT := kT.next hb9
    replace kP := kP.next hb9
    replace k6 := k6.next hb9
    replace k8 := k8.next hb9
    replace k10 := k10.next hb9
    replace k12 := k12.next hb9
    replace k14 := k14.next hb9
    replace k16 := k16.next hb9
    replace k18 := k18.next hb9
    replace hB := below_step hb9 hs hB
    replace hs := hB.size
    clear hb9
    have kP0 : (w1).cell? ⟨w.heap.size + 1, 0, none⟩ = some (.int .i64 0) := kP.cell 0; have kP1 : (w1).cell? ⟨w.heap.size + 1, 1, none⟩ = some (.int .i64 0) := kP.cell 1; have kP2 : (w1).cell? ⟨w.heap.size + 1, 2, none⟩ = some (.int .i64 0) := kP.cell 2; have kPf0 : (w1).frozen? ⟨w.heap.size + 1, 0, none⟩ = false := kP.frozen 0; have kPf1 : (w1).frozen? ⟨w.heap.size + 1, 1, none⟩ = false := kP.frozen 1; have kPf2 : (w1).frozen? ⟨w.heap.size + 1, 2, none⟩ = false := kP.frozen 2; have kPl : w.heap.size + 1 < (w1).heap.size := kP.lt
    go_wp2
    have R := (((kP.set 0 (.int .i64 0)).set 1 (.int .i64 0)).set 2 (.int .i64 0))
    have hR : Below w.heap.size w (((w1.setCell ⟨w.heap.size + 1, 0, none⟩ (.int .i64 0)).setCell ⟨w.heap.size + 1, 1, none⟩ (.int .i64 0)).setCell ⟨w.heap.size + 1, 2, none⟩ (.int .i64 0)) := by (repeat' (first | (with_reducible exact Below.refl _ _) | (with_reducible refine below_step (by assumption) ?_ ?_) | (with_reducible refine Below.alloc ?_ ?_ _) | (with_reducible refine Below.setCell ?_ ?_ _) | (with_reducible refine below_drewN ?_ _) | (with_reducible refine Below.drew ?_) | omega | (simp; omega) | (simp; done)))
    simp only [List.setIfInBounds_toArray, List.set_cons_zero, List.set_cons_succ] at R
    clear kP kP0 kP1 kP2 kPf0 kPf1 kPf2 kPl
    generalize (((w1.setCell ⟨w.heap.size + 1, 0, none⟩ (.int .i64 0)).setCell ⟨w.heap.size + 1, 1, none⟩ (.int .i64 0)).setCell ⟨w.heap.size + 1, 2, none⟩ (.int .i64 0)) = W9 at R hR ⊢
    have R0 : (W9).cell? ⟨w.heap.size + 1, 0, none⟩ = some (.int .i64 0) := R.cell 0; have R1 : (W9).cell? ⟨w.heap.size + 1, 1, none⟩ = some (.int .i64 0) := R.cell 1; have R2 : (W9).cell? ⟨w.heap.size + 1, 2, none⟩ = some (.int .i64 0) := R.cell 2; have Rl : w.heap.size + 1 < (W9).heap.size := R.lt
    refine bodyPost_ret (v := .tuple #[.agg #[.int .i64 0, .int .i64 0, .int .i64 0], .bool false]) (by simp [results, Try.results11, go_sem, R0, R1, R2]) rfl ?_
    exact potP_no HO.out.symm hR
  cases g4
  · replace HO := Lib.hid (show false = o by simpa using HO.out)
    go_wp2
    (refine wp_region_clq (by kernel_rfl) (by kernel_rfl) ?_; (repeat (go_big_quiet_step ((first | (go_at_call 53; exact Calls.quiet_clsS _ (HL'.out _)) | (go_at_call 29; exact Calls.quiet_cls Closed.true _ (HC.out _)) | (go_at_call 28; exact Calls.quiet_cls Closed.true _ (HP.out _)))))); refine wpQuiet_nil ?_; intro w1 hb1; obtain ⟨hc1, hf1⟩ := bcell hb1; have hz1 := hb1.size; (try simp only [World.size_alloc] at hz1))
    have hb9 := hb1
    clear hb1 hc1 hf1 k180 k181 k182 k18l k140 k141 k14l k160 k161 k16l
    replace kT := kT.next hb9
    replace kP := kP.next hb9
    replace k6 := k6.next hb9
    replace k8 := k8.next hb9
    replace k10 := k10.next hb9
    replace k12 := k12.next hb9
    replace k14 := k14.next hb9
    replace k16 := k16.next hb9
    replace k18 := k18.next hb9
    replace hB := below_step hb9 hs hB
    replace hs := hB.size
    clear hb9
    have kP0 : (w1).cell? ⟨w.heap.size + 1, 0, none⟩ = some (.int .i64 0) := kP.cell 0; have kP1 : (w1).cell? ⟨w.heap.size + 1, 1, none⟩ = some (.int .i64 0) := kP.cell 1; have kP2 : (w1).cell? ⟨w.heap.size + 1, 2, none⟩ = some (.int .i64 0) := kP.cell 2; have kPf0 : (w1).frozen? ⟨w.heap.size + 1, 0, none⟩ = false := kP.frozen 0; have kPf1 : (w1).frozen? ⟨w.heap.size + 1, 1, none⟩ = false := kP.frozen 1; have kPf2 : (w1).frozen? ⟨w.heap.size + 1, 2, none⟩ = false := kP.frozen 2; have kPl : w.heap.size + 1 < (w1).heap.size := kP.lt
    go_wp2
    have R := (((kP.set 0 (.int .i64 0)).set 1 (.int .i64 0)).set 2 (.int .i64 0))
    have hR : Below w.heap.size w (((w1.setCell ⟨w.heap.size + 1, 0, none⟩ (.int .i64 0)).setCell ⟨w.heap.size + 1, 1, none⟩ (.int .i64 0)).setCell ⟨w.heap.size + 1, 2, none⟩ (.int .i64 0)) := by (repeat' (first | (with_reducible exact Below.refl _ _) | (with_reducible refine below_step (by assumption) ?_ ?_) | (with_reducible refine Below.alloc ?_ ?_ _) | (with_reducible refine Below.setCell ?_ ?_ _) | (with_reducible refine below_drewN ?_ _) | (with_reducible refine Below.drew ?_) | omega | (simp; omega) | (simp; done)))
    simp only [List.setIfInBounds_toArray, List.set_cons_zero, List.set_cons_succ] at R
    clear kP kP0 kP1 kP2 kPf0 kPf1 kPf2 kPl
    generalize (((w1.setCell ⟨w.heap.size + 1, 0, none⟩ (.int .i64 0)).setCell ⟨w.heap.size + 1, 1, none⟩ (.int .i64 0)).setCell ⟨w.heap.size + 1, 2, none⟩ (.int .i64 0)) = W9 at R hR ⊢
    have R0 : (W9).cell? ⟨w.heap.size + 1, 0, none⟩ = some (.int .i64 0) := R.cell 0; have R1 : (W9).cell? ⟨w.heap.size + 1, 1, none⟩ = some (.int .i64 0) := R.cell 1; have R2 : (W9).cell? ⟨w.heap.size + 1, 2, none⟩ = some (.int .i64 0) := R.cell 2; have Rl : w.heap.size + 1 < (W9).heap.size := R.lt
    refine bodyPost_ret (v := .tuple #[.agg #[.int .i64 0, .int .i64 0, .int .i64 0], .bool false]) (by simp [results, Try.results11, go_sem, R0, R1, R2]) rfl ?_
    exact potP_no HO.out.symm hR
  go_wp2
  (refine wp_region_clq (by kernel_rfl) (by kernel_rfl) ?_; (repeat (go_big_quiet_step ((first | (go_at_call 53; exact Calls.quiet_clsS _ (HL'.out _)) | (go_at_call 29; exact Calls.quiet_cls Closed.true _ (HC.out _)) | (go_at_call 28; exact Calls.quiet_cls Closed.true _ (HP.out _)))))); refine wpQuiet_nil ?_; intro w1 hb1; obtain ⟨hc1, hf1⟩ := bcell hb1; have hz1 := hb1.size; (try simp only [World.size_alloc] at hz1))
  have hb9 := hb1
  clear hb1 hc1 hf1 k180 k181 k182 k18l k140 k141 k14l k160 k161 k16l
  replace kT := kT.next hb9
  replace kP := kP.next hb9
  replace k6 := k6.next hb9
  replace k8 := k8.next hb9
  replace k10 := k10.next hb9
  replace k12 := k12.next hb9
  replace k14 := k14.next hb9
  replace k16 := k16.next hb9
  replace k18 := k18.next hb9
  replace hB := below_step hb9 hs hB
  replace hs := hB.size
  clear hb9
  have k180 : (w1).cell? ⟨r18, 0, none⟩ = some (.int .i64 a5) := k18.cell 0; have k181 : (w1).cell? ⟨r18, 1, none⟩ = some (.int .i64 a6) := k18.cell 1; have k182 : (w1).cell? ⟨r18, 2, none⟩ = some (.int .i64 e) := k18.cell 2; have k18l : r18 < (w1).heap.size := k18.lt
  replace HO := Lib.hid (show true = o by simpa using HO.out)
  have kP0 : (w1).cell? ⟨w.heap.size + 1, 0, none⟩ = some (.int .i64 0) := kP.cell 0; have kP1 : (w1).cell? ⟨w.heap.size + 1, 1, none⟩ = some (.int .i64 0) := kP.cell 1; have kP2 : (w1).cell? ⟨w.heap.size + 1, 2, none⟩ = some (.int .i64 0) := kP.cell 2; have kPf0 : (w1).frozen? ⟨w.heap.size + 1, 0, none⟩ = false := kP.frozen 0; have kPf1 : (w1).frozen? ⟨w.heap.size + 1, 1, none⟩ = false := kP.frozen 1; have kPf2 : (w1).frozen? ⟨w.heap.size + 1, 2, none⟩ = false := kP.frozen 2; have kPl : w.heap.size + 1 < (w1).heap.size := kP.lt
  go_wp2
  have R := (((kP.set 0 (.int .i64 a5)).set 1 (.int .i64 a6)).set 2 (.int .i64 e))
  have hR : Below w.heap.size w (((w1.setCell ⟨w.heap.size + 1, 0, none⟩ (.int .i64 a5)).setCell ⟨w.heap.size + 1, 1, none⟩ (.int .i64 a6)).setCell ⟨w.heap.size + 1, 2, none⟩ (.int .i64 e)) := by (repeat' (first | (with_reducible exact Below.refl _ _) | (with_reducible refine below_step (by assumption) ?_ ?_) | (with_reducible refine Below.alloc ?_ ?_ _) | (with_reducible refine Below.setCell ?_ ?_ _) | (with_reducible refine below_drewN ?_ _) | (with_reducible refine Below.drew ?_) | omega | (simp; omega) | (simp; done)))
  simp only [List.setIfInBounds_toArray, List.set_cons_zero, List.set_cons_succ] at R
  clear kP kP0 kP1 kP2 kPf0 kPf1 kPf2 kPl
  generalize (((w1.setCell ⟨w.heap.size + 1, 0, none⟩ (.int .i64 a5)).setCell ⟨w.heap.size + 1, 1, none⟩ (.int .i64 a6)).setCell ⟨w.heap.size + 1, 2, none⟩ (.int .i64 e)) = W9 at R hR ⊢
  have R0 : (W9).cell? ⟨w.heap.size + 1, 0, none⟩ = some (.int .i64 a5) := R.cell 0; have R1 : (W9).cell? ⟨w.heap.size + 1, 1, none⟩ = some (.int .i64 a6) := R.cell 1; have R2 : (W9).cell? ⟨w.heap.size + 1, 2, none⟩ = some (.int .i64 e) := R.cell 2; have Rl : w.heap.size + 1 < (W9).heap.size := R.lt
  refine bodyPost_ret (v := .tuple #[.agg #[.int .i64 a5, .int .i64 a6, .int .i64 e], .bool true]) (by simp [results, Try.results11, go_sem, R0, R1, R2]) rfl ?_
  exact potP_yes HO.out.symm hR
end Go.Proofs.Ytcnfjapoopdiaaa

/- PotI -/
namespace Go.Proofs.Ytcnfjapoopdiaaa
open Go.RowKit

theorem areaB_b3 {n : Int} (h : areaB n = true) : 1 ≤ n ∧ n ≤ 31 := by
  unfold areaB at h
  simp only [Bool.and_eq_true] at h
  exact inB_true h.1
theorem curve_n3 {n : Int} (h : 1 ≤ n ∧ n ≤ 31) : curveB (-n * n) 0 = true := by
  have hk : ∀ k : Fin 31, curveB (-(((k : Nat) : Int) + 1) * (((k : Nat) : Int) + 1)) 0 = true := by decide
  have := hk ⟨(n - 1).toNat, by omega⟩
  have he : (((n - 1).toNat : Nat) : Int) + 1 = n := by omega
  simpa only [he] using this
set_option maxHeartbeats 4000000 in
set_option maxRecDepth 100000 in
theorem c_iPotNo (n p q r s t u a b c : Int) (h : vlB n p q r s t u = false) (w : World) :
    Calls Try.prog 10 #[.int .i64 n, .agg #[.int .i64 p, .int .i64 q, .int .i64 r, .int .i64 s, .int .i64 t, .int .i64 u]] w (potP w a b c false) := by
  have HG : Hid (∀ w, _) := fun w => c_isArea n w
  have HF : Hid (∀ w, _) := fun w => c_triangleFits p q r s t u w
  have HV : Hid (vlB n p q r s t u = (areaB n && triOk p q r s t u && tOk p q r s t u && tIs n p q r s t u)) := rfl
  have HH := Lib.hid h
  clear h
  have kT := (Blk.new w #[.int .i64 p, .int .i64 q, .int .i64 r, .int .i64 s, .int .i64 t, .int .i64 u] 27).alloc (.cells #[.int .i64 0, .int .i64 0, .int .i64 0] 30)
  have kP := Blk.new (w.alloc (.cells #[.int .i64 p, .int .i64 q, .int .i64 r, .int .i64 s, .int .i64 t, .int .i64 u] 27)) #[.int .i64 0, .int .i64 0, .int .i64 0] 30
  simp only [World.size_alloc] at kP
  have hB : Below w.heap.size w ((w.alloc (.cells #[.int .i64 p, .int .i64 q, .int .i64 r, .int .i64 s, .int .i64 t, .int .i64 u] 27)).alloc (.cells #[.int .i64 0, .int .i64 0, .int .i64 0] 30)) := by (repeat' (first | (with_reducible exact Below.refl _ _) | (with_reducible refine below_step (by assumption) ?_ ?_) | (with_reducible refine Below.alloc ?_ ?_ _) | (with_reducible refine Below.setCell ?_ ?_ _) | (with_reducible refine below_drewN ?_ _) | (with_reducible refine Below.drew ?_) | omega | (simp; omega) | (simp; done)))
  have hs := hB.size
  go_enter Try.func10, Try.ntmps10
  go_wp2_with fail
  generalize ((w.alloc (.cells #[.int .i64 p, .int .i64 q, .int .i64 r, .int .i64 s, .int .i64 t, .int .i64 u] 27)).alloc (.cells #[.int .i64 0, .int .i64 0, .int .i64 0] 30)) = W at *
  refine (HG.out _).mono ?_
  rintro e' u1 ⟨rfl, hb1⟩
  replace kT := kT.next hb1
  replace kP := kP.next hb1
  replace hB := below_step hb1 hs hB
  replace hs := hB.size
  clear hb1
  cases h1 : areaB n
  · skip
    have kP0 : (u1).cell? ⟨w.heap.size + 1, 0, none⟩ = some (.int .i64 0) := kP.cell 0; have kP1 : (u1).cell? ⟨w.heap.size + 1, 1, none⟩ = some (.int .i64 0) := kP.cell 1; have kP2 : (u1).cell? ⟨w.heap.size + 1, 2, none⟩ = some (.int .i64 0) := kP.cell 2; have kPf0 : (u1).frozen? ⟨w.heap.size + 1, 0, none⟩ = false := kP.frozen 0; have kPf1 : (u1).frozen? ⟨w.heap.size + 1, 1, none⟩ = false := kP.frozen 1; have kPf2 : (u1).frozen? ⟨w.heap.size + 1, 2, none⟩ = false := kP.frozen 2; have kPl : w.heap.size + 1 < (u1).heap.size := kP.lt
    go_wp2
    have R := (((kP.set 0 (.int .i64 0)).set 1 (.int .i64 0)).set 2 (.int .i64 0))
    have hR : Below w.heap.size w (((u1.setCell ⟨w.heap.size + 1, 0, none⟩ (.int .i64 0)).setCell ⟨w.heap.size + 1, 1, none⟩ (.int .i64 0)).setCell ⟨w.heap.size + 1, 2, none⟩ (.int .i64 0)) := by (repeat' (first | (with_reducible exact Below.refl _ _) | (with_reducible refine below_step (by assumption) ?_ ?_) | (with_reducible refine Below.alloc ?_ ?_ _) | (with_reducible refine Below.setCell ?_ ?_ _) | (with_reducible refine below_drewN ?_ _) | (with_reducible refine Below.drew ?_) | omega | (simp; omega) | (simp; done)))
    simp only [List.setIfInBounds_toArray, List.set_cons_zero, List.set_cons_succ] at R
    clear kP kP0 kP1 kP2 kPf0 kPf1 kPf2 kPl
    generalize (((u1.setCell ⟨w.heap.size + 1, 0, none⟩ (.int .i64 0)).setCell ⟨w.heap.size + 1, 1, none⟩ (.int .i64 0)).setCell ⟨w.heap.size + 1, 2, none⟩ (.int .i64 0)) = W9 at R hR ⊢
    have R0 : (W9).cell? ⟨w.heap.size + 1, 0, none⟩ = some (.int .i64 0) := R.cell 0; have R1 : (W9).cell? ⟨w.heap.size + 1, 1, none⟩ = some (.int .i64 0) := R.cell 1; have R2 : (W9).cell? ⟨w.heap.size + 1, 2, none⟩ = some (.int .i64 0) := R.cell 2; have Rl : w.heap.size + 1 < (W9).heap.size := R.lt
    refine bodyPost_ret (v := .tuple #[.agg #[.int .i64 0, .int .i64 0, .int .i64 0], .bool false]) (by simp [results, Try.results10, go_sem, R0, R1, R2]) rfl ?_
    exact potP_no rfl hR
  have ha := areaB_b3 h1
  have kT0 : (u1).cell? ⟨w.heap.size, 0, none⟩ = some (.int .i64 p) := kT.cell 0; have kT1 : (u1).cell? ⟨w.heap.size, 1, none⟩ = some (.int .i64 q) := kT.cell 1; have kT2 : (u1).cell? ⟨w.heap.size, 2, none⟩ = some (.int .i64 r) := kT.cell 2; have kT3 : (u1).cell? ⟨w.heap.size, 3, none⟩ = some (.int .i64 s) := kT.cell 3; have kT4 : (u1).cell? ⟨w.heap.size, 4, none⟩ = some (.int .i64 t) := kT.cell 4; have kT5 : (u1).cell? ⟨w.heap.size, 5, none⟩ = some (.int .i64 u) := kT.cell 5; have kTl : w.heap.size < (u1).heap.size := kT.lt
  go_wp2_with fail
  refine (HF.out _).mono ?_
  rintro e' u2 ⟨rfl, hb2⟩
  clear kT0 kT1 kT2 kT3 kT4 kT5 kTl
  replace kT := kT.next hb2
  replace kP := kP.next hb2
  replace hB := below_step hb2 hs hB
  replace hs := hB.size
  clear hb2
  cases h2 : triOk p q r s t u
  · skip
    have kP0 : (u2).cell? ⟨w.heap.size + 1, 0, none⟩ = some (.int .i64 0) := kP.cell 0; have kP1 : (u2).cell? ⟨w.heap.size + 1, 1, none⟩ = some (.int .i64 0) := kP.cell 1; have kP2 : (u2).cell? ⟨w.heap.size + 1, 2, none⟩ = some (.int .i64 0) := kP.cell 2; have kPf0 : (u2).frozen? ⟨w.heap.size + 1, 0, none⟩ = false := kP.frozen 0; have kPf1 : (u2).frozen? ⟨w.heap.size + 1, 1, none⟩ = false := kP.frozen 1; have kPf2 : (u2).frozen? ⟨w.heap.size + 1, 2, none⟩ = false := kP.frozen 2; have kPl : w.heap.size + 1 < (u2).heap.size := kP.lt
    go_wp2
    have R := (((kP.set 0 (.int .i64 0)).set 1 (.int .i64 0)).set 2 (.int .i64 0))
    have hR : Below w.heap.size w (((u2.setCell ⟨w.heap.size + 1, 0, none⟩ (.int .i64 0)).setCell ⟨w.heap.size + 1, 1, none⟩ (.int .i64 0)).setCell ⟨w.heap.size + 1, 2, none⟩ (.int .i64 0)) := by (repeat' (first | (with_reducible exact Below.refl _ _) | (with_reducible refine below_step (by assumption) ?_ ?_) | (with_reducible refine Below.alloc ?_ ?_ _) | (with_reducible refine Below.setCell ?_ ?_ _) | (with_reducible refine below_drewN ?_ _) | (with_reducible refine Below.drew ?_) | omega | (simp; omega) | (simp; done)))
    simp only [List.setIfInBounds_toArray, List.set_cons_zero, List.set_cons_succ] at R
    clear kP kP0 kP1 kP2 kPf0 kPf1 kPf2 kPl
    generalize (((u2.setCell ⟨w.heap.size + 1, 0, none⟩ (.int .i64 0)).setCell ⟨w.heap.size + 1, 1, none⟩ (.int .i64 0)).setCell ⟨w.heap.size + 1, 2, none⟩ (.int .i64 0)) = W9 at R hR ⊢
    have R0 : (W9).cell? ⟨w.heap.size + 1, 0, none⟩ = some (.int .i64 0) := R.cell 0; have R1 : (W9).cell? ⟨w.heap.size + 1, 1, none⟩ = some (.int .i64 0) := R.cell 1; have R2 : (W9).cell? ⟨w.heap.size + 1, 2, none⟩ = some (.int .i64 0) := R.cell 2; have Rl : w.heap.size + 1 < (W9).heap.size := R.lt
    refine bodyPost_ret (v := .tuple #[.agg #[.int .i64 0, .int .i64 0, .int .i64 0], .bool false]) (by simp [results, Try.results10, go_sem, R0, R1, R2]) rfl ?_
    exact potP_no rfl hR
  have hi := fun w => c_isTriangle n p q r s t u ha h2 w
  have hm : (tOk p q r s t u && tIs n p q r s t u) = false := by have := HH.out; rw [HV.out, h1, h2] at this; simpa using this
  generalize tOk p q r s t u = o at *
  generalize tIs n p q r s t u = i at *
  have HI := Lib.hid hi
  clear hi HH HV
  have kT0 : (u2).cell? ⟨w.heap.size, 0, none⟩ = some (.int .i64 p) := kT.cell 0; have kT1 : (u2).cell? ⟨w.heap.size, 1, none⟩ = some (.int .i64 q) := kT.cell 1; have kT2 : (u2).cell? ⟨w.heap.size, 2, none⟩ = some (.int .i64 r) := kT.cell 2; have kT3 : (u2).cell? ⟨w.heap.size, 3, none⟩ = some (.int .i64 s) := kT.cell 3; have kT4 : (u2).cell? ⟨w.heap.size, 4, none⟩ = some (.int .i64 t) := kT.cell 4; have kT5 : (u2).cell? ⟨w.heap.size, 5, none⟩ = some (.int .i64 u) := kT.cell 5; have kTl : w.heap.size < (u2).heap.size := kT.lt
  go_wp2_with fail
  refine (HI.out _).mono ?_
  rintro e' u3 ⟨rfl, hb3⟩
  clear kT0 kT1 kT2 kT3 kT4 kT5 kTl
  replace kT := kT.next hb3
  replace kP := kP.next hb3
  replace hB := below_step hb3 hs hB
  replace hs := hB.size
  clear hb3 HI
  cases o
  · skip
    have kP0 : (u3).cell? ⟨w.heap.size + 1, 0, none⟩ = some (.int .i64 0) := kP.cell 0; have kP1 : (u3).cell? ⟨w.heap.size + 1, 1, none⟩ = some (.int .i64 0) := kP.cell 1; have kP2 : (u3).cell? ⟨w.heap.size + 1, 2, none⟩ = some (.int .i64 0) := kP.cell 2; have kPf0 : (u3).frozen? ⟨w.heap.size + 1, 0, none⟩ = false := kP.frozen 0; have kPf1 : (u3).frozen? ⟨w.heap.size + 1, 1, none⟩ = false := kP.frozen 1; have kPf2 : (u3).frozen? ⟨w.heap.size + 1, 2, none⟩ = false := kP.frozen 2; have kPl : w.heap.size + 1 < (u3).heap.size := kP.lt
    go_wp2
    have R := (((kP.set 0 (.int .i64 0)).set 1 (.int .i64 0)).set 2 (.int .i64 0))
    have hR : Below w.heap.size w (((u3.setCell ⟨w.heap.size + 1, 0, none⟩ (.int .i64 0)).setCell ⟨w.heap.size + 1, 1, none⟩ (.int .i64 0)).setCell ⟨w.heap.size + 1, 2, none⟩ (.int .i64 0)) := by (repeat' (first | (with_reducible exact Below.refl _ _) | (with_reducible refine below_step (by assumption) ?_ ?_) | (with_reducible refine Below.alloc ?_ ?_ _) | (with_reducible refine Below.setCell ?_ ?_ _) | (with_reducible refine below_drewN ?_ _) | (with_reducible refine Below.drew ?_) | omega | (simp; omega) | (simp; done)))
    simp only [List.setIfInBounds_toArray, List.set_cons_zero, List.set_cons_succ] at R
    clear kP kP0 kP1 kP2 kPf0 kPf1 kPf2 kPl
    generalize (((u3.setCell ⟨w.heap.size + 1, 0, none⟩ (.int .i64 0)).setCell ⟨w.heap.size + 1, 1, none⟩ (.int .i64 0)).setCell ⟨w.heap.size + 1, 2, none⟩ (.int .i64 0)) = W9 at R hR ⊢
    have R0 : (W9).cell? ⟨w.heap.size + 1, 0, none⟩ = some (.int .i64 0) := R.cell 0; have R1 : (W9).cell? ⟨w.heap.size + 1, 1, none⟩ = some (.int .i64 0) := R.cell 1; have R2 : (W9).cell? ⟨w.heap.size + 1, 2, none⟩ = some (.int .i64 0) := R.cell 2; have Rl : w.heap.size + 1 < (W9).heap.size := R.lt
    refine bodyPost_ret (v := .tuple #[.agg #[.int .i64 0, .int .i64 0, .int .i64 0], .bool false]) (by simp [results, Try.results10, go_sem, R0, R1, R2]) rfl ?_
    exact potP_no rfl hR
  obtain rfl : i = false := by simpa using hm
  have kP0 : (u3).cell? ⟨w.heap.size + 1, 0, none⟩ = some (.int .i64 0) := kP.cell 0; have kP1 : (u3).cell? ⟨w.heap.size + 1, 1, none⟩ = some (.int .i64 0) := kP.cell 1; have kP2 : (u3).cell? ⟨w.heap.size + 1, 2, none⟩ = some (.int .i64 0) := kP.cell 2; have kPf0 : (u3).frozen? ⟨w.heap.size + 1, 0, none⟩ = false := kP.frozen 0; have kPf1 : (u3).frozen? ⟨w.heap.size + 1, 1, none⟩ = false := kP.frozen 1; have kPf2 : (u3).frozen? ⟨w.heap.size + 1, 2, none⟩ = false := kP.frozen 2; have kPl : w.heap.size + 1 < (u3).heap.size := kP.lt
  go_wp2
  have R := (((kP.set 0 (.int .i64 0)).set 1 (.int .i64 0)).set 2 (.int .i64 0))
  have hR : Below w.heap.size w (((u3.setCell ⟨w.heap.size + 1, 0, none⟩ (.int .i64 0)).setCell ⟨w.heap.size + 1, 1, none⟩ (.int .i64 0)).setCell ⟨w.heap.size + 1, 2, none⟩ (.int .i64 0)) := by (repeat' (first | (with_reducible exact Below.refl _ _) | (with_reducible refine below_step (by assumption) ?_ ?_) | (with_reducible refine Below.alloc ?_ ?_ _) | (with_reducible refine Below.setCell ?_ ?_ _) | (with_reducible refine below_drewN ?_ _) | (with_reducible refine Below.drew ?_) | omega | (simp; omega) | (simp; done)))
  simp only [List.setIfInBounds_toArray, List.set_cons_zero, List.set_cons_succ] at R
  clear kP kP0 kP1 kP2 kPf0 kPf1 kPf2 kPl
  generalize (((u3.setCell ⟨w.heap.size + 1, 0, none⟩ (.int .i64 0)).setCell ⟨w.heap.size + 1, 1, none⟩ (.int .i64 0)).setCell ⟨w.heap.size + 1, 2, none⟩ (.int .i64 0)) = W9 at R hR ⊢
  have R0 : (W9).cell? ⟨w.heap.size + 1, 0, none⟩ = some (.int .i64 0) := R.cell 0; have R1 : (W9).cell? ⟨w.heap.size + 1, 1, none⟩ = some (.int .i64 0) := R.cell 1; have R2 : (W9).cell? ⟨w.heap.size + 1, 2, none⟩ = some (.int .i64 0) := R.cell 2; have Rl : w.heap.size + 1 < (W9).heap.size := R.lt
  refine bodyPost_ret (v := .tuple #[.agg #[.int .i64 0, .int .i64 0, .int .i64 0], .bool false]) (by simp [results, Try.results10, go_sem, R0, R1, R2]) rfl ?_
  exact potP_no rfl hR
set_option maxHeartbeats 4000000 in
set_option maxRecDepth 100000 in
theorem c_iPotMain (n p q r s t u s1 s2 w1 w2 c1 c2 a5 b5 d1 d2 f1 f2 g1 g2 a6 b6 e : Int) (o1 o2 o3 o4 o5 o6 o7 o8 sq : Bool) (hv : vlB n p q r s t u = true) (he : 0 ≤ e ∧ e ≤ 40000)
    (K1 : Hid (Kq 40 [.agg #[.int .i64 p, .int .i64 q], .agg #[.int .i64 t, .int .i64 u]] true s1 s2 o1))
    (K2 : Hid (Kq 36 [.int .i64 n] o1 w1 w2 o2))
    (K3 : Hid (Kq 37 [.agg #[.int .i64 w1, .int .i64 w2], .agg #[.int .i64 s1, .int .i64 s2]] o2 c1 c2 o3))
    (K4 : Hid (Kq 39 [.agg #[.int .i64 c1, .int .i64 c2], .agg #[.int .i64 r, .int .i64 s]] o3 a5 b5 o4))
    (K5 : Hid (Kq 36 [.int .i64 (2 * n * n)] o4 d1 d2 o5))
    (K6 : Hid (Kq 37 [.agg #[.int .i64 d1, .int .i64 d2], .agg #[.int .i64 s1, .int .i64 s2]] o5 f1 f2 o6))
    (K7 : Hid (Kq 37 [.agg #[.int .i64 r, .int .i64 s], .agg #[.int .i64 r, .int .i64 s]] o6 g1 g2 o7))
    (K8 : Hid (Kq 39 [.agg #[.int .i64 f1, .int .i64 f2], .agg #[.int .i64 g1, .int .i64 g2]] o7 a6 b6 o8))
    (HX : Hid (∀ w : World, Calls Try.prog 46 #[.int .i64 b5] w fun x w' => x = .returned (.tuple #[.int .i64 e, .bool sq]) ∧ w = w')) (w : World) :
    Calls Try.prog 10 #[.int .i64 n, .agg #[.int .i64 p, .int .i64 q, .int .i64 r, .int .i64 s, .int .i64 t, .int .i64 u]] w (potP w a5 a6 e (o8 && sq && decide (e ≤ 20) && (b6 == e * e * e) && ptF (-n * n) 0 a5 a6 e)) := by
  obtain ⟨h1, h2, h3, h4⟩ := vlB_of hv
  have hn' := areaB_b3 h1
  have HG : Hid (∀ w, _) := fun w => c_isArea n w
  rw [h1] at HG
  have HF : Hid (∀ w, _) := fun w => c_triangleFits p q r s t u w
  rw [h2] at HF
  have HT : Hid (∀ w, _) := fun w => c_isTriangle n p q r s t u hn' h2 w
  rw [h3, h4] at HT
  have HP : Hid (∀ w, _) := fun w => c_isPoint (-n * n) 0 a5 a6 e (curve_n3 hn') w
  have hnn : 1 ≤ n * n ∧ n * n ≤ 961 := ⟨by have := Int.mul_le_mul hn'.1 hn'.1 (by omega) (by omega); omega, by have := Int.mul_le_mul hn'.2 hn'.2 (by omega) (by omega); omega⟩
  have hneg : -n * n = -(n * n) := Int.neg_mul n n
  have hm : 2 * n * n = 2 * (n * n) := Int.mul_assoc 2 n n
  have hwn : IntKind.i64.wrap (-n) = -n := IntWalk.i64_in _ (by omega)
  have hwm : IntKind.i64.wrap (-n * n) = -n * n := IntWalk.i64_in _ (by omega)
  have hw2 : IntKind.i64.wrap (2 * n) = 2 * n := IntWalk.i64_in _ (by omega)
  have hw3 : IntKind.i64.wrap (2 * n * n) = 2 * n * n := IntWalk.i64_in _ (by omega)
  have hee : 0 ≤ e * e ∧ e * e ≤ 1600000000 := ⟨Int.mul_nonneg he.1 he.1, by have := Int.mul_le_mul he.2 he.2 he.1 (by omega); omega⟩
  have he3 : 0 ≤ e * e * e ∧ e * e * e ≤ 64000000000000 := ⟨Int.mul_nonneg hee.1 he.1, by have := Int.mul_le_mul hee.2 he.2 he.1 (by omega); omega⟩
  have hwe : IntKind.i64.wrap (e * e) = e * e := IntWalk.i64_in _ (by omega)
  have hwf : IntKind.i64.wrap (e * e * e) = e * e * e := IntWalk.i64_in _ (by omega)
  clear hv hm hnn hee he3 he hneg h1 h2 h3 h4 hn'
  obtain ⟨o, ho⟩ : ∃ o, (o8 && sq && decide (e ≤ 20) && (b6 == e * e * e) && ptF (-n * n) 0 a5 a6 e) = o := ⟨_, rfl⟩
  rw [ho]
  have HO := Lib.hid ho
  clear ho
  generalize ptF (-n * n) 0 a5 a6 e = g4 at *
  have kT := (Blk.new w #[.int .i64 p, .int .i64 q, .int .i64 r, .int .i64 s, .int .i64 t, .int .i64 u] 27).alloc (.cells #[.int .i64 0, .int .i64 0, .int .i64 0] 30)
  have kP := Blk.new (w.alloc (.cells #[.int .i64 p, .int .i64 q, .int .i64 r, .int .i64 s, .int .i64 t, .int .i64 u] 27)) #[.int .i64 0, .int .i64 0, .int .i64 0] 30
  simp only [World.size_alloc] at kP
  have hB : Below w.heap.size w ((w.alloc (.cells #[.int .i64 p, .int .i64 q, .int .i64 r, .int .i64 s, .int .i64 t, .int .i64 u] 27)).alloc (.cells #[.int .i64 0, .int .i64 0, .int .i64 0] 30)) := by (repeat' (first | (with_reducible exact Below.refl _ _) | (with_reducible refine below_step (by assumption) ?_ ?_) | (with_reducible refine Below.alloc ?_ ?_ _) | (with_reducible refine Below.setCell ?_ ?_ _) | (with_reducible refine below_drewN ?_ _) | (with_reducible refine Below.drew ?_) | omega | (simp; omega) | (simp; done)))
  have hs := hB.size
  have hz : w.heap.size + 2 ≤ (((w.alloc (.cells #[.int .i64 p, .int .i64 q, .int .i64 r, .int .i64 s, .int .i64 t, .int .i64 u] 27)).alloc (.cells #[.int .i64 0, .int .i64 0, .int .i64 0] 30))).heap.size := by simp
  go_enter Try.func10, Try.ntmps10
  go_wp2_with fail
  generalize ((w.alloc (.cells #[.int .i64 p, .int .i64 q, .int .i64 r, .int .i64 s, .int .i64 t, .int .i64 u] 27)).alloc (.cells #[.int .i64 0, .int .i64 0, .int .i64 0] 30)) = W at *
  refine (HG.out _).mono ?_
  rintro e' u1 ⟨rfl, hb1⟩
  have hz1 := hb1.size
  replace kT := kT.next hb1
  replace kP := kP.next hb1
  replace hB := below_step hb1 hs hB
  replace hs := hB.size
  clear hb1
  have kT0 : (u1).cell? ⟨w.heap.size, 0, none⟩ = some (.int .i64 p) := kT.cell 0; have kT1 : (u1).cell? ⟨w.heap.size, 1, none⟩ = some (.int .i64 q) := kT.cell 1; have kT2 : (u1).cell? ⟨w.heap.size, 2, none⟩ = some (.int .i64 r) := kT.cell 2; have kT3 : (u1).cell? ⟨w.heap.size, 3, none⟩ = some (.int .i64 s) := kT.cell 3; have kT4 : (u1).cell? ⟨w.heap.size, 4, none⟩ = some (.int .i64 t) := kT.cell 4; have kT5 : (u1).cell? ⟨w.heap.size, 5, none⟩ = some (.int .i64 u) := kT.cell 5; have kTl : w.heap.size < (u1).heap.size := kT.lt
  go_wp2_with fail
  refine (HF.out _).mono ?_
  rintro e' u2 ⟨rfl, hb2⟩
  clear kT0 kT1 kT2 kT3 kT4 kT5 kTl
  have hz2 := hb2.size
  replace kT := kT.next hb2
  replace kP := kP.next hb2
  replace hB := below_step hb2 hs hB
  replace hs := hB.size
  clear hb2
  have kT0 : (u2).cell? ⟨w.heap.size, 0, none⟩ = some (.int .i64 p) := kT.cell 0; have kT1 : (u2).cell? ⟨w.heap.size, 1, none⟩ = some (.int .i64 q) := kT.cell 1; have kT2 : (u2).cell? ⟨w.heap.size, 2, none⟩ = some (.int .i64 r) := kT.cell 2; have kT3 : (u2).cell? ⟨w.heap.size, 3, none⟩ = some (.int .i64 s) := kT.cell 3; have kT4 : (u2).cell? ⟨w.heap.size, 4, none⟩ = some (.int .i64 t) := kT.cell 4; have kT5 : (u2).cell? ⟨w.heap.size, 5, none⟩ = some (.int .i64 u) := kT.cell 5; have kTl : w.heap.size < (u2).heap.size := kT.lt
  go_wp2_with fail
  refine (HT.out _).mono ?_
  rintro e' u3 ⟨rfl, hb3⟩
  clear kT0 kT1 kT2 kT3 kT4 kT5 kTl
  have hz3 := hb3.size
  replace kT := kT.next hb3
  replace kP := kP.next hb3
  replace hB := below_step hb3 hs hB
  replace hs := hB.size
  clear hb3
  go_upto_region 7 with (fail)
  have kc : CB u3.heap.size true (u3.alloc (.cells #[.bool true] 63)) := ⟨by simp [go_sem], by simp [go_sem], by simp⟩
  replace kT := kT.alloc (.cells #[.bool true] 63)
  replace kP := kP.alloc (.cells #[.bool true] 63)
  replace hB := hB.alloc hs (.cells #[.bool true] 63)
  replace hs := hB.size
  generalize u3.alloc _ = W3 at *
  have hcB : w.heap.size + 2 ≤ u3.heap.size := by omega
  clear hz hz1 hz2 hz3
  generalize u3.heap.size = c at *
  have ncT : w.heap.size ≠ c := by omega
  have ncP : w.heap.size + 1 ≠ c := by omega
  replace hcB : w.heap.size ≤ c := by omega
  clear HG HF HT
  have kT0 : (W3).cell? ⟨w.heap.size, 0, none⟩ = some (.int .i64 p) := kT.cell 0; have kT1 : (W3).cell? ⟨w.heap.size, 1, none⟩ = some (.int .i64 q) := kT.cell 1; have kT2 : (W3).cell? ⟨w.heap.size, 2, none⟩ = some (.int .i64 r) := kT.cell 2; have kT3 : (W3).cell? ⟨w.heap.size, 3, none⟩ = some (.int .i64 s) := kT.cell 3; have kT4 : (W3).cell? ⟨w.heap.size, 4, none⟩ = some (.int .i64 t) := kT.cell 4; have kT5 : (W3).cell? ⟨w.heap.size, 5, none⟩ = some (.int .i64 u) := kT.cell 5; have kTl : w.heap.size < (W3).heap.size := kT.lt
  have kcl := kc.2.2
  go_wp2_with fail
  refine (K1.out c _ kc).mono ?_
  rintro e' v7 ⟨rfl, ho, hk⟩
  clear kT0 kT1 kT2 kT3 kT4 kT5 kTl kcl kc
  have kc := hk
  clear hk
  replace kT := kT.over ho (by simpa using ncT)
  replace kP := kP.over ho (by simpa using ncP)
  replace hB := hB.trans (ho.below1 hcB hs)
  replace hs := hB.size
  clear ho
  have hcl := kc.2.2
  replace kT := kT.alloc (.cells #[.int .i64 s1, .int .i64 s2] 25)
  replace kP := kP.alloc (.cells #[.int .i64 s1, .int .i64 s2] 25)
  have k9 := Blk.new v7 #[.int .i64 s1, .int .i64 s2] 25
  have nk9 : v7.heap.size ≠ c := by omega
  replace kc := CB.closed _ _ _ _ kc ((Below.refl _ _).alloc (Nat.le_refl _) (.cells #[.int .i64 s1, .int .i64 s2] 25))
  replace hB := hB.alloc hs (.cells #[.int .i64 s1, .int .i64 s2] 25)
  replace hs := hB.size
  clear hcl
  go_upto_region 8 with (fail)
  generalize v7.alloc _ = W4 at *
  generalize v7.heap.size = r9 at *
  have k90 : (W4).cell? ⟨r9, 0, none⟩ = some (.int .i64 s1) := k9.cell 0; have k91 : (W4).cell? ⟨r9, 1, none⟩ = some (.int .i64 s2) := k9.cell 1; have k9l : r9 < (W4).heap.size := k9.lt
  have kT0 : (W4).cell? ⟨w.heap.size, 0, none⟩ = some (.int .i64 p) := kT.cell 0; have kT1 : (W4).cell? ⟨w.heap.size, 1, none⟩ = some (.int .i64 q) := kT.cell 1; have kT2 : (W4).cell? ⟨w.heap.size, 2, none⟩ = some (.int .i64 r) := kT.cell 2; have kT3 : (W4).cell? ⟨w.heap.size, 3, none⟩ = some (.int .i64 s) := kT.cell 3; have kT4 : (W4).cell? ⟨w.heap.size, 4, none⟩ = some (.int .i64 t) := kT.cell 4; have kT5 : (W4).cell? ⟨w.heap.size, 5, none⟩ = some (.int .i64 u) := kT.cell 5; have kTl : w.heap.size < (W4).heap.size := kT.lt
  have kcl := kc.2.2
  go_wp2
  apply region_join1 (fun r10 Wz => Over [c] W4 Wz ∧ (CB c o4) Wz ∧ W4.heap.size ≤ r10 ∧ Blk r10 #[.int .i64 a5, .int .i64 b5] 25 Wz)
  · intro hcont
    refine wp_region_cls [c] (fun _ => false) (fun _ => True) (KD (CB c o1) []) (by kernel_rfl) ⟨(CB.closed _ _) _ _ (kc) ((Below.refl _ _).drew), MemL.nil _⟩ ?_
    apply wpAnyF_hd ⟨W4, Over.refl _ _, kc, MemL.nil _⟩ [true, true, true, true, false, true, false, true, true] 5 (KD.closed (CB.closed _ _) _) (fun _ _ => trivial) (by kernel_rfl) (by kernel_rfl) (by kernel_rfl) (by kernel_rfl) (by simp)
    · intro E hE hEN hEn; (repeat (first | (refine wpHL_take ?_; go_big_quiet_step (fail); refine wpQuiet_nil ?_) | refine wpHL_skip ?_)); exact wpHL_end rfl
    refine wpAnyF_ready [4, 10] 4 (by kernel_rfl) (by kernel_rfl) (by simp) ?_
    refine AllF.cons ?_ ?_
    · refine stepK_call (v := .agg #[.int .i64 w1, .int .i64 w2]) (some 49) (CB c o2) (by rfl) (by rfl) (by rfl) (fun _ => by go_simp) (CB.closed _ _) (fun x hx => by cases hx) (fun w' hC => K2.out c w' hC) (fun hne => ?_)
      simp only [Act.put, List.setIfInBounds_toArray, List.set_cons_succ, List.set_cons_zero]
      refine wpAnyF_ready [6, 10] 3 (by kernel_rfl) (by kernel_rfl) (by simp) ?_
      refine AllF.cons ?_ ?_
      · refine stepK_call (v := .agg #[.int .i64 c1, .int .i64 c2]) (some 51) (CB c o3) (by rfl) (by rfl) (by rfl) (fun _ => by go_simp) (CB.closed _ _) (fun x hx => by cases hx) (fun w' hC => K3.out c w' hC) (fun hne => ?_)
        simp only [Act.put, List.setIfInBounds_toArray, List.set_cons_succ, List.set_cons_zero]
        refine wpAnyF_ready [9, 10] 2 (by kernel_rfl) (by kernel_rfl) (by simp) ?_
        refine AllF.cons ?_ ?_
        · refine stepK_call (v := .agg #[.int .i64 a5, .int .i64 b5]) (some 54) (CB c o4) (by rfl) (by rfl) (by rfl) (fun _ => by go_simp) (CB.closed _ _) (fun x hx => by cases hx) (fun w' hC => K4.out c w' hC) (fun hne => ?_)
          simp only [Act.put, List.setIfInBounds_toArray, List.set_cons_succ, List.set_cons_zero]
          refine wpAnyF_ready [10] 1 (by kernel_rfl) (by kernel_rfl) (by simp) ?_
          refine AllF.cons ?_ ?_
          · refine stepK_alloc (zs := #[.int .i64 0, .int .i64 0]) (T := 25) (by rfl) (by rfl) (by rfl) (fun _ => by go_simp) (CB.closed _ _) (fun r10 hr10 hl10 hne => ?_)
            simp only [Act.put, List.setIfInBounds_toArray, List.set_cons_succ, List.set_cons_zero]
            refine wpAnyF_ready [11] 0 (by kernel_rfl) (by kernel_rfl) (by simp) ?_
            refine AllF.cons ?_ ?_
            · refine stepK_store (v := .agg #[.int .i64 a5, .int .i64 b5]) [] [] (by rfl) (by rfl) (by rfl) (by rfl) (by rfl) (by rfl) (fun _ => by go_simp) (by rfl) (by simp [Value.cells, one1]) (.inl hr10) (CB.closed _ _) (fun _ _ h ho => CB.over h ho (by omega)) (by simp) (fun hne => ?_)
              try simp only [Value.cells]
              refine wpAnyF_done (by kernel_rfl) (fun Wz hOz hDz => ?_) _
              exact hcont r10 Wz ⟨hOz, hDz.1, (by omega), hDz.2.head⟩
            exact AllF.nil
          exact AllF.nil
        refine AllF.cons ?_ ?_
        · refine stepK_alloc (zs := #[.int .i64 0, .int .i64 0]) (T := 25) (by rfl) (by rfl) (by rfl) (fun _ => by go_simp) (CB.closed _ _) (fun r10 hr10 hl10 hne => ?_)
          simp only [Act.put, List.setIfInBounds_toArray, List.set_cons_succ, List.set_cons_zero]
          refine wpAnyF_ready [9] 1 (by kernel_rfl) (by kernel_rfl) (by simp) ?_
          refine AllF.cons ?_ ?_
          · refine stepK_call (v := .agg #[.int .i64 a5, .int .i64 b5]) (some 54) (CB c o4) (by rfl) (by rfl) (by rfl) (fun _ => by go_simp) (CB.closed _ _) (by simp; omega) (fun w' hC => K4.out c w' hC) (fun hne => ?_)
            simp only [Act.put, List.setIfInBounds_toArray, List.set_cons_succ, List.set_cons_zero]
            refine wpAnyF_ready [11] 0 (by kernel_rfl) (by kernel_rfl) (by simp) ?_
            refine AllF.cons ?_ ?_
            · refine stepK_store (v := .agg #[.int .i64 a5, .int .i64 b5]) [] [] (by rfl) (by rfl) (by rfl) (by rfl) (by rfl) (by rfl) (fun _ => by go_simp) (by rfl) (by simp [Value.cells, one1]) (.inl hr10) (CB.closed _ _) (fun _ _ h ho => CB.over h ho (by omega)) (by simp) (fun hne => ?_)
              try simp only [Value.cells]
              refine wpAnyF_done (by kernel_rfl) (fun Wz hOz hDz => ?_) _
              exact hcont r10 Wz ⟨hOz, hDz.1, (by omega), hDz.2.head⟩
            exact AllF.nil
          exact AllF.nil
        exact AllF.nil
      refine AllF.cons ?_ ?_
      · refine stepK_alloc (zs := #[.int .i64 0, .int .i64 0]) (T := 25) (by rfl) (by rfl) (by rfl) (fun _ => by go_simp) (CB.closed _ _) (fun r10 hr10 hl10 hne => ?_)
        simp only [Act.put, List.setIfInBounds_toArray, List.set_cons_succ, List.set_cons_zero]
        refine wpAnyF_ready [6] 2 (by kernel_rfl) (by kernel_rfl) (by simp) ?_
        refine AllF.cons ?_ ?_
        · refine stepK_call (v := .agg #[.int .i64 c1, .int .i64 c2]) (some 51) (CB c o3) (by rfl) (by rfl) (by rfl) (fun _ => by go_simp) (CB.closed _ _) (by simp; omega) (fun w' hC => K3.out c w' hC) (fun hne => ?_)
          simp only [Act.put, List.setIfInBounds_toArray, List.set_cons_succ, List.set_cons_zero]
          refine wpAnyF_ready [9] 1 (by kernel_rfl) (by kernel_rfl) (by simp) ?_
          refine AllF.cons ?_ ?_
          · refine stepK_call (v := .agg #[.int .i64 a5, .int .i64 b5]) (some 54) (CB c o4) (by rfl) (by rfl) (by rfl) (fun _ => by go_simp) (CB.closed _ _) (by simp; omega) (fun w' hC => K4.out c w' hC) (fun hne => ?_)
            simp only [Act.put, List.setIfInBounds_toArray, List.set_cons_succ, List.set_cons_zero]
            refine wpAnyF_ready [11] 0 (by kernel_rfl) (by kernel_rfl) (by simp) ?_
            refine AllF.cons ?_ ?_
            · refine stepK_store (v := .agg #[.int .i64 a5, .int .i64 b5]) [] [] (by rfl) (by rfl) (by rfl) (by rfl) (by rfl) (by rfl) (fun _ => by go_simp) (by rfl) (by simp [Value.cells, one1]) (.inl hr10) (CB.closed _ _) (fun _ _ h ho => CB.over h ho (by omega)) (by simp) (fun hne => ?_)
              try simp only [Value.cells]
              refine wpAnyF_done (by kernel_rfl) (fun Wz hOz hDz => ?_) _
              exact hcont r10 Wz ⟨hOz, hDz.1, (by omega), hDz.2.head⟩
            exact AllF.nil
          exact AllF.nil
        exact AllF.nil
      exact AllF.nil
    refine AllF.cons ?_ ?_
    · refine stepK_alloc (zs := #[.int .i64 0, .int .i64 0]) (T := 25) (by rfl) (by rfl) (by rfl) (fun _ => by go_simp) (CB.closed _ _) (fun r10 hr10 hl10 hne => ?_)
      simp only [Act.put, List.setIfInBounds_toArray, List.set_cons_succ, List.set_cons_zero]
      refine wpAnyF_ready [4] 3 (by kernel_rfl) (by kernel_rfl) (by simp) ?_
      refine AllF.cons ?_ ?_
      · refine stepK_call (v := .agg #[.int .i64 w1, .int .i64 w2]) (some 49) (CB c o2) (by rfl) (by rfl) (by rfl) (fun _ => by go_simp) (CB.closed _ _) (by simp; omega) (fun w' hC => K2.out c w' hC) (fun hne => ?_)
        simp only [Act.put, List.setIfInBounds_toArray, List.set_cons_succ, List.set_cons_zero]
        refine wpAnyF_ready [6] 2 (by kernel_rfl) (by kernel_rfl) (by simp) ?_
        refine AllF.cons ?_ ?_
        · refine stepK_call (v := .agg #[.int .i64 c1, .int .i64 c2]) (some 51) (CB c o3) (by rfl) (by rfl) (by rfl) (fun _ => by go_simp) (CB.closed _ _) (by simp; omega) (fun w' hC => K3.out c w' hC) (fun hne => ?_)
          simp only [Act.put, List.setIfInBounds_toArray, List.set_cons_succ, List.set_cons_zero]
          refine wpAnyF_ready [9] 1 (by kernel_rfl) (by kernel_rfl) (by simp) ?_
          refine AllF.cons ?_ ?_
          · refine stepK_call (v := .agg #[.int .i64 a5, .int .i64 b5]) (some 54) (CB c o4) (by rfl) (by rfl) (by rfl) (fun _ => by go_simp) (CB.closed _ _) (by simp; omega) (fun w' hC => K4.out c w' hC) (fun hne => ?_)
            simp only [Act.put, List.setIfInBounds_toArray, List.set_cons_succ, List.set_cons_zero]
            refine wpAnyF_ready [11] 0 (by kernel_rfl) (by kernel_rfl) (by simp) ?_
            refine AllF.cons ?_ ?_
            · refine stepK_store (v := .agg #[.int .i64 a5, .int .i64 b5]) [] [] (by rfl) (by rfl) (by rfl) (by rfl) (by rfl) (by rfl) (fun _ => by go_simp) (by rfl) (by simp [Value.cells, one1]) (.inl hr10) (CB.closed _ _) (fun _ _ h ho => CB.over h ho (by omega)) (by simp) (fun hne => ?_)
              try simp only [Value.cells]
              refine wpAnyF_done (by kernel_rfl) (fun Wz hOz hDz => ?_) _
              exact hcont r10 Wz ⟨hOz, hDz.1, (by omega), hDz.2.head⟩
            exact AllF.nil
          exact AllF.nil
        exact AllF.nil
      exact AllF.nil
    exact AllF.nil
  try dsimp only
  rintro r10 W5 ⟨hO, hk, hr, k10⟩
  clear kc
  have kc := hk
  clear hk
  have nk10 : r10 ≠ c := by omega
  clear kcl k90 k91 k9l kT0 kT1 kT2 kT3 kT4 kT5 kTl
  replace kT := kT.over hO (by simpa using ncT)
  replace kP := kP.over hO (by simpa using ncP)
  replace k9 := k9.over hO (by simpa using nk9)
  replace hB := hB.trans (hO.below1 hcB hs)
  replace hs := hB.size
  clear hO hr
  have k90 : (W5).cell? ⟨r9, 0, none⟩ = some (.int .i64 s1) := k9.cell 0; have k91 : (W5).cell? ⟨r9, 1, none⟩ = some (.int .i64 s2) := k9.cell 1; have k9l : r9 < (W5).heap.size := k9.lt
  have kT0 : (W5).cell? ⟨w.heap.size, 0, none⟩ = some (.int .i64 p) := kT.cell 0; have kT1 : (W5).cell? ⟨w.heap.size, 1, none⟩ = some (.int .i64 q) := kT.cell 1; have kT2 : (W5).cell? ⟨w.heap.size, 2, none⟩ = some (.int .i64 r) := kT.cell 2; have kT3 : (W5).cell? ⟨w.heap.size, 3, none⟩ = some (.int .i64 s) := kT.cell 3; have kT4 : (W5).cell? ⟨w.heap.size, 4, none⟩ = some (.int .i64 t) := kT.cell 4; have kT5 : (W5).cell? ⟨w.heap.size, 5, none⟩ = some (.int .i64 u) := kT.cell 5; have kTl : w.heap.size < (W5).heap.size := kT.lt
  have kcl := kc.2.2
  go_wp2
  apply region_join1 (fun r11 Wz => Over [c] W5 Wz ∧ (CB c o8) Wz ∧ W5.heap.size ≤ r11 ∧ Blk r11 #[.int .i64 a6, .int .i64 b6] 25 Wz)
  · intro hcont
    refine wp_region_cls [c] (fun _ => false) (fun _ => True) (KD (CB c o4) []) (by kernel_rfl) ⟨(CB.closed _ _) _ _ (kc) ((Below.refl _ _).drew), MemL.nil _⟩ ?_
    apply wpAnyF_hd ⟨W5, Over.refl _ _, kc, MemL.nil _⟩ [true, true, true, true, true, true, true, false, true, false, true, true, true, true, true] 6 (KD.closed (CB.closed _ _) _) (fun _ _ => trivial) (by kernel_rfl) (by kernel_rfl) (by kernel_rfl) (by kernel_rfl) (by simp)
    · intro E hE hEN hEn; (repeat (first | (refine wpHL_take ?_; go_big_quiet_step (fail); refine wpQuiet_nil ?_) | refine wpHL_skip ?_)); exact wpHL_end rfl
    refine wpAnyF_ready [7, 17] 5 (by kernel_rfl) (by kernel_rfl) (by simp) ?_
    refine AllF.cons ?_ ?_
    · refine stepK_call (v := .agg #[.int .i64 d1, .int .i64 d2]) (some 62) (CB c o5) (by rfl) (by rfl) (by rfl) (fun _ => by go_simp) (CB.closed _ _) (fun x hx => by cases hx) (fun w' hC => K5.out c w' hC) (fun hne => ?_)
      simp only [Act.put, List.setIfInBounds_toArray, List.set_cons_succ, List.set_cons_zero]
      refine wpAnyF_ready [9, 17] 4 (by kernel_rfl) (by kernel_rfl) (by simp) ?_
      refine AllF.cons ?_ ?_
      · refine stepK_call (v := .agg #[.int .i64 f1, .int .i64 f2]) (some 64) (CB c o6) (by rfl) (by rfl) (by rfl) (fun _ => by go_simp) (CB.closed _ _) (fun x hx => by cases hx) (fun w' hC => K6.out c w' hC) (fun hne => ?_)
        simp only [Act.put, List.setIfInBounds_toArray, List.set_cons_succ, List.set_cons_zero]
        refine wpAnyF_ready [15, 17] 3 (by kernel_rfl) (by kernel_rfl) (by simp) ?_
        refine AllF.cons ?_ ?_
        · refine stepK_call (v := .agg #[.int .i64 g1, .int .i64 g2]) (some 70) (CB c o7) (by rfl) (by rfl) (by rfl) (fun _ => by go_simp) (CB.closed _ _) (fun x hx => by cases hx) (fun w' hC => K7.out c w' hC) (fun hne => ?_)
          simp only [Act.put, List.setIfInBounds_toArray, List.set_cons_succ, List.set_cons_zero]
          refine wpAnyF_ready [16, 17] 2 (by kernel_rfl) (by kernel_rfl) (by simp) ?_
          refine AllF.cons ?_ ?_
          · refine stepK_call (v := .agg #[.int .i64 a6, .int .i64 b6]) (some 71) (CB c o8) (by rfl) (by rfl) (by rfl) (fun _ => by go_simp) (CB.closed _ _) (fun x hx => by cases hx) (fun w' hC => K8.out c w' hC) (fun hne => ?_)
            simp only [Act.put, List.setIfInBounds_toArray, List.set_cons_succ, List.set_cons_zero]
            refine wpAnyF_ready [17] 1 (by kernel_rfl) (by kernel_rfl) (by simp) ?_
            refine AllF.cons ?_ ?_
            · refine stepK_alloc (zs := #[.int .i64 0, .int .i64 0]) (T := 25) (by rfl) (by rfl) (by rfl) (fun _ => by go_simp) (CB.closed _ _) (fun r11 hr11 hl11 hne => ?_)
              simp only [Act.put, List.setIfInBounds_toArray, List.set_cons_succ, List.set_cons_zero]
              refine wpAnyF_ready [18] 0 (by kernel_rfl) (by kernel_rfl) (by simp) ?_
              refine AllF.cons ?_ ?_
              · refine stepK_store (v := .agg #[.int .i64 a6, .int .i64 b6]) [] [] (by rfl) (by rfl) (by rfl) (by rfl) (by rfl) (by rfl) (fun _ => by go_simp) (by rfl) (by simp [Value.cells, one1]) (.inl hr11) (CB.closed _ _) (fun _ _ h ho => CB.over h ho (by omega)) (by simp) (fun hne => ?_)
                try simp only [Value.cells]
                refine wpAnyF_done (by kernel_rfl) (fun Wz hOz hDz => ?_) _
                exact hcont r11 Wz ⟨hOz, hDz.1, (by omega), hDz.2.head⟩
              exact AllF.nil
            exact AllF.nil
          refine AllF.cons ?_ ?_
          · refine stepK_alloc (zs := #[.int .i64 0, .int .i64 0]) (T := 25) (by rfl) (by rfl) (by rfl) (fun _ => by go_simp) (CB.closed _ _) (fun r11 hr11 hl11 hne => ?_)
            simp only [Act.put, List.setIfInBounds_toArray, List.set_cons_succ, List.set_cons_zero]
            refine wpAnyF_ready [16] 1 (by kernel_rfl) (by kernel_rfl) (by simp) ?_
            refine AllF.cons ?_ ?_
            · refine stepK_call (v := .agg #[.int .i64 a6, .int .i64 b6]) (some 71) (CB c o8) (by rfl) (by rfl) (by rfl) (fun _ => by go_simp) (CB.closed _ _) (by simp; omega) (fun w' hC => K8.out c w' hC) (fun hne => ?_)
              simp only [Act.put, List.setIfInBounds_toArray, List.set_cons_succ, List.set_cons_zero]
              refine wpAnyF_ready [18] 0 (by kernel_rfl) (by kernel_rfl) (by simp) ?_
              refine AllF.cons ?_ ?_
              · refine stepK_store (v := .agg #[.int .i64 a6, .int .i64 b6]) [] [] (by rfl) (by rfl) (by rfl) (by rfl) (by rfl) (by rfl) (fun _ => by go_simp) (by rfl) (by simp [Value.cells, one1]) (.inl hr11) (CB.closed _ _) (fun _ _ h ho => CB.over h ho (by omega)) (by simp) (fun hne => ?_)
                try simp only [Value.cells]
                refine wpAnyF_done (by kernel_rfl) (fun Wz hOz hDz => ?_) _
                exact hcont r11 Wz ⟨hOz, hDz.1, (by omega), hDz.2.head⟩
              exact AllF.nil
            exact AllF.nil
          exact AllF.nil
        refine AllF.cons ?_ ?_
        · refine stepK_alloc (zs := #[.int .i64 0, .int .i64 0]) (T := 25) (by rfl) (by rfl) (by rfl) (fun _ => by go_simp) (CB.closed _ _) (fun r11 hr11 hl11 hne => ?_)
          simp only [Act.put, List.setIfInBounds_toArray, List.set_cons_succ, List.set_cons_zero]
          refine wpAnyF_ready [15] 2 (by kernel_rfl) (by kernel_rfl) (by simp) ?_
          refine AllF.cons ?_ ?_
          · refine stepK_call (v := .agg #[.int .i64 g1, .int .i64 g2]) (some 70) (CB c o7) (by rfl) (by rfl) (by rfl) (fun _ => by go_simp) (CB.closed _ _) (by simp; omega) (fun w' hC => K7.out c w' hC) (fun hne => ?_)
            simp only [Act.put, List.setIfInBounds_toArray, List.set_cons_succ, List.set_cons_zero]
            refine wpAnyF_ready [16] 1 (by kernel_rfl) (by kernel_rfl) (by simp) ?_
            refine AllF.cons ?_ ?_
            · refine stepK_call (v := .agg #[.int .i64 a6, .int .i64 b6]) (some 71) (CB c o8) (by rfl) (by rfl) (by rfl) (fun _ => by go_simp) (CB.closed _ _) (by simp; omega) (fun w' hC => K8.out c w' hC) (fun hne => ?_)
              simp only [Act.put, List.setIfInBounds_toArray, List.set_cons_succ, List.set_cons_zero]
              refine wpAnyF_ready [18] 0 (by kernel_rfl) (by kernel_rfl) (by simp) ?_
              refine AllF.cons ?_ ?_
              · refine stepK_store (v := .agg #[.int .i64 a6, .int .i64 b6]) [] [] (by rfl) (by rfl) (by rfl) (by rfl) (by rfl) (by rfl) (fun _ => by go_simp) (by rfl) (by simp [Value.cells, one1]) (.inl hr11) (CB.closed _ _) (fun _ _ h ho => CB.over h ho (by omega)) (by simp) (fun hne => ?_)
                try simp only [Value.cells]
                refine wpAnyF_done (by kernel_rfl) (fun Wz hOz hDz => ?_) _
                exact hcont r11 Wz ⟨hOz, hDz.1, (by omega), hDz.2.head⟩
              exact AllF.nil
            exact AllF.nil
          exact AllF.nil
        exact AllF.nil
      refine AllF.cons ?_ ?_
      · refine stepK_alloc (zs := #[.int .i64 0, .int .i64 0]) (T := 25) (by rfl) (by rfl) (by rfl) (fun _ => by go_simp) (CB.closed _ _) (fun r11 hr11 hl11 hne => ?_)
        simp only [Act.put, List.setIfInBounds_toArray, List.set_cons_succ, List.set_cons_zero]
        refine wpAnyF_ready [9] 3 (by kernel_rfl) (by kernel_rfl) (by simp) ?_
        refine AllF.cons ?_ ?_
        · refine stepK_call (v := .agg #[.int .i64 f1, .int .i64 f2]) (some 64) (CB c o6) (by rfl) (by rfl) (by rfl) (fun _ => by go_simp) (CB.closed _ _) (by simp; omega) (fun w' hC => K6.out c w' hC) (fun hne => ?_)
          simp only [Act.put, List.setIfInBounds_toArray, List.set_cons_succ, List.set_cons_zero]
          refine wpAnyF_ready [15] 2 (by kernel_rfl) (by kernel_rfl) (by simp) ?_
          refine AllF.cons ?_ ?_
          · refine stepK_call (v := .agg #[.int .i64 g1, .int .i64 g2]) (some 70) (CB c o7) (by rfl) (by rfl) (by rfl) (fun _ => by go_simp) (CB.closed _ _) (by simp; omega) (fun w' hC => K7.out c w' hC) (fun hne => ?_)
            simp only [Act.put, List.setIfInBounds_toArray, List.set_cons_succ, List.set_cons_zero]
            refine wpAnyF_ready [16] 1 (by kernel_rfl) (by kernel_rfl) (by simp) ?_
            refine AllF.cons ?_ ?_
            · refine stepK_call (v := .agg #[.int .i64 a6, .int .i64 b6]) (some 71) (CB c o8) (by rfl) (by rfl) (by rfl) (fun _ => by go_simp) (CB.closed _ _) (by simp; omega) (fun w' hC => K8.out c w' hC) (fun hne => ?_)
              simp only [Act.put, List.setIfInBounds_toArray, List.set_cons_succ, List.set_cons_zero]
              refine wpAnyF_ready [18] 0 (by kernel_rfl) (by kernel_rfl) (by simp) ?_
              refine AllF.cons ?_ ?_
              · refine stepK_store (v := .agg #[.int .i64 a6, .int .i64 b6]) [] [] (by rfl) (by rfl) (by rfl) (by rfl) (by rfl) (by rfl) (fun _ => by go_simp) (by rfl) (by simp [Value.cells, one1]) (.inl hr11) (CB.closed _ _) (fun _ _ h ho => CB.over h ho (by omega)) (by simp) (fun hne => ?_)
                try simp only [Value.cells]
                refine wpAnyF_done (by kernel_rfl) (fun Wz hOz hDz => ?_) _
                exact hcont r11 Wz ⟨hOz, hDz.1, (by omega), hDz.2.head⟩
              exact AllF.nil
            exact AllF.nil
          exact AllF.nil
        exact AllF.nil
      exact AllF.nil
    refine AllF.cons ?_ ?_
    · refine stepK_alloc (zs := #[.int .i64 0, .int .i64 0]) (T := 25) (by rfl) (by rfl) (by rfl) (fun _ => by go_simp) (CB.closed _ _) (fun r11 hr11 hl11 hne => ?_)
      simp only [Act.put, List.setIfInBounds_toArray, List.set_cons_succ, List.set_cons_zero]
      refine wpAnyF_ready [7] 4 (by kernel_rfl) (by kernel_rfl) (by simp) ?_
      refine AllF.cons ?_ ?_
      · refine stepK_call (v := .agg #[.int .i64 d1, .int .i64 d2]) (some 62) (CB c o5) (by rfl) (by rfl) (by rfl) (fun _ => by go_simp) (CB.closed _ _) (by simp; omega) (fun w' hC => K5.out c w' hC) (fun hne => ?_)
        simp only [Act.put, List.setIfInBounds_toArray, List.set_cons_succ, List.set_cons_zero]
        refine wpAnyF_ready [9] 3 (by kernel_rfl) (by kernel_rfl) (by simp) ?_
        refine AllF.cons ?_ ?_
        · refine stepK_call (v := .agg #[.int .i64 f1, .int .i64 f2]) (some 64) (CB c o6) (by rfl) (by rfl) (by rfl) (fun _ => by go_simp) (CB.closed _ _) (by simp; omega) (fun w' hC => K6.out c w' hC) (fun hne => ?_)
          simp only [Act.put, List.setIfInBounds_toArray, List.set_cons_succ, List.set_cons_zero]
          refine wpAnyF_ready [15] 2 (by kernel_rfl) (by kernel_rfl) (by simp) ?_
          refine AllF.cons ?_ ?_
          · refine stepK_call (v := .agg #[.int .i64 g1, .int .i64 g2]) (some 70) (CB c o7) (by rfl) (by rfl) (by rfl) (fun _ => by go_simp) (CB.closed _ _) (by simp; omega) (fun w' hC => K7.out c w' hC) (fun hne => ?_)
            simp only [Act.put, List.setIfInBounds_toArray, List.set_cons_succ, List.set_cons_zero]
            refine wpAnyF_ready [16] 1 (by kernel_rfl) (by kernel_rfl) (by simp) ?_
            refine AllF.cons ?_ ?_
            · refine stepK_call (v := .agg #[.int .i64 a6, .int .i64 b6]) (some 71) (CB c o8) (by rfl) (by rfl) (by rfl) (fun _ => by go_simp) (CB.closed _ _) (by simp; omega) (fun w' hC => K8.out c w' hC) (fun hne => ?_)
              simp only [Act.put, List.setIfInBounds_toArray, List.set_cons_succ, List.set_cons_zero]
              refine wpAnyF_ready [18] 0 (by kernel_rfl) (by kernel_rfl) (by simp) ?_
              refine AllF.cons ?_ ?_
              · refine stepK_store (v := .agg #[.int .i64 a6, .int .i64 b6]) [] [] (by rfl) (by rfl) (by rfl) (by rfl) (by rfl) (by rfl) (fun _ => by go_simp) (by rfl) (by simp [Value.cells, one1]) (.inl hr11) (CB.closed _ _) (fun _ _ h ho => CB.over h ho (by omega)) (by simp) (fun hne => ?_)
                try simp only [Value.cells]
                refine wpAnyF_done (by kernel_rfl) (fun Wz hOz hDz => ?_) _
                exact hcont r11 Wz ⟨hOz, hDz.1, (by omega), hDz.2.head⟩
              exact AllF.nil
            exact AllF.nil
          exact AllF.nil
        exact AllF.nil
      exact AllF.nil
    exact AllF.nil
  try dsimp only
  rintro r11 W6 ⟨hO, hk, hr, k11⟩
  clear kc
  have kc := hk
  clear hk
  have nk11 : r11 ≠ c := by omega
  clear kcl k90 k91 k9l kT0 kT1 kT2 kT3 kT4 kT5 kTl
  replace kT := kT.over hO (by simpa using ncT)
  replace kP := kP.over hO (by simpa using ncP)
  replace k9 := k9.over hO (by simpa using nk9)
  replace k10 := k10.over hO (by simpa using nk10)
  replace hB := hB.trans (hO.below1 hcB hs)
  replace hs := hB.size
  clear hO hr
  have kc0 := kc.1
  have kcl := kc.2.2
  clear K1 K2 K3 K4 K5 K6 K7 K8 k9 kT
  have k100 : (W6).cell? ⟨r10, 0, none⟩ = some (.int .i64 a5) := k10.cell 0; have k101 : (W6).cell? ⟨r10, 1, none⟩ = some (.int .i64 b5) := k10.cell 1; have k10l : r10 < (W6).heap.size := k10.lt
  have k110 : (W6).cell? ⟨r11, 0, none⟩ = some (.int .i64 a6) := k11.cell 0; have k111 : (W6).cell? ⟨r11, 1, none⟩ = some (.int .i64 b6) := k11.cell 1; have k11l : r11 < (W6).heap.size := k11.lt
  obtain ⟨g3, q3⟩ : ∃ g, (b6 == e * e * e) = g := ⟨_, rfl⟩
  obtain ⟨g2, q2⟩ : ∃ g, decide (e ≤ 20) = g := ⟨_, rfl⟩
  rw [q2, q3] at HO
  have n3 := neB q3
  have q2' : decide (20 < e) = !g2 := by rw [← q2, ← decide_not]; exact decide_eq_decide.2 (by omega)
  have q2'' : decide (e > 20) = !g2 := q2'
  cases o8
  · replace HO := Lib.hid (show false = o by simpa using HO.out)
    go_wp2_with fail
    refine (HX.out _).mono ?_
    rintro e' _ ⟨rfl, rfl⟩
    have kP0 : (W6).cell? ⟨w.heap.size + 1, 0, none⟩ = some (.int .i64 0) := kP.cell 0; have kP1 : (W6).cell? ⟨w.heap.size + 1, 1, none⟩ = some (.int .i64 0) := kP.cell 1; have kP2 : (W6).cell? ⟨w.heap.size + 1, 2, none⟩ = some (.int .i64 0) := kP.cell 2; have kPf0 : (W6).frozen? ⟨w.heap.size + 1, 0, none⟩ = false := kP.frozen 0; have kPf1 : (W6).frozen? ⟨w.heap.size + 1, 1, none⟩ = false := kP.frozen 1; have kPf2 : (W6).frozen? ⟨w.heap.size + 1, 2, none⟩ = false := kP.frozen 2; have kPl : w.heap.size + 1 < (W6).heap.size := kP.lt
    go_wp2
    have R := (((kP.set 0 (.int .i64 0)).set 1 (.int .i64 0)).set 2 (.int .i64 0))
    have hR : Below w.heap.size w (((W6.setCell ⟨w.heap.size + 1, 0, none⟩ (.int .i64 0)).setCell ⟨w.heap.size + 1, 1, none⟩ (.int .i64 0)).setCell ⟨w.heap.size + 1, 2, none⟩ (.int .i64 0)) := by (repeat' (first | (with_reducible exact Below.refl _ _) | (with_reducible refine below_step (by assumption) ?_ ?_) | (with_reducible refine Below.alloc ?_ ?_ _) | (with_reducible refine Below.setCell ?_ ?_ _) | (with_reducible refine below_drewN ?_ _) | (with_reducible refine Below.drew ?_) | omega | (simp; omega) | (simp; done)))
    simp only [List.setIfInBounds_toArray, List.set_cons_zero, List.set_cons_succ] at R
    clear kP kP0 kP1 kP2 kPf0 kPf1 kPf2 kPl
    generalize (((W6.setCell ⟨w.heap.size + 1, 0, none⟩ (.int .i64 0)).setCell ⟨w.heap.size + 1, 1, none⟩ (.int .i64 0)).setCell ⟨w.heap.size + 1, 2, none⟩ (.int .i64 0)) = W9 at R hR ⊢
    have R0 : (W9).cell? ⟨w.heap.size + 1, 0, none⟩ = some (.int .i64 0) := R.cell 0; have R1 : (W9).cell? ⟨w.heap.size + 1, 1, none⟩ = some (.int .i64 0) := R.cell 1; have R2 : (W9).cell? ⟨w.heap.size + 1, 2, none⟩ = some (.int .i64 0) := R.cell 2; have Rl : w.heap.size + 1 < (W9).heap.size := R.lt
    refine bodyPost_ret (v := .tuple #[.agg #[.int .i64 0, .int .i64 0, .int .i64 0], .bool false]) (by simp [results, Try.results10, go_sem, R0, R1, R2]) rfl ?_
    exact potP_no HO.out.symm hR
  cases sq
  · replace HO := Lib.hid (show false = o by simpa using HO.out)
    go_wp2_with fail
    refine (HX.out _).mono ?_
    rintro e' _ ⟨rfl, rfl⟩
    have kP0 : (W6).cell? ⟨w.heap.size + 1, 0, none⟩ = some (.int .i64 0) := kP.cell 0; have kP1 : (W6).cell? ⟨w.heap.size + 1, 1, none⟩ = some (.int .i64 0) := kP.cell 1; have kP2 : (W6).cell? ⟨w.heap.size + 1, 2, none⟩ = some (.int .i64 0) := kP.cell 2; have kPf0 : (W6).frozen? ⟨w.heap.size + 1, 0, none⟩ = false := kP.frozen 0; have kPf1 : (W6).frozen? ⟨w.heap.size + 1, 1, none⟩ = false := kP.frozen 1; have kPf2 : (W6).frozen? ⟨w.heap.size + 1, 2, none⟩ = false := kP.frozen 2; have kPl : w.heap.size + 1 < (W6).heap.size := kP.lt
    go_wp2
    have R := (((kP.set 0 (.int .i64 0)).set 1 (.int .i64 0)).set 2 (.int .i64 0))
    have hR : Below w.heap.size w (((W6.setCell ⟨w.heap.size + 1, 0, none⟩ (.int .i64 0)).setCell ⟨w.heap.size + 1, 1, none⟩ (.int .i64 0)).setCell ⟨w.heap.size + 1, 2, none⟩ (.int .i64 0)) := by (repeat' (first | (with_reducible exact Below.refl _ _) | (with_reducible refine below_step (by assumption) ?_ ?_) | (with_reducible refine Below.alloc ?_ ?_ _) | (with_reducible refine Below.setCell ?_ ?_ _) | (with_reducible refine below_drewN ?_ _) | (with_reducible refine Below.drew ?_) | omega | (simp; omega) | (simp; done)))
    simp only [List.setIfInBounds_toArray, List.set_cons_zero, List.set_cons_succ] at R
    clear kP kP0 kP1 kP2 kPf0 kPf1 kPf2 kPl
    generalize (((W6.setCell ⟨w.heap.size + 1, 0, none⟩ (.int .i64 0)).setCell ⟨w.heap.size + 1, 1, none⟩ (.int .i64 0)).setCell ⟨w.heap.size + 1, 2, none⟩ (.int .i64 0)) = W9 at R hR ⊢
    have R0 : (W9).cell? ⟨w.heap.size + 1, 0, none⟩ = some (.int .i64 0) := R.cell 0; have R1 : (W9).cell? ⟨w.heap.size + 1, 1, none⟩ = some (.int .i64 0) := R.cell 1; have R2 : (W9).cell? ⟨w.heap.size + 1, 2, none⟩ = some (.int .i64 0) := R.cell 2; have Rl : w.heap.size + 1 < (W9).heap.size := R.lt
    refine bodyPost_ret (v := .tuple #[.agg #[.int .i64 0, .int .i64 0, .int .i64 0], .bool false]) (by simp [results, Try.results10, go_sem, R0, R1, R2]) rfl ?_
    exact potP_no HO.out.symm hR
  cases g2
  · replace HO := Lib.hid (show false = o by simpa using HO.out)
    have hg : 20 < e := by simpa using q2'
    go_wp2_with fail
    refine (HX.out _).mono ?_
    rintro e' _ ⟨rfl, rfl⟩
    have kP0 : (W6).cell? ⟨w.heap.size + 1, 0, none⟩ = some (.int .i64 0) := kP.cell 0; have kP1 : (W6).cell? ⟨w.heap.size + 1, 1, none⟩ = some (.int .i64 0) := kP.cell 1; have kP2 : (W6).cell? ⟨w.heap.size + 1, 2, none⟩ = some (.int .i64 0) := kP.cell 2; have kPf0 : (W6).frozen? ⟨w.heap.size + 1, 0, none⟩ = false := kP.frozen 0; have kPf1 : (W6).frozen? ⟨w.heap.size + 1, 1, none⟩ = false := kP.frozen 1; have kPf2 : (W6).frozen? ⟨w.heap.size + 1, 2, none⟩ = false := kP.frozen 2; have kPl : w.heap.size + 1 < (W6).heap.size := kP.lt
    go_wp2
    have R := (((kP.set 0 (.int .i64 0)).set 1 (.int .i64 0)).set 2 (.int .i64 0))
    have hR : Below w.heap.size w (((W6.setCell ⟨w.heap.size + 1, 0, none⟩ (.int .i64 0)).setCell ⟨w.heap.size + 1, 1, none⟩ (.int .i64 0)).setCell ⟨w.heap.size + 1, 2, none⟩ (.int .i64 0)) := by (repeat' (first | (with_reducible exact Below.refl _ _) | (with_reducible refine below_step (by assumption) ?_ ?_) | (with_reducible refine Below.alloc ?_ ?_ _) | (with_reducible refine Below.setCell ?_ ?_ _) | (with_reducible refine below_drewN ?_ _) | (with_reducible refine Below.drew ?_) | omega | (simp; omega) | (simp; done)))
    simp only [List.setIfInBounds_toArray, List.set_cons_zero, List.set_cons_succ] at R
    clear kP kP0 kP1 kP2 kPf0 kPf1 kPf2 kPl
    generalize (((W6.setCell ⟨w.heap.size + 1, 0, none⟩ (.int .i64 0)).setCell ⟨w.heap.size + 1, 1, none⟩ (.int .i64 0)).setCell ⟨w.heap.size + 1, 2, none⟩ (.int .i64 0)) = W9 at R hR ⊢
    have R0 : (W9).cell? ⟨w.heap.size + 1, 0, none⟩ = some (.int .i64 0) := R.cell 0; have R1 : (W9).cell? ⟨w.heap.size + 1, 1, none⟩ = some (.int .i64 0) := R.cell 1; have R2 : (W9).cell? ⟨w.heap.size + 1, 2, none⟩ = some (.int .i64 0) := R.cell 2; have Rl : w.heap.size + 1 < (W9).heap.size := R.lt
    refine bodyPost_ret (v := .tuple #[.agg #[.int .i64 0, .int .i64 0, .int .i64 0], .bool false]) (by simp [results, Try.results10, go_sem, R0, R1, R2]) rfl ?_
    exact potP_no HO.out.symm hR
  cases g3
  · replace HO := Lib.hid (show false = o by simpa using HO.out)
    go_wp2_with fail
    refine (HX.out _).mono ?_
    rintro e' _ ⟨rfl, rfl⟩
    have kP0 : (W6).cell? ⟨w.heap.size + 1, 0, none⟩ = some (.int .i64 0) := kP.cell 0; have kP1 : (W6).cell? ⟨w.heap.size + 1, 1, none⟩ = some (.int .i64 0) := kP.cell 1; have kP2 : (W6).cell? ⟨w.heap.size + 1, 2, none⟩ = some (.int .i64 0) := kP.cell 2; have kPf0 : (W6).frozen? ⟨w.heap.size + 1, 0, none⟩ = false := kP.frozen 0; have kPf1 : (W6).frozen? ⟨w.heap.size + 1, 1, none⟩ = false := kP.frozen 1; have kPf2 : (W6).frozen? ⟨w.heap.size + 1, 2, none⟩ = false := kP.frozen 2; have kPl : w.heap.size + 1 < (W6).heap.size := kP.lt
    go_wp2
    have R := (((kP.set 0 (.int .i64 0)).set 1 (.int .i64 0)).set 2 (.int .i64 0))
    have hR : Below w.heap.size w (((W6.setCell ⟨w.heap.size + 1, 0, none⟩ (.int .i64 0)).setCell ⟨w.heap.size + 1, 1, none⟩ (.int .i64 0)).setCell ⟨w.heap.size + 1, 2, none⟩ (.int .i64 0)) := by (repeat' (first | (with_reducible exact Below.refl _ _) | (with_reducible refine below_step (by assumption) ?_ ?_) | (with_reducible refine Below.alloc ?_ ?_ _) | (with_reducible refine Below.setCell ?_ ?_ _) | (with_reducible refine below_drewN ?_ _) | (with_reducible refine Below.drew ?_) | omega | (simp; omega) | (simp; done)))
    simp only [List.setIfInBounds_toArray, List.set_cons_zero, List.set_cons_succ] at R
    clear kP kP0 kP1 kP2 kPf0 kPf1 kPf2 kPl
    generalize (((W6.setCell ⟨w.heap.size + 1, 0, none⟩ (.int .i64 0)).setCell ⟨w.heap.size + 1, 1, none⟩ (.int .i64 0)).setCell ⟨w.heap.size + 1, 2, none⟩ (.int .i64 0)) = W9 at R hR ⊢
    have R0 : (W9).cell? ⟨w.heap.size + 1, 0, none⟩ = some (.int .i64 0) := R.cell 0; have R1 : (W9).cell? ⟨w.heap.size + 1, 1, none⟩ = some (.int .i64 0) := R.cell 1; have R2 : (W9).cell? ⟨w.heap.size + 1, 2, none⟩ = some (.int .i64 0) := R.cell 2; have Rl : w.heap.size + 1 < (W9).heap.size := R.lt
    refine bodyPost_ret (v := .tuple #[.agg #[.int .i64 0, .int .i64 0, .int .i64 0], .bool false]) (by simp [results, Try.results10, go_sem, R0, R1, R2]) rfl ?_
    exact potP_no HO.out.symm hR
  have hg : ¬ (20 < e) := by simpa using q2'
  go_wp2_with fail
  refine (HX.out _).mono ?_
  rintro e' _ ⟨rfl, rfl⟩
  go_upto_region 14 with (fail)
  replace kP := kP.alloc (.cells #[.int .i64 a5, .int .i64 a6, .int .i64 e] 30)
  have k14 := Blk.new W6 #[.int .i64 a5, .int .i64 a6, .int .i64 e] 30
  replace hB := hB.alloc hs (.cells #[.int .i64 a5, .int .i64 a6, .int .i64 e] 30)
  replace hs := hB.size
  clear kc kc0 kcl k10 k11 k100 k101 k10l k110 k111 k11l
  generalize W6.alloc _ = W7 at *
  generalize W6.heap.size = r14 at *
  have k140 : (W7).cell? ⟨r14, 0, none⟩ = some (.int .i64 a5) := k14.cell 0; have k141 : (W7).cell? ⟨r14, 1, none⟩ = some (.int .i64 a6) := k14.cell 1; have k142 : (W7).cell? ⟨r14, 2, none⟩ = some (.int .i64 e) := k14.cell 2; have k14l : r14 < (W7).heap.size := k14.lt
  go_wp2_with fail
  refine (HP.out _).mono ?_
  rintro e' u9 ⟨rfl, hb⟩
  clear k140 k141 k142 k14l
  replace kP := kP.next hb
  replace k14 := k14.next hb
  replace hB := below_step hb hs hB
  replace hs := hB.size
  clear hb
  cases g4
  · replace HO := Lib.hid (show false = o by simpa using HO.out)
    have kP0 : (u9).cell? ⟨w.heap.size + 1, 0, none⟩ = some (.int .i64 0) := kP.cell 0; have kP1 : (u9).cell? ⟨w.heap.size + 1, 1, none⟩ = some (.int .i64 0) := kP.cell 1; have kP2 : (u9).cell? ⟨w.heap.size + 1, 2, none⟩ = some (.int .i64 0) := kP.cell 2; have kPf0 : (u9).frozen? ⟨w.heap.size + 1, 0, none⟩ = false := kP.frozen 0; have kPf1 : (u9).frozen? ⟨w.heap.size + 1, 1, none⟩ = false := kP.frozen 1; have kPf2 : (u9).frozen? ⟨w.heap.size + 1, 2, none⟩ = false := kP.frozen 2; have kPl : w.heap.size + 1 < (u9).heap.size := kP.lt
    go_wp2
    have R := (((kP.set 0 (.int .i64 0)).set 1 (.int .i64 0)).set 2 (.int .i64 0))
    have hR : Below w.heap.size w (((u9.setCell ⟨w.heap.size + 1, 0, none⟩ (.int .i64 0)).setCell ⟨w.heap.size + 1, 1, none⟩ (.int .i64 0)).setCell ⟨w.heap.size + 1, 2, none⟩ (.int .i64 0)) := by (repeat' (first | (with_reducible exact Below.refl _ _) | (with_reducible refine below_step (by assumption) ?_ ?_) | (with_reducible refine Below.alloc ?_ ?_ _) | (with_reducible refine Below.setCell ?_ ?_ _) | (with_reducible refine below_drewN ?_ _) | (with_reducible refine Below.drew ?_) | omega | (simp; omega) | (simp; done)))
    simp only [List.setIfInBounds_toArray, List.set_cons_zero, List.set_cons_succ] at R
    clear kP kP0 kP1 kP2 kPf0 kPf1 kPf2 kPl
    generalize (((u9.setCell ⟨w.heap.size + 1, 0, none⟩ (.int .i64 0)).setCell ⟨w.heap.size + 1, 1, none⟩ (.int .i64 0)).setCell ⟨w.heap.size + 1, 2, none⟩ (.int .i64 0)) = W9 at R hR ⊢
    have R0 : (W9).cell? ⟨w.heap.size + 1, 0, none⟩ = some (.int .i64 0) := R.cell 0; have R1 : (W9).cell? ⟨w.heap.size + 1, 1, none⟩ = some (.int .i64 0) := R.cell 1; have R2 : (W9).cell? ⟨w.heap.size + 1, 2, none⟩ = some (.int .i64 0) := R.cell 2; have Rl : w.heap.size + 1 < (W9).heap.size := R.lt
    refine bodyPost_ret (v := .tuple #[.agg #[.int .i64 0, .int .i64 0, .int .i64 0], .bool false]) (by simp [results, Try.results10, go_sem, R0, R1, R2]) rfl ?_
    exact potP_no HO.out.symm hR
  have k140 : (u9).cell? ⟨r14, 0, none⟩ = some (.int .i64 a5) := k14.cell 0; have k141 : (u9).cell? ⟨r14, 1, none⟩ = some (.int .i64 a6) := k14.cell 1; have k142 : (u9).cell? ⟨r14, 2, none⟩ = some (.int .i64 e) := k14.cell 2; have k14l : r14 < (u9).heap.size := k14.lt
  replace HO := Lib.hid (show true = o by simpa using HO.out)
  have kP0 : (u9).cell? ⟨w.heap.size + 1, 0, none⟩ = some (.int .i64 0) := kP.cell 0; have kP1 : (u9).cell? ⟨w.heap.size + 1, 1, none⟩ = some (.int .i64 0) := kP.cell 1; have kP2 : (u9).cell? ⟨w.heap.size + 1, 2, none⟩ = some (.int .i64 0) := kP.cell 2; have kPf0 : (u9).frozen? ⟨w.heap.size + 1, 0, none⟩ = false := kP.frozen 0; have kPf1 : (u9).frozen? ⟨w.heap.size + 1, 1, none⟩ = false := kP.frozen 1; have kPf2 : (u9).frozen? ⟨w.heap.size + 1, 2, none⟩ = false := kP.frozen 2; have kPl : w.heap.size + 1 < (u9).heap.size := kP.lt
  go_wp2
  have R := (((kP.set 0 (.int .i64 a5)).set 1 (.int .i64 a6)).set 2 (.int .i64 e))
  have hR : Below w.heap.size w (((u9.setCell ⟨w.heap.size + 1, 0, none⟩ (.int .i64 a5)).setCell ⟨w.heap.size + 1, 1, none⟩ (.int .i64 a6)).setCell ⟨w.heap.size + 1, 2, none⟩ (.int .i64 e)) := by (repeat' (first | (with_reducible exact Below.refl _ _) | (with_reducible refine below_step (by assumption) ?_ ?_) | (with_reducible refine Below.alloc ?_ ?_ _) | (with_reducible refine Below.setCell ?_ ?_ _) | (with_reducible refine below_drewN ?_ _) | (with_reducible refine Below.drew ?_) | omega | (simp; omega) | (simp; done)))
  simp only [List.setIfInBounds_toArray, List.set_cons_zero, List.set_cons_succ] at R
  clear kP kP0 kP1 kP2 kPf0 kPf1 kPf2 kPl
  generalize (((u9.setCell ⟨w.heap.size + 1, 0, none⟩ (.int .i64 a5)).setCell ⟨w.heap.size + 1, 1, none⟩ (.int .i64 a6)).setCell ⟨w.heap.size + 1, 2, none⟩ (.int .i64 e)) = W9 at R hR ⊢
  have R0 : (W9).cell? ⟨w.heap.size + 1, 0, none⟩ = some (.int .i64 a5) := R.cell 0; have R1 : (W9).cell? ⟨w.heap.size + 1, 1, none⟩ = some (.int .i64 a6) := R.cell 1; have R2 : (W9).cell? ⟨w.heap.size + 1, 2, none⟩ = some (.int .i64 e) := R.cell 2; have Rl : w.heap.size + 1 < (W9).heap.size := R.lt
  refine bodyPost_ret (v := .tuple #[.agg #[.int .i64 a5, .int .i64 a6, .int .i64 e], .bool true]) (by simp [results, Try.results10, go_sem, R0, R1, R2]) rfl ?_
  exact potP_yes HO.out.symm hR
end Go.Proofs.Ytcnfjapoopdiaaa

/- PotB -/
namespace Go.Proofs.Ytcnfjapoopdiaaa
open Go.RowKit

theorem potP_congr {w w1 : World} {a b c a' b' c' : Int} {o o' : Bool} {x : Ending} (ho : o = o') (h : o = true → a = a' ∧ b = b' ∧ c = c') (k : potP w a b c o x w1) : potP w a' b' c' o' x w1 := by
  subst ho
  cases o
  · exact k
  · obtain ⟨rfl, rfl, rfl⟩ := h rfl
    exact k
theorem rtI_bd {n : Int} (h : 0 ≤ n ∧ n ≤ 1000000000) : 0 ≤ rtI n ∧ rtI n ≤ 40000 := ⟨rtI_nonneg n, by have := rtI_le h.1 (show (0 : Int) ≤ 40000 by omega) (by omega); omega⟩
theorem pot_guard {n a5 b5 a6 b6 : Int} (h5 : 1 ≤ b5) : (sqB b5 && decide ((if sqB b5 then rtI b5 else 0) ≤ 20) && (b6 == (if sqB b5 then rtI b5 else 0) * (if sqB b5 then rtI b5 else 0) * (if sqB b5 then rtI b5 else 0)) && ptF (-n * n) 0 a5 a6 (if sqB b5 then rtI b5 else 0)) = ((rtI b5 * rtI b5 == b5) && inB (rtI b5) 1 20 && (rtI b5 * rtI b5 * rtI b5 == b6) && ptF (congA n) 0 a5 a6 (rtI b5)) := by
  have hS : (rtI b5 * rtI b5 == b5) = sqB b5 := rfl
  rw [hS]
  cases hs : sqB b5
  · simp
  · rw [if_pos rfl]
    have h2 : rtI b5 * rtI b5 = b5 := by simpa [sqB] using hs
    have h0 := rtI_nonneg b5
    have h1 : 1 ≤ rtI b5 := by
      rcases Int.lt_or_le (rtI b5) 1 with h | h
      · have : rtI b5 = 0 := by omega
        rw [this] at h2
        omega
      · exact h
    have hi : inB (rtI b5) 1 20 = decide (rtI b5 ≤ 20) := by unfold inB; rw [decide_eq_true h1, Bool.true_and]
    have hc : (b6 == rtI b5 * rtI b5 * rtI b5) = (rtI b5 * rtI b5 * rtI b5 == b6) := by
      by_cases h : rtI b5 * rtI b5 * rtI b5 = b6
      · rw [h]
      · rw [beq_false_of_ne h, beq_false_of_ne (Ne.symm h)]
    rw [hi, hc]
    rfl
/-- the point by its values -/
def PotV (n p q r s t u a b c : Int) : Prop := (1 ≤ c ∧ c ≤ 20) ∧ ptF (congA n) 0 a b c = true ∧ fv r s ≠ 0 ∧ (a : Rat) / ((c * c : Int) : Rat) = (n : Rat) * (fv p q + fv t u) / fv r s ∧ (b : Rat) / ((c * c * c : Int) : Rat) = ((2 * n * n : Int) : Rat) * (fv p q + fv t u) / (fv r s * fv r s)
theorem pot_both (n p q r s t u : Int) (hv : vlB n p q r s t u = true) : ∃ (a b c : Int) (o : Bool),
    (∀ w : World, Calls Try.prog 11 #[.int .i64 n, .agg #[.int .i64 p, .int .i64 q, .int .i64 r, .int .i64 s, .int .i64 t, .int .i64 u]] w (potP w a b c o)) ∧
    (∀ w : World, Calls Try.prog 10 #[.int .i64 n, .agg #[.int .i64 p, .int .i64 q, .int .i64 r, .int .i64 s, .int .i64 t, .int .i64 u]] w (potP w a b c o)) ∧ (o = true → PotV n p q r s t u a b c) := by
  obtain ⟨i1, i2, -, -⟩ := vlB_of hv
  have hn := areaB_b3 i1
  obtain ⟨fA, fB, fC⟩ := triOk_of i2
  clear i1 i2
  have hnn : 1 ≤ n * n ∧ n * n ≤ 961 := ⟨by have := Int.mul_le_mul hn.1 hn.1 (by omega) (by omega); omega, by have := Int.mul_le_mul hn.2 hn.2 (by omega) (by omega); omega⟩
  have hm : 2 * n * n = 2 * (n * n) := Int.mul_assoc 2 n n
  have hfn : frOk n 1 = true := by have := mk_one (n := n) (by omega); have h := mOk_fr this.1; rw [this.2.1, this.2.2] at h; exact h
  have hf2 : frOk (2 * n * n) 1 = true := by have := mk_one (n := 2 * n * n) (by omega); have h := mOk_fr this.1; rw [this.2.1, this.2.2] at h; exact h
  -- the reference's steps
  obtain ⟨a1, b1, m1, h1, s1, v1, r1⟩ := ts_frAdd p q t u true (fun _ => fA) (fun _ => fC)
  obtain ⟨a2, b2, m2, h2, s2, v2, r2⟩ := ts_frMul r s r s true (fun _ => fB) (fun _ => fB)
  obtain ⟨a3, b3, m3, h3, s3, v3, r3⟩ := ts_frMul n 1 a1 b1 m1 (fun _ => hfn) (fun h => (v1 rfl h).1)
  obtain ⟨a4, b4, m4, h4, s4, v4, r4⟩ := ts_frMul (2 * n * n) 1 a1 b1 m1 (fun _ => hf2) (fun h => (v1 rfl h).1)
  obtain ⟨a5, b5, m5, h5, s5, v5, r5⟩ := ts_frDiv a3 b3 r s m3 (fun h => (v3 (r3 h) h).1) (fun _ => fB)
  obtain ⟨a6, b6, m6, h6, s6, v6, r6⟩ := ts_frDiv a4 b4 a2 b2 (m2 && m4) (fun h => (v4 (r4 (and_r h)) (and_r h)).1) (fun h => (v2 rfl (and_l h)).1)
  obtain ⟨e, he⟩ : ∃ e, e = if m5 then rtI b5 else 0 := ⟨_, rfl⟩
  have f5 : m5 = true → frOk a5 b5 = true := fun h => (v5 (r5 h) h).1
  have he0 : 0 ≤ e ∧ e ≤ 40000 := by
    cases hm5 : m5
    · rw [he, hm5]; exact ⟨Int.le_refl _, by simp⟩
    · rw [he, hm5, if_pos rfl]
      have := (frOk_of (f5 hm5)).1
      exact rtI_bd (by omega)
  have hS := c_sPotMain n p q r s t u a1 b1 a2 b2 a3 b3 a4 b4 a5 b5 a6 b6 e m1 m2 m3 m4 m5 m6 hv hn he0 (h1 rfl) (h2 rfl) h3 h4 h5 (fun x y => h6 (by rw [x, y]; rfl))
    (fun h => Lib.hid (fun w => by
      have := (frOk_of (f5 h)).1
      rw [he, h, if_pos rfl]
      exact (c_frRoot b5 (by omega) w).mono fun x w' ⟨hx, hw⟩ => ⟨hx, by rw [hw]; exact Below.refl _ _⟩))
  -- the program's steps
  obtain ⟨t1, t2, o1, k1, g1, e1, q1⟩ := ks_plus p q t u true fA fC
  obtain ⟨w1, w2, kw, gw, ew⟩ := ks_whole n o1 (by omega)
  obtain ⟨c1, c2, o3, k3, g3, e3, q3⟩ := ks_times w1 w2 t1 t2 o1 gw g1
  obtain ⟨A5, B5, o5, k5, g5, e5, q5⟩ := ks_over c1 c2 r s o3 g3 fB
  obtain ⟨d1, d2, kd, gd, ed⟩ := ks_whole (2 * n * n) o5 (by omega)
  obtain ⟨l1, l2, o4, k4, g4, e4, q4⟩ := ks_times d1 d2 t1 t2 o5 gd g1
  obtain ⟨z1, z2, o2, k2, g2, e2, q2⟩ := ks_times r s r s o4 fB fB
  obtain ⟨A6, B6, o6, k6, g6, e6, q6⟩ := ks_over l1 l2 z1 z2 o2 g4 g2
  have hB5 := (frOk_of g5).1
  have hr := rtI_bd (n := B5) (by omega)
  have hI := c_iPotMain n p q r s t u t1 t2 w1 w2 c1 c2 A5 B5 d1 d2 l1 l2 z1 z2 A6 B6 (if sqB B5 then rtI B5 else 0) o1 o1 o3 o5 o5 o4 o2 o6 (sqB B5) hv
    (by cases sqB B5; exact ⟨Int.le_refl _, by simp⟩; exact hr) (Lib.hid k1) (Lib.hid kw) (Lib.hid k3) (Lib.hid k5) (Lib.hid kd) (Lib.hid k4) (Lib.hid k2) (Lib.hid k6) (Lib.hid fun w => c_exactRoot B5 (by omega) w)
  clear k1 kw k3 k5 kd k4 k2 k6
  have key : (o6 && sqB B5 && decide ((if sqB B5 then rtI B5 else 0) ≤ 20) && (B6 == (if sqB B5 then rtI B5 else 0) * (if sqB B5 then rtI B5 else 0) * (if sqB B5 then rtI B5 else 0)) && ptF (-n * n) 0 A5 A6 (if sqB B5 then rtI B5 else 0)) = (m1 && m2 && m3 && m4 && m5 && m6 && ((e * e == b5) && inB e 1 20 && (e * e * e == b6) && ptF (congA n) 0 a5 a6 e)) ∧ ((o6 && sqB B5 && decide ((if sqB B5 then rtI B5 else 0) ≤ 20) && (B6 == (if sqB B5 then rtI B5 else 0) * (if sqB B5 then rtI B5 else 0) * (if sqB B5 then rtI B5 else 0)) && ptF (-n * n) 0 A5 A6 (if sqB B5 then rtI B5 else 0)) = true → A5 = a5 ∧ A6 = a6 ∧ (if sqB B5 then rtI B5 else 0) = e) := by
    clear hS hI h1 h2 h3 h4 h5 h6
    have hG := pot_guard (n := n) (a5 := A5) (b5 := B5) (a6 := A6) (b6 := B6) hB5.1
    have hsq : (o6 && sqB B5 && decide ((if sqB B5 then rtI B5 else 0) ≤ 20) && (B6 == (if sqB B5 then rtI B5 else 0) * (if sqB B5 then rtI B5 else 0) * (if sqB B5 then rtI B5 else 0)) && ptF (-n * n) 0 A5 A6 (if sqB B5 then rtI B5 else 0)) = true → (if sqB B5 then rtI B5 else 0) = rtI B5 := by
      intro h
      have := and_r (and_l (and_l (and_l h)))
      rw [this]; rfl
    have hA : (o6 && sqB B5 && decide ((if sqB B5 then rtI B5 else 0) ≤ 20) && (B6 == (if sqB B5 then rtI B5 else 0) * (if sqB B5 then rtI B5 else 0) * (if sqB B5 then rtI B5 else 0)) && ptF (-n * n) 0 A5 A6 (if sqB B5 then rtI B5 else 0)) = (o6 && ((rtI B5 * rtI B5 == B5) && inB (rtI B5) 1 20 && (rtI B5 * rtI B5 * rtI B5 == B6) && ptF (congA n) 0 A5 A6 (rtI B5))) := by
      rw [← hG]; simp only [Bool.and_assoc]
    have hX : ∀ x, (if sqB B5 then rtI B5 else 0) = x → True := fun _ _ => trivial
    rw [hA] at hsq ⊢
    generalize (if sqB B5 then rtI B5 else 0) = E at *
    clear hG hA hX
    have y1 := s1 rfl
    rw [Bool.true_and] at e1
    rw [← y1] at e1
    replace e1 := e1.symm
    subst e1
    cases m1
    · skip
      have ho : o6 = false := by rw [e6, e2, e4, e5, e3]; simp
      rw [ho]; exact ⟨by simp, fun h => by simp at h⟩
    obtain rfl : t1 = a1 := (q1 rfl).1.trans (v1 rfl rfl).2.1.symm
    obtain rfl : t2 = b1 := (q1 rfl).2.trans (v1 rfl rfl).2.2.symm
    obtain ⟨rfl, rfl⟩ := ew rfl
    have y3 := s3 rfl
    rw [Bool.true_and] at e3
    rw [← y3] at e3
    replace e3 := e3.symm
    subst e3
    cases m3
    · skip
      have ho : o6 = false := by rw [e6, e2, e4, e5]; simp
      rw [ho]; exact ⟨by simp, fun h => by simp at h⟩
    obtain rfl : c1 = a3 := (q3 rfl).1.trans (v3 rfl rfl).2.1.symm
    obtain rfl : c2 = b3 := (q3 rfl).2.trans (v3 rfl rfl).2.2.symm
    have y5 := s5 rfl
    rw [Bool.true_and] at e5
    rw [← y5] at e5
    replace e5 := e5.symm
    subst e5
    cases m5
    · skip
      have ho : o6 = false := by rw [e6, e2, e4]; simp
      rw [ho]; exact ⟨by simp, fun h => by simp at h⟩
    obtain rfl : A5 = a5 := (q5 rfl).1.trans (v5 rfl rfl).2.1.symm
    obtain rfl : B5 = b5 := (q5 rfl).2.trans (v5 rfl rfl).2.2.symm
    obtain ⟨rfl, rfl⟩ := ed rfl
    have y4 := s4 rfl
    rw [Bool.true_and] at e4
    rw [← y4] at e4
    replace e4 := e4.symm
    subst e4
    cases m4
    · skip
      have ho : o6 = false := by rw [e6, e2]; simp
      rw [ho]; exact ⟨by simp, fun h => by simp at h⟩
    obtain rfl : l1 = a4 := (q4 rfl).1.trans (v4 rfl rfl).2.1.symm
    obtain rfl : l2 = b4 := (q4 rfl).2.trans (v4 rfl rfl).2.2.symm
    have y2 := s2 rfl
    rw [Bool.true_and] at e2
    rw [← y2] at e2
    replace e2 := e2.symm
    subst e2
    cases m2
    · skip
      have ho : o6 = false := by rw [e6]; simp
      rw [ho]; exact ⟨by simp, fun h => by simp at h⟩
    obtain rfl : z1 = a2 := (q2 rfl).1.trans (v2 rfl rfl).2.1.symm
    obtain rfl : z2 = b2 := (q2 rfl).2.trans (v2 rfl rfl).2.2.symm
    have y6 := s6 rfl
    rw [Bool.true_and] at e6
    rw [← y6] at e6
    replace e6 := e6.symm
    subst e6
    cases m6
    · skip
      exact ⟨by simp, fun h => by simp at h⟩
    obtain rfl : A6 = a6 := (q6 rfl).1.trans (v6 rfl rfl).2.1.symm
    obtain rfl : B6 = b6 := (q6 rfl).2.trans (v6 rfl rfl).2.2.symm
    obtain rfl : e = rtI B5 := he
    refine ⟨by simp only [Bool.true_and], fun h => ⟨rfl, rfl, hsq h⟩⟩
  refine ⟨_, _, _, _, hS, fun w => (hI w).mono fun x w1 hk => potP_congr key.1 key.2 hk, fun ho => ?_⟩
  clear hS hI key h1 h2 h3 h4 h5 h6 r1 r2 r3 r4 r5 r6
  simp only [Bool.and_eq_true, beq_iff_eq] at ho
  obtain ⟨⟨⟨⟨⟨⟨rfl, rfl⟩, rfl⟩, rfl⟩, rfl⟩, rfl⟩, ⟨⟨j1, j2⟩, j3⟩, j4⟩ := ho
  obtain ⟨_, i1, k1⟩ := v1 rfl rfl
  obtain ⟨g2, i2, k2⟩ := v2 rfl rfl
  obtain ⟨_, i3, k3⟩ := v3 rfl rfl
  obtain ⟨_, i4, k4⟩ := v4 rfl rfl
  obtain ⟨_, i5, k5⟩ := v5 rfl rfl
  obtain ⟨_, i6, k6⟩ := v6 rfl rfl
  have hs0 : s ≠ 0 := by have := (frOk_of fB).1; omega
  have hb0 : b2 ≠ 0 := by have := (frOk_of g2).1; omega
  have w1 : fv a1 b1 = fv p q + fv t u := by rw [i1, k1]; exact fv_add (s1 rfl).symm
  have w2 : fv a2 b2 = fv r s * fv r s := by rw [i2, k2]; exact fv_mul (s2 rfl).symm
  have w3 : fv a3 b3 = fv n 1 * fv a1 b1 := by rw [i3, k3]; exact fv_mul (s3 rfl).symm
  have w4 : fv a4 b4 = fv (2 * n * n) 1 * fv a1 b1 := by rw [i4, k4]; exact fv_mul (s4 rfl).symm
  have w5 := fv_div hs0 (s5 rfl).symm
  rw [← i5, ← k5] at w5
  have w6 := fv_div hb0 (s6 rfl).symm
  rw [← i6, ← k6] at w6
  rw [fv_one'] at w3 w4
  refine ⟨inB_true j2, j4, w5.2, ?_, ?_⟩
  · rw [j1, ← w1, ← w3]; exact w5.1
  · rw [j3, ← w1, ← w4, ← w2]; exact w6.1
theorem pot_all (n p q r s t u : Int) : ∃ (a b c : Int) (o : Bool),
    (∀ w : World, Calls Try.prog 11 #[.int .i64 n, .agg #[.int .i64 p, .int .i64 q, .int .i64 r, .int .i64 s, .int .i64 t, .int .i64 u]] w fun x w' => x = .returned (.tuple #[.agg #[.int .i64 a, .int .i64 b, .int .i64 c], .bool o]) ∧ Below w.heap.size w w') ∧
    (∀ w : World, Calls Try.prog 10 #[.int .i64 n, .agg #[.int .i64 p, .int .i64 q, .int .i64 r, .int .i64 s, .int .i64 t, .int .i64 u]] w fun x w' => x = .returned (.tuple #[.agg #[.int .i64 a, .int .i64 b, .int .i64 c], .bool o]) ∧ Below w.heap.size w w') ∧ (o = true → vlB n p q r s t u = true ∧ PotV n p q r s t u a b c) := by
  cases h : vlB n p q r s t u
  · exact ⟨0, 0, 0, false, c_sPotNo n p q r s t u 0 0 0 h, c_iPotNo n p q r s t u 0 0 0 h, fun h => Bool.noConfusion h⟩
  · obtain ⟨a, b, c, o, h1, h2, h3⟩ := pot_both n p q r s t u h
    cases o
    · exact ⟨0, 0, 0, false, h1, h2, fun h => Bool.noConfusion h⟩
    · exact ⟨a, b, c, true, h1, h2, fun _ => ⟨rfl, h3 rfl⟩⟩
end Go.Proofs.Ytcnfjapoopdiaaa
