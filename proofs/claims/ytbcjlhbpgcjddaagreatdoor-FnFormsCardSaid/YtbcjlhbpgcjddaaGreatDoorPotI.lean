/- Walks: the point of a triangle, the program's. -/
import Derived.Test.YtbcjlhbpgcjddaaGreatDoorVl
import Derived.Test.YtbcjlhbpgcjddaaGreatDoorCalcB
import Derived.Test.YtbcjlhbpgcjddaaGreatDoorPotD
import Derived.Test.YtbcjlhbpgcjddaaGreatDoorPt2
import Derived.Test.YtbcjlhbpgcjddaaGreatDoorRoot
import Derived.Deep.Cut
namespace Go.Proofs.YtbcjlhbpgcjddaaGreatDoor
open Go.RowKit

theorem areaB_b3 {n : Int} (h : areaB n = true) : 1 ≤ n ∧ n ≤ 31 := by
  unfold areaB at h
  simp only [Bool.and_eq_true] at h
  exact inB_true h.1
theorem curve_n3 {n : Int} (h : 1 ≤ n ∧ n ≤ 31) : curveB (-n * n) 0 = true := by
  have hk : ∀ k : Fin 31, curveB (-(((k : Nat) : Int) + 1) * (((k : Nat) : Int) + 1)) 0 = true := by decide
  have := hk ⟨(n - 1).toNat, by omega⟩
  have he : (((n - 1).toNat : Nat) : Int) + 1 = n := by omega
  simpa only [he] using this
theorem vlB_of {n p q r s t u : Int} (h : vlB n p q r s t u = true) : areaB n = true ∧ triOk p q r s t u = true ∧ tOk p q r s t u = true ∧ tIs n p q r s t u = true := by
  have HV : vlB n p q r s t u = (areaB n && triOk p q r s t u && tOk p q r s t u && tIs n p q r s t u) := rfl
  rw [HV] at h
  simp only [Bool.and_eq_true] at h
  exact ⟨h.1.1.1, h.1.1.2, h.1.2, h.2⟩
set_option maxHeartbeats 4000000 in
set_option maxRecDepth 100000 in
theorem c_iPotNo (n p q r s t u a b c : Int) (h : vlB n p q r s t u = false) (w : World) :
    Calls Tryz.prog 17 #[.int .i64 n, .agg #[.int .i64 p, .int .i64 q, .int .i64 r, .int .i64 s, .int .i64 t, .int .i64 u]] w (potP w a b c false) := by
  have HG : Hid (∀ w, _) := fun w => c_isArea n w
  have HF : Hid (∀ w, _) := fun w => c_triangleFits p q r s t u w
  have HV : Hid (vlB n p q r s t u = (areaB n && triOk p q r s t u && tOk p q r s t u && tIs n p q r s t u)) := rfl
  have HH := Lib.hid h
  clear h
  have kT := (Blk.new w #[.int .i64 p, .int .i64 q, .int .i64 r, .int .i64 s, .int .i64 t, .int .i64 u] 33).alloc (.cells #[.int .i64 0, .int .i64 0, .int .i64 0] 41)
  have kP := Blk.new (w.alloc (.cells #[.int .i64 p, .int .i64 q, .int .i64 r, .int .i64 s, .int .i64 t, .int .i64 u] 33)) #[.int .i64 0, .int .i64 0, .int .i64 0] 41
  simp only [World.size_alloc] at kP
  have hB : Below w.heap.size w ((w.alloc (.cells #[.int .i64 p, .int .i64 q, .int .i64 r, .int .i64 s, .int .i64 t, .int .i64 u] 33)).alloc (.cells #[.int .i64 0, .int .i64 0, .int .i64 0] 41)) := by (repeat' (first | (with_reducible exact Below.refl _ _) | (with_reducible refine below_step (by assumption) ?_ ?_) | (with_reducible refine Below.alloc ?_ ?_ _) | (with_reducible refine Below.setCell ?_ ?_ _) | (with_reducible refine below_drewN ?_ _) | (with_reducible refine Below.drew ?_) | omega | (simp; omega) | (simp; done)))
  have hs := hB.size
  go_enter Tryz.func17, Tryz.ntmps17
  go_wp2_with fail
  generalize ((w.alloc (.cells #[.int .i64 p, .int .i64 q, .int .i64 r, .int .i64 s, .int .i64 t, .int .i64 u] 33)).alloc (.cells #[.int .i64 0, .int .i64 0, .int .i64 0] 41)) = W at *
  refine (HG.out _).mono ?_
  rintro e' u1 ⟨rfl, hb1⟩
  replace kT := kT.next hb1
  replace kP := kP.next hb1
  replace hB := below_step hb1 hs hB
  replace hs := hB.size
  clear hb1
  cases h1 : areaB n
  · skip
    have kP0 : (u1).cell? ⟨w.heap.size + 1, 0, none⟩ = some (.int .i64 0) := kP.cell 0; have kP1 : (u1).cell? ⟨w.heap.size + 1, 1, none⟩ = some (.int .i64 0) := kP.cell 1; have kP2 : (u1).cell? ⟨w.heap.size + 1, 2, none⟩ = some (.int .i64 0) := kP.cell 2; have kPf0 : (u1).frozen? ⟨w.heap.size + 1, 0, none⟩ = false := kP.frozen 0; have kPf1 : (u1).frozen? ⟨w.heap.size + 1, 1, none⟩ = false := kP.frozen 1; have kPf2 : (u1).frozen? ⟨w.heap.size + 1, 2, none⟩ = false := kP.frozen 2; have kPl : w.heap.size + 1 < (u1).heap.size := kP.lt
    go_wp2
    have R := (((kP.set 0 (.int .i64 0)).set 1 (.int .i64 0)).set 2 (.int .i64 0))
    have hR : Below w.heap.size w (((u1.setCell ⟨w.heap.size + 1, 0, none⟩ (.int .i64 0)).setCell ⟨w.heap.size + 1, 1, none⟩ (.int .i64 0)).setCell ⟨w.heap.size + 1, 2, none⟩ (.int .i64 0)) := by (repeat' (first | (with_reducible exact Below.refl _ _) | (with_reducible refine below_step (by assumption) ?_ ?_) | (with_reducible refine Below.alloc ?_ ?_ _) | (with_reducible refine Below.setCell ?_ ?_ _) | (with_reducible refine below_drewN ?_ _) | (with_reducible refine Below.drew ?_) | omega | (simp; omega) | (simp; done)))
    simp only [List.setIfInBounds_toArray, List.set_cons_zero, List.set_cons_succ] at R
    clear kP kP0 kP1 kP2 kPf0 kPf1 kPf2 kPl
    generalize (((u1.setCell ⟨w.heap.size + 1, 0, none⟩ (.int .i64 0)).setCell ⟨w.heap.size + 1, 1, none⟩ (.int .i64 0)).setCell ⟨w.heap.size + 1, 2, none⟩ (.int .i64 0)) = W9 at R hR ⊢
    have R0 : (W9).cell? ⟨w.heap.size + 1, 0, none⟩ = some (.int .i64 0) := R.cell 0; have R1 : (W9).cell? ⟨w.heap.size + 1, 1, none⟩ = some (.int .i64 0) := R.cell 1; have R2 : (W9).cell? ⟨w.heap.size + 1, 2, none⟩ = some (.int .i64 0) := R.cell 2; have Rl : w.heap.size + 1 < (W9).heap.size := R.lt
    refine bodyPost_ret (v := .tuple #[.agg #[.int .i64 0, .int .i64 0, .int .i64 0], .bool false]) (by simp [results, Tryz.results17, go_sem, R0, R1, R2]) rfl ?_
    exact potP_no rfl hR
  have ha := areaB_b3 h1
  have kT0 : (u1).cell? ⟨w.heap.size, 0, none⟩ = some (.int .i64 p) := kT.cell 0; have kT1 : (u1).cell? ⟨w.heap.size, 1, none⟩ = some (.int .i64 q) := kT.cell 1; have kT2 : (u1).cell? ⟨w.heap.size, 2, none⟩ = some (.int .i64 r) := kT.cell 2; have kT3 : (u1).cell? ⟨w.heap.size, 3, none⟩ = some (.int .i64 s) := kT.cell 3; have kT4 : (u1).cell? ⟨w.heap.size, 4, none⟩ = some (.int .i64 t) := kT.cell 4; have kT5 : (u1).cell? ⟨w.heap.size, 5, none⟩ = some (.int .i64 u) := kT.cell 5; have kTl : w.heap.size < (u1).heap.size := kT.lt
  go_wp2_with fail
  refine (HF.out _).mono ?_
  rintro e' u2 ⟨rfl, hb2⟩
  clear kT0 kT1 kT2 kT3 kT4 kT5 kTl
  replace kT := kT.next hb2
  replace kP := kP.next hb2
  replace hB := below_step hb2 hs hB
  replace hs := hB.size
  clear hb2
  cases h2 : triOk p q r s t u
  · skip
    have kP0 : (u2).cell? ⟨w.heap.size + 1, 0, none⟩ = some (.int .i64 0) := kP.cell 0; have kP1 : (u2).cell? ⟨w.heap.size + 1, 1, none⟩ = some (.int .i64 0) := kP.cell 1; have kP2 : (u2).cell? ⟨w.heap.size + 1, 2, none⟩ = some (.int .i64 0) := kP.cell 2; have kPf0 : (u2).frozen? ⟨w.heap.size + 1, 0, none⟩ = false := kP.frozen 0; have kPf1 : (u2).frozen? ⟨w.heap.size + 1, 1, none⟩ = false := kP.frozen 1; have kPf2 : (u2).frozen? ⟨w.heap.size + 1, 2, none⟩ = false := kP.frozen 2; have kPl : w.heap.size + 1 < (u2).heap.size := kP.lt
    go_wp2
    have R := (((kP.set 0 (.int .i64 0)).set 1 (.int .i64 0)).set 2 (.int .i64 0))
    have hR : Below w.heap.size w (((u2.setCell ⟨w.heap.size + 1, 0, none⟩ (.int .i64 0)).setCell ⟨w.heap.size + 1, 1, none⟩ (.int .i64 0)).setCell ⟨w.heap.size + 1, 2, none⟩ (.int .i64 0)) := by (repeat' (first | (with_reducible exact Below.refl _ _) | (with_reducible refine below_step (by assumption) ?_ ?_) | (with_reducible refine Below.alloc ?_ ?_ _) | (with_reducible refine Below.setCell ?_ ?_ _) | (with_reducible refine below_drewN ?_ _) | (with_reducible refine Below.drew ?_) | omega | (simp; omega) | (simp; done)))
    simp only [List.setIfInBounds_toArray, List.set_cons_zero, List.set_cons_succ] at R
    clear kP kP0 kP1 kP2 kPf0 kPf1 kPf2 kPl
    generalize (((u2.setCell ⟨w.heap.size + 1, 0, none⟩ (.int .i64 0)).setCell ⟨w.heap.size + 1, 1, none⟩ (.int .i64 0)).setCell ⟨w.heap.size + 1, 2, none⟩ (.int .i64 0)) = W9 at R hR ⊢
    have R0 : (W9).cell? ⟨w.heap.size + 1, 0, none⟩ = some (.int .i64 0) := R.cell 0; have R1 : (W9).cell? ⟨w.heap.size + 1, 1, none⟩ = some (.int .i64 0) := R.cell 1; have R2 : (W9).cell? ⟨w.heap.size + 1, 2, none⟩ = some (.int .i64 0) := R.cell 2; have Rl : w.heap.size + 1 < (W9).heap.size := R.lt
    refine bodyPost_ret (v := .tuple #[.agg #[.int .i64 0, .int .i64 0, .int .i64 0], .bool false]) (by simp [results, Tryz.results17, go_sem, R0, R1, R2]) rfl ?_
    exact potP_no rfl hR
  have hi := fun w => c_isTriangle n p q r s t u ha h2 w
  have hm : (tOk p q r s t u && tIs n p q r s t u) = false := by have := HH.out; rw [HV.out, h1, h2] at this; simpa using this
  generalize tOk p q r s t u = o at *
  generalize tIs n p q r s t u = i at *
  have HI := Lib.hid hi
  clear hi HH HV
  have kT0 : (u2).cell? ⟨w.heap.size, 0, none⟩ = some (.int .i64 p) := kT.cell 0; have kT1 : (u2).cell? ⟨w.heap.size, 1, none⟩ = some (.int .i64 q) := kT.cell 1; have kT2 : (u2).cell? ⟨w.heap.size, 2, none⟩ = some (.int .i64 r) := kT.cell 2; have kT3 : (u2).cell? ⟨w.heap.size, 3, none⟩ = some (.int .i64 s) := kT.cell 3; have kT4 : (u2).cell? ⟨w.heap.size, 4, none⟩ = some (.int .i64 t) := kT.cell 4; have kT5 : (u2).cell? ⟨w.heap.size, 5, none⟩ = some (.int .i64 u) := kT.cell 5; have kTl : w.heap.size < (u2).heap.size := kT.lt
  go_wp2_with fail
  refine (HI.out _).mono ?_
  rintro e' u3 ⟨rfl, hb3⟩
  clear kT0 kT1 kT2 kT3 kT4 kT5 kTl
  replace kT := kT.next hb3
  replace kP := kP.next hb3
  replace hB := below_step hb3 hs hB
  replace hs := hB.size
  clear hb3 HI
  cases o
  · skip
    have kP0 : (u3).cell? ⟨w.heap.size + 1, 0, none⟩ = some (.int .i64 0) := kP.cell 0; have kP1 : (u3).cell? ⟨w.heap.size + 1, 1, none⟩ = some (.int .i64 0) := kP.cell 1; have kP2 : (u3).cell? ⟨w.heap.size + 1, 2, none⟩ = some (.int .i64 0) := kP.cell 2; have kPf0 : (u3).frozen? ⟨w.heap.size + 1, 0, none⟩ = false := kP.frozen 0; have kPf1 : (u3).frozen? ⟨w.heap.size + 1, 1, none⟩ = false := kP.frozen 1; have kPf2 : (u3).frozen? ⟨w.heap.size + 1, 2, none⟩ = false := kP.frozen 2; have kPl : w.heap.size + 1 < (u3).heap.size := kP.lt
    go_wp2
    have R := (((kP.set 0 (.int .i64 0)).set 1 (.int .i64 0)).set 2 (.int .i64 0))
    have hR : Below w.heap.size w (((u3.setCell ⟨w.heap.size + 1, 0, none⟩ (.int .i64 0)).setCell ⟨w.heap.size + 1, 1, none⟩ (.int .i64 0)).setCell ⟨w.heap.size + 1, 2, none⟩ (.int .i64 0)) := by (repeat' (first | (with_reducible exact Below.refl _ _) | (with_reducible refine below_step (by assumption) ?_ ?_) | (with_reducible refine Below.alloc ?_ ?_ _) | (with_reducible refine Below.setCell ?_ ?_ _) | (with_reducible refine below_drewN ?_ _) | (with_reducible refine Below.drew ?_) | omega | (simp; omega) | (simp; done)))
    simp only [List.setIfInBounds_toArray, List.set_cons_zero, List.set_cons_succ] at R
    clear kP kP0 kP1 kP2 kPf0 kPf1 kPf2 kPl
    generalize (((u3.setCell ⟨w.heap.size + 1, 0, none⟩ (.int .i64 0)).setCell ⟨w.heap.size + 1, 1, none⟩ (.int .i64 0)).setCell ⟨w.heap.size + 1, 2, none⟩ (.int .i64 0)) = W9 at R hR ⊢
    have R0 : (W9).cell? ⟨w.heap.size + 1, 0, none⟩ = some (.int .i64 0) := R.cell 0; have R1 : (W9).cell? ⟨w.heap.size + 1, 1, none⟩ = some (.int .i64 0) := R.cell 1; have R2 : (W9).cell? ⟨w.heap.size + 1, 2, none⟩ = some (.int .i64 0) := R.cell 2; have Rl : w.heap.size + 1 < (W9).heap.size := R.lt
    refine bodyPost_ret (v := .tuple #[.agg #[.int .i64 0, .int .i64 0, .int .i64 0], .bool false]) (by simp [results, Tryz.results17, go_sem, R0, R1, R2]) rfl ?_
    exact potP_no rfl hR
  obtain rfl : i = false := by simpa using hm
  have kP0 : (u3).cell? ⟨w.heap.size + 1, 0, none⟩ = some (.int .i64 0) := kP.cell 0; have kP1 : (u3).cell? ⟨w.heap.size + 1, 1, none⟩ = some (.int .i64 0) := kP.cell 1; have kP2 : (u3).cell? ⟨w.heap.size + 1, 2, none⟩ = some (.int .i64 0) := kP.cell 2; have kPf0 : (u3).frozen? ⟨w.heap.size + 1, 0, none⟩ = false := kP.frozen 0; have kPf1 : (u3).frozen? ⟨w.heap.size + 1, 1, none⟩ = false := kP.frozen 1; have kPf2 : (u3).frozen? ⟨w.heap.size + 1, 2, none⟩ = false := kP.frozen 2; have kPl : w.heap.size + 1 < (u3).heap.size := kP.lt
  go_wp2
  have R := (((kP.set 0 (.int .i64 0)).set 1 (.int .i64 0)).set 2 (.int .i64 0))
  have hR : Below w.heap.size w (((u3.setCell ⟨w.heap.size + 1, 0, none⟩ (.int .i64 0)).setCell ⟨w.heap.size + 1, 1, none⟩ (.int .i64 0)).setCell ⟨w.heap.size + 1, 2, none⟩ (.int .i64 0)) := by (repeat' (first | (with_reducible exact Below.refl _ _) | (with_reducible refine below_step (by assumption) ?_ ?_) | (with_reducible refine Below.alloc ?_ ?_ _) | (with_reducible refine Below.setCell ?_ ?_ _) | (with_reducible refine below_drewN ?_ _) | (with_reducible refine Below.drew ?_) | omega | (simp; omega) | (simp; done)))
  simp only [List.setIfInBounds_toArray, List.set_cons_zero, List.set_cons_succ] at R
  clear kP kP0 kP1 kP2 kPf0 kPf1 kPf2 kPl
  generalize (((u3.setCell ⟨w.heap.size + 1, 0, none⟩ (.int .i64 0)).setCell ⟨w.heap.size + 1, 1, none⟩ (.int .i64 0)).setCell ⟨w.heap.size + 1, 2, none⟩ (.int .i64 0)) = W9 at R hR ⊢
  have R0 : (W9).cell? ⟨w.heap.size + 1, 0, none⟩ = some (.int .i64 0) := R.cell 0; have R1 : (W9).cell? ⟨w.heap.size + 1, 1, none⟩ = some (.int .i64 0) := R.cell 1; have R2 : (W9).cell? ⟨w.heap.size + 1, 2, none⟩ = some (.int .i64 0) := R.cell 2; have Rl : w.heap.size + 1 < (W9).heap.size := R.lt
  refine bodyPost_ret (v := .tuple #[.agg #[.int .i64 0, .int .i64 0, .int .i64 0], .bool false]) (by simp [results, Tryz.results17, go_sem, R0, R1, R2]) rfl ?_
  exact potP_no rfl hR
set_option maxHeartbeats 4000000 in
set_option maxRecDepth 100000 in
theorem c_iPotMain (n p q r s t u s1 s2 w1 w2 c1 c2 a5 b5 d1 d2 f1 f2 g1 g2 a6 b6 e : Int) (o1 o2 o3 o4 o5 o6 o7 o8 sq : Bool) (hv : vlB n p q r s t u = true) (he : 0 ≤ e ∧ e ≤ 40000)
    (K1 : Hid (Kq 59 [.agg #[.int .i64 p, .int .i64 q], .agg #[.int .i64 t, .int .i64 u]] true s1 s2 o1))
    (K2 : Hid (Kq 62 [.int .i64 n] o1 w1 w2 o2))
    (K3 : Hid (Kq 61 [.agg #[.int .i64 w1, .int .i64 w2], .agg #[.int .i64 s1, .int .i64 s2]] o2 c1 c2 o3))
    (K4 : Hid (Kq 60 [.agg #[.int .i64 c1, .int .i64 c2], .agg #[.int .i64 r, .int .i64 s]] o3 a5 b5 o4))
    (K5 : Hid (Kq 62 [.int .i64 (2 * n * n)] o4 d1 d2 o5))
    (K6 : Hid (Kq 61 [.agg #[.int .i64 d1, .int .i64 d2], .agg #[.int .i64 s1, .int .i64 s2]] o5 f1 f2 o6))
    (K7 : Hid (Kq 61 [.agg #[.int .i64 r, .int .i64 s], .agg #[.int .i64 r, .int .i64 s]] o6 g1 g2 o7))
    (K8 : Hid (Kq 60 [.agg #[.int .i64 f1, .int .i64 f2], .agg #[.int .i64 g1, .int .i64 g2]] o7 a6 b6 o8))
    (HX : Hid (∀ w : World, Calls Tryz.prog 63 #[.int .i64 b5] w fun x w' => x = .returned (.tuple #[.int .i64 e, .bool sq]) ∧ w = w')) (w : World) :
    Calls Tryz.prog 17 #[.int .i64 n, .agg #[.int .i64 p, .int .i64 q, .int .i64 r, .int .i64 s, .int .i64 t, .int .i64 u]] w (potP w a5 a6 e (o8 && sq && decide (e ≤ 20) && (b6 == e * e * e) && ptF (-n * n) 0 a5 a6 e)) := by
  obtain ⟨h1, h2, h3, h4⟩ := vlB_of hv
  have hn' := areaB_b3 h1
  have HG : Hid (∀ w, _) := fun w => c_isArea n w
  rw [h1] at HG
  have HF : Hid (∀ w, _) := fun w => c_triangleFits p q r s t u w
  rw [h2] at HF
  have HT : Hid (∀ w, _) := fun w => c_isTriangle n p q r s t u hn' h2 w
  rw [h3, h4] at HT
  have HP : Hid (∀ w, _) := fun w => c_isPoint (-n * n) 0 a5 a6 e (curve_n3 hn') w
  have hnn : 1 ≤ n * n ∧ n * n ≤ 961 := ⟨by have := Int.mul_le_mul hn'.1 hn'.1 (by omega) (by omega); omega, by have := Int.mul_le_mul hn'.2 hn'.2 (by omega) (by omega); omega⟩
  have hneg : -n * n = -(n * n) := Int.neg_mul n n
  have hm : 2 * n * n = 2 * (n * n) := Int.mul_assoc 2 n n
  have hwn : IntKind.i64.wrap (-n) = -n := IntWalk.i64_in _ (by omega)
  have hwm : IntKind.i64.wrap (-n * n) = -n * n := IntWalk.i64_in _ (by omega)
  have hw2 : IntKind.i64.wrap (2 * n) = 2 * n := IntWalk.i64_in _ (by omega)
  have hw3 : IntKind.i64.wrap (2 * n * n) = 2 * n * n := IntWalk.i64_in _ (by omega)
  have hee : 0 ≤ e * e ∧ e * e ≤ 1600000000 := ⟨Int.mul_nonneg he.1 he.1, by have := Int.mul_le_mul he.2 he.2 he.1 (by omega); omega⟩
  have he3 : 0 ≤ e * e * e ∧ e * e * e ≤ 64000000000000 := ⟨Int.mul_nonneg hee.1 he.1, by have := Int.mul_le_mul hee.2 he.2 he.1 (by omega); omega⟩
  have hwe : IntKind.i64.wrap (e * e) = e * e := IntWalk.i64_in _ (by omega)
  have hwf : IntKind.i64.wrap (e * e * e) = e * e * e := IntWalk.i64_in _ (by omega)
  clear hv hm hnn hee he3 he hneg h1 h2 h3 h4 hn'
  obtain ⟨o, ho⟩ : ∃ o, (o8 && sq && decide (e ≤ 20) && (b6 == e * e * e) && ptF (-n * n) 0 a5 a6 e) = o := ⟨_, rfl⟩
  rw [ho]
  have HO := Lib.hid ho
  clear ho
  generalize ptF (-n * n) 0 a5 a6 e = g4 at *
  have kT := (Blk.new w #[.int .i64 p, .int .i64 q, .int .i64 r, .int .i64 s, .int .i64 t, .int .i64 u] 33).alloc (.cells #[.int .i64 0, .int .i64 0, .int .i64 0] 41)
  have kP := Blk.new (w.alloc (.cells #[.int .i64 p, .int .i64 q, .int .i64 r, .int .i64 s, .int .i64 t, .int .i64 u] 33)) #[.int .i64 0, .int .i64 0, .int .i64 0] 41
  simp only [World.size_alloc] at kP
  have hB : Below w.heap.size w ((w.alloc (.cells #[.int .i64 p, .int .i64 q, .int .i64 r, .int .i64 s, .int .i64 t, .int .i64 u] 33)).alloc (.cells #[.int .i64 0, .int .i64 0, .int .i64 0] 41)) := by (repeat' (first | (with_reducible exact Below.refl _ _) | (with_reducible refine below_step (by assumption) ?_ ?_) | (with_reducible refine Below.alloc ?_ ?_ _) | (with_reducible refine Below.setCell ?_ ?_ _) | (with_reducible refine below_drewN ?_ _) | (with_reducible refine Below.drew ?_) | omega | (simp; omega) | (simp; done)))
  have hs := hB.size
  have hz : w.heap.size + 2 ≤ (((w.alloc (.cells #[.int .i64 p, .int .i64 q, .int .i64 r, .int .i64 s, .int .i64 t, .int .i64 u] 33)).alloc (.cells #[.int .i64 0, .int .i64 0, .int .i64 0] 41))).heap.size := by simp
  go_enter Tryz.func17, Tryz.ntmps17
  go_wp2_with fail
  generalize ((w.alloc (.cells #[.int .i64 p, .int .i64 q, .int .i64 r, .int .i64 s, .int .i64 t, .int .i64 u] 33)).alloc (.cells #[.int .i64 0, .int .i64 0, .int .i64 0] 41)) = W at *
  refine (HG.out _).mono ?_
  rintro e' u1 ⟨rfl, hb1⟩
  have hz1 := hb1.size
  replace kT := kT.next hb1
  replace kP := kP.next hb1
  replace hB := below_step hb1 hs hB
  replace hs := hB.size
  clear hb1
  have kT0 : (u1).cell? ⟨w.heap.size, 0, none⟩ = some (.int .i64 p) := kT.cell 0; have kT1 : (u1).cell? ⟨w.heap.size, 1, none⟩ = some (.int .i64 q) := kT.cell 1; have kT2 : (u1).cell? ⟨w.heap.size, 2, none⟩ = some (.int .i64 r) := kT.cell 2; have kT3 : (u1).cell? ⟨w.heap.size, 3, none⟩ = some (.int .i64 s) := kT.cell 3; have kT4 : (u1).cell? ⟨w.heap.size, 4, none⟩ = some (.int .i64 t) := kT.cell 4; have kT5 : (u1).cell? ⟨w.heap.size, 5, none⟩ = some (.int .i64 u) := kT.cell 5; have kTl : w.heap.size < (u1).heap.size := kT.lt
  go_wp2_with fail
  refine (HF.out _).mono ?_
  rintro e' u2 ⟨rfl, hb2⟩
  clear kT0 kT1 kT2 kT3 kT4 kT5 kTl
  have hz2 := hb2.size
  replace kT := kT.next hb2
  replace kP := kP.next hb2
  replace hB := below_step hb2 hs hB
  replace hs := hB.size
  clear hb2
  have kT0 : (u2).cell? ⟨w.heap.size, 0, none⟩ = some (.int .i64 p) := kT.cell 0; have kT1 : (u2).cell? ⟨w.heap.size, 1, none⟩ = some (.int .i64 q) := kT.cell 1; have kT2 : (u2).cell? ⟨w.heap.size, 2, none⟩ = some (.int .i64 r) := kT.cell 2; have kT3 : (u2).cell? ⟨w.heap.size, 3, none⟩ = some (.int .i64 s) := kT.cell 3; have kT4 : (u2).cell? ⟨w.heap.size, 4, none⟩ = some (.int .i64 t) := kT.cell 4; have kT5 : (u2).cell? ⟨w.heap.size, 5, none⟩ = some (.int .i64 u) := kT.cell 5; have kTl : w.heap.size < (u2).heap.size := kT.lt
  go_wp2_with fail
  refine (HT.out _).mono ?_
  rintro e' u3 ⟨rfl, hb3⟩
  clear kT0 kT1 kT2 kT3 kT4 kT5 kTl
  have hz3 := hb3.size
  replace kT := kT.next hb3
  replace kP := kP.next hb3
  replace hB := below_step hb3 hs hB
  replace hs := hB.size
  clear hb3
  go_upto_region 7 with (fail)
  have kc : CB u3.heap.size true (u3.alloc (.cells #[.bool true] 83)) := ⟨by simp [go_sem], by simp [go_sem], by simp⟩
  replace kT := kT.alloc (.cells #[.bool true] 83)
  replace kP := kP.alloc (.cells #[.bool true] 83)
  replace hB := hB.alloc hs (.cells #[.bool true] 83)
  replace hs := hB.size
  generalize u3.alloc _ = W3 at *
  have hcB : w.heap.size + 2 ≤ u3.heap.size := by omega
  clear hz hz1 hz2 hz3
  generalize u3.heap.size = c at *
  have ncT : w.heap.size ≠ c := by omega
  have ncP : w.heap.size + 1 ≠ c := by omega
  replace hcB : w.heap.size ≤ c := by omega
  clear HG HF HT
  have kT0 : (W3).cell? ⟨w.heap.size, 0, none⟩ = some (.int .i64 p) := kT.cell 0; have kT1 : (W3).cell? ⟨w.heap.size, 1, none⟩ = some (.int .i64 q) := kT.cell 1; have kT2 : (W3).cell? ⟨w.heap.size, 2, none⟩ = some (.int .i64 r) := kT.cell 2; have kT3 : (W3).cell? ⟨w.heap.size, 3, none⟩ = some (.int .i64 s) := kT.cell 3; have kT4 : (W3).cell? ⟨w.heap.size, 4, none⟩ = some (.int .i64 t) := kT.cell 4; have kT5 : (W3).cell? ⟨w.heap.size, 5, none⟩ = some (.int .i64 u) := kT.cell 5; have kTl : w.heap.size < (W3).heap.size := kT.lt
  have kcl := kc.2.2
  go_wp2_with fail
  refine (K1.out c _ kc).mono ?_
  rintro e' v7 ⟨rfl, ho, hk⟩
  clear kT0 kT1 kT2 kT3 kT4 kT5 kTl kcl kc
  have kc := hk
  clear hk
  replace kT := kT.over ho (by simpa using ncT)
  replace kP := kP.over ho (by simpa using ncP)
  replace hB := hB.trans (ho.below1 hcB hs)
  replace hs := hB.size
  clear ho
  have hcl := kc.2.2
  replace kT := kT.alloc (.cells #[.int .i64 s1, .int .i64 s2] 31)
  replace kP := kP.alloc (.cells #[.int .i64 s1, .int .i64 s2] 31)
  have k9 := Blk.new v7 #[.int .i64 s1, .int .i64 s2] 31
  have nk9 : v7.heap.size ≠ c := by omega
  replace kc := CB.closed _ _ _ _ kc ((Below.refl _ _).alloc (Nat.le_refl _) (.cells #[.int .i64 s1, .int .i64 s2] 31))
  replace hB := hB.alloc hs (.cells #[.int .i64 s1, .int .i64 s2] 31)
  replace hs := hB.size
  clear hcl
  go_upto_region 8 with (fail)
  generalize v7.alloc _ = W4 at *
  generalize v7.heap.size = r9 at *
  have k90 : (W4).cell? ⟨r9, 0, none⟩ = some (.int .i64 s1) := k9.cell 0; have k91 : (W4).cell? ⟨r9, 1, none⟩ = some (.int .i64 s2) := k9.cell 1; have k9l : r9 < (W4).heap.size := k9.lt
  have kT0 : (W4).cell? ⟨w.heap.size, 0, none⟩ = some (.int .i64 p) := kT.cell 0; have kT1 : (W4).cell? ⟨w.heap.size, 1, none⟩ = some (.int .i64 q) := kT.cell 1; have kT2 : (W4).cell? ⟨w.heap.size, 2, none⟩ = some (.int .i64 r) := kT.cell 2; have kT3 : (W4).cell? ⟨w.heap.size, 3, none⟩ = some (.int .i64 s) := kT.cell 3; have kT4 : (W4).cell? ⟨w.heap.size, 4, none⟩ = some (.int .i64 t) := kT.cell 4; have kT5 : (W4).cell? ⟨w.heap.size, 5, none⟩ = some (.int .i64 u) := kT.cell 5; have kTl : w.heap.size < (W4).heap.size := kT.lt
  have kcl := kc.2.2
  go_wp2
  apply region_join1 (fun r10 Wz => Over [c] W4 Wz ∧ (CB c o4) Wz ∧ W4.heap.size ≤ r10 ∧ Blk r10 #[.int .i64 a5, .int .i64 b5] 31 Wz)
  · intro hcont
    refine wp_region_cls [c] (fun _ => false) (fun _ => True) (KD (CB c o1) []) (by kernel_rfl) ⟨(CB.closed _ _) _ _ (kc) ((Below.refl _ _).drew), MemL.nil _⟩ ?_
    apply wpAnyF_hd ⟨W4, Over.refl _ _, kc, MemL.nil _⟩ [true, true, true, true, false, true, false, true, true] 5 (KD.closed (CB.closed _ _) _) (fun _ _ => trivial) (by kernel_rfl) (by kernel_rfl) (by kernel_rfl) (by kernel_rfl) (by simp)
    · intro E hE hEN hEn; (repeat (first | (refine wpHL_take ?_; go_big_quiet_step (fail); refine wpQuiet_nil ?_) | refine wpHL_skip ?_)); exact wpHL_end rfl
    refine wpAnyF_ready [4, 10] 4 (by kernel_rfl) (by kernel_rfl) (by simp) ?_
    refine AllF.cons ?_ ?_
    · refine stepK_call (v := .agg #[.int .i64 w1, .int .i64 w2]) (some 49) (CB c o2) (by rfl) (by rfl) (by rfl) (fun _ => by go_simp) (CB.closed _ _) (fun x hx => by cases hx) (fun w' hC => K2.out c w' hC) (fun hne => ?_)
      simp only [Act.put, List.setIfInBounds_toArray, List.set_cons_succ, List.set_cons_zero]
      refine wpAnyF_ready [6, 10] 3 (by kernel_rfl) (by kernel_rfl) (by simp) ?_
      refine AllF.cons ?_ ?_
      · refine stepK_call (v := .agg #[.int .i64 c1, .int .i64 c2]) (some 51) (CB c o3) (by rfl) (by rfl) (by rfl) (fun _ => by go_simp) (CB.closed _ _) (fun x hx => by cases hx) (fun w' hC => K3.out c w' hC) (fun hne => ?_)
        simp only [Act.put, List.setIfInBounds_toArray, List.set_cons_succ, List.set_cons_zero]
        refine wpAnyF_ready [9, 10] 2 (by kernel_rfl) (by kernel_rfl) (by simp) ?_
        refine AllF.cons ?_ ?_
        · refine stepK_call (v := .agg #[.int .i64 a5, .int .i64 b5]) (some 54) (CB c o4) (by rfl) (by rfl) (by rfl) (fun _ => by go_simp) (CB.closed _ _) (fun x hx => by cases hx) (fun w' hC => K4.out c w' hC) (fun hne => ?_)
          simp only [Act.put, List.setIfInBounds_toArray, List.set_cons_succ, List.set_cons_zero]
          refine wpAnyF_ready [10] 1 (by kernel_rfl) (by kernel_rfl) (by simp) ?_
          refine AllF.cons ?_ ?_
          · refine stepK_alloc (zs := #[.int .i64 0, .int .i64 0]) (T := 31) (by rfl) (by rfl) (by rfl) (fun _ => by go_simp) (CB.closed _ _) (fun r10 hr10 hl10 hne => ?_)
            simp only [Act.put, List.setIfInBounds_toArray, List.set_cons_succ, List.set_cons_zero]
            refine wpAnyF_ready [11] 0 (by kernel_rfl) (by kernel_rfl) (by simp) ?_
            refine AllF.cons ?_ ?_
            · refine stepK_store (v := .agg #[.int .i64 a5, .int .i64 b5]) [] [] (by rfl) (by rfl) (by rfl) (by rfl) (by rfl) (by rfl) (fun _ => by go_simp) (by rfl) (by simp [Value.cells, one1]) (.inl hr10) (CB.closed _ _) (fun _ _ h ho => CB.over h ho (by omega)) (by simp) (fun hne => ?_)
              try simp only [Value.cells]
              refine wpAnyF_done (by kernel_rfl) (fun Wz hOz hDz => ?_) _
              exact hcont r10 Wz ⟨hOz, hDz.1, (by omega), hDz.2.head⟩
            exact AllF.nil
          exact AllF.nil
        refine AllF.cons ?_ ?_
        · refine stepK_alloc (zs := #[.int .i64 0, .int .i64 0]) (T := 31) (by rfl) (by rfl) (by rfl) (fun _ => by go_simp) (CB.closed _ _) (fun r10 hr10 hl10 hne => ?_)
          simp only [Act.put, List.setIfInBounds_toArray, List.set_cons_succ, List.set_cons_zero]
          refine wpAnyF_ready [9] 1 (by kernel_rfl) (by kernel_rfl) (by simp) ?_
          refine AllF.cons ?_ ?_
          · refine stepK_call (v := .agg #[.int .i64 a5, .int .i64 b5]) (some 54) (CB c o4) (by rfl) (by rfl) (by rfl) (fun _ => by go_simp) (CB.closed _ _) (by simp; omega) (fun w' hC => K4.out c w' hC) (fun hne => ?_)
            simp only [Act.put, List.setIfInBounds_toArray, List.set_cons_succ, List.set_cons_zero]
            refine wpAnyF_ready [11] 0 (by kernel_rfl) (by kernel_rfl) (by simp) ?_
            refine AllF.cons ?_ ?_
            · refine stepK_store (v := .agg #[.int .i64 a5, .int .i64 b5]) [] [] (by rfl) (by rfl) (by rfl) (by rfl) (by rfl) (by rfl) (fun _ => by go_simp) (by rfl) (by simp [Value.cells, one1]) (.inl hr10) (CB.closed _ _) (fun _ _ h ho => CB.over h ho (by omega)) (by simp) (fun hne => ?_)
              try simp only [Value.cells]
              refine wpAnyF_done (by kernel_rfl) (fun Wz hOz hDz => ?_) _
              exact hcont r10 Wz ⟨hOz, hDz.1, (by omega), hDz.2.head⟩
            exact AllF.nil
          exact AllF.nil
        exact AllF.nil
      refine AllF.cons ?_ ?_
      · refine stepK_alloc (zs := #[.int .i64 0, .int .i64 0]) (T := 31) (by rfl) (by rfl) (by rfl) (fun _ => by go_simp) (CB.closed _ _) (fun r10 hr10 hl10 hne => ?_)
        simp only [Act.put, List.setIfInBounds_toArray, List.set_cons_succ, List.set_cons_zero]
        refine wpAnyF_ready [6] 2 (by kernel_rfl) (by kernel_rfl) (by simp) ?_
        refine AllF.cons ?_ ?_
        · refine stepK_call (v := .agg #[.int .i64 c1, .int .i64 c2]) (some 51) (CB c o3) (by rfl) (by rfl) (by rfl) (fun _ => by go_simp) (CB.closed _ _) (by simp; omega) (fun w' hC => K3.out c w' hC) (fun hne => ?_)
          simp only [Act.put, List.setIfInBounds_toArray, List.set_cons_succ, List.set_cons_zero]
          refine wpAnyF_ready [9] 1 (by kernel_rfl) (by kernel_rfl) (by simp) ?_
          refine AllF.cons ?_ ?_
          · refine stepK_call (v := .agg #[.int .i64 a5, .int .i64 b5]) (some 54) (CB c o4) (by rfl) (by rfl) (by rfl) (fun _ => by go_simp) (CB.closed _ _) (by simp; omega) (fun w' hC => K4.out c w' hC) (fun hne => ?_)
            simp only [Act.put, List.setIfInBounds_toArray, List.set_cons_succ, List.set_cons_zero]
            refine wpAnyF_ready [11] 0 (by kernel_rfl) (by kernel_rfl) (by simp) ?_
            refine AllF.cons ?_ ?_
            · refine stepK_store (v := .agg #[.int .i64 a5, .int .i64 b5]) [] [] (by rfl) (by rfl) (by rfl) (by rfl) (by rfl) (by rfl) (fun _ => by go_simp) (by rfl) (by simp [Value.cells, one1]) (.inl hr10) (CB.closed _ _) (fun _ _ h ho => CB.over h ho (by omega)) (by simp) (fun hne => ?_)
              try simp only [Value.cells]
              refine wpAnyF_done (by kernel_rfl) (fun Wz hOz hDz => ?_) _
              exact hcont r10 Wz ⟨hOz, hDz.1, (by omega), hDz.2.head⟩
            exact AllF.nil
          exact AllF.nil
        exact AllF.nil
      exact AllF.nil
    refine AllF.cons ?_ ?_
    · refine stepK_alloc (zs := #[.int .i64 0, .int .i64 0]) (T := 31) (by rfl) (by rfl) (by rfl) (fun _ => by go_simp) (CB.closed _ _) (fun r10 hr10 hl10 hne => ?_)
      simp only [Act.put, List.setIfInBounds_toArray, List.set_cons_succ, List.set_cons_zero]
      refine wpAnyF_ready [4] 3 (by kernel_rfl) (by kernel_rfl) (by simp) ?_
      refine AllF.cons ?_ ?_
      · refine stepK_call (v := .agg #[.int .i64 w1, .int .i64 w2]) (some 49) (CB c o2) (by rfl) (by rfl) (by rfl) (fun _ => by go_simp) (CB.closed _ _) (by simp; omega) (fun w' hC => K2.out c w' hC) (fun hne => ?_)
        simp only [Act.put, List.setIfInBounds_toArray, List.set_cons_succ, List.set_cons_zero]
        refine wpAnyF_ready [6] 2 (by kernel_rfl) (by kernel_rfl) (by simp) ?_
        refine AllF.cons ?_ ?_
        · refine stepK_call (v := .agg #[.int .i64 c1, .int .i64 c2]) (some 51) (CB c o3) (by rfl) (by rfl) (by rfl) (fun _ => by go_simp) (CB.closed _ _) (by simp; omega) (fun w' hC => K3.out c w' hC) (fun hne => ?_)
          simp only [Act.put, List.setIfInBounds_toArray, List.set_cons_succ, List.set_cons_zero]
          refine wpAnyF_ready [9] 1 (by kernel_rfl) (by kernel_rfl) (by simp) ?_
          refine AllF.cons ?_ ?_
          · refine stepK_call (v := .agg #[.int .i64 a5, .int .i64 b5]) (some 54) (CB c o4) (by rfl) (by rfl) (by rfl) (fun _ => by go_simp) (CB.closed _ _) (by simp; omega) (fun w' hC => K4.out c w' hC) (fun hne => ?_)
            simp only [Act.put, List.setIfInBounds_toArray, List.set_cons_succ, List.set_cons_zero]
            refine wpAnyF_ready [11] 0 (by kernel_rfl) (by kernel_rfl) (by simp) ?_
            refine AllF.cons ?_ ?_
            · refine stepK_store (v := .agg #[.int .i64 a5, .int .i64 b5]) [] [] (by rfl) (by rfl) (by rfl) (by rfl) (by rfl) (by rfl) (fun _ => by go_simp) (by rfl) (by simp [Value.cells, one1]) (.inl hr10) (CB.closed _ _) (fun _ _ h ho => CB.over h ho (by omega)) (by simp) (fun hne => ?_)
              try simp only [Value.cells]
              refine wpAnyF_done (by kernel_rfl) (fun Wz hOz hDz => ?_) _
              exact hcont r10 Wz ⟨hOz, hDz.1, (by omega), hDz.2.head⟩
            exact AllF.nil
          exact AllF.nil
        exact AllF.nil
      exact AllF.nil
    exact AllF.nil
  try dsimp only
  rintro r10 W5 ⟨hO, hk, hr, k10⟩
  clear kc
  have kc := hk
  clear hk
  have nk10 : r10 ≠ c := by omega
  clear kcl k90 k91 k9l kT0 kT1 kT2 kT3 kT4 kT5 kTl
  replace kT := kT.over hO (by simpa using ncT)
  replace kP := kP.over hO (by simpa using ncP)
  replace k9 := k9.over hO (by simpa using nk9)
  replace hB := hB.trans (hO.below1 hcB hs)
  replace hs := hB.size
  clear hO hr
  have k90 : (W5).cell? ⟨r9, 0, none⟩ = some (.int .i64 s1) := k9.cell 0; have k91 : (W5).cell? ⟨r9, 1, none⟩ = some (.int .i64 s2) := k9.cell 1; have k9l : r9 < (W5).heap.size := k9.lt
  have kT0 : (W5).cell? ⟨w.heap.size, 0, none⟩ = some (.int .i64 p) := kT.cell 0; have kT1 : (W5).cell? ⟨w.heap.size, 1, none⟩ = some (.int .i64 q) := kT.cell 1; have kT2 : (W5).cell? ⟨w.heap.size, 2, none⟩ = some (.int .i64 r) := kT.cell 2; have kT3 : (W5).cell? ⟨w.heap.size, 3, none⟩ = some (.int .i64 s) := kT.cell 3; have kT4 : (W5).cell? ⟨w.heap.size, 4, none⟩ = some (.int .i64 t) := kT.cell 4; have kT5 : (W5).cell? ⟨w.heap.size, 5, none⟩ = some (.int .i64 u) := kT.cell 5; have kTl : w.heap.size < (W5).heap.size := kT.lt
  have kcl := kc.2.2
  go_wp2
  apply region_join1 (fun r11 Wz => Over [c] W5 Wz ∧ (CB c o8) Wz ∧ W5.heap.size ≤ r11 ∧ Blk r11 #[.int .i64 a6, .int .i64 b6] 31 Wz)
  · intro hcont
    refine wp_region_cls [c] (fun _ => false) (fun _ => True) (KD (CB c o4) []) (by kernel_rfl) ⟨(CB.closed _ _) _ _ (kc) ((Below.refl _ _).drew), MemL.nil _⟩ ?_
    apply wpAnyF_hd ⟨W5, Over.refl _ _, kc, MemL.nil _⟩ [true, true, true, true, true, true, true, false, true, false, true, true, true, true, true] 6 (KD.closed (CB.closed _ _) _) (fun _ _ => trivial) (by kernel_rfl) (by kernel_rfl) (by kernel_rfl) (by kernel_rfl) (by simp)
    · intro E hE hEN hEn; (repeat (first | (refine wpHL_take ?_; go_big_quiet_step (fail); refine wpQuiet_nil ?_) | refine wpHL_skip ?_)); exact wpHL_end rfl
    refine wpAnyF_ready [7, 17] 5 (by kernel_rfl) (by kernel_rfl) (by simp) ?_
    refine AllF.cons ?_ ?_
    · refine stepK_call (v := .agg #[.int .i64 d1, .int .i64 d2]) (some 62) (CB c o5) (by rfl) (by rfl) (by rfl) (fun _ => by go_simp) (CB.closed _ _) (fun x hx => by cases hx) (fun w' hC => K5.out c w' hC) (fun hne => ?_)
      simp only [Act.put, List.setIfInBounds_toArray, List.set_cons_succ, List.set_cons_zero]
      refine wpAnyF_ready [9, 17] 4 (by kernel_rfl) (by kernel_rfl) (by simp) ?_
      refine AllF.cons ?_ ?_
      · refine stepK_call (v := .agg #[.int .i64 f1, .int .i64 f2]) (some 64) (CB c o6) (by rfl) (by rfl) (by rfl) (fun _ => by go_simp) (CB.closed _ _) (fun x hx => by cases hx) (fun w' hC => K6.out c w' hC) (fun hne => ?_)
        simp only [Act.put, List.setIfInBounds_toArray, List.set_cons_succ, List.set_cons_zero]
        refine wpAnyF_ready [15, 17] 3 (by kernel_rfl) (by kernel_rfl) (by simp) ?_
        refine AllF.cons ?_ ?_
        · refine stepK_call (v := .agg #[.int .i64 g1, .int .i64 g2]) (some 70) (CB c o7) (by rfl) (by rfl) (by rfl) (fun _ => by go_simp) (CB.closed _ _) (fun x hx => by cases hx) (fun w' hC => K7.out c w' hC) (fun hne => ?_)
          simp only [Act.put, List.setIfInBounds_toArray, List.set_cons_succ, List.set_cons_zero]
          refine wpAnyF_ready [16, 17] 2 (by kernel_rfl) (by kernel_rfl) (by simp) ?_
          refine AllF.cons ?_ ?_
          · refine stepK_call (v := .agg #[.int .i64 a6, .int .i64 b6]) (some 71) (CB c o8) (by rfl) (by rfl) (by rfl) (fun _ => by go_simp) (CB.closed _ _) (fun x hx => by cases hx) (fun w' hC => K8.out c w' hC) (fun hne => ?_)
            simp only [Act.put, List.setIfInBounds_toArray, List.set_cons_succ, List.set_cons_zero]
            refine wpAnyF_ready [17] 1 (by kernel_rfl) (by kernel_rfl) (by simp) ?_
            refine AllF.cons ?_ ?_
            · refine stepK_alloc (zs := #[.int .i64 0, .int .i64 0]) (T := 31) (by rfl) (by rfl) (by rfl) (fun _ => by go_simp) (CB.closed _ _) (fun r11 hr11 hl11 hne => ?_)
              simp only [Act.put, List.setIfInBounds_toArray, List.set_cons_succ, List.set_cons_zero]
              refine wpAnyF_ready [18] 0 (by kernel_rfl) (by kernel_rfl) (by simp) ?_
              refine AllF.cons ?_ ?_
              · refine stepK_store (v := .agg #[.int .i64 a6, .int .i64 b6]) [] [] (by rfl) (by rfl) (by rfl) (by rfl) (by rfl) (by rfl) (fun _ => by go_simp) (by rfl) (by simp [Value.cells, one1]) (.inl hr11) (CB.closed _ _) (fun _ _ h ho => CB.over h ho (by omega)) (by simp) (fun hne => ?_)
                try simp only [Value.cells]
                refine wpAnyF_done (by kernel_rfl) (fun Wz hOz hDz => ?_) _
                exact hcont r11 Wz ⟨hOz, hDz.1, (by omega), hDz.2.head⟩
              exact AllF.nil
            exact AllF.nil
          refine AllF.cons ?_ ?_
          · refine stepK_alloc (zs := #[.int .i64 0, .int .i64 0]) (T := 31) (by rfl) (by rfl) (by rfl) (fun _ => by go_simp) (CB.closed _ _) (fun r11 hr11 hl11 hne => ?_)
            simp only [Act.put, List.setIfInBounds_toArray, List.set_cons_succ, List.set_cons_zero]
            refine wpAnyF_ready [16] 1 (by kernel_rfl) (by kernel_rfl) (by simp) ?_
            refine AllF.cons ?_ ?_
            · refine stepK_call (v := .agg #[.int .i64 a6, .int .i64 b6]) (some 71) (CB c o8) (by rfl) (by rfl) (by rfl) (fun _ => by go_simp) (CB.closed _ _) (by simp; omega) (fun w' hC => K8.out c w' hC) (fun hne => ?_)
              simp only [Act.put, List.setIfInBounds_toArray, List.set_cons_succ, List.set_cons_zero]
              refine wpAnyF_ready [18] 0 (by kernel_rfl) (by kernel_rfl) (by simp) ?_
              refine AllF.cons ?_ ?_
              · refine stepK_store (v := .agg #[.int .i64 a6, .int .i64 b6]) [] [] (by rfl) (by rfl) (by rfl) (by rfl) (by rfl) (by rfl) (fun _ => by go_simp) (by rfl) (by simp [Value.cells, one1]) (.inl hr11) (CB.closed _ _) (fun _ _ h ho => CB.over h ho (by omega)) (by simp) (fun hne => ?_)
                try simp only [Value.cells]
                refine wpAnyF_done (by kernel_rfl) (fun Wz hOz hDz => ?_) _
                exact hcont r11 Wz ⟨hOz, hDz.1, (by omega), hDz.2.head⟩
              exact AllF.nil
            exact AllF.nil
          exact AllF.nil
        refine AllF.cons ?_ ?_
        · refine stepK_alloc (zs := #[.int .i64 0, .int .i64 0]) (T := 31) (by rfl) (by rfl) (by rfl) (fun _ => by go_simp) (CB.closed _ _) (fun r11 hr11 hl11 hne => ?_)
          simp only [Act.put, List.setIfInBounds_toArray, List.set_cons_succ, List.set_cons_zero]
          refine wpAnyF_ready [15] 2 (by kernel_rfl) (by kernel_rfl) (by simp) ?_
          refine AllF.cons ?_ ?_
          · refine stepK_call (v := .agg #[.int .i64 g1, .int .i64 g2]) (some 70) (CB c o7) (by rfl) (by rfl) (by rfl) (fun _ => by go_simp) (CB.closed _ _) (by simp; omega) (fun w' hC => K7.out c w' hC) (fun hne => ?_)
            simp only [Act.put, List.setIfInBounds_toArray, List.set_cons_succ, List.set_cons_zero]
            refine wpAnyF_ready [16] 1 (by kernel_rfl) (by kernel_rfl) (by simp) ?_
            refine AllF.cons ?_ ?_
            · refine stepK_call (v := .agg #[.int .i64 a6, .int .i64 b6]) (some 71) (CB c o8) (by rfl) (by rfl) (by rfl) (fun _ => by go_simp) (CB.closed _ _) (by simp; omega) (fun w' hC => K8.out c w' hC) (fun hne => ?_)
              simp only [Act.put, List.setIfInBounds_toArray, List.set_cons_succ, List.set_cons_zero]
              refine wpAnyF_ready [18] 0 (by kernel_rfl) (by kernel_rfl) (by simp) ?_
              refine AllF.cons ?_ ?_
              · refine stepK_store (v := .agg #[.int .i64 a6, .int .i64 b6]) [] [] (by rfl) (by rfl) (by rfl) (by rfl) (by rfl) (by rfl) (fun _ => by go_simp) (by rfl) (by simp [Value.cells, one1]) (.inl hr11) (CB.closed _ _) (fun _ _ h ho => CB.over h ho (by omega)) (by simp) (fun hne => ?_)
                try simp only [Value.cells]
                refine wpAnyF_done (by kernel_rfl) (fun Wz hOz hDz => ?_) _
                exact hcont r11 Wz ⟨hOz, hDz.1, (by omega), hDz.2.head⟩
              exact AllF.nil
            exact AllF.nil
          exact AllF.nil
        exact AllF.nil
      refine AllF.cons ?_ ?_
      · refine stepK_alloc (zs := #[.int .i64 0, .int .i64 0]) (T := 31) (by rfl) (by rfl) (by rfl) (fun _ => by go_simp) (CB.closed _ _) (fun r11 hr11 hl11 hne => ?_)
        simp only [Act.put, List.setIfInBounds_toArray, List.set_cons_succ, List.set_cons_zero]
        refine wpAnyF_ready [9] 3 (by kernel_rfl) (by kernel_rfl) (by simp) ?_
        refine AllF.cons ?_ ?_
        · refine stepK_call (v := .agg #[.int .i64 f1, .int .i64 f2]) (some 64) (CB c o6) (by rfl) (by rfl) (by rfl) (fun _ => by go_simp) (CB.closed _ _) (by simp; omega) (fun w' hC => K6.out c w' hC) (fun hne => ?_)
          simp only [Act.put, List.setIfInBounds_toArray, List.set_cons_succ, List.set_cons_zero]
          refine wpAnyF_ready [15] 2 (by kernel_rfl) (by kernel_rfl) (by simp) ?_
          refine AllF.cons ?_ ?_
          · refine stepK_call (v := .agg #[.int .i64 g1, .int .i64 g2]) (some 70) (CB c o7) (by rfl) (by rfl) (by rfl) (fun _ => by go_simp) (CB.closed _ _) (by simp; omega) (fun w' hC => K7.out c w' hC) (fun hne => ?_)
            simp only [Act.put, List.setIfInBounds_toArray, List.set_cons_succ, List.set_cons_zero]
            refine wpAnyF_ready [16] 1 (by kernel_rfl) (by kernel_rfl) (by simp) ?_
            refine AllF.cons ?_ ?_
            · refine stepK_call (v := .agg #[.int .i64 a6, .int .i64 b6]) (some 71) (CB c o8) (by rfl) (by rfl) (by rfl) (fun _ => by go_simp) (CB.closed _ _) (by simp; omega) (fun w' hC => K8.out c w' hC) (fun hne => ?_)
              simp only [Act.put, List.setIfInBounds_toArray, List.set_cons_succ, List.set_cons_zero]
              refine wpAnyF_ready [18] 0 (by kernel_rfl) (by kernel_rfl) (by simp) ?_
              refine AllF.cons ?_ ?_
              · refine stepK_store (v := .agg #[.int .i64 a6, .int .i64 b6]) [] [] (by rfl) (by rfl) (by rfl) (by rfl) (by rfl) (by rfl) (fun _ => by go_simp) (by rfl) (by simp [Value.cells, one1]) (.inl hr11) (CB.closed _ _) (fun _ _ h ho => CB.over h ho (by omega)) (by simp) (fun hne => ?_)
                try simp only [Value.cells]
                refine wpAnyF_done (by kernel_rfl) (fun Wz hOz hDz => ?_) _
                exact hcont r11 Wz ⟨hOz, hDz.1, (by omega), hDz.2.head⟩
              exact AllF.nil
            exact AllF.nil
          exact AllF.nil
        exact AllF.nil
      exact AllF.nil
    refine AllF.cons ?_ ?_
    · refine stepK_alloc (zs := #[.int .i64 0, .int .i64 0]) (T := 31) (by rfl) (by rfl) (by rfl) (fun _ => by go_simp) (CB.closed _ _) (fun r11 hr11 hl11 hne => ?_)
      simp only [Act.put, List.setIfInBounds_toArray, List.set_cons_succ, List.set_cons_zero]
      refine wpAnyF_ready [7] 4 (by kernel_rfl) (by kernel_rfl) (by simp) ?_
      refine AllF.cons ?_ ?_
      · refine stepK_call (v := .agg #[.int .i64 d1, .int .i64 d2]) (some 62) (CB c o5) (by rfl) (by rfl) (by rfl) (fun _ => by go_simp) (CB.closed _ _) (by simp; omega) (fun w' hC => K5.out c w' hC) (fun hne => ?_)
        simp only [Act.put, List.setIfInBounds_toArray, List.set_cons_succ, List.set_cons_zero]
        refine wpAnyF_ready [9] 3 (by kernel_rfl) (by kernel_rfl) (by simp) ?_
        refine AllF.cons ?_ ?_
        · refine stepK_call (v := .agg #[.int .i64 f1, .int .i64 f2]) (some 64) (CB c o6) (by rfl) (by rfl) (by rfl) (fun _ => by go_simp) (CB.closed _ _) (by simp; omega) (fun w' hC => K6.out c w' hC) (fun hne => ?_)
          simp only [Act.put, List.setIfInBounds_toArray, List.set_cons_succ, List.set_cons_zero]
          refine wpAnyF_ready [15] 2 (by kernel_rfl) (by kernel_rfl) (by simp) ?_
          refine AllF.cons ?_ ?_
          · refine stepK_call (v := .agg #[.int .i64 g1, .int .i64 g2]) (some 70) (CB c o7) (by rfl) (by rfl) (by rfl) (fun _ => by go_simp) (CB.closed _ _) (by simp; omega) (fun w' hC => K7.out c w' hC) (fun hne => ?_)
            simp only [Act.put, List.setIfInBounds_toArray, List.set_cons_succ, List.set_cons_zero]
            refine wpAnyF_ready [16] 1 (by kernel_rfl) (by kernel_rfl) (by simp) ?_
            refine AllF.cons ?_ ?_
            · refine stepK_call (v := .agg #[.int .i64 a6, .int .i64 b6]) (some 71) (CB c o8) (by rfl) (by rfl) (by rfl) (fun _ => by go_simp) (CB.closed _ _) (by simp; omega) (fun w' hC => K8.out c w' hC) (fun hne => ?_)
              simp only [Act.put, List.setIfInBounds_toArray, List.set_cons_succ, List.set_cons_zero]
              refine wpAnyF_ready [18] 0 (by kernel_rfl) (by kernel_rfl) (by simp) ?_
              refine AllF.cons ?_ ?_
              · refine stepK_store (v := .agg #[.int .i64 a6, .int .i64 b6]) [] [] (by rfl) (by rfl) (by rfl) (by rfl) (by rfl) (by rfl) (fun _ => by go_simp) (by rfl) (by simp [Value.cells, one1]) (.inl hr11) (CB.closed _ _) (fun _ _ h ho => CB.over h ho (by omega)) (by simp) (fun hne => ?_)
                try simp only [Value.cells]
                refine wpAnyF_done (by kernel_rfl) (fun Wz hOz hDz => ?_) _
                exact hcont r11 Wz ⟨hOz, hDz.1, (by omega), hDz.2.head⟩
              exact AllF.nil
            exact AllF.nil
          exact AllF.nil
        exact AllF.nil
      exact AllF.nil
    exact AllF.nil
  try dsimp only
  rintro r11 W6 ⟨hO, hk, hr, k11⟩
  clear kc
  have kc := hk
  clear hk
  have nk11 : r11 ≠ c := by omega
  clear kcl k90 k91 k9l kT0 kT1 kT2 kT3 kT4 kT5 kTl
  replace kT := kT.over hO (by simpa using ncT)
  replace kP := kP.over hO (by simpa using ncP)
  replace k9 := k9.over hO (by simpa using nk9)
  replace k10 := k10.over hO (by simpa using nk10)
  replace hB := hB.trans (hO.below1 hcB hs)
  replace hs := hB.size
  clear hO hr
  have kc0 := kc.1
  have kcl := kc.2.2
  clear K1 K2 K3 K4 K5 K6 K7 K8 k9 kT
  have k100 : (W6).cell? ⟨r10, 0, none⟩ = some (.int .i64 a5) := k10.cell 0; have k101 : (W6).cell? ⟨r10, 1, none⟩ = some (.int .i64 b5) := k10.cell 1; have k10l : r10 < (W6).heap.size := k10.lt
  have k110 : (W6).cell? ⟨r11, 0, none⟩ = some (.int .i64 a6) := k11.cell 0; have k111 : (W6).cell? ⟨r11, 1, none⟩ = some (.int .i64 b6) := k11.cell 1; have k11l : r11 < (W6).heap.size := k11.lt
  obtain ⟨g3, q3⟩ : ∃ g, (b6 == e * e * e) = g := ⟨_, rfl⟩
  obtain ⟨g2, q2⟩ : ∃ g, decide (e ≤ 20) = g := ⟨_, rfl⟩
  rw [q2, q3] at HO
  have n3 := neB q3
  have q2' : decide (20 < e) = !g2 := by rw [← q2, ← decide_not]; exact decide_eq_decide.2 (by omega)
  have q2'' : decide (e > 20) = !g2 := q2'
  cases o8
  · replace HO := Lib.hid (show false = o by simpa using HO.out)
    go_wp2_with fail
    refine (HX.out _).mono ?_
    rintro e' _ ⟨rfl, rfl⟩
    have kP0 : (W6).cell? ⟨w.heap.size + 1, 0, none⟩ = some (.int .i64 0) := kP.cell 0; have kP1 : (W6).cell? ⟨w.heap.size + 1, 1, none⟩ = some (.int .i64 0) := kP.cell 1; have kP2 : (W6).cell? ⟨w.heap.size + 1, 2, none⟩ = some (.int .i64 0) := kP.cell 2; have kPf0 : (W6).frozen? ⟨w.heap.size + 1, 0, none⟩ = false := kP.frozen 0; have kPf1 : (W6).frozen? ⟨w.heap.size + 1, 1, none⟩ = false := kP.frozen 1; have kPf2 : (W6).frozen? ⟨w.heap.size + 1, 2, none⟩ = false := kP.frozen 2; have kPl : w.heap.size + 1 < (W6).heap.size := kP.lt
    go_wp2
    have R := (((kP.set 0 (.int .i64 0)).set 1 (.int .i64 0)).set 2 (.int .i64 0))
    have hR : Below w.heap.size w (((W6.setCell ⟨w.heap.size + 1, 0, none⟩ (.int .i64 0)).setCell ⟨w.heap.size + 1, 1, none⟩ (.int .i64 0)).setCell ⟨w.heap.size + 1, 2, none⟩ (.int .i64 0)) := by (repeat' (first | (with_reducible exact Below.refl _ _) | (with_reducible refine below_step (by assumption) ?_ ?_) | (with_reducible refine Below.alloc ?_ ?_ _) | (with_reducible refine Below.setCell ?_ ?_ _) | (with_reducible refine below_drewN ?_ _) | (with_reducible refine Below.drew ?_) | omega | (simp; omega) | (simp; done)))
    simp only [List.setIfInBounds_toArray, List.set_cons_zero, List.set_cons_succ] at R
    clear kP kP0 kP1 kP2 kPf0 kPf1 kPf2 kPl
    generalize (((W6.setCell ⟨w.heap.size + 1, 0, none⟩ (.int .i64 0)).setCell ⟨w.heap.size + 1, 1, none⟩ (.int .i64 0)).setCell ⟨w.heap.size + 1, 2, none⟩ (.int .i64 0)) = W9 at R hR ⊢
    have R0 : (W9).cell? ⟨w.heap.size + 1, 0, none⟩ = some (.int .i64 0) := R.cell 0; have R1 : (W9).cell? ⟨w.heap.size + 1, 1, none⟩ = some (.int .i64 0) := R.cell 1; have R2 : (W9).cell? ⟨w.heap.size + 1, 2, none⟩ = some (.int .i64 0) := R.cell 2; have Rl : w.heap.size + 1 < (W9).heap.size := R.lt
    refine bodyPost_ret (v := .tuple #[.agg #[.int .i64 0, .int .i64 0, .int .i64 0], .bool false]) (by simp [results, Tryz.results17, go_sem, R0, R1, R2]) rfl ?_
    exact potP_no HO.out.symm hR
  cases sq
  · replace HO := Lib.hid (show false = o by simpa using HO.out)
    go_wp2_with fail
    refine (HX.out _).mono ?_
    rintro e' _ ⟨rfl, rfl⟩
    have kP0 : (W6).cell? ⟨w.heap.size + 1, 0, none⟩ = some (.int .i64 0) := kP.cell 0; have kP1 : (W6).cell? ⟨w.heap.size + 1, 1, none⟩ = some (.int .i64 0) := kP.cell 1; have kP2 : (W6).cell? ⟨w.heap.size + 1, 2, none⟩ = some (.int .i64 0) := kP.cell 2; have kPf0 : (W6).frozen? ⟨w.heap.size + 1, 0, none⟩ = false := kP.frozen 0; have kPf1 : (W6).frozen? ⟨w.heap.size + 1, 1, none⟩ = false := kP.frozen 1; have kPf2 : (W6).frozen? ⟨w.heap.size + 1, 2, none⟩ = false := kP.frozen 2; have kPl : w.heap.size + 1 < (W6).heap.size := kP.lt
    go_wp2
    have R := (((kP.set 0 (.int .i64 0)).set 1 (.int .i64 0)).set 2 (.int .i64 0))
    have hR : Below w.heap.size w (((W6.setCell ⟨w.heap.size + 1, 0, none⟩ (.int .i64 0)).setCell ⟨w.heap.size + 1, 1, none⟩ (.int .i64 0)).setCell ⟨w.heap.size + 1, 2, none⟩ (.int .i64 0)) := by (repeat' (first | (with_reducible exact Below.refl _ _) | (with_reducible refine below_step (by assumption) ?_ ?_) | (with_reducible refine Below.alloc ?_ ?_ _) | (with_reducible refine Below.setCell ?_ ?_ _) | (with_reducible refine below_drewN ?_ _) | (with_reducible refine Below.drew ?_) | omega | (simp; omega) | (simp; done)))
    simp only [List.setIfInBounds_toArray, List.set_cons_zero, List.set_cons_succ] at R
    clear kP kP0 kP1 kP2 kPf0 kPf1 kPf2 kPl
    generalize (((W6.setCell ⟨w.heap.size + 1, 0, none⟩ (.int .i64 0)).setCell ⟨w.heap.size + 1, 1, none⟩ (.int .i64 0)).setCell ⟨w.heap.size + 1, 2, none⟩ (.int .i64 0)) = W9 at R hR ⊢
    have R0 : (W9).cell? ⟨w.heap.size + 1, 0, none⟩ = some (.int .i64 0) := R.cell 0; have R1 : (W9).cell? ⟨w.heap.size + 1, 1, none⟩ = some (.int .i64 0) := R.cell 1; have R2 : (W9).cell? ⟨w.heap.size + 1, 2, none⟩ = some (.int .i64 0) := R.cell 2; have Rl : w.heap.size + 1 < (W9).heap.size := R.lt
    refine bodyPost_ret (v := .tuple #[.agg #[.int .i64 0, .int .i64 0, .int .i64 0], .bool false]) (by simp [results, Tryz.results17, go_sem, R0, R1, R2]) rfl ?_
    exact potP_no HO.out.symm hR
  cases g2
  · replace HO := Lib.hid (show false = o by simpa using HO.out)
    have hg : 20 < e := by simpa using q2'
    go_wp2_with fail
    refine (HX.out _).mono ?_
    rintro e' _ ⟨rfl, rfl⟩
    have kP0 : (W6).cell? ⟨w.heap.size + 1, 0, none⟩ = some (.int .i64 0) := kP.cell 0; have kP1 : (W6).cell? ⟨w.heap.size + 1, 1, none⟩ = some (.int .i64 0) := kP.cell 1; have kP2 : (W6).cell? ⟨w.heap.size + 1, 2, none⟩ = some (.int .i64 0) := kP.cell 2; have kPf0 : (W6).frozen? ⟨w.heap.size + 1, 0, none⟩ = false := kP.frozen 0; have kPf1 : (W6).frozen? ⟨w.heap.size + 1, 1, none⟩ = false := kP.frozen 1; have kPf2 : (W6).frozen? ⟨w.heap.size + 1, 2, none⟩ = false := kP.frozen 2; have kPl : w.heap.size + 1 < (W6).heap.size := kP.lt
    go_wp2
    have R := (((kP.set 0 (.int .i64 0)).set 1 (.int .i64 0)).set 2 (.int .i64 0))
    have hR : Below w.heap.size w (((W6.setCell ⟨w.heap.size + 1, 0, none⟩ (.int .i64 0)).setCell ⟨w.heap.size + 1, 1, none⟩ (.int .i64 0)).setCell ⟨w.heap.size + 1, 2, none⟩ (.int .i64 0)) := by (repeat' (first | (with_reducible exact Below.refl _ _) | (with_reducible refine below_step (by assumption) ?_ ?_) | (with_reducible refine Below.alloc ?_ ?_ _) | (with_reducible refine Below.setCell ?_ ?_ _) | (with_reducible refine below_drewN ?_ _) | (with_reducible refine Below.drew ?_) | omega | (simp; omega) | (simp; done)))
    simp only [List.setIfInBounds_toArray, List.set_cons_zero, List.set_cons_succ] at R
    clear kP kP0 kP1 kP2 kPf0 kPf1 kPf2 kPl
    generalize (((W6.setCell ⟨w.heap.size + 1, 0, none⟩ (.int .i64 0)).setCell ⟨w.heap.size + 1, 1, none⟩ (.int .i64 0)).setCell ⟨w.heap.size + 1, 2, none⟩ (.int .i64 0)) = W9 at R hR ⊢
    have R0 : (W9).cell? ⟨w.heap.size + 1, 0, none⟩ = some (.int .i64 0) := R.cell 0; have R1 : (W9).cell? ⟨w.heap.size + 1, 1, none⟩ = some (.int .i64 0) := R.cell 1; have R2 : (W9).cell? ⟨w.heap.size + 1, 2, none⟩ = some (.int .i64 0) := R.cell 2; have Rl : w.heap.size + 1 < (W9).heap.size := R.lt
    refine bodyPost_ret (v := .tuple #[.agg #[.int .i64 0, .int .i64 0, .int .i64 0], .bool false]) (by simp [results, Tryz.results17, go_sem, R0, R1, R2]) rfl ?_
    exact potP_no HO.out.symm hR
  cases g3
  · replace HO := Lib.hid (show false = o by simpa using HO.out)
    go_wp2_with fail
    refine (HX.out _).mono ?_
    rintro e' _ ⟨rfl, rfl⟩
    have kP0 : (W6).cell? ⟨w.heap.size + 1, 0, none⟩ = some (.int .i64 0) := kP.cell 0; have kP1 : (W6).cell? ⟨w.heap.size + 1, 1, none⟩ = some (.int .i64 0) := kP.cell 1; have kP2 : (W6).cell? ⟨w.heap.size + 1, 2, none⟩ = some (.int .i64 0) := kP.cell 2; have kPf0 : (W6).frozen? ⟨w.heap.size + 1, 0, none⟩ = false := kP.frozen 0; have kPf1 : (W6).frozen? ⟨w.heap.size + 1, 1, none⟩ = false := kP.frozen 1; have kPf2 : (W6).frozen? ⟨w.heap.size + 1, 2, none⟩ = false := kP.frozen 2; have kPl : w.heap.size + 1 < (W6).heap.size := kP.lt
    go_wp2
    have R := (((kP.set 0 (.int .i64 0)).set 1 (.int .i64 0)).set 2 (.int .i64 0))
    have hR : Below w.heap.size w (((W6.setCell ⟨w.heap.size + 1, 0, none⟩ (.int .i64 0)).setCell ⟨w.heap.size + 1, 1, none⟩ (.int .i64 0)).setCell ⟨w.heap.size + 1, 2, none⟩ (.int .i64 0)) := by (repeat' (first | (with_reducible exact Below.refl _ _) | (with_reducible refine below_step (by assumption) ?_ ?_) | (with_reducible refine Below.alloc ?_ ?_ _) | (with_reducible refine Below.setCell ?_ ?_ _) | (with_reducible refine below_drewN ?_ _) | (with_reducible refine Below.drew ?_) | omega | (simp; omega) | (simp; done)))
    simp only [List.setIfInBounds_toArray, List.set_cons_zero, List.set_cons_succ] at R
    clear kP kP0 kP1 kP2 kPf0 kPf1 kPf2 kPl
    generalize (((W6.setCell ⟨w.heap.size + 1, 0, none⟩ (.int .i64 0)).setCell ⟨w.heap.size + 1, 1, none⟩ (.int .i64 0)).setCell ⟨w.heap.size + 1, 2, none⟩ (.int .i64 0)) = W9 at R hR ⊢
    have R0 : (W9).cell? ⟨w.heap.size + 1, 0, none⟩ = some (.int .i64 0) := R.cell 0; have R1 : (W9).cell? ⟨w.heap.size + 1, 1, none⟩ = some (.int .i64 0) := R.cell 1; have R2 : (W9).cell? ⟨w.heap.size + 1, 2, none⟩ = some (.int .i64 0) := R.cell 2; have Rl : w.heap.size + 1 < (W9).heap.size := R.lt
    refine bodyPost_ret (v := .tuple #[.agg #[.int .i64 0, .int .i64 0, .int .i64 0], .bool false]) (by simp [results, Tryz.results17, go_sem, R0, R1, R2]) rfl ?_
    exact potP_no HO.out.symm hR
  have hg : ¬ (20 < e) := by simpa using q2'
  go_wp2_with fail
  refine (HX.out _).mono ?_
  rintro e' _ ⟨rfl, rfl⟩
  go_upto_region 14 with (fail)
  replace kP := kP.alloc (.cells #[.int .i64 a5, .int .i64 a6, .int .i64 e] 41)
  have k14 := Blk.new W6 #[.int .i64 a5, .int .i64 a6, .int .i64 e] 41
  replace hB := hB.alloc hs (.cells #[.int .i64 a5, .int .i64 a6, .int .i64 e] 41)
  replace hs := hB.size
  clear kc kc0 kcl k10 k11 k100 k101 k10l k110 k111 k11l
  generalize W6.alloc _ = W7 at *
  generalize W6.heap.size = r14 at *
  have k140 : (W7).cell? ⟨r14, 0, none⟩ = some (.int .i64 a5) := k14.cell 0; have k141 : (W7).cell? ⟨r14, 1, none⟩ = some (.int .i64 a6) := k14.cell 1; have k142 : (W7).cell? ⟨r14, 2, none⟩ = some (.int .i64 e) := k14.cell 2; have k14l : r14 < (W7).heap.size := k14.lt
  go_wp2_with fail
  refine (HP.out _).mono ?_
  rintro e' u9 ⟨rfl, hb⟩
  clear k140 k141 k142 k14l
  replace kP := kP.next hb
  replace k14 := k14.next hb
  replace hB := below_step hb hs hB
  replace hs := hB.size
  clear hb
  cases g4
  · replace HO := Lib.hid (show false = o by simpa using HO.out)
    have kP0 : (u9).cell? ⟨w.heap.size + 1, 0, none⟩ = some (.int .i64 0) := kP.cell 0; have kP1 : (u9).cell? ⟨w.heap.size + 1, 1, none⟩ = some (.int .i64 0) := kP.cell 1; have kP2 : (u9).cell? ⟨w.heap.size + 1, 2, none⟩ = some (.int .i64 0) := kP.cell 2; have kPf0 : (u9).frozen? ⟨w.heap.size + 1, 0, none⟩ = false := kP.frozen 0; have kPf1 : (u9).frozen? ⟨w.heap.size + 1, 1, none⟩ = false := kP.frozen 1; have kPf2 : (u9).frozen? ⟨w.heap.size + 1, 2, none⟩ = false := kP.frozen 2; have kPl : w.heap.size + 1 < (u9).heap.size := kP.lt
    go_wp2
    have R := (((kP.set 0 (.int .i64 0)).set 1 (.int .i64 0)).set 2 (.int .i64 0))
    have hR : Below w.heap.size w (((u9.setCell ⟨w.heap.size + 1, 0, none⟩ (.int .i64 0)).setCell ⟨w.heap.size + 1, 1, none⟩ (.int .i64 0)).setCell ⟨w.heap.size + 1, 2, none⟩ (.int .i64 0)) := by (repeat' (first | (with_reducible exact Below.refl _ _) | (with_reducible refine below_step (by assumption) ?_ ?_) | (with_reducible refine Below.alloc ?_ ?_ _) | (with_reducible refine Below.setCell ?_ ?_ _) | (with_reducible refine below_drewN ?_ _) | (with_reducible refine Below.drew ?_) | omega | (simp; omega) | (simp; done)))
    simp only [List.setIfInBounds_toArray, List.set_cons_zero, List.set_cons_succ] at R
    clear kP kP0 kP1 kP2 kPf0 kPf1 kPf2 kPl
    generalize (((u9.setCell ⟨w.heap.size + 1, 0, none⟩ (.int .i64 0)).setCell ⟨w.heap.size + 1, 1, none⟩ (.int .i64 0)).setCell ⟨w.heap.size + 1, 2, none⟩ (.int .i64 0)) = W9 at R hR ⊢
    have R0 : (W9).cell? ⟨w.heap.size + 1, 0, none⟩ = some (.int .i64 0) := R.cell 0; have R1 : (W9).cell? ⟨w.heap.size + 1, 1, none⟩ = some (.int .i64 0) := R.cell 1; have R2 : (W9).cell? ⟨w.heap.size + 1, 2, none⟩ = some (.int .i64 0) := R.cell 2; have Rl : w.heap.size + 1 < (W9).heap.size := R.lt
    refine bodyPost_ret (v := .tuple #[.agg #[.int .i64 0, .int .i64 0, .int .i64 0], .bool false]) (by simp [results, Tryz.results17, go_sem, R0, R1, R2]) rfl ?_
    exact potP_no HO.out.symm hR
  have k140 : (u9).cell? ⟨r14, 0, none⟩ = some (.int .i64 a5) := k14.cell 0; have k141 : (u9).cell? ⟨r14, 1, none⟩ = some (.int .i64 a6) := k14.cell 1; have k142 : (u9).cell? ⟨r14, 2, none⟩ = some (.int .i64 e) := k14.cell 2; have k14l : r14 < (u9).heap.size := k14.lt
  replace HO := Lib.hid (show true = o by simpa using HO.out)
  have kP0 : (u9).cell? ⟨w.heap.size + 1, 0, none⟩ = some (.int .i64 0) := kP.cell 0; have kP1 : (u9).cell? ⟨w.heap.size + 1, 1, none⟩ = some (.int .i64 0) := kP.cell 1; have kP2 : (u9).cell? ⟨w.heap.size + 1, 2, none⟩ = some (.int .i64 0) := kP.cell 2; have kPf0 : (u9).frozen? ⟨w.heap.size + 1, 0, none⟩ = false := kP.frozen 0; have kPf1 : (u9).frozen? ⟨w.heap.size + 1, 1, none⟩ = false := kP.frozen 1; have kPf2 : (u9).frozen? ⟨w.heap.size + 1, 2, none⟩ = false := kP.frozen 2; have kPl : w.heap.size + 1 < (u9).heap.size := kP.lt
  go_wp2
  have R := (((kP.set 0 (.int .i64 a5)).set 1 (.int .i64 a6)).set 2 (.int .i64 e))
  have hR : Below w.heap.size w (((u9.setCell ⟨w.heap.size + 1, 0, none⟩ (.int .i64 a5)).setCell ⟨w.heap.size + 1, 1, none⟩ (.int .i64 a6)).setCell ⟨w.heap.size + 1, 2, none⟩ (.int .i64 e)) := by (repeat' (first | (with_reducible exact Below.refl _ _) | (with_reducible refine below_step (by assumption) ?_ ?_) | (with_reducible refine Below.alloc ?_ ?_ _) | (with_reducible refine Below.setCell ?_ ?_ _) | (with_reducible refine below_drewN ?_ _) | (with_reducible refine Below.drew ?_) | omega | (simp; omega) | (simp; done)))
  simp only [List.setIfInBounds_toArray, List.set_cons_zero, List.set_cons_succ] at R
  clear kP kP0 kP1 kP2 kPf0 kPf1 kPf2 kPl
  generalize (((u9.setCell ⟨w.heap.size + 1, 0, none⟩ (.int .i64 a5)).setCell ⟨w.heap.size + 1, 1, none⟩ (.int .i64 a6)).setCell ⟨w.heap.size + 1, 2, none⟩ (.int .i64 e)) = W9 at R hR ⊢
  have R0 : (W9).cell? ⟨w.heap.size + 1, 0, none⟩ = some (.int .i64 a5) := R.cell 0; have R1 : (W9).cell? ⟨w.heap.size + 1, 1, none⟩ = some (.int .i64 a6) := R.cell 1; have R2 : (W9).cell? ⟨w.heap.size + 1, 2, none⟩ = some (.int .i64 e) := R.cell 2; have Rl : w.heap.size + 1 < (W9).heap.size := R.lt
  refine bodyPost_ret (v := .tuple #[.agg #[.int .i64 a5, .int .i64 a6, .int .i64 e], .bool true]) (by simp [results, Tryz.results17, go_sem, R0, R1, R2]) rfl ?_
  exact potP_yes HO.out.symm hR
end Go.Proofs.YtbcjlhbpgcjddaaGreatDoor
