/- Walks: triangles that are similar to one with integer sides. -/
import Derived.Test.YtcnfjapoopdiaaaSort
import Derived.Test.YtcnfjapoopdiaaaRoot
namespace Go.Proofs.Ytcnfjapoopdiaaa
open Go.RowKit

theorem mOk_small {n d : Int} (hn : 1 ≤ n ∧ n ≤ 1000000000) (hd : 1 ≤ d ∧ d ≤ 1000000000) : mOk n d = true := by
  have hg : 0 < Int.gcd n d := Int.gcd_pos_iff.2 (.inl (by omega))
  have h1 : ((Int.gcd n d : Nat) : Int) ∣ n := Int.gcd_dvd_left n d
  have h2 : ((Int.gcd n d : Nat) : Int) ∣ d := Int.gcd_dvd_right n d
  have hG : mkG n d = (Int.gcd n d : Nat) := by unfold mkG gcdI; rw [if_neg (by omega)]
  have e1 : mkN n d = n / (Int.gcd n d : Nat) := by unfold mkN; rw [hG, Int.tdiv_eq_ediv_of_nonneg (by omega)]
  have e2 : mkD n d = d / (Int.gcd n d : Nat) := by unfold mkD; rw [hG, Int.tdiv_eq_ediv_of_nonneg (by omega)]
  have hc : Int.gcd (n / (Int.gcd n d : Nat)) (d / (Int.gcd n d : Nat)) = 1 := Int.gcd_ediv_gcd_ediv_gcd hg
  have p1 : 1 ≤ n / (Int.gcd n d : Nat) := by have := Int.ediv_pos_of_pos_of_dvd (show 0 < n by omega) (by omega) h1; omega
  have p2 : 1 ≤ d / (Int.gcd n d : Nat) := by have := Int.ediv_pos_of_pos_of_dvd (show 0 < d by omega) (by omega) h2; omega
  have p3 := Int.ediv_le_self ((Int.gcd n d : Nat) : Int) (show 0 ≤ n by omega)
  have p4 := Int.ediv_le_self ((Int.gcd n d : Nat) : Int) (show 0 ≤ d by omega)
  have hd0 : (d == 0) = false := by simp; omega
  unfold mOk mkOk
  rw [hd0, e1, e2]
  unfold frOk
  simp only [Bool.not_false, Bool.true_and, Bool.and_eq_true, beq_iff_eq]
  refine ⟨⟨inB_mk (by omega) (by omega), inB_mk (by omega) (by omega)⟩, ?_⟩
  unfold gcdI; rw [hc]; rfl
theorem mk_small {n d : Int} (hn : 1 ≤ n ∧ n ≤ 1000000000) (hd : 1 ≤ d ∧ d ≤ 1000000000) : frOk (mkN n d) (mkD n d) = true := by
  have h := mOk_small hn hd
  unfold mOk at h
  simp only [Bool.and_eq_true] at h
  exact h.2
def arA (u v : Int) : Int := u * v * (u * u - v * v)
def scB (n u v : Int) : Bool := (arA u v % n == 0) && sqB (arA u v / n)
def scT (n u v : Int) : Value := ordV (mkN (u * u - v * v) (rtI (arA u v / n))) (mkD (u * u - v * v) (rtI (arA u v / n))) (mkN (2 * u * v) (rtI (arA u v / n))) (mkD (2 * u * v) (rtI (arA u v / n))) (mkN (u * u + v * v) (rtI (arA u v / n))) (mkD (u * u + v * v) (rtI (arA u v / n)))
def tri0 : Value := .agg #[.int .i64 0, .int .i64 0, .int .i64 0, .int .i64 0, .int .i64 0, .int .i64 0]
def scV (n u v : Int) : Value := if scB n u v then scT n u v else tri0
def TriPost (w : World) (V : Value) (b : Bool) (e : Ending) (w' : World) : Prop := e = .returned (.tuple #[V, .bool b]) ∧ Below w.heap.size w w'
theorem scPost0 {w w' : World} {n u v : Int} (h : scB n u v = false) (hb : Below w.heap.size w w') : TriPost w (scV n u v) (scB n u v) (.returned (.tuple #[.agg #[.int .i64 0, .int .i64 0, .int .i64 0, .int .i64 0, .int .i64 0, .int .i64 0], .bool false])) w' := by
  unfold scV; rw [h]; exact ⟨rfl, hb⟩
theorem scPost1 {w w' : World} {n u v a b c d e f : Int} (h : scB n u v = true) (hV : scT n u v = .agg #[.int .i64 a, .int .i64 b, .int .i64 c, .int .i64 d, .int .i64 e, .int .i64 f]) (hb : Below w.heap.size w w') : TriPost w (scV n u v) (scB n u v) (.returned (.tuple #[.agg #[.int .i64 a, .int .i64 b, .int .i64 c, .int .i64 d, .int .i64 e, .int .i64 f], .bool true])) w' := by
  unfold scV; rw [h, ← hV]; exact ⟨rfl, hb⟩
theorem ordV_form (a x b y c z : Int) : ∃ p q r s t u : Int, ordV a x b y c z = .agg #[.int .i64 p, .int .i64 q, .int .i64 r, .int .i64 s, .int .i64 t, .int .i64 u] := by
  unfold ordV triV
  split <;> exact ⟨_, _, _, _, _, _, rfl⟩
theorem ar_bd {u v : Int} (hu : 1 ≤ u ∧ u ≤ 100) (hv : 1 ≤ v ∧ v ≤ u - 1) :
    (1 ≤ u * v ∧ u * v ≤ 10000) ∧ (1 ≤ u * u ∧ u * u ≤ 10000) ∧ (1 ≤ v * v ∧ v * v ≤ 10000) ∧ (1 ≤ u * u - v * v ∧ u * u - v * v ≤ 10000) ∧ (1 ≤ arA u v ∧ arA u v ≤ 100000000) := by
  have h1 : 1 * 1 ≤ u * v := Int.mul_le_mul hu.1 hv.1 (by omega) (by omega)
  have h2 : u * v ≤ 100 * 100 := Int.mul_le_mul hu.2 (show v ≤ 100 by omega) (by omega) (by omega)
  have h3 : u * u ≤ 100 * 100 := Int.mul_le_mul hu.2 hu.2 (by omega) (by omega)
  have h4 : 1 * 1 ≤ v * v := Int.mul_le_mul hv.1 hv.1 (by omega) (by omega)
  have h5 : (v + 1) * (v + 1) ≤ u * u := Int.mul_le_mul (by omega) (by omega) (by omega) (by omega)
  have h6 : (v + 1) * (v + 1) = v * v + 2 * v + 1 := by rw [Int.add_mul, Int.mul_add]; omega
  have h7 : 1 ≤ u * u - v * v ∧ u * u - v * v ≤ 10000 := by omega
  have h8 : 1 * 1 ≤ u * v * (u * u - v * v) := Int.mul_le_mul (by omega) h7.1 (by omega) (by omega)
  have h9 : u * v * (u * u - v * v) ≤ 10000 * 10000 := Int.mul_le_mul (by omega) h7.2 (by omega) (by omega)
  unfold arA
  omega
theorem rt_bd {a : Int} (h : 1 ≤ a ∧ a ≤ 100000000) : 1 ≤ rtI a ∧ rtI a ≤ 20000 := by
  have h1 := rtI_spec (n := a) (by omega)
  have h2 := rtI_le (n := a) (b := 20001) (by omega) (by omega) (by omega)
  have h3 := rtI_nonneg a
  refine ⟨?_, by omega⟩
  rcases Int.lt_or_le 0 (rtI a) with h | h
  · exact h
  · have e : rtI a = 0 := by omega
    rw [e] at h1; omega
theorem q_bd {a n : Int} (hn : 1 ≤ n) (ha : 1 ≤ a ∧ a ≤ 100000000) : 0 ≤ a / n ∧ a / n ≤ 100000000 := by
  have := Int.ediv_le_self n (show 0 ≤ a by omega)
  have := Int.ediv_nonneg (show 0 ≤ a by omega) (show 0 ≤ n by omega)
  omega
theorem q_pos {a n : Int} (hn : 1 ≤ n) (ha : 1 ≤ a) (h : a % n = 0) : 1 ≤ a / n := by
  have := Int.ediv_pos_of_pos_of_dvd (show 0 < a by omega) (show 0 ≤ n by omega) (Int.dvd_of_emod_eq_zero h)
  omega
/-- what both functions meet -/
theorem sc_facts {n u v : Int} (hn : 1 ≤ n ∧ n ≤ 31) (hu : 1 ≤ u ∧ u ≤ 100) (hv : 1 ≤ v ∧ v ≤ u - 1) (hm : arA u v % n = 0) :
    (1 ≤ rtI (arA u v / n) ∧ rtI (arA u v / n) ≤ 20000) := rt_bd ⟨q_pos hn.1 (ar_bd hu hv).2.2.2.2.1 hm, (q_bd hn.1 (ar_bd hu hv).2.2.2.2).2⟩
set_option maxHeartbeats 4000000 in
theorem c_cnScaled (n u v : Int) (hn : 1 ≤ n ∧ n ≤ 31) (hu : 1 ≤ u ∧ u ≤ 100) (hv : 1 ≤ v ∧ v ≤ u - 1) (w : World) :
    Calls Try.prog 68 #[.int .i64 n, .int .i64 u, .int .i64 v] w (TriPost w (scV n u v) (scB n u v)) := by
  obtain ⟨b1, b2, b3, b4, b5⟩ := ar_bd hu hv
  obtain ⟨b6, b7⟩ := q_bd hn.1 b5
  have HA : Hid (arA u v = u * v * (u * u - v * v)) := rfl
  have hb0 : Below w.heap.size w (w.alloc (.cells #[.int .i64 0, .int .i64 0, .int .i64 0, .int .i64 0, .int .i64 0, .int .i64 0] 27)) := by (repeat' (first | (with_reducible exact Below.refl _ _) | (with_reducible refine below_step (by assumption) ?_ ?_) | (with_reducible refine Below.alloc ?_ ?_ _) | (with_reducible refine Below.setCell ?_ ?_ _) | (with_reducible refine below_drewN ?_ _) | (with_reducible refine Below.drew ?_) | omega | (simp; omega) | (simp; done)))
  have kT := Blk.new w #[.int .i64 0, .int .i64 0, .int .i64 0, .int .i64 0, .int .i64 0, .int .i64 0] 27
  have HBD : Hid (scB n u v = ((arA u v % n == 0) && sqB (arA u v / n))) := rfl
  have HQ : Hid (∀ w, _) := fun w => c_frSquare (arA u v / n) (by omega) w
  cases h1 : (arA u v % n == 0)
  · have HE : Hid (scB n u v = false) := by show _ = _; rw [HBD.out, h1]; rfl
    have h1' : (arA u v % n != 0) = true := by unfold bne; rw [h1]; rfl
    rw [HA.out] at h1 h1' b5 b6 b7 HQ
    have hne : u * v * (u * u - v * v) % n ≠ 0 := by simpa using h1
    generalize sqB (u * v * (u * u - v * v) / n) = bq at HQ
    skip
    go_enter Try.func68, Try.ntmps68
    go_wp2_with ((go_at_call 95; refine (HQ.out _).mono ?_; rintro e w' ⟨rfl, rfl⟩))
    refine bodyPost_ret (v := .tuple #[.agg #[.int .i64 0, .int .i64 0, .int .i64 0, .int .i64 0, .int .i64 0, .int .i64 0], .bool false]) (by simp [results, Try.results68, go_sem]) rfl ?_
    exact scPost0 HE.out (by (repeat' (first | (with_reducible exact Below.refl _ _) | (with_reducible refine below_step (by assumption) ?_ ?_) | (with_reducible refine Below.alloc ?_ ?_ _) | (with_reducible refine Below.setCell ?_ ?_ _) | (with_reducible refine below_drewN ?_ _) | (with_reducible refine Below.drew ?_) | omega | (simp; omega) | (simp; done))))
  · have hm : arA u v % n = 0 := by simpa using h1
    cases h2 : sqB (arA u v / n)
    · have HE : Hid (scB n u v = false) := by show _ = _; rw [HBD.out, h2, Bool.and_false]
      have h1' : (arA u v % n != 0) = false := by unfold bne; rw [h1]; rfl
      rw [h2] at HQ
      skip
      rw [HA.out] at h1 h1' b5 b6 b7 HQ hm
      go_enter Try.func68, Try.ntmps68
      go_wp2_with ((go_at_call 95; refine (HQ.out _).mono ?_; rintro e w' ⟨rfl, rfl⟩))
      refine bodyPost_ret (v := .tuple #[.agg #[.int .i64 0, .int .i64 0, .int .i64 0, .int .i64 0, .int .i64 0, .int .i64 0], .bool false]) (by simp [results, Try.results68, go_sem]) rfl ?_
      exact scPost0 HE.out (by (repeat' (first | (with_reducible exact Below.refl _ _) | (with_reducible refine below_step (by assumption) ?_ ?_) | (with_reducible refine Below.alloc ?_ ?_ _) | (with_reducible refine Below.setCell ?_ ?_ _) | (with_reducible refine below_drewN ?_ _) | (with_reducible refine Below.drew ?_) | omega | (simp; omega) | (simp; done))))
    · have HE : Hid (scB n u v = true) := by show _ = _; rw [HBD.out, h1, h2]; rfl
      have h1' : (arA u v % n != 0) = false := by unfold bne; rw [h1]; rfl
      have hk := sc_facts hn hu hv hm
      rw [h2] at HQ
      have HR : Hid (∀ w, _) := fun w => c_frRoot (arA u v / n) (by omega) w
      have f1 := mk_small (n := u * u - v * v) (d := rtI (arA u v / n)) (by omega) (by omega)
      have f2 := mk_small (n := 2 * u * v) (d := rtI (arA u v / n)) (by rw [Int.mul_assoc]; omega) (by omega)
      have f3 := mk_small (n := u * u + v * v) (d := rtI (arA u v / n)) (by omega) (by omega)
      have g2 : 1 ≤ 2 * u * v ∧ 2 * u * v ≤ 20000 := by rw [Int.mul_assoc]; omega
      have HM1 := fun w => c_frMake (u * u - v * v) (rtI (arA u v / n)) (by omega) (by omega) w
      rw [mOk_small (by omega) (by omega)] at HM1
      simp only [rsI, if_true] at HM1
      have HM2 := fun w => c_frMake (2 * u * v) (rtI (arA u v / n)) (by omega) (by omega) w
      rw [mOk_small (by omega) (by omega)] at HM2
      simp only [rsI, if_true] at HM2
      have HM3 := fun w => c_frMake (u * u + v * v) (rtI (arA u v / n)) (by omega) (by omega) w
      rw [mOk_small (by omega) (by omega)] at HM3
      simp only [rsI, if_true] at HM3
      have HO := fun w => c_cnOrder _ _ _ _ _ _ f1 f2 f3 w
      have HV : Hid (scT n u v = _) := rfl
      clear f1 f2 f3
      obtain ⟨p1, p2, p3, p4, p5, p6, hf⟩ := ordV_form (mkN (u * u - v * v) (rtI (arA u v / n))) (mkD (u * u - v * v) (rtI (arA u v / n))) (mkN (2 * u * v) (rtI (arA u v / n))) (mkD (2 * u * v) (rtI (arA u v / n))) (mkN (u * u + v * v) (rtI (arA u v / n))) (mkD (u * u + v * v) (rtI (arA u v / n)))
      have HF : Hid (scT n u v = .agg #[.int .i64 p1, .int .i64 p2, .int .i64 p3, .int .i64 p4, .int .i64 p5, .int .i64 p6]) := hf
      rw [hf] at HO
      clear hf HV
      generalize mkN (u * u - v * v) (rtI (arA u v / n)) = N1 at HM1 HO
      generalize mkD (u * u - v * v) (rtI (arA u v / n)) = D1 at HM1 HO
      generalize mkN (2 * u * v) (rtI (arA u v / n)) = N2 at HM2 HO
      generalize mkD (2 * u * v) (rtI (arA u v / n)) = D2 at HM2 HO
      generalize mkN (u * u + v * v) (rtI (arA u v / n)) = N3 at HM3 HO
      generalize mkD (u * u + v * v) (rtI (arA u v / n)) = D3 at HM3 HO
      generalize rtI (arA u v / n) = k at *
      have JM1 := Lib.hid HM1
      have JM2 := Lib.hid HM2
      have JM3 := Lib.hid HM3
      have JO := Lib.hid HO
      clear HM1 HM2 HM3 HO
      rw [HA.out] at h1 h1' b5 b6 b7 HQ hm HR
      have hs0 := hb0.size
      go_enter Try.func68, Try.ntmps68
      go_wp2_with (first | (go_at_call 95; refine (HQ.out _).mono ?_; rintro e w' ⟨rfl, rfl⟩) | (go_at_call 52; refine (HR.out _).mono ?_; rintro e w' ⟨rfl, rfl⟩))
      generalize w.alloc _ = W at *
      refine (JM1.out _).mono ?_
      rintro e w1 ⟨rfl, hb1⟩
      have kT1 := kT.next hb1
      have kX1 := Blk.new w1 #[.int .i64 N1, .int .i64 D1] 25
      have kU1 := kT1.alloc (.cells #[.int .i64 N1, .int .i64 D1] 25)
      have hB1 := below_step hb1 hs0 hb0
      have hs1 := hB1.size
      go_wp2_with fail
      refine (JM2.out _).mono ?_
      rintro e w2 ⟨rfl, hb2⟩
      have kT2 := kU1.next hb2
      have kX2 := (kX1.next hb2).alloc (.cells #[.int .i64 N2, .int .i64 D2] 25)
      have kY2 := Blk.new w2 #[.int .i64 N2, .int .i64 D2] 25
      have kU2 := kT2.alloc (.cells #[.int .i64 N2, .int .i64 D2] 25)
      have hB2 : Below w.heap.size w w2 := by (repeat' (first | (with_reducible exact Below.refl _ _) | (with_reducible refine below_step (by assumption) ?_ ?_) | (with_reducible refine Below.alloc ?_ ?_ _) | (with_reducible refine Below.setCell ?_ ?_ _) | (with_reducible refine below_drewN ?_ _) | (with_reducible refine Below.drew ?_) | omega | (simp; omega) | (simp; done)))
      have hs2 := hB2.size
      go_wp2_with fail
      refine (JM3.out _).mono ?_
      rintro e w3 ⟨rfl, hb3⟩
      have kT3 := kU2.next hb3
      have kX3 := kX2.next hb3
      have kY3 := kY2.next hb3
      have kZ3 := Blk.new w3 #[.int .i64 N3, .int .i64 D3] 25
      have hB3 : Below w.heap.size w w3 := by (repeat' (first | (with_reducible exact Below.refl _ _) | (with_reducible refine below_step (by assumption) ?_ ?_) | (with_reducible refine Below.alloc ?_ ?_ _) | (with_reducible refine Below.setCell ?_ ?_ _) | (with_reducible refine below_drewN ?_ _) | (with_reducible refine Below.drew ?_) | omega | (simp; omega) | (simp; done)))
      have hs3 := hB3.size
      have kX30 : (w3).cell? ⟨w1.heap.size, 0, none⟩ = some (.int .i64 N1) := kX3.cell 0; have kX31 : (w3).cell? ⟨w1.heap.size, 1, none⟩ = some (.int .i64 D1) := kX3.cell 1; have kX3l : w1.heap.size < (w3).heap.size := kX3.lt
      have kY30 : (w3).cell? ⟨w2.heap.size, 0, none⟩ = some (.int .i64 N2) := kY3.cell 0; have kY31 : (w3).cell? ⟨w2.heap.size, 1, none⟩ = some (.int .i64 D2) := kY3.cell 1; have kY3l : w2.heap.size < (w3).heap.size := kY3.lt
      go_wp2_with fail
      refine (JO.out _).mono ?_
      rintro e w4 ⟨rfl, hb4⟩
      have kT4 := (kT3.alloc (.cells #[.int .i64 N3, .int .i64 D3] 25)).next hb4
      have hB4 : Below w.heap.size w w4 := by (repeat' (first | (with_reducible exact Below.refl _ _) | (with_reducible refine below_step (by assumption) ?_ ?_) | (with_reducible refine Below.alloc ?_ ?_ _) | (with_reducible refine Below.setCell ?_ ?_ _) | (with_reducible refine below_drewN ?_ _) | (with_reducible refine Below.drew ?_) | omega | (simp; omega) | (simp; done)))
      have kT40 : (w4).cell? ⟨w.heap.size, 0, none⟩ = some (.int .i64 0) := kT4.cell 0; have kT41 : (w4).cell? ⟨w.heap.size, 1, none⟩ = some (.int .i64 0) := kT4.cell 1; have kT42 : (w4).cell? ⟨w.heap.size, 2, none⟩ = some (.int .i64 0) := kT4.cell 2; have kT43 : (w4).cell? ⟨w.heap.size, 3, none⟩ = some (.int .i64 0) := kT4.cell 3; have kT44 : (w4).cell? ⟨w.heap.size, 4, none⟩ = some (.int .i64 0) := kT4.cell 4; have kT45 : (w4).cell? ⟨w.heap.size, 5, none⟩ = some (.int .i64 0) := kT4.cell 5; have kT4f0 : (w4).frozen? ⟨w.heap.size, 0, none⟩ = false := kT4.frozen 0; have kT4f1 : (w4).frozen? ⟨w.heap.size, 1, none⟩ = false := kT4.frozen 1; have kT4f2 : (w4).frozen? ⟨w.heap.size, 2, none⟩ = false := kT4.frozen 2; have kT4f3 : (w4).frozen? ⟨w.heap.size, 3, none⟩ = false := kT4.frozen 3; have kT4f4 : (w4).frozen? ⟨w.heap.size, 4, none⟩ = false := kT4.frozen 4; have kT4f5 : (w4).frozen? ⟨w.heap.size, 5, none⟩ = false := kT4.frozen 5; have kT4l : w.heap.size < (w4).heap.size := kT4.lt
      go_wp2
      have R := ((((((kT4.set 0 (.int .i64 p1)).set 1 (.int .i64 p2)).set 2 (.int .i64 p3)).set 3 (.int .i64 p4)).set 4 (.int .i64 p5)).set 5 (.int .i64 p6))
      have hR : Below w.heap.size w ((((((w4.setCell ⟨w.heap.size, 0, none⟩ (.int .i64 p1)).setCell ⟨w.heap.size, 1, none⟩ (.int .i64 p2)).setCell ⟨w.heap.size, 2, none⟩ (.int .i64 p3)).setCell ⟨w.heap.size, 3, none⟩ (.int .i64 p4)).setCell ⟨w.heap.size, 4, none⟩ (.int .i64 p5)).setCell ⟨w.heap.size, 5, none⟩ (.int .i64 p6)) := by (repeat' (first | (with_reducible exact Below.refl _ _) | (with_reducible refine below_step (by assumption) ?_ ?_) | (with_reducible refine Below.alloc ?_ ?_ _) | (with_reducible refine Below.setCell ?_ ?_ _) | (with_reducible refine below_drewN ?_ _) | (with_reducible refine Below.drew ?_) | omega | (simp; omega) | (simp; done)))
      simp only [List.setIfInBounds_toArray, List.set_cons_zero, List.set_cons_succ] at R
      clear kT4 kT40 kT41 kT42 kT43 kT44 kT45 kT4f0 kT4f1 kT4f2 kT4f3 kT4f4 kT4f5 kT4l
      generalize ((((((w4.setCell ⟨w.heap.size, 0, none⟩ (.int .i64 p1)).setCell ⟨w.heap.size, 1, none⟩ (.int .i64 p2)).setCell ⟨w.heap.size, 2, none⟩ (.int .i64 p3)).setCell ⟨w.heap.size, 3, none⟩ (.int .i64 p4)).setCell ⟨w.heap.size, 4, none⟩ (.int .i64 p5)).setCell ⟨w.heap.size, 5, none⟩ (.int .i64 p6)) = W9 at R hR ⊢
      have R0 : (W9).cell? ⟨w.heap.size, 0, none⟩ = some (.int .i64 p1) := R.cell 0; have R1 : (W9).cell? ⟨w.heap.size, 1, none⟩ = some (.int .i64 p2) := R.cell 1; have R2 : (W9).cell? ⟨w.heap.size, 2, none⟩ = some (.int .i64 p3) := R.cell 2; have R3 : (W9).cell? ⟨w.heap.size, 3, none⟩ = some (.int .i64 p4) := R.cell 3; have R4 : (W9).cell? ⟨w.heap.size, 4, none⟩ = some (.int .i64 p5) := R.cell 4; have R5 : (W9).cell? ⟨w.heap.size, 5, none⟩ = some (.int .i64 p6) := R.cell 5; have Rl : w.heap.size < (W9).heap.size := R.lt
      refine bodyPost_ret (v := .tuple #[.agg #[.int .i64 p1, .int .i64 p2, .int .i64 p3, .int .i64 p4, .int .i64 p5, .int .i64 p6], .bool true]) (by simp [results, Try.results68, go_sem, R0, R1, R2, R3, R4, R5]) rfl ?_
      exact scPost1 HE.out HF.out hR
set_option maxHeartbeats 4000000 in
theorem c_scaledTriangle (n u v : Int) (hn : 1 ≤ n ∧ n ≤ 31) (hu : 1 ≤ u ∧ u ≤ 100) (hv : 1 ≤ v ∧ v ≤ u - 1) (w : World) :
    Calls Try.prog 67 #[.int .i64 n, .int .i64 u, .int .i64 v] w (TriPost w (scV n u v) (scB n u v)) := by
  obtain ⟨b1, b2, b3, b4, b5⟩ := ar_bd hu hv
  obtain ⟨b6, b7⟩ := q_bd hn.1 b5
  have HA : Hid (arA u v = u * v * (u * u - v * v)) := rfl
  have hb0 : Below w.heap.size w (w.alloc (.cells #[.int .i64 0, .int .i64 0, .int .i64 0, .int .i64 0, .int .i64 0, .int .i64 0] 27)) := by (repeat' (first | (with_reducible exact Below.refl _ _) | (with_reducible refine below_step (by assumption) ?_ ?_) | (with_reducible refine Below.alloc ?_ ?_ _) | (with_reducible refine Below.setCell ?_ ?_ _) | (with_reducible refine below_drewN ?_ _) | (with_reducible refine Below.drew ?_) | omega | (simp; omega) | (simp; done)))
  have kT := Blk.new w #[.int .i64 0, .int .i64 0, .int .i64 0, .int .i64 0, .int .i64 0, .int .i64 0] 27
  have HBD : Hid (scB n u v = ((arA u v % n == 0) && sqB (arA u v / n))) := rfl
  have HQ : Hid (∀ w, _) := fun w => c_exactRoot (arA u v / n) (by omega) w
  cases h1 : (arA u v % n == 0)
  · have HE : Hid (scB n u v = false) := by show _ = _; rw [HBD.out, h1]; rfl
    have h1' : (arA u v % n != 0) = true := by unfold bne; rw [h1]; rfl
    rw [HA.out] at h1 h1' b5 b6 b7 HQ
    have hne : u * v * (u * u - v * v) % n ≠ 0 := by simpa using h1
    generalize (if sqB (u * v * (u * u - v * v) / n) then rtI (u * v * (u * u - v * v) / n) else 0) = r0 at HQ
    generalize sqB (u * v * (u * u - v * v) / n) = bq at HQ
    go_enter Try.func67, Try.ntmps67
    go_wp2_with ((go_at_call 46; refine (HQ.out _).mono ?_; rintro e w' ⟨rfl, rfl⟩))
    refine bodyPost_ret (v := .tuple #[.agg #[.int .i64 0, .int .i64 0, .int .i64 0, .int .i64 0, .int .i64 0, .int .i64 0], .bool false]) (by simp [results, Try.results67, go_sem]) rfl ?_
    exact scPost0 HE.out (by (repeat' (first | (with_reducible exact Below.refl _ _) | (with_reducible refine below_step (by assumption) ?_ ?_) | (with_reducible refine Below.alloc ?_ ?_ _) | (with_reducible refine Below.setCell ?_ ?_ _) | (with_reducible refine below_drewN ?_ _) | (with_reducible refine Below.drew ?_) | omega | (simp; omega) | (simp; done))))
  · have hm : arA u v % n = 0 := by simpa using h1
    cases h2 : sqB (arA u v / n)
    · have HE : Hid (scB n u v = false) := by show _ = _; rw [HBD.out, h2, Bool.and_false]
      have h1' : (arA u v % n != 0) = false := by unfold bne; rw [h1]; rfl
      rw [h2] at HQ
      rw [if_neg Bool.false_ne_true] at HQ
      rw [HA.out] at h1 h1' b5 b6 b7 HQ hm
      go_enter Try.func67, Try.ntmps67
      go_wp2_with ((go_at_call 46; refine (HQ.out _).mono ?_; rintro e w' ⟨rfl, rfl⟩))
      refine bodyPost_ret (v := .tuple #[.agg #[.int .i64 0, .int .i64 0, .int .i64 0, .int .i64 0, .int .i64 0, .int .i64 0], .bool false]) (by simp [results, Try.results67, go_sem]) rfl ?_
      exact scPost0 HE.out (by (repeat' (first | (with_reducible exact Below.refl _ _) | (with_reducible refine below_step (by assumption) ?_ ?_) | (with_reducible refine Below.alloc ?_ ?_ _) | (with_reducible refine Below.setCell ?_ ?_ _) | (with_reducible refine below_drewN ?_ _) | (with_reducible refine Below.drew ?_) | omega | (simp; omega) | (simp; done))))
    · have HE : Hid (scB n u v = true) := by show _ = _; rw [HBD.out, h1, h2]; rfl
      have h1' : (arA u v % n != 0) = false := by unfold bne; rw [h1]; rfl
      have hk := sc_facts hn hu hv hm
      rw [h2] at HQ
      rw [if_pos rfl] at HQ
      have f1 := mk_small (n := u * u - v * v) (d := rtI (arA u v / n)) (by omega) (by omega)
      have f2 := mk_small (n := 2 * u * v) (d := rtI (arA u v / n)) (by rw [Int.mul_assoc]; omega) (by omega)
      have f3 := mk_small (n := u * u + v * v) (d := rtI (arA u v / n)) (by omega) (by omega)
      have g2 : 1 ≤ 2 * u * v ∧ 2 * u * v ≤ 20000 := by rw [Int.mul_assoc]; omega
      have HM1 := fun w => c_makeFraction (u * u - v * v) (rtI (arA u v / n)) (by omega) (by omega) (by omega) w
      rw [mOk_small (by omega) (by omega)] at HM1
      simp only [rsI, if_true] at HM1
      have HM2 := fun w => c_makeFraction (2 * u * v) (rtI (arA u v / n)) (by omega) (by omega) (by omega) w
      rw [mOk_small (by omega) (by omega)] at HM2
      simp only [rsI, if_true] at HM2
      have HM3 := fun w => c_makeFraction (u * u + v * v) (rtI (arA u v / n)) (by omega) (by omega) (by omega) w
      rw [mOk_small (by omega) (by omega)] at HM3
      simp only [rsI, if_true] at HM3
      have HO := fun w => c_sortedTriangle _ _ _ _ _ _ f1 f2 f3 w
      have HV : Hid (scT n u v = _) := rfl
      clear f1 f2 f3
      obtain ⟨p1, p2, p3, p4, p5, p6, hf⟩ := ordV_form (mkN (u * u - v * v) (rtI (arA u v / n))) (mkD (u * u - v * v) (rtI (arA u v / n))) (mkN (2 * u * v) (rtI (arA u v / n))) (mkD (2 * u * v) (rtI (arA u v / n))) (mkN (u * u + v * v) (rtI (arA u v / n))) (mkD (u * u + v * v) (rtI (arA u v / n)))
      have HF : Hid (scT n u v = .agg #[.int .i64 p1, .int .i64 p2, .int .i64 p3, .int .i64 p4, .int .i64 p5, .int .i64 p6]) := hf
      rw [hf] at HO
      clear hf HV
      generalize mkN (u * u - v * v) (rtI (arA u v / n)) = N1 at HM1 HO
      generalize mkD (u * u - v * v) (rtI (arA u v / n)) = D1 at HM1 HO
      generalize mkN (2 * u * v) (rtI (arA u v / n)) = N2 at HM2 HO
      generalize mkD (2 * u * v) (rtI (arA u v / n)) = D2 at HM2 HO
      generalize mkN (u * u + v * v) (rtI (arA u v / n)) = N3 at HM3 HO
      generalize mkD (u * u + v * v) (rtI (arA u v / n)) = D3 at HM3 HO
      generalize rtI (arA u v / n) = k at *
      have JM1 := Lib.hid HM1
      have JM2 := Lib.hid HM2
      have JM3 := Lib.hid HM3
      have JO := Lib.hid HO
      clear HM1 HM2 HM3 HO
      rw [HA.out] at h1 h1' b5 b6 b7 HQ hm
      have hs0 := hb0.size
      go_enter Try.func67, Try.ntmps67
      go_wp2_with ((go_at_call 46; refine (HQ.out _).mono ?_; rintro e w' ⟨rfl, rfl⟩))
      generalize w.alloc _ = W at *
      refine (JM1.out _).mono ?_
      rintro e w1 ⟨rfl, hb1⟩
      have kT1 := kT.next hb1
      have kX1 := Blk.new w1 #[.int .i64 N1, .int .i64 D1] 25
      have kU1 := kT1.alloc (.cells #[.int .i64 N1, .int .i64 D1] 25)
      have hB1 := below_step hb1 hs0 hb0
      have hs1 := hB1.size
      go_wp2_with fail
      refine (JM2.out _).mono ?_
      rintro e w2 ⟨rfl, hb2⟩
      have kT2 := kU1.next hb2
      have kX2 := (kX1.next hb2).alloc (.cells #[.int .i64 N2, .int .i64 D2] 25)
      have kY2 := Blk.new w2 #[.int .i64 N2, .int .i64 D2] 25
      have kU2 := kT2.alloc (.cells #[.int .i64 N2, .int .i64 D2] 25)
      have hB2 : Below w.heap.size w w2 := by (repeat' (first | (with_reducible exact Below.refl _ _) | (with_reducible refine below_step (by assumption) ?_ ?_) | (with_reducible refine Below.alloc ?_ ?_ _) | (with_reducible refine Below.setCell ?_ ?_ _) | (with_reducible refine below_drewN ?_ _) | (with_reducible refine Below.drew ?_) | omega | (simp; omega) | (simp; done)))
      have hs2 := hB2.size
      go_wp2_with fail
      refine (JM3.out _).mono ?_
      rintro e w3 ⟨rfl, hb3⟩
      have kT3 := kU2.next hb3
      have kX3 := kX2.next hb3
      have kY3 := kY2.next hb3
      have kZ3 := Blk.new w3 #[.int .i64 N3, .int .i64 D3] 25
      have hB3 : Below w.heap.size w w3 := by (repeat' (first | (with_reducible exact Below.refl _ _) | (with_reducible refine below_step (by assumption) ?_ ?_) | (with_reducible refine Below.alloc ?_ ?_ _) | (with_reducible refine Below.setCell ?_ ?_ _) | (with_reducible refine below_drewN ?_ _) | (with_reducible refine Below.drew ?_) | omega | (simp; omega) | (simp; done)))
      have hs3 := hB3.size
      have kX30 : (w3).cell? ⟨w1.heap.size, 0, none⟩ = some (.int .i64 N1) := kX3.cell 0; have kX31 : (w3).cell? ⟨w1.heap.size, 1, none⟩ = some (.int .i64 D1) := kX3.cell 1; have kX3l : w1.heap.size < (w3).heap.size := kX3.lt
      have kY30 : (w3).cell? ⟨w2.heap.size, 0, none⟩ = some (.int .i64 N2) := kY3.cell 0; have kY31 : (w3).cell? ⟨w2.heap.size, 1, none⟩ = some (.int .i64 D2) := kY3.cell 1; have kY3l : w2.heap.size < (w3).heap.size := kY3.lt
      go_wp2_with fail
      refine (JO.out _).mono ?_
      rintro e w4 ⟨rfl, hb4⟩
      have kT4 := (kT3.alloc (.cells #[.int .i64 N3, .int .i64 D3] 25)).next hb4
      have hB4 : Below w.heap.size w w4 := by (repeat' (first | (with_reducible exact Below.refl _ _) | (with_reducible refine below_step (by assumption) ?_ ?_) | (with_reducible refine Below.alloc ?_ ?_ _) | (with_reducible refine Below.setCell ?_ ?_ _) | (with_reducible refine below_drewN ?_ _) | (with_reducible refine Below.drew ?_) | omega | (simp; omega) | (simp; done)))
      have kT40 : (w4).cell? ⟨w.heap.size, 0, none⟩ = some (.int .i64 0) := kT4.cell 0; have kT41 : (w4).cell? ⟨w.heap.size, 1, none⟩ = some (.int .i64 0) := kT4.cell 1; have kT42 : (w4).cell? ⟨w.heap.size, 2, none⟩ = some (.int .i64 0) := kT4.cell 2; have kT43 : (w4).cell? ⟨w.heap.size, 3, none⟩ = some (.int .i64 0) := kT4.cell 3; have kT44 : (w4).cell? ⟨w.heap.size, 4, none⟩ = some (.int .i64 0) := kT4.cell 4; have kT45 : (w4).cell? ⟨w.heap.size, 5, none⟩ = some (.int .i64 0) := kT4.cell 5; have kT4f0 : (w4).frozen? ⟨w.heap.size, 0, none⟩ = false := kT4.frozen 0; have kT4f1 : (w4).frozen? ⟨w.heap.size, 1, none⟩ = false := kT4.frozen 1; have kT4f2 : (w4).frozen? ⟨w.heap.size, 2, none⟩ = false := kT4.frozen 2; have kT4f3 : (w4).frozen? ⟨w.heap.size, 3, none⟩ = false := kT4.frozen 3; have kT4f4 : (w4).frozen? ⟨w.heap.size, 4, none⟩ = false := kT4.frozen 4; have kT4f5 : (w4).frozen? ⟨w.heap.size, 5, none⟩ = false := kT4.frozen 5; have kT4l : w.heap.size < (w4).heap.size := kT4.lt
      go_wp2
      have R := ((((((kT4.set 0 (.int .i64 p1)).set 1 (.int .i64 p2)).set 2 (.int .i64 p3)).set 3 (.int .i64 p4)).set 4 (.int .i64 p5)).set 5 (.int .i64 p6))
      have hR : Below w.heap.size w ((((((w4.setCell ⟨w.heap.size, 0, none⟩ (.int .i64 p1)).setCell ⟨w.heap.size, 1, none⟩ (.int .i64 p2)).setCell ⟨w.heap.size, 2, none⟩ (.int .i64 p3)).setCell ⟨w.heap.size, 3, none⟩ (.int .i64 p4)).setCell ⟨w.heap.size, 4, none⟩ (.int .i64 p5)).setCell ⟨w.heap.size, 5, none⟩ (.int .i64 p6)) := by (repeat' (first | (with_reducible exact Below.refl _ _) | (with_reducible refine below_step (by assumption) ?_ ?_) | (with_reducible refine Below.alloc ?_ ?_ _) | (with_reducible refine Below.setCell ?_ ?_ _) | (with_reducible refine below_drewN ?_ _) | (with_reducible refine Below.drew ?_) | omega | (simp; omega) | (simp; done)))
      simp only [List.setIfInBounds_toArray, List.set_cons_zero, List.set_cons_succ] at R
      clear kT4 kT40 kT41 kT42 kT43 kT44 kT45 kT4f0 kT4f1 kT4f2 kT4f3 kT4f4 kT4f5 kT4l
      generalize ((((((w4.setCell ⟨w.heap.size, 0, none⟩ (.int .i64 p1)).setCell ⟨w.heap.size, 1, none⟩ (.int .i64 p2)).setCell ⟨w.heap.size, 2, none⟩ (.int .i64 p3)).setCell ⟨w.heap.size, 3, none⟩ (.int .i64 p4)).setCell ⟨w.heap.size, 4, none⟩ (.int .i64 p5)).setCell ⟨w.heap.size, 5, none⟩ (.int .i64 p6)) = W9 at R hR ⊢
      have R0 : (W9).cell? ⟨w.heap.size, 0, none⟩ = some (.int .i64 p1) := R.cell 0; have R1 : (W9).cell? ⟨w.heap.size, 1, none⟩ = some (.int .i64 p2) := R.cell 1; have R2 : (W9).cell? ⟨w.heap.size, 2, none⟩ = some (.int .i64 p3) := R.cell 2; have R3 : (W9).cell? ⟨w.heap.size, 3, none⟩ = some (.int .i64 p4) := R.cell 3; have R4 : (W9).cell? ⟨w.heap.size, 4, none⟩ = some (.int .i64 p5) := R.cell 4; have R5 : (W9).cell? ⟨w.heap.size, 5, none⟩ = some (.int .i64 p6) := R.cell 5; have Rl : w.heap.size < (W9).heap.size := R.lt
      refine bodyPost_ret (v := .tuple #[.agg #[.int .i64 p1, .int .i64 p2, .int .i64 p3, .int .i64 p4, .int .i64 p5, .int .i64 p6], .bool true]) (by simp [results, Try.results67, go_sem, R0, R1, R2, R3, R4, R5]) rfl ?_
      exact scPost1 HE.out HF.out hR
end Go.Proofs.Ytcnfjapoopdiaaa
