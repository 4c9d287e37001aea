/- Walks: scalings modulo a prime, automorphisms. -/
import Derived.Test.YtilgeeaobdebhaaTwm
import Derived.Test.YtilgeeaobdebhaaCong
namespace Go.Proofs.Ytilgeeaobdebhaa
open Go.RowKit

def scA (p A u : Int) : Int := A * powM u 4 p % p
def scB (p B u : Int) : Int := B * powM u 6 p % p
theorem cg_pow2 (p u : Int) : Cg p (u * u % p) (u ^ 2) := by
  have e : u ^ 2 = u * u := by rw [Int.pow_succ, Int.pow_succ]; simp
  rw [e]; exact Cg.mod p (u * u)
theorem cg_pow4 (p u : Int) : Cg p (u * u % p * (u * u % p) % p) (u ^ 4) := by
  have := Cg.mod' ((cg_pow2 p u).mul (cg_pow2 p u))
  rwa [← Int.pow_add] at this
theorem scA_spec (p A u : Int) : A * (u * u % p * (u * u % p) % p) % p = scA p A u :=
  (Cg.refl p A).mul ((cg_pow4 p u).trans (Cg.symm (Cg.mod p _)))
theorem scB_spec (p B u : Int) : B * (u * u % p * (u * u % p) % p) % p * (u * u % p) % p = scB p B u := by
  have h : Cg p (B * (u * u % p * (u * u % p) % p) % p * (u * u % p)) (B * u ^ 4 * u ^ 2) := (Cg.mod' ((Cg.refl p B).mul (cg_pow4 p u))).mul (cg_pow2 p u)
  rw [Int.mul_assoc, ← Int.pow_add] at h
  exact h.trans ((Cg.refl p B).mul (Cg.symm (Cg.mod p _)))
theorem prod_bd {x y : Int} (hx : 0 ≤ x ∧ x ≤ 1000) (hy : 0 ≤ y ∧ y ≤ 1000) : 0 ≤ x * y ∧ x * y ≤ 1000000 :=
  ⟨Int.mul_nonneg hx.1 hy.1, by have := Int.mul_le_mul hx.2 hy.2 hy.1 (by omega); omega⟩
/-- a box of two cells, the result's block behind it -/
def S8 (w : World) (n : Nat) (a b : Value) (w' : World) : Prop :=
  w'.cell? ⟨n, 0, none⟩ = some a ∧ w'.cell? ⟨n, 1, none⟩ = some b ∧ (w'.cell? ⟨n + 1, 0, none⟩).isSome = true ∧ (w'.cell? ⟨n + 1, 1, none⟩).isSome = true ∧
  w'.frozen? ⟨n + 1, 0, none⟩ = false ∧ w'.frozen? ⟨n + 1, 1, none⟩ = false ∧ n + 1 < w'.heap.size ∧ w.heap.size ≤ n ∧ Below w.heap.size w w'
theorem S8.drewN {w W : World} {n : Nat} {a b : Value} (h : S8 w n a b W) (k : Nat) : S8 w n a b (W.drewN k) := ⟨h.1, h.2.1, h.2.2.1, h.2.2.2.1, h.2.2.2.2.1, h.2.2.2.2.2.1, h.2.2.2.2.2.2.1, h.2.2.2.2.2.2.2.1, below_drewN h.2.2.2.2.2.2.2.2 k⟩
theorem S8.drew {w W : World} {n : Nat} {a b : Value} (h : S8 w n a b W) : S8 w n a b W.drew := ⟨h.1, h.2.1, h.2.2.1, h.2.2.2.1, h.2.2.2.2.1, h.2.2.2.2.2.1, h.2.2.2.2.2.2.1, h.2.2.2.2.2.2.2.1, h.2.2.2.2.2.2.2.2.drew⟩
theorem S8.below {w W w1 : World} {n : Nat} {a b : Value} (h : S8 w n a b W) (hb : Below W.heap.size W w1) : S8 w n a b w1 := by
  obtain ⟨h1, h2, h3, h4, h5, h6, h7, h8, h9⟩ := h
  have hc := fun b o hb' => hb.cell (p := ⟨b, o, none⟩) hb'
  have hf := fun b o hb' => hb.frozen (p := ⟨b, o, none⟩) hb'
  exact ⟨(hc n 0 (by show n < _; omega)).trans h1, (hc n 1 (by show n < _; omega)).trans h2, by rw [hc (n + 1) 0 h7]; exact h3, by rw [hc (n + 1) 1 h7]; exact h4, (hf (n + 1) 0 h7).trans h5, (hf (n + 1) 1 h7).trans h6, Nat.lt_of_lt_of_le h7 hb.size, h8, h9.trans (hb.mono (by omega))⟩
theorem S8.set {w W : World} {n : Nat} {a b : Value} (h : S8 w n a b W) (x y : Value) : S8 w n a b ((W.setCell ⟨n + 1, 0, none⟩ x).setCell ⟨n + 1, 1, none⟩ y) := by
  obtain ⟨h1, h2, h3, h4, h5, h6, h7, h8, h9⟩ := h
  have e : (W.setCell ⟨n + 1, 0, none⟩ x).cell? ⟨n + 1, 1, none⟩ = W.cell? ⟨n + 1, 1, none⟩ := World.cell?_setCell_other _ _ _ _ (by simp)
  refine ⟨?_, ?_, ?_, ?_, ?_, ?_, ?_, h8, ?_⟩
  · rw [World.cell?_setCell_other _ _ _ _ (by simp), World.cell?_setCell_other _ _ _ _ (by simp)]; exact h1
  · rw [World.cell?_setCell_other _ _ _ _ (by simp), World.cell?_setCell_other _ _ _ _ (by simp)]; exact h2
  · rw [World.cell?_setCell_other _ _ _ _ (by simp), World.cell?_setCell_same' _ _ _ h3]; rfl
  · rw [World.cell?_setCell_same' _ _ _ (by rw [e]; exact h4)]; rfl
  · rw [World.frozen?_setCell, World.frozen?_setCell]; exact h5
  · rw [World.frozen?_setCell, World.frozen?_setCell]; exact h6
  · simpa [World.setCell] using h7
  · exact (h9.setCell (by show _ ≤ n + 1; omega) _).setCell (by show _ ≤ n + 1; omega) _
theorem S8.new (w : World) (a b x y : Value) (t t' : TypeId) : S8 w w.heap.size a b ((w.alloc (.cells #[a, b] t)).alloc (.cells #[x, y] t')) :=
  ⟨by simp [go_sem], by simp [go_sem], by simp [go_sem], by simp [go_sem], by simp [go_sem], by simp [go_sem], by simp, Nat.le_refl _, ((Below.refl _ _).alloc (Nat.le_refl _) _).alloc (by simp) _⟩
set_option maxHeartbeats 1000000 in
theorem c_ctScaled (p A B u : Int) (hp : 2 ≤ p ∧ p ≤ 1000) (hA : 0 ≤ A ∧ A ≤ 1000) (hB : 0 ≤ B ∧ B ≤ 1000) (hu : 0 ≤ u ∧ u ≤ 1000) (w : World) :
    Calls Try.prog 59 #[.int .i64 p, .agg #[.int .i64 A, .int .i64 B], .int .i64 u] w fun e w' => e = .returned (.agg #[.int .i64 (scA p A u), .int .i64 (scB p B u)]) ∧ Below w.heap.size w w' := by
  have HA := Lib.hid (scA_spec p A u)
  have HB := Lib.hid (scB_spec p B u)
  have b1 := prod_bd hu hu
  have m1 := mod_bd (u * u) p (by omega)
  have b2 := prod_bd (x := u * u % p) (y := u * u % p) (by omega) (by omega)
  have m2 := mod_bd (u * u % p * (u * u % p)) p (by omega)
  have b3 := prod_bd (x := A) (y := u * u % p * (u * u % p) % p) hA (by omega)
  have b4 := prod_bd (x := B) (y := u * u % p * (u * u % p) % p) hB (by omega)
  have m4 := mod_bd (B * (u * u % p * (u * u % p) % p)) p (by omega)
  have b5 := prod_bd (x := B * (u * u % p * (u * u % p) % p) % p) (y := u * u % p) (by omega) (by omega)
  have hp0 : p ≠ 0 := by omega
  have hp1 : (p == 0) = false := by simpa using hp0
  go_enter Try.func59, Try.ntmps59
  go_wp2
  go_region
  all_goals go_wp2
  all_goals
    rw [HA.out, HB.out]
    refine bodyPost_ret (v := .agg #[.int .i64 (scA p A u), .int .i64 (scB p B u)]) (by simp [results, Try.results59, go_sem]) rfl ⟨rfl, ?_⟩
    (repeat' (first | (with_reducible exact Below.refl _ _) | (with_reducible refine below_step (by assumption) ?_ ?_) | (with_reducible refine Below.alloc ?_ ?_ _) | (with_reducible refine Below.setCell ?_ ?_ _) | (with_reducible refine below_drewN ?_ _) | (with_reducible refine Below.drew ?_) | omega | (simp; omega) | (simp; done)))
set_option maxHeartbeats 1000000 in
theorem c_scaledModulo (p A B u : Int) (hp : 2 ≤ p ∧ p ≤ 1000) (hA : 0 ≤ A ∧ A ≤ 1000) (hB : 0 ≤ B ∧ B ≤ 1000) (w : World) :
    Calls Try.prog 58 #[.int .i64 p, .agg #[.int .i64 A, .int .i64 B], .int .i64 u] w fun e w' => e = .returned (.agg #[.int .i64 (scA p A u), .int .i64 (scB p B u)]) ∧ Below w.heap.size w w' := by
  have m1 := powM_bd u 4 p (by omega)
  have m2 := powM_bd u 6 p (by omega)
  have b3 := prod_bd (x := A) (y := powM u 4 p) hA (by omega)
  have b4 := prod_bd (x := B) (y := powM u 6 p) hB (by omega)
  have hp0 : p ≠ 0 := by omega
  have hp1 : (p == 0) = false := by simpa using hp0
  go_enter Try.func58, Try.ntmps58
  go_wp2
  have hS := S8.new w (.int .i64 A) (.int .i64 B) (.int .i64 0) (.int .i64 0) 38 38
  go_region_held3 (fun w' => w'.cell? ⟨w.heap.size, 0, none⟩ = some (.int .i64 A) ∧ w'.cell? ⟨w.heap.size, 1, none⟩ = some (.int .i64 B) ∧ (w'.cell? ⟨w.heap.size + 1, 0, none⟩).isSome = true ∧ (w'.cell? ⟨w.heap.size + 1, 1, none⟩).isSome = true ∧ w'.frozen? ⟨w.heap.size + 1, 0, none⟩ = false ∧ w'.frozen? ⟨w.heap.size + 1, 1, none⟩ = false ∧ w.heap.size + 1 < w'.heap.size ∧ w.heap.size ≤ w.heap.size ∧ Below w.heap.size w w')
    (first | assumption | (exact S8.drew hS) | (exact S8.drewN (by assumption) _) | (exact S8.drewN (S8.drew hS) _) | (exact S8.set (by assumption) _ _))
    (first
      | (go_at_call 74; refine (c_power _ _ _ (by omega) (by omega) (by omega) (by omega) _).mono ?_; rintro e w' ⟨rfl, kd, rfl⟩))
  all_goals go_wp2
  all_goals
    simp (disch := omega) only [IntWalk.i64_in, Int.tmod_eq_emod_of_nonneg]
    refine bodyPost_ret (v := .agg #[.int .i64 (A * powM u 4 p % p), .int .i64 (B * powM u 6 p % p)]) (by simp [results, Try.results58, go_sem]) rfl ⟨rfl, ?_⟩
    (repeat' (first | (with_reducible exact Below.refl _ _) | (with_reducible refine below_step (by assumption) ?_ ?_) | (with_reducible refine Below.alloc ?_ ?_ _) | (with_reducible refine Below.setCell ?_ ?_ _) | (with_reducible refine below_drewN ?_ _) | (with_reducible refine Below.drew ?_) | omega | (simp; omega) | (simp; done)))
def autAt (p A B : Int) (i : Nat) : Bool := scA p A (i + 1) == A && scB p B (i + 1) == B
def autTo (p A B : Int) (k : Nat) : Int := ((List.range k).filter (autAt p A B)).length
theorem autTo_succ (p A B : Int) (k : Nat) : autTo p A B (k + 1) = if autAt p A B k = true then autTo p A B k + 1 else autTo p A B k := by
  unfold autTo
  rw [List.range_succ, List.filter_append]
  cases h : autAt p A B k <;> simp [h]
theorem autTo_bd (p A B : Int) (k : Nat) : 0 ≤ autTo p A B k ∧ autTo p A B k ≤ k := by
  unfold autTo
  have := List.length_filter_le (autAt p A B) (List.range k)
  simp at this
  omega
def autV (p A B : Int) : Int := autTo p A B (p.toNat - 1)
set_option maxHeartbeats 1000000 in
theorem c_sAutomorphismCount (p A B : Int) (w : World) :
    Calls Try.prog 26 #[.int .i64 p, .agg #[.int .i64 A, .int .i64 B]] w fun e w' => e = .returned (.tuple #[.int .i64 (if tabB p A B then autV p A B else 0), .bool (tabB p A B)]) ∧ Below w.heap.size w w' := by
  cases h1 : tabB p A B
  · go_enter Try.func26, Try.ntmps26
    go_wp2_with ((go_at_call 52; refine (c_ctAsked _ _ _ _).mono ?_; rintro e w1 ⟨rfl, hb1⟩; obtain ⟨hc1, hf1⟩ := bcell hb1; have hz1 := hb1.size; (try simp only [World.size_alloc] at hz1); (try (have hy1 : w.heap.size < w1.heap.size := by omega)); (try (have hx1 := Nat.lt_of_succ_le hz1)); (try (have hv1 := Nat.lt_of_succ_le (Nat.le_of_lt hx1)))))
    go_ret2
    refine ⟨rfl, ?_⟩
    (repeat' (first | (with_reducible exact Below.refl _ _) | (with_reducible refine below_step (by assumption) ?_ ?_) | (with_reducible refine Below.alloc ?_ ?_ _) | (with_reducible refine Below.setCell ?_ ?_ _) | (with_reducible refine below_drewN ?_ _) | (with_reducible refine Below.drew ?_) | omega | (simp; omega) | (simp; done)))
  · have hb := tabB_of h1
    go_enter Try.func26, Try.ntmps26
    go_wp2_with (first | (go_at_call 52; refine (c_ctAsked _ _ _ _).mono ?_; rintro e w1 ⟨rfl, hb1⟩; obtain ⟨hc1, hf1⟩ := bcell hb1; have hz1 := hb1.size; (try simp only [World.size_alloc] at hz1); (try (have hy1 : w.heap.size < w1.heap.size := by omega)); (try (have hx1 := Nat.lt_of_succ_le hz1)); (try (have hv1 := Nat.lt_of_succ_le (Nat.le_of_lt hx1)))))
    have hS := keep2 (w := w) (B := w.heap.size) (b := w.heap.size) (v0 := .int .i64 A) (v1 := .int .i64 B) ⟨by simp [go_sem], by simp [go_sem], by simp, by simp, (Below.refl _ _).alloc (Nat.le_refl _) _⟩ hb1
    clear hc1 hf1 hb1
    go_loopw [6, 7] (fun n u wr => ∃ k : Nat, n = .int .i64 (autTo p A B k) ∧ u = .int .i64 ((k : Int) + 1) ∧ (k : Int) ≤ p - 1 ∧ (wr.cell? ⟨w.heap.size, 0, none⟩ = some (.int .i64 A) ∧ wr.cell? ⟨w.heap.size, 1, none⟩ = some (.int .i64 B) ∧ w.heap.size < wr.heap.size ∧ w.heap.size ≤ wr.heap.size ∧ Below w.heap.size w wr)) (fun _ u _ => (p - intOf u).toNat)
    case atStart => exact ⟨0, rfl, rfl, by omega, hS⟩
    case round =>
      clear hS
      obtain ⟨k, rfl, rfl, hk, hS⟩ := hrel
      have hS' := hS
      obtain ⟨q1, q2, q3, q4, q5⟩ := hS
      have ha := autTo_bd p A B k
      by_cases hlt : (k : Int) + 1 < p
      · have HT := Lib.hid (autTo_succ p A B k)
        have HW : Hid (autAt p A B k = (scA p A ((k : Int) + 1) == A && scB p B ((k : Int) + 1) == B)) := rfl
        cases e1 : (scA p A ((k : Int) + 1) == A) <;> cases e2 : (scB p B ((k : Int) + 1) == B)
        all_goals
          go_wp2
          go_region_held3 (fun w' => w'.cell? ⟨w.heap.size, 0, none⟩ = some (.int .i64 A) ∧ w'.cell? ⟨w.heap.size, 1, none⟩ = some (.int .i64 B) ∧ w.heap.size < w'.heap.size ∧ w.heap.size ≤ w'.heap.size ∧ Below w.heap.size w w')
            (first | (exact keep2 (by assumption) (by assumption)) | (exact keep2d (by assumption)) | assumption | (exact ⟨by simp, by simp, by simp, by simp, ((Below.refl _ _).alloc (Nat.le_refl _) _).drew⟩) | (exact ⟨by simp, by simp, by simp, by simp, (((Below.refl _ _).alloc (Nat.le_refl _) _).alloc (by simp) _).drew⟩))
            (first
              | (go_at_call 59; refine (c_ctScaled _ _ _ _ (by omega) (by omega) (by omega) (by omega) _).mono ?_; rintro e w1 ⟨rfl, hb1⟩))
          all_goals go_wp2
          all_goals
            rename_i hS2
            go_roundw
            case rel => exact ⟨k + 1, by rw [HT.out, HW.out, e1, e2]; rfl, by go_num, by omega, hS2⟩
            case measure => simp [intOf]; omega
      · go_wp2
        go_ret2
        refine ⟨?_, q5⟩
        have : p.toNat - 1 = k := by omega
        unfold autV; rw [this]; rfl
set_option maxHeartbeats 1000000 in
theorem c_iAutomorphismCount (p A B : Int) (w : World) :
    Calls Try.prog 25 #[.int .i64 p, .agg #[.int .i64 A, .int .i64 B]] w fun e w' => e = .returned (.tuple #[.int .i64 (if tabB p A B then autV p A B else 0), .bool (tabB p A B)]) ∧ Below w.heap.size w w' := by
  cases h1 : tabB p A B
  · go_enter Try.func25, Try.ntmps25
    go_wp2_with ((go_at_call 50; refine (c_isTableCurve _ _ _ _).mono ?_; rintro e w1 ⟨rfl, hb1⟩; obtain ⟨hc1, hf1⟩ := bcell hb1; have hz1 := hb1.size; (try simp only [World.size_alloc] at hz1); (try (have hy1 : w.heap.size < w1.heap.size := by omega)); (try (have hx1 := Nat.lt_of_succ_le hz1)); (try (have hv1 := Nat.lt_of_succ_le (Nat.le_of_lt hx1)))))
    go_ret2
    refine ⟨rfl, ?_⟩
    (repeat' (first | (with_reducible exact Below.refl _ _) | (with_reducible refine below_step (by assumption) ?_ ?_) | (with_reducible refine Below.alloc ?_ ?_ _) | (with_reducible refine Below.setCell ?_ ?_ _) | (with_reducible refine below_drewN ?_ _) | (with_reducible refine Below.drew ?_) | omega | (simp; omega) | (simp; done)))
  · have hb := tabB_of h1
    go_enter Try.func25, Try.ntmps25
    go_wp2_with (first | (go_at_call 50; refine (c_isTableCurve _ _ _ _).mono ?_; rintro e w1 ⟨rfl, hb1⟩; obtain ⟨hc1, hf1⟩ := bcell hb1; have hz1 := hb1.size; (try simp only [World.size_alloc] at hz1); (try (have hy1 : w.heap.size < w1.heap.size := by omega)); (try (have hx1 := Nat.lt_of_succ_le hz1)); (try (have hv1 := Nat.lt_of_succ_le (Nat.le_of_lt hx1)))))
    have hS := keep2 (w := w) (B := w.heap.size) (b := w.heap.size) (v0 := .int .i64 A) (v1 := .int .i64 B) ⟨by simp [go_sem], by simp [go_sem], by simp, by simp, (Below.refl _ _).alloc (Nat.le_refl _) _⟩ hb1
    clear hc1 hf1 hb1
    go_loopw [6, 7] (fun n u wr => ∃ k : Nat, n = .int .i64 (autTo p A B k) ∧ u = .int .i64 ((k : Int) + 1) ∧ (k : Int) ≤ p - 1 ∧ (wr.cell? ⟨w.heap.size, 0, none⟩ = some (.int .i64 A) ∧ wr.cell? ⟨w.heap.size, 1, none⟩ = some (.int .i64 B) ∧ w.heap.size < wr.heap.size ∧ w.heap.size ≤ wr.heap.size ∧ Below w.heap.size w wr)) (fun _ u _ => (p - intOf u).toNat)
    case atStart => exact ⟨0, rfl, rfl, by omega, hS⟩
    case round =>
      clear hS
      obtain ⟨k, rfl, rfl, hk, hS⟩ := hrel
      have hS' := hS
      obtain ⟨q1, q2, q3, q4, q5⟩ := hS
      have ha := autTo_bd p A B k
      by_cases hlt : (k : Int) + 1 < p
      · have HT := Lib.hid (autTo_succ p A B k)
        have HW : Hid (autAt p A B k = (scA p A ((k : Int) + 1) == A && scB p B ((k : Int) + 1) == B)) := rfl
        cases e1 : (scA p A ((k : Int) + 1) == A) <;> cases e2 : (scB p B ((k : Int) + 1) == B)
        all_goals
          go_wp2
          go_region_held3 (fun w' => w'.cell? ⟨w.heap.size, 0, none⟩ = some (.int .i64 A) ∧ w'.cell? ⟨w.heap.size, 1, none⟩ = some (.int .i64 B) ∧ w.heap.size < w'.heap.size ∧ w.heap.size ≤ w'.heap.size ∧ Below w.heap.size w w')
            (first | (exact keep2 (by assumption) (by assumption)) | (exact keep2d (by assumption)) | assumption | (exact ⟨by simp, by simp, by simp, by simp, ((Below.refl _ _).alloc (Nat.le_refl _) _).drew⟩) | (exact ⟨by simp, by simp, by simp, by simp, (((Below.refl _ _).alloc (Nat.le_refl _) _).alloc (by simp) _).drew⟩))
            (first
              | (go_at_call 58; refine (c_scaledModulo _ _ _ _ (by omega) (by omega) (by omega) _).mono ?_; rintro e w1 ⟨rfl, hb1⟩))
          all_goals go_wp2
          all_goals
            rename_i hS2
            go_roundw
            case rel => exact ⟨k + 1, by rw [HT.out, HW.out, e1, e2]; rfl, by go_num, by omega, hS2⟩
            case measure => simp [intOf]; omega
      · go_wp2
        go_ret2
        refine ⟨?_, q5⟩
        have : p.toNat - 1 = k := by omega
        unfold autV; rw [this]; rfl
end Go.Proofs.Ytilgeeaobdebhaa
