/- Walks: scaling, twisting, applying a step. -/
import Derived.Test.YtpnpidepkfnofaaGreatDoorStepPlain
import Derived.BigRegion
import Derived.Deep.RegionHeld3
namespace Go.Proofs.YtpnpidepkfnofaaGreatDoor
open Go.RowKit

/-- what a cell holds, as a name: a store wants the cell's old word -/
def cellOr (w : World) (r o : Nat) : Value := (w.cell? ⟨r, o, none⟩).getD (.bool false)
theorem cellOr_of {w : World} {r o : Nat} (h : (w.cell? ⟨r, o, none⟩).isSome = true) : w.cell? ⟨r, o, none⟩ = some (cellOr w r o) := by
  unfold cellOr
  obtain ⟨x, hx⟩ := Option.isSome_iff_exists.1 h
  rw [hx]; rfl
/-- a box of two cells, the result's block somewhere behind it -/
def S9 (w : World) (n r : Nat) (a b : Value) (w' : World) : Prop :=
  w'.cell? ⟨n, 0, none⟩ = some a ∧ w'.cell? ⟨n, 1, none⟩ = some b ∧ w'.cell? ⟨r, 0, none⟩ = some (cellOr w' r 0) ∧ w'.cell? ⟨r, 1, none⟩ = some (cellOr w' r 1) ∧
  w'.frozen? ⟨r, 0, none⟩ = false ∧ w'.frozen? ⟨r, 1, none⟩ = false ∧ n < r ∧ r < w'.heap.size ∧ w.heap.size ≤ n ∧ Below w.heap.size w w'
section
variable {w W w1 : World} {n r : Nat} {a b : Value}
theorem S9.below (h : S9 w n r a b W) (hb : Below W.heap.size W w1) : S9 w n r a b w1 := by
  obtain ⟨h1, h2, h3, h4, h5, h6, h0, h7, h8, h9⟩ := h
  have hc := fun b o hb' => hb.cell (p := ⟨b, o, none⟩) hb'
  have hf := fun b o hb' => hb.frozen (p := ⟨b, o, none⟩) hb'
  exact ⟨(hc n 0 (by show n < _; omega)).trans h1, (hc n 1 (by show n < _; omega)).trans h2, cellOr_of (by rw [hc r 0 h7, h3]; rfl), cellOr_of (by rw [hc r 1 h7, h4]; rfl), (hf r 0 h7).trans h5, (hf r 1 h7).trans h6, h0, Nat.lt_of_lt_of_le h7 hb.size, h8, h9.trans (hb.mono (by omega))⟩
theorem S9.drew (h : S9 w n r a b W) : S9 w n r a b W.drew := S9.below h ((Below.refl _ _).drew)
theorem S9.drewN (h : S9 w n r a b W) (k : Nat) : S9 w n r a b (W.drewN k) := S9.below h (below_drewN (Below.refl _ _) k)
theorem S9.set (h : S9 w n r a b W) (x y : Value) : S9 w n r a b ((W.setCell ⟨r, 0, none⟩ x).setCell ⟨r, 1, none⟩ y) := by
  obtain ⟨h1, h2, h3, h4, h5, h6, h0, h7, h8, h9⟩ := h
  have e : (W.setCell ⟨r, 0, none⟩ x).cell? ⟨r, 1, none⟩ = W.cell? ⟨r, 1, none⟩ := World.cell?_setCell_other _ _ _ _ (by simp)
  refine ⟨?_, ?_, cellOr_of ?_, cellOr_of ?_, ?_, ?_, h0, ?_, h8, ?_⟩
  · rw [World.cell?_setCell_other _ _ _ _ (by simp), World.cell?_setCell_other _ _ _ _ (by simp)]; exact h1
  · rw [World.cell?_setCell_other _ _ _ _ (by simp), World.cell?_setCell_other _ _ _ _ (by simp)]; exact h2
  · rw [World.cell?_setCell_other _ _ _ _ (by simp), World.cell?_setCell_same' _ _ _ (by rw [h3]; rfl)]; rfl
  · rw [World.cell?_setCell_same' _ _ _ (by rw [e, h4]; rfl)]; rfl
  · rw [World.frozen?_setCell, World.frozen?_setCell]; exact h5
  · rw [World.frozen?_setCell, World.frozen?_setCell]; exact h6
  · simpa [World.setCell] using h7
  · exact (h9.setCell (by show _ ≤ r; omega) _).setCell (by show _ ≤ r; omega) _
end
theorem S9.new2 (w : World) (a b x y : Value) (t t' : TypeId) : S9 w w.heap.size (w.heap.size + 1) a b ((w.alloc (.cells #[a, b] t)).alloc (.cells #[x, y] t')) :=
  ⟨by simp [go_sem], by simp [go_sem], cellOr_of (by simp [go_sem]), cellOr_of (by simp [go_sem]), by simp [go_sem], by simp [go_sem], by simp, by simp, Nat.le_refl _, ((Below.refl _ _).alloc (Nat.le_refl _) _).alloc (by simp) _⟩
theorem S9.new3 (w : World) (a b c d x y : Value) (t t' t3 : TypeId) : S9 w w.heap.size (w.heap.size + 1 + 1) a b (((w.alloc (.cells #[a, b] t)).alloc (.cells #[c, d] t3)).alloc (.cells #[x, y] t')) :=
  ⟨by simp [go_sem], by simp [go_sem], cellOr_of (by simp [go_sem]), cellOr_of (by simp [go_sem]), by simp [go_sem], by simp [go_sem], by omega, by simp, Nat.le_refl _, (((Below.refl _ _).alloc (Nat.le_refl _) _).alloc (by simp) _).alloc (by simp; omega) _⟩

theorem twistB_of {d : Int} (h : twistB d = true) : (-30 ≤ d ∧ d ≤ 30) ∧ d ≠ 0 := by unfold twistB at h; simp at h; exact ⟨inB_true h.1.1, h.1.2⟩
theorem sc_bd {A v : Int} (b : Int) (hA : -b ≤ A ∧ A ≤ b) (_ : 0 ≤ b) (hv : 1 ≤ v ∧ v ≤ 5) :
    (-(b * 5) ≤ A * v ∧ A * v ≤ b * 5) ∧ (-(b * 25) ≤ A * v * v ∧ A * v * v ≤ b * 25) ∧ (-(b * 125) ≤ A * v * v * v ∧ A * v * v * v ≤ b * 125) ∧ (-(b * 625) ≤ A * v * v * v * v ∧ A * v * v * v * v ≤ b * 625) ∧
    (-(b * 3125) ≤ A * v * v * v * v * v ∧ A * v * v * v * v * v ≤ b * 3125) ∧ (-(b * 15625) ≤ A * v * v * v * v * v * v ∧ A * v * v * v * v * v * v ≤ b * 15625) := by
  have h1 := mulb (x := A) (y := v) b 5 hA (by omega)
  have h2 := mulb (x := A * v) (y := v) (b * 5) 5 (by omega) (by omega)
  have h3 := mulb (x := A * v * v) (y := v) (b * 25) 5 (by omega) (by omega)
  have h4 := mulb (x := A * v * v * v) (y := v) (b * 125) 5 (by omega) (by omega)
  have h5 := mulb (x := A * v * v * v * v) (y := v) (b * 625) 5 (by omega) (by omega)
  have h6 := mulb (x := A * v * v * v * v * v) (y := v) (b * 3125) 5 (by omega) (by omega)
  omega
theorem tw_bd3 {A v : Int} (b : Int) (hA : -b ≤ A ∧ A ≤ b) (_ : 0 ≤ b) (hv : -30 ≤ v ∧ v ≤ 30) :
    (-(b * 30) ≤ A * v ∧ A * v ≤ b * 30) ∧ (-(b * 900) ≤ A * v * v ∧ A * v * v ≤ b * 900) ∧ (-(b * 27000) ≤ A * v * v * v ∧ A * v * v * v ≤ b * 27000) := by
  have h1 := mulb (x := A) (y := v) b 30 hA (by omega)
  have h2 := mulb (x := A * v) (y := v) (b * 30) 30 (by omega) (by omega)
  have h3 := mulb (x := A * v * v) (y := v) (b * 900) 30 (by omega) (by omega)
  omega
theorem sq_ne {v : Int} (h : v ≠ 0) : v * v ≠ 0 ∧ v * v * v ≠ 0 := by
  constructor <;> (intro h0; simp only [Int.mul_eq_zero] at h0; omega)
theorem udB_c {A B v : Int} : udB A B v = ((A.tmod (v * v) == 0) && (B.tmod (v * v * v) == 0)) := by unfold udB; rw [tmod_beq, tmod_beq]
theorem c_curveResult (A B : Int) (w : World) :
    Calls Tryz.prog 96 #[.agg #[.int .i64 A, .int .i64 B]] w fun e w' => e = .returned (.tuple #[.agg #[.int .i64 (rs (curveB A B) A), .int .i64 (rs (curveB A B) B)], .bool (curveB A B)]) ∧ Below w.heap.size w w' := by
  cases h1 : curveB A B
  · go_enter Tryz.func96, Tryz.ntmps96
    go_wp2_with ((go_at_call 46; refine (c_isCurve _ _ _).mono ?_; rintro e w1 ⟨rfl, hb1⟩; obtain ⟨hc1, hf1⟩ := bcell hb1; have hz1 := hb1.size; (try simp only [World.size_alloc] at hz1); (try (have hy1 : w.heap.size < w1.heap.size := by omega)); (try (have hx1 := Nat.lt_of_succ_le hz1)); (try (have hv1 := Nat.lt_of_succ_le (Nat.le_of_lt hx1)))))
    refine bodyPost_ret (v := .tuple #[.agg #[.int .i64 0, .int .i64 0], .bool false]) (by simp [results, Tryz.results96, go_sem, hc1]) rfl ⟨rfl, ?_⟩
    (repeat' (first | (with_reducible exact Below.refl _ _) | (with_reducible refine below_step (by assumption) ?_ ?_) | (with_reducible refine Below.alloc ?_ ?_ _) | (with_reducible refine Below.setCell ?_ ?_ _) | (with_reducible refine below_drewN ?_ _) | (with_reducible refine Below.drew ?_) | omega | (simp; omega) | (simp; done)))
  · go_enter Tryz.func96, Tryz.ntmps96
    go_wp2_with ((go_at_call 46; refine (c_isCurve _ _ _).mono ?_; rintro e w1 ⟨rfl, hb1⟩; obtain ⟨hc1, hf1⟩ := bcell hb1; have hz1 := hb1.size; (try simp only [World.size_alloc] at hz1); (try (have hy1 : w.heap.size < w1.heap.size := by omega)); (try (have hx1 := Nat.lt_of_succ_le hz1)); (try (have hv1 := Nat.lt_of_succ_le (Nat.le_of_lt hx1)))))
    refine bodyPost_ret (v := .tuple #[.agg #[.int .i64 A, .int .i64 B], .bool true]) (by simp [results, Tryz.results96, go_sem, hc1]) rfl ⟨rfl, ?_⟩
    (repeat' (first | (with_reducible exact Below.refl _ _) | (with_reducible refine below_step (by assumption) ?_ ?_) | (with_reducible refine Below.alloc ?_ ?_ _) | (with_reducible refine Below.setCell ?_ ?_ _) | (with_reducible refine below_drewN ?_ _) | (with_reducible refine Below.drew ?_) | omega | (simp; omega) | (simp; done)))
theorem c_sScale (A B v : Int) (hC : curveB A B = true) (hv : inB v 1 5 = true) (w : World) :
    Calls Tryz.prog 44 #[.agg #[.int .i64 A, .int .i64 B], .int .i64 v] w fun e w' => e = .returned (.tuple #[.agg #[.int .i64 (rs (curveB (A * v * v * v * v) (B * v * v * v * v * v * v)) (A * v * v * v * v)), .int .i64 (rs (curveB (A * v * v * v * v) (B * v * v * v * v * v * v)) (B * v * v * v * v * v * v))], .bool (curveB (A * v * v * v * v) (B * v * v * v * v * v * v))]) ∧ Below w.heap.size w w' := by
  have hb := curveB_of hC
  have hu := inB_true hv
  obtain ⟨a1, a2, a3, a4, a5, a6⟩ := sc_bd 1000 hb.1 (by omega) hu
  obtain ⟨b1, b2, b3, b4, b5, b6⟩ := sc_bd 10000 hb.2 (by omega) hu
  cases h1 : curveB (A * v * v * v * v) (B * v * v * v * v * v * v)
  · go_enter Tryz.func44, Tryz.ntmps44
    go_wp2_with ((go_at_call 55; refine (c_l1In _ _ _ _).mono ?_; rintro e w' ⟨rfl, rfl⟩))
    (go_at_call 41; refine (c_ecGood _ _ _).mono ?_; rintro e w1 ⟨rfl, hb1⟩; obtain ⟨hc1, hf1⟩ := bcell hb1; have hz1 := hb1.size; (try simp only [World.size_alloc] at hz1); (try (have hy1 : w.heap.size < w1.heap.size := by omega)); (try (have hx1 := Nat.lt_of_succ_le hz1)); (try (have hv1 := Nat.lt_of_succ_le (Nat.le_of_lt hx1))))
    go_wp2_with ((go_at_call 55; refine (c_l1In _ _ _ _).mono ?_; rintro e w' ⟨rfl, rfl⟩))
    (go_at_call 41; refine (c_ecGood _ _ _).mono ?_; rintro e w2 ⟨rfl, hb2⟩; obtain ⟨hc2, hf2⟩ := bcell hb2; have hz2 := hb2.size; (try simp only [World.size_alloc] at hz2); (try (have hy2 : w.heap.size < w2.heap.size := by omega)); (try (have hx2 := Nat.lt_of_succ_le hz2)); (try (have hv2 := Nat.lt_of_succ_le (Nat.le_of_lt hx2))); (try (have hy2_1 : w1.heap.size < w2.heap.size := by omega)))
    go_wp2
    obtain ⟨_, _, q3, q4, _⟩ := (((S9.new2 w (.int .i64 A) (.int .i64 B) (.int .i64 0) (.int .i64 0) 33 33).below hb1).below ((Below.refl _ _).alloc (Nat.le_refl _) _)).below hb2
    refine bodyPost_ret (v := .tuple #[.agg #[.int .i64 0, .int .i64 0], .bool false]) (by simp [results, Tryz.results44, go_sem, q3, q4]) rfl ⟨rfl, ?_⟩
    (repeat' (first | (with_reducible exact Below.refl _ _) | (with_reducible refine below_step (by assumption) ?_ ?_) | (with_reducible refine Below.alloc ?_ ?_ _) | (with_reducible refine Below.setCell ?_ ?_ _) | (with_reducible refine below_drewN ?_ _) | (with_reducible refine Below.drew ?_) | omega | (simp; omega) | (simp; done)))
  · go_enter Tryz.func44, Tryz.ntmps44
    go_wp2_with ((go_at_call 55; refine (c_l1In _ _ _ _).mono ?_; rintro e w' ⟨rfl, rfl⟩))
    (go_at_call 41; refine (c_ecGood _ _ _).mono ?_; rintro e w1 ⟨rfl, hb1⟩; obtain ⟨hc1, hf1⟩ := bcell hb1; have hz1 := hb1.size; (try simp only [World.size_alloc] at hz1); (try (have hy1 : w.heap.size < w1.heap.size := by omega)); (try (have hx1 := Nat.lt_of_succ_le hz1)); (try (have hv1 := Nat.lt_of_succ_le (Nat.le_of_lt hx1))))
    go_wp2_with ((go_at_call 55; refine (c_l1In _ _ _ _).mono ?_; rintro e w' ⟨rfl, rfl⟩))
    (go_at_call 41; refine (c_ecGood _ _ _).mono ?_; rintro e w2 ⟨rfl, hb2⟩; obtain ⟨hc2, hf2⟩ := bcell hb2; have hz2 := hb2.size; (try simp only [World.size_alloc] at hz2); (try (have hy2 : w.heap.size < w2.heap.size := by omega)); (try (have hx2 := Nat.lt_of_succ_le hz2)); (try (have hv2 := Nat.lt_of_succ_le (Nat.le_of_lt hx2))); (try (have hy2_1 : w1.heap.size < w2.heap.size := by omega)))
    go_wp2
    obtain ⟨_, _, q3, q4, _⟩ := (((S9.new2 w (.int .i64 A) (.int .i64 B) (.int .i64 0) (.int .i64 0) 33 33).below hb1).below ((Below.refl _ _).alloc (Nat.le_refl _) _)).below hb2
    refine bodyPost_ret (v := .tuple #[.agg #[.int .i64 (A * v * v * v * v), .int .i64 (B * v * v * v * v * v * v)], .bool true]) (by simp [results, Tryz.results44, go_sem, q3, q4]) rfl ⟨rfl, ?_⟩
    (repeat' (first | (with_reducible exact Below.refl _ _) | (with_reducible refine below_step (by assumption) ?_ ?_) | (with_reducible refine Below.alloc ?_ ?_ _) | (with_reducible refine Below.setCell ?_ ?_ _) | (with_reducible refine below_drewN ?_ _) | (with_reducible refine Below.drew ?_) | omega | (simp; omega) | (simp; done)))
theorem c_iScale (A B v : Int) (hC : curveB A B = true) (hv : inB v 1 5 = true) (w : World) :
    Calls Tryz.prog 95 #[.agg #[.int .i64 A, .int .i64 B], .int .i64 v] w fun e w' => e = .returned (.tuple #[.agg #[.int .i64 (rs (curveB (A * v * v * v * v) (B * v * v * v * v * v * v)) (A * v * v * v * v)), .int .i64 (rs (curveB (A * v * v * v * v) (B * v * v * v * v * v * v)) (B * v * v * v * v * v * v))], .bool (curveB (A * v * v * v * v) (B * v * v * v * v * v * v))]) ∧ Below w.heap.size w w' := by
  have hb := curveB_of hC
  have hu := inB_true hv
  obtain ⟨a1, a2, a3, a4, a5, a6⟩ := sc_bd 1000 hb.1 (by omega) hu
  obtain ⟨b1, b2, b3, b4, b5, b6⟩ := sc_bd 10000 hb.2 (by omega) hu
  go_enter Tryz.func95, Tryz.ntmps95
  go_wp2_with ((go_at_call 53; refine (c_inside _ _ _ _).mono ?_; rintro e w' ⟨rfl, rfl⟩))
  (go_at_call 46; refine (c_isCurve _ _ _).mono ?_; rintro e w1 ⟨rfl, hb1⟩; obtain ⟨hc1, hf1⟩ := bcell hb1; have hz1 := hb1.size; (try simp only [World.size_alloc] at hz1); (try (have hy1 : w.heap.size < w1.heap.size := by omega)); (try (have hx1 := Nat.lt_of_succ_le hz1)); (try (have hv1 := Nat.lt_of_succ_le (Nat.le_of_lt hx1))))
  go_wp2_with ((go_at_call 53; refine (c_inside _ _ _ _).mono ?_; rintro e w' ⟨rfl, rfl⟩))
  (go_at_call 96; refine (c_curveResult _ _ _).mono ?_; rintro e w2 ⟨rfl, hb2⟩; obtain ⟨hc2, hf2⟩ := bcell hb2; have hz2 := hb2.size; (try simp only [World.size_alloc] at hz2); (try (have hy2 : w.heap.size < w2.heap.size := by omega)); (try (have hx2 := Nat.lt_of_succ_le hz2)); (try (have hv2 := Nat.lt_of_succ_le (Nat.le_of_lt hx2))); (try (have hy2_1 : w1.heap.size < w2.heap.size := by omega)))
  go_wp2
  obtain ⟨_, _, q3, q4, _⟩ := (((S9.new2 w (.int .i64 A) (.int .i64 B) (.int .i64 0) (.int .i64 0) 33 33).below hb1)).below hb2
  refine bodyPost_ret (v := .tuple #[.agg #[.int .i64 (rs (curveB (A * v * v * v * v) (B * v * v * v * v * v * v)) (A * v * v * v * v)), .int .i64 (rs (curveB (A * v * v * v * v) (B * v * v * v * v * v * v)) (B * v * v * v * v * v * v))], .bool (curveB (A * v * v * v * v) (B * v * v * v * v * v * v))]) (by simp [results, Tryz.results95, go_sem, q3, q4]) rfl ⟨rfl, ?_⟩
  (repeat' (first | (with_reducible exact Below.refl _ _) | (with_reducible refine below_step (by assumption) ?_ ?_) | (with_reducible refine Below.alloc ?_ ?_ _) | (with_reducible refine Below.setCell ?_ ?_ _) | (with_reducible refine below_drewN ?_ _) | (with_reducible refine Below.drew ?_) | omega | (simp; omega) | (simp; done)))
theorem c_twMake (A B v : Int) (hA : -1000 ≤ A ∧ A ≤ 1000) (hB : -10000 ≤ B ∧ B ≤ 10000) (hv : -30 ≤ v ∧ v ≤ 30) (w : World) :
    Calls Tryz.prog 127 #[.agg #[.int .i64 A, .int .i64 B], .int .i64 v] w fun e w' => e = .returned (.agg #[.int .i64 (A * v * v), .int .i64 (B * v * v * v)]) ∧ Below w.heap.size w w' := by
  obtain ⟨a1, a2, a3⟩ := tw_bd3 1000 hA (by omega) hv
  obtain ⟨b1, b2, b3⟩ := tw_bd3 10000 hB (by omega) hv
  go_enter Tryz.func127, Tryz.ntmps127
  go_wp2
  refine bodyPost_ret (v := .agg #[.int .i64 (A * v * v), .int .i64 (B * v * v * v)]) (by simp [results, Tryz.results127, go_sem]) rfl ⟨rfl, ?_⟩
  (repeat' (first | (with_reducible exact Below.refl _ _) | (with_reducible refine below_step (by assumption) ?_ ?_) | (with_reducible refine Below.alloc ?_ ?_ _) | (with_reducible refine Below.setCell ?_ ?_ _) | (with_reducible refine below_drewN ?_ _) | (with_reducible refine Below.drew ?_) | omega | (simp; omega) | (simp; done)))
theorem c_twOf (A B v : Int) (hA : -1000 ≤ A ∧ A ≤ 1000) (hB : -10000 ≤ B ∧ B ≤ 10000) (hv : -30 ≤ v ∧ v ≤ 30) (w : World) :
    Calls Tryz.prog 113 #[.agg #[.int .i64 A, .int .i64 B], .int .i64 v] w fun e w' => e = .returned (.tuple #[.agg #[.int .i64 (rs (curveB (A * v * v) (B * v * v * v)) (A * v * v)), .int .i64 (rs (curveB (A * v * v) (B * v * v * v)) (B * v * v * v))], .bool (curveB (A * v * v) (B * v * v * v))]) ∧ Below w.heap.size w w' := by
  cases h1 : curveB (A * v * v) (B * v * v * v)
  · go_enter Tryz.func113, Tryz.ntmps113
    go_wp2_with fail
    (go_at_call 127; refine (c_twMake _ _ _ hA hB hv _).mono ?_; rintro e w1 ⟨rfl, hb1⟩; obtain ⟨hc1, hf1⟩ := bcell hb1; have hz1 := hb1.size; (try simp only [World.size_alloc] at hz1); (try (have hy1 : w.heap.size < w1.heap.size := by omega)); (try (have hx1 := Nat.lt_of_succ_le hz1)); (try (have hv1 := Nat.lt_of_succ_le (Nat.le_of_lt hx1))))
    go_wp2_with fail
    (go_at_call 41; refine (c_ecGood _ _ _).mono ?_; rintro e w2 ⟨rfl, hb2⟩; obtain ⟨hc2, hf2⟩ := bcell hb2; have hz2 := hb2.size; (try simp only [World.size_alloc] at hz2); (try (have hy2 : w.heap.size < w2.heap.size := by omega)); (try (have hx2 := Nat.lt_of_succ_le hz2)); (try (have hv2 := Nat.lt_of_succ_le (Nat.le_of_lt hx2))); (try (have hy2_1 : w1.heap.size < w2.heap.size := by omega)))
    go_wp2
    obtain ⟨_, _, q3, q4, _⟩ := (((S9.new2 w (.int .i64 A) (.int .i64 B) (.int .i64 0) (.int .i64 0) 33 33).below hb1).below ((Below.refl _ _).alloc (Nat.le_refl _) _)).below hb2
    refine bodyPost_ret (v := .tuple #[.agg #[.int .i64 0, .int .i64 0], .bool false]) (by simp [results, Tryz.results113, go_sem, q3, q4]) rfl ⟨rfl, ?_⟩
    (repeat' (first | (with_reducible exact Below.refl _ _) | (with_reducible refine below_step (by assumption) ?_ ?_) | (with_reducible refine Below.alloc ?_ ?_ _) | (with_reducible refine Below.setCell ?_ ?_ _) | (with_reducible refine below_drewN ?_ _) | (with_reducible refine Below.drew ?_) | omega | (simp; omega) | (simp; done)))
  · go_enter Tryz.func113, Tryz.ntmps113
    go_wp2_with fail
    (go_at_call 127; refine (c_twMake _ _ _ hA hB hv _).mono ?_; rintro e w1 ⟨rfl, hb1⟩; obtain ⟨hc1, hf1⟩ := bcell hb1; have hz1 := hb1.size; (try simp only [World.size_alloc] at hz1); (try (have hy1 : w.heap.size < w1.heap.size := by omega)); (try (have hx1 := Nat.lt_of_succ_le hz1)); (try (have hv1 := Nat.lt_of_succ_le (Nat.le_of_lt hx1))))
    go_wp2_with fail
    (go_at_call 41; refine (c_ecGood _ _ _).mono ?_; rintro e w2 ⟨rfl, hb2⟩; obtain ⟨hc2, hf2⟩ := bcell hb2; have hz2 := hb2.size; (try simp only [World.size_alloc] at hz2); (try (have hy2 : w.heap.size < w2.heap.size := by omega)); (try (have hx2 := Nat.lt_of_succ_le hz2)); (try (have hv2 := Nat.lt_of_succ_le (Nat.le_of_lt hx2))); (try (have hy2_1 : w1.heap.size < w2.heap.size := by omega)))
    go_wp2
    obtain ⟨_, _, q3, q4, _⟩ := (((S9.new2 w (.int .i64 A) (.int .i64 B) (.int .i64 0) (.int .i64 0) 33 33).below hb1).below ((Below.refl _ _).alloc (Nat.le_refl _) _)).below hb2
    refine bodyPost_ret (v := .tuple #[.agg #[.int .i64 (A * v * v), .int .i64 (B * v * v * v)], .bool true]) (by simp [results, Tryz.results113, go_sem, q3, q4]) rfl ⟨rfl, ?_⟩
    (repeat' (first | (with_reducible exact Below.refl _ _) | (with_reducible refine below_step (by assumption) ?_ ?_) | (with_reducible refine Below.alloc ?_ ?_ _) | (with_reducible refine Below.setCell ?_ ?_ _) | (with_reducible refine below_drewN ?_ _) | (with_reducible refine Below.drew ?_) | omega | (simp; omega) | (simp; done)))
theorem c_twist (A B v : Int) (hA : -1000 ≤ A ∧ A ≤ 1000) (hB : -10000 ≤ B ∧ B ≤ 10000) (hv : -30 ≤ v ∧ v ≤ 30) (w : World) :
    Calls Tryz.prog 97 #[.agg #[.int .i64 A, .int .i64 B], .int .i64 v] w fun e w' => e = .returned (.tuple #[.agg #[.int .i64 (rs (curveB (A * v * v) (B * v * v * v)) (A * v * v)), .int .i64 (rs (curveB (A * v * v) (B * v * v * v)) (B * v * v * v))], .bool (curveB (A * v * v) (B * v * v * v))]) ∧ Below w.heap.size w w' := by
  obtain ⟨a1, a2, a3⟩ := tw_bd3 1000 hA (by omega) hv
  obtain ⟨b1, b2, b3⟩ := tw_bd3 10000 hB (by omega) hv
  go_enter Tryz.func97, Tryz.ntmps97
  go_wp2_with ((go_at_call 96; refine (c_curveResult _ _ _).mono ?_; rintro e w1 ⟨rfl, hb1⟩; obtain ⟨hc1, hf1⟩ := bcell hb1; have hz1 := hb1.size; (try simp only [World.size_alloc] at hz1); (try (have hy1 : w.heap.size < w1.heap.size := by omega)); (try (have hx1 := Nat.lt_of_succ_le hz1)); (try (have hv1 := Nat.lt_of_succ_le (Nat.le_of_lt hx1)))))
  refine bodyPost_ret (v := .tuple #[.agg #[.int .i64 (rs (curveB (A * v * v) (B * v * v * v)) (A * v * v)), .int .i64 (rs (curveB (A * v * v) (B * v * v * v)) (B * v * v * v))], .bool (curveB (A * v * v) (B * v * v * v))]) (by simp [results, Tryz.results97, go_sem, hc1]) rfl ⟨rfl, ?_⟩
  (repeat' (first | (with_reducible exact Below.refl _ _) | (with_reducible refine below_step (by assumption) ?_ ?_) | (with_reducible refine Below.alloc ?_ ?_ _) | (with_reducible refine Below.setCell ?_ ?_ _) | (with_reducible refine below_drewN ?_ _) | (with_reducible refine Below.drew ?_) | omega | (simp; omega) | (simp; done)))
set_option maxHeartbeats 1000000 in
theorem c_sUntwist (A B v : Int) (hC : curveB A B = true) (hT : twistB v = true) (w : World) :
    Calls Tryz.prog 114 #[.agg #[.int .i64 A, .int .i64 B], .int .i64 v] w fun e w' => e = .returned (.tuple #[.agg #[.int .i64 (rs (udB A B v) (A / (v * v))), .int .i64 (rs (udB A B v) (B / (v * v * v)))], .bool (udB A B v)]) ∧ Below w.heap.size w w' := by
  have hb := curveB_of hC
  obtain ⟨hv, hv0⟩ := twistB_of hT
  obtain ⟨z2, z3⟩ := sq_ne hv0
  have s2 := mulb (x := v) (y := v) 30 30 hv hv
  have s3 := mulb (x := v * v) (y := v) 900 30 s2 hv
  have z2' : (v * v == 0) = false := by simpa using z2
  have z3' : (v * v * v == 0) = false := by simpa using z3
  have Hu := Lib.hid (udB_c (A := A) (B := B) (v := v))
  clear hv0
  cases h1 : (A.tmod (v * v) == 0)
  · rw [h1] at Hu
    rw [Hu.out]
    have h1' : (A.tmod (v * v) != 0) = true := by unfold bne; rw [h1]; rfl
    go_enter Tryz.func114, Tryz.ntmps114
    go_wp2_with (first | (go_at_call 41; refine (c_ecGood _ _ _).mono ?_; rintro e w1 ⟨rfl, hb1⟩; obtain ⟨hc1, hf1⟩ := bcell hb1; have hz1 := hb1.size; (try simp only [World.size_alloc] at hz1); (try (have hy1 : w.heap.size < w1.heap.size := by omega)); (try (have hx1 := Nat.lt_of_succ_le hz1)); (try (have hv1 := Nat.lt_of_succ_le (Nat.le_of_lt hx1)))) | (go_at_call 81; refine (c_twGood _ _).mono ?_; rintro e w' ⟨rfl, rfl⟩))
    refine bodyPost_ret (v := .tuple #[.agg #[.int .i64 0, .int .i64 0], .bool false]) (by simp [results, Tryz.results114, go_sem, hc1]) rfl ⟨rfl, ?_⟩
    (repeat' (first | (with_reducible exact Below.refl _ _) | (with_reducible refine below_step (by assumption) ?_ ?_) | (with_reducible refine Below.alloc ?_ ?_ _) | (with_reducible refine Below.setCell ?_ ?_ _) | (with_reducible refine below_drewN ?_ _) | (with_reducible refine Below.drew ?_) | omega | (simp; omega) | (simp; done)))
  · have h1' : (A.tmod (v * v) != 0) = false := by unfold bne; rw [h1]; rfl
    cases h2 : (B.tmod (v * v * v) == 0)
    · rw [h1, h2] at Hu
      rw [Hu.out]
      have h2' : (B.tmod (v * v * v) != 0) = true := by unfold bne; rw [h2]; rfl
      go_enter Tryz.func114, Tryz.ntmps114
      go_wp2_with (first | (go_at_call 41; refine (c_ecGood _ _ _).mono ?_; rintro e w1 ⟨rfl, hb1⟩; obtain ⟨hc1, hf1⟩ := bcell hb1; have hz1 := hb1.size; (try simp only [World.size_alloc] at hz1); (try (have hy1 : w.heap.size < w1.heap.size := by omega)); (try (have hx1 := Nat.lt_of_succ_le hz1)); (try (have hv1 := Nat.lt_of_succ_le (Nat.le_of_lt hx1)))) | (go_at_call 81; refine (c_twGood _ _).mono ?_; rintro e w' ⟨rfl, rfl⟩))
      refine bodyPost_ret (v := .tuple #[.agg #[.int .i64 0, .int .i64 0], .bool false]) (by simp [results, Tryz.results114, go_sem, hc1]) rfl ⟨rfl, ?_⟩
      (repeat' (first | (with_reducible exact Below.refl _ _) | (with_reducible refine below_step (by assumption) ?_ ?_) | (with_reducible refine Below.alloc ?_ ?_ _) | (with_reducible refine Below.setCell ?_ ?_ _) | (with_reducible refine below_drewN ?_ _) | (with_reducible refine Below.drew ?_) | omega | (simp; omega) | (simp; done)))
    · have h2' : (B.tmod (v * v * v) != 0) = false := by unfold bne; rw [h2]; rfl
      have hA0 : A % (v * v) = 0 := by rw [tmod_beq] at h1; simpa using h1
      have hB0 : B % (v * v * v) = 0 := by rw [tmod_beq] at h2; simpa using h2
      have eA := Lib.hid (tdiv_eq hA0)
      have eB := Lib.hid (tdiv_eq hB0)
      have dA := divn_in z2 hb.1 hA0
      have dB := divn_in z3 hb.2 hB0
      rw [← eA.out] at dA
      rw [← eB.out] at dB
      rw [h1, h2] at Hu
      rw [Hu.out]
      clear hA0 hB0
      have hS := S9.new2 w (.int .i64 A) (.int .i64 B) (.int .i64 0) (.int .i64 0) 33 33
      go_enter Tryz.func114, Tryz.ntmps114
      go_wp2_with (first | (go_at_call 41; refine (c_ecGood _ _ _).mono ?_; rintro e w1 ⟨rfl, hb1⟩; obtain ⟨hc1, hf1⟩ := bcell hb1; have hz1 := hb1.size; (try simp only [World.size_alloc] at hz1); (try (have hy1 : w.heap.size < w1.heap.size := by omega)); (try (have hx1 := Nat.lt_of_succ_le hz1)); (try (have hv1 := Nat.lt_of_succ_le (Nat.le_of_lt hx1)))) | (go_at_call 81; refine (c_twGood _ _).mono ?_; rintro e w' ⟨rfl, rfl⟩))
      obtain ⟨q1, q2, q3, q4, q5, q6, q7, q8, q9, q10⟩ := hS.below hb1
      clear hc1 hf1 hz1 hy1 hx1 hb1 hS
      generalize w1 = W at *
      go_region
      all_goals go_wp2
      all_goals
        rw [← eA.out, ← eB.out]
        refine bodyPost_ret (v := .tuple #[.agg #[.int .i64 (A.tdiv (v * v)), .int .i64 (B.tdiv (v * v * v))], .bool true]) (by simp [results, Tryz.results114, go_sem, q3, q4]) rfl ⟨rfl, ?_⟩
        (repeat' (first | (with_reducible exact Below.refl _ _) | (with_reducible refine below_step (by assumption) ?_ ?_) | (with_reducible refine Below.alloc ?_ ?_ _) | (with_reducible refine Below.setCell ?_ ?_ _) | (with_reducible refine below_drewN ?_ _) | (with_reducible refine Below.drew ?_) | omega | (simp; omega) | (simp; done)))
set_option maxHeartbeats 1000000 in
theorem c_iUntwist (A B v : Int) (hC : curveB A B = true) (hT : twistB v = true) (w : World) :
    Calls Tryz.prog 98 #[.agg #[.int .i64 A, .int .i64 B], .int .i64 v] w fun e w' => e = .returned (.tuple #[.agg #[.int .i64 (rs (udB A B v) (A / (v * v))), .int .i64 (rs (udB A B v) (B / (v * v * v)))], .bool (udB A B v)]) ∧ Below w.heap.size w w' := by
  have hb := curveB_of hC
  obtain ⟨hv, hv0⟩ := twistB_of hT
  have HC := fun h => Lib.hid (curveB_ud hv0 hC h)
  obtain ⟨z2, z3⟩ := sq_ne hv0
  have s2 := mulb (x := v) (y := v) 30 30 hv hv
  have s3 := mulb (x := v * v) (y := v) 900 30 s2 hv
  have k2 : IntKind.i64.wrap (v * v) = v * v := by simp (disch := omega) only [IntWalk.i64_in]
  have k3 : IntKind.i64.wrap (v * v * v) = v * v * v := by simp (disch := omega) only [IntWalk.i64_in]
  have z2' : (v * v == 0) = false := by simpa using z2
  have z3' : (v * v * v == 0) = false := by simpa using z3
  have Hu := Lib.hid (udB_c (A := A) (B := B) (v := v))
  clear hv0
  cases h1 : (A.tmod (v * v) == 0)
  · rw [h1] at Hu
    rw [Hu.out]
    have h1' : (A.tmod (v * v) != 0) = true := by unfold bne; rw [h1]; rfl
    go_enter Tryz.func98, Tryz.ntmps98
    go_wp2_with fail
    (go_at_call 46; refine (c_isCurve _ _ _).mono ?_; rintro e w1 ⟨rfl, hb1⟩; obtain ⟨hc1, hf1⟩ := bcell hb1; have hz1 := hb1.size; (try simp only [World.size_alloc] at hz1); (try (have hy1 : w.heap.size < w1.heap.size := by omega)); (try (have hx1 := Nat.lt_of_succ_le hz1)); (try (have hv1 := Nat.lt_of_succ_le (Nat.le_of_lt hx1))))
    go_wp2_with fail
    (go_at_call 80; refine (c_isTwist _ _).mono ?_; rintro e w2 ⟨rfl, hb2⟩; obtain ⟨hc2, hf2⟩ := bcell hb2; have hz2 := hb2.size; (try simp only [World.size_alloc] at hz2); (try (have hy2 : w.heap.size < w2.heap.size := by omega)); (try (have hx2 := Nat.lt_of_succ_le hz2)); (try (have hv2 := Nat.lt_of_succ_le (Nat.le_of_lt hx2))); (try (have hy2_1 : w1.heap.size < w2.heap.size := by omega)))
    go_wp2
    obtain ⟨_, _, q3, q4, _⟩ := ((S9.new2 w (.int .i64 A) (.int .i64 B) (.int .i64 0) (.int .i64 0) 33 33).below hb1).below hb2
    refine bodyPost_ret (v := .tuple #[.agg #[.int .i64 0, .int .i64 0], .bool false]) (by simp [results, Tryz.results98, go_sem, q3, q4]) rfl ⟨rfl, ?_⟩
    (repeat' (first | (with_reducible exact Below.refl _ _) | (with_reducible refine below_step (by assumption) ?_ ?_) | (with_reducible refine Below.alloc ?_ ?_ _) | (with_reducible refine Below.setCell ?_ ?_ _) | (with_reducible refine below_drewN ?_ _) | (with_reducible refine Below.drew ?_) | omega | (simp; omega) | (simp; done)))
  · have h1' : (A.tmod (v * v) != 0) = false := by unfold bne; rw [h1]; rfl
    cases h2 : (B.tmod (v * v * v) == 0)
    · rw [h1, h2] at Hu
      rw [Hu.out]
      have h2' : (B.tmod (v * v * v) != 0) = true := by unfold bne; rw [h2]; rfl
      go_enter Tryz.func98, Tryz.ntmps98
      go_wp2_with fail
      (go_at_call 46; refine (c_isCurve _ _ _).mono ?_; rintro e w1 ⟨rfl, hb1⟩; obtain ⟨hc1, hf1⟩ := bcell hb1; have hz1 := hb1.size; (try simp only [World.size_alloc] at hz1); (try (have hy1 : w.heap.size < w1.heap.size := by omega)); (try (have hx1 := Nat.lt_of_succ_le hz1)); (try (have hv1 := Nat.lt_of_succ_le (Nat.le_of_lt hx1))))
      go_wp2_with fail
      (go_at_call 80; refine (c_isTwist _ _).mono ?_; rintro e w2 ⟨rfl, hb2⟩; obtain ⟨hc2, hf2⟩ := bcell hb2; have hz2 := hb2.size; (try simp only [World.size_alloc] at hz2); (try (have hy2 : w.heap.size < w2.heap.size := by omega)); (try (have hx2 := Nat.lt_of_succ_le hz2)); (try (have hv2 := Nat.lt_of_succ_le (Nat.le_of_lt hx2))); (try (have hy2_1 : w1.heap.size < w2.heap.size := by omega)))
      go_wp2
      obtain ⟨_, _, q3, q4, _⟩ := ((S9.new2 w (.int .i64 A) (.int .i64 B) (.int .i64 0) (.int .i64 0) 33 33).below hb1).below hb2
      refine bodyPost_ret (v := .tuple #[.agg #[.int .i64 0, .int .i64 0], .bool false]) (by simp [results, Tryz.results98, go_sem, q3, q4]) rfl ⟨rfl, ?_⟩
      (repeat' (first | (with_reducible exact Below.refl _ _) | (with_reducible refine below_step (by assumption) ?_ ?_) | (with_reducible refine Below.alloc ?_ ?_ _) | (with_reducible refine Below.setCell ?_ ?_ _) | (with_reducible refine below_drewN ?_ _) | (with_reducible refine Below.drew ?_) | omega | (simp; omega) | (simp; done)))
    · have h2' : (B.tmod (v * v * v) != 0) = false := by unfold bne; rw [h2]; rfl
      have hA0 : A % (v * v) = 0 := by rw [tmod_beq] at h1; simpa using h1
      have hB0 : B % (v * v * v) = 0 := by rw [tmod_beq] at h2; simpa using h2
      have eA := Lib.hid (tdiv_eq hA0)
      have eB := Lib.hid (tdiv_eq hB0)
      have dA := divn_in z2 hb.1 hA0
      have dB := divn_in z3 hb.2 hB0
      rw [h1, h2] at Hu
      have HG := HC Hu.out
      have HG : Hid (curveB (A.tdiv (v * v)) (B.tdiv (v * v * v)) = true) := by rw [eA.out, eB.out]; exact HG
      rw [← eA.out] at dA
      rw [← eB.out] at dB
      rw [Hu.out]
      clear hA0 hB0
      have hS := S9.new2 w (.int .i64 A) (.int .i64 B) (.int .i64 0) (.int .i64 0) 33 33
      rw [← eA.out, ← eB.out]
      go_enter Tryz.func98, Tryz.ntmps98
      go_wp2_with fail
      (go_at_call 46; refine (c_isCurve _ _ _).mono ?_; rintro e w1 ⟨rfl, hb1⟩; obtain ⟨hc1, hf1⟩ := bcell hb1; have hz1 := hb1.size; (try simp only [World.size_alloc] at hz1); (try (have hy1 : w.heap.size < w1.heap.size := by omega)); (try (have hx1 := Nat.lt_of_succ_le hz1)); (try (have hv1 := Nat.lt_of_succ_le (Nat.le_of_lt hx1))))
      go_wp2_with fail
      (go_at_call 80; refine (c_isTwist _ _).mono ?_; rintro e w2 ⟨rfl, hb2⟩; obtain ⟨hc2, hf2⟩ := bcell hb2; have hz2 := hb2.size; (try simp only [World.size_alloc] at hz2); (try (have hy2 : w.heap.size < w2.heap.size := by omega)); (try (have hx2 := Nat.lt_of_succ_le hz2)); (try (have hv2 := Nat.lt_of_succ_le (Nat.le_of_lt hx2))); (try (have hy2_1 : w1.heap.size < w2.heap.size := by omega)))
      go_wp2
      replace hS := (hS.below hb1).below hb2
      clear hc1 hf1 hz1 hy1 hx1 hb1 hc2 hf2 hb2
      have hS' := hS
      obtain ⟨q1, q2, q3, q4, q5, q6, q7, q8, q9, q10⟩ := hS'
      go_region_held3 (fun w' => w'.cell? ⟨w.heap.size, 0, none⟩ = some (.int .i64 A) ∧ w'.cell? ⟨w.heap.size, 1, none⟩ = some (.int .i64 B) ∧ w'.cell? ⟨w.heap.size + 1, 0, none⟩ = some (cellOr w' (w.heap.size + 1) 0) ∧ w'.cell? ⟨w.heap.size + 1, 1, none⟩ = some (cellOr w' (w.heap.size + 1) 1) ∧ w'.frozen? ⟨w.heap.size + 1, 0, none⟩ = false ∧ w'.frozen? ⟨w.heap.size + 1, 1, none⟩ = false ∧ w.heap.size < w.heap.size + 1 ∧ w.heap.size + 1 < w'.heap.size ∧ w.heap.size ≤ w.heap.size ∧ Below w.heap.size w w')
        (first | assumption | (exact S9.drew hS) | (exact S9.drewN (by assumption) _) | (exact S9.drewN (S9.drew hS) _) | (exact S9.set (by assumption) _ _) | (exact S9.below (by assumption) (by assumption)))
        (first
          | (go_at_call 96; refine (c_curveResult _ _ _).mono ?_; rintro e w' ⟨rfl, hb9⟩))
      all_goals go_wp2
      all_goals
        obtain ⟨_, _, q3, q4, _⟩ := (S9.drew hS).below hb9
        simp (disch := omega) only [IntWalk.i64_in]
        refine bodyPost_ret (v := .tuple #[.agg #[.int .i64 (A.tdiv (v * v)), .int .i64 (B.tdiv (v * v * v))], .bool true]) (by simp [results, Tryz.results98, go_sem, q3, q4, HG.out, rs]) rfl ⟨rfl, ?_⟩
        (repeat' (first | (with_reducible exact Below.refl _ _) | (with_reducible refine below_step (by assumption) ?_ ?_) | (with_reducible refine Below.alloc ?_ ?_ _) | (with_reducible refine Below.setCell ?_ ?_ _) | (with_reducible refine below_drewN ?_ _) | (with_reducible refine Below.drew ?_) | omega | (simp; omega) | (simp; done)))
end Go.Proofs.YtpnpidepkfnofaaGreatDoor
