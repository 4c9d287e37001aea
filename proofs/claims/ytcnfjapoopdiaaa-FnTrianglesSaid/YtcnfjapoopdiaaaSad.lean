/- Walks: the reference's sum of two points (ptMinus, ecPart, ptSlope, ptAdd). -/
import Derived.Test.YtcnfjapoopdiaaaFin
import Derived.Test.YtcnfjapoopdiaaaRoot
import Derived.StillTactics
namespace Go.Proofs.Ytcnfjapoopdiaaa
open Go.RowKit

theorem c_ptMinus (X Y E : Int) (hY : -3000000 ≤ Y ∧ Y ≤ 3000000) (w : World) :
    Calls Try.prog 90 #[.agg #[.int .i64 X, .int .i64 Y, .int .i64 E]] w fun e w' => e = .returned (.agg #[.int .i64 X, .int .i64 (-Y), .int .i64 E]) ∧ Below w.heap.size w w' := by
  go_enter Try.func90, Try.ntmps90
  go_wp2
  refine bodyPost_ret (v := .agg #[.int .i64 X, .int .i64 (-Y), .int .i64 E]) (by simp [results, Try.results90, go_sem]) rfl ⟨rfl, ?_⟩
  (repeat' (first | (with_reducible exact Below.refl _ _) | (with_reducible refine below_step (by assumption) ?_ ?_) | (with_reducible refine Below.alloc ?_ ?_ _) | (with_reducible refine Below.setCell ?_ ?_ _) | (with_reducible refine below_drewN ?_ _) | (with_reducible refine Below.drew ?_) | omega | (simp; omega) | (simp; done)))
set_option maxHeartbeats 1000000 in
theorem c_ecPart (n d : Int) (hd : d ≠ 0) (hn : -4000000000000000000 ≤ n ∧ n ≤ 4000000000000000000) (hd' : -4000000000000000000 ≤ d ∧ d ≤ 4000000000000000000) (w : World) :
    Calls Try.prog 103 #[.int .i64 n, .int .i64 d] w fun e w' => e = .returned (.tuple #[.int .i64 (mkN n d), .int .i64 (mkD n d)]) ∧ Below w.heap.size w w' := by
  obtain ⟨f1, f2, f3, f4⟩ := mk_facts hd hn hd'
  have HA := Lib.hid (gcdI_abs n d)
  have f3' : -4000000000000000000 ≤ n.tdiv (mkG n d) ∧ n.tdiv (mkG n d) ≤ 4000000000000000000 := f3
  have f4' : -4000000000000000000 ≤ d.tdiv (mkG n d) ∧ d.tdiv (mkG n d) ≤ 4000000000000000000 := f4
  have f1' : (mkG n d == 0) = false := by simpa using f1
  show Calls Try.prog 103 _ w fun e w' => e = .returned (.tuple #[.int .i64 (n.tdiv (mkG n d)), .int .i64 (d.tdiv (mkG n d))]) ∧ Below w.heap.size w w'
  have hG : (d < 0 ∧ mkG n d = -gcdI n d) ∨ (0 ≤ d ∧ mkG n d = gcdI n d) := by unfold mkG; split <;> omega
  clear hd f3 f4
  generalize mkG n d = g at *
  rcases hG with ⟨hs, hg⟩ | ⟨hs, hg⟩
  all_goals
    go_enter Try.func103, Try.ntmps103
    go_wp2_with (first | (go_at_call 72; refine (c_l1Abs _ (by omega) _).mono ?_; rintro e w' ⟨rfl, rfl⟩) | (go_at_call 71; refine (c_bgCommon _ _ (by omega) (by omega) _).mono ?_; rintro e w' ⟨rfl, rfl⟩; rw [HA.out]))
    rw [← hg]
    clear hg
    have w1 : IntKind.i64.wrap (n.tdiv g) = n.tdiv g := IntWalk.i64_in _ (by omega)
    have w2 : IntKind.i64.wrap (d.tdiv g) = d.tdiv g := IntWalk.i64_in _ (by omega)
    go_still (by kernel_rfl)
    go_wp2
    refine bodyPost_ret (v := .tuple #[.int .i64 (n.tdiv g), .int .i64 (d.tdiv g)]) (by simp [results, Try.results103, go_sem]) rfl ⟨rfl, ?_⟩
    exact (Below.refl w.heap.size w).drew
theorem slE2 {A X1 Y1 E1 X2 Y2 E2 : Int} (h : X1 = X2 ∧ Y1 = Y2 ∧ E1 = E2) : slN A X1 Y1 E1 X2 Y2 E2 = 3 * X1 * X1 + A * E1 * E1 * E1 * E1 ∧ slD X1 Y1 E1 X2 Y2 E2 = 2 * Y1 * E1 := by unfold slN slD; rw [if_pos h, if_pos h]; exact ⟨rfl, rfl⟩
theorem slG2 {A X1 Y1 E1 X2 Y2 E2 : Int} (h : ¬ (X1 = X2 ∧ Y1 = Y2 ∧ E1 = E2)) : slN A X1 Y1 E1 X2 Y2 E2 = Y2 * E1 * E1 * E1 - Y1 * E2 * E2 * E2 ∧ slD X1 Y1 E1 X2 Y2 E2 = E1 * E2 * (X2 * E1 * E1 - X1 * E2 * E2) := by unfold slN slD; rw [if_neg h, if_neg h]; exact ⟨rfl, rfl⟩
/-- the slope's numerator and denominator, in lowest terms -/
def spN (n d : Int) : Int := if d = 0 then 1 else mkN n d
def spD (n d : Int) : Int := if d = 0 then 0 else mkD n d
set_option maxHeartbeats 2000000 in
set_option maxRecDepth 100000 in
theorem c_ptSlope (A B X1 Y1 E1 X2 Y2 E2 : Int) (hA : -1000 ≤ A ∧ A ≤ 1000) (hp : PtIn X1 Y1 E1) (hq : PtIn X2 Y2 E2) (w : World) :
    Calls Try.prog 102 #[.agg #[.int .i64 A, .int .i64 B], .agg #[.int .i64 X1, .int .i64 Y1, .int .i64 E1], .agg #[.int .i64 X2, .int .i64 Y2, .int .i64 E2]] w fun e w' => e = .returned (.tuple #[.int .i64 (spN (slN A X1 Y1 E1 X2 Y2 E2) (slD X1 Y1 E1 X2 Y2 E2)), .int .i64 (spD (slN A X1 Y1 E1 X2 Y2 E2) (slD X1 Y1 E1 X2 Y2 E2))]) ∧ Below w.heap.size w w' := by
  have hb0 : Below w.heap.size w (((w.alloc (.cells #[.int .i64 A, .int .i64 B] 49)).alloc (.cells #[.int .i64 X1, .int .i64 Y1, .int .i64 E1] 30)).alloc (.cells #[.int .i64 X2, .int .i64 Y2, .int .i64 E2] 30)) := (((Below.refl _ _).alloc (Nat.le_refl _) _).alloc (by simp) _).alloc (by simp; omega) _
  obtain ⟨hX1, hY1, hE1⟩ := hp
  obtain ⟨hX2, hY2, hE2⟩ := hq
  obtain ⟨a1, a2, a3, _⟩ := cub_bd 3000000 (x := Y2) (e := E1) (by omega) hE1
  obtain ⟨b1, b2, b3, _⟩ := cub_bd 3000000 (x := Y1) (e := E2) (by omega) hE2
  obtain ⟨c1, c2, _, _⟩ := cub_bd 10000 (x := X2) (e := E1) (by omega) hE1
  obtain ⟨d1, d2, _, _⟩ := cub_bd 10000 (x := X1) (e := E2) (by omega) hE2
  have e1 := mulb (x := E1) (y := E2) 20 20 (by omega) (by omega)
  have e2 := mulb (x := E1 * E2) (y := X2 * E1 * E1 - X1 * E2 * E2) 400 8000000 (by omega) (by omega)
  by_cases h : X1 = X2 ∧ Y1 = Y2 ∧ E1 = E2
  · rw [(slE2 (A := A) h).1, (slE2 (A := A) h).2]
    obtain ⟨rfl, rfl, rfl⟩ := h
    obtain ⟨z1, z2, z3, z4⟩ := cub_bd 1000 (x := A) (e := E1) (by omega) hE1
    have x1 := mulb (x := 3 * X1) (y := X1) 30000 10000 (by omega) (by omega)
    have y1 := mulb (x := 2 * Y1) (y := E1) 6000000 20 (by omega) (by omega)
    by_cases hz : 2 * Y1 * E1 = 0
    · rw [show spN (3 * X1 * X1 + A * E1 * E1 * E1 * E1) (2 * Y1 * E1) = 1 from if_pos hz, show spD (3 * X1 * X1 + A * E1 * E1 * E1 * E1) (2 * Y1 * E1) = 0 from if_pos hz]
      go_enter Try.func102, Try.ntmps102
      go_wp2
      refine bodyPost_ret (v := .tuple #[.int .i64 1, .int .i64 0]) (by simp [results, Try.results102, go_sem]) rfl ⟨rfl, ?_⟩
      (repeat' (first | (with_reducible exact Below.refl _ _) | (with_reducible refine below_step (by assumption) ?_ ?_) | (with_reducible refine Below.alloc ?_ ?_ _) | (with_reducible refine Below.setCell ?_ ?_ _) | (with_reducible refine below_drewN ?_ _) | (with_reducible refine Below.drew ?_) | omega | (simp; omega) | (simp; done)))
    · rw [show spN (3 * X1 * X1 + A * E1 * E1 * E1 * E1) (2 * Y1 * E1) = mkN (3 * X1 * X1 + A * E1 * E1 * E1 * E1) (2 * Y1 * E1) from if_neg hz, show spD (3 * X1 * X1 + A * E1 * E1 * E1 * E1) (2 * Y1 * E1) = mkD (3 * X1 * X1 + A * E1 * E1 * E1 * E1) (2 * Y1 * E1) from if_neg hz]
      have HE := Lib.hid (fun W => c_ecPart (3 * X1 * X1 + A * E1 * E1 * E1 * E1) (2 * Y1 * E1) hz (by omega) (by omega) W)
      go_enter Try.func102, Try.ntmps102
      go_wp2_with fail
      refine (HE.out _).mono ?_
      rintro e w1 ⟨rfl, hb1⟩
      go_wp2
      refine bodyPost_ret (v := .tuple #[.int .i64 (mkN (3 * X1 * X1 + A * E1 * E1 * E1 * E1) (2 * Y1 * E1)), .int .i64 (mkD (3 * X1 * X1 + A * E1 * E1 * E1 * E1) (2 * Y1 * E1))]) (by simp [results, Try.results102, go_sem]) rfl ?_
      exact ⟨rfl, below_step hb1 hb0.size hb0⟩
  · rw [(slG2 (A := A) h).1, (slG2 (A := A) h).2]
    clear hA
    by_cases h1 : X1 = X2
    · subst h1
      by_cases h2 : Y1 = Y2
      · subst h2
        have h3 : ¬ (E1 = E2) := fun k => h ⟨rfl, rfl, k⟩
        clear h
        by_cases hz : E1 * E2 * (X1 * E1 * E1 - X1 * E2 * E2) = 0
        · rw [show spN (Y1 * E1 * E1 * E1 - Y1 * E2 * E2 * E2) (E1 * E2 * (X1 * E1 * E1 - X1 * E2 * E2)) = 1 from if_pos hz, show spD (Y1 * E1 * E1 * E1 - Y1 * E2 * E2 * E2) (E1 * E2 * (X1 * E1 * E1 - X1 * E2 * E2)) = 0 from if_pos hz]
          go_enter Try.func102, Try.ntmps102
          go_wp2
          refine bodyPost_ret (v := .tuple #[.int .i64 1, .int .i64 0]) (by simp [results, Try.results102, go_sem]) rfl ⟨rfl, ?_⟩
          (repeat' (first | (with_reducible exact Below.refl _ _) | (with_reducible refine below_step (by assumption) ?_ ?_) | (with_reducible refine Below.alloc ?_ ?_ _) | (with_reducible refine Below.setCell ?_ ?_ _) | (with_reducible refine below_drewN ?_ _) | (with_reducible refine Below.drew ?_) | omega | (simp; omega) | (simp; done)))
        · rw [show spN (Y1 * E1 * E1 * E1 - Y1 * E2 * E2 * E2) (E1 * E2 * (X1 * E1 * E1 - X1 * E2 * E2)) = mkN (Y1 * E1 * E1 * E1 - Y1 * E2 * E2 * E2) (E1 * E2 * (X1 * E1 * E1 - X1 * E2 * E2)) from if_neg hz, show spD (Y1 * E1 * E1 * E1 - Y1 * E2 * E2 * E2) (E1 * E2 * (X1 * E1 * E1 - X1 * E2 * E2)) = mkD (Y1 * E1 * E1 * E1 - Y1 * E2 * E2 * E2) (E1 * E2 * (X1 * E1 * E1 - X1 * E2 * E2)) from if_neg hz]
          have HE := Lib.hid (fun W => c_ecPart (Y1 * E1 * E1 * E1 - Y1 * E2 * E2 * E2) (E1 * E2 * (X1 * E1 * E1 - X1 * E2 * E2)) hz (by omega) (by omega) W)
          go_enter Try.func102, Try.ntmps102
          go_wp2_with fail
          refine (HE.out _).mono ?_
          rintro e w1 ⟨rfl, hb1⟩
          go_wp2
          refine bodyPost_ret (v := .tuple #[.int .i64 (mkN (Y1 * E1 * E1 * E1 - Y1 * E2 * E2 * E2) (E1 * E2 * (X1 * E1 * E1 - X1 * E2 * E2))), .int .i64 (mkD (Y1 * E1 * E1 * E1 - Y1 * E2 * E2 * E2) (E1 * E2 * (X1 * E1 * E1 - X1 * E2 * E2)))]) (by simp [results, Try.results102, go_sem]) rfl ?_
          exact ⟨rfl, below_step hb1 hb0.size hb0⟩
      · clear h
        by_cases hz : E1 * E2 * (X1 * E1 * E1 - X1 * E2 * E2) = 0
        · rw [show spN (Y2 * E1 * E1 * E1 - Y1 * E2 * E2 * E2) (E1 * E2 * (X1 * E1 * E1 - X1 * E2 * E2)) = 1 from if_pos hz, show spD (Y2 * E1 * E1 * E1 - Y1 * E2 * E2 * E2) (E1 * E2 * (X1 * E1 * E1 - X1 * E2 * E2)) = 0 from if_pos hz]
          go_enter Try.func102, Try.ntmps102
          go_wp2
          refine bodyPost_ret (v := .tuple #[.int .i64 1, .int .i64 0]) (by simp [results, Try.results102, go_sem]) rfl ⟨rfl, ?_⟩
          (repeat' (first | (with_reducible exact Below.refl _ _) | (with_reducible refine below_step (by assumption) ?_ ?_) | (with_reducible refine Below.alloc ?_ ?_ _) | (with_reducible refine Below.setCell ?_ ?_ _) | (with_reducible refine below_drewN ?_ _) | (with_reducible refine Below.drew ?_) | omega | (simp; omega) | (simp; done)))
        · rw [show spN (Y2 * E1 * E1 * E1 - Y1 * E2 * E2 * E2) (E1 * E2 * (X1 * E1 * E1 - X1 * E2 * E2)) = mkN (Y2 * E1 * E1 * E1 - Y1 * E2 * E2 * E2) (E1 * E2 * (X1 * E1 * E1 - X1 * E2 * E2)) from if_neg hz, show spD (Y2 * E1 * E1 * E1 - Y1 * E2 * E2 * E2) (E1 * E2 * (X1 * E1 * E1 - X1 * E2 * E2)) = mkD (Y2 * E1 * E1 * E1 - Y1 * E2 * E2 * E2) (E1 * E2 * (X1 * E1 * E1 - X1 * E2 * E2)) from if_neg hz]
          have HE := Lib.hid (fun W => c_ecPart (Y2 * E1 * E1 * E1 - Y1 * E2 * E2 * E2) (E1 * E2 * (X1 * E1 * E1 - X1 * E2 * E2)) hz (by omega) (by omega) W)
          go_enter Try.func102, Try.ntmps102
          go_wp2_with fail
          refine (HE.out _).mono ?_
          rintro e w1 ⟨rfl, hb1⟩
          go_wp2
          refine bodyPost_ret (v := .tuple #[.int .i64 (mkN (Y2 * E1 * E1 * E1 - Y1 * E2 * E2 * E2) (E1 * E2 * (X1 * E1 * E1 - X1 * E2 * E2))), .int .i64 (mkD (Y2 * E1 * E1 * E1 - Y1 * E2 * E2 * E2) (E1 * E2 * (X1 * E1 * E1 - X1 * E2 * E2)))]) (by simp [results, Try.results102, go_sem]) rfl ?_
          exact ⟨rfl, below_step hb1 hb0.size hb0⟩
    · clear h
      by_cases hz : E1 * E2 * (X2 * E1 * E1 - X1 * E2 * E2) = 0
      · rw [show spN (Y2 * E1 * E1 * E1 - Y1 * E2 * E2 * E2) (E1 * E2 * (X2 * E1 * E1 - X1 * E2 * E2)) = 1 from if_pos hz, show spD (Y2 * E1 * E1 * E1 - Y1 * E2 * E2 * E2) (E1 * E2 * (X2 * E1 * E1 - X1 * E2 * E2)) = 0 from if_pos hz]
        go_enter Try.func102, Try.ntmps102
        go_wp2
        refine bodyPost_ret (v := .tuple #[.int .i64 1, .int .i64 0]) (by simp [results, Try.results102, go_sem]) rfl ⟨rfl, ?_⟩
        (repeat' (first | (with_reducible exact Below.refl _ _) | (with_reducible refine below_step (by assumption) ?_ ?_) | (with_reducible refine Below.alloc ?_ ?_ _) | (with_reducible refine Below.setCell ?_ ?_ _) | (with_reducible refine below_drewN ?_ _) | (with_reducible refine Below.drew ?_) | omega | (simp; omega) | (simp; done)))
      · rw [show spN (Y2 * E1 * E1 * E1 - Y1 * E2 * E2 * E2) (E1 * E2 * (X2 * E1 * E1 - X1 * E2 * E2)) = mkN (Y2 * E1 * E1 * E1 - Y1 * E2 * E2 * E2) (E1 * E2 * (X2 * E1 * E1 - X1 * E2 * E2)) from if_neg hz, show spD (Y2 * E1 * E1 * E1 - Y1 * E2 * E2 * E2) (E1 * E2 * (X2 * E1 * E1 - X1 * E2 * E2)) = mkD (Y2 * E1 * E1 * E1 - Y1 * E2 * E2 * E2) (E1 * E2 * (X2 * E1 * E1 - X1 * E2 * E2)) from if_neg hz]
        have HE := Lib.hid (fun W => c_ecPart (Y2 * E1 * E1 * E1 - Y1 * E2 * E2 * E2) (E1 * E2 * (X2 * E1 * E1 - X1 * E2 * E2)) hz (by omega) (by omega) W)
        go_enter Try.func102, Try.ntmps102
        go_wp2_with fail
        refine (HE.out _).mono ?_
        rintro e w1 ⟨rfl, hb1⟩
        go_wp2
        refine bodyPost_ret (v := .tuple #[.int .i64 (mkN (Y2 * E1 * E1 * E1 - Y1 * E2 * E2 * E2) (E1 * E2 * (X2 * E1 * E1 - X1 * E2 * E2))), .int .i64 (mkD (Y2 * E1 * E1 * E1 - Y1 * E2 * E2 * E2) (E1 * E2 * (X2 * E1 * E1 - X1 * E2 * E2)))]) (by simp [results, Try.results102, go_sem]) rfl ?_
        exact ⟨rfl, below_step hb1 hb0.size hb0⟩
end Go.Proofs.Ytcnfjapoopdiaaa
