/- Walks: products of classes (productClass, dsProduct, ProductClass of both sides). -/
import Derived.Test.YtbmcabphjfpkhaaGreatPcA
namespace Go.Proofs.YtbmcabphjfpkhaaGreat
open Go.RowKit

/-- what is known of two small codes and their product -/
theorem pc_facts {x y : Nat} (hx : cdN x ≤ 1000000) (hy : cdN y ≤ 1000000) : ∃ d e g v : Int, cdV x = d ∧ cdV y = e ∧ gcdI d e = g ∧ cdV (x ^^^ y) = v ∧ d.tdiv g * e.tdiv g = v ∧
    (-1000000 ≤ d ∧ d ≤ 1000000) ∧ (-1000000 ≤ e ∧ e ≤ 1000000) ∧ (1 ≤ g ∧ g ≤ 1000000) ∧ (-1000000 ≤ d.tdiv g ∧ d.tdiv g ≤ 1000000) ∧ (-1000000 ≤ e.tdiv g ∧ e.tdiv g ≤ 1000000) ∧ (-1000000000000 ≤ d.tdiv g * e.tdiv g ∧ d.tdiv g * e.tdiv g ≤ 1000000000000) := by
  have hp := pc_cd x y
  have hg := gcdP x y
  have h1 := cdV_abs x
  have h2 := cdV_abs y
  unfold pcV at hp
  have hq : ((cdV x).tdiv (gcdI (cdV x) (cdV y))).natAbs ≤ (cdV x).natAbs := by rw [Int.natAbs_tdiv]; exact Nat.div_le_self _ _
  have hr : ((cdV y).tdiv (gcdI (cdV x) (cdV y))).natAbs ≤ (cdV y).natAbs := by rw [Int.natAbs_tdiv]; exact Nat.div_le_self _ _
  refine ⟨_, _, _, _, rfl, rfl, rfl, rfl, hp, by omega, by omega, by omega, by omega, by omega, ?_⟩
  exact mulb (x := (cdV x).tdiv (gcdI (cdV x) (cdV y))) (y := (cdV y).tdiv (gcdI (cdV x) (cdV y))) 1000000 1000000 (by omega) (by omega)
/-- a product, told -/
def PrP (x y : Nat) (w : World) (e : Ending) (w' : World) : Prop := e = .returned (.tuple #[.int .i64 (if decide (cdN (x ^^^ y) ≤ 1000000) then cdV (x ^^^ y) else 0), .bool (decide (cdN (x ^^^ y) ≤ 1000000))]) ∧ Below w.heap.size w w'
theorem c_productClass (x y : Nat) (lx : x < 512) (ly : y < 512) (hx : cdN x ≤ 1000000) (hy : cdN y ≤ 1000000) (w : World) :
    Calls Tryz.prog 25 #[.int .i64 (cdV x), .int .i64 (cdV y)] w (PrP x y w) := by
  have HC := fun W => c_isClass (cdV (x ^^^ y)) (.inl ⟨_, xor_lt lx ly, rfl⟩) W
  rw [clB_cd (xor_lt lx ly)] at HC
  unfold PrP
  obtain ⟨d, e, g, v, h1, h2, h3, h6, h7, bd, be, bg, bq, br, bqr⟩ := pc_facts hx hy
  rw [h1, h2, h6, ← h7]
  rw [h6, ← h7] at HC
  have hg0 : (g == 0) = false := by simp; omega
  generalize decide (cdN (x ^^^ y) ≤ 1000000) = ok at *
  have HCC := Lib.hid HC
  have HG := Lib.hid (fun W => h3 ▸ c_gcd d e (by omega) (by omega) W)
  clear HC h1 h2 h3 h6 h7
  cases ok
  all_goals
    go_enter Tryz.func25, Tryz.ntmps25
    go_wp2_with ((go_at_call 52; refine (HG.out _).mono ?_; rintro e w' ⟨rfl, kd, rfl⟩))
    go_quiet (fail)
    go_wp2_with fail
    refine (HCC.out _).mono ?_
    rintro e' w2 ⟨rfl, hb2⟩
    go_wp2
    go_ret2
    refine ⟨rfl, ?_⟩
    (repeat' (first | (with_reducible exact Below.refl _ _) | (with_reducible refine below_step (by assumption) ?_ ?_) | (with_reducible refine Below.alloc ?_ ?_ _) | (with_reducible refine Below.setCell ?_ ?_ _) | (with_reducible refine below_drewN ?_ _) | (with_reducible refine Below.drew ?_) | omega | (simp; omega) | (simp; done)))
theorem c_dsProduct (x y : Nat) (hx : cdN x ≤ 1000000) (hy : cdN y ≤ 1000000) (w : World) :
    Calls Tryz.prog 27 #[.int .i64 (cdV x), .int .i64 (cdV y)] w fun e w' => e = .returned (.int .i64 (cdV (x ^^^ y))) ∧ ∃ k, w' = w.drewN k := by
  obtain ⟨d, e, g, v, h1, h2, h3, h6, h7, bd, be, bg, bq, br, bqr⟩ := pc_facts hx hy
  rw [h1, h2, h6, ← h7]
  have hg0 : (g == 0) = false := by simp; omega
  have HG := Lib.hid (fun W => c_bgCommon (d.natAbs : Int) (e.natAbs : Int) (by omega) (by omega) W)
  rw [gcdI_abs, h3] at HG
  clear h1 h2 h3 h6 h7
  go_enter Tryz.func27, Tryz.ntmps27
  go_wp2_with (first | (go_at_call 56; refine (c_l1Abs _ (by omega) _).mono ?_; rintro e w' ⟨rfl, rfl⟩) | (go_at_call 55; refine (HG.out _).mono ?_; rintro e w' ⟨rfl, rfl⟩))
  go_quiet (fail)
  go_wp2
  go_ret
  exact ⟨rfl, _, rfl⟩
/-- may they be multiplied -/
def prB (d e : Int) (x y : Nat) : Bool := clB d && (clB e && decide (cdN (x ^^^ y) ≤ 1000000))
theorem prB_of {x y : Nat} (lx : x < 512) (ly : y < 512) : prB (cdV x) (cdV y) x y = (decide (cdN x ≤ 1000000) && (decide (cdN y ≤ 1000000) && decide (cdN (x ^^^ y) ≤ 1000000))) := by unfold prB; rw [clB_cd lx, clB_cd ly]
/-- the product of two drawn numbers, and whether there is one -/
noncomputable def codeOf (v : Int) : Nat := open Classical in if h : ∃ x, x < 512 ∧ v = cdV x then h.choose else 0
theorem code_of {v : Int} (h : ClsV v) (hc : clB v = true) : codeOf v < 512 ∧ v = cdV (codeOf v) ∧ cdN (codeOf v) ≤ 1000000 := by
  obtain ⟨x, hx, rfl, hN⟩ := clB_yes h hc
  have he : ∃ y, y < 512 ∧ cdV x = cdV y := ⟨x, hx, rfl⟩
  have h1 : codeOf (cdV x) < 512 ∧ cdV x = cdV (codeOf (cdV x)) := by
    unfold codeOf
    rw [dif_pos he]
    exact he.choose_spec
  refine ⟨h1.1, h1.2, ?_⟩
  have h2 := cdV_abs (codeOf (cdV x))
  have h3 := cdV_abs x
  rw [← h1.2, h3] at h2
  omega
noncomputable def ppB (d e : Int) : Bool := clB d && (clB e && decide (cdN (codeOf d ^^^ codeOf e) ≤ 1000000))
noncomputable def ppV (d e : Int) : Int := if ppB d e then cdV (codeOf d ^^^ codeOf e) else 0
/-- what ProductClass answers -/
noncomputable def PcP (d e : Int) (w : World) (en : Ending) (w' : World) : Prop := en = .returned (.tuple #[.int .i64 (ppV d e), .bool (ppB d e)]) ∧ Below w.heap.size w w'
theorem c_iProductClass (d e : Int) (hd : ClsV d) (he : ClsV e) (w : World) : Calls Tryz.prog 6 #[.int .i64 d, .int .i64 e] w (PcP d e w) := by
  unfold PcP
  have H1 := Lib.hid (fun W => c_isClass d hd W)
  have H2 := Lib.hid (fun W => c_isClass e he W)
  cases h1 : clB d
  · have hp : ppB d e = false := by unfold ppB; rw [h1, Bool.false_and]
    have hv : ppV d e = 0 := by unfold ppV; rw [hp, if_neg (by decide)]
    rw [hp, hv]
    rw [h1] at H1
    go_enter Tryz.func6, Tryz.ntmps6
    go_wp2_with fail
    refine (H1.out _).mono ?_
    rintro en w1 ⟨rfl, hb1⟩
    have b1 := hb1
    go_wp2
    go_ret2
    exact ⟨rfl, b1⟩
  · rw [h1] at H1
    cases h2 : clB e
    · have hp : ppB d e = false := by unfold ppB; rw [h1, h2, Bool.false_and, Bool.and_false]
      have hv : ppV d e = 0 := by unfold ppV; rw [hp, if_neg (by decide)]
      rw [hp, hv]
      rw [h2] at H2
      go_enter Tryz.func6, Tryz.ntmps6
      go_wp2_with fail
      refine (H1.out _).mono ?_
      rintro en w1 ⟨rfl, hb1⟩
      have b1 := hb1
      go_wp2_with fail
      refine (H2.out _).mono ?_
      rintro en w2 ⟨rfl, hb2⟩
      have b2 := below_step hb2 b1.size b1
      go_wp2
      go_ret2
      exact ⟨rfl, b2⟩
    · rw [h2] at H2
      obtain ⟨x1, x2, x3⟩ := code_of hd h1
      obtain ⟨y1, y2, y3⟩ := code_of he h2
      have hp : ppB d e = decide (cdN (codeOf d ^^^ codeOf e) ≤ 1000000) := by unfold ppB; rw [h1, h2, Bool.true_and, Bool.true_and]
      have HP := fun W => c_productClass (codeOf d) (codeOf e) x1 y1 x3 y3 W
      unfold PrP at HP
      rw [← x2, ← y2, ← hp] at HP
      have hv : (if ppB d e = true then cdV (codeOf d ^^^ codeOf e) else 0) = ppV d e := by rw [ppV]
      rw [hv] at HP
      have H3 := Lib.hid HP
      clear hp hv HP x1 x2 x3 y1 y2 y3 hd he h1 h2
      generalize ppV d e = v at *
      generalize ppB d e = ok at *
      go_enter Tryz.func6, Tryz.ntmps6
      go_wp2_with fail
      refine (H1.out _).mono ?_
      rintro en w1 ⟨rfl, hb1⟩
      have b1 := hb1
      go_wp2_with fail
      refine (H2.out _).mono ?_
      rintro en w2 ⟨rfl, hb2⟩
      have b2 := below_step hb2 b1.size b1
      go_wp2_with fail
      refine (H3.out _).mono ?_
      rintro en w3 ⟨rfl, hb3⟩
      have b3 := below_step hb3 b2.size b2
      go_wp2
      go_ret2
      exact ⟨rfl, b3⟩
theorem c_sProductClass (d e : Int) (hd : ClsV d) (he : ClsV e) (w : World) : Calls Tryz.prog 7 #[.int .i64 d, .int .i64 e] w (PcP d e w) := by
  unfold PcP
  have H1 := Lib.hid (fun W => c_dsClass d hd W)
  have H2 := Lib.hid (fun W => c_dsClass e he W)
  cases h1 : clB d
  · have hp : ppB d e = false := by unfold ppB; rw [h1, Bool.false_and]
    have hv : ppV d e = 0 := by unfold ppV; rw [hp, if_neg (by decide)]
    rw [hp, hv]
    rw [h1] at H1
    go_enter Tryz.func7, Tryz.ntmps7
    go_wp2_with fail
    refine (H1.out _).mono ?_
    rintro en w1 ⟨rfl, hb1⟩
    have b1 := hb1
    go_wp2
    go_ret2
    exact ⟨rfl, b1⟩
  · rw [h1] at H1
    cases h2 : clB e
    · have hp : ppB d e = false := by unfold ppB; rw [h1, h2, Bool.false_and, Bool.and_false]
      have hv : ppV d e = 0 := by unfold ppV; rw [hp, if_neg (by decide)]
      rw [hp, hv]
      rw [h2] at H2
      go_enter Tryz.func7, Tryz.ntmps7
      go_wp2_with fail
      refine (H1.out _).mono ?_
      rintro en w1 ⟨rfl, hb1⟩
      have b1 := hb1
      go_wp2_with fail
      refine (H2.out _).mono ?_
      rintro en w2 ⟨rfl, hb2⟩
      have b2 := below_step hb2 b1.size b1
      go_wp2
      go_ret2
      exact ⟨rfl, b2⟩
    · rw [h2] at H2
      obtain ⟨x1, x2, x3⟩ := code_of hd h1
      obtain ⟨y1, y2, y3⟩ := code_of he h2
      have hp : ppB d e = decide (cdN (codeOf d ^^^ codeOf e) ≤ 1000000) := by unfold ppB; rw [h1, h2, Bool.true_and, Bool.true_and]
      have HC := fun W => c_dsClass (cdV (codeOf d ^^^ codeOf e)) (.inl ⟨_, xor_lt x1 y1, rfl⟩) W
      rw [clB_cd (xor_lt x1 y1), ← hp] at HC
      have HP := fun W => c_dsProduct (codeOf d) (codeOf e) x3 y3 W
      rw [← x2, ← y2] at HP
      have H3 := Lib.hid HP
      have H4 := Lib.hid HC
      have hv : ppV d e = if ppB d e = true then cdV (codeOf d ^^^ codeOf e) else 0 := by rw [ppV]
      generalize ppV d e = u at *
      generalize cdV (codeOf d ^^^ codeOf e) = v at *
      generalize ppB d e = ok at *
      clear hp HP HC x1 x2 x3 y1 y2 y3 hd he h1 h2
      cases ok
      all_goals simp only [if_true, Bool.false_eq_true, if_false] at hv; subst hv
      · go_enter Tryz.func7, Tryz.ntmps7
        go_wp2_with fail
        refine (H1.out _).mono ?_
        rintro en w1 ⟨rfl, hb1⟩
        have b1 := hb1
        go_wp2_with fail
        refine (H2.out _).mono ?_
        rintro en w2 ⟨rfl, hb2⟩
        have b2 := below_step hb2 b1.size b1
        go_wp2_with fail
        refine (H3.out _).mono ?_
        rintro en w3 ⟨rfl, kd, rfl⟩
        have b3 := below_drewN b2 kd
        go_wp2_with fail
        refine (H4.out _).mono ?_
        rintro en w4 ⟨rfl, hb4⟩
        have b4 := below_step hb4 b3.size b3
        go_wp2
        go_ret2
        exact ⟨rfl, b4⟩
      · go_enter Tryz.func7, Tryz.ntmps7
        go_wp2_with fail
        refine (H1.out _).mono ?_
        rintro en w1 ⟨rfl, hb1⟩
        have b1 := hb1
        go_wp2_with fail
        refine (H2.out _).mono ?_
        rintro en w2 ⟨rfl, hb2⟩
        have b2 := below_step hb2 b1.size b1
        go_wp2_with fail
        refine (H3.out _).mono ?_
        rintro en w3 ⟨rfl, kd, rfl⟩
        have b3 := below_drewN b2 kd
        go_wp2_with fail
        refine (H4.out _).mono ?_
        rintro en w4 ⟨rfl, hb4⟩
        have b4 := below_step hb4 b3.size b3
        go_wp2_with fail
        refine (H3.out _).mono ?_
        rintro en w5 ⟨rfl, kd2, rfl⟩
        have b5 := below_drewN b4 kd2
        go_wp2
        go_ret2
        exact ⟨rfl, b5⟩
end Go.Proofs.YtbmcabphjfpkhaaGreat
