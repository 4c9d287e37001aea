/- Walks: the reference's multiples of a point (ptTimes), up to twice; two products; whether a point is one. -/
import Derived.Test.YtcnfjapoopdiaaaSae
import Derived.Test.YtcnfjapoopdiaaaFrOps
namespace Go.Proofs.Ytcnfjapoopdiaaa
open Go.RowKit

set_option maxRecDepth 100000 in
theorem c_sAddO (A B X1 Y1 X2 Y2 E2 : Int) (w : World) :
    Calls Try.prog 91 #[.agg #[.int .i64 A, .int .i64 B], .agg #[.int .i64 X1, .int .i64 Y1, .int .i64 0], .agg #[.int .i64 X2, .int .i64 Y2, .int .i64 E2]] w fun e w' =>
      e = .returned (spR (some (X2, Y2, E2))) ∧ Below w.heap.size w w' := by
  go_enter Try.func91, Try.ntmps91
  go_wp2
  refine bodyPost_ret (v := .tuple #[.agg #[.int .i64 X2, .int .i64 Y2, .int .i64 E2], .bool true]) (by simp [results, Try.results91, go_sem]) rfl ⟨rfl, ?_⟩
  (repeat' (first | (with_reducible exact Below.refl _ _) | (with_reducible refine below_step (by assumption) ?_ ?_) | (with_reducible refine Below.alloc ?_ ?_ _) | (with_reducible refine Below.setCell ?_ ?_ _) | (with_reducible refine below_drewN ?_ _) | (with_reducible refine Below.drew ?_) | omega | (simp; omega) | (simp; done)))
/-- multiples, up to twice -/
noncomputable def tmV (A X Y E : Int) : Nat → Option (Int × Int × Int)
  | 0 => some (0, 0, 0)
  | 1 => some (X, Y, E)
  | _ => spS A X Y E X Y E
set_option maxHeartbeats 4000000 in
set_option maxRecDepth 100000 in
theorem c_sTimes (A B X Y E n : Int) (hA : -1000 ≤ A ∧ A ≤ 1000) (hp : PtIn X Y E) (hE : 1 ≤ E) (hn : -2 ≤ n ∧ n ≤ 2) (w : World) :
    Calls Try.prog 60 #[.agg #[.int .i64 A, .int .i64 B], .agg #[.int .i64 X, .int .i64 Y, .int .i64 E], .int .i64 n] w fun e w' =>
      e = .returned (spR (tmV A X (if n < 0 then -Y else Y) E n.natAbs)) ∧ Below w.heap.size w w' := by
  have HM := Lib.hid (fun W => c_ptMinus X Y E hp.2.1 W)
  have hY2 : (n < 0 ∧ (if n < 0 then -Y else Y) = -Y) ∨ (0 ≤ n ∧ (if n < 0 then -Y else Y) = Y) := by split <;> omega
  have hp2 : PtIn X (if n < 0 then -Y else Y) E := ⟨hp.1, (by have := hp.2.1; split <;> omega), hp.2.2⟩
  generalize (if n < 0 then -Y else Y) = Z at *
  have HA1 := Lib.hid (fun W => c_sAddO A B 0 0 X Z E W)
  have HA2 := Lib.hid (fun W => c_sAddFin A B X Z E X Z E hA hp2 hp2 hE hE W)
  have kC := ((Blk.new w #[.int .i64 A, .int .i64 B] 49).alloc (.cells #[.int .i64 X, .int .i64 Y, .int .i64 E] 30)).alloc (.cells #[.int .i64 0, .int .i64 0, .int .i64 0] 30)
  have kP := (Blk.new (w.alloc (.cells #[.int .i64 A, .int .i64 B] 49)) #[.int .i64 X, .int .i64 Y, .int .i64 E] 30).alloc (.cells #[.int .i64 0, .int .i64 0, .int .i64 0] 30)
  have kR := Blk.new ((w.alloc (.cells #[.int .i64 A, .int .i64 B] 49)).alloc (.cells #[.int .i64 X, .int .i64 Y, .int .i64 E] 30)) #[.int .i64 0, .int .i64 0, .int .i64 0] 30
  have hb0 : Below w.heap.size w (((w.alloc (.cells #[.int .i64 A, .int .i64 B] 49)).alloc (.cells #[.int .i64 X, .int .i64 Y, .int .i64 E] 30)).alloc (.cells #[.int .i64 0, .int .i64 0, .int .i64 0] 30)) := (((Below.refl _ _).alloc (Nat.le_refl _) _).alloc (by simp) _).alloc (by simp; omega) _
  simp only [World.size_alloc] at kP kR
  generalize hRes : spR (tmV A X Z E n.natAbs) = Res
  have HRes : Hid (spR (tmV A X Z E n.natAbs) = Res) := Lib.hid hRes
  clear hRes hp hp2
  go_enter Try.func60, Try.ntmps60
  go_upto_region 1 with (fail)
  generalize ((w.alloc _).alloc _).alloc _ = W at *
  have h1 : w.heap.size < w.heap.size + 1 := by omega
  have h2 : w.heap.size + 1 < w.heap.size + 1 + 1 := by omega
  generalize w.heap.size + 1 + 1 = rR at *
  generalize w.heap.size + 1 = rP at *
  generalize hrC0 : w.heap.size = rC at *
  have hrC : Hid (w.heap.size = rC) := hrC0
  clear hrC0
  have lR := kR.lt
  have kC0 : (W).cell? ⟨rC, 0, none⟩ = some (.int .i64 A) := kC.cell 0; have kC1 : (W).cell? ⟨rC, 1, none⟩ = some (.int .i64 B) := kC.cell 1; have kCl : rC < (W).heap.size := kC.lt
  have kP0 : (W).cell? ⟨rP, 0, none⟩ = some (.int .i64 X) := kP.cell 0; have kP1 : (W).cell? ⟨rP, 1, none⟩ = some (.int .i64 Y) := kP.cell 1; have kP2 : (W).cell? ⟨rP, 2, none⟩ = some (.int .i64 E) := kP.cell 2; have kPf0 : (W).frozen? ⟨rP, 0, none⟩ = false := kP.frozen 0; have kPf1 : (W).frozen? ⟨rP, 1, none⟩ = false := kP.frozen 1; have kPf2 : (W).frozen? ⟨rP, 2, none⟩ = false := kP.frozen 2; have kPl : rP < (W).heap.size := kP.lt
  go_upto_if 12 with (fail)
  go_cut [2] from 8 (fun s wc => s = .int .i64 (n.natAbs : Int) ∧ Blk rC #[.int .i64 A, .int .i64 B] 49 wc ∧ Blk rP #[.int .i64 X, .int .i64 Z, .int .i64 E] 30 wc ∧ Blk rR #[.int .i64 0, .int .i64 0, .int .i64 0] 30 wc ∧ Below rC w wc)
  case first =>
    rcases hY2 with ⟨hneg, rfl⟩ | ⟨hneg, rfl⟩
    · go_wp2_with fail
      refine (HM.out _).mono ?_
      rintro e w1 ⟨rfl, hb1⟩
      replace kC := kC.next hb1
      replace kP := kP.next hb1
      replace kR := kR.next hb1
      have hb2 := below_step hb1 (Nat.le_trans (by omega) (Nat.le_of_lt lR)) hb0
      clear kC0 kC1 kCl kP0 kP1 kP2 kPf0 kPf1 kPf2 kPl hb1
      have kP0 : (w1).cell? ⟨rP, 0, none⟩ = some (.int .i64 X) := kP.cell 0; have kP1 : (w1).cell? ⟨rP, 1, none⟩ = some (.int .i64 Y) := kP.cell 1; have kP2 : (w1).cell? ⟨rP, 2, none⟩ = some (.int .i64 E) := kP.cell 2; have kPf0 : (w1).frozen? ⟨rP, 0, none⟩ = false := kP.frozen 0; have kPf1 : (w1).frozen? ⟨rP, 1, none⟩ = false := kP.frozen 1; have kPf2 : (w1).frozen? ⟨rP, 2, none⟩ = false := kP.frozen 2; have kPl : rP < (w1).heap.size := kP.lt
      have k9 := ((kP.set 0 (.int .i64 X)).set 1 (.int .i64 (-Y))).set 2 (.int .i64 E)
      have c9 := ((kC.far (p := ⟨rP, 0, none⟩) (by simp; omega) (.int .i64 X)).far (p := ⟨rP, 1, none⟩) (by simp; omega) (.int .i64 (-Y))).far (p := ⟨rP, 2, none⟩) (by simp; omega) (.int .i64 E)
      have r9 := ((kR.far (p := ⟨rP, 0, none⟩) (by simp; omega) (.int .i64 X)).far (p := ⟨rP, 1, none⟩) (by simp; omega) (.int .i64 (-Y))).far (p := ⟨rP, 2, none⟩) (by simp; omega) (.int .i64 E)
      have hb9 : Below rC w (((w1.setCell ⟨rP, 0, none⟩ (.int .i64 X)).setCell ⟨rP, 1, none⟩ (.int .i64 (-Y))).setCell ⟨rP, 2, none⟩ (.int .i64 E)) := ((hb2.setCell (by simp; omega) _).setCell (by simp; omega) _).setCell (by simp; omega) _
      go_wp2
      go_meet
      case rel => exact ⟨by congr 1; omega, c9, k9, r9, hb9⟩
    · go_wp2
      go_meet
      case rel => exact ⟨by congr 1; omega, kC, kP, kR, hb0⟩
  case rest =>
    obtain ⟨rfl, jC, jP, jR, hb⟩ := hcut
    clear kC kP kR kC0 kC1 kCl kP0 kP1 kP2 kPf0 kPf1 kPf2 kPl HM hY2
    have kO := Blk.new wc #[.int .i64 0, .int .i64 0, .int .i64 0] 30
    have lP2 := jP.lt
    have lC2 := jC.lt
    have hCR : rC ≤ rR := by omega
    replace jC := jC.alloc (.cells #[.int .i64 0, .int .i64 0, .int .i64 0] 30)
    replace jP := jP.alloc (.cells #[.int .i64 0, .int .i64 0, .int .i64 0] 30)
    have lR2 := jR.lt
    replace jR := jR.alloc (.cells #[.int .i64 0, .int .i64 0, .int .i64 0] 30)
    replace hb := hb.alloc (show rC ≤ wc.heap.size by omega) (.cells #[.int .i64 0, .int .i64 0, .int .i64 0] 30)
    have hK : n.natAbs ≤ 2 := by omega
    clear hn
    generalize n.natAbs = K at *
    go_upto_region 5 with (fail)
    have hsz : (wc.alloc (.cells #[.int .i64 0, .int .i64 0, .int .i64 0] 30)).heap.size = wc.heap.size + 1 := by simp
    generalize wc.alloc _ = W5 at *
    generalize wc.heap.size = rO at *
    have lP := jP.lt
    have lC := jC.lt
    have lR3 := jR.lt
    clear lR h1 h2 hb0
    have hne1 : rC ≠ rO ∧ rP ≠ rO ∧ rR ≠ rO := by omega
    go_loopw [2] (fun s wr => ∃ (m : Nat) (x y e : Int), s = .int .i64 (m : Int) ∧ m ≤ K ∧ Hid (tmV A X Z E (K - m) = some (x, y, e)) ∧ Blk rO #[.int .i64 x, .int .i64 y, .int .i64 e] 30 wr ∧ Over [rO] W5 wr) (fun s _ => (intOf s).toNat)
    case atStart => exact ⟨K, 0, 0, 0, rfl, Nat.le_refl _, (by show _ = _; rw [Nat.sub_self]; rfl), kO, Over.refl _ _⟩
    case round =>
      obtain ⟨m, x, y, e, rfl, hm, HT, mO, hO⟩ := hrel
      have mC := jC.over hO (by simp; omega)
      have mP := jP.over hO (by simp; omega)
      have mR := jR.over hO (by simp; omega)
      have hbw : Below rC w wr := hO.belowGe hb (by omega) (by simp; omega)
      have hzO := hO.size
      by_cases hm0 : 0 < m
      · obtain ⟨m', rfl⟩ : ∃ m', m = m' + 1 := ⟨m - 1, by omega⟩
        have mC0 : (wr).cell? ⟨rC, 0, none⟩ = some (.int .i64 A) := mC.cell 0; have mC1 : (wr).cell? ⟨rC, 1, none⟩ = some (.int .i64 B) := mC.cell 1; have mCl : rC < (wr).heap.size := mC.lt
        have mP0 : (wr).cell? ⟨rP, 0, none⟩ = some (.int .i64 X) := mP.cell 0; have mP1 : (wr).cell? ⟨rP, 1, none⟩ = some (.int .i64 Z) := mP.cell 1; have mP2 : (wr).cell? ⟨rP, 2, none⟩ = some (.int .i64 E) := mP.cell 2; have mPl : rP < (wr).heap.size := mP.lt
        have mO0 : (wr).cell? ⟨rO, 0, none⟩ = some (.int .i64 x) := mO.cell 0; have mO1 : (wr).cell? ⟨rO, 1, none⟩ = some (.int .i64 y) := mO.cell 1; have mO2 : (wr).cell? ⟨rO, 2, none⟩ = some (.int .i64 e) := mO.cell 2; have mOl : rO < (wr).heap.size := mO.lt
        by_cases hj : K = m' + 1
        · have h0 := HT.out
          rw [show K - (m' + 1) = 0 by omega] at h0
          obtain ⟨rfl, rfl, rfl⟩ : x = 0 ∧ y = 0 ∧ e = 0 := by unfold tmV at h0; simp at h0; omega
          have HN : Hid (tmV A X Z E (K - m') = some (X, Z, E)) := by show _ = _; rw [show K - m' = 1 by omega]; rfl
          clear HT h0
          go_wp2_with fail
          refine (HA1.out _).mono ?_
          rintro e' w1 ⟨rfl, hb1⟩
          simp only [spR]
          have hO1 := hO.next hb1
          have kX := Blk.new w1 #[.int .i64 (X), .int .i64 (Z), .int .i64 (E)] 30
          have nO := (mO.next hb1).alloc (.cells #[.int .i64 (X), .int .i64 (Z), .int .i64 (E)] 30)
          have hO2 := hO1.alloc (.cells #[.int .i64 (X), .int .i64 (Z), .int .i64 (E)] 30)
          clear mC0 mC1 mCl mP0 mP1 mP2 mPl mO0 mO1 mO2 mOl
          go_upto_region 10 with (fail)
          have hne2 : rO ≠ w1.heap.size := by have := hO1.size; omega
          generalize w1.alloc _ = W8 at *
          generalize w1.heap.size = rX at *
          have lX := kX.lt
          have lO := nO.lt
          have kX0 : (W8).cell? ⟨rX, 0, none⟩ = some (.int .i64 (X)) := kX.cell 0; have kX1 : (W8).cell? ⟨rX, 1, none⟩ = some (.int .i64 (Z)) := kX.cell 1; have kX2 : (W8).cell? ⟨rX, 2, none⟩ = some (.int .i64 (E)) := kX.cell 2; have kXl : rX < (W8).heap.size := kX.lt
          have nO0 : (W8).cell? ⟨rO, 0, none⟩ = some (.int .i64 0) := nO.cell 0; have nO1 : (W8).cell? ⟨rO, 1, none⟩ = some (.int .i64 0) := nO.cell 1; have nO2 : (W8).cell? ⟨rO, 2, none⟩ = some (.int .i64 0) := nO.cell 2; have nOf0 : (W8).frozen? ⟨rO, 0, none⟩ = false := nO.frozen 0; have nOf1 : (W8).frozen? ⟨rO, 1, none⟩ = false := nO.frozen 1; have nOf2 : (W8).frozen? ⟨rO, 2, none⟩ = false := nO.frozen 2; have nOl : rO < (W8).heap.size := nO.lt
          have k9 := ((nO.set 0 (.int .i64 (X))).set 1 (.int .i64 (Z))).set 2 (.int .i64 (E))
          have hO9 : Over [rO] W5 (((W8.setCell ⟨rO, 0, none⟩ (.int .i64 (X))).setCell ⟨rO, 1, none⟩ (.int .i64 (Z))).setCell ⟨rO, 2, none⟩ (.int .i64 (E))) := ((hO2.setCell (.inr (by simp)) _).setCell (.inr (by simp)) _).setCell (.inr (by simp)) _
          go_wp2
          go_roundw
          case rel => exact ⟨m', X, Z, E, by go_num, by omega, HN, k9, hO9⟩
          case measure => simp [intOf]
        · have HN0 : Hid (tmV A X Z E (K - m') = spS A X Z E X Z E) := by show _ = _; rw [show K - m' = 2 by omega]; rfl
          have h0 := HT.out
          rw [show K - (m' + 1) = 1 by omega] at h0
          obtain ⟨rfl, rfl, rfl⟩ : X = x ∧ Z = y ∧ E = e := by unfold tmV at h0; simp at h0; omega
          clear HT h0
          go_wp2_with fail
          refine (HA2.out _).mono ?_
          rintro e' w1 ⟨rfl, hb1⟩
          have hm1 : m' = 0 := by omega
          have HR2 : Hid (spR (spS A X Z E X Z E) = Res) := by
            have h := HRes.out
            rw [show K = 2 by omega] at h
            exact h
          cases hs : spS A X Z E X Z E with
          | none =>
            have h := HR2.out
            rw [hs] at h
            simp only [spR] at h
            subst h
            simp only [spR]
            clear HN0 HR2
            have mR1 := mR.next hb1
            have hb2 := below_step hb1 (show rC ≤ wr.heap.size by omega) hbw
            have mR2 := mR1.alloc (.cells #[.int .i64 0, .int .i64 0, .int .i64 0] 30)
            have hb3 := hb2.alloc (show rC ≤ w1.heap.size by have := hb1.size; omega) (.cells #[.int .i64 0, .int .i64 0, .int .i64 0] 30)
            clear mC0 mC1 mCl mP0 mP1 mP2 mPl mO0 mO1 mO2 mOl
            go_upto_region 9 with (fail)
            generalize w1.alloc _ = W8 at *
            have l9 := mR2.lt
            have z0 := (mR2).frozen 0
            have z1 := (mR2).frozen 1
            have z2 := (mR2).frozen 2
            have t0 : (W8).cell? ⟨rR, 0, none⟩ = some (.int .i64 0) := (mR2).cell 0
            have t1 : (W8).cell? ⟨rR, 1, none⟩ = some (.int .i64 0) := (mR2).cell 1
            have t2 : (W8).cell? ⟨rR, 2, none⟩ = some (.int .i64 0) := (mR2).cell 2
            have k9 := (((mR2).set 0 (.int .i64 (0))).set 1 (.int .i64 (0))).set 2 (.int .i64 (0))
            have hB9 : Below rC w ((((W8).setCell ⟨rR, 0, none⟩ (.int .i64 (0))).setCell ⟨rR, 1, none⟩ (.int .i64 (0))).setCell ⟨rR, 2, none⟩ (.int .i64 (0))) := (((hb3).setCell (by simp; omega) _).setCell (by simp; omega) _).setCell (by simp; omega) _
            (repeat (first | go_skip | go_guarded | go_step))
            generalize (World.setCell (World.setCell (World.setCell _ _ _) _ _) _ _) = w9 at k9 hB9 ⊢
            clear t0 t1 t2 z0 z1 z2
            have q0 : w9.cell? ⟨rR, 0, none⟩ = some (.int .i64 (0)) := k9.cell 0
            have q1 : w9.cell? ⟨rR, 1, none⟩ = some (.int .i64 (0)) := k9.cell 1
            have q2 : w9.cell? ⟨rR, 2, none⟩ = some (.int .i64 (0)) := k9.cell 2
            refine bodyPost_ret (v := .tuple #[.agg #[.int .i64 (0), .int .i64 (0), .int .i64 (0)], .bool false]) (by simp [results, Try.results60, go_sem, q0, q1, q2]) rfl ?_
            exact ⟨rfl, hrC.out ▸ hB9⟩
          | some r =>
            obtain ⟨x2, y2, e2⟩ := r
            have HN : Hid (tmV A X Z E (K - m') = some (x2, y2, e2)) := by show _ = _; rw [HN0.out, hs]
            clear HN0 hs HR2
            simp only [spR]
            have hO1 := hO.next hb1
            have kX := Blk.new w1 #[.int .i64 (x2), .int .i64 (y2), .int .i64 (e2)] 30
            have nO := (mO.next hb1).alloc (.cells #[.int .i64 (x2), .int .i64 (y2), .int .i64 (e2)] 30)
            have hO2 := hO1.alloc (.cells #[.int .i64 (x2), .int .i64 (y2), .int .i64 (e2)] 30)
            clear mC0 mC1 mCl mP0 mP1 mP2 mPl mO0 mO1 mO2 mOl
            go_upto_region 10 with (fail)
            have hne2 : rO ≠ w1.heap.size := by have := hO1.size; omega
            generalize w1.alloc _ = W8 at *
            generalize w1.heap.size = rX at *
            have lX := kX.lt
            have lO := nO.lt
            have kX0 : (W8).cell? ⟨rX, 0, none⟩ = some (.int .i64 (x2)) := kX.cell 0; have kX1 : (W8).cell? ⟨rX, 1, none⟩ = some (.int .i64 (y2)) := kX.cell 1; have kX2 : (W8).cell? ⟨rX, 2, none⟩ = some (.int .i64 (e2)) := kX.cell 2; have kXl : rX < (W8).heap.size := kX.lt
            have nO0 : (W8).cell? ⟨rO, 0, none⟩ = some (.int .i64 X) := nO.cell 0; have nO1 : (W8).cell? ⟨rO, 1, none⟩ = some (.int .i64 Z) := nO.cell 1; have nO2 : (W8).cell? ⟨rO, 2, none⟩ = some (.int .i64 E) := nO.cell 2; have nOf0 : (W8).frozen? ⟨rO, 0, none⟩ = false := nO.frozen 0; have nOf1 : (W8).frozen? ⟨rO, 1, none⟩ = false := nO.frozen 1; have nOf2 : (W8).frozen? ⟨rO, 2, none⟩ = false := nO.frozen 2; have nOl : rO < (W8).heap.size := nO.lt
            have k9 := ((nO.set 0 (.int .i64 (x2))).set 1 (.int .i64 (y2))).set 2 (.int .i64 (e2))
            have hO9 : Over [rO] W5 (((W8.setCell ⟨rO, 0, none⟩ (.int .i64 (x2))).setCell ⟨rO, 1, none⟩ (.int .i64 (y2))).setCell ⟨rO, 2, none⟩ (.int .i64 (e2))) := ((hO2.setCell (.inr (by simp)) _).setCell (.inr (by simp)) _).setCell (.inr (by simp)) _
            go_wp2
            go_roundw
            case rel => exact ⟨m', x2, y2, e2, by go_num, by omega, HN, k9, hO9⟩
            case measure => simp [intOf]
      · obtain rfl : m = 0 := by omega
        have h := HRes.out
        rw [show tmV A X Z E K = some (x, y, e) from HT.out] at h
        simp only [spR] at h
        subst h
        clear HT
        have l9 := mR.lt
        have mO0 : (wr).cell? ⟨rO, 0, none⟩ = some (.int .i64 x) := mO.cell 0; have mO1 : (wr).cell? ⟨rO, 1, none⟩ = some (.int .i64 y) := mO.cell 1; have mO2 : (wr).cell? ⟨rO, 2, none⟩ = some (.int .i64 e) := mO.cell 2; have mOl : rO < (wr).heap.size := mO.lt
        go_upto_region 11 with (fail)
        have z0 := (mR).frozen 0
        have z1 := (mR).frozen 1
        have z2 := (mR).frozen 2
        have t0 : (wr).cell? ⟨rR, 0, none⟩ = some (.int .i64 0) := (mR).cell 0
        have t1 : (wr).cell? ⟨rR, 1, none⟩ = some (.int .i64 0) := (mR).cell 1
        have t2 : (wr).cell? ⟨rR, 2, none⟩ = some (.int .i64 0) := (mR).cell 2
        have k9 := (((mR).set 0 (.int .i64 (x))).set 1 (.int .i64 (y))).set 2 (.int .i64 (e))
        have hB9 : Below rC w ((((wr).setCell ⟨rR, 0, none⟩ (.int .i64 (x))).setCell ⟨rR, 1, none⟩ (.int .i64 (y))).setCell ⟨rR, 2, none⟩ (.int .i64 (e))) := (((hbw).setCell (by simp; omega) _).setCell (by simp; omega) _).setCell (by simp; omega) _
        (repeat (first | go_skip | go_guarded | go_step))
        generalize (World.setCell (World.setCell (World.setCell _ _ _) _ _) _ _) = w9 at k9 hB9 ⊢
        clear t0 t1 t2 z0 z1 z2
        have q0 : w9.cell? ⟨rR, 0, none⟩ = some (.int .i64 (x)) := k9.cell 0
        have q1 : w9.cell? ⟨rR, 1, none⟩ = some (.int .i64 (y)) := k9.cell 1
        have q2 : w9.cell? ⟨rR, 2, none⟩ = some (.int .i64 (e)) := k9.cell 2
        refine bodyPost_ret (v := .tuple #[.agg #[.int .i64 (x), .int .i64 (y), .int .i64 (e)], .bool true]) (by simp [results, Try.results60, go_sem, q0, q1, q2]) rfl ?_
        exact ⟨rfl, hrC.out ▸ hB9⟩
end Go.Proofs.Ytcnfjapoopdiaaa
