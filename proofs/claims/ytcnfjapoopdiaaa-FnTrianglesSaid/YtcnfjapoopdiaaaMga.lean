/- Several texts joined: Fst Scf Trr Form. -/
import Derived.Test.YtcnfjapoopdiaaaMgd
import Derived.Deep.Cut
import Derived.Test.YtcnfjapoopdiaaaTrq
import Derived.Test.YtcnfjapoopdiaaaMge
import Derived.Test.YtcnfjapoopdiaaaMgg
import Derived.Test.YtcnfjapoopdiaaaFac
/- Fst -/
namespace Go.Proofs.Ytcnfjapoopdiaaa
open Go.RowKit

/-- no similar triangle ahead of u, v -/
def NoS (n u v : Int) : Prop := ∀ u' v', 1 ≤ v' → v' < u' → (u' < u ∨ (u' = u ∧ v' < v)) → scB n u' v' = false
theorem NoS.start (n u : Int) (hu : u ≤ 2) : NoS n u 1 := fun u' v' h1 h2 h3 => by omega
theorem NoS.next {n u v : Int} (h : NoS n u v) (hs : scB n u v = false) : NoS n u (v + 1) := fun u' v' h1 h2 h3 => by
  by_cases h4 : u' < u ∨ (u' = u ∧ v' < v)
  · exact h u' v' h1 h2 h4
  · obtain rfl : u' = u := by omega
    obtain rfl : v' = v := by omega
    exact hs
theorem NoS.row {n u v : Int} (h : NoS n u v) (hv : u ≤ v) : NoS n (u + 1) 1 := fun u' v' h1 h2 h3 => by
  by_cases h4 : u' < u
  · exact h u' v' h1 h2 (.inl h4)
  · exact h u' v' h1 h2 (by omega)
def Fst (n m : Int) (p : Int × Int) : Prop := (1 ≤ p.2 ∧ p.2 < p.1 ∧ p.1 ≤ m) ∧ scB n p.1 p.2 = true ∧ NoS n p.1 p.2
theorem Fst.uniq {n m : Int} {p q : Int × Int} (h : Fst n m p) (k : Fst n m q) : p = q := by
  obtain ⟨⟨h1, h2, _⟩, h3, h4⟩ := h
  obtain ⟨⟨k1, k2, _⟩, k3, k4⟩ := k
  by_cases a : q.1 < p.1 ∨ (q.1 = p.1 ∧ q.2 < p.2)
  · have := h4 q.1 q.2 k1 k2 a; rw [this] at k3; cases k3
  · by_cases b : p.1 < q.1 ∨ (p.1 = q.1 ∧ p.2 < q.2)
    · have := k4 p.1 p.2 h1 h2 b; rw [this] at h3; cases h3
    · obtain ⟨p1, p2⟩ := p
      obtain ⟨q1, q2⟩ := q
      simp only at a b
      have e1 : p1 = q1 := by omega
      have e2 : p2 = q2 := by omega
      rw [e1, e2]
open Classical in
noncomputable def ftB (n m : Int) : Bool := decide (∃ p, Fst n m p)
open Classical in
noncomputable def ftV (n m : Int) : Value := if h : ∃ p, Fst n m p then scT n (Classical.choose h).1 (Classical.choose h).2 else tri0
theorem ft_yes {n m u v : Int} (h : Fst n m (u, v)) : ftB n m = true ∧ ftV n m = scT n u v := by
  have he : ∃ p, Fst n m p := ⟨_, h⟩
  refine ⟨by unfold ftB; simpa using he, ?_⟩
  unfold ftV
  rw [dif_pos he, Fst.uniq (Classical.choose_spec he) h]
theorem ft_no {n m : Int} (h : NoS n (m + 1) 1) : ftB n m = false ∧ ftV n m = tri0 := by
  have he : ¬ ∃ p, Fst n m p := fun ⟨p, ⟨h1, h2, h3⟩, h4, _⟩ => by
    have := h p.1 p.2 h1 h2 (by omega)
    rw [this] at h4; cases h4
  refine ⟨by unfold ftB; simpa using he, ?_⟩
  unfold ftV
  rw [dif_neg he]
theorem ftPost1 {w w' : World} {n m u v p1 p2 p3 p4 p5 p6 : Int} (h : Fst n m (u, v)) (hV : scV n u v = .agg #[.int .i64 p1, .int .i64 p2, .int .i64 p3, .int .i64 p4, .int .i64 p5, .int .i64 p6]) (hb : Below w.heap.size w w') : TriPost w (ftV n m) (ftB n m) (.returned (.tuple #[.agg #[.int .i64 p1, .int .i64 p2, .int .i64 p3, .int .i64 p4, .int .i64 p5, .int .i64 p6], .bool true])) w' := by
  obtain ⟨h1, h2⟩ := ft_yes h
  have : scT n u v = .agg #[.int .i64 p1, .int .i64 p2, .int .i64 p3, .int .i64 p4, .int .i64 p5, .int .i64 p6] := by
    have h3 : scB n u v = true := h.2.1
    unfold scV at hV; rw [h3] at hV; exact hV
  rw [h1, h2, this]; exact ⟨rfl, hb⟩
theorem ftPost0 {w w' : World} {n m : Int} (h : NoS n (m + 1) 1) (hb : Below w.heap.size w w') : TriPost w (ftV n m) (ftB n m) (.returned (.tuple #[.agg #[.int .i64 0, .int .i64 0, .int .i64 0, .int .i64 0, .int .i64 0, .int .i64 0], .bool false])) w' := by
  obtain ⟨h1, h2⟩ := ft_no h
  rw [h1, h2]; exact ⟨rfl, hb⟩
theorem ftV_form (n m : Int) : ∃ p q r s t u' : Int, ftV n m = .agg #[.int .i64 p, .int .i64 q, .int .i64 r, .int .i64 s, .int .i64 t, .int .i64 u'] := by
  unfold ftV
  split
  · exact ordV_form _ _ _ _ _ _
  · exact ⟨0, 0, 0, 0, 0, 0, rfl⟩
set_option maxHeartbeats 400000 in
theorem c_cnFirst (n m : Int) (hn : 1 ≤ n ∧ n ≤ 31) (hm : 2 ≤ m ∧ m ≤ 100) (w : World) :
    Calls Try.prog 88 #[.int .i64 n, .int .i64 m] w (TriPost w (ftV n m) (ftB n m)) := by
  have kT := Blk.new w #[.int .i64 0, .int .i64 0, .int .i64 0, .int .i64 0, .int .i64 0, .int .i64 0] 27
  have hb0 : Below w.heap.size w (w.alloc (.cells #[.int .i64 0, .int .i64 0, .int .i64 0, .int .i64 0, .int .i64 0, .int .i64 0] 27)) := by (repeat' (first | (with_reducible exact Below.refl _ _) | (with_reducible refine below_step (by assumption) ?_ ?_) | (with_reducible refine Below.alloc ?_ ?_ _) | (with_reducible refine Below.setCell ?_ ?_ _) | (with_reducible refine below_drewN ?_ _) | (with_reducible refine Below.drew ?_) | omega | (simp; omega) | (simp; done)))
  go_enter Try.func88, Try.ntmps88
  go_wp2
  generalize w.alloc _ = W at *
  go_loopw [6] (fun x wr => ∃ u : Int, x = .int .i64 u ∧ (2 ≤ u ∧ u ≤ m + 1) ∧ Hid (NoS n u 1) ∧ Blk w.heap.size #[.int .i64 0, .int .i64 0, .int .i64 0, .int .i64 0, .int .i64 0, .int .i64 0] 27 wr ∧ Below w.heap.size w wr) (fun x _ => (m + 1 - intOf x).toNat)
  case atStart => exact ⟨2, rfl, by omega, NoS.start n 2 (by omega), kT, hb0⟩
  case round =>
    clear kT hb0
    obtain ⟨u, rfl, hu, HN, kT, hB⟩ := hrel
    by_cases hum : u ≤ m
    · obtain ⟨wo, rfl⟩ : ∃ wo : World, wo = wr := ⟨_, rfl⟩
      go_wp2
      go_loopw [7] (fun x wr => ∃ v : Int, x = .int .i64 v ∧ (1 ≤ v ∧ v ≤ u) ∧ Hid (NoS n u v) ∧ Blk w.heap.size #[.int .i64 0, .int .i64 0, .int .i64 0, .int .i64 0, .int .i64 0, .int .i64 0] 27 wr ∧ Below w.heap.size w wr) (fun x _ => (u - intOf x).toNat)
      case atStart => exact ⟨1, rfl, by omega, HN, kT, hB⟩
      case round =>
        clear HN kT hB
        obtain ⟨v, rfl, hv, HN, kT, hB⟩ := hrel
        have hs := hB.size
        by_cases hvu : v < u
        · obtain ⟨p1, p2, p3, p4, p5, p6, hf⟩ := scV_form n u v
          have HF := Lib.hid hf
          have hc := fun w => c_cnScaled n u v hn (by omega) (by omega) w
          rw [hf] at hc
          cases hb : scB n u v
          · have HN2 := Lib.hid (HN.out.next hb)
            rw [hb] at hc
            have HC := Lib.hid hc
            clear hc hf hb
            go_wp2_with fail
            refine (HC.out _).mono ?_
            rintro e w2 ⟨rfl, hb2⟩
            have kT2 := (kT.next hb2).alloc (.cells #[.int .i64 p1, .int .i64 p2, .int .i64 p3, .int .i64 p4, .int .i64 p5, .int .i64 p6] 27)
            have hz2 := hb2.size
            have hB2 : Below w.heap.size w (w2.alloc (.cells #[.int .i64 p1, .int .i64 p2, .int .i64 p3, .int .i64 p4, .int .i64 p5, .int .i64 p6] 27)) := by (repeat' (first | (with_reducible exact Below.refl _ _) | (with_reducible refine below_step (by assumption) ?_ ?_) | (with_reducible refine Below.alloc ?_ ?_ _) | (with_reducible refine Below.setCell ?_ ?_ _) | (with_reducible refine below_drewN ?_ _) | (with_reducible refine Below.drew ?_) | omega | (simp; omega) | (simp; done)))
            go_wp2
            go_roundw
            case rel => exact ⟨v + 1, rfl, by omega, HN2, kT2, hB2⟩
            case measure => simp [intOf]; omega
          · have hF : Fst n m (u, v) := ⟨⟨hv.1, hvu, hum⟩, hb, HN.out⟩
            have HFST := Lib.hid hF
            clear hF
            rw [hb] at hc
            have HC := Lib.hid hc
            clear hc hf hb
            go_wp2_with fail
            refine (HC.out _).mono ?_
            rintro e w2 ⟨rfl, hb2⟩
            have kT2 := kT.next hb2
            have kN := Blk.new w2 #[.int .i64 p1, .int .i64 p2, .int .i64 p3, .int .i64 p4, .int .i64 p5, .int .i64 p6] 27
            have hB2 : Below w.heap.size w w2 := below_step hb2 hs hB
            have hs2 := hB2.size
            have kT3 := kT2.alloc (.cells #[.int .i64 p1, .int .i64 p2, .int .i64 p3, .int .i64 p4, .int .i64 p5, .int .i64 p6] 27)
            have hB3 : Below w.heap.size w (w2.alloc (.cells #[.int .i64 p1, .int .i64 p2, .int .i64 p3, .int .i64 p4, .int .i64 p5, .int .i64 p6] 27)) := by (repeat' (first | (with_reducible exact Below.refl _ _) | (with_reducible refine below_step (by assumption) ?_ ?_) | (with_reducible refine Below.alloc ?_ ?_ _) | (with_reducible refine Below.setCell ?_ ?_ _) | (with_reducible refine below_drewN ?_ _) | (with_reducible refine Below.drew ?_) | omega | (simp; omega) | (simp; done)))
            go_upto_region 9 with (fail)
            generalize w2.alloc _ = W3 at *
            have kT30 : (W3).cell? ⟨w.heap.size, 0, none⟩ = some (.int .i64 0) := kT3.cell 0; have kT31 : (W3).cell? ⟨w.heap.size, 1, none⟩ = some (.int .i64 0) := kT3.cell 1; have kT32 : (W3).cell? ⟨w.heap.size, 2, none⟩ = some (.int .i64 0) := kT3.cell 2; have kT33 : (W3).cell? ⟨w.heap.size, 3, none⟩ = some (.int .i64 0) := kT3.cell 3; have kT34 : (W3).cell? ⟨w.heap.size, 4, none⟩ = some (.int .i64 0) := kT3.cell 4; have kT35 : (W3).cell? ⟨w.heap.size, 5, none⟩ = some (.int .i64 0) := kT3.cell 5; have kT3f0 : (W3).frozen? ⟨w.heap.size, 0, none⟩ = false := kT3.frozen 0; have kT3f1 : (W3).frozen? ⟨w.heap.size, 1, none⟩ = false := kT3.frozen 1; have kT3f2 : (W3).frozen? ⟨w.heap.size, 2, none⟩ = false := kT3.frozen 2; have kT3f3 : (W3).frozen? ⟨w.heap.size, 3, none⟩ = false := kT3.frozen 3; have kT3f4 : (W3).frozen? ⟨w.heap.size, 4, none⟩ = false := kT3.frozen 4; have kT3f5 : (W3).frozen? ⟨w.heap.size, 5, none⟩ = false := kT3.frozen 5; have kT3l : w.heap.size < (W3).heap.size := kT3.lt
            have kN0 : (W3).cell? ⟨w2.heap.size, 0, none⟩ = some (.int .i64 p1) := kN.cell 0; have kN1 : (W3).cell? ⟨w2.heap.size, 1, none⟩ = some (.int .i64 p2) := kN.cell 1; have kN2 : (W3).cell? ⟨w2.heap.size, 2, none⟩ = some (.int .i64 p3) := kN.cell 2; have kN3 : (W3).cell? ⟨w2.heap.size, 3, none⟩ = some (.int .i64 p4) := kN.cell 3; have kN4 : (W3).cell? ⟨w2.heap.size, 4, none⟩ = some (.int .i64 p5) := kN.cell 4; have kN5 : (W3).cell? ⟨w2.heap.size, 5, none⟩ = some (.int .i64 p6) := kN.cell 5; have kNl : w2.heap.size < (W3).heap.size := kN.lt
            go_wp2
            have R := ((((((kT3.set 0 (.int .i64 p1)).set 1 (.int .i64 p2)).set 2 (.int .i64 p3)).set 3 (.int .i64 p4)).set 4 (.int .i64 p5)).set 5 (.int .i64 p6))
            have hR : Below w.heap.size w ((((((W3.setCell ⟨w.heap.size, 0, none⟩ (.int .i64 p1)).setCell ⟨w.heap.size, 1, none⟩ (.int .i64 p2)).setCell ⟨w.heap.size, 2, none⟩ (.int .i64 p3)).setCell ⟨w.heap.size, 3, none⟩ (.int .i64 p4)).setCell ⟨w.heap.size, 4, none⟩ (.int .i64 p5)).setCell ⟨w.heap.size, 5, none⟩ (.int .i64 p6)) := by (repeat' (first | (with_reducible exact Below.refl _ _) | (with_reducible refine below_step (by assumption) ?_ ?_) | (with_reducible refine Below.alloc ?_ ?_ _) | (with_reducible refine Below.setCell ?_ ?_ _) | (with_reducible refine below_drewN ?_ _) | (with_reducible refine Below.drew ?_) | omega | (simp; omega) | (simp; done)))
            simp only [List.setIfInBounds_toArray, List.set_cons_zero, List.set_cons_succ] at R
            clear kT3 kT30 kT31 kT32 kT33 kT34 kT35 kT3f0 kT3f1 kT3f2 kT3f3 kT3f4 kT3f5 kT3l
            generalize ((((((W3.setCell ⟨w.heap.size, 0, none⟩ (.int .i64 p1)).setCell ⟨w.heap.size, 1, none⟩ (.int .i64 p2)).setCell ⟨w.heap.size, 2, none⟩ (.int .i64 p3)).setCell ⟨w.heap.size, 3, none⟩ (.int .i64 p4)).setCell ⟨w.heap.size, 4, none⟩ (.int .i64 p5)).setCell ⟨w.heap.size, 5, none⟩ (.int .i64 p6)) = W9 at R hR ⊢
            have R0 : (W9).cell? ⟨w.heap.size, 0, none⟩ = some (.int .i64 p1) := R.cell 0; have R1 : (W9).cell? ⟨w.heap.size, 1, none⟩ = some (.int .i64 p2) := R.cell 1; have R2 : (W9).cell? ⟨w.heap.size, 2, none⟩ = some (.int .i64 p3) := R.cell 2; have R3 : (W9).cell? ⟨w.heap.size, 3, none⟩ = some (.int .i64 p4) := R.cell 3; have R4 : (W9).cell? ⟨w.heap.size, 4, none⟩ = some (.int .i64 p5) := R.cell 4; have R5 : (W9).cell? ⟨w.heap.size, 5, none⟩ = some (.int .i64 p6) := R.cell 5; have Rl : w.heap.size < (W9).heap.size := R.lt
            refine bodyPost_ret (v := .tuple #[.agg #[.int .i64 p1, .int .i64 p2, .int .i64 p3, .int .i64 p4, .int .i64 p5, .int .i64 p6], .bool true]) (by simp [results, Try.results88, go_sem, R0, R1, R2, R3, R4, R5]) rfl ?_
            exact ftPost1 HFST.out HF.out hR
        · have HN2 := Lib.hid (HN.out.row (by omega))
          go_wp2
          go_roundw
          case rel => exact ⟨u + 1, rfl, by omega, HN2, kT, hB⟩
          case measure => simp [intOf]; omega
    · obtain rfl : u = m + 1 := by omega
      have kT0 : (wr).cell? ⟨w.heap.size, 0, none⟩ = some (.int .i64 0) := kT.cell 0; have kT1 : (wr).cell? ⟨w.heap.size, 1, none⟩ = some (.int .i64 0) := kT.cell 1; have kT2 : (wr).cell? ⟨w.heap.size, 2, none⟩ = some (.int .i64 0) := kT.cell 2; have kT3 : (wr).cell? ⟨w.heap.size, 3, none⟩ = some (.int .i64 0) := kT.cell 3; have kT4 : (wr).cell? ⟨w.heap.size, 4, none⟩ = some (.int .i64 0) := kT.cell 4; have kT5 : (wr).cell? ⟨w.heap.size, 5, none⟩ = some (.int .i64 0) := kT.cell 5; have kTf0 : (wr).frozen? ⟨w.heap.size, 0, none⟩ = false := kT.frozen 0; have kTf1 : (wr).frozen? ⟨w.heap.size, 1, none⟩ = false := kT.frozen 1; have kTf2 : (wr).frozen? ⟨w.heap.size, 2, none⟩ = false := kT.frozen 2; have kTf3 : (wr).frozen? ⟨w.heap.size, 3, none⟩ = false := kT.frozen 3; have kTf4 : (wr).frozen? ⟨w.heap.size, 4, none⟩ = false := kT.frozen 4; have kTf5 : (wr).frozen? ⟨w.heap.size, 5, none⟩ = false := kT.frozen 5; have kTl : w.heap.size < (wr).heap.size := kT.lt
      go_wp2
      have R := ((((((kT.set 0 (.int .i64 0)).set 1 (.int .i64 0)).set 2 (.int .i64 0)).set 3 (.int .i64 0)).set 4 (.int .i64 0)).set 5 (.int .i64 0))
      have hR : Below w.heap.size w ((((((wr.setCell ⟨w.heap.size, 0, none⟩ (.int .i64 0)).setCell ⟨w.heap.size, 1, none⟩ (.int .i64 0)).setCell ⟨w.heap.size, 2, none⟩ (.int .i64 0)).setCell ⟨w.heap.size, 3, none⟩ (.int .i64 0)).setCell ⟨w.heap.size, 4, none⟩ (.int .i64 0)).setCell ⟨w.heap.size, 5, none⟩ (.int .i64 0)) := by (repeat' (first | (with_reducible exact Below.refl _ _) | (with_reducible refine below_step (by assumption) ?_ ?_) | (with_reducible refine Below.alloc ?_ ?_ _) | (with_reducible refine Below.setCell ?_ ?_ _) | (with_reducible refine below_drewN ?_ _) | (with_reducible refine Below.drew ?_) | omega | (simp; omega) | (simp; done)))
      simp only [List.setIfInBounds_toArray, List.set_cons_zero, List.set_cons_succ] at R
      clear kT kT0 kT1 kT2 kT3 kT4 kT5 kTf0 kTf1 kTf2 kTf3 kTf4 kTf5 kTl
      generalize ((((((wr.setCell ⟨w.heap.size, 0, none⟩ (.int .i64 0)).setCell ⟨w.heap.size, 1, none⟩ (.int .i64 0)).setCell ⟨w.heap.size, 2, none⟩ (.int .i64 0)).setCell ⟨w.heap.size, 3, none⟩ (.int .i64 0)).setCell ⟨w.heap.size, 4, none⟩ (.int .i64 0)).setCell ⟨w.heap.size, 5, none⟩ (.int .i64 0)) = W9 at R hR ⊢
      have R0 : (W9).cell? ⟨w.heap.size, 0, none⟩ = some (.int .i64 0) := R.cell 0; have R1 : (W9).cell? ⟨w.heap.size, 1, none⟩ = some (.int .i64 0) := R.cell 1; have R2 : (W9).cell? ⟨w.heap.size, 2, none⟩ = some (.int .i64 0) := R.cell 2; have R3 : (W9).cell? ⟨w.heap.size, 3, none⟩ = some (.int .i64 0) := R.cell 3; have R4 : (W9).cell? ⟨w.heap.size, 4, none⟩ = some (.int .i64 0) := R.cell 4; have R5 : (W9).cell? ⟨w.heap.size, 5, none⟩ = some (.int .i64 0) := R.cell 5; have Rl : w.heap.size < (W9).heap.size := R.lt
      refine bodyPost_ret (v := .tuple #[.agg #[.int .i64 0, .int .i64 0, .int .i64 0, .int .i64 0, .int .i64 0, .int .i64 0], .bool false]) (by simp [results, Try.results88, go_sem, R0, R1, R2, R3, R4, R5]) rfl ?_
      exact ftPost0 HN.out hR
noncomputable def faB (n m : Int) : Bool := areaB n && inB m 2 100
noncomputable def frV (n m : Int) : Value := if faB n m then ftV n m else tri0
theorem faB_of {n m : Int} (h : faB n m = true) : (1 ≤ n ∧ n ≤ 31) ∧ (2 ≤ m ∧ m ≤ 100) := by
  unfold faB at h
  simp only [Bool.and_eq_true] at h
  exact ⟨areaB_bd h.1, inB_true h.2⟩
theorem fr_no {w w' : World} {n m : Int} (h : faB n m = false) (hb : Below w.heap.size w w') : TriPost w (frV n m) (faB n m && ftB n m) (.returned (.tuple #[.agg #[.int .i64 0, .int .i64 0, .int .i64 0, .int .i64 0, .int .i64 0, .int .i64 0], .bool false])) w' := by
  unfold frV; rw [h]; exact ⟨rfl, hb⟩
theorem fr_yes {w w' : World} {n m p1 p2 p3 p4 p5 p6 : Int} {b : Bool} (h : faB n m = true) (hV : ftV n m = .agg #[.int .i64 p1, .int .i64 p2, .int .i64 p3, .int .i64 p4, .int .i64 p5, .int .i64 p6]) (hb2 : ftB n m = b) (hb : Below w.heap.size w w') : TriPost w (frV n m) (faB n m && ftB n m) (.returned (.tuple #[.agg #[.int .i64 p1, .int .i64 p2, .int .i64 p3, .int .i64 p4, .int .i64 p5, .int .i64 p6], .bool b])) w' := by
  unfold frV; rw [h, if_pos rfl, hV, hb2]; exact ⟨rfl, hb⟩
theorem frV_form (n m : Int) : ∃ p q r s t u' : Int, frV n m = .agg #[.int .i64 p, .int .i64 q, .int .i64 r, .int .i64 s, .int .i64 t, .int .i64 u'] := by
  unfold frV
  split
  · exact ftV_form _ _
  · exact ⟨0, 0, 0, 0, 0, 0, rfl⟩
end Go.Proofs.Ytcnfjapoopdiaaa

/- Scf -/
namespace Go.Proofs.Ytcnfjapoopdiaaa
open Go.RowKit

theorem sc_fr {n u v : Int} (hn : 1 ≤ n ∧ n ≤ 31) (hu : 1 ≤ u ∧ u ≤ 100) (hv : 1 ≤ v ∧ v ≤ u - 1) (h4 : scB n u v = true) : ∃ p q r s t u' : Int, scT n u v = .agg #[.int .i64 p, .int .i64 q, .int .i64 r, .int .i64 s, .int .i64 t, .int .i64 u'] ∧ frOk p q = true ∧ frOk r s = true ∧ frOk t u' = true := by
  have hm0 : arA u v % n = 0 := by
    unfold scB at h4
    simp only [Bool.and_eq_true, beq_iff_eq] at h4
    exact h4.1
  have hd := sc_facts hn hu hv hm0
  obtain ⟨b1, b2, b3, b4, b5⟩ := ar_bd hu hv
  have hass : 2 * u * v = 2 * (u * v) := Int.mul_assoc 2 u v
  have g1 := mk_small (n := u * u - v * v) (d := rtI (arA u v / n)) (by omega) (by omega)
  have g2 := mk_small (n := 2 * u * v) (d := rtI (arA u v / n)) (by omega) (by omega)
  have g3 := mk_small (n := u * u + v * v) (d := rtI (arA u v / n)) (by omega) (by omega)
  unfold scT
  generalize mkN (u * u - v * v) (rtI (arA u v / n)) = a at *
  generalize mkD (u * u - v * v) (rtI (arA u v / n)) = x at *
  generalize mkN (2 * u * v) (rtI (arA u v / n)) = b at *
  generalize mkD (2 * u * v) (rtI (arA u v / n)) = y at *
  generalize mkN (u * u + v * v) (rtI (arA u v / n)) = c at *
  generalize mkD (u * u + v * v) (rtI (arA u v / n)) = z at *
  cases ho : ordB a x b y
  · exact ⟨_, _, _, _, _, _, ordV_no ho, frOk_abs g1, frOk_abs g2, frOk_abs g3⟩
  · exact ⟨_, _, _, _, _, _, ordV_yes ho, frOk_abs g2, frOk_abs g1, frOk_abs g3⟩
theorem ft_fr2 {n m : Int} (hn : 1 ≤ n ∧ n ≤ 31) (hm : m ≤ 100) (h : ftB n m = true) : ∃ p q r s t u : Int, ftV n m = .agg #[.int .i64 p, .int .i64 q, .int .i64 r, .int .i64 s, .int .i64 t, .int .i64 u] ∧ frOk p q = true ∧ frOk r s = true ∧ frOk t u = true := by
  have he : ∃ p, Fst n m p := by unfold ftB at h; simpa using h
  obtain ⟨⟨u, v⟩, hp⟩ := he
  rw [(ft_yes hp).2]
  obtain ⟨⟨h1, h2, h3⟩, h4, _⟩ := hp
  simp only at h1 h2 h3 h4
  exact sc_fr hn (by omega) (by omega) h4
theorem st_fr2 {n u v : Int} (h : (stB n u v && scB n u v) = true) : ∃ p q r s t u' : Int, stV n u v = .agg #[.int .i64 p, .int .i64 q, .int .i64 r, .int .i64 s, .int .i64 t, .int .i64 u'] ∧ frOk p q = true ∧ frOk r s = true ∧ frOk t u' = true := by
  rw [Bool.and_eq_true] at h
  obtain ⟨h1, h2⟩ := h
  have h3 := h1
  unfold stB at h3
  simp only [Bool.and_eq_true] at h3
  obtain ⟨p, q, r, s, t, u', e, r1⟩ := sc_fr (areaB_bd h3.1.1) (inB_true h3.1.2) (inB_true h3.2) h2
  refine ⟨p, q, r, s, t, u', ?_, r1⟩
  unfold stV scV
  rw [h1, h2]
  exact e
end Go.Proofs.Ytcnfjapoopdiaaa

/- Trr -/
namespace Go.Proofs.Ytcnfjapoopdiaaa
open Go.RowKit

/-- what a triangle of n is, by values -/
def TriV (n p q r s t u : Int) : Prop := (frOk p q = true ∧ frOk r s = true ∧ frOk t u = true) ∧ 0 < p ∧ 0 < r ∧ 0 < t ∧ p * s < r * q ∧ fv p q * fv r s = ((2 * n : Int) : Rat) ∧ fv p q * fv p q + fv r s * fv r s = fv t u * fv t u
theorem TriV.own {n p q r s t u : Int} (h : TriV n p q r s t u) (hn : 1 ≤ n ∧ n ≤ 31) (hk : itOk n p q r s t u = true) : tIs n p q r s t u = true := by
  unfold itOk at hk
  simp only [Bool.and_eq_true] at hk
  obtain ⟨_, hp, _, ht, hl, e2, e1⟩ := h
  exact tri_own hn hk.2 hp hl ht e1 e2
theorem triV_ord {n a x b y c z : Int} (hn : 1 ≤ n) (fa : frOk a x = true) (fb : frOk b y = true) (fc : frOk c z = true)
    (h1 : fv a x * fv a x + fv b y * fv b y = fv c z * fv c z) (h2 : fv a x * fv b y = ((2 * n : Int) : Rat)) :
    ∃ p q r s t u, ordV a x b y c z = .agg #[.int .i64 p, .int .i64 q, .int .i64 r, .int .i64 s, .int .i64 t, .int .i64 u] ∧ TriV n p q r s t u := by
  obtain ⟨pa, pb, pc, hne, e2, e1⟩ := tri_ord hn fa fb fc h1 h2
  cases ho : ordB a x b y
  · refine ⟨_, _, _, _, _, _, ordV_no ho, ⟨frOk_abs fa, frOk_abs fb, frOk_abs fc⟩, pa, pb, pc, ?_, e2, e1⟩
    have h : ¬ (absI b * x < absI a * y) := by unfold ordB at ho; simpa using ho
    omega
  · refine ⟨_, _, _, _, _, _, ordV_yes ho, ⟨frOk_abs fb, frOk_abs fa, frOk_abs fc⟩, pb, pa, pc, ?_, ?_, ?_⟩
    · unfold ordB at ho; simpa using ho
    · rw [← e2]; grind
    · rw [← e1]; grind
theorem vl_vals {n p q r s t u : Int} (h : vlB n p q r s t u = true) : (1 ≤ n ∧ n ≤ 31) ∧ TriV n p q r s t u := by
  obtain ⟨h1, h2, h3, h4⟩ := vlB_of h
  have hn := congA_of h1
  obtain ⟨fA, fB, fC⟩ := triOk_of h2
  unfold tOk at h3
  simp only [Bool.and_eq_true] at h3
  obtain ⟨⟨⟨⟨m1, m2⟩, m3⟩, m4⟩, m5⟩ := h3
  unfold tIs isB at h4
  simp only [Bool.and_eq_true, decide_eq_true_eq, beq_iff_eq] at h4
  obtain ⟨⟨⟨⟨hp, hl⟩, ht⟩, i1, i2⟩, i3, i4⟩ := h4
  have w1 := fv_mul m1
  have w2 := fv_mul m2
  have w3 := fv_mul m3
  have w4 := fv_mul m4
  have w5 := fv_add m5
  have e2 : fv p q * fv r s = ((2 * n : Int) : Rat) := by rw [← w4, i3, i4, fv_one']
  have e1 : fv p q * fv p q + fv r s * fv r s = fv t u * fv t u := by rw [← w1, ← w2, ← w3, ← w5, i1, i2]
  have hq := (frOk_of fA).1
  have hs := (frOk_of fB).1
  refine ⟨hn, ⟨fA, fB, fC⟩, hp, ?_, ht, hl, e2, e1⟩
  rcases Int.lt_or_le 0 r with h | h
  · exact h
  · have k1 := Int.mul_pos hp (show 0 < s by omega)
    have k2 := Int.mul_nonneg (show 0 ≤ -r by omega) (show 0 ≤ q by omega)
    rw [Int.neg_mul] at k2
    omega
theorem tof_vals {n X Y E a b c d e f : Int} (hg : gtB n X Y E = true) (h : TofV n X Y E a b c d e f) : (1 ≤ n ∧ n ≤ 31) ∧ fv a b * fv a b + fv c d * fv c d = fv e f * fv e f ∧ fv a b * fv c d = ((2 * n : Int) : Rat) := by
  obtain ⟨_, ⟨hy, hE⟩, v1, v2, v3⟩ := h
  unfold gtB at hg
  simp only [Bool.and_eq_true, Bool.not_eq_true'] at hg
  obtain ⟨⟨hn, hP⟩, hY⟩ := hg
  have hf : finB (-n * n) 0 X Y E = true := by
    unfold ptF at hP
    rw [hY, Bool.and_false, Bool.false_and, Bool.false_or] at hP
    exact hP
  unfold finB at hf
  simp only [Bool.and_eq_true, beq_iff_eq] at hf
  have hc := hf.2
  unfold cvV at hc
  have hc2 : Y * Y = X * X * X - n * n * (X * (E * E * (E * E))) := by rw [hc]; grind
  have hr : (Y : Rat) * (Y : Rat) = (X : Rat) * (X : Rat) * (X : Rat) - (n : Rat) * (n : Rat) * ((X : Rat) * ((E : Rat) * (E : Rat) * ((E : Rat) * (E : Rat)))) := by
    rw [← Rat.intCast_mul, hc2]
    simp only [Rat.intCast_sub, Rat.intCast_mul]
  have e2 : ((E * E : Int) : Rat) = (E : Rat) * (E : Rat) := Rat.intCast_mul _ _
  have e3 : ((E * E * E : Int) : Rat) = (E : Rat) * (E : Rat) * (E : Rat) := by rw [Rat.intCast_mul, Rat.intCast_mul]
  have key : ((Y : Rat) / ((E * E * E : Int) : Rat)) * ((Y : Rat) / ((E * E * E : Int) : Rat)) = ((X : Rat) / ((E * E : Int) : Rat)) * ((X : Rat) / ((E * E : Int) : Rat)) * ((X : Rat) / ((E * E : Int) : Rat)) - (n : Rat) * (n : Rat) * ((X : Rat) / ((E * E : Int) : Rat)) := by
    rw [e2, e3]
    have hx : ∀ z : Rat, z / ((E : Rat) * (E : Rat)) = z * (1 / (E : Rat)) * (1 / (E : Rat)) := fun z => by grind
    have hx3 : ∀ z : Rat, z / ((E : Rat) * (E : Rat) * (E : Rat)) = z * (1 / (E : Rat)) * (1 / (E : Rat)) * (1 / (E : Rat)) := fun z => by grind
    rw [hx, hx3]
    have hi : (E : Rat) * (1 / (E : Rat)) = 1 := by grind
    generalize 1 / (E : Rat) = i at hi
    grind
  obtain ⟨g1, g2⟩ := pt_eq hy key
  rw [v1, v2, v3]
  refine ⟨congA_of hn, g1, ?_⟩
  rw [g2, Rat.intCast_mul]
  rfl
theorem tof_all2 (n X Y E : Int) : ∃ (p q r s t u : Int) (o : Bool),
    (∀ w : World, Calls Try.prog 5 #[.int .i64 n, .agg #[.int .i64 X, .int .i64 Y, .int .i64 E]] w fun x w' => x = .returned (.tuple #[.agg #[.int .i64 p, .int .i64 q, .int .i64 r, .int .i64 s, .int .i64 t, .int .i64 u], .bool o]) ∧ Below w.heap.size w w') ∧
    (∀ w : World, Calls Try.prog 7 #[.int .i64 n, .agg #[.int .i64 X, .int .i64 Y, .int .i64 E]] w fun x w' => x = .returned (.tuple #[.agg #[.int .i64 p, .int .i64 q, .int .i64 r, .int .i64 s, .int .i64 t, .int .i64 u], .bool o]) ∧ Below w.heap.size w w') ∧
    (o = true → (1 ≤ n ∧ n ≤ 31) ∧ TriV n p q r s t u ∧ ∃ a b c d e f, TofV n X Y E a b c d e f ∧ ordV a b c d e f = .agg #[.int .i64 p, .int .i64 q, .int .i64 r, .int .i64 s, .int .i64 t, .int .i64 u]) := by
  cases hg : gtB n X Y E
  · exact ⟨0, 0, 0, 0, 0, 0, false, fun w => c_sTofNo n X Y E 0 0 0 0 0 0 hg w, fun w => c_iTofNo n X Y E 0 0 0 0 0 0 hg w, fun h => Bool.noConfusion h⟩
  · obtain ⟨a, b, c, d, e, f, o, h1, h2, h3⟩ := tof_both n X Y E hg
    cases o
    · exact ⟨0, 0, 0, 0, 0, 0, false, h1, h2, fun h => Bool.noConfusion h⟩
    · have hv := h3 rfl
      obtain ⟨hn, e1, e2⟩ := tof_vals hg hv
      obtain ⟨p, q, r, s, t, u, hO, hT⟩ := triV_ord hn.1 hv.1.1 hv.1.2.1 hv.1.2.2 e1 e2
      unfold tofP at h1 h2
      simp only [if_true, hO] at h1 h2
      exact ⟨p, q, r, s, t, u, true, h1, h2, fun _ => ⟨hn, hT, a, b, c, d, e, f, hv, hO⟩⟩
theorem fv_pos_of {p q : Int} (hp : 0 < p) (h : frOk p q = true) : 0 < fv p q := fv_pos hp (by have := (frOk_of h).1; omega)
/-- back to the triangle -/
theorem tof_back {n p q r s t u X Y E a b c d e f p' q' r' s' t' u' : Int} (hv : vlB n p q r s t u = true) (hP : PotV n p q r s t u X Y E) (hT : TofV n X Y E a b c d e f)
    (hO : ordV a b c d e f = .agg #[.int .i64 p', .int .i64 q', .int .i64 r', .int .i64 s', .int .i64 t', .int .i64 u']) : p' = p ∧ q' = q ∧ r' = r ∧ s' = s ∧ t' = t ∧ u' = u := by
  obtain ⟨hn, ⟨fA, fB, fC⟩, hp, hr, ht, hl, e2, e1⟩ := vl_vals hv
  obtain ⟨_, _, hb, hx, hy⟩ := hP
  obtain ⟨⟨gA, gB, gC⟩, _, v1, v2, v3⟩ := hT
  have pA := fv_pos_of hp fA
  have pC := fv_pos_of ht fC
  have hac : fv p q + fv t u ≠ 0 := by grind
  have hn0 := cast_ne (show n ≠ 0 by omega)
  have hy' : (Y : Rat) / ((E * E * E : Int) : Rat) = 2 * (n : Rat) * (n : Rat) * (fv p q + fv t u) / (fv r s * fv r s) := by
    rw [hy, Rat.intCast_mul, Rat.intCast_mul]; rfl
  obtain ⟨k1, k2, k3⟩ := back_eq hb hn0 hac e1 hx hy'
  obtain ⟨rfl, rfl⟩ := fv_inj gA fA (v1.trans k1)
  obtain ⟨rfl, rfl⟩ := fv_inj gB fB (v2.trans k2)
  obtain ⟨rfl, rfl⟩ := fv_inj gC fC (v3.trans k3)
  have a1 : absI a = a := by unfold absI; omega
  have a2 : absI c = c := by unfold absI; omega
  have a3 : absI e = e := by unfold absI; omega
  have hob : ordB a b c d = false := by unfold ordB; rw [a1, a2]; simp; omega
  rw [ordV_no hob, a1, a2, a3] at hO
  simp only [Value.agg.injEq, Array.mk.injEq, List.cons.injEq, Value.int.injEq, true_and, and_true] at hO
  obtain ⟨rfl, rfl, rfl, rfl, rfl, rfl⟩ := hO
  exact ⟨rfl, rfl, rfl, rfl, rfl, rfl⟩
theorem pot_pos {n p q r s t u X Y E : Int} (hv : vlB n p q r s t u = true) (hP : PotV n p q r s t u X Y E) : 0 < Y := by
  obtain ⟨hn, ⟨fA, fB, fC⟩, hp, hr, ht, _, _, _⟩ := vl_vals hv
  obtain ⟨hE, _, _, _, hy⟩ := hP
  have pA := fv_pos_of hp fA
  have pB := fv_pos_of hr fB
  have pC := fv_pos_of ht fC
  have hE3 : (0 : Int) < E * E * E := Int.mul_pos (Int.mul_pos (by omega) (by omega)) (by omega)
  have h3 : (0 : Rat) < ((E * E * E : Int) : Rat) := by exact_mod_cast hE3
  have hn2 : (0 : Rat) < ((2 * n * n : Int) : Rat) := by exact_mod_cast Int.mul_pos (show (0 : Int) < 2 * n by omega) (show 0 < n by omega)
  have hs : (0 : Rat) < fv p q + fv t u := by grind
  have hm := Rat.mul_pos hn2 hs
  have hd := Rat.mul_pos pB pB
  have hyd : ((Y : Rat) / ((E * E * E : Int) : Rat)) * (fv r s * fv r s) = ((2 * n * n : Int) : Rat) * (fv p q + fv t u) := by
    rw [hy]
    generalize fv r s * fv r s = d at hd
    generalize ((2 * n * n : Int) : Rat) * (fv p q + fv t u) = m
    grind
  by_cases hY : 0 < Y
  · exact hY
  · exfalso
    have hY2 : (0 : Rat) ≤ ((-Y : Int) : Rat) := by exact_mod_cast (show (0 : Int) ≤ -Y by omega)
    rw [Rat.intCast_neg] at hY2
    have hq : ((Y : Rat) / ((E * E * E : Int) : Rat)) * ((E * E * E : Int) : Rat) = (Y : Rat) := by
      generalize ((E * E * E : Int) : Rat) = d at h3
      grind
    rw [← hyd] at hm
    generalize (Y : Rat) / ((E * E * E : Int) : Rat) = z at *
    generalize fv r s * fv r s = d at *
    generalize ((E * E * E : Int) : Rat) = g at *
    have hz : ¬ (0 < z) := fun h => by have := Rat.mul_pos h h3; grind
    have hz2 := Rat.not_lt.1 hz
    have := Rat.mul_nonneg (show (0 : Rat) ≤ -z by grind) (Rat.le_of_lt hd)
    grind
end Go.Proofs.Ytcnfjapoopdiaaa

/- Form -/
namespace Go.Proofs.Ytcnfjapoopdiaaa
open Go.RowKit

/-- f at -6, .., k - 7, summed up -/
def sumF (f : Int → Int) : Nat → Int
  | 0 => 0
  | k + 1 => sumF f k + f ((k : Int) - 6)
theorem sumF_bd (f : Int → Int) (B : Int) (hf : ∀ x, 0 ≤ f x ∧ f x ≤ B) : ∀ k : Nat, 0 ≤ sumF f k ∧ sumF f k ≤ k * B
  | 0 => by simp [sumF]
  | k + 1 => by
    have := sumF_bd f B hf k
    have h2 := hf ((k : Int) - 6)
    rw [show ((k + 1 : Nat) : Int) * B = k * B + B by rw [Int.natCast_succ, Int.add_mul, Int.one_mul]]
    unfold sumF
    omega
def hitF (a b n x y z : Int) : Int := if a * x * x + y * y + b * z * z = n then 1 else 0
def rowZ (a b n x y : Int) (k : Nat) : Int := sumF (hitF a b n x y) k
def rowY (a b n x : Int) (k : Nat) : Int := sumF (fun y => rowZ a b n x y 13) k
def rowX (a b n : Int) (k : Nat) : Int := sumF (fun x => rowY a b n x 13) k
def formV (a b n : Int) : Int := rowX a b n 13
theorem hitF_bd (a b n x y z : Int) : 0 ≤ hitF a b n x y z ∧ hitF a b n x y z ≤ 1 := by unfold hitF; split <;> omega
theorem rowZ_bd (a b n x y : Int) (k : Nat) : 0 ≤ rowZ a b n x y k ∧ rowZ a b n x y k ≤ k := by have := sumF_bd _ 1 (hitF_bd a b n x y) k; unfold rowZ; omega
theorem rowY_bd (a b n x : Int) (k : Nat) : 0 ≤ rowY a b n x k ∧ rowY a b n x k ≤ k * 13 := sumF_bd _ 13 (fun y => by have := rowZ_bd a b n x y 13; omega) k
theorem rowX_bd (a b n : Int) (k : Nat) : 0 ≤ rowX a b n k ∧ rowX a b n k ≤ k * 169 := sumF_bd _ 169 (fun y => by have := rowY_bd a b n y 13; omega) k
theorem formV_bd (a b n : Int) : 0 ≤ formV a b n ∧ formV a b n ≤ 2197 := by have := rowX_bd a b n 13; unfold formV; omega
theorem form_bd {a b x y z : Int} (ha : 0 ≤ a ∧ a ≤ 4) (hb : 0 ≤ b ∧ b ≤ 32) (hx : -6 ≤ x ∧ x ≤ 6) (hy : -6 ≤ y ∧ y ≤ 6) (hz : -6 ≤ z ∧ z ≤ 6) :
    (-24 ≤ a * x ∧ a * x ≤ 24) ∧ (-144 ≤ a * x * x ∧ a * x * x ≤ 144) ∧ (-36 ≤ y * y ∧ y * y ≤ 36) ∧ (-192 ≤ b * z ∧ b * z ≤ 192) ∧ (-1152 ≤ b * z * z ∧ b * z * z ≤ 1152) := by
  have h1 := mulb (x := a) (y := x) 4 6 (by omega) hx
  have h2 := mulb (x := a * x) (y := x) 24 6 (by omega) hx
  have h3 := mulb (x := y) (y := y) 6 6 hy hy
  have h4 := mulb (x := b) (y := z) 32 6 (by omega) hz
  have h5 := mulb (x := b * z) (y := z) 192 6 (by omega) hz
  omega
set_option maxHeartbeats 2000000 in
theorem c_formCounts_odd (n : Int) (hn : 1 ≤ n ∧ n ≤ 31) (ho : n % 2 = 1) (w : World) :
    Calls Try.prog 70 #[.int .i64 n] w fun e w' => e = .returned (.tuple #[.int .i64 (formV 2 8 n), .int .i64 (formV 2 32 n)]) ∧ w = w' := by
  have h1 : (n % 2 == 0) = false := by simp; omega
  go_enter Try.func70, Try.ntmps70
  go_wp2
  go_loop [5, 6, 7] (fun c d x => ∃ k : Nat, k ≤ 13 ∧ c = .int .i64 (rowX 2 8 n k) ∧ d = .int .i64 (rowX 2 32 n k) ∧ x = .int .i64 ((k : Int) - 6)) (fun _ _ x => (7 - intOf x).toNat)
  case atStart => exact ⟨0, by omega, rfl, rfl, rfl⟩
  case round =>
    obtain ⟨k, hk, rfl, rfl, rfl⟩ := hrel
    have bX := rowX_bd 2 8 n k
    have bX' := rowX_bd 2 32 n k
    by_cases hlt : k < 13
    · have HX8 : Hid (rowX 2 8 n (k + 1) = rowX 2 8 n k + rowY 2 8 n ((k : Int) - 6) 13) := rfl
      have HX32 : Hid (rowX 2 32 n (k + 1) = rowX 2 32 n k + rowY 2 32 n ((k : Int) - 6) 13) := rfl
      generalize hx : (k : Int) - 6 = x at *
      go_wp2
      go_loop [5, 6, 8] (fun c d y => ∃ j : Nat, j ≤ 13 ∧ c = .int .i64 (rowX 2 8 n k + rowY 2 8 n x j) ∧ d = .int .i64 (rowX 2 32 n k + rowY 2 32 n x j) ∧ y = .int .i64 ((j : Int) - 6)) (fun _ _ y => (7 - intOf y).toNat)
      case atStart => exact ⟨0, by omega, by simp [rowY, sumF], by simp [rowY, sumF], rfl⟩
      case round =>
        obtain ⟨j, hj, rfl, rfl, rfl⟩ := hrel
        have bY := rowY_bd 2 8 n x j
        have bY' := rowY_bd 2 32 n x j
        by_cases hlt2 : j < 13
        · have HY8 : Hid (rowY 2 8 n x (j + 1) = rowY 2 8 n x j + rowZ 2 8 n x ((j : Int) - 6) 13) := rfl
          have HY32 : Hid (rowY 2 32 n x (j + 1) = rowY 2 32 n x j + rowZ 2 32 n x ((j : Int) - 6) 13) := rfl
          generalize hy : (j : Int) - 6 = y at *
          go_wp2
          go_loop [5, 6, 9] (fun c d z => ∃ i : Nat, i ≤ 13 ∧ c = .int .i64 (rowX 2 8 n k + rowY 2 8 n x j + rowZ 2 8 n x y i) ∧ d = .int .i64 (rowX 2 32 n k + rowY 2 32 n x j + rowZ 2 32 n x y i) ∧ z = .int .i64 ((i : Int) - 6)) (fun _ _ z => (7 - intOf z).toNat)
          case atStart => exact ⟨0, by omega, by simp [rowZ, sumF], by simp [rowZ, sumF], rfl⟩
          case round =>
            obtain ⟨i, hi, rfl, rfl, rfl⟩ := hrel
            have bZ := rowZ_bd 2 8 n x y i
            have bZ' := rowZ_bd 2 32 n x y i
            by_cases hlt3 : i < 13
            · have HZ8 : Hid (rowZ 2 8 n x y (i + 1) = rowZ 2 8 n x y i + hitF 2 8 n x y ((i : Int) - 6)) := rfl
              have HZ32 : Hid (rowZ 2 32 n x y (i + 1) = rowZ 2 32 n x y i + hitF 2 32 n x y ((i : Int) - 6)) := rfl
              generalize hz : (i : Int) - 6 = z at *
              obtain ⟨f1, f2, f3, f4, f5⟩ := form_bd (a := 2) (b := 8) (x := x) (y := y) (z := z) (by omega) (by omega) (by omega) (by omega) (by omega)
              obtain ⟨_, _, _, f6, f7⟩ := form_bd (a := 2) (b := 32) (x := x) (y := y) (z := z) (by omega) (by omega) (by omega) (by omega) (by omega)
              by_cases t8 : 2 * x * x + y * y + 8 * z * z = n
              · by_cases t32 : 2 * x * x + y * y + 32 * z * z = n
                · have HZ8' : Hid (rowZ 2 8 n x y (i + 1) = rowZ 2 8 n x y i + 1) := by show _ = _; rw [HZ8.out]; unfold hitF; rw [if_pos t8]
                  have h8 : (2 * x * x + y * y + 8 * z * z == n) = true := by simpa using t8
                  have HZ32' : Hid (rowZ 2 32 n x y (i + 1) = rowZ 2 32 n x y i + 1) := by show _ = _; rw [HZ32.out]; unfold hitF; rw [if_pos t32]
                  have h32 : (2 * x * x + y * y + 32 * z * z == n) = true := by simpa using t32
                  clear HZ8 HZ32 t8 t32
                  go_wp2
                  go_round
                  case rel => exact ⟨i + 1, by omega, by rw [HZ8'.out]; go_num, by rw [HZ32'.out]; go_num, by go_num⟩
                  case measure => simp [intOf]; omega
                · have HZ8' : Hid (rowZ 2 8 n x y (i + 1) = rowZ 2 8 n x y i + 1) := by show _ = _; rw [HZ8.out]; unfold hitF; rw [if_pos t8]
                  have h8 : (2 * x * x + y * y + 8 * z * z == n) = true := by simpa using t8
                  have HZ32' : Hid (rowZ 2 32 n x y (i + 1) = rowZ 2 32 n x y i) := by show _ = _; rw [HZ32.out]; unfold hitF; rw [if_neg t32, Int.add_zero]
                  have h32 : (2 * x * x + y * y + 32 * z * z == n) = false := by simpa using t32
                  clear HZ8 HZ32 t8 t32
                  go_wp2
                  go_round
                  case rel => exact ⟨i + 1, by omega, by rw [HZ8'.out]; go_num, by rw [HZ32'.out], by go_num⟩
                  case measure => simp [intOf]; omega
              · by_cases t32 : 2 * x * x + y * y + 32 * z * z = n
                · have HZ8' : Hid (rowZ 2 8 n x y (i + 1) = rowZ 2 8 n x y i) := by show _ = _; rw [HZ8.out]; unfold hitF; rw [if_neg t8, Int.add_zero]
                  have h8 : (2 * x * x + y * y + 8 * z * z == n) = false := by simpa using t8
                  have HZ32' : Hid (rowZ 2 32 n x y (i + 1) = rowZ 2 32 n x y i + 1) := by show _ = _; rw [HZ32.out]; unfold hitF; rw [if_pos t32]
                  have h32 : (2 * x * x + y * y + 32 * z * z == n) = true := by simpa using t32
                  clear HZ8 HZ32 t8 t32
                  go_wp2
                  go_round
                  case rel => exact ⟨i + 1, by omega, by rw [HZ8'.out], by rw [HZ32'.out]; go_num, by go_num⟩
                  case measure => simp [intOf]; omega
                · have HZ8' : Hid (rowZ 2 8 n x y (i + 1) = rowZ 2 8 n x y i) := by show _ = _; rw [HZ8.out]; unfold hitF; rw [if_neg t8, Int.add_zero]
                  have h8 : (2 * x * x + y * y + 8 * z * z == n) = false := by simpa using t8
                  have HZ32' : Hid (rowZ 2 32 n x y (i + 1) = rowZ 2 32 n x y i) := by show _ = _; rw [HZ32.out]; unfold hitF; rw [if_neg t32, Int.add_zero]
                  have h32 : (2 * x * x + y * y + 32 * z * z == n) = false := by simpa using t32
                  clear HZ8 HZ32 t8 t32
                  go_wp2
                  go_round
                  case rel => exact ⟨i + 1, by omega, by rw [HZ8'.out], by rw [HZ32'.out], by go_num⟩
                  case measure => simp [intOf]; omega
            · obtain rfl : i = 13 := by omega
              go_wp2
              go_round
              case rel => exact ⟨j + 1, by omega, by rw [HY8.out]; go_num, by rw [HY32.out]; go_num, by go_num⟩
              case measure => simp [intOf]; omega
        · obtain rfl : j = 13 := by omega
          go_wp2
          go_round
          case rel => exact ⟨_, _, _, ⟨k + 1, by omega, rfl, rfl, rfl⟩, by rw [HX8.out], by rw [HX32.out], by go_num⟩
          case measure => simp [intOf]; omega
    · obtain rfl : k = 13 := by omega
      go_wp2
      go_ret2
      exact ⟨rfl, rfl⟩
set_option maxHeartbeats 2000000 in
theorem c_formCounts_even (N n : Int) (hN : 1 ≤ N ∧ N ≤ 31) (he : N % 2 = 0) (hn : N / 2 = n) (w : World) :
    Calls Try.prog 70 #[.int .i64 N] w fun e w' => e = .returned (.tuple #[.int .i64 (formV 4 8 n), .int .i64 (formV 4 32 n)]) ∧ w = w' := by
  have h1 : (N % 2 == 0) = true := by simp; omega
  have hn' : 0 ≤ n ∧ n ≤ 15 := by omega
  go_enter Try.func70, Try.ntmps70
  go_wp2
  go_loop [5, 6, 7] (fun c d x => ∃ k : Nat, k ≤ 13 ∧ c = .int .i64 (rowX 4 8 n k) ∧ d = .int .i64 (rowX 4 32 n k) ∧ x = .int .i64 ((k : Int) - 6)) (fun _ _ x => (7 - intOf x).toNat)
  case atStart => exact ⟨0, by omega, rfl, rfl, rfl⟩
  case round =>
    obtain ⟨k, hk, rfl, rfl, rfl⟩ := hrel
    have bX := rowX_bd 4 8 n k
    have bX' := rowX_bd 4 32 n k
    by_cases hlt : k < 13
    · have HX8 : Hid (rowX 4 8 n (k + 1) = rowX 4 8 n k + rowY 4 8 n ((k : Int) - 6) 13) := rfl
      have HX32 : Hid (rowX 4 32 n (k + 1) = rowX 4 32 n k + rowY 4 32 n ((k : Int) - 6) 13) := rfl
      generalize hx : (k : Int) - 6 = x at *
      go_wp2
      go_loop [5, 6, 8] (fun c d y => ∃ j : Nat, j ≤ 13 ∧ c = .int .i64 (rowX 4 8 n k + rowY 4 8 n x j) ∧ d = .int .i64 (rowX 4 32 n k + rowY 4 32 n x j) ∧ y = .int .i64 ((j : Int) - 6)) (fun _ _ y => (7 - intOf y).toNat)
      case atStart => exact ⟨0, by omega, by simp [rowY, sumF], by simp [rowY, sumF], rfl⟩
      case round =>
        obtain ⟨j, hj, rfl, rfl, rfl⟩ := hrel
        have bY := rowY_bd 4 8 n x j
        have bY' := rowY_bd 4 32 n x j
        by_cases hlt2 : j < 13
        · have HY8 : Hid (rowY 4 8 n x (j + 1) = rowY 4 8 n x j + rowZ 4 8 n x ((j : Int) - 6) 13) := rfl
          have HY32 : Hid (rowY 4 32 n x (j + 1) = rowY 4 32 n x j + rowZ 4 32 n x ((j : Int) - 6) 13) := rfl
          generalize hy : (j : Int) - 6 = y at *
          go_wp2
          go_loop [5, 6, 9] (fun c d z => ∃ i : Nat, i ≤ 13 ∧ c = .int .i64 (rowX 4 8 n k + rowY 4 8 n x j + rowZ 4 8 n x y i) ∧ d = .int .i64 (rowX 4 32 n k + rowY 4 32 n x j + rowZ 4 32 n x y i) ∧ z = .int .i64 ((i : Int) - 6)) (fun _ _ z => (7 - intOf z).toNat)
          case atStart => exact ⟨0, by omega, by simp [rowZ, sumF], by simp [rowZ, sumF], rfl⟩
          case round =>
            obtain ⟨i, hi, rfl, rfl, rfl⟩ := hrel
            have bZ := rowZ_bd 4 8 n x y i
            have bZ' := rowZ_bd 4 32 n x y i
            by_cases hlt3 : i < 13
            · have HZ8 : Hid (rowZ 4 8 n x y (i + 1) = rowZ 4 8 n x y i + hitF 4 8 n x y ((i : Int) - 6)) := rfl
              have HZ32 : Hid (rowZ 4 32 n x y (i + 1) = rowZ 4 32 n x y i + hitF 4 32 n x y ((i : Int) - 6)) := rfl
              generalize hz : (i : Int) - 6 = z at *
              obtain ⟨f1, f2, f3, f4, f5⟩ := form_bd (a := 4) (b := 8) (x := x) (y := y) (z := z) (by omega) (by omega) (by omega) (by omega) (by omega)
              obtain ⟨_, _, _, f6, f7⟩ := form_bd (a := 4) (b := 32) (x := x) (y := y) (z := z) (by omega) (by omega) (by omega) (by omega) (by omega)
              by_cases t8 : 4 * x * x + y * y + 8 * z * z = n
              · by_cases t32 : 4 * x * x + y * y + 32 * z * z = n
                · have HZ8' : Hid (rowZ 4 8 n x y (i + 1) = rowZ 4 8 n x y i + 1) := by show _ = _; rw [HZ8.out]; unfold hitF; rw [if_pos t8]
                  have h8 : (4 * x * x + y * y + 8 * z * z == n) = true := by simpa using t8
                  have HZ32' : Hid (rowZ 4 32 n x y (i + 1) = rowZ 4 32 n x y i + 1) := by show _ = _; rw [HZ32.out]; unfold hitF; rw [if_pos t32]
                  have h32 : (4 * x * x + y * y + 32 * z * z == n) = true := by simpa using t32
                  clear HZ8 HZ32 t8 t32
                  go_wp2
                  go_round
                  case rel => exact ⟨i + 1, by omega, by rw [HZ8'.out]; go_num, by rw [HZ32'.out]; go_num, by go_num⟩
                  case measure => simp [intOf]; omega
                · have HZ8' : Hid (rowZ 4 8 n x y (i + 1) = rowZ 4 8 n x y i + 1) := by show _ = _; rw [HZ8.out]; unfold hitF; rw [if_pos t8]
                  have h8 : (4 * x * x + y * y + 8 * z * z == n) = true := by simpa using t8
                  have HZ32' : Hid (rowZ 4 32 n x y (i + 1) = rowZ 4 32 n x y i) := by show _ = _; rw [HZ32.out]; unfold hitF; rw [if_neg t32, Int.add_zero]
                  have h32 : (4 * x * x + y * y + 32 * z * z == n) = false := by simpa using t32
                  clear HZ8 HZ32 t8 t32
                  go_wp2
                  go_round
                  case rel => exact ⟨i + 1, by omega, by rw [HZ8'.out]; go_num, by rw [HZ32'.out], by go_num⟩
                  case measure => simp [intOf]; omega
              · by_cases t32 : 4 * x * x + y * y + 32 * z * z = n
                · have HZ8' : Hid (rowZ 4 8 n x y (i + 1) = rowZ 4 8 n x y i) := by show _ = _; rw [HZ8.out]; unfold hitF; rw [if_neg t8, Int.add_zero]
                  have h8 : (4 * x * x + y * y + 8 * z * z == n) = false := by simpa using t8
                  have HZ32' : Hid (rowZ 4 32 n x y (i + 1) = rowZ 4 32 n x y i + 1) := by show _ = _; rw [HZ32.out]; unfold hitF; rw [if_pos t32]
                  have h32 : (4 * x * x + y * y + 32 * z * z == n) = true := by simpa using t32
                  clear HZ8 HZ32 t8 t32
                  go_wp2
                  go_round
                  case rel => exact ⟨i + 1, by omega, by rw [HZ8'.out], by rw [HZ32'.out]; go_num, by go_num⟩
                  case measure => simp [intOf]; omega
                · have HZ8' : Hid (rowZ 4 8 n x y (i + 1) = rowZ 4 8 n x y i) := by show _ = _; rw [HZ8.out]; unfold hitF; rw [if_neg t8, Int.add_zero]
                  have h8 : (4 * x * x + y * y + 8 * z * z == n) = false := by simpa using t8
                  have HZ32' : Hid (rowZ 4 32 n x y (i + 1) = rowZ 4 32 n x y i) := by show _ = _; rw [HZ32.out]; unfold hitF; rw [if_neg t32, Int.add_zero]
                  have h32 : (4 * x * x + y * y + 32 * z * z == n) = false := by simpa using t32
                  clear HZ8 HZ32 t8 t32
                  go_wp2
                  go_round
                  case rel => exact ⟨i + 1, by omega, by rw [HZ8'.out], by rw [HZ32'.out], by go_num⟩
                  case measure => simp [intOf]; omega
            · obtain rfl : i = 13 := by omega
              go_wp2
              go_round
              case rel => exact ⟨j + 1, by omega, by rw [HY8.out]; go_num, by rw [HY32.out]; go_num, by go_num⟩
              case measure => simp [intOf]; omega
        · obtain rfl : j = 13 := by omega
          go_wp2
          go_round
          case rel => exact ⟨_, _, _, ⟨k + 1, by omega, rfl, rfl, rfl⟩, by rw [HX8.out], by rw [HX32.out], by go_num⟩
          case measure => simp [intOf]; omega
    · obtain rfl : k = 13 := by omega
      go_wp2
      go_ret2
      exact ⟨rfl, rfl⟩
noncomputable def fcA (n : Int) : Int := if n % 2 = 1 then formV 2 8 n else formV 4 8 (n / 2)
noncomputable def fcB (n : Int) : Int := if n % 2 = 1 then formV 2 32 n else formV 4 32 (n / 2)
theorem fc_bd (n : Int) : (0 ≤ fcA n ∧ fcA n ≤ 2197) ∧ (0 ≤ fcB n ∧ fcB n ≤ 2197) := by
  unfold fcA fcB
  have h1 := formV_bd 2 8 n
  have h2 := formV_bd 4 8 (n / 2)
  have h3 := formV_bd 2 32 n
  have h4 := formV_bd 4 32 (n / 2)
  constructor <;> (split <;> omega)
theorem c_formCounts (n : Int) (hn : 1 ≤ n ∧ n ≤ 31) (w : World) :
    Calls Try.prog 70 #[.int .i64 n] w fun e w' => e = .returned (.tuple #[.int .i64 (fcA n), .int .i64 (fcB n)]) ∧ w = w' := by
  unfold fcA fcB
  by_cases h : n % 2 = 1
  · rw [if_pos h, if_pos h]; exact c_formCounts_odd n hn h w
  · rw [if_neg h, if_neg h]; exact c_formCounts_even n (n / 2) hn (by omega) rfl w
noncomputable def mayB (n : Int) : Bool := fcA n == 2 * fcB n
theorem c_implMay (n : Int) (w : World) :
    Calls Try.prog 26 #[.int .i64 n] w fun e w' => e = .returned (.tuple #[.bool (areaB n && mayB n), .bool (areaB n)]) ∧ Below w.heap.size w w' := by
  have hb := fc_bd n
  cases h : areaB n
  · go_enter Try.func26, Try.ntmps26
    go_wp2_with ((go_at_call 32; refine (c_isArea _ _).mono ?_; rintro e w1 ⟨rfl, hb1⟩; obtain ⟨hc1, hf1⟩ := bcell hb1; have hz1 := hb1.size; (try simp only [World.size_alloc] at hz1); (try (have hy1 : w.heap.size < w1.heap.size := by omega)); (try (have hx1 := Nat.lt_of_succ_le hz1)); (try (have hv1 := Nat.lt_of_succ_le (Nat.le_of_lt hx1)))))
    go_ret2
    refine ⟨rfl, ?_⟩
    (repeat' (first | (with_reducible exact Below.refl _ _) | (with_reducible refine below_step (by assumption) ?_ ?_) | (with_reducible refine Below.alloc ?_ ?_ _) | (with_reducible refine Below.setCell ?_ ?_ _) | (with_reducible refine below_drewN ?_ _) | (with_reducible refine Below.drew ?_) | omega | (simp; omega) | (simp; done)))
  · have hn := congA_of h
    go_enter Try.func26, Try.ntmps26
    go_wp2_with (first | (go_at_call 32; refine (c_isArea _ _).mono ?_; rintro e w1 ⟨rfl, hb1⟩; obtain ⟨hc1, hf1⟩ := bcell hb1; have hz1 := hb1.size; (try simp only [World.size_alloc] at hz1); (try (have hy1 : w.heap.size < w1.heap.size := by omega)); (try (have hx1 := Nat.lt_of_succ_le hz1)); (try (have hv1 := Nat.lt_of_succ_le (Nat.le_of_lt hx1)))) | (go_at_call 70; refine (c_formCounts _ hn _).mono ?_; rintro e w' ⟨rfl, rfl⟩))
    go_ret2
    refine ⟨rfl, ?_⟩
    (repeat' (first | (with_reducible exact Below.refl _ _) | (with_reducible refine below_step (by assumption) ?_ ?_) | (with_reducible refine Below.alloc ?_ ?_ _) | (with_reducible refine Below.setCell ?_ ?_ _) | (with_reducible refine below_drewN ?_ _) | (with_reducible refine Below.drew ?_) | omega | (simp; omega) | (simp; done)))
end Go.Proofs.Ytcnfjapoopdiaaa
