/- Walks: FirstTriangle. -/
import Derived.Test.YtbcjlhbpgcjddaaGreatDoorScaT
import Derived.Deep.Cut
namespace Go.Proofs.YtbcjlhbpgcjddaaGreatDoor
open Go.RowKit

/-- no similar triangle ahead of u, v -/
def NoS (n u v : Int) : Prop := ∀ u' v', 1 ≤ v' → v' < u' → (u' < u ∨ (u' = u ∧ v' < v)) → scB n u' v' = false
theorem NoS.start (n u : Int) (hu : u ≤ 2) : NoS n u 1 := fun u' v' h1 h2 h3 => by omega
theorem NoS.next {n u v : Int} (h : NoS n u v) (hs : scB n u v = false) : NoS n u (v + 1) := fun u' v' h1 h2 h3 => by
  by_cases h4 : u' < u ∨ (u' = u ∧ v' < v)
  · exact h u' v' h1 h2 h4
  · obtain rfl : u' = u := by omega
    obtain rfl : v' = v := by omega
    exact hs
theorem NoS.row {n u v : Int} (h : NoS n u v) (hv : u ≤ v) : NoS n (u + 1) 1 := fun u' v' h1 h2 h3 => by
  by_cases h4 : u' < u
  · exact h u' v' h1 h2 (.inl h4)
  · exact h u' v' h1 h2 (by omega)
def Fst (n m : Int) (p : Int × Int) : Prop := (1 ≤ p.2 ∧ p.2 < p.1 ∧ p.1 ≤ m) ∧ scB n p.1 p.2 = true ∧ NoS n p.1 p.2
theorem Fst.uniq {n m : Int} {p q : Int × Int} (h : Fst n m p) (k : Fst n m q) : p = q := by
  obtain ⟨⟨h1, h2, _⟩, h3, h4⟩ := h
  obtain ⟨⟨k1, k2, _⟩, k3, k4⟩ := k
  by_cases a : q.1 < p.1 ∨ (q.1 = p.1 ∧ q.2 < p.2)
  · have := h4 q.1 q.2 k1 k2 a; rw [this] at k3; cases k3
  · by_cases b : p.1 < q.1 ∨ (p.1 = q.1 ∧ p.2 < q.2)
    · have := k4 p.1 p.2 h1 h2 b; rw [this] at h3; cases h3
    · obtain ⟨p1, p2⟩ := p
      obtain ⟨q1, q2⟩ := q
      simp only at a b
      have e1 : p1 = q1 := by omega
      have e2 : p2 = q2 := by omega
      rw [e1, e2]
open Classical in
noncomputable def ftB (n m : Int) : Bool := decide (∃ p, Fst n m p)
open Classical in
noncomputable def ftV (n m : Int) : Value := if h : ∃ p, Fst n m p then scT n (Classical.choose h).1 (Classical.choose h).2 else tri0
theorem ft_yes {n m u v : Int} (h : Fst n m (u, v)) : ftB n m = true ∧ ftV n m = scT n u v := by
  have he : ∃ p, Fst n m p := ⟨_, h⟩
  refine ⟨by unfold ftB; simpa using he, ?_⟩
  unfold ftV
  rw [dif_pos he, Fst.uniq (Classical.choose_spec he) h]
theorem ft_no {n m : Int} (h : NoS n (m + 1) 1) : ftB n m = false ∧ ftV n m = tri0 := by
  have he : ¬ ∃ p, Fst n m p := fun ⟨p, ⟨h1, h2, h3⟩, h4, _⟩ => by
    have := h p.1 p.2 h1 h2 (by omega)
    rw [this] at h4; cases h4
  refine ⟨by unfold ftB; simpa using he, ?_⟩
  unfold ftV
  rw [dif_neg he]
theorem ftPost1 {w w' : World} {n m u v p1 p2 p3 p4 p5 p6 : Int} (h : Fst n m (u, v)) (hV : scV n u v = .agg #[.int .i64 p1, .int .i64 p2, .int .i64 p3, .int .i64 p4, .int .i64 p5, .int .i64 p6]) (hb : Below w.heap.size w w') : TriPost w (ftV n m) (ftB n m) (.returned (.tuple #[.agg #[.int .i64 p1, .int .i64 p2, .int .i64 p3, .int .i64 p4, .int .i64 p5, .int .i64 p6], .bool true])) w' := by
  obtain ⟨h1, h2⟩ := ft_yes h
  have : scT n u v = .agg #[.int .i64 p1, .int .i64 p2, .int .i64 p3, .int .i64 p4, .int .i64 p5, .int .i64 p6] := by
    have h3 : scB n u v = true := h.2.1
    unfold scV at hV; rw [h3] at hV; exact hV
  rw [h1, h2, this]; exact ⟨rfl, hb⟩
theorem ftPost0 {w w' : World} {n m : Int} (h : NoS n (m + 1) 1) (hb : Below w.heap.size w w') : TriPost w (ftV n m) (ftB n m) (.returned (.tuple #[.agg #[.int .i64 0, .int .i64 0, .int .i64 0, .int .i64 0, .int .i64 0, .int .i64 0], .bool false])) w' := by
  obtain ⟨h1, h2⟩ := ft_no h
  rw [h1, h2]; exact ⟨rfl, hb⟩
theorem ftV_form (n m : Int) : ∃ p q r s t u' : Int, ftV n m = .agg #[.int .i64 p, .int .i64 q, .int .i64 r, .int .i64 s, .int .i64 t, .int .i64 u'] := by
  unfold ftV
  split
  · exact ordV_form _ _ _ _ _ _
  · exact ⟨0, 0, 0, 0, 0, 0, rfl⟩
set_option maxHeartbeats 400000 in
theorem c_cnFirst (n m : Int) (hn : 1 ≤ n ∧ n ≤ 31) (hm : 2 ≤ m ∧ m ≤ 100) (w : World) :
    Calls Tryz.prog 54 #[.int .i64 n, .int .i64 m] w (TriPost w (ftV n m) (ftB n m)) := by
  have kT := Blk.new w #[.int .i64 0, .int .i64 0, .int .i64 0, .int .i64 0, .int .i64 0, .int .i64 0] 33
  have hb0 : Below w.heap.size w (w.alloc (.cells #[.int .i64 0, .int .i64 0, .int .i64 0, .int .i64 0, .int .i64 0, .int .i64 0] 33)) := by (repeat' (first | (with_reducible exact Below.refl _ _) | (with_reducible refine below_step (by assumption) ?_ ?_) | (with_reducible refine Below.alloc ?_ ?_ _) | (with_reducible refine Below.setCell ?_ ?_ _) | (with_reducible refine below_drewN ?_ _) | (with_reducible refine Below.drew ?_) | omega | (simp; omega) | (simp; done)))
  go_enter Tryz.func54, Tryz.ntmps54
  go_wp2
  generalize w.alloc _ = W at *
  go_loopw [6] (fun x wr => ∃ u : Int, x = .int .i64 u ∧ (2 ≤ u ∧ u ≤ m + 1) ∧ Hid (NoS n u 1) ∧ Blk w.heap.size #[.int .i64 0, .int .i64 0, .int .i64 0, .int .i64 0, .int .i64 0, .int .i64 0] 33 wr ∧ Below w.heap.size w wr) (fun x _ => (m + 1 - intOf x).toNat)
  case atStart => exact ⟨2, rfl, by omega, NoS.start n 2 (by omega), kT, hb0⟩
  case round =>
    clear kT hb0
    obtain ⟨u, rfl, hu, HN, kT, hB⟩ := hrel
    by_cases hum : u ≤ m
    · obtain ⟨wo, rfl⟩ : ∃ wo : World, wo = wr := ⟨_, rfl⟩
      go_wp2
      go_loopw [7] (fun x wr => ∃ v : Int, x = .int .i64 v ∧ (1 ≤ v ∧ v ≤ u) ∧ Hid (NoS n u v) ∧ Blk w.heap.size #[.int .i64 0, .int .i64 0, .int .i64 0, .int .i64 0, .int .i64 0, .int .i64 0] 33 wr ∧ Below w.heap.size w wr) (fun x _ => (u - intOf x).toNat)
      case atStart => exact ⟨1, rfl, by omega, HN, kT, hB⟩
      case round =>
        clear HN kT hB
        obtain ⟨v, rfl, hv, HN, kT, hB⟩ := hrel
        have hs := hB.size
        by_cases hvu : v < u
        · obtain ⟨p1, p2, p3, p4, p5, p6, hf⟩ := scV_form n u v
          have HF := Lib.hid hf
          have hc := fun w => c_cnScaled n u v hn (by omega) (by omega) w
          rw [hf] at hc
          cases hb : scB n u v
          · have HN2 := Lib.hid (HN.out.next hb)
            rw [hb] at hc
            have HC := Lib.hid hc
            clear hc hf hb
            go_wp2_with fail
            refine (HC.out _).mono ?_
            rintro e w2 ⟨rfl, hb2⟩
            have kT2 := (kT.next hb2).alloc (.cells #[.int .i64 p1, .int .i64 p2, .int .i64 p3, .int .i64 p4, .int .i64 p5, .int .i64 p6] 33)
            have hz2 := hb2.size
            have hB2 : Below w.heap.size w (w2.alloc (.cells #[.int .i64 p1, .int .i64 p2, .int .i64 p3, .int .i64 p4, .int .i64 p5, .int .i64 p6] 33)) := by (repeat' (first | (with_reducible exact Below.refl _ _) | (with_reducible refine below_step (by assumption) ?_ ?_) | (with_reducible refine Below.alloc ?_ ?_ _) | (with_reducible refine Below.setCell ?_ ?_ _) | (with_reducible refine below_drewN ?_ _) | (with_reducible refine Below.drew ?_) | omega | (simp; omega) | (simp; done)))
            go_wp2
            go_roundw
            case rel => exact ⟨v + 1, rfl, by omega, HN2, kT2, hB2⟩
            case measure => simp [intOf]; omega
          · have hF : Fst n m (u, v) := ⟨⟨hv.1, hvu, hum⟩, hb, HN.out⟩
            have HFST := Lib.hid hF
            clear hF
            rw [hb] at hc
            have HC := Lib.hid hc
            clear hc hf hb
            go_wp2_with fail
            refine (HC.out _).mono ?_
            rintro e w2 ⟨rfl, hb2⟩
            have kT2 := kT.next hb2
            have kN := Blk.new w2 #[.int .i64 p1, .int .i64 p2, .int .i64 p3, .int .i64 p4, .int .i64 p5, .int .i64 p6] 33
            have hB2 : Below w.heap.size w w2 := below_step hb2 hs hB
            have hs2 := hB2.size
            have kT3 := kT2.alloc (.cells #[.int .i64 p1, .int .i64 p2, .int .i64 p3, .int .i64 p4, .int .i64 p5, .int .i64 p6] 33)
            have hB3 : Below w.heap.size w (w2.alloc (.cells #[.int .i64 p1, .int .i64 p2, .int .i64 p3, .int .i64 p4, .int .i64 p5, .int .i64 p6] 33)) := by (repeat' (first | (with_reducible exact Below.refl _ _) | (with_reducible refine below_step (by assumption) ?_ ?_) | (with_reducible refine Below.alloc ?_ ?_ _) | (with_reducible refine Below.setCell ?_ ?_ _) | (with_reducible refine below_drewN ?_ _) | (with_reducible refine Below.drew ?_) | omega | (simp; omega) | (simp; done)))
            go_upto_region 9 with (fail)
            generalize w2.alloc _ = W3 at *
            have kT30 : (W3).cell? ⟨w.heap.size, 0, none⟩ = some (.int .i64 0) := kT3.cell 0; have kT31 : (W3).cell? ⟨w.heap.size, 1, none⟩ = some (.int .i64 0) := kT3.cell 1; have kT32 : (W3).cell? ⟨w.heap.size, 2, none⟩ = some (.int .i64 0) := kT3.cell 2; have kT33 : (W3).cell? ⟨w.heap.size, 3, none⟩ = some (.int .i64 0) := kT3.cell 3; have kT34 : (W3).cell? ⟨w.heap.size, 4, none⟩ = some (.int .i64 0) := kT3.cell 4; have kT35 : (W3).cell? ⟨w.heap.size, 5, none⟩ = some (.int .i64 0) := kT3.cell 5; have kT3f0 : (W3).frozen? ⟨w.heap.size, 0, none⟩ = false := kT3.frozen 0; have kT3f1 : (W3).frozen? ⟨w.heap.size, 1, none⟩ = false := kT3.frozen 1; have kT3f2 : (W3).frozen? ⟨w.heap.size, 2, none⟩ = false := kT3.frozen 2; have kT3f3 : (W3).frozen? ⟨w.heap.size, 3, none⟩ = false := kT3.frozen 3; have kT3f4 : (W3).frozen? ⟨w.heap.size, 4, none⟩ = false := kT3.frozen 4; have kT3f5 : (W3).frozen? ⟨w.heap.size, 5, none⟩ = false := kT3.frozen 5; have kT3l : w.heap.size < (W3).heap.size := kT3.lt
            have kN0 : (W3).cell? ⟨w2.heap.size, 0, none⟩ = some (.int .i64 p1) := kN.cell 0; have kN1 : (W3).cell? ⟨w2.heap.size, 1, none⟩ = some (.int .i64 p2) := kN.cell 1; have kN2 : (W3).cell? ⟨w2.heap.size, 2, none⟩ = some (.int .i64 p3) := kN.cell 2; have kN3 : (W3).cell? ⟨w2.heap.size, 3, none⟩ = some (.int .i64 p4) := kN.cell 3; have kN4 : (W3).cell? ⟨w2.heap.size, 4, none⟩ = some (.int .i64 p5) := kN.cell 4; have kN5 : (W3).cell? ⟨w2.heap.size, 5, none⟩ = some (.int .i64 p6) := kN.cell 5; have kNl : w2.heap.size < (W3).heap.size := kN.lt
            go_wp2
            have R := ((((((kT3.set 0 (.int .i64 p1)).set 1 (.int .i64 p2)).set 2 (.int .i64 p3)).set 3 (.int .i64 p4)).set 4 (.int .i64 p5)).set 5 (.int .i64 p6))
            have hR : Below w.heap.size w ((((((W3.setCell ⟨w.heap.size, 0, none⟩ (.int .i64 p1)).setCell ⟨w.heap.size, 1, none⟩ (.int .i64 p2)).setCell ⟨w.heap.size, 2, none⟩ (.int .i64 p3)).setCell ⟨w.heap.size, 3, none⟩ (.int .i64 p4)).setCell ⟨w.heap.size, 4, none⟩ (.int .i64 p5)).setCell ⟨w.heap.size, 5, none⟩ (.int .i64 p6)) := by (repeat' (first | (with_reducible exact Below.refl _ _) | (with_reducible refine below_step (by assumption) ?_ ?_) | (with_reducible refine Below.alloc ?_ ?_ _) | (with_reducible refine Below.setCell ?_ ?_ _) | (with_reducible refine below_drewN ?_ _) | (with_reducible refine Below.drew ?_) | omega | (simp; omega) | (simp; done)))
            simp only [List.setIfInBounds_toArray, List.set_cons_zero, List.set_cons_succ] at R
            clear kT3 kT30 kT31 kT32 kT33 kT34 kT35 kT3f0 kT3f1 kT3f2 kT3f3 kT3f4 kT3f5 kT3l
            generalize ((((((W3.setCell ⟨w.heap.size, 0, none⟩ (.int .i64 p1)).setCell ⟨w.heap.size, 1, none⟩ (.int .i64 p2)).setCell ⟨w.heap.size, 2, none⟩ (.int .i64 p3)).setCell ⟨w.heap.size, 3, none⟩ (.int .i64 p4)).setCell ⟨w.heap.size, 4, none⟩ (.int .i64 p5)).setCell ⟨w.heap.size, 5, none⟩ (.int .i64 p6)) = W9 at R hR ⊢
            have R0 : (W9).cell? ⟨w.heap.size, 0, none⟩ = some (.int .i64 p1) := R.cell 0; have R1 : (W9).cell? ⟨w.heap.size, 1, none⟩ = some (.int .i64 p2) := R.cell 1; have R2 : (W9).cell? ⟨w.heap.size, 2, none⟩ = some (.int .i64 p3) := R.cell 2; have R3 : (W9).cell? ⟨w.heap.size, 3, none⟩ = some (.int .i64 p4) := R.cell 3; have R4 : (W9).cell? ⟨w.heap.size, 4, none⟩ = some (.int .i64 p5) := R.cell 4; have R5 : (W9).cell? ⟨w.heap.size, 5, none⟩ = some (.int .i64 p6) := R.cell 5; have Rl : w.heap.size < (W9).heap.size := R.lt
            refine bodyPost_ret (v := .tuple #[.agg #[.int .i64 p1, .int .i64 p2, .int .i64 p3, .int .i64 p4, .int .i64 p5, .int .i64 p6], .bool true]) (by simp [results, Tryz.results54, go_sem, R0, R1, R2, R3, R4, R5]) rfl ?_
            exact ftPost1 HFST.out HF.out hR
        · have HN2 := Lib.hid (HN.out.row (by omega))
          go_wp2
          go_roundw
          case rel => exact ⟨u + 1, rfl, by omega, HN2, kT, hB⟩
          case measure => simp [intOf]; omega
    · obtain rfl : u = m + 1 := by omega
      have kT0 : (wr).cell? ⟨w.heap.size, 0, none⟩ = some (.int .i64 0) := kT.cell 0; have kT1 : (wr).cell? ⟨w.heap.size, 1, none⟩ = some (.int .i64 0) := kT.cell 1; have kT2 : (wr).cell? ⟨w.heap.size, 2, none⟩ = some (.int .i64 0) := kT.cell 2; have kT3 : (wr).cell? ⟨w.heap.size, 3, none⟩ = some (.int .i64 0) := kT.cell 3; have kT4 : (wr).cell? ⟨w.heap.size, 4, none⟩ = some (.int .i64 0) := kT.cell 4; have kT5 : (wr).cell? ⟨w.heap.size, 5, none⟩ = some (.int .i64 0) := kT.cell 5; have kTf0 : (wr).frozen? ⟨w.heap.size, 0, none⟩ = false := kT.frozen 0; have kTf1 : (wr).frozen? ⟨w.heap.size, 1, none⟩ = false := kT.frozen 1; have kTf2 : (wr).frozen? ⟨w.heap.size, 2, none⟩ = false := kT.frozen 2; have kTf3 : (wr).frozen? ⟨w.heap.size, 3, none⟩ = false := kT.frozen 3; have kTf4 : (wr).frozen? ⟨w.heap.size, 4, none⟩ = false := kT.frozen 4; have kTf5 : (wr).frozen? ⟨w.heap.size, 5, none⟩ = false := kT.frozen 5; have kTl : w.heap.size < (wr).heap.size := kT.lt
      go_wp2
      have R := ((((((kT.set 0 (.int .i64 0)).set 1 (.int .i64 0)).set 2 (.int .i64 0)).set 3 (.int .i64 0)).set 4 (.int .i64 0)).set 5 (.int .i64 0))
      have hR : Below w.heap.size w ((((((wr.setCell ⟨w.heap.size, 0, none⟩ (.int .i64 0)).setCell ⟨w.heap.size, 1, none⟩ (.int .i64 0)).setCell ⟨w.heap.size, 2, none⟩ (.int .i64 0)).setCell ⟨w.heap.size, 3, none⟩ (.int .i64 0)).setCell ⟨w.heap.size, 4, none⟩ (.int .i64 0)).setCell ⟨w.heap.size, 5, none⟩ (.int .i64 0)) := by (repeat' (first | (with_reducible exact Below.refl _ _) | (with_reducible refine below_step (by assumption) ?_ ?_) | (with_reducible refine Below.alloc ?_ ?_ _) | (with_reducible refine Below.setCell ?_ ?_ _) | (with_reducible refine below_drewN ?_ _) | (with_reducible refine Below.drew ?_) | omega | (simp; omega) | (simp; done)))
      simp only [List.setIfInBounds_toArray, List.set_cons_zero, List.set_cons_succ] at R
      clear kT kT0 kT1 kT2 kT3 kT4 kT5 kTf0 kTf1 kTf2 kTf3 kTf4 kTf5 kTl
      generalize ((((((wr.setCell ⟨w.heap.size, 0, none⟩ (.int .i64 0)).setCell ⟨w.heap.size, 1, none⟩ (.int .i64 0)).setCell ⟨w.heap.size, 2, none⟩ (.int .i64 0)).setCell ⟨w.heap.size, 3, none⟩ (.int .i64 0)).setCell ⟨w.heap.size, 4, none⟩ (.int .i64 0)).setCell ⟨w.heap.size, 5, none⟩ (.int .i64 0)) = W9 at R hR ⊢
      have R0 : (W9).cell? ⟨w.heap.size, 0, none⟩ = some (.int .i64 0) := R.cell 0; have R1 : (W9).cell? ⟨w.heap.size, 1, none⟩ = some (.int .i64 0) := R.cell 1; have R2 : (W9).cell? ⟨w.heap.size, 2, none⟩ = some (.int .i64 0) := R.cell 2; have R3 : (W9).cell? ⟨w.heap.size, 3, none⟩ = some (.int .i64 0) := R.cell 3; have R4 : (W9).cell? ⟨w.heap.size, 4, none⟩ = some (.int .i64 0) := R.cell 4; have R5 : (W9).cell? ⟨w.heap.size, 5, none⟩ = some (.int .i64 0) := R.cell 5; have Rl : w.heap.size < (W9).heap.size := R.lt
      refine bodyPost_ret (v := .tuple #[.agg #[.int .i64 0, .int .i64 0, .int .i64 0, .int .i64 0, .int .i64 0, .int .i64 0], .bool false]) (by simp [results, Tryz.results54, go_sem, R0, R1, R2, R3, R4, R5]) rfl ?_
      exact ftPost0 HN.out hR
set_option maxHeartbeats 400000 in
theorem c_firstTriangle (n m : Int) (hn : 1 ≤ n ∧ n ≤ 31) (hm : 2 ≤ m ∧ m ≤ 100) (w : World) :
    Calls Tryz.prog 52 #[.int .i64 n, .int .i64 m] w (TriPost w (ftV n m) (ftB n m)) := by
  have kT := Blk.new w #[.int .i64 0, .int .i64 0, .int .i64 0, .int .i64 0, .int .i64 0, .int .i64 0] 33
  have hb0 : Below w.heap.size w (w.alloc (.cells #[.int .i64 0, .int .i64 0, .int .i64 0, .int .i64 0, .int .i64 0, .int .i64 0] 33)) := by (repeat' (first | (with_reducible exact Below.refl _ _) | (with_reducible refine below_step (by assumption) ?_ ?_) | (with_reducible refine Below.alloc ?_ ?_ _) | (with_reducible refine Below.setCell ?_ ?_ _) | (with_reducible refine below_drewN ?_ _) | (with_reducible refine Below.drew ?_) | omega | (simp; omega) | (simp; done)))
  go_enter Tryz.func52, Tryz.ntmps52
  go_wp2
  generalize w.alloc _ = W at *
  go_loopw [6] (fun x wr => ∃ u : Int, x = .int .i64 u ∧ (1 ≤ u ∧ u ≤ m + 1) ∧ Hid (NoS n u 1) ∧ Blk w.heap.size #[.int .i64 0, .int .i64 0, .int .i64 0, .int .i64 0, .int .i64 0, .int .i64 0] 33 wr ∧ Below w.heap.size w wr) (fun x _ => (m + 1 - intOf x).toNat)
  case atStart => exact ⟨1, rfl, by omega, NoS.start n 1 (by omega), kT, hb0⟩
  case round =>
    clear kT hb0
    obtain ⟨u, rfl, hu, HN, kT, hB⟩ := hrel
    by_cases hum : u ≤ m
    · obtain ⟨wo, rfl⟩ : ∃ wo : World, wo = wr := ⟨_, rfl⟩
      go_wp2
      go_loopw [7] (fun x wr => ∃ v : Int, x = .int .i64 v ∧ (1 ≤ v ∧ v ≤ u) ∧ Hid (NoS n u v) ∧ Blk w.heap.size #[.int .i64 0, .int .i64 0, .int .i64 0, .int .i64 0, .int .i64 0, .int .i64 0] 33 wr ∧ Below w.heap.size w wr) (fun x _ => (u - intOf x).toNat)
      case atStart => exact ⟨1, rfl, by omega, HN, kT, hB⟩
      case round =>
        clear HN kT hB
        obtain ⟨v, rfl, hv, HN, kT, hB⟩ := hrel
        have hs := hB.size
        by_cases hvu : v < u
        · obtain ⟨p1, p2, p3, p4, p5, p6, hf⟩ := scV_form n u v
          have HF := Lib.hid hf
          have hc := fun w => c_scaledTriangle n u v hn (by omega) (by omega) w
          rw [hf] at hc
          cases hb : scB n u v
          · have HN2 := Lib.hid (HN.out.next hb)
            rw [hb] at hc
            have HC := Lib.hid hc
            clear hc hf hb
            go_wp2_with fail
            refine (HC.out _).mono ?_
            rintro e w2 ⟨rfl, hb2⟩
            have kT2 := (kT.next hb2).alloc (.cells #[.int .i64 p1, .int .i64 p2, .int .i64 p3, .int .i64 p4, .int .i64 p5, .int .i64 p6] 33)
            have hz2 := hb2.size
            have hB2 : Below w.heap.size w (w2.alloc (.cells #[.int .i64 p1, .int .i64 p2, .int .i64 p3, .int .i64 p4, .int .i64 p5, .int .i64 p6] 33)) := by (repeat' (first | (with_reducible exact Below.refl _ _) | (with_reducible refine below_step (by assumption) ?_ ?_) | (with_reducible refine Below.alloc ?_ ?_ _) | (with_reducible refine Below.setCell ?_ ?_ _) | (with_reducible refine below_drewN ?_ _) | (with_reducible refine Below.drew ?_) | omega | (simp; omega) | (simp; done)))
            go_wp2
            go_roundw
            case rel => exact ⟨v + 1, rfl, by omega, HN2, kT2, hB2⟩
            case measure => simp [intOf]; omega
          · have hF : Fst n m (u, v) := ⟨⟨hv.1, hvu, hum⟩, hb, HN.out⟩
            have HFST := Lib.hid hF
            clear hF
            rw [hb] at hc
            have HC := Lib.hid hc
            clear hc hf hb
            go_wp2_with fail
            refine (HC.out _).mono ?_
            rintro e w2 ⟨rfl, hb2⟩
            have kT2 := kT.next hb2
            have kN := Blk.new w2 #[.int .i64 p1, .int .i64 p2, .int .i64 p3, .int .i64 p4, .int .i64 p5, .int .i64 p6] 33
            have hB2 : Below w.heap.size w w2 := below_step hb2 hs hB
            have hs2 := hB2.size
            have kT3 := kT2.alloc (.cells #[.int .i64 p1, .int .i64 p2, .int .i64 p3, .int .i64 p4, .int .i64 p5, .int .i64 p6] 33)
            have hB3 : Below w.heap.size w (w2.alloc (.cells #[.int .i64 p1, .int .i64 p2, .int .i64 p3, .int .i64 p4, .int .i64 p5, .int .i64 p6] 33)) := by (repeat' (first | (with_reducible exact Below.refl _ _) | (with_reducible refine below_step (by assumption) ?_ ?_) | (with_reducible refine Below.alloc ?_ ?_ _) | (with_reducible refine Below.setCell ?_ ?_ _) | (with_reducible refine below_drewN ?_ _) | (with_reducible refine Below.drew ?_) | omega | (simp; omega) | (simp; done)))
            go_upto_region 9 with (fail)
            generalize w2.alloc _ = W3 at *
            have kT30 : (W3).cell? ⟨w.heap.size, 0, none⟩ = some (.int .i64 0) := kT3.cell 0; have kT31 : (W3).cell? ⟨w.heap.size, 1, none⟩ = some (.int .i64 0) := kT3.cell 1; have kT32 : (W3).cell? ⟨w.heap.size, 2, none⟩ = some (.int .i64 0) := kT3.cell 2; have kT33 : (W3).cell? ⟨w.heap.size, 3, none⟩ = some (.int .i64 0) := kT3.cell 3; have kT34 : (W3).cell? ⟨w.heap.size, 4, none⟩ = some (.int .i64 0) := kT3.cell 4; have kT35 : (W3).cell? ⟨w.heap.size, 5, none⟩ = some (.int .i64 0) := kT3.cell 5; have kT3f0 : (W3).frozen? ⟨w.heap.size, 0, none⟩ = false := kT3.frozen 0; have kT3f1 : (W3).frozen? ⟨w.heap.size, 1, none⟩ = false := kT3.frozen 1; have kT3f2 : (W3).frozen? ⟨w.heap.size, 2, none⟩ = false := kT3.frozen 2; have kT3f3 : (W3).frozen? ⟨w.heap.size, 3, none⟩ = false := kT3.frozen 3; have kT3f4 : (W3).frozen? ⟨w.heap.size, 4, none⟩ = false := kT3.frozen 4; have kT3f5 : (W3).frozen? ⟨w.heap.size, 5, none⟩ = false := kT3.frozen 5; have kT3l : w.heap.size < (W3).heap.size := kT3.lt
            have kN0 : (W3).cell? ⟨w2.heap.size, 0, none⟩ = some (.int .i64 p1) := kN.cell 0; have kN1 : (W3).cell? ⟨w2.heap.size, 1, none⟩ = some (.int .i64 p2) := kN.cell 1; have kN2 : (W3).cell? ⟨w2.heap.size, 2, none⟩ = some (.int .i64 p3) := kN.cell 2; have kN3 : (W3).cell? ⟨w2.heap.size, 3, none⟩ = some (.int .i64 p4) := kN.cell 3; have kN4 : (W3).cell? ⟨w2.heap.size, 4, none⟩ = some (.int .i64 p5) := kN.cell 4; have kN5 : (W3).cell? ⟨w2.heap.size, 5, none⟩ = some (.int .i64 p6) := kN.cell 5; have kNl : w2.heap.size < (W3).heap.size := kN.lt
            go_wp2
            have R := ((((((kT3.set 0 (.int .i64 p1)).set 1 (.int .i64 p2)).set 2 (.int .i64 p3)).set 3 (.int .i64 p4)).set 4 (.int .i64 p5)).set 5 (.int .i64 p6))
            have hR : Below w.heap.size w ((((((W3.setCell ⟨w.heap.size, 0, none⟩ (.int .i64 p1)).setCell ⟨w.heap.size, 1, none⟩ (.int .i64 p2)).setCell ⟨w.heap.size, 2, none⟩ (.int .i64 p3)).setCell ⟨w.heap.size, 3, none⟩ (.int .i64 p4)).setCell ⟨w.heap.size, 4, none⟩ (.int .i64 p5)).setCell ⟨w.heap.size, 5, none⟩ (.int .i64 p6)) := by (repeat' (first | (with_reducible exact Below.refl _ _) | (with_reducible refine below_step (by assumption) ?_ ?_) | (with_reducible refine Below.alloc ?_ ?_ _) | (with_reducible refine Below.setCell ?_ ?_ _) | (with_reducible refine below_drewN ?_ _) | (with_reducible refine Below.drew ?_) | omega | (simp; omega) | (simp; done)))
            simp only [List.setIfInBounds_toArray, List.set_cons_zero, List.set_cons_succ] at R
            clear kT3 kT30 kT31 kT32 kT33 kT34 kT35 kT3f0 kT3f1 kT3f2 kT3f3 kT3f4 kT3f5 kT3l
            generalize ((((((W3.setCell ⟨w.heap.size, 0, none⟩ (.int .i64 p1)).setCell ⟨w.heap.size, 1, none⟩ (.int .i64 p2)).setCell ⟨w.heap.size, 2, none⟩ (.int .i64 p3)).setCell ⟨w.heap.size, 3, none⟩ (.int .i64 p4)).setCell ⟨w.heap.size, 4, none⟩ (.int .i64 p5)).setCell ⟨w.heap.size, 5, none⟩ (.int .i64 p6)) = W9 at R hR ⊢
            have R0 : (W9).cell? ⟨w.heap.size, 0, none⟩ = some (.int .i64 p1) := R.cell 0; have R1 : (W9).cell? ⟨w.heap.size, 1, none⟩ = some (.int .i64 p2) := R.cell 1; have R2 : (W9).cell? ⟨w.heap.size, 2, none⟩ = some (.int .i64 p3) := R.cell 2; have R3 : (W9).cell? ⟨w.heap.size, 3, none⟩ = some (.int .i64 p4) := R.cell 3; have R4 : (W9).cell? ⟨w.heap.size, 4, none⟩ = some (.int .i64 p5) := R.cell 4; have R5 : (W9).cell? ⟨w.heap.size, 5, none⟩ = some (.int .i64 p6) := R.cell 5; have Rl : w.heap.size < (W9).heap.size := R.lt
            refine bodyPost_ret (v := .tuple #[.agg #[.int .i64 p1, .int .i64 p2, .int .i64 p3, .int .i64 p4, .int .i64 p5, .int .i64 p6], .bool true]) (by simp [results, Tryz.results52, go_sem, R0, R1, R2, R3, R4, R5]) rfl ?_
            exact ftPost1 HFST.out HF.out hR
        · have HN2 := Lib.hid (HN.out.row (by omega))
          go_wp2
          go_roundw
          case rel => exact ⟨u + 1, rfl, by omega, HN2, kT, hB⟩
          case measure => simp [intOf]; omega
    · obtain rfl : u = m + 1 := by omega
      have kT0 : (wr).cell? ⟨w.heap.size, 0, none⟩ = some (.int .i64 0) := kT.cell 0; have kT1 : (wr).cell? ⟨w.heap.size, 1, none⟩ = some (.int .i64 0) := kT.cell 1; have kT2 : (wr).cell? ⟨w.heap.size, 2, none⟩ = some (.int .i64 0) := kT.cell 2; have kT3 : (wr).cell? ⟨w.heap.size, 3, none⟩ = some (.int .i64 0) := kT.cell 3; have kT4 : (wr).cell? ⟨w.heap.size, 4, none⟩ = some (.int .i64 0) := kT.cell 4; have kT5 : (wr).cell? ⟨w.heap.size, 5, none⟩ = some (.int .i64 0) := kT.cell 5; have kTf0 : (wr).frozen? ⟨w.heap.size, 0, none⟩ = false := kT.frozen 0; have kTf1 : (wr).frozen? ⟨w.heap.size, 1, none⟩ = false := kT.frozen 1; have kTf2 : (wr).frozen? ⟨w.heap.size, 2, none⟩ = false := kT.frozen 2; have kTf3 : (wr).frozen? ⟨w.heap.size, 3, none⟩ = false := kT.frozen 3; have kTf4 : (wr).frozen? ⟨w.heap.size, 4, none⟩ = false := kT.frozen 4; have kTf5 : (wr).frozen? ⟨w.heap.size, 5, none⟩ = false := kT.frozen 5; have kTl : w.heap.size < (wr).heap.size := kT.lt
      go_wp2
      have R := ((((((kT.set 0 (.int .i64 0)).set 1 (.int .i64 0)).set 2 (.int .i64 0)).set 3 (.int .i64 0)).set 4 (.int .i64 0)).set 5 (.int .i64 0))
      have hR : Below w.heap.size w ((((((wr.setCell ⟨w.heap.size, 0, none⟩ (.int .i64 0)).setCell ⟨w.heap.size, 1, none⟩ (.int .i64 0)).setCell ⟨w.heap.size, 2, none⟩ (.int .i64 0)).setCell ⟨w.heap.size, 3, none⟩ (.int .i64 0)).setCell ⟨w.heap.size, 4, none⟩ (.int .i64 0)).setCell ⟨w.heap.size, 5, none⟩ (.int .i64 0)) := by (repeat' (first | (with_reducible exact Below.refl _ _) | (with_reducible refine below_step (by assumption) ?_ ?_) | (with_reducible refine Below.alloc ?_ ?_ _) | (with_reducible refine Below.setCell ?_ ?_ _) | (with_reducible refine below_drewN ?_ _) | (with_reducible refine Below.drew ?_) | omega | (simp; omega) | (simp; done)))
      simp only [List.setIfInBounds_toArray, List.set_cons_zero, List.set_cons_succ] at R
      clear kT kT0 kT1 kT2 kT3 kT4 kT5 kTf0 kTf1 kTf2 kTf3 kTf4 kTf5 kTl
      generalize ((((((wr.setCell ⟨w.heap.size, 0, none⟩ (.int .i64 0)).setCell ⟨w.heap.size, 1, none⟩ (.int .i64 0)).setCell ⟨w.heap.size, 2, none⟩ (.int .i64 0)).setCell ⟨w.heap.size, 3, none⟩ (.int .i64 0)).setCell ⟨w.heap.size, 4, none⟩ (.int .i64 0)).setCell ⟨w.heap.size, 5, none⟩ (.int .i64 0)) = W9 at R hR ⊢
      have R0 : (W9).cell? ⟨w.heap.size, 0, none⟩ = some (.int .i64 0) := R.cell 0; have R1 : (W9).cell? ⟨w.heap.size, 1, none⟩ = some (.int .i64 0) := R.cell 1; have R2 : (W9).cell? ⟨w.heap.size, 2, none⟩ = some (.int .i64 0) := R.cell 2; have R3 : (W9).cell? ⟨w.heap.size, 3, none⟩ = some (.int .i64 0) := R.cell 3; have R4 : (W9).cell? ⟨w.heap.size, 4, none⟩ = some (.int .i64 0) := R.cell 4; have R5 : (W9).cell? ⟨w.heap.size, 5, none⟩ = some (.int .i64 0) := R.cell 5; have Rl : w.heap.size < (W9).heap.size := R.lt
      refine bodyPost_ret (v := .tuple #[.agg #[.int .i64 0, .int .i64 0, .int .i64 0, .int .i64 0, .int .i64 0, .int .i64 0], .bool false]) (by simp [results, Tryz.results52, go_sem, R0, R1, R2, R3, R4, R5]) rfl ?_
      exact ftPost0 HN.out hR
noncomputable def faB (n m : Int) : Bool := areaB n && inB m 2 100
noncomputable def frV (n m : Int) : Value := if faB n m then ftV n m else tri0
theorem faB_of {n m : Int} (h : faB n m = true) : (1 ≤ n ∧ n ≤ 31) ∧ (2 ≤ m ∧ m ≤ 100) := by
  unfold faB at h
  simp only [Bool.and_eq_true] at h
  exact ⟨areaB_bd h.1, inB_true h.2⟩
theorem fr_no {w w' : World} {n m : Int} (h : faB n m = false) (hb : Below w.heap.size w w') : TriPost w (frV n m) (faB n m && ftB n m) (.returned (.tuple #[.agg #[.int .i64 0, .int .i64 0, .int .i64 0, .int .i64 0, .int .i64 0, .int .i64 0], .bool false])) w' := by
  unfold frV; rw [h]; exact ⟨rfl, hb⟩
theorem fr_yes {w w' : World} {n m p1 p2 p3 p4 p5 p6 : Int} {b : Bool} (h : faB n m = true) (hV : ftV n m = .agg #[.int .i64 p1, .int .i64 p2, .int .i64 p3, .int .i64 p4, .int .i64 p5, .int .i64 p6]) (hb2 : ftB n m = b) (hb : Below w.heap.size w w') : TriPost w (frV n m) (faB n m && ftB n m) (.returned (.tuple #[.agg #[.int .i64 p1, .int .i64 p2, .int .i64 p3, .int .i64 p4, .int .i64 p5, .int .i64 p6], .bool b])) w' := by
  unfold frV; rw [h, if_pos rfl, hV, hb2]; exact ⟨rfl, hb⟩
theorem frV_form (n m : Int) : ∃ p q r s t u' : Int, frV n m = .agg #[.int .i64 p, .int .i64 q, .int .i64 r, .int .i64 s, .int .i64 t, .int .i64 u'] := by
  unfold frV
  split
  · exact ftV_form _ _
  · exact ⟨0, 0, 0, 0, 0, 0, rfl⟩
theorem c_cnAsked (n m : Int) (w : World) :
    Calls Tryz.prog 53 #[.int .i64 n, .int .i64 m] w fun e w' => e = .returned (.bool (faB n m)) ∧ Below w.heap.size w w' := by
  unfold faB
  cases h1 : areaB n
  · go_enter Tryz.func53, Tryz.ntmps53
    go_wp2_with ((go_at_call 46; refine (c_cnGood _ _).mono ?_; rintro e w1 ⟨rfl, hb1⟩; obtain ⟨hc1, hf1⟩ := bcell hb1; have hz1 := hb1.size; (try simp only [World.size_alloc] at hz1); (try (have hy1 : w.heap.size < w1.heap.size := by omega)); (try (have hx1 := Nat.lt_of_succ_le hz1)); (try (have hv1 := Nat.lt_of_succ_le (Nat.le_of_lt hx1)))))
    go_ret
    refine ⟨rfl, ?_⟩
    (repeat' (first | (with_reducible exact Below.refl _ _) | (with_reducible refine below_step (by assumption) ?_ ?_) | (with_reducible refine Below.alloc ?_ ?_ _) | (with_reducible refine Below.setCell ?_ ?_ _) | (with_reducible refine below_drewN ?_ _) | (with_reducible refine Below.drew ?_) | omega | (simp; omega) | (simp; done)))
  · go_enter Tryz.func53, Tryz.ntmps53
    go_wp2_with fail
    (go_at_call 46; refine (c_cnGood _ _).mono ?_; rintro e w1 ⟨rfl, hb1⟩; obtain ⟨hc1, hf1⟩ := bcell hb1; have hz1 := hb1.size; (try simp only [World.size_alloc] at hz1); (try (have hy1 : w.heap.size < w1.heap.size := by omega)); (try (have hx1 := Nat.lt_of_succ_le hz1)); (try (have hv1 := Nat.lt_of_succ_le (Nat.le_of_lt hx1))))
    go_wp2_with ((go_at_call 94; refine (c_l1In _ _ _ _).mono ?_; rintro e w' ⟨rfl, rfl⟩))
    go_ret
    refine ⟨rfl, ?_⟩
    (repeat' (first | (with_reducible exact Below.refl _ _) | (with_reducible refine below_step (by assumption) ?_ ?_) | (with_reducible refine Below.alloc ?_ ?_ _) | (with_reducible refine Below.setCell ?_ ?_ _) | (with_reducible refine below_drewN ?_ _) | (with_reducible refine Below.drew ?_) | omega | (simp; omega) | (simp; done)))
set_option maxHeartbeats 4000000 in
theorem c_sFirst (n m : Int) (w : World) :
    Calls Tryz.prog 12 #[.int .i64 n, .int .i64 m] w (TriPost w (frV n m) (faB n m && ftB n m)) := by
  have kT := Blk.new w #[.int .i64 0, .int .i64 0, .int .i64 0, .int .i64 0, .int .i64 0, .int .i64 0] 33
  have hb0 : Below w.heap.size w (w.alloc (.cells #[.int .i64 0, .int .i64 0, .int .i64 0, .int .i64 0, .int .i64 0, .int .i64 0] 33)) := by (repeat' (first | (with_reducible exact Below.refl _ _) | (with_reducible refine below_step (by assumption) ?_ ?_) | (with_reducible refine Below.alloc ?_ ?_ _) | (with_reducible refine Below.setCell ?_ ?_ _) | (with_reducible refine below_drewN ?_ _) | (with_reducible refine Below.drew ?_) | omega | (simp; omega) | (simp; done)))
  have HA : Hid (∀ w, _) := fun w => c_cnAsked n m w
  obtain ⟨b0, h⟩ : ∃ b0, faB n m = b0 := ⟨_, rfl⟩
  cases b0
  · have HE := Lib.hid h
    rw [h] at HA
    go_enter Tryz.func12, Tryz.ntmps12
    go_wp2_with fail
    (go_at_call 53; refine (HA.out _).mono ?_; rintro e w1 ⟨rfl, hb1⟩; obtain ⟨hc1, hf1⟩ := bcell hb1; have hz1 := hb1.size; (try simp only [World.size_alloc] at hz1); (try (have hy1 : w.heap.size < w1.heap.size := by omega)); (try (have hx1 := Nat.lt_of_succ_le hz1)); (try (have hv1 := Nat.lt_of_succ_le (Nat.le_of_lt hx1))))
    replace kT := kT.next hb1
    have kT0 : (w1).cell? ⟨w.heap.size, 0, none⟩ = some (.int .i64 0) := kT.cell 0; have kT1 : (w1).cell? ⟨w.heap.size, 1, none⟩ = some (.int .i64 0) := kT.cell 1; have kT2 : (w1).cell? ⟨w.heap.size, 2, none⟩ = some (.int .i64 0) := kT.cell 2; have kT3 : (w1).cell? ⟨w.heap.size, 3, none⟩ = some (.int .i64 0) := kT.cell 3; have kT4 : (w1).cell? ⟨w.heap.size, 4, none⟩ = some (.int .i64 0) := kT.cell 4; have kT5 : (w1).cell? ⟨w.heap.size, 5, none⟩ = some (.int .i64 0) := kT.cell 5; have kTf0 : (w1).frozen? ⟨w.heap.size, 0, none⟩ = false := kT.frozen 0; have kTf1 : (w1).frozen? ⟨w.heap.size, 1, none⟩ = false := kT.frozen 1; have kTf2 : (w1).frozen? ⟨w.heap.size, 2, none⟩ = false := kT.frozen 2; have kTf3 : (w1).frozen? ⟨w.heap.size, 3, none⟩ = false := kT.frozen 3; have kTf4 : (w1).frozen? ⟨w.heap.size, 4, none⟩ = false := kT.frozen 4; have kTf5 : (w1).frozen? ⟨w.heap.size, 5, none⟩ = false := kT.frozen 5; have kTl : w.heap.size < (w1).heap.size := kT.lt
    go_wp2
    have R := ((((((kT.set 0 (.int .i64 0)).set 1 (.int .i64 0)).set 2 (.int .i64 0)).set 3 (.int .i64 0)).set 4 (.int .i64 0)).set 5 (.int .i64 0))
    have hR : Below w.heap.size w ((((((w1.setCell ⟨w.heap.size, 0, none⟩ (.int .i64 0)).setCell ⟨w.heap.size, 1, none⟩ (.int .i64 0)).setCell ⟨w.heap.size, 2, none⟩ (.int .i64 0)).setCell ⟨w.heap.size, 3, none⟩ (.int .i64 0)).setCell ⟨w.heap.size, 4, none⟩ (.int .i64 0)).setCell ⟨w.heap.size, 5, none⟩ (.int .i64 0)) := by (repeat' (first | (with_reducible exact Below.refl _ _) | (with_reducible refine below_step (by assumption) ?_ ?_) | (with_reducible refine Below.alloc ?_ ?_ _) | (with_reducible refine Below.setCell ?_ ?_ _) | (with_reducible refine below_drewN ?_ _) | (with_reducible refine Below.drew ?_) | omega | (simp; omega) | (simp; done)))
    simp only [List.setIfInBounds_toArray, List.set_cons_zero, List.set_cons_succ] at R
    clear kT kT0 kT1 kT2 kT3 kT4 kT5 kTf0 kTf1 kTf2 kTf3 kTf4 kTf5 kTl
    generalize ((((((w1.setCell ⟨w.heap.size, 0, none⟩ (.int .i64 0)).setCell ⟨w.heap.size, 1, none⟩ (.int .i64 0)).setCell ⟨w.heap.size, 2, none⟩ (.int .i64 0)).setCell ⟨w.heap.size, 3, none⟩ (.int .i64 0)).setCell ⟨w.heap.size, 4, none⟩ (.int .i64 0)).setCell ⟨w.heap.size, 5, none⟩ (.int .i64 0)) = W9 at R hR ⊢
    have R0 : (W9).cell? ⟨w.heap.size, 0, none⟩ = some (.int .i64 0) := R.cell 0; have R1 : (W9).cell? ⟨w.heap.size, 1, none⟩ = some (.int .i64 0) := R.cell 1; have R2 : (W9).cell? ⟨w.heap.size, 2, none⟩ = some (.int .i64 0) := R.cell 2; have R3 : (W9).cell? ⟨w.heap.size, 3, none⟩ = some (.int .i64 0) := R.cell 3; have R4 : (W9).cell? ⟨w.heap.size, 4, none⟩ = some (.int .i64 0) := R.cell 4; have R5 : (W9).cell? ⟨w.heap.size, 5, none⟩ = some (.int .i64 0) := R.cell 5; have Rl : w.heap.size < (W9).heap.size := R.lt
    refine bodyPost_ret (v := .tuple #[.agg #[.int .i64 0, .int .i64 0, .int .i64 0, .int .i64 0, .int .i64 0, .int .i64 0], .bool false]) (by simp [results, Tryz.results12, go_sem, R0, R1, R2, R3, R4, R5]) rfl ?_
    exact fr_no HE.out hR
  · have HE := Lib.hid h
    rw [h] at HA
    obtain ⟨hn, hm⟩ := faB_of h
    have hc := fun w => c_cnFirst n m hn hm w
    obtain ⟨p1, p2, p3, p4, p5, p6, hf⟩ := ftV_form n m
    have HF := Lib.hid hf
    rw [hf] at hc
    obtain ⟨b, hb⟩ : ∃ b, ftB n m = b := ⟨_, rfl⟩
    have HBB := Lib.hid hb
    rw [hb] at hc
    have HC := Lib.hid hc
    clear hc hf hb h
    go_enter Tryz.func12, Tryz.ntmps12
    go_wp2_with fail
    (go_at_call 53; refine (HA.out _).mono ?_; rintro e w1 ⟨rfl, hb1⟩; obtain ⟨hc1, hf1⟩ := bcell hb1; have hz1 := hb1.size; (try simp only [World.size_alloc] at hz1); (try (have hy1 : w.heap.size < w1.heap.size := by omega)); (try (have hx1 := Nat.lt_of_succ_le hz1)); (try (have hv1 := Nat.lt_of_succ_le (Nat.le_of_lt hx1))))
    replace kT := kT.next hb1
    have hB1 : Below w.heap.size w w1 := by (repeat' (first | (with_reducible exact Below.refl _ _) | (with_reducible refine below_step (by assumption) ?_ ?_) | (with_reducible refine Below.alloc ?_ ?_ _) | (with_reducible refine Below.setCell ?_ ?_ _) | (with_reducible refine below_drewN ?_ _) | (with_reducible refine Below.drew ?_) | omega | (simp; omega) | (simp; done)))
    go_wp2_with fail
    refine (HC.out _).mono ?_
    rintro e w2 ⟨rfl, hb2⟩
    have kT2 := kT.next hb2
    have hB2 := below_step hb2 hB1.size hB1
    have kT20 : (w2).cell? ⟨w.heap.size, 0, none⟩ = some (.int .i64 0) := kT2.cell 0; have kT21 : (w2).cell? ⟨w.heap.size, 1, none⟩ = some (.int .i64 0) := kT2.cell 1; have kT22 : (w2).cell? ⟨w.heap.size, 2, none⟩ = some (.int .i64 0) := kT2.cell 2; have kT23 : (w2).cell? ⟨w.heap.size, 3, none⟩ = some (.int .i64 0) := kT2.cell 3; have kT24 : (w2).cell? ⟨w.heap.size, 4, none⟩ = some (.int .i64 0) := kT2.cell 4; have kT25 : (w2).cell? ⟨w.heap.size, 5, none⟩ = some (.int .i64 0) := kT2.cell 5; have kT2f0 : (w2).frozen? ⟨w.heap.size, 0, none⟩ = false := kT2.frozen 0; have kT2f1 : (w2).frozen? ⟨w.heap.size, 1, none⟩ = false := kT2.frozen 1; have kT2f2 : (w2).frozen? ⟨w.heap.size, 2, none⟩ = false := kT2.frozen 2; have kT2f3 : (w2).frozen? ⟨w.heap.size, 3, none⟩ = false := kT2.frozen 3; have kT2f4 : (w2).frozen? ⟨w.heap.size, 4, none⟩ = false := kT2.frozen 4; have kT2f5 : (w2).frozen? ⟨w.heap.size, 5, none⟩ = false := kT2.frozen 5; have kT2l : w.heap.size < (w2).heap.size := kT2.lt
    go_wp2
    have R := ((((((kT2.set 0 (.int .i64 p1)).set 1 (.int .i64 p2)).set 2 (.int .i64 p3)).set 3 (.int .i64 p4)).set 4 (.int .i64 p5)).set 5 (.int .i64 p6))
    have hR : Below w.heap.size w ((((((w2.setCell ⟨w.heap.size, 0, none⟩ (.int .i64 p1)).setCell ⟨w.heap.size, 1, none⟩ (.int .i64 p2)).setCell ⟨w.heap.size, 2, none⟩ (.int .i64 p3)).setCell ⟨w.heap.size, 3, none⟩ (.int .i64 p4)).setCell ⟨w.heap.size, 4, none⟩ (.int .i64 p5)).setCell ⟨w.heap.size, 5, none⟩ (.int .i64 p6)) := by (repeat' (first | (with_reducible exact Below.refl _ _) | (with_reducible refine below_step (by assumption) ?_ ?_) | (with_reducible refine Below.alloc ?_ ?_ _) | (with_reducible refine Below.setCell ?_ ?_ _) | (with_reducible refine below_drewN ?_ _) | (with_reducible refine Below.drew ?_) | omega | (simp; omega) | (simp; done)))
    simp only [List.setIfInBounds_toArray, List.set_cons_zero, List.set_cons_succ] at R
    clear kT2 kT20 kT21 kT22 kT23 kT24 kT25 kT2f0 kT2f1 kT2f2 kT2f3 kT2f4 kT2f5 kT2l
    generalize ((((((w2.setCell ⟨w.heap.size, 0, none⟩ (.int .i64 p1)).setCell ⟨w.heap.size, 1, none⟩ (.int .i64 p2)).setCell ⟨w.heap.size, 2, none⟩ (.int .i64 p3)).setCell ⟨w.heap.size, 3, none⟩ (.int .i64 p4)).setCell ⟨w.heap.size, 4, none⟩ (.int .i64 p5)).setCell ⟨w.heap.size, 5, none⟩ (.int .i64 p6)) = W9 at R hR ⊢
    have R0 : (W9).cell? ⟨w.heap.size, 0, none⟩ = some (.int .i64 p1) := R.cell 0; have R1 : (W9).cell? ⟨w.heap.size, 1, none⟩ = some (.int .i64 p2) := R.cell 1; have R2 : (W9).cell? ⟨w.heap.size, 2, none⟩ = some (.int .i64 p3) := R.cell 2; have R3 : (W9).cell? ⟨w.heap.size, 3, none⟩ = some (.int .i64 p4) := R.cell 3; have R4 : (W9).cell? ⟨w.heap.size, 4, none⟩ = some (.int .i64 p5) := R.cell 4; have R5 : (W9).cell? ⟨w.heap.size, 5, none⟩ = some (.int .i64 p6) := R.cell 5; have Rl : w.heap.size < (W9).heap.size := R.lt
    refine bodyPost_ret (v := .tuple #[.agg #[.int .i64 p1, .int .i64 p2, .int .i64 p3, .int .i64 p4, .int .i64 p5, .int .i64 p6], .bool b]) (by simp [results, Tryz.results12, go_sem, R0, R1, R2, R3, R4, R5]) rfl ?_
    exact fr_yes HE.out HF.out HBB.out hR
set_option maxHeartbeats 4000000 in
theorem c_iFirst (n m : Int) (w : World) :
    Calls Tryz.prog 11 #[.int .i64 n, .int .i64 m] w (TriPost w (frV n m) (faB n m && ftB n m)) := by
  have kT := Blk.new w #[.int .i64 0, .int .i64 0, .int .i64 0, .int .i64 0, .int .i64 0, .int .i64 0] 33
  have hb0 : Below w.heap.size w (w.alloc (.cells #[.int .i64 0, .int .i64 0, .int .i64 0, .int .i64 0, .int .i64 0, .int .i64 0] 33)) := by (repeat' (first | (with_reducible exact Below.refl _ _) | (with_reducible refine below_step (by assumption) ?_ ?_) | (with_reducible refine Below.alloc ?_ ?_ _) | (with_reducible refine Below.setCell ?_ ?_ _) | (with_reducible refine below_drewN ?_ _) | (with_reducible refine Below.drew ?_) | omega | (simp; omega) | (simp; done)))
  have HG : Hid (∀ w, _) := fun w => c_isArea n w
  have H1 : Hid (∀ w, _) := fun w => c_inside m 2 100 w
  have HD : Hid (faB n m = (areaB n && inB m 2 100)) := rfl
  cases h1 : areaB n
  · have HE : Hid (faB n m = false) := by show _ = _; rw [HD.out, h1]; rfl
    rw [h1] at HG
    go_enter Tryz.func11, Tryz.ntmps11
    go_wp2_with fail
    (go_at_call 44; refine (HG.out _).mono ?_; rintro e w1 ⟨rfl, hb1⟩; obtain ⟨hc1, hf1⟩ := bcell hb1; have hz1 := hb1.size; (try simp only [World.size_alloc] at hz1); (try (have hy1 : w.heap.size < w1.heap.size := by omega)); (try (have hx1 := Nat.lt_of_succ_le hz1)); (try (have hv1 := Nat.lt_of_succ_le (Nat.le_of_lt hx1))))
    replace kT := kT.next hb1
    have kT0 : (w1).cell? ⟨w.heap.size, 0, none⟩ = some (.int .i64 0) := kT.cell 0; have kT1 : (w1).cell? ⟨w.heap.size, 1, none⟩ = some (.int .i64 0) := kT.cell 1; have kT2 : (w1).cell? ⟨w.heap.size, 2, none⟩ = some (.int .i64 0) := kT.cell 2; have kT3 : (w1).cell? ⟨w.heap.size, 3, none⟩ = some (.int .i64 0) := kT.cell 3; have kT4 : (w1).cell? ⟨w.heap.size, 4, none⟩ = some (.int .i64 0) := kT.cell 4; have kT5 : (w1).cell? ⟨w.heap.size, 5, none⟩ = some (.int .i64 0) := kT.cell 5; have kTf0 : (w1).frozen? ⟨w.heap.size, 0, none⟩ = false := kT.frozen 0; have kTf1 : (w1).frozen? ⟨w.heap.size, 1, none⟩ = false := kT.frozen 1; have kTf2 : (w1).frozen? ⟨w.heap.size, 2, none⟩ = false := kT.frozen 2; have kTf3 : (w1).frozen? ⟨w.heap.size, 3, none⟩ = false := kT.frozen 3; have kTf4 : (w1).frozen? ⟨w.heap.size, 4, none⟩ = false := kT.frozen 4; have kTf5 : (w1).frozen? ⟨w.heap.size, 5, none⟩ = false := kT.frozen 5; have kTl : w.heap.size < (w1).heap.size := kT.lt
    go_wp2
    have R := ((((((kT.set 0 (.int .i64 0)).set 1 (.int .i64 0)).set 2 (.int .i64 0)).set 3 (.int .i64 0)).set 4 (.int .i64 0)).set 5 (.int .i64 0))
    have hR : Below w.heap.size w ((((((w1.setCell ⟨w.heap.size, 0, none⟩ (.int .i64 0)).setCell ⟨w.heap.size, 1, none⟩ (.int .i64 0)).setCell ⟨w.heap.size, 2, none⟩ (.int .i64 0)).setCell ⟨w.heap.size, 3, none⟩ (.int .i64 0)).setCell ⟨w.heap.size, 4, none⟩ (.int .i64 0)).setCell ⟨w.heap.size, 5, none⟩ (.int .i64 0)) := by (repeat' (first | (with_reducible exact Below.refl _ _) | (with_reducible refine below_step (by assumption) ?_ ?_) | (with_reducible refine Below.alloc ?_ ?_ _) | (with_reducible refine Below.setCell ?_ ?_ _) | (with_reducible refine below_drewN ?_ _) | (with_reducible refine Below.drew ?_) | omega | (simp; omega) | (simp; done)))
    simp only [List.setIfInBounds_toArray, List.set_cons_zero, List.set_cons_succ] at R
    clear kT kT0 kT1 kT2 kT3 kT4 kT5 kTf0 kTf1 kTf2 kTf3 kTf4 kTf5 kTl
    generalize ((((((w1.setCell ⟨w.heap.size, 0, none⟩ (.int .i64 0)).setCell ⟨w.heap.size, 1, none⟩ (.int .i64 0)).setCell ⟨w.heap.size, 2, none⟩ (.int .i64 0)).setCell ⟨w.heap.size, 3, none⟩ (.int .i64 0)).setCell ⟨w.heap.size, 4, none⟩ (.int .i64 0)).setCell ⟨w.heap.size, 5, none⟩ (.int .i64 0)) = W9 at R hR ⊢
    have R0 : (W9).cell? ⟨w.heap.size, 0, none⟩ = some (.int .i64 0) := R.cell 0; have R1 : (W9).cell? ⟨w.heap.size, 1, none⟩ = some (.int .i64 0) := R.cell 1; have R2 : (W9).cell? ⟨w.heap.size, 2, none⟩ = some (.int .i64 0) := R.cell 2; have R3 : (W9).cell? ⟨w.heap.size, 3, none⟩ = some (.int .i64 0) := R.cell 3; have R4 : (W9).cell? ⟨w.heap.size, 4, none⟩ = some (.int .i64 0) := R.cell 4; have R5 : (W9).cell? ⟨w.heap.size, 5, none⟩ = some (.int .i64 0) := R.cell 5; have Rl : w.heap.size < (W9).heap.size := R.lt
    refine bodyPost_ret (v := .tuple #[.agg #[.int .i64 0, .int .i64 0, .int .i64 0, .int .i64 0, .int .i64 0, .int .i64 0], .bool false]) (by simp [results, Tryz.results11, go_sem, R0, R1, R2, R3, R4, R5]) rfl ?_
    exact fr_no HE.out hR
  · cases h2 : inB m 2 100
    · have HE : Hid (faB n m = false) := by show _ = _; rw [HD.out, h2, Bool.and_false]
      rw [h1] at HG
      rw [h2] at H1
      go_enter Tryz.func11, Tryz.ntmps11
      go_wp2_with fail
      (go_at_call 44; refine (HG.out _).mono ?_; rintro e w1 ⟨rfl, hb1⟩; obtain ⟨hc1, hf1⟩ := bcell hb1; have hz1 := hb1.size; (try simp only [World.size_alloc] at hz1); (try (have hy1 : w.heap.size < w1.heap.size := by omega)); (try (have hx1 := Nat.lt_of_succ_le hz1)); (try (have hv1 := Nat.lt_of_succ_le (Nat.le_of_lt hx1))))
      replace kT := kT.next hb1
      have kT0 : (w1).cell? ⟨w.heap.size, 0, none⟩ = some (.int .i64 0) := kT.cell 0; have kT1 : (w1).cell? ⟨w.heap.size, 1, none⟩ = some (.int .i64 0) := kT.cell 1; have kT2 : (w1).cell? ⟨w.heap.size, 2, none⟩ = some (.int .i64 0) := kT.cell 2; have kT3 : (w1).cell? ⟨w.heap.size, 3, none⟩ = some (.int .i64 0) := kT.cell 3; have kT4 : (w1).cell? ⟨w.heap.size, 4, none⟩ = some (.int .i64 0) := kT.cell 4; have kT5 : (w1).cell? ⟨w.heap.size, 5, none⟩ = some (.int .i64 0) := kT.cell 5; have kTf0 : (w1).frozen? ⟨w.heap.size, 0, none⟩ = false := kT.frozen 0; have kTf1 : (w1).frozen? ⟨w.heap.size, 1, none⟩ = false := kT.frozen 1; have kTf2 : (w1).frozen? ⟨w.heap.size, 2, none⟩ = false := kT.frozen 2; have kTf3 : (w1).frozen? ⟨w.heap.size, 3, none⟩ = false := kT.frozen 3; have kTf4 : (w1).frozen? ⟨w.heap.size, 4, none⟩ = false := kT.frozen 4; have kTf5 : (w1).frozen? ⟨w.heap.size, 5, none⟩ = false := kT.frozen 5; have kTl : w.heap.size < (w1).heap.size := kT.lt
      go_wp2_with fail
      refine (H1.out _).mono ?_
      rintro e w' ⟨rfl, rfl⟩
      go_wp2
      have R := ((((((kT.set 0 (.int .i64 0)).set 1 (.int .i64 0)).set 2 (.int .i64 0)).set 3 (.int .i64 0)).set 4 (.int .i64 0)).set 5 (.int .i64 0))
      have hR : Below w.heap.size w ((((((w1.setCell ⟨w.heap.size, 0, none⟩ (.int .i64 0)).setCell ⟨w.heap.size, 1, none⟩ (.int .i64 0)).setCell ⟨w.heap.size, 2, none⟩ (.int .i64 0)).setCell ⟨w.heap.size, 3, none⟩ (.int .i64 0)).setCell ⟨w.heap.size, 4, none⟩ (.int .i64 0)).setCell ⟨w.heap.size, 5, none⟩ (.int .i64 0)) := by (repeat' (first | (with_reducible exact Below.refl _ _) | (with_reducible refine below_step (by assumption) ?_ ?_) | (with_reducible refine Below.alloc ?_ ?_ _) | (with_reducible refine Below.setCell ?_ ?_ _) | (with_reducible refine below_drewN ?_ _) | (with_reducible refine Below.drew ?_) | omega | (simp; omega) | (simp; done)))
      simp only [List.setIfInBounds_toArray, List.set_cons_zero, List.set_cons_succ] at R
      clear kT kT0 kT1 kT2 kT3 kT4 kT5 kTf0 kTf1 kTf2 kTf3 kTf4 kTf5 kTl
      generalize ((((((w1.setCell ⟨w.heap.size, 0, none⟩ (.int .i64 0)).setCell ⟨w.heap.size, 1, none⟩ (.int .i64 0)).setCell ⟨w.heap.size, 2, none⟩ (.int .i64 0)).setCell ⟨w.heap.size, 3, none⟩ (.int .i64 0)).setCell ⟨w.heap.size, 4, none⟩ (.int .i64 0)).setCell ⟨w.heap.size, 5, none⟩ (.int .i64 0)) = W9 at R hR ⊢
      have R0 : (W9).cell? ⟨w.heap.size, 0, none⟩ = some (.int .i64 0) := R.cell 0; have R1 : (W9).cell? ⟨w.heap.size, 1, none⟩ = some (.int .i64 0) := R.cell 1; have R2 : (W9).cell? ⟨w.heap.size, 2, none⟩ = some (.int .i64 0) := R.cell 2; have R3 : (W9).cell? ⟨w.heap.size, 3, none⟩ = some (.int .i64 0) := R.cell 3; have R4 : (W9).cell? ⟨w.heap.size, 4, none⟩ = some (.int .i64 0) := R.cell 4; have R5 : (W9).cell? ⟨w.heap.size, 5, none⟩ = some (.int .i64 0) := R.cell 5; have Rl : w.heap.size < (W9).heap.size := R.lt
      refine bodyPost_ret (v := .tuple #[.agg #[.int .i64 0, .int .i64 0, .int .i64 0, .int .i64 0, .int .i64 0, .int .i64 0], .bool false]) (by simp [results, Tryz.results11, go_sem, R0, R1, R2, R3, R4, R5]) rfl ?_
      exact fr_no HE.out hR
    · have HE : Hid (faB n m = true) := by show _ = _; rw [HD.out, h1, h2]; rfl
      rw [h1] at HG
      rw [h2] at H1
      obtain ⟨hn, hm⟩ := faB_of HE.out
      have hc := fun w => c_firstTriangle n m hn hm w
      obtain ⟨p1, p2, p3, p4, p5, p6, hf⟩ := ftV_form n m
      have HF := Lib.hid hf
      rw [hf] at hc
      obtain ⟨b, hb⟩ : ∃ b, ftB n m = b := ⟨_, rfl⟩
      have HBB := Lib.hid hb
      rw [hb] at hc
      have HC := Lib.hid hc
      clear hc hf hb h1 h2 HD
      go_enter Tryz.func11, Tryz.ntmps11
      go_wp2_with fail
      (go_at_call 44; refine (HG.out _).mono ?_; rintro e w1 ⟨rfl, hb1⟩; obtain ⟨hc1, hf1⟩ := bcell hb1; have hz1 := hb1.size; (try simp only [World.size_alloc] at hz1); (try (have hy1 : w.heap.size < w1.heap.size := by omega)); (try (have hx1 := Nat.lt_of_succ_le hz1)); (try (have hv1 := Nat.lt_of_succ_le (Nat.le_of_lt hx1))))
      replace kT := kT.next hb1
      have hB1 : Below w.heap.size w w1 := by (repeat' (first | (with_reducible exact Below.refl _ _) | (with_reducible refine below_step (by assumption) ?_ ?_) | (with_reducible refine Below.alloc ?_ ?_ _) | (with_reducible refine Below.setCell ?_ ?_ _) | (with_reducible refine below_drewN ?_ _) | (with_reducible refine Below.drew ?_) | omega | (simp; omega) | (simp; done)))
      go_wp2_with fail
      refine (H1.out _).mono ?_
      rintro e w' ⟨rfl, rfl⟩
      go_wp2_with fail
      refine (HC.out _).mono ?_
      rintro e w2 ⟨rfl, hb2⟩
      have kT2 := kT.next hb2
      have hB2 := below_step hb2 hB1.size hB1
      have kT20 : (w2).cell? ⟨w.heap.size, 0, none⟩ = some (.int .i64 0) := kT2.cell 0; have kT21 : (w2).cell? ⟨w.heap.size, 1, none⟩ = some (.int .i64 0) := kT2.cell 1; have kT22 : (w2).cell? ⟨w.heap.size, 2, none⟩ = some (.int .i64 0) := kT2.cell 2; have kT23 : (w2).cell? ⟨w.heap.size, 3, none⟩ = some (.int .i64 0) := kT2.cell 3; have kT24 : (w2).cell? ⟨w.heap.size, 4, none⟩ = some (.int .i64 0) := kT2.cell 4; have kT25 : (w2).cell? ⟨w.heap.size, 5, none⟩ = some (.int .i64 0) := kT2.cell 5; have kT2f0 : (w2).frozen? ⟨w.heap.size, 0, none⟩ = false := kT2.frozen 0; have kT2f1 : (w2).frozen? ⟨w.heap.size, 1, none⟩ = false := kT2.frozen 1; have kT2f2 : (w2).frozen? ⟨w.heap.size, 2, none⟩ = false := kT2.frozen 2; have kT2f3 : (w2).frozen? ⟨w.heap.size, 3, none⟩ = false := kT2.frozen 3; have kT2f4 : (w2).frozen? ⟨w.heap.size, 4, none⟩ = false := kT2.frozen 4; have kT2f5 : (w2).frozen? ⟨w.heap.size, 5, none⟩ = false := kT2.frozen 5; have kT2l : w.heap.size < (w2).heap.size := kT2.lt
      go_wp2
      have R := ((((((kT2.set 0 (.int .i64 p1)).set 1 (.int .i64 p2)).set 2 (.int .i64 p3)).set 3 (.int .i64 p4)).set 4 (.int .i64 p5)).set 5 (.int .i64 p6))
      have hR : Below w.heap.size w ((((((w2.setCell ⟨w.heap.size, 0, none⟩ (.int .i64 p1)).setCell ⟨w.heap.size, 1, none⟩ (.int .i64 p2)).setCell ⟨w.heap.size, 2, none⟩ (.int .i64 p3)).setCell ⟨w.heap.size, 3, none⟩ (.int .i64 p4)).setCell ⟨w.heap.size, 4, none⟩ (.int .i64 p5)).setCell ⟨w.heap.size, 5, none⟩ (.int .i64 p6)) := by (repeat' (first | (with_reducible exact Below.refl _ _) | (with_reducible refine below_step (by assumption) ?_ ?_) | (with_reducible refine Below.alloc ?_ ?_ _) | (with_reducible refine Below.setCell ?_ ?_ _) | (with_reducible refine below_drewN ?_ _) | (with_reducible refine Below.drew ?_) | omega | (simp; omega) | (simp; done)))
      simp only [List.setIfInBounds_toArray, List.set_cons_zero, List.set_cons_succ] at R
      clear kT2 kT20 kT21 kT22 kT23 kT24 kT25 kT2f0 kT2f1 kT2f2 kT2f3 kT2f4 kT2f5 kT2l
      generalize ((((((w2.setCell ⟨w.heap.size, 0, none⟩ (.int .i64 p1)).setCell ⟨w.heap.size, 1, none⟩ (.int .i64 p2)).setCell ⟨w.heap.size, 2, none⟩ (.int .i64 p3)).setCell ⟨w.heap.size, 3, none⟩ (.int .i64 p4)).setCell ⟨w.heap.size, 4, none⟩ (.int .i64 p5)).setCell ⟨w.heap.size, 5, none⟩ (.int .i64 p6)) = W9 at R hR ⊢
      have R0 : (W9).cell? ⟨w.heap.size, 0, none⟩ = some (.int .i64 p1) := R.cell 0; have R1 : (W9).cell? ⟨w.heap.size, 1, none⟩ = some (.int .i64 p2) := R.cell 1; have R2 : (W9).cell? ⟨w.heap.size, 2, none⟩ = some (.int .i64 p3) := R.cell 2; have R3 : (W9).cell? ⟨w.heap.size, 3, none⟩ = some (.int .i64 p4) := R.cell 3; have R4 : (W9).cell? ⟨w.heap.size, 4, none⟩ = some (.int .i64 p5) := R.cell 4; have R5 : (W9).cell? ⟨w.heap.size, 5, none⟩ = some (.int .i64 p6) := R.cell 5; have Rl : w.heap.size < (W9).heap.size := R.lt
      refine bodyPost_ret (v := .tuple #[.agg #[.int .i64 p1, .int .i64 p2, .int .i64 p3, .int .i64 p4, .int .i64 p5, .int .i64 p6], .bool b]) (by simp [results, Tryz.results11, go_sem, R0, R1, R2, R3, R4, R5]) rfl ?_
      exact fr_yes HE.out HF.out HBB.out hR
end Go.Proofs.YtbcjlhbpgcjddaaGreatDoor
