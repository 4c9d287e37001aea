/- Walks: sameInts, sameLists, pSameCurves; impl.CountPoints. -/
import Derived.Test.YtilgeeaobdebhaaQs
import Derived.Test.YtilgeeaobdebhaaTab
import Derived.Test.YtilgeeaobdebhaaPairC
namespace Go.Proofs.Ytilgeeaobdebhaa
open Go.RowKit

set_option maxHeartbeats 1000000 in
theorem c_sameInts (v v' : Value) (xs : List Int) (hL : xs.length ≤ 100000000) (w : World) (h1 : RdI w v xs) (h2 : RdI w v' xs) :
    Calls Try.prog 43 #[v, v'] w fun e w' => e = .returned (.bool true) ∧ Below w.heap.size w w' := by
  obtain ⟨a, cap, rfl, hform⟩ := h1
  obtain ⟨a', cap', rfl, hform'⟩ := h2
  have HF := Lib.hid hform
  have HF' := Lib.hid hform'
  clear hform hform'
  go_enter Try.func43, Try.ntmps43
  go_wp2
  go_loopw [13] (fun i wr => ∃ k : Nat, k ≤ xs.length ∧ i = .int .i64 k ∧ Below w.heap.size w wr) (fun i _ => xs.length - (intOf i).toNat)
  case atStart => exact ⟨0, Nat.zero_le _, rfl, Below.refl _ _⟩
  case round =>
    obtain ⟨k, hk, rfl, hbl⟩ := hrel
    by_cases hlt : k < xs.length
    · obtain ⟨g, o, rfl, q1, hg⟩ := HF.out k hlt
      obtain ⟨g', o', rfl, r1, hg'⟩ := HF'.out k hlt
      have q2 := (hbl.cell (p := ⟨g, o + k, none⟩) hg).trans q1
      have r2 := (hbl.cell (p := ⟨g', o' + k, none⟩) hg').trans r1
      clear q1 r1
      generalize xs[k]?.getD 0 = y at q2 r2
      have i0 : (0 : Int) ≤ (k : Int) := by omega
      have i1 : (k : Int) < (xs.length : Int) := by omega
      go_wp2
      go_quiet (fail)
      go_wp2
      go_roundw
      case rel => exact ⟨k + 1, by omega, by go_num, below_drewN hbl _⟩
      case measure => simp [intOf]; omega
    · obtain rfl : k = xs.length := by omega
      go_wp2
      go_ret
      exact ⟨rfl, hbl⟩
set_option maxHeartbeats 1000000 in
theorem c_sameLists (b1 b2 : Nat) (v v' : Value) (gs gs' : List Nat) (L : List (Int × Int)) (hL : L.length ≤ 1000) (w : World) (h1 : OwnsQ w b1 v gs L) (h2 : OwnsQ w b2 v' gs' L) :
    Calls Try.prog 11 #[v, v'] w fun e w' => e = .returned (.bool true) ∧ Below w.heap.size w w' := by
  obtain ⟨a, cap, rfl, hf⟩ := h1.form
  obtain ⟨a', cap', rfl, hf'⟩ := h2.form
  have HF := Lib.hid hf
  have HF' := Lib.hid hf'
  clear hf hf' h1 h2
  go_enter Try.func11, Try.ntmps11
  go_wp2
  go_loopw [13] (fun i wr => ∃ j : Nat, j ≤ L.length ∧ i = .int .i64 j ∧ Below w.heap.size w wr) (fun i _ => L.length - (intOf i).toNat)
  case atStart => exact ⟨0, Nat.zero_le _, rfl, Below.refl _ _⟩
  case round =>
    obtain ⟨j, hj, rfl, hb⟩ := hrel
    have hsz := hb.size
    by_cases hlt : j < L.length
    · obtain ⟨g, k, rfl, _, hc, hg, hbk⟩ := HF.out j hlt
      obtain ⟨g', k', rfl, _, hc', hg', hbk'⟩ := HF'.out j hlt
      have d1 := (hb.cell (p := ⟨g, j, none⟩) hg).trans hc
      have d2 := (hb.cell (p := ⟨g', j, none⟩) hg').trans hc'
      have e1 := Blk.closed _ _ _ _ _ hbk hb
      have e2 := Blk.closed _ _ _ _ _ hbk' hb
      clear hc hc' hbk hbk'
      generalize L[j] = c at e1 e2
      have hgr : g < wr.heap.size := by omega
      have hgr' : g' < wr.heap.size := by omega
      have i0 : (0 : Int) ≤ (j : Int) := by omega
      have i1 : (j : Int) < (L.length : Int) := by omega
      have hm : ∀ w1, Below wr.heap.size wr w1 → Calls Try.prog 43 #[.slice (some ⟨k, 0, none⟩) 2 2, .slice (some ⟨k', 0, none⟩) 2 2] w1 fun e w' => e = .returned (.bool true) ∧ Below w1.heap.size w1 w' := fun w1 hb1 =>
        c_sameInts _ _ [c.1, c.2] (by simp) w1 (rd2 (Blk.closed _ _ _ _ _ e1 hb1)) (rd2 (Blk.closed _ _ _ _ _ e2 hb1))
      have HM := Lib.hid hm
      clear hm e1 e2
      go_wp2
      (refine wp_region_clq (by kernel_rfl) (by kernel_rfl) ?_; (repeat (go_big_quiet_step ((go_at_call 43; exact Calls.quiet_cls Closed.true _ (HM.out _ (Cls.over _).below))))); refine wpQuiet_nil ?_; intro w1 hb1; obtain ⟨hc1, hf1⟩ := bcell hb1; have hz1 := hb1.size; (try simp only [World.size_alloc] at hz1))
      have hb2 := below_step hb1 hsz hb
      clear hc1 hf1 d1 d2
      go_wp2
      go_roundw
      case rel => exact ⟨j + 1, by omega, by go_num, hb2⟩
      case measure => simp [intOf]; omega
    · obtain rfl : j = L.length := by omega
      go_wp2
      go_ret
      exact ⟨rfl, hb⟩
set_option maxHeartbeats 1000000 in
theorem c_pSameCurves (b1 b2 : Nat) (v v' : Value) (L : List (Int × Int)) (hL : L.length ≤ 100000000) (w : World) (hown : OwnsC w b1 v L) (hown' : OwnsC w b2 v' L) :
    Calls Try.prog 12 #[v, v'] w fun e w' => e = .returned (.bool true) ∧ Below w.heap.size w w' := by
  obtain ⟨a, cap, rfl, hform⟩ := OwnsP.form hown
  obtain ⟨a', cap', rfl, hform'⟩ := OwnsP.form hown'
  have HF := Lib.hid hform
  have HF' := Lib.hid hform'
  clear hform hown hform' hown'
  go_enter Try.func12, Try.ntmps12
  go_wp2
  go_loopw [13] (fun i wr => ∃ k : Nat, k ≤ L.length ∧ i = .int .i64 k ∧ Below w.heap.size w wr) (fun i _ => L.length - (intOf i).toNat)
  case atStart => exact ⟨0, Nat.zero_le _, rfl, Below.refl _ _⟩
  case round =>
    obtain ⟨k, hk, rfl, hbl⟩ := hrel
    by_cases hlt : k < L.length
    · obtain ⟨g, rfl, q1, q2, _, hg, _⟩ := HF.out k hlt
      obtain ⟨g', rfl, r1, r2, _, hg', _⟩ := HF'.out k hlt
      have p1 := (hbl.cell (p := ⟨g, k * 2, none⟩) hg).trans q1
      have p2 := (hbl.cell (p := ⟨g, k * 2 + 1, none⟩) hg).trans q2
      have s1 := (hbl.cell (p := ⟨g', k * 2, none⟩) hg').trans r1
      have s2 := (hbl.cell (p := ⟨g', k * 2 + 1, none⟩) hg').trans r2
      have hsz := hbl.size
      have hgr : g < wr.heap.size := by omega
      have hgr' : g' < wr.heap.size := by omega
      clear q1 q2 r1 r2
      generalize L[k] = c at p1 p2 s1 s2
      have i0 : (0 : Int) ≤ (k : Int) := by omega
      have i1 : (k : Int) < (L.length : Int) := by omega
      go_wp2
      (refine wp_region_clq (by kernel_rfl) (by kernel_rfl) ?_; (repeat (go_big_quiet_step (fail))); refine wpQuiet_nil ?_; intro w1 hb1; obtain ⟨hc1, hf1⟩ := bcell hb1; have hz1 := hb1.size; (try simp only [World.size_alloc] at hz1))
      have hb2 := below_step hb1 hsz hbl
      clear hc1 hf1 p1 p2 s1 s2
      go_wp2
      go_roundw
      case rel => exact ⟨k + 1, by omega, by go_num, hb2⟩
      case measure => simp [intOf]; omega
    · obtain rfl : k = L.length := by omega
      go_wp2
      go_ret
      exact ⟨rfl, hbl⟩
theorem c_CountPoints (A B p : Int) (hA : -1000 ≤ A ∧ A ≤ 1000) (hB : -10000 ≤ B ∧ B ≤ 10000) (hp : 3 ≤ p ∧ p ≤ 997) (hpr : primeB p = true) (hc : curveB A B = true) (hg : goodP A B p = true) (w : World) :
    Calls Try.prog 16 #[.agg #[.int .i64 A, .int .i64 B], .int .i64 p] w fun e w' => e = .returned (.tuple #[.int .i64 (cntV A B p), .bool true]) ∧ Below w.heap.size w w' := by
  have H1 := Lib.hid (fun w => (c_isCurve A B w))
  have H2 := Lib.hid (fun w => (c_isGood A B p hA hB w))
  have H3 := Lib.hid (fun w => (c_countPoints A B p hA hB hp hpr w))
  rw [hc] at H1
  rw [hg] at H2
  clear hpr hc hg
  go_enter Try.func16, Try.ntmps16
  go_wp2_with (first | (go_at_call 47; refine (H1.out _).mono ?_; rintro e w1 ⟨rfl, hb1⟩; obtain ⟨hc1, hf1⟩ := bcell hb1; have hz1 := hb1.size; (try simp only [World.size_alloc] at hz1); (try (have hy1 : w.heap.size < w1.heap.size := by omega)); (try (have hx1 := Nat.lt_of_succ_le hz1)); (try (have hv1 := Nat.lt_of_succ_le (Nat.le_of_lt hx1)))) | (go_at_call 48; refine (H2.out _).mono ?_; rintro e w2 ⟨rfl, hb2⟩; obtain ⟨hc2, hf2⟩ := bcell hb2; have hz2 := hb2.size; (try simp only [World.size_alloc] at hz2); (try (have hy2 : w.heap.size < w2.heap.size := by omega)); (try (have hx2 := Nat.lt_of_succ_le hz2)); (try (have hv2 := Nat.lt_of_succ_le (Nat.le_of_lt hx2))); (try (have hy2_1 : w1.heap.size < w2.heap.size := by omega))) | (go_at_call 49; refine (H3.out _).mono ?_; rintro e w3 ⟨rfl, hb3⟩; obtain ⟨hc3, hf3⟩ := bcell hb3; have hz3 := hb3.size; (try simp only [World.size_alloc] at hz3); (try (have hy3 : w.heap.size < w3.heap.size := by omega)); (try (have hx3 := Nat.lt_of_succ_le hz3)); (try (have hv3 := Nat.lt_of_succ_le (Nat.le_of_lt hx3))); (try (have hy3_1 : w1.heap.size < w3.heap.size := by omega)); (try (have hy3_2 : w2.heap.size < w3.heap.size := by omega))))
  go_ret2
  refine ⟨rfl, ?_⟩
  (repeat' (first | (with_reducible exact Below.refl _ _) | (with_reducible refine below_step (by assumption) ?_ ?_) | (with_reducible refine Below.alloc ?_ ?_ _) | (with_reducible refine Below.setCell ?_ ?_ _) | (with_reducible refine below_drewN ?_ _) | (with_reducible refine Below.drew ?_) | omega | (simp; omega) | (simp; done)))
end Go.Proofs.Ytilgeeaobdebhaa
