/- Walks: orders at an x, multiples' x. -/
import Derived.Test.YtmlfkceafkhlaaaDvA
namespace Go.Proofs.Ytmlfkceafkhlaaa
open Go.RowKit

def ordTo (z : Nat → Bool) : Nat → Nat → Nat
  | 0, _ => 0
  | f + 1, k => if z k then k else ordTo z f (k + 1)
def ordN (A B p x : Int) : Nat := ordTo (fun k => zB A B p x k) 40 1
theorem ordTo_le (z : Nat → Bool) : ∀ f k, ordTo z f k < k + f ∨ ordTo z f k = 0
  | 0, k => .inr rfl
  | f + 1, k => by
    unfold ordTo
    split
    · left; omega
    · rcases ordTo_le z f (k + 1) with h | h
      · left; omega
      · right; exact h
theorem ordTo_ge (z : Nat → Bool) : ∀ f k, k ≤ ordTo z f k ∨ ordTo z f k = 0
  | 0, k => .inr rfl
  | f + 1, k => by
    unfold ordTo
    split
    · left; omega
    · rcases ordTo_ge z f (k + 1) with h | h
      · left; omega
      · right; exact h
noncomputable def oOk (A B p x : Int) : Bool := fitB A B p x && !(ordN A B p x == 0)
set_option maxHeartbeats 1000000 in
theorem c_sOrderAtX (A B p x : Int) (w : World) :
    Calls Try.prog 10 #[.agg #[.int .i64 A, .int .i64 B], .int .i64 p, .int .i64 x] w fun e w' => e = .returned (.tuple #[.int .i64 (rsZ (oOk A B p x) (ordN A B p x)), .bool (oOk A B p x)]) ∧ Below w.heap.size w w' := by
  have h1 := c_dpAsked A B p x 1
  have h11 : inB 1 1 40 = true := by decide
  rw [h11, Bool.and_true] at h1
  unfold oOk
  cases hf : fitB A B p x
  · rw [hf] at h1
    have H1 := Lib.hid h1
    clear h1
    go_enter Try.func10, Try.ntmps10
    go_wp2_with ((go_at_call 32; refine (H1.out _).mono ?_; rintro e w1 ⟨rfl, hb1⟩; obtain ⟨hc1, hf1⟩ := bcell hb1; have hz1 := hb1.size; (try simp only [World.size_alloc] at hz1); (try (have hy1 : w.heap.size < w1.heap.size := by omega)); (try (have hx1 := Nat.lt_of_succ_le hz1)); (try (have hv1 := Nat.lt_of_succ_le (Nat.le_of_lt hx1)))))
    go_ret2
    refine ⟨rfl, ?_⟩
    (repeat' (first | (with_reducible exact Below.refl _ _) | (with_reducible refine below_step (by assumption) ?_ ?_) | (with_reducible refine Below.alloc ?_ ?_ _) | (with_reducible refine Below.setCell ?_ ?_ _) | (with_reducible refine below_drewN ?_ _) | (with_reducible refine Below.drew ?_) | omega | (simp; omega) | (simp; done)))
  · rw [hf] at h1
    have H1 := Lib.hid h1
    clear h1
    have kC : Blk w.heap.size #[.int .i64 A, .int .i64 B] 24 (w.alloc (.cells #[.int .i64 A, .int .i64 B] 24)) := Blk.new _ _ _
    have HO : Hid (ordN A B p x = ordTo (fun k => zB A B p x k) 40 1) := rfl
    simp only [Bool.true_and]
    go_enter Try.func10, Try.ntmps10
    go_wp2_with fail
    (go_at_call 32; refine (H1.out _).mono ?_; rintro e w1 ⟨rfl, hb1⟩; obtain ⟨hc1, hf1⟩ := bcell hb1; have hz1 := hb1.size; (try simp only [World.size_alloc] at hz1); (try (have hy1 : w.heap.size < w1.heap.size := by omega)); (try (have hx1 := Nat.lt_of_succ_le hz1)); (try (have hv1 := Nat.lt_of_succ_le (Nat.le_of_lt hx1))))
    have kC1 := kC.next hb1
    have hB1 : Below w.heap.size w w1 := below_step hb1 (by simp) ((Below.refl _ _).alloc (Nat.le_refl _) _)
    clear hc1 hf1 hz1 hb1 kC
    go_wp2_with fail
    go_loopw [8] (fun kk wr => ∃ k : Nat, kk = .int .i64 k ∧ (1 ≤ k ∧ k ≤ 41) ∧ Hid (ordN A B p x = ordTo (fun k => zB A B p x k) (41 - k) k) ∧ Blk w.heap.size #[.int .i64 A, .int .i64 B] 24 wr ∧ Below w.heap.size w wr) (fun kk _ => 41 - (intOf kk).toNat)
    case atStart => exact ⟨1, rfl, by omega, HO, kC1, hB1⟩
    case round =>
      clear kC1 hB1 HO
      obtain ⟨k, rfl, hk, HO, kC, hB⟩ := hrel
      have hsz := hB.size
      by_cases hlt : k ≤ 40
      · have HS : Hid (ordTo (fun k => zB A B p x k) (41 - k) k = if zB A B p x k then k else ordTo (fun k => zB A B p x k) (41 - (k + 1)) (k + 1)) := by
          show _ = _
          rw [show 41 - k = (41 - (k + 1)) + 1 by omega]; rfl
        have kC0 : (wr).cell? ⟨w.heap.size, 0, none⟩ = some (.int .i64 A) := kC.cell 0; have kC1 : (wr).cell? ⟨w.heap.size, 1, none⟩ = some (.int .i64 B) := kC.cell 1; have kCl : w.heap.size < (wr).heap.size := kC.lt
        cases hz : zB A B p x k
        · go_wp2_with fail
          (go_at_call 35; refine (c_dpZero A B p x k hf (by omega) _).mono ?_; rintro e w2 ⟨rfl, hb2⟩; obtain ⟨hc2, hf2⟩ := bcell hb2; have hz2 := hb2.size; (try simp only [World.size_alloc] at hz2); (try (have hy2 : w.heap.size < w2.heap.size := by omega)); (try (have hx2 := Nat.lt_of_succ_le hz2)); (try (have hv2 := Nat.lt_of_succ_le (Nat.le_of_lt hx2))); (try (have hy2_1 : w1.heap.size < w2.heap.size := by omega)))
          have kC2 := kC.next hb2
          have hB2 := below_step hb2 hsz hB
          clear hc2 hf2 hz2 hb2
          go_wp2
          go_roundw
          case rel => exact ⟨k + 1, by go_num, by omega, by show _ = _; rw [HO.out, HS.out, hz]; rfl, kC2, hB2⟩
          case measure => simp [intOf]; omega
        · go_wp2_with fail
          (go_at_call 35; refine (c_dpZero A B p x k hf (by omega) _).mono ?_; rintro e w2 ⟨rfl, hb2⟩; obtain ⟨hc2, hf2⟩ := bcell hb2; have hz2 := hb2.size; (try simp only [World.size_alloc] at hz2); (try (have hy2 : w.heap.size < w2.heap.size := by omega)); (try (have hx2 := Nat.lt_of_succ_le hz2)); (try (have hv2 := Nat.lt_of_succ_le (Nat.le_of_lt hx2))); (try (have hy2_1 : w1.heap.size < w2.heap.size := by omega)))
          have hB2 := below_step hb2 hsz hB
          clear hc2 hf2 hz2 hb2
          go_wp2
          go_ret2
          have e : ordN A B p x = k := by rw [HO.out, HS.out, hz]; rfl
          refine ⟨?_, hB2⟩
          have e2 : (!(k == 0)) = true := by simp; omega
          rw [e, e2]; rfl
      · obtain rfl : k = 41 := by omega
        go_wp2
        go_ret2
        refine ⟨?_, hB⟩
        rw [HO.out]; rfl
set_option maxHeartbeats 1000000 in
theorem c_iOrderAtX (A B p x : Int) (w : World) :
    Calls Try.prog 9 #[.agg #[.int .i64 A, .int .i64 B], .int .i64 p, .int .i64 x] w fun e w' => e = .returned (.tuple #[.int .i64 (rsZ (oOk A B p x) (ordN A B p x)), .bool (oOk A B p x)]) ∧ Below w.heap.size w w' := by
  have h1 := c_divisionFits A B p x
  unfold oOk
  cases hf : fitB A B p x
  · rw [hf] at h1
    have H1 := Lib.hid h1
    clear h1
    go_enter Try.func9, Try.ntmps9
    go_wp2_with ((go_at_call 29; refine (H1.out _).mono ?_; rintro e w1 ⟨rfl, hb1⟩; obtain ⟨hc1, hf1⟩ := bcell hb1; have hz1 := hb1.size; (try simp only [World.size_alloc] at hz1); (try (have hy1 : w.heap.size < w1.heap.size := by omega)); (try (have hx1 := Nat.lt_of_succ_le hz1)); (try (have hv1 := Nat.lt_of_succ_le (Nat.le_of_lt hx1)))))
    go_ret2
    refine ⟨rfl, ?_⟩
    (repeat' (first | (with_reducible exact Below.refl _ _) | (with_reducible refine below_step (by assumption) ?_ ?_) | (with_reducible refine Below.alloc ?_ ?_ _) | (with_reducible refine Below.setCell ?_ ?_ _) | (with_reducible refine below_drewN ?_ _) | (with_reducible refine Below.drew ?_) | omega | (simp; omega) | (simp; done)))
  · rw [hf] at h1
    have H1 := Lib.hid h1
    clear h1
    have kC : Blk w.heap.size #[.int .i64 A, .int .i64 B] 24 (w.alloc (.cells #[.int .i64 A, .int .i64 B] 24)) := Blk.new _ _ _
    have HO : Hid (ordN A B p x = ordTo (fun k => zB A B p x k) 40 1) := rfl
    simp only [Bool.true_and]
    go_enter Try.func9, Try.ntmps9
    go_wp2_with fail
    (go_at_call 29; refine (H1.out _).mono ?_; rintro e w1 ⟨rfl, hb1⟩; obtain ⟨hc1, hf1⟩ := bcell hb1; have hz1 := hb1.size; (try simp only [World.size_alloc] at hz1); (try (have hy1 : w.heap.size < w1.heap.size := by omega)); (try (have hx1 := Nat.lt_of_succ_le hz1)); (try (have hv1 := Nat.lt_of_succ_le (Nat.le_of_lt hx1))))
    have kC1 := kC.next hb1
    have hB1 : Below w.heap.size w w1 := below_step hb1 (by simp) ((Below.refl _ _).alloc (Nat.le_refl _) _)
    clear hc1 hf1 hz1 hb1 kC
    go_wp2_with fail
    go_loopw [8] (fun kk wr => ∃ k : Nat, kk = .int .i64 k ∧ (1 ≤ k ∧ k ≤ 41) ∧ Hid (ordN A B p x = ordTo (fun k => zB A B p x k) (41 - k) k) ∧ Blk w.heap.size #[.int .i64 A, .int .i64 B] 24 wr ∧ Below w.heap.size w wr) (fun kk _ => 41 - (intOf kk).toNat)
    case atStart => exact ⟨1, rfl, by omega, HO, kC1, hB1⟩
    case round =>
      clear kC1 hB1 HO
      obtain ⟨k, rfl, hk, HO, kC, hB⟩ := hrel
      have hsz := hB.size
      by_cases hlt : k ≤ 40
      · have HS : Hid (ordTo (fun k => zB A B p x k) (41 - k) k = if zB A B p x k then k else ordTo (fun k => zB A B p x k) (41 - (k + 1)) (k + 1)) := by
          show _ = _
          rw [show 41 - k = (41 - (k + 1)) + 1 by omega]; rfl
        have kC0 : (wr).cell? ⟨w.heap.size, 0, none⟩ = some (.int .i64 A) := kC.cell 0; have kC1 : (wr).cell? ⟨w.heap.size, 1, none⟩ = some (.int .i64 B) := kC.cell 1; have kCl : w.heap.size < (wr).heap.size := kC.lt
        cases hz : zB A B p x k
        · go_wp2_with fail
          (go_at_call 34; refine (c_isDivided A B p x k hf (by omega) _).mono ?_; rintro e w2 ⟨rfl, hb2⟩; obtain ⟨hc2, hf2⟩ := bcell hb2; have hz2 := hb2.size; (try simp only [World.size_alloc] at hz2); (try (have hy2 : w.heap.size < w2.heap.size := by omega)); (try (have hx2 := Nat.lt_of_succ_le hz2)); (try (have hv2 := Nat.lt_of_succ_le (Nat.le_of_lt hx2))); (try (have hy2_1 : w1.heap.size < w2.heap.size := by omega)))
          have kC2 := kC.next hb2
          have hB2 := below_step hb2 hsz hB
          clear hc2 hf2 hz2 hb2
          go_wp2
          go_roundw
          case rel => exact ⟨k + 1, by go_num, by omega, by show _ = _; rw [HO.out, HS.out, hz]; rfl, kC2, hB2⟩
          case measure => simp [intOf]; omega
        · go_wp2_with fail
          (go_at_call 34; refine (c_isDivided A B p x k hf (by omega) _).mono ?_; rintro e w2 ⟨rfl, hb2⟩; obtain ⟨hc2, hf2⟩ := bcell hb2; have hz2 := hb2.size; (try simp only [World.size_alloc] at hz2); (try (have hy2 : w.heap.size < w2.heap.size := by omega)); (try (have hx2 := Nat.lt_of_succ_le hz2)); (try (have hv2 := Nat.lt_of_succ_le (Nat.le_of_lt hx2))); (try (have hy2_1 : w1.heap.size < w2.heap.size := by omega)))
          have hB2 := below_step hb2 hsz hB
          clear hc2 hf2 hz2 hb2
          go_wp2
          go_ret2
          have e : ordN A B p x = k := by rw [HO.out, HS.out, hz]; rfl
          refine ⟨?_, hB2⟩
          have e2 : (!(k == 0)) = true := by simp; omega
          rw [e, e2]; rfl
      · obtain rfl : k = 41 := by omega
        go_wp2
        go_ret2
        refine ⟨?_, hB⟩
        rw [HO.out]; rfl
end Go.Proofs.Ytmlfkceafkhlaaa
