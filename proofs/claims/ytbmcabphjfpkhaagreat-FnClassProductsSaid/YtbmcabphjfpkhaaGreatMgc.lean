/- Several texts joined: PcO PcR PcS. -/
import Derived.Test.YtbmcabphjfpkhaaGreatPcM
import Derived.Test.YtbmcabphjfpkhaaGreatNum
import Derived.Test.YtbmcabphjfpkhaaGreatCurve
import Derived.Deep.Cut
/- PcO -/
namespace Go.Proofs.YtbmcabphjfpkhaaGreat
open Go.RowKit

/-- the quartic of a divisor d of a side -/
def quV (A B : Int) (dual : Bool) (d : Int) : Value := .agg #[.int .i64 d, .int .i64 (sdA A dual), .int .i64 ((sdB A B dual).tdiv d)]
theorem c_descentQuartic (A B d : Int) (dual : Bool) (h : tgB A B = true) (hd : d ≠ 0) (w : World) :
    Calls Tryz.prog 47 #[.agg #[.int .i64 A, .int .i64 B], .bool dual, .int .i64 d] w fun e w' => e = .returned (quV A B dual d) ∧ Below w.heap.size w w' := by
  have hs := sd_facts h dual
  have HS := Lib.hid (fun W => c_side A B dual h W)
  unfold quV
  generalize sdA A dual = a at *
  generalize sdB A B dual = b at *
  have hd0 : (d == 0) = false := by simpa using hd
  have hq : (b.tdiv d).natAbs ≤ b.natAbs := by rw [Int.natAbs_tdiv]; exact Nat.div_le_self _ _
  have hq2 : -91200 ≤ b.tdiv d ∧ b.tdiv d ≤ 91200 := by omega
  have kC := (Blk.new w #[.int .i64 A, .int .i64 B] 38).alloc (.cells #[.int .i64 0, .int .i64 0, .int .i64 0] 43)
  have kR := Blk.new (w.alloc (.cells #[.int .i64 A, .int .i64 B] 38)) #[.int .i64 0, .int .i64 0, .int .i64 0] 43
  have hb0 : Below w.heap.size w ((w.alloc (.cells #[.int .i64 A, .int .i64 B] 38)).alloc (.cells #[.int .i64 0, .int .i64 0, .int .i64 0] 43)) := ((Below.refl _ _).alloc (Nat.le_refl _) _).alloc (by simp) _
  simp only [World.size_alloc] at kR
  have hz0 := hb0.size
  go_enter Tryz.func47, Tryz.ntmps47
  go_upto_region 1 with (fail)
  generalize (w.alloc _).alloc _ = W at *
  generalize hr0 : w.heap.size + 1 = rR at *
  have hlt : w.heap.size < rR := by omega
  clear hr0
  have kC0 : (W).cell? ⟨w.heap.size, 0, none⟩ = some (.int .i64 A) := kC.cell 0; have kC1 : (W).cell? ⟨w.heap.size, 1, none⟩ = some (.int .i64 B) := kC.cell 1; have kCl : w.heap.size < (W).heap.size := kC.lt
  go_wp2_with fail
  refine (HS.out _).mono ?_
  rintro e w1 ⟨rfl, hb1⟩
  have kR1 := kR.next hb1
  have hb2 := below_step hb1 hz0 hb0
  have kR10 : (w1).cell? ⟨rR, 0, none⟩ = some (.int .i64 0) := kR1.cell 0; have kR11 : (w1).cell? ⟨rR, 1, none⟩ = some (.int .i64 0) := kR1.cell 1; have kR12 : (w1).cell? ⟨rR, 2, none⟩ = some (.int .i64 0) := kR1.cell 2; have kR1f0 : (w1).frozen? ⟨rR, 0, none⟩ = false := kR1.frozen 0; have kR1f1 : (w1).frozen? ⟨rR, 1, none⟩ = false := kR1.frozen 1; have kR1f2 : (w1).frozen? ⟨rR, 2, none⟩ = false := kR1.frozen 2; have kR1l : rR < (w1).heap.size := kR1.lt
  have k9 := ((kR1.set 0 (.int .i64 d)).set 1 (.int .i64 a)).set 2 (.int .i64 (b.tdiv d))
  have hB9 := ((hb2.setCell (p := ⟨rR, 0, none⟩) (Nat.le_of_lt hlt) (.int .i64 d)).setCell (p := ⟨rR, 1, none⟩) (Nat.le_of_lt hlt) (.int .i64 a)).setCell (p := ⟨rR, 2, none⟩) (Nat.le_of_lt hlt) (.int .i64 (b.tdiv d))
  go_wp2
  generalize (World.setCell (World.setCell (World.setCell _ _ _) _ _) _ _) = w9 at k9 hB9 ⊢
  have q0 : w9.cell? ⟨rR, 0, none⟩ = some (.int .i64 d) := k9.cell 0
  have q1 : w9.cell? ⟨rR, 1, none⟩ = some (.int .i64 a) := k9.cell 1
  have q2 : w9.cell? ⟨rR, 2, none⟩ = some (.int .i64 (b.tdiv d)) := k9.cell 2
  refine bodyPost_ret (v := .agg #[.int .i64 d, .int .i64 a, .int .i64 (b.tdiv d)]) (by simp [results, Tryz.results47, go_sem, q0, q1, q2]) rfl ?_
  exact ⟨rfl, hB9⟩
theorem c_dsQuartic (A B d : Int) (dual : Bool) (h : tgB A B = true) (hd : d ≠ 0) (w : World) :
    Calls Tryz.prog 49 #[.agg #[.int .i64 A, .int .i64 B], .bool dual, .int .i64 d] w fun e w' => e = .returned (quV A B dual d) ∧ Below w.heap.size w w' := by
  have hs := sd_facts h dual
  have HS := Lib.hid (fun W => c_dsSide A B dual h W)
  unfold quV
  generalize sdA A dual = a at *
  generalize sdB A B dual = b at *
  have hd0 : (d == 0) = false := by simpa using hd
  have hq : (b.tdiv d).natAbs ≤ b.natAbs := by rw [Int.natAbs_tdiv]; exact Nat.div_le_self _ _
  have hq2 : -91200 ≤ b.tdiv d ∧ b.tdiv d ≤ 91200 := by omega
  have kC := (Blk.new w #[.int .i64 A, .int .i64 B] 38).alloc (.cells #[.int .i64 0, .int .i64 0, .int .i64 0] 43)
  have kR := Blk.new (w.alloc (.cells #[.int .i64 A, .int .i64 B] 38)) #[.int .i64 0, .int .i64 0, .int .i64 0] 43
  have hb0 : Below w.heap.size w ((w.alloc (.cells #[.int .i64 A, .int .i64 B] 38)).alloc (.cells #[.int .i64 0, .int .i64 0, .int .i64 0] 43)) := ((Below.refl _ _).alloc (Nat.le_refl _) _).alloc (by simp) _
  simp only [World.size_alloc] at kR
  have hz0 := hb0.size
  go_enter Tryz.func49, Tryz.ntmps49
  go_upto_region 1 with (fail)
  generalize (w.alloc _).alloc _ = W at *
  generalize hr0 : w.heap.size + 1 = rR at *
  have hlt : w.heap.size < rR := by omega
  clear hr0
  have kC0 : (W).cell? ⟨w.heap.size, 0, none⟩ = some (.int .i64 A) := kC.cell 0; have kC1 : (W).cell? ⟨w.heap.size, 1, none⟩ = some (.int .i64 B) := kC.cell 1; have kCl : w.heap.size < (W).heap.size := kC.lt
  go_wp2_with fail
  refine (HS.out _).mono ?_
  rintro e w1 ⟨rfl, hb1⟩
  have kR1 := kR.next hb1
  have hb2 := below_step hb1 hz0 hb0
  have kR10 : (w1).cell? ⟨rR, 0, none⟩ = some (.int .i64 0) := kR1.cell 0; have kR11 : (w1).cell? ⟨rR, 1, none⟩ = some (.int .i64 0) := kR1.cell 1; have kR12 : (w1).cell? ⟨rR, 2, none⟩ = some (.int .i64 0) := kR1.cell 2; have kR1f0 : (w1).frozen? ⟨rR, 0, none⟩ = false := kR1.frozen 0; have kR1f1 : (w1).frozen? ⟨rR, 1, none⟩ = false := kR1.frozen 1; have kR1f2 : (w1).frozen? ⟨rR, 2, none⟩ = false := kR1.frozen 2; have kR1l : rR < (w1).heap.size := kR1.lt
  have k9 := ((kR1.set 0 (.int .i64 d)).set 1 (.int .i64 a)).set 2 (.int .i64 (b.tdiv d))
  have hB9 := ((hb2.setCell (p := ⟨rR, 0, none⟩) (Nat.le_of_lt hlt) (.int .i64 d)).setCell (p := ⟨rR, 1, none⟩) (Nat.le_of_lt hlt) (.int .i64 a)).setCell (p := ⟨rR, 2, none⟩) (Nat.le_of_lt hlt) (.int .i64 (b.tdiv d))
  go_wp2
  generalize (World.setCell (World.setCell (World.setCell _ _ _) _ _) _ _) = w9 at k9 hB9 ⊢
  have q0 : w9.cell? ⟨rR, 0, none⟩ = some (.int .i64 d) := k9.cell 0
  have q1 : w9.cell? ⟨rR, 1, none⟩ = some (.int .i64 a) := k9.cell 1
  have q2 : w9.cell? ⟨rR, 2, none⟩ = some (.int .i64 (b.tdiv d)) := k9.cell 2
  refine bodyPost_ret (v := .agg #[.int .i64 d, .int .i64 a, .int .i64 (b.tdiv d)]) (by simp [results, Tryz.results49, go_sem, q0, q1, q2]) rfl ?_
  exact ⟨rfl, hB9⟩
end Go.Proofs.YtbmcabphjfpkhaaGreat

/- PcR -/
namespace Go.Proofs.YtbmcabphjfpkhaaGreat
open Go.RowKit

/-- the value of a quartic -/
def qvV (D A C m e : Int) : Int := (D * m * m + A * e * e) * m * m + C * e * e * e * e
theorem qv_bd {D A C m e : Int} (hD : -91200 ≤ D ∧ D ≤ 91200) (hA : -91200 ≤ A ∧ A ≤ 91200) (hC : -91200 ≤ C ∧ C ≤ 91200) (hm : -60 ≤ m ∧ m ≤ 60) (he : -60 ≤ e ∧ e ≤ 60) :
    (-5472000 ≤ D * m ∧ D * m ≤ 5472000) ∧ (-328320000 ≤ D * m * m ∧ D * m * m ≤ 328320000) ∧ (-5472000 ≤ A * e ∧ A * e ≤ 5472000) ∧ (-328320000 ≤ A * e * e ∧ A * e * e ≤ 328320000) ∧
    (-39398400000 ≤ (D * m * m + A * e * e) * m ∧ (D * m * m + A * e * e) * m ≤ 39398400000) ∧ (-2363904000000 ≤ (D * m * m + A * e * e) * m * m ∧ (D * m * m + A * e * e) * m * m ≤ 2363904000000) ∧
    (-5472000 ≤ C * e ∧ C * e ≤ 5472000) ∧ (-328320000 ≤ C * e * e ∧ C * e * e ≤ 328320000) ∧ (-19699200000 ≤ C * e * e * e ∧ C * e * e * e ≤ 19699200000) ∧ (-1181952000000 ≤ C * e * e * e * e ∧ C * e * e * e * e ≤ 1181952000000) := by
  have a1 := mulb (x := D) (y := m) 91200 60 (by omega) hm
  have a2 := mulb (x := D * m) (y := m) 5472000 60 (by omega) hm
  have a3 := mulb (x := A) (y := e) 91200 60 (by omega) he
  have a4 := mulb (x := A * e) (y := e) 5472000 60 (by omega) he
  have a5 := mulb (x := D * m * m + A * e * e) (y := m) 656640000 60 (by omega) hm
  have a6 := mulb (x := (D * m * m + A * e * e) * m) (y := m) 39398400000 60 (by omega) hm
  have a7 := mulb (x := C) (y := e) 91200 60 (by omega) he
  have a8 := mulb (x := C * e) (y := e) 5472000 60 (by omega) he
  have a9 := mulb (x := C * e * e) (y := e) 328320000 60 (by omega) he
  have b0 := mulb (x := C * e * e * e) (y := e) 19699200000 60 (by omega) he
  omega
theorem qv_in {D A C m e : Int} (hD : -91200 ≤ D ∧ D ≤ 91200) (hA : -91200 ≤ A ∧ A ≤ 91200) (hC : -91200 ≤ C ∧ C ≤ 91200) (hm : -60 ≤ m ∧ m ≤ 60) (he : -60 ≤ e ∧ e ≤ 60) : -4000000000000 ≤ qvV D A C m e ∧ qvV D A C m e ≤ 4000000000000 := by
  obtain ⟨_, _, _, _, _, h1, _, _, _, h2⟩ := qv_bd hD hA hC hm he
  unfold qvV
  omega
theorem qv_eq (D A C m e : Int) : D * (m * m) * (m * m) + A * (m * m) * (e * e) + C * (e * e) * (e * e) = qvV D A C m e := by unfold qvV; grind
theorem c_value (D A C m e : Int) (hD : -91200 ≤ D ∧ D ≤ 91200) (hA : -91200 ≤ A ∧ A ≤ 91200) (hC : -91200 ≤ C ∧ C ≤ 91200) (hm : -60 ≤ m ∧ m ≤ 60) (he : -60 ≤ e ∧ e ≤ 60) (w : World) :
    Calls Tryz.prog 76 #[.agg #[.int .i64 D, .int .i64 A, .int .i64 C], .int .i64 m, .int .i64 e] w fun en w' => en = .returned (.int .i64 (qvV D A C m e)) ∧ Below w.heap.size w w' := by
  obtain ⟨b1, b2, b3, b4, b5, b6, b7, b8, b9, b10⟩ := qv_bd hD hA hC hm he
  unfold qvV
  go_enter Tryz.func76, Tryz.ntmps76
  go_wp2
  go_ret
  refine ⟨rfl, ?_⟩
  (repeat' (first | (with_reducible exact Below.refl _ _) | (with_reducible refine below_step (by assumption) ?_ ?_) | (with_reducible refine Below.alloc ?_ ?_ _) | (with_reducible refine Below.setCell ?_ ?_ _) | (with_reducible refine below_drewN ?_ _) | (with_reducible refine Below.drew ?_) | omega | (simp; omega) | (simp; done)))
theorem c_loValue (D A C m e : Int) (hD : -91200 ≤ D ∧ D ≤ 91200) (hA : -91200 ≤ A ∧ A ≤ 91200) (hC : -91200 ≤ C ∧ C ≤ 91200) (hm : -60 ≤ m ∧ m ≤ 60) (he : -60 ≤ e ∧ e ≤ 60) (w : World) :
    Calls Tryz.prog 84 #[.agg #[.int .i64 D, .int .i64 A, .int .i64 C], .int .i64 m, .int .i64 e] w fun en w' => en = .returned (.int .i64 (qvV D A C m e)) ∧ Below w.heap.size w w' := by
  have m2 := mulb (x := m) (y := m) 60 60 (by omega) hm
  have e2 := mulb (x := e) (y := e) 60 60 (by omega) he
  have a1 := mulb (x := D) (y := m * m) 91200 3600 (by omega) (by omega)
  have a2 := mulb (x := D * (m * m)) (y := m * m) 328320000 3600 (by omega) (by omega)
  have a3 := mulb (x := A) (y := m * m) 91200 3600 (by omega) (by omega)
  have a4 := mulb (x := A * (m * m)) (y := e * e) 328320000 3600 (by omega) (by omega)
  have a5 := mulb (x := C) (y := e * e) 91200 3600 (by omega) (by omega)
  have a6 := mulb (x := C * (e * e)) (y := e * e) 328320000 3600 (by omega) (by omega)
  rw [← qv_eq]
  go_enter Tryz.func84, Tryz.ntmps84
  go_wp2
  go_ret
  refine ⟨rfl, ?_⟩
  (repeat' (first | (with_reducible exact Below.refl _ _) | (with_reducible refine below_step (by assumption) ?_ ?_) | (with_reducible refine Below.alloc ?_ ?_ _) | (with_reducible refine Below.setCell ?_ ?_ _) | (with_reducible refine below_drewN ?_ _) | (with_reducible refine Below.drew ?_) | omega | (simp; omega) | (simp; done)))
end Go.Proofs.YtbmcabphjfpkhaaGreat

/- PcS -/
namespace Go.Proofs.YtbmcabphjfpkhaaGreat
open Go.RowKit

set_option maxHeartbeats 1000000 in
theorem c_seRoot (n : Int) (hn : n ≤ 4000000000000) (hn0 : -4000000000000 ≤ n) (w : World) :
    Calls Tryz.prog 83 #[.int .i64 n] w fun e w' => (∃ r : Int, e = .returned (.int .i64 r) ∧ (-1 ≤ r ∧ r ≤ 4000000) ∧ (0 ≤ r ↔ ∃ x : Int, 0 ≤ x ∧ x * x = n)) ∧ w' = w := by
  by_cases h0 : n < 0
  · go_enter Tryz.func83, Tryz.ntmps83
    go_wp2
    go_ret
    refine ⟨⟨_, rfl, by omega, ?_⟩, rfl⟩
    constructor
    · intro h; omega
    · rintro ⟨x, hx, hxx⟩
      have := Int.mul_nonneg hx hx
      omega
  · go_enter Tryz.func83, Tryz.ntmps83
    go_wp2
    go_loopw [3, 4] (fun lv hv wr => ∃ lo hi : Int, lv = .int .i64 lo ∧ hv = .int .i64 hi ∧ (0 ≤ lo ∧ lo ≤ hi ∧ hi ≤ 4000000) ∧ Hid (lo * lo ≤ n) ∧ Hid (∀ x : Int, 0 ≤ x → x * x ≤ n → x ≤ hi) ∧ wr = w) (fun lv hv _ => (intOf hv - intOf lv).toNat)
    case atStart => exact ⟨0, 4000000, rfl, rfl, by omega, Lib.hid (by omega), Lib.hid (fun x hx hxx => by
      rcases Int.lt_or_le 4000000 x with h | h
      · exfalso
        have := Int.mul_le_mul (show (4000001 : Int) ≤ x by omega) (show (4000001 : Int) ≤ x by omega) (by omega) (by omega)
        omega
      · exact h), rfl⟩
    case round =>
      obtain ⟨lo, hi, rfl, rfl, hb, HL, HH, rfl⟩ := hrel
      by_cases hlt : lo < hi
      · have hm : lo < (lo + hi + 1) / 2 ∧ (lo + hi + 1) / 2 ≤ hi := by omega
        have HM : Hid (∀ m, m = (lo + hi + 1) / 2 → ∀ x : Int, 0 ≤ x → x * x ≤ n → ¬ m * m ≤ n → x ≤ m - 1) := Lib.hid (fun m hm' x hx hxx hmm => by
          rcases Int.lt_or_le x m with h | h
          · omega
          · exfalso
            have := Int.mul_le_mul h h (by omega) hx
            omega)
        have HMM := Lib.hid (HM.out _ rfl)
        go_upto_region 6 with (fail)
        generalize (lo + hi + 1) / 2 = m at *
        have m2 := mulb (x := m) (y := m) 4000000 4000000 (by omega) (by omega)
        clear HM
        by_cases hmm : m * m ≤ n
        · go_wp2
          go_roundw
          case rel => exact ⟨m, hi, rfl, rfl, by omega, Lib.hid hmm, HH, trivial⟩
          case measure => simp [intOf]; omega
        · go_wp2
          go_roundw
          case rel => exact ⟨lo, m - 1, rfl, rfl, by omega, HL, Lib.hid (fun x hx hxx => HMM.out x hx hxx hmm), trivial⟩
          case measure => simp [intOf]; omega
      · obtain rfl : lo = hi := by omega
        have m2 := mulb (x := lo) (y := lo) 4000000 4000000 (by omega) (by omega)
        by_cases he : lo * lo = n
        · have he' : (lo * lo != n) = false := by simp [he]
          go_wp2
          go_ret
          exact ⟨⟨lo, rfl, by omega, fun _ => ⟨lo, hb.1, he⟩, fun _ => hb.1⟩, rfl⟩
        · have he' : (lo * lo != n) = true := by simp [he]
          have hl := HL.out
          have hh := HH.out
          go_wp2
          go_ret
          refine ⟨⟨_, rfl, by omega, fun h => by omega, ?_⟩, rfl⟩
          rintro ⟨x, hx, hxx⟩
          exfalso
          have h1 := hh x hx (by omega)
          have h2 := Int.mul_le_mul h1 h1 hx (by omega)
          omega
end Go.Proofs.YtbmcabphjfpkhaaGreat
