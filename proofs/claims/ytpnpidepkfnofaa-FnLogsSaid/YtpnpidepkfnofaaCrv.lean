/- Walks: the curves of a log. -/
import Derived.Test.YtpnpidepkfnofaaCrvPlain
import Derived.Test.YtpnpidepkfnofaaPairC
import Derived.Test.YtpnpidepkfnofaaApply
import Derived.Test.YtpnpidepkfnofaaShort
namespace Go.Proofs.Ytpnpidepkfnofaa
open Go.RowKit

def crR (c : Int × Int) (L : List (Int × Int)) : List (Int × Int) := if crO c L then crL c L else []
theorem OwnsP.one (w : World) (T : TypeId) (A B : Int) : OwnsP T (w.alloc (.cells #[.int .i64 A, .int .i64 B] T)) w.heap.size (.slice (some ⟨w.heap.size, 0, none⟩) 1 1) [(A, B)] := by
  refine ⟨rfl, .inr ⟨w.heap.size, 1, #[.int .i64 A, .int .i64 B], rfl, Nat.le_refl _, Blk.new w _ _, Nat.le_refl _, by unfold maxLen; omega, rfl, rfl⟩⟩
theorem OwnsP.far {T : TypeId} {w : World} {base : Nat} {v : Value} {L : List (Int × Int)} (h : OwnsP T w base v L) {p : Addr} (hp : p.block < base) (u : Value) : OwnsP T (w.setCell p u) base v L := by
  refine ⟨h.1, ?_⟩
  rcases h.2 with h0 | ⟨g, cap, cur, hv, hg, hh, r⟩
  · exact .inl h0
  · exact .inr ⟨g, cap, cur, hv, hg, (Below.heap_setCell _ _ _ _ (by omega)).trans hh, r⟩
theorem ListPost.no {T : TypeId} {w w' : World} {c : Int × Int} {L : List (Int × Int)} (h : crO c L = false) (hb : Below w.heap.size w w') : ListPost T w (crR c L) (crO c L) (.returned (.tuple #[.slice none 0 0, .bool false])) w' := by
  unfold crR
  rw [h]
  exact ⟨_, rfl, OwnsP.nil _ _ _, hb⟩
theorem ListPost.yes {T : TypeId} {w w' : World} {v : Value} {c : Int × Int} {L : List (Int × Int)} (h : crO c L = true) (ho : OwnsP T w' w.heap.size v (crL c L)) (hb : Below w.heap.size w w') : ListPost T w (crR c L) (crO c L) (.returned (.tuple #[v, .bool true])) w' := by
  unfold crR
  rw [h]
  exact ⟨_, rfl, ho, hb⟩
set_option maxHeartbeats 2000000 in
theorem c_tlCurves (base : Nat) (v : Value) (A B : Int) (L : List (Int × Int)) (hC : curveB A B = true) (hG : logB L = true) (w : World) (hown : OwnsS w base v L) :
    Calls Try.prog 31 #[.agg #[.int .i64 A, .int .i64 B], v] w (ListPost 25 w (crR (A, B) L) (crO (A, B) L)) := by
  obtain ⟨hl, hst⟩ := logB_of hG
  have HK : Hid (∀ k (hk : k < L.length), stepB L[k].1 L[k].2 = true) := hst
  have HG := Lib.hid hG
  obtain ⟨a, cap, rfl, hform⟩ := OwnsP.form hown
  have HF := Lib.hid hform
  have HC := Lib.hid hC
  clear hform hown hst hG hC
  have kC := (Blk.new w #[.int .i64 A, .int .i64 B] 25).alloc (.cells #[.int .i64 A, .int .i64 B] 25)
  have ho := OwnsP.one (w.alloc (.cells #[.int .i64 A, .int .i64 B] 25)) 25 A B
  have hB : Below w.heap.size w ((w.alloc (.cells #[.int .i64 A, .int .i64 B] 25)).alloc (.cells #[.int .i64 A, .int .i64 B] 25)) := by (repeat' (first | (with_reducible exact Below.refl _ _) | (with_reducible refine below_step (by assumption) ?_ ?_) | (with_reducible refine Below.alloc ?_ ?_ _) | (with_reducible refine Below.setCell ?_ ?_ _) | (with_reducible refine below_drewN ?_ _) | (with_reducible refine Below.drew ?_) | omega | (simp; omega) | (simp; done)))
  simp only [World.size_alloc] at ho
  go_enter Try.func31, Try.ntmps31
  go_wp2
  generalize (w.alloc _).alloc _ = W at *
  go_loopw [6, 15] (fun out i wr => ∃ (k : Nat) (X Y : Int), k ≤ L.length ∧ i = .int .i64 k ∧ Hid (curveB X Y = true ∧ (X, Y) = crE (A, B) (L.take k) ∧ crO (A, B) L = crO (X, Y) (L.drop k)) ∧ OwnsC wr (w.heap.size + 1) out (crL (A, B) (L.take k)) ∧ Blk w.heap.size #[.int .i64 X, .int .i64 Y] 25 wr ∧ Below w.heap.size w wr) (fun _ i _ => L.length - (intOf i).toNat)
  case atStart => exact ⟨0, A, B, Nat.zero_le _, rfl, ⟨HC.out, rfl, rfl⟩, ho, kC, hB⟩
  case round =>
    clear ho kC hB
    obtain ⟨k, X, Y, hk, rfl, HR, ho, kC, hbr⟩ := hrel
    have hzr := hbr.size
    by_cases hlt : k < L.length
    · obtain ⟨g, rfl, q1, q2, _, hg, _⟩ := HF.out k hlt
      have d1 : wr.cell? ⟨g, k * 2, none⟩ = _ := (hbr.cell (p := ⟨g, k * 2, none⟩) hg).trans q1
      have d2 : wr.cell? ⟨g, k * 2 + 1, none⟩ = _ := (hbr.cell (p := ⟨g, k * 2 + 1, none⟩) hg).trans q2
      have hstep := HK.out k hlt
      have HS : Hid (stC (X, Y) L[k] = crE (A, B) (L.take (k + 1))) := by show _ = _; rw [crE_take _ _ hlt, HR.out.2.1]
      have HT : Hid (crL (A, B) (L.take (k + 1)) = crL (A, B) (L.take k) ++ [stC (X, Y) L[k]]) := by show _ = _; rw [crL_take _ _ hlt, HR.out.2.1]
      have HD : Hid (crO (A, B) L = (okS (X, Y) L[k] && crO (stC (X, Y) L[k]) (L.drop (k + 1)))) := by show _ = _; rw [HR.out.2.2, crO_drop _ _ _ hlt]
      have hml : (crL (A, B) (L.take k)).length < 1000000000000 := by rw [crL_len, List.length_take]; omega
      clear q1 q2
      generalize L[k] = c at d1 d2 hstep HS HT HD
      generalize crL (A, B) (L.take k) = M at ho HT hml
      obtain ⟨x, y⟩ := c
      simp only at d1 d2 hstep
      have hcall := c_tlApply x X Y y HR.out.1 hstep
      have hnext : okS (X, Y) (x, y) = true → curveB (apA x X y) (apB x Y y) = true := fun h => stC_curve (c := (X, Y)) (s := (x, y)) hstep HR.out.1 h
      have hok : okS (X, Y) (x, y) = apOk x X Y y := rfl
      have hst : stC (X, Y) (x, y) = (apA x X y, apB x Y y) := rfl
      rw [hok] at hnext HD
      rw [hst] at HS HT HD
      clear hok hst hstep
      generalize apA x X y = X' at hcall hnext HS HT HD
      generalize apB x Y y = Y' at hcall hnext HS HT HD
      have kS := Blk.new wr #[.int .i64 x, .int .i64 y] 41
      have kD1 := kC.alloc (.cells #[.int .i64 x, .int .i64 y] 41)
      have hA := (Below.refl wr.heap.size wr).alloc (Nat.le_refl _) (.cells #[.int .i64 x, .int .i64 y] 41)
      have ho1 := OwnsP.below ho hA
      cases hq : apOk x X Y y
      · rw [hq] at hcall HD
        simp only [rs, Bool.false_eq_true, if_false, Bool.false_and] at hcall HD
        have HCA := Lib.hid hcall
        clear hcall hnext hq
        have kC0 : (wr).cell? ⟨w.heap.size, 0, none⟩ = some (.int .i64 X) := kC.cell 0; have kC1 : (wr).cell? ⟨w.heap.size, 1, none⟩ = some (.int .i64 Y) := kC.cell 1; have kCl : w.heap.size < (wr).heap.size := kC.lt
        go_wp2_with fail
        (go_at_call 41; refine (HCA.out _).mono ?_; rintro e w2 ⟨rfl, hb2⟩; obtain ⟨hc2, hf2⟩ := bcell hb2; have hz2 := hb2.size; (try simp only [World.size_alloc] at hz2); (try (have hy2 : w.heap.size < w2.heap.size := by omega)); (try (have hx2 := Nat.lt_of_succ_le hz2)); (try (have hv2 := Nat.lt_of_succ_le (Nat.le_of_lt hx2))); (try (have hy2_1 : w1.heap.size < w2.heap.size := by omega)))
        go_wp2
        go_ret2
        refine ListPost.no HD.out ?_
        (repeat' (first | (with_reducible exact Below.refl _ _) | (with_reducible refine below_step (by assumption) ?_ ?_) | (with_reducible refine Below.alloc ?_ ?_ _) | (with_reducible refine Below.setCell ?_ ?_ _) | (with_reducible refine below_drewN ?_ _) | (with_reducible refine Below.drew ?_) | omega | (simp; omega) | (simp; done)))
      · rw [hq] at hcall HD
        simp only [rs, if_true, Bool.true_and] at hcall HD
        have HCA := Lib.hid hcall
        have HN := Lib.hid (hnext hq)
        clear hcall hnext hq
        have kC0 : (wr).cell? ⟨w.heap.size, 0, none⟩ = some (.int .i64 X) := kC.cell 0; have kC1 : (wr).cell? ⟨w.heap.size, 1, none⟩ = some (.int .i64 Y) := kC.cell 1; have kCl : w.heap.size < (wr).heap.size := kC.lt
        go_wp2_with fail
        (go_at_call 41; refine (HCA.out _).mono ?_; rintro e w2 ⟨rfl, hb2⟩; obtain ⟨hc2, hf2⟩ := bcell hb2; have hz2 := hb2.size; (try simp only [World.size_alloc] at hz2); (try (have hy2 : w.heap.size < w2.heap.size := by omega)); (try (have hx2 := Nat.lt_of_succ_le hz2)); (try (have hv2 := Nat.lt_of_succ_le (Nat.le_of_lt hx2))); (try (have hy2_1 : w1.heap.size < w2.heap.size := by omega)))
        have kE := kD1.next hb2
        have hb3 : Below w.heap.size w w2 := by (repeat' (first | (with_reducible exact Below.refl _ _) | (with_reducible refine below_step (by assumption) ?_ ?_) | (with_reducible refine Below.alloc ?_ ?_ _) | (with_reducible refine Below.setCell ?_ ?_ _) | (with_reducible refine below_drewN ?_ _) | (with_reducible refine Below.drew ?_) | omega | (simp; omega) | (simp; done)))
        have ho2 := OwnsP.below ho1 hb2
        have hsz2 := hb3.size
        have hzz : w.heap.size < w2.heap.size := kE.lt
        clear hc2 hf2 kC0 kC1 d1 d2 kD1 ho1 ho
        have ho3 := OwnsP.below (OwnsP.far (OwnsP.far ho2 (p := ⟨w.heap.size, 0, none⟩) (Nat.lt_succ_self _) (.int .i64 X')) (p := ⟨w.heap.size, 1, none⟩) (Nat.lt_succ_self _) (.int .i64 Y')) ((Below.refl _ _).alloc (Nat.le_refl _) (.cells #[.int .i64 X', .int .i64 Y'] 25))
        have kF := ((kE.set 0 (.int .i64 X')).set 1 (.int .i64 Y')).alloc (.cells #[.int .i64 X', .int .i64 Y'] 25)
        have hb4 : Below w.heap.size w (((w2.setCell ⟨w.heap.size, 0, none⟩ (.int .i64 X')).setCell ⟨w.heap.size, 1, none⟩ (.int .i64 Y')).alloc (.cells #[.int .i64 X', .int .i64 Y'] 25)) := ((hb3.setCell (Nat.le_refl _) _).setCell (Nat.le_refl _) _).alloc (by simp [World.setCell]; omega) _
        have kE0 : (w2).cell? ⟨w.heap.size, 0, none⟩ = some (.int .i64 X) := kE.cell 0; have kE1 : (w2).cell? ⟨w.heap.size, 1, none⟩ = some (.int .i64 Y) := kE.cell 1; have kEf0 : (w2).frozen? ⟨w.heap.size, 0, none⟩ = false := kE.frozen 0; have kEf1 : (w2).frozen? ⟨w.heap.size, 1, none⟩ = false := kE.frozen 1; have kEl : w.heap.size < (w2).heap.size := kE.lt
        have hs4 : w.heap.size + 1 ≤ (((w2.setCell ⟨w.heap.size, 0, none⟩ (.int .i64 X')).setCell ⟨w.heap.size, 1, none⟩ (.int .i64 Y')).alloc (.cells #[.int .i64 X', .int .i64 Y'] 25)).heap.size := by simp [World.setCell]; omega
        have H3 := Lib.hid (And.intro ho3 (And.intro kF (And.intro hb4 hs4)))
        clear ho3 kF hb4 hs4
        go_wp2_with (at_builtin; refine wpList_appC (p := (X', Y')) rfl _ _ rfl (w.heap.size + 1) _ _ rfl H3.out.1 (by simp [World.setCell, go_sem]) hml H3.out.2.2.2 ?_; intro v' w4 ho4 hb4 hg4)
        have hb5 := below_step hb4 (Nat.le_succ _) H3.out.2.2.1
        have kG : Blk w.heap.size #[.int .i64 X', .int .i64 Y'] 25 w4 := (hb4.block w.heap.size (Nat.lt_succ_self _)).trans H3.out.2.1
        clear hg4
        go_wp2
        go_roundw
        case rel => exact ⟨k + 1, X', Y', by omega, by go_num, ⟨HN.out, HS.out, HD.out⟩, by rw [HT.out]; exact ho4, kG, hb5⟩
        case measure => simp [intOf]; omega
    · obtain rfl : k = L.length := by omega
      rw [List.take_length] at ho
      have HE : Hid (crO (A, B) L = true) := by show _ = _; rw [HR.out.2.2, crO_end]
      go_wp2
      go_ret2
      exact ListPost.yes HE.out (ho.le (by omega)) hbr
set_option maxHeartbeats 2000000 in
theorem c_curvesOfLog (base : Nat) (v : Value) (A B : Int) (L : List (Int × Int)) (hC : curveB A B = true) (hG : logB L = true) (w : World) (hown : OwnsS w base v L) :
    Calls Try.prog 28 #[.agg #[.int .i64 A, .int .i64 B], v] w (ListPost 25 w (crR (A, B) L) (crO (A, B) L)) := by
  obtain ⟨hl, hst⟩ := logB_of hG
  have HK : Hid (∀ k (hk : k < L.length), stepB L[k].1 L[k].2 = true) := hst
  have HG := Lib.hid hG
  obtain ⟨a, cap, rfl, hform⟩ := OwnsP.form hown
  have HF := Lib.hid hform
  have HC := Lib.hid hC
  clear hform hown hst hG hC
  have kC := (Blk.new w #[.int .i64 A, .int .i64 B] 25).alloc (.cells #[.int .i64 A, .int .i64 B] 25)
  have ho := OwnsP.one (w.alloc (.cells #[.int .i64 A, .int .i64 B] 25)) 25 A B
  have hB : Below w.heap.size w ((w.alloc (.cells #[.int .i64 A, .int .i64 B] 25)).alloc (.cells #[.int .i64 A, .int .i64 B] 25)) := by (repeat' (first | (with_reducible exact Below.refl _ _) | (with_reducible refine below_step (by assumption) ?_ ?_) | (with_reducible refine Below.alloc ?_ ?_ _) | (with_reducible refine Below.setCell ?_ ?_ _) | (with_reducible refine below_drewN ?_ _) | (with_reducible refine Below.drew ?_) | omega | (simp; omega) | (simp; done)))
  simp only [World.size_alloc] at ho
  go_enter Try.func28, Try.ntmps28
  go_wp2
  generalize (w.alloc _).alloc _ = W at *
  go_loopw [6, 15] (fun out i wr => ∃ (k : Nat) (X Y : Int), k ≤ L.length ∧ i = .int .i64 k ∧ Hid (curveB X Y = true ∧ (X, Y) = crE (A, B) (L.take k) ∧ crO (A, B) L = crO (X, Y) (L.drop k)) ∧ OwnsC wr (w.heap.size + 1) out (crL (A, B) (L.take k)) ∧ Blk w.heap.size #[.int .i64 X, .int .i64 Y] 25 wr ∧ Below w.heap.size w wr) (fun _ i _ => L.length - (intOf i).toNat)
  case atStart => exact ⟨0, A, B, Nat.zero_le _, rfl, ⟨HC.out, rfl, rfl⟩, ho, kC, hB⟩
  case round =>
    clear ho kC hB
    obtain ⟨k, X, Y, hk, rfl, HR, ho, kC, hbr⟩ := hrel
    have hzr := hbr.size
    by_cases hlt : k < L.length
    · obtain ⟨g, rfl, q1, q2, _, hg, _⟩ := HF.out k hlt
      have d1 : wr.cell? ⟨g, k * 2, none⟩ = _ := (hbr.cell (p := ⟨g, k * 2, none⟩) hg).trans q1
      have d2 : wr.cell? ⟨g, k * 2 + 1, none⟩ = _ := (hbr.cell (p := ⟨g, k * 2 + 1, none⟩) hg).trans q2
      have hstep := HK.out k hlt
      have HS : Hid (stC (X, Y) L[k] = crE (A, B) (L.take (k + 1))) := by show _ = _; rw [crE_take _ _ hlt, HR.out.2.1]
      have HT : Hid (crL (A, B) (L.take (k + 1)) = crL (A, B) (L.take k) ++ [stC (X, Y) L[k]]) := by show _ = _; rw [crL_take _ _ hlt, HR.out.2.1]
      have HD : Hid (crO (A, B) L = (okS (X, Y) L[k] && crO (stC (X, Y) L[k]) (L.drop (k + 1)))) := by show _ = _; rw [HR.out.2.2, crO_drop _ _ _ hlt]
      have hml : (crL (A, B) (L.take k)).length < 1000000000000 := by rw [crL_len, List.length_take]; omega
      clear q1 q2
      generalize L[k] = c at d1 d2 hstep HS HT HD
      generalize crL (A, B) (L.take k) = M at ho HT hml
      obtain ⟨x, y⟩ := c
      simp only at d1 d2 hstep
      have hcall := c_applyStep x X Y y HR.out.1 hstep
      have hnext : okS (X, Y) (x, y) = true → curveB (apA x X y) (apB x Y y) = true := fun h => stC_curve (c := (X, Y)) (s := (x, y)) hstep HR.out.1 h
      have hok : okS (X, Y) (x, y) = apOk x X Y y := rfl
      have hst : stC (X, Y) (x, y) = (apA x X y, apB x Y y) := rfl
      rw [hok] at hnext HD
      rw [hst] at HS HT HD
      clear hok hst hstep
      generalize apA x X y = X' at hcall hnext HS HT HD
      generalize apB x Y y = Y' at hcall hnext HS HT HD
      have kS := Blk.new wr #[.int .i64 x, .int .i64 y] 41
      have kD1 := kC.alloc (.cells #[.int .i64 x, .int .i64 y] 41)
      have hA := (Below.refl wr.heap.size wr).alloc (Nat.le_refl _) (.cells #[.int .i64 x, .int .i64 y] 41)
      have ho1 := OwnsP.below ho hA
      cases hq : apOk x X Y y
      · rw [hq] at hcall HD
        simp only [rs, Bool.false_eq_true, if_false, Bool.false_and] at hcall HD
        have HCA := Lib.hid hcall
        clear hcall hnext hq
        have kC0 : (wr).cell? ⟨w.heap.size, 0, none⟩ = some (.int .i64 X) := kC.cell 0; have kC1 : (wr).cell? ⟨w.heap.size, 1, none⟩ = some (.int .i64 Y) := kC.cell 1; have kCl : w.heap.size < (wr).heap.size := kC.lt
        go_wp2_with fail
        (go_at_call 36; refine (HCA.out _).mono ?_; rintro e w2 ⟨rfl, hb2⟩; obtain ⟨hc2, hf2⟩ := bcell hb2; have hz2 := hb2.size; (try simp only [World.size_alloc] at hz2); (try (have hy2 : w.heap.size < w2.heap.size := by omega)); (try (have hx2 := Nat.lt_of_succ_le hz2)); (try (have hv2 := Nat.lt_of_succ_le (Nat.le_of_lt hx2))); (try (have hy2_1 : w1.heap.size < w2.heap.size := by omega)))
        go_wp2
        go_ret2
        refine ListPost.no HD.out ?_
        (repeat' (first | (with_reducible exact Below.refl _ _) | (with_reducible refine below_step (by assumption) ?_ ?_) | (with_reducible refine Below.alloc ?_ ?_ _) | (with_reducible refine Below.setCell ?_ ?_ _) | (with_reducible refine below_drewN ?_ _) | (with_reducible refine Below.drew ?_) | omega | (simp; omega) | (simp; done)))
      · rw [hq] at hcall HD
        simp only [rs, if_true, Bool.true_and] at hcall HD
        have HCA := Lib.hid hcall
        have HN := Lib.hid (hnext hq)
        clear hcall hnext hq
        have kC0 : (wr).cell? ⟨w.heap.size, 0, none⟩ = some (.int .i64 X) := kC.cell 0; have kC1 : (wr).cell? ⟨w.heap.size, 1, none⟩ = some (.int .i64 Y) := kC.cell 1; have kCl : w.heap.size < (wr).heap.size := kC.lt
        go_wp2_with fail
        (go_at_call 36; refine (HCA.out _).mono ?_; rintro e w2 ⟨rfl, hb2⟩; obtain ⟨hc2, hf2⟩ := bcell hb2; have hz2 := hb2.size; (try simp only [World.size_alloc] at hz2); (try (have hy2 : w.heap.size < w2.heap.size := by omega)); (try (have hx2 := Nat.lt_of_succ_le hz2)); (try (have hv2 := Nat.lt_of_succ_le (Nat.le_of_lt hx2))); (try (have hy2_1 : w1.heap.size < w2.heap.size := by omega)))
        have kE := kD1.next hb2
        have hb3 : Below w.heap.size w w2 := by (repeat' (first | (with_reducible exact Below.refl _ _) | (with_reducible refine below_step (by assumption) ?_ ?_) | (with_reducible refine Below.alloc ?_ ?_ _) | (with_reducible refine Below.setCell ?_ ?_ _) | (with_reducible refine below_drewN ?_ _) | (with_reducible refine Below.drew ?_) | omega | (simp; omega) | (simp; done)))
        have ho2 := OwnsP.below ho1 hb2
        have hsz2 := hb3.size
        have hzz : w.heap.size < w2.heap.size := kE.lt
        clear hc2 hf2 kC0 kC1 d1 d2 kD1 ho1 ho
        have ho3 := OwnsP.below (OwnsP.far (OwnsP.far ho2 (p := ⟨w.heap.size, 0, none⟩) (Nat.lt_succ_self _) (.int .i64 X')) (p := ⟨w.heap.size, 1, none⟩) (Nat.lt_succ_self _) (.int .i64 Y')) ((Below.refl _ _).alloc (Nat.le_refl _) (.cells #[.int .i64 X', .int .i64 Y'] 25))
        have kF := ((kE.set 0 (.int .i64 X')).set 1 (.int .i64 Y')).alloc (.cells #[.int .i64 X', .int .i64 Y'] 25)
        have hb4 : Below w.heap.size w (((w2.setCell ⟨w.heap.size, 0, none⟩ (.int .i64 X')).setCell ⟨w.heap.size, 1, none⟩ (.int .i64 Y')).alloc (.cells #[.int .i64 X', .int .i64 Y'] 25)) := ((hb3.setCell (Nat.le_refl _) _).setCell (Nat.le_refl _) _).alloc (by simp [World.setCell]; omega) _
        have kE0 : (w2).cell? ⟨w.heap.size, 0, none⟩ = some (.int .i64 X) := kE.cell 0; have kE1 : (w2).cell? ⟨w.heap.size, 1, none⟩ = some (.int .i64 Y) := kE.cell 1; have kEf0 : (w2).frozen? ⟨w.heap.size, 0, none⟩ = false := kE.frozen 0; have kEf1 : (w2).frozen? ⟨w.heap.size, 1, none⟩ = false := kE.frozen 1; have kEl : w.heap.size < (w2).heap.size := kE.lt
        have hs4 : w.heap.size + 1 ≤ (((w2.setCell ⟨w.heap.size, 0, none⟩ (.int .i64 X')).setCell ⟨w.heap.size, 1, none⟩ (.int .i64 Y')).alloc (.cells #[.int .i64 X', .int .i64 Y'] 25)).heap.size := by simp [World.setCell]; omega
        have H3 := Lib.hid (And.intro ho3 (And.intro kF (And.intro hb4 hs4)))
        clear ho3 kF hb4 hs4
        go_wp2_with (at_builtin; refine wpList_appC (p := (X', Y')) rfl _ _ rfl (w.heap.size + 1) _ _ rfl H3.out.1 (by simp [World.setCell, go_sem]) hml H3.out.2.2.2 ?_; intro v' w4 ho4 hb4 hg4)
        have hb5 := below_step hb4 (Nat.le_succ _) H3.out.2.2.1
        have kG : Blk w.heap.size #[.int .i64 X', .int .i64 Y'] 25 w4 := (hb4.block w.heap.size (Nat.lt_succ_self _)).trans H3.out.2.1
        clear hg4
        go_wp2
        go_roundw
        case rel => exact ⟨k + 1, X', Y', by omega, by go_num, ⟨HN.out, HS.out, HD.out⟩, by rw [HT.out]; exact ho4, kG, hb5⟩
        case measure => simp [intOf]; omega
    · obtain rfl : k = L.length := by omega
      rw [List.take_length] at ho
      have HE : Hid (crO (A, B) L = true) := by show _ = _; rw [HR.out.2.2, crO_end]
      go_wp2
      go_ret2
      exact ListPost.yes HE.out (ho.le (by omega)) hbr
end Go.Proofs.Ytpnpidepkfnofaa
