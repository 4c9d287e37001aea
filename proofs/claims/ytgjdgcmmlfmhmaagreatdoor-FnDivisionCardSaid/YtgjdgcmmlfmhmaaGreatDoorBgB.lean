/- Walks: sums of digits (bgLimb, bgCombine). -/
import Derived.Test.YtgjdgcmmlfmhmaaGreatDoorBgA
import Derived.Test.YtgjdgcmmlfmhmaaGreatDoorBgO
namespace Go.Proofs.YtgjdgcmmlfmhmaaGreatDoor
open Go.RowKit

theorem c_bgLimb (v : Value) (L : List Int) (i : Nat) (w : World) (h : RdL w v L) : Calls Tryz.prog 130 #[v, .int .i64 i] w fun e w' => e = .returned (.int .i64 (L[i]?.getD 0)) ∧ w' = w := by
  obtain ⟨a, cap, rfl, _, hc⟩ := h
  by_cases hi : i < L.length
  · obtain ⟨g, o, rfl, q, _⟩ := hc i hi
    generalize L[i]?.getD 0 = x at q
    clear hc
    go_enter Tryz.func130, Tryz.ntmps130
    go_wp2
    go_ret
    exact ⟨rfl, rfl⟩
  · have e : L[i]?.getD 0 = 0 := by simp [hi]
    rw [e]
    clear hc e
    go_enter Tryz.func130, Tryz.ntmps130
    go_wp2
    go_ret
    exact ⟨rfl, rfl⟩
set_option maxHeartbeats 4000000 in
set_option maxRecDepth 20000 in
theorem c_bgCombine (s : Int) (hs : s = 1 ∨ s = -1) (a b : Value) (la lb : List Int) (hla : la.length ≤ 100000) (hlb : lb.length ≤ 100000) (hda : Dg la) (hdb : Dg lb) (hV : 0 ≤ vl la + s * vl lb) (w : World) (ha : RdL w a la) (hb' : RdL w b lb) :
    Calls Tryz.prog 121 #[a, b, .int .i64 s] w (SmP (vl la + s * vl lb) (max la.length lb.length + 1) w) := by
  have HA := Lib.hid ha
  have HA2 := Lib.hid hb'
  obtain ⟨aa, ca, rfl, _, _⟩ := ha
  obtain ⟨ab, cb, rfl, _, _⟩ := hb'
  obtain ⟨m, hm⟩ : ∃ m, m = max la.length lb.length := ⟨_, rfl⟩
  rw [← hm]
  have hm1 : la.length ≤ m := by omega
  have hm2 : lb.length ≤ m := by omega
  have hm3 : m ≤ 100000 := by omega
  clear hm
  have HV := Lib.hid hV
  clear hV
  rcases hs with rfl | rfl
  · -- 1: the sign, (.inl rfl): its proof, x + y: x + s y
    go_enter Tryz.func121, Tryz.ntmps121
    go_wp2
    go_loopw [7, 8, 9] (fun ov cv iv wr => ∃ (i : Nat) (O : List Int) (c : Int), i ≤ m + 1 ∧ cv = .int .i64 c ∧ iv = .int .i64 i ∧ Hid (Cb la lb (1) i O c) ∧ OwnsI wr w.heap.size ov O ∧ Below w.heap.size w wr) (fun _ _ iv _ => m + 1 - (intOf iv).toNat)
    case atStart => exact ⟨0, [], 0, by omega, rfl, rfl, Lib.hid (Cb.zero _ _ _), OwnsI.nil _ _, Below.refl _ _⟩
    case round =>
      obtain ⟨i, O, c, hi, rfl, rfl, hC, ho, hb⟩ := hrel
      have hlo := Lib.hid hC.out.len
      by_cases hlt : ¬ (i < la.length) ∧ ¬ (i < lb.length) ∧ c = 0
      · obtain ⟨h1, h2, rfl⟩ := hlt
        have hE : Hid (Dg O ∧ vl O = vl la + (1) * vl lb) := by
          refine ⟨hC.out.dg, ?_⟩
          have := hC.out.eq
          rw [vl_take_full la (by omega), vl_take_full lb (by omega)] at this
          omega
        have hol : Hid (O.length ≤ m + 1) := by show _ ≤ _; have := hlo.out; omega
        clear hi hC hlo
        go_wp2
        go_ret
        exact ⟨_, O, rfl, ho, hE.out.1, hE.out.2, hol.out, hb⟩
      · have hi1 : i < m + 1 := by
          rcases Nat.lt_or_ge i (m + 1) with h | h
          · exact h
          · exfalso
            obtain ⟨hc0, _⟩ := hC.out.done hda hdb (.inl rfl) (by omega) (by omega) HV.out
            exact hlt ⟨by omega, by omega, hc0⟩
        have hxa := hda.adi i
        have hyb := hdb.adi i
        have hclo := hC.out.lo
        have hchi := hC.out.hi
        have HL1 := Lib.hid (c_bgLimb _ la i _ (HA.out.below hb))
        have HL2 := Lib.hid (c_bgLimb _ lb i _ (HA2.out.below hb))
        generalize hex : la[i]?.getD 0 = x at hxa HL1
        generalize hey : lb[i]?.getD 0 = y at hyb HL2
        have ex := Lib.hid hex
        have ey := Lib.hid hey
        clear hex hey
        rcases (by omega : i < la.length ∨ (¬ i < la.length ∧ i < lb.length) ∨ (¬ i < la.length ∧ ¬ i < lb.length ∧ c ≠ 0)) with hq | hq | hq
        · go_wp2_with fail
          refine HL1.out.mono ?_
          rintro e w1 ⟨rfl, hw⟩
          rw [hw]
          clear hw
          go_wp2_with fail
          refine HL2.out.mono ?_
          rintro e w1 ⟨rfl, hw⟩
          rw [hw]
          clear hw
          clear HL1 HL2
          rcases (by omega : x + y + c < 0 ∨ 10000 ≤ x + y + c ∨ (0 ≤ x + y + c ∧ x + y + c ≤ 9999)) with hn | hn | hn
          · -- x + y + c + 10000: the digit, -1: the carry
            have hC2 := Lib.hid (hC.out.step (d := x + y + c + 10000) (c' := -1) ex.out ey.out rfl (by omega) (by omega) (by omega))
            go_wp2_with (at_builtin; refine wpList_app_int rfl _ _ rfl w.heap.size _ O rfl ho rfl (by have := hlo.out; omega) hb.size ?_; intro v' w4 ho4 hb4 hg4)
            go_wp2
            go_roundw
            case rel => exact ⟨i + 1, O ++ [x + y + c + 10000], -1, by omega, by go_num, by go_num, hC2, ho4, hb.trans hb4⟩
            case measure => simp [intOf]; omega
          · -- x + y + c - 10000: the digit, 1: the carry
            have hC2 := Lib.hid (hC.out.step (d := x + y + c - 10000) (c' := 1) ex.out ey.out rfl (by omega) (by omega) (by omega))
            go_wp2_with (at_builtin; refine wpList_app_int rfl _ _ rfl w.heap.size _ O rfl ho rfl (by have := hlo.out; omega) hb.size ?_; intro v' w4 ho4 hb4 hg4)
            go_wp2
            go_roundw
            case rel => exact ⟨i + 1, O ++ [x + y + c - 10000], 1, by omega, by go_num, by go_num, hC2, ho4, hb.trans hb4⟩
            case measure => simp [intOf]; omega
          · -- x + y + c: the digit, 0: the carry
            have hC2 := Lib.hid (hC.out.step (d := x + y + c) (c' := 0) ex.out ey.out rfl (by omega) (by omega) (by omega))
            go_wp2_with (at_builtin; refine wpList_app_int rfl _ _ rfl w.heap.size _ O rfl ho rfl (by have := hlo.out; omega) hb.size ?_; intro v' w4 ho4 hb4 hg4)
            go_wp2
            go_roundw
            case rel => exact ⟨i + 1, O ++ [x + y + c], 0, by omega, by go_num, by go_num, hC2, ho4, hb.trans hb4⟩
            case measure => simp [intOf]; omega
        · go_wp2_with fail
          refine HL1.out.mono ?_
          rintro e w1 ⟨rfl, hw⟩
          rw [hw]
          clear hw
          go_wp2_with fail
          refine HL2.out.mono ?_
          rintro e w1 ⟨rfl, hw⟩
          rw [hw]
          clear hw
          clear HL1 HL2
          rcases (by omega : x + y + c < 0 ∨ 10000 ≤ x + y + c ∨ (0 ≤ x + y + c ∧ x + y + c ≤ 9999)) with hn | hn | hn
          · -- x + y + c + 10000: the digit, -1: the carry
            have hC2 := Lib.hid (hC.out.step (d := x + y + c + 10000) (c' := -1) ex.out ey.out rfl (by omega) (by omega) (by omega))
            go_wp2_with (at_builtin; refine wpList_app_int rfl _ _ rfl w.heap.size _ O rfl ho rfl (by have := hlo.out; omega) hb.size ?_; intro v' w4 ho4 hb4 hg4)
            go_wp2
            go_roundw
            case rel => exact ⟨i + 1, O ++ [x + y + c + 10000], -1, by omega, by go_num, by go_num, hC2, ho4, hb.trans hb4⟩
            case measure => simp [intOf]; omega
          · -- x + y + c - 10000: the digit, 1: the carry
            have hC2 := Lib.hid (hC.out.step (d := x + y + c - 10000) (c' := 1) ex.out ey.out rfl (by omega) (by omega) (by omega))
            go_wp2_with (at_builtin; refine wpList_app_int rfl _ _ rfl w.heap.size _ O rfl ho rfl (by have := hlo.out; omega) hb.size ?_; intro v' w4 ho4 hb4 hg4)
            go_wp2
            go_roundw
            case rel => exact ⟨i + 1, O ++ [x + y + c - 10000], 1, by omega, by go_num, by go_num, hC2, ho4, hb.trans hb4⟩
            case measure => simp [intOf]; omega
          · -- x + y + c: the digit, 0: the carry
            have hC2 := Lib.hid (hC.out.step (d := x + y + c) (c' := 0) ex.out ey.out rfl (by omega) (by omega) (by omega))
            go_wp2_with (at_builtin; refine wpList_app_int rfl _ _ rfl w.heap.size _ O rfl ho rfl (by have := hlo.out; omega) hb.size ?_; intro v' w4 ho4 hb4 hg4)
            go_wp2
            go_roundw
            case rel => exact ⟨i + 1, O ++ [x + y + c], 0, by omega, by go_num, by go_num, hC2, ho4, hb.trans hb4⟩
            case measure => simp [intOf]; omega
        · go_wp2_with fail
          refine HL1.out.mono ?_
          rintro e w1 ⟨rfl, hw⟩
          rw [hw]
          clear hw
          go_wp2_with fail
          refine HL2.out.mono ?_
          rintro e w1 ⟨rfl, hw⟩
          rw [hw]
          clear hw
          clear HL1 HL2
          rcases (by omega : x + y + c < 0 ∨ 10000 ≤ x + y + c ∨ (0 ≤ x + y + c ∧ x + y + c ≤ 9999)) with hn | hn | hn
          · -- x + y + c + 10000: the digit, -1: the carry
            have hC2 := Lib.hid (hC.out.step (d := x + y + c + 10000) (c' := -1) ex.out ey.out rfl (by omega) (by omega) (by omega))
            go_wp2_with (at_builtin; refine wpList_app_int rfl _ _ rfl w.heap.size _ O rfl ho rfl (by have := hlo.out; omega) hb.size ?_; intro v' w4 ho4 hb4 hg4)
            go_wp2
            go_roundw
            case rel => exact ⟨i + 1, O ++ [x + y + c + 10000], -1, by omega, by go_num, by go_num, hC2, ho4, hb.trans hb4⟩
            case measure => simp [intOf]; omega
          · -- x + y + c - 10000: the digit, 1: the carry
            have hC2 := Lib.hid (hC.out.step (d := x + y + c - 10000) (c' := 1) ex.out ey.out rfl (by omega) (by omega) (by omega))
            go_wp2_with (at_builtin; refine wpList_app_int rfl _ _ rfl w.heap.size _ O rfl ho rfl (by have := hlo.out; omega) hb.size ?_; intro v' w4 ho4 hb4 hg4)
            go_wp2
            go_roundw
            case rel => exact ⟨i + 1, O ++ [x + y + c - 10000], 1, by omega, by go_num, by go_num, hC2, ho4, hb.trans hb4⟩
            case measure => simp [intOf]; omega
          · -- x + y + c: the digit, 0: the carry
            have hC2 := Lib.hid (hC.out.step (d := x + y + c) (c' := 0) ex.out ey.out rfl (by omega) (by omega) (by omega))
            go_wp2_with (at_builtin; refine wpList_app_int rfl _ _ rfl w.heap.size _ O rfl ho rfl (by have := hlo.out; omega) hb.size ?_; intro v' w4 ho4 hb4 hg4)
            go_wp2
            go_roundw
            case rel => exact ⟨i + 1, O ++ [x + y + c], 0, by omega, by go_num, by go_num, hC2, ho4, hb.trans hb4⟩
            case measure => simp [intOf]; omega
  · -- -1: the sign, (.inr rfl): its proof, x + -y: x + s y
    go_enter Tryz.func121, Tryz.ntmps121
    go_wp2
    go_loopw [7, 8, 9] (fun ov cv iv wr => ∃ (i : Nat) (O : List Int) (c : Int), i ≤ m + 1 ∧ cv = .int .i64 c ∧ iv = .int .i64 i ∧ Hid (Cb la lb (-1) i O c) ∧ OwnsI wr w.heap.size ov O ∧ Below w.heap.size w wr) (fun _ _ iv _ => m + 1 - (intOf iv).toNat)
    case atStart => exact ⟨0, [], 0, by omega, rfl, rfl, Lib.hid (Cb.zero _ _ _), OwnsI.nil _ _, Below.refl _ _⟩
    case round =>
      obtain ⟨i, O, c, hi, rfl, rfl, hC, ho, hb⟩ := hrel
      have hlo := Lib.hid hC.out.len
      by_cases hlt : ¬ (i < la.length) ∧ ¬ (i < lb.length) ∧ c = 0
      · obtain ⟨h1, h2, rfl⟩ := hlt
        have hE : Hid (Dg O ∧ vl O = vl la + (-1) * vl lb) := by
          refine ⟨hC.out.dg, ?_⟩
          have := hC.out.eq
          rw [vl_take_full la (by omega), vl_take_full lb (by omega)] at this
          omega
        have hol : Hid (O.length ≤ m + 1) := by show _ ≤ _; have := hlo.out; omega
        clear hi hC hlo
        go_wp2
        go_ret
        exact ⟨_, O, rfl, ho, hE.out.1, hE.out.2, hol.out, hb⟩
      · have hi1 : i < m + 1 := by
          rcases Nat.lt_or_ge i (m + 1) with h | h
          · exact h
          · exfalso
            obtain ⟨hc0, _⟩ := hC.out.done hda hdb (.inr rfl) (by omega) (by omega) HV.out
            exact hlt ⟨by omega, by omega, hc0⟩
        have hxa := hda.adi i
        have hyb := hdb.adi i
        have hclo := hC.out.lo
        have hchi := hC.out.hi
        have HL1 := Lib.hid (c_bgLimb _ la i _ (HA.out.below hb))
        have HL2 := Lib.hid (c_bgLimb _ lb i _ (HA2.out.below hb))
        generalize hex : la[i]?.getD 0 = x at hxa HL1
        generalize hey : lb[i]?.getD 0 = y at hyb HL2
        have ex := Lib.hid hex
        have ey := Lib.hid hey
        clear hex hey
        rcases (by omega : i < la.length ∨ (¬ i < la.length ∧ i < lb.length) ∨ (¬ i < la.length ∧ ¬ i < lb.length ∧ c ≠ 0)) with hq | hq | hq
        · go_wp2_with fail
          refine HL1.out.mono ?_
          rintro e w1 ⟨rfl, hw⟩
          rw [hw]
          clear hw
          go_wp2_with fail
          refine HL2.out.mono ?_
          rintro e w1 ⟨rfl, hw⟩
          rw [hw]
          clear hw
          clear HL1 HL2
          rcases (by omega : x + -y + c < 0 ∨ 10000 ≤ x + -y + c ∨ (0 ≤ x + -y + c ∧ x + -y + c ≤ 9999)) with hn | hn | hn
          · -- x + -y + c + 10000: the digit, -1: the carry
            have hC2 := Lib.hid (hC.out.step (d := x + -y + c + 10000) (c' := -1) ex.out ey.out rfl (by omega) (by omega) (by omega))
            go_wp2_with (at_builtin; refine wpList_app_int rfl _ _ rfl w.heap.size _ O rfl ho rfl (by have := hlo.out; omega) hb.size ?_; intro v' w4 ho4 hb4 hg4)
            go_wp2
            go_roundw
            case rel => exact ⟨i + 1, O ++ [x + -y + c + 10000], -1, by omega, by go_num, by go_num, hC2, ho4, hb.trans hb4⟩
            case measure => simp [intOf]; omega
          · -- x + -y + c - 10000: the digit, 1: the carry
            have hC2 := Lib.hid (hC.out.step (d := x + -y + c - 10000) (c' := 1) ex.out ey.out rfl (by omega) (by omega) (by omega))
            go_wp2_with (at_builtin; refine wpList_app_int rfl _ _ rfl w.heap.size _ O rfl ho rfl (by have := hlo.out; omega) hb.size ?_; intro v' w4 ho4 hb4 hg4)
            go_wp2
            go_roundw
            case rel => exact ⟨i + 1, O ++ [x + -y + c - 10000], 1, by omega, by go_num, by go_num, hC2, ho4, hb.trans hb4⟩
            case measure => simp [intOf]; omega
          · -- x + -y + c: the digit, 0: the carry
            have hC2 := Lib.hid (hC.out.step (d := x + -y + c) (c' := 0) ex.out ey.out rfl (by omega) (by omega) (by omega))
            go_wp2_with (at_builtin; refine wpList_app_int rfl _ _ rfl w.heap.size _ O rfl ho rfl (by have := hlo.out; omega) hb.size ?_; intro v' w4 ho4 hb4 hg4)
            go_wp2
            go_roundw
            case rel => exact ⟨i + 1, O ++ [x + -y + c], 0, by omega, by go_num, by go_num, hC2, ho4, hb.trans hb4⟩
            case measure => simp [intOf]; omega
        · go_wp2_with fail
          refine HL1.out.mono ?_
          rintro e w1 ⟨rfl, hw⟩
          rw [hw]
          clear hw
          go_wp2_with fail
          refine HL2.out.mono ?_
          rintro e w1 ⟨rfl, hw⟩
          rw [hw]
          clear hw
          clear HL1 HL2
          rcases (by omega : x + -y + c < 0 ∨ 10000 ≤ x + -y + c ∨ (0 ≤ x + -y + c ∧ x + -y + c ≤ 9999)) with hn | hn | hn
          · -- x + -y + c + 10000: the digit, -1: the carry
            have hC2 := Lib.hid (hC.out.step (d := x + -y + c + 10000) (c' := -1) ex.out ey.out rfl (by omega) (by omega) (by omega))
            go_wp2_with (at_builtin; refine wpList_app_int rfl _ _ rfl w.heap.size _ O rfl ho rfl (by have := hlo.out; omega) hb.size ?_; intro v' w4 ho4 hb4 hg4)
            go_wp2
            go_roundw
            case rel => exact ⟨i + 1, O ++ [x + -y + c + 10000], -1, by omega, by go_num, by go_num, hC2, ho4, hb.trans hb4⟩
            case measure => simp [intOf]; omega
          · -- x + -y + c - 10000: the digit, 1: the carry
            have hC2 := Lib.hid (hC.out.step (d := x + -y + c - 10000) (c' := 1) ex.out ey.out rfl (by omega) (by omega) (by omega))
            go_wp2_with (at_builtin; refine wpList_app_int rfl _ _ rfl w.heap.size _ O rfl ho rfl (by have := hlo.out; omega) hb.size ?_; intro v' w4 ho4 hb4 hg4)
            go_wp2
            go_roundw
            case rel => exact ⟨i + 1, O ++ [x + -y + c - 10000], 1, by omega, by go_num, by go_num, hC2, ho4, hb.trans hb4⟩
            case measure => simp [intOf]; omega
          · -- x + -y + c: the digit, 0: the carry
            have hC2 := Lib.hid (hC.out.step (d := x + -y + c) (c' := 0) ex.out ey.out rfl (by omega) (by omega) (by omega))
            go_wp2_with (at_builtin; refine wpList_app_int rfl _ _ rfl w.heap.size _ O rfl ho rfl (by have := hlo.out; omega) hb.size ?_; intro v' w4 ho4 hb4 hg4)
            go_wp2
            go_roundw
            case rel => exact ⟨i + 1, O ++ [x + -y + c], 0, by omega, by go_num, by go_num, hC2, ho4, hb.trans hb4⟩
            case measure => simp [intOf]; omega
        · go_wp2_with fail
          refine HL1.out.mono ?_
          rintro e w1 ⟨rfl, hw⟩
          rw [hw]
          clear hw
          go_wp2_with fail
          refine HL2.out.mono ?_
          rintro e w1 ⟨rfl, hw⟩
          rw [hw]
          clear hw
          clear HL1 HL2
          rcases (by omega : x + -y + c < 0 ∨ 10000 ≤ x + -y + c ∨ (0 ≤ x + -y + c ∧ x + -y + c ≤ 9999)) with hn | hn | hn
          · -- x + -y + c + 10000: the digit, -1: the carry
            have hC2 := Lib.hid (hC.out.step (d := x + -y + c + 10000) (c' := -1) ex.out ey.out rfl (by omega) (by omega) (by omega))
            go_wp2_with (at_builtin; refine wpList_app_int rfl _ _ rfl w.heap.size _ O rfl ho rfl (by have := hlo.out; omega) hb.size ?_; intro v' w4 ho4 hb4 hg4)
            go_wp2
            go_roundw
            case rel => exact ⟨i + 1, O ++ [x + -y + c + 10000], -1, by omega, by go_num, by go_num, hC2, ho4, hb.trans hb4⟩
            case measure => simp [intOf]; omega
          · -- x + -y + c - 10000: the digit, 1: the carry
            have hC2 := Lib.hid (hC.out.step (d := x + -y + c - 10000) (c' := 1) ex.out ey.out rfl (by omega) (by omega) (by omega))
            go_wp2_with (at_builtin; refine wpList_app_int rfl _ _ rfl w.heap.size _ O rfl ho rfl (by have := hlo.out; omega) hb.size ?_; intro v' w4 ho4 hb4 hg4)
            go_wp2
            go_roundw
            case rel => exact ⟨i + 1, O ++ [x + -y + c - 10000], 1, by omega, by go_num, by go_num, hC2, ho4, hb.trans hb4⟩
            case measure => simp [intOf]; omega
          · -- x + -y + c: the digit, 0: the carry
            have hC2 := Lib.hid (hC.out.step (d := x + -y + c) (c' := 0) ex.out ey.out rfl (by omega) (by omega) (by omega))
            go_wp2_with (at_builtin; refine wpList_app_int rfl _ _ rfl w.heap.size _ O rfl ho rfl (by have := hlo.out; omega) hb.size ?_; intro v' w4 ho4 hb4 hg4)
            go_wp2
            go_roundw
            case rel => exact ⟨i + 1, O ++ [x + -y + c], 0, by omega, by go_num, by go_num, hC2, ho4, hb.trans hb4⟩
            case measure => simp [intOf]; omega
end Go.Proofs.YtgjdgcmmlfmhmaaGreatDoor
