/- Walks: the order of absolute values (compareSizes, bgOrder). -/
import Derived.Test.YtgjdgcmmlfmhmaaGreatDoorBgB
namespace Go.Proofs.YtgjdgcmmlfmhmaaGreatDoor
open Go.RowKit

def cmpN (x y : Int) : Int := if x < y then -1 else if y < x then 1 else 0
/-- the same digits from i on -/
def EqUp (a b : List Int) (i : Nat) : Prop := ∀ j, i ≤ j → a[j]?.getD 0 = b[j]?.getD 0
theorem EqUp.start {a b : List Int} {i : Nat} (ha : a.length ≤ i) (hb : b.length ≤ i) : EqUp a b i := fun j hj => by
  have h1 : a[j]? = none := List.getElem?_eq_none (by omega)
  have h2 : b[j]? = none := List.getElem?_eq_none (by omega)
  rw [h1, h2]
theorem EqUp.step {a b : List Int} {i : Nat} (h : EqUp a b (i + 1)) (he : a[i]?.getD 0 = b[i]?.getD 0) : EqUp a b i := fun j hj => by
  rcases Nat.eq_or_lt_of_le hj with rfl | hj
  · exact he
  · exact h j hj
theorem EqUp.symm {a b : List Int} {i : Nat} (h : EqUp a b i) : EqUp b a i := fun j hj => (h j hj).symm
theorem vl_take_lt {L : List Int} (h : Dg L) (i : Nat) : vl (L.take i) < 10000 ^ i := vl_lt (h.take i) (by rw [List.length_take]; omega)
theorem EqUp.lt {a b : List Int} {i : Nat} (h : EqUp a b (i + 1)) (ha : Dg a) (hb : Dg b) (hl : a[i]?.getD 0 < b[i]?.getD 0) : vl a < vl b := by
  have key : ∀ n, vl (a.take (i + 1 + n)) < vl (b.take (i + 1 + n)) := by
    intro n
    induction n with
    | zero =>
      rw [Nat.add_zero, vl_take_adi, vl_take_adi]
      have h1 := vl_take_lt ha i
      have h2 := (hb.take i).nn
      have h3 : (10000 : Int) ^ i * (a[i]?.getD 0) + 10000 ^ i ≤ 10000 ^ i * (b[i]?.getD 0) := by
        have := Int.mul_le_mul_of_nonneg_left (c := 10000 ^ i) (show a[i]?.getD 0 + 1 ≤ b[i]?.getD 0 by omega) (by have := pw_pos i; omega)
        rw [Int.mul_add, Int.mul_one] at this
        exact this
      omega
    | succ n ih =>
      rw [← Nat.add_assoc, vl_take_adi, vl_take_adi, h (i + 1 + n) (by omega)]
      omega
  have := key (a.length + b.length)
  rwa [vl_take_full a (by omega), vl_take_full b (by omega)] at this
theorem EqUp.eq {a b : List Int} (h : EqUp a b 0) : vl a = vl b := by
  have key : ∀ n, vl (a.take n) = vl (b.take n) := by
    intro n
    induction n with
    | zero => simp
    | succ n ih => rw [vl_take_adi, vl_take_adi, h n (by omega), ih]
  have := key (a.length + b.length)
  rwa [vl_take_full a (by omega), vl_take_full b (by omega)] at this
theorem low_lt {a b : List Int} (ha : Dg a) (hb : Dg b) (hlb : Low b) (h : a.length < b.length) : vl a < vl b := by
  have h1 := vl_lt ha (m := b.length - 1) (by omega)
  have h2 := low_ge hb hlb (by intro e; subst e; simp at h)
  omega
theorem cmpN_of_lt {x y : Int} (h : x < y) : cmpN x y = -1 := by unfold cmpN; rw [if_pos h]
theorem cmpN_of_gt {x y : Int} (h : y < x) : cmpN x y = 1 := by unfold cmpN; rw [if_neg (by omega), if_pos h]
theorem cmpN_of_eq {x y : Int} (h : x = y) : cmpN x y = 0 := by unfold cmpN; rw [if_neg (by omega), if_neg (by omega)]
set_option maxHeartbeats 1000000 in
theorem c_bgOrder (a b : Value) (la lb : List Int) (hla : la.length ≤ 100000) (hlb : lb.length ≤ 100000) (hda : Dg la) (hdb : Dg lb) (w : World) (ha : RdL w a la) (hb : RdL w b lb) :
    Calls Tryz.prog 122 #[a, b] w fun e w' => e = .returned (.int .i64 (cmpN (vl la) (vl lb))) ∧ w' = w := by
  have HA := Lib.hid ha
  have HB := Lib.hid hb
  obtain ⟨aa, ca, rfl, _, _⟩ := ha
  obtain ⟨ab, cb, rfl, _, _⟩ := hb
  have HM := Lib.hid (c_mostB la.length lb.length w)
  obtain ⟨m, hm⟩ : ∃ m : Nat, (if (lb.length : Int) < la.length then (la.length : Int) else lb.length) = m := ⟨max la.length lb.length, by split <;> omega⟩
  have hm1 : la.length ≤ m := by split at hm <;> omega
  have hm2 : lb.length ≤ m := by split at hm <;> omega
  have hm3 : m ≤ 100000 := by split at hm <;> omega
  rw [hm] at HM
  clear hm
  go_enter Tryz.func122, Tryz.ntmps122
  go_wp2_with fail
  refine HM.out.mono ?_
  rintro e w1 ⟨rfl, hw⟩
  rw [hw]
  clear hw HM
  go_wp2
  go_loopw [5] (fun iv wr => ∃ i : Nat, i ≤ m ∧ iv = .int .i64 ((i : Int) - 1) ∧ Hid (EqUp la lb i) ∧ w = wr) (fun iv _ => (intOf iv + 1).toNat)
  case atStart => exact ⟨m, Nat.le_refl _, rfl, Lib.hid (EqUp.start hm1 hm2), rfl⟩
  case round =>
    obtain ⟨i, hi, rfl, hE, rfl⟩ := hrel
    cases i with
    | zero =>
      have he := Lib.hid (cmpN_of_eq hE.out.eq)
      clear hE
      go_wp2
      go_ret
      exact ⟨by rw [he.out]; rfl, rfl⟩
    | succ i =>
      have hsi : ((i + 1 : Nat) : Int) - 1 = i := by omega
      rw [hsi]
      have HL1 := Lib.hid (c_bgLimb _ la i _ HA.out)
      have HL2 := Lib.hid (c_bgLimb _ lb i _ HB.out)
      rcases (by omega : la[i]?.getD 0 < lb[i]?.getD 0 ∨ lb[i]?.getD 0 < la[i]?.getD 0 ∨ la[i]?.getD 0 = lb[i]?.getD 0) with hq | hq | hq
      · have he := Lib.hid (cmpN_of_lt (hE.out.lt hda hdb hq))
        clear hE
        generalize la[i]?.getD 0 = x at *
        generalize lb[i]?.getD 0 = y at *
        go_wp2_with fail
        refine HL1.out.mono ?_
        rintro e w1 ⟨rfl, hw⟩
        rw [hw]
        clear hw
        go_wp2_with fail
        refine HL2.out.mono ?_
        rintro e w1 ⟨rfl, hw⟩
        rw [hw]
        clear hw HL1 HL2
        go_wp2
        go_ret
        exact ⟨by rw [he.out]; rfl, rfl⟩
      · have he := Lib.hid (cmpN_of_gt (hE.out.symm.lt hdb hda hq))
        clear hE
        generalize la[i]?.getD 0 = x at *
        generalize lb[i]?.getD 0 = y at *
        go_wp2_with fail
        refine HL1.out.mono ?_
        rintro e w1 ⟨rfl, hw⟩
        rw [hw]
        clear hw
        go_wp2_with fail
        refine HL2.out.mono ?_
        rintro e w1 ⟨rfl, hw⟩
        rw [hw]
        clear hw HL1 HL2
        have hq2 : ¬ x < y := by omega
        go_wp2
        go_ret
        exact ⟨by rw [he.out]; rfl, rfl⟩
      · have he := Lib.hid (hE.out.step hq)
        rw [← hq] at HL2
        clear hq hE
        generalize la[i]?.getD 0 = x at *
        go_wp2_with fail
        refine HL1.out.mono ?_
        rintro e w1 ⟨rfl, hw⟩
        rw [hw]
        clear hw
        go_wp2_with fail
        refine HL2.out.mono ?_
        rintro e w1 ⟨rfl, hw⟩
        rw [hw]
        clear hw HL1 HL2
        go_wp2
        go_roundw
        case rel => exact ⟨i, by omega, by go_num, he, trivial⟩
        case measure => simp [intOf]
set_option maxHeartbeats 1000000 in
theorem c_compareN (a b : Int) (w : World) : Calls Tryz.prog 129 #[.int .i64 a, .int .i64 b] w fun e w' => e = .returned (.int .i64 (cmpN a b)) ∧ w' = w := by
  unfold cmpN
  by_cases h1 : a < b
  · rw [if_pos h1]
    go_enter Tryz.func129, Tryz.ntmps129
    go_wp2
    go_ret
    exact ⟨rfl, rfl⟩
  · rw [if_neg h1]
    by_cases h2 : b < a
    · rw [if_pos h2]
      go_enter Tryz.func129, Tryz.ntmps129
      go_wp2
      go_ret
      exact ⟨rfl, rfl⟩
    · rw [if_neg h2]
      go_enter Tryz.func129, Tryz.ntmps129
      go_wp2
      go_ret
      exact ⟨rfl, rfl⟩
end Go.Proofs.YtgjdgcmmlfmhmaaGreatDoor
