/- Walks: the reference reads numbers (l1Read, ecSigned). -/
import Derived.Test.YtpnpidepkfnofaaGreatDoorNum
import Derived.Lib.Atoi
import Derived.Lib.Strings
namespace Go.Proofs.YtpnpidepkfnofaaGreatDoor
open Go.RowKit

/-- the reference's numbers -/
def rdN (l : List UInt8) : Int := if l.length = 0 ∨ 6 < l.length ∨ (l.head? = some 48 ∧ 1 < l.length) then -1 else match Lib.decFrom 0 l with | some m => m | none => -1
def rdS (l : List UInt8) : Int := if l.head? = some 45 then (if rdN l.tail < 0 then 100000 else -(rdN l.tail)) else (if rdN l < 0 then 100000 else rdN l)
theorem rdN_bd (l : List UInt8) : -1 ≤ rdN l ∧ rdN l < 1000000 := by
  unfold rdN
  split
  · omega
  · rename_i h
    simp only [not_or] at h
    cases hd : Lib.decFrom 0 l with
    | none => simp
    | some m =>
      have := Lib.decFrom_lt l 0 m hd
      have h2 : 10 ^ l.length ≤ 10 ^ 6 := Nat.pow_le_pow_right (by omega) (by omega)
      simp only
      omega
theorem head_at {s : ByteArray} (h : 0 < s.size) : s.data.toList.head? = some s[0] := by
  have hl : s.data.toList.length = s.size := Array.length_toList
  rw [List.head?_eq_getElem?, List.getElem?_eq_getElem (by omega)]
  rfl
theorem at_k {s : ByteArray} {k : Nat} (h : k < s.size) : s.data.toList[k]? = some s[k] := by
  have hl : s.data.toList.length = s.size := Array.length_toList
  rw [List.getElem?_eq_getElem (by omega)]
  rfl
set_option maxHeartbeats 1000000 in
theorem c_l1Read (s : ByteArray) (hs : s.size ≤ 100000000) (w : World) :
    Calls Tryz.prog 79 #[.string s] w fun e w' => e = .returned (.int .i64 (rdN s.data.toList)) ∧ w = w' := by
  have hl : s.data.toList.length = s.size := Array.length_toList
  cases h1 : inB s.size 1 6
  · have hr : Hid (rdN s.data.toList = -1) := by
      show _ = _
      unfold rdN
      rw [if_pos]
      rw [hl]
      unfold inB at h1
      simp at h1
      omega
    go_enter Tryz.func79, Tryz.ntmps79
    go_wp2_with ((go_at_call 55; refine (c_l1In _ _ _ _).mono ?_; rintro e w' ⟨rfl, rfl⟩))
    refine bodyPost_ret (v := .int .i64 (-1)) (by simp [results, Tryz.results79, go_sem]) rfl ?_
    exact ⟨by rw [hr.out], rfl⟩
  · have hb := inB_true h1
    have h0 : 0 < s.size := by omega
    have hh := head_at h0
    by_cases hz : ((s[0].toNat : Int) == 48) = true ∧ 1 < s.size
    · have hr : Hid (rdN s.data.toList = -1) := by
        show _ = _
        unfold rdN
        rw [if_pos]
        refine .inr (.inr ⟨?_, by omega⟩)
        rw [hh]
        have h9 : (s[0].toNat : Int) = 48 := by simpa using hz.1
        exact congrArg some (UInt8.toNat_inj.1 (by show s[0].toNat = 48; omega))
      obtain ⟨hz1, hz2⟩ := hz
      have hz3 : (1 : Int) < (s.size : Int) := by omega
      clear hh hl
      go_enter Tryz.func79, Tryz.ntmps79
      go_wp2_with ((go_at_call 55; refine (c_l1In _ _ _ _).mono ?_; rintro e w' ⟨rfl, rfl⟩))
      refine bodyPost_ret (v := .int .i64 (-1)) (by simp [results, Tryz.results79, go_sem]) rfl ?_
      exact ⟨by rw [hr.out], rfl⟩
    · have hr : Hid (rdN s.data.toList = match Lib.decFrom 0 s.data.toList with | some m => (m : Int) | none => -1) := by
        show _ = _
        unfold rdN
        rw [if_neg]
        rw [hl, hh]
        rintro (h | h | ⟨h, h2⟩)
        · omega
        · omega
        · injection h with h
          exact hz ⟨by rw [h]; rfl, h2⟩
      have hD : Hid (∀ k (hk : k < s.size) (m : Nat), Lib.decFrom 0 (s.data.toList.take k) = some m → 48 ≤ (s[k].toNat : Int) → (s[k].toNat : Int) ≤ 57 → Lib.decFrom 0 (s.data.toList.take (k + 1)) = some (m * 10 + (s[k].toNat - 48))) := fun k hk m hm h8 h9 =>
        Lib.decFrom_take _ k 0 m s[k] (s[k].toNat - 48) hm (at_k hk) (by unfold Lib.digitVal; rw [if_pos (by omega)])
      have hN : Hid (∀ k (hk : k < s.size), ((s[k].toNat : Int) < 48 ∨ 57 < (s[k].toNat : Int)) → rdN s.data.toList = -1) := fun k hk h9 => by
        rw [hr.out]
        cases hd : Lib.decFrom 0 s.data.toList with
        | none => rfl
        | some m =>
          obtain ⟨d, hd2⟩ := Lib.digit_of_decFrom _ 0 m hd k s[k] (at_k hk)
          obtain ⟨g1, g2, _⟩ := Lib.digitVal_eq hd2
          omega
      have hE : Hid (∀ m : Nat, Lib.decFrom 0 (s.data.toList.take s.size) = some m → rdN s.data.toList = m) := fun m hm => by
        rw [List.take_of_length_le (by omega)] at hm
        rw [hr.out, hm]
      have hLt : Hid (∀ k (_ : k ≤ s.size) (m : Nat), Lib.decFrom 0 (s.data.toList.take k) = some m → m < 1000000) := fun k hk m hm => by
        have := Lib.decFrom_lt _ 0 m hm
        have h2 : 10 ^ (s.data.toList.take k).length ≤ 10 ^ 6 := Nat.pow_le_pow_right (by omega) (by rw [List.length_take]; omega)
        omega
      clear hr hh
      have hg : ((s[0].toNat : Int) == 48) = false ∨ (((s[0].toNat : Int) == 48) = true ∧ ¬ (1 : Int) < (s.size : Int)) := by
        cases hq : ((s[0].toNat : Int) == 48)
        · exact .inl rfl
        · exact .inr ⟨rfl, fun h => hz ⟨hq, by omega⟩⟩
      clear hz
      generalize rdN s.data.toList = V at *
      rcases hg with hg | ⟨hg, hg2⟩
      all_goals
        go_enter Tryz.func79, Tryz.ntmps79
        go_wp2_with ((go_at_call 55; refine (c_l1In _ _ _ _).mono ?_; rintro e w' ⟨rfl, rfl⟩))
        go_loopw [3, 4] (fun nv iv wr => ∃ (i m : Nat), i ≤ s.size ∧ iv = .int .i64 i ∧ nv = .int .i64 m ∧ Hid (Lib.decFrom 0 (s.data.toList.take i) = some m) ∧ w = wr) (fun _ iv _ => s.size - (intOf iv).toNat)
        case atStart => exact ⟨0, 0, by omega, rfl, rfl, rfl, rfl⟩
        case round =>
          obtain ⟨i, m, hi, rfl, rfl, hm, rfl⟩ := hrel
          have hmb := hLt.out i hi m hm.out
          by_cases hlt : i < s.size
          · by_cases hA : (s[i].toNat : Int) < 48
            · have hv := Lib.hid (hN.out i hlt (.inl hA))
              go_wp2
              refine bodyPost_ret (v := .int .i64 (-1)) (by simp [results, Tryz.results79, go_sem]) rfl ?_
              exact ⟨by rw [hv.out], rfl⟩
            · by_cases hB : (57 : Int) < (s[i].toNat : Int)
              · have hv := Lib.hid (hN.out i hlt (.inr hB))
                go_wp2
                refine bodyPost_ret (v := .int .i64 (-1)) (by simp [results, Tryz.results79, go_sem]) rfl ?_
                exact ⟨by rw [hv.out], rfl⟩
              · have hv := Lib.hid (hD.out i hlt m hm.out (by omega) (by omega))
                have e1 : IntKind.u8.wrap ((s[i].toNat : Int) - 48) = (s[i].toNat : Int) - 48 := IntWalk.u8_in _ (by omega)
                have e2 : (((m * 10 + (s[i].toNat - 48) : Nat)) : Int) = 10 * (m : Int) + ((s[i].toNat : Int) - 48) := by omega
                have HE2 := Lib.hid e2
                clear e2
                go_wp2
                go_roundw
                case rel => exact ⟨i + 1, m * 10 + (s[i].toNat - 48), by omega, by go_num, by rw [HE2.out], hv, trivial⟩
                case measure => simp [intOf]; omega
          · obtain rfl : i = s.size := by omega
            have hv := Lib.hid (hE.out m hm.out)
            go_wp2
            refine bodyPost_ret (v := .int .i64 m) (by simp [results, Tryz.results79, go_sem]) rfl ?_
            exact ⟨by rw [hv.out], rfl⟩
set_option maxHeartbeats 1000000 in
theorem c_ecSigned (s : ByteArray) (hs : s.size ≤ 100000000) (w : World) :
    Calls Tryz.prog 60 #[.string s] w fun e w' => e = .returned (.int .i64 (rdS s.data.toList)) ∧ w = w' := by
  have hb1 := rdN_bd s.data.toList
  have hb2 := rdN_bd s.data.toList.tail
  have hl : s.data.toList.length = s.size := Array.length_toList
  have H1 := Lib.hid (c_l1Read s hs)
  by_cases h0 : 0 < s.size
  · have hh := head_at h0
    have H2 : Hid (∀ w, Calls Tryz.prog 79 #[.string (s.extract 1 s.size)] w fun e w' => e = .returned (.int .i64 (rdN s.data.toList.tail)) ∧ w = w') := fun w => by
      have h3 := c_l1Read (s.extract 1 s.size) (by simp; try omega) w
      have e : (s.extract 1 s.size).data.toList = s.data.toList.tail := by
        rw [Lib.extract_data, List.take_of_length_le (by simp)]
        simp
      rwa [e] at h3
    have hi0 : (0 : Int) < (s.size : Int) := by omega
    have hi1 : (1 : Int) ≤ (s.size : Int) := by omega
    cases hq : ((s[0].toNat : Int) == 45)
    · have hr : Hid (rdS s.data.toList = if rdN s.data.toList < 0 then 100000 else rdN s.data.toList) := by
        show _ = _
        unfold rdS
        rw [if_neg]
        rw [hh]
        intro h
        injection h with h
        rw [h] at hq
        cases hq
      clear hh hl H2
      generalize rdS s.data.toList = V at *
      generalize rdN s.data.toList = n at *
      by_cases hn : n < 0
      · have hv : Hid (V = 100000) := hr.out.trans (if_pos hn)
        clear hr
        go_enter Tryz.func60, Tryz.ntmps60
        go_wp2_with ((go_at_call 79; refine (H1.out _).mono ?_; rintro e w' ⟨rfl, rfl⟩))
        refine bodyPost_ret (v := .int .i64 100000) (by simp [results, Tryz.results60, go_sem]) rfl ?_
        exact ⟨by rw [hv.out], rfl⟩
      · have hv : Hid (V = n) := hr.out.trans (if_neg hn)
        clear hr
        go_enter Tryz.func60, Tryz.ntmps60
        go_wp2_with ((go_at_call 79; refine (H1.out _).mono ?_; rintro e w' ⟨rfl, rfl⟩))
        refine bodyPost_ret (v := .int .i64 n) (by simp [results, Tryz.results60, go_sem]) rfl ?_
        exact ⟨by rw [hv.out], rfl⟩
    · have hr : Hid (rdS s.data.toList = if rdN s.data.toList.tail < 0 then 100000 else -(rdN s.data.toList.tail)) := by
        show _ = _
        unfold rdS
        rw [if_pos]
        rw [hh]
        have h9 : (s[0].toNat : Int) = 45 := by simpa using hq
        exact congrArg some (UInt8.toNat_inj.1 (by show s[0].toNat = 45; omega))
      clear hh hl H1
      generalize rdS s.data.toList = V at *
      generalize rdN s.data.toList.tail = n at *
      by_cases hn : n < 0
      · have hv : Hid (V = 100000) := hr.out.trans (if_pos hn)
        clear hr
        go_enter Tryz.func60, Tryz.ntmps60
        go_wp2_with ((go_at_call 79; refine (H2.out _).mono ?_; rintro e w' ⟨rfl, rfl⟩))
        refine bodyPost_ret (v := .int .i64 100000) (by simp [results, Tryz.results60, go_sem]) rfl ?_
        exact ⟨by rw [hv.out], rfl⟩
      · have hv : Hid (V = -n) := hr.out.trans (if_neg hn)
        have hw : IntKind.i64.wrap (-n) = -n := IntWalk.i64_in _ (by omega)
        clear hr
        go_enter Tryz.func60, Tryz.ntmps60
        go_wp2_with ((go_at_call 79; refine (H2.out _).mono ?_; rintro e w' ⟨rfl, rfl⟩))
        refine bodyPost_ret (v := .int .i64 (-n)) (by simp [results, Tryz.results60, go_sem]) rfl ?_
        exact ⟨by rw [hv.out], rfl⟩
  · have hr : Hid (rdS s.data.toList = 100000) := by
      show _ = _
      have : s.data.toList = [] := List.length_eq_zero_iff.1 (by omega)
      rw [this]; rfl
    have hn : Hid (rdN s.data.toList = -1) := by
      show _ = _
      have : s.data.toList = [] := List.length_eq_zero_iff.1 (by omega)
      rw [this]; rfl
    rw [hn.out] at H1
    have hi0 : ¬ (0 : Int) < (s.size : Int) := by omega
    clear hl hb1 hb2
    go_enter Tryz.func60, Tryz.ntmps60
    go_wp2_with ((go_at_call 79; refine (H1.out _).mono ?_; rintro e w' ⟨rfl, rfl⟩))
    refine bodyPost_ret (v := .int .i64 100000) (by simp [results, Tryz.results60, go_sem]) rfl ?_
    exact ⟨by rw [hr.out], rfl⟩
end Go.Proofs.YtpnpidepkfnofaaGreatDoor
