/- Walks: lists of classes (dsList, l1Rising); is a list a group of classes (isClassGroup, dsIsGroup). -/
import Derived.Test.YtbmcabphjfpkhaaGreatPcH
import Derived.Deep.Cut
namespace Go.Proofs.YtbmcabphjfpkhaaGreat
open Go.RowKit

theorem all_step (f : Int → Bool) (L : List Int) {k : Nat} (h : k < L.length) : (L.take (k + 1)).all f = ((L.take k).all f && f (L[k]?.getD 0)) := by
  rw [List.take_add_one, List.getElem?_eq_getElem h, List.all_append]
  simp
theorem all_no (f : Int → Bool) (L : List Int) {k : Nat} (h : k < L.length) (hf : f (L[k]?.getD 0) = false) : L.all f = false := by
  rw [List.getElem?_eq_getElem h] at hf
  rw [List.all_eq_false]
  exact ⟨_, List.getElem_mem h, by simpa using hf⟩
theorem getD_mem (L : List Int) {k : Nat} (h : k < L.length) : L[k]?.getD 0 ∈ L := by
  rw [List.getElem?_eq_getElem h]
  exact List.getElem_mem h
set_option maxHeartbeats 1000000 in
theorem c_dsList (L : List Int) (most : Int) (v : Value) (hL : L.length ≤ 100) (hc : ∀ x ∈ L, ClsV x) (w : World) (h : RdI w v L) :
    Calls Tryz.prog 34 #[v, .int .i64 most] w fun e w' => e = .returned (.bool (L.all clB && inB L.length 1 most)) ∧ Below w.heap.size w w' := by
  obtain ⟨a, cap, rfl, hf⟩ := h
  have HF := Lib.hid hf
  have HC := Lib.hid hc
  clear hf hc
  go_enter Tryz.func34, Tryz.ntmps34
  go_wp2
  go_loopw [9] (fun i wr => ∃ k : Nat, k ≤ L.length ∧ i = .int .i64 k ∧ Below w.heap.size w wr ∧ Hid ((L.take k).all clB = true)) (fun i _ => L.length - (intOf i).toNat)
  case atStart => exact ⟨0, Nat.zero_le _, rfl, Below.refl _ _, rfl⟩
  case round =>
    obtain ⟨k, hk, rfl, hb, HN⟩ := hrel
    by_cases hlt : k < L.length
    · obtain ⟨g, o, rfl, q, hg⟩ := HF.out k hlt
      replace q := (hb.cell (p := ⟨g, o + k, none⟩) hg).trans q
      have i0 : (0 : Int) ≤ (k : Int) := by omega
      have i1 : (k : Int) < (L.length : Int) := by omega
      have H1 := Lib.hid (fun W => c_dsClass (L[k]?.getD 0) (HC.out _ (getD_mem L hlt)) W)
      have HS := Lib.hid (all_step clB L hlt)
      have HX := Lib.hid (all_no clB L hlt)
      rw [HN.out] at HS
      clear HN
      generalize L[k]?.getD 0 = y at *
      generalize clB y = c at *
      go_wp2_with fail
      refine (H1.out _).mono ?_
      rintro e w1 ⟨rfl, hb1⟩
      have hb2 := below_step hb1 hb.size hb
      cases c
      · have hn := HX.out rfl
        go_wp2
        go_ret
        exact ⟨by rw [hn]; rfl, hb2⟩
      · go_wp2
        go_roundw
        case rel => exact ⟨k + 1, by omega, by go_num, hb2, HS⟩
        case measure => simp [intOf]; omega
    · obtain rfl : k = L.length := by omega
      have hn := HN.out
      rw [List.take_length] at hn
      go_wp2_with ((go_at_call 53; refine (c_l1In _ _ _ _).mono ?_; rintro e w' ⟨rfl, rfl⟩))
      go_ret
      exact ⟨by rw [hn]; rfl, hb⟩
/-- strictly increasing, told place by place -/
def risAt (L : List Int) (k : Nat) : Bool := k == 0 || decide (L[k - 1]?.getD 0 < L[k]?.getD 0)
def risB (L : List Int) : Bool := (List.range L.length).all (risAt L)
theorem ris_no (L : List Int) {k : Nat} (h : k < L.length) (hr : risAt L k = false) : risB L = false := by
  unfold risB
  rw [List.all_eq_false]
  exact ⟨k, by simpa using h, by simpa using hr⟩
set_option maxHeartbeats 1000000 in
theorem c_l1Rising (L : List Int) (lo hi : Int) (v : Value) (hL : L.length ≤ 100) (hc : ∀ x ∈ L, inB x lo hi = true) (w : World) (h : RdI w v L) :
    Calls Tryz.prog 67 #[v, .int .i64 lo, .int .i64 hi] w fun e w' => e = .returned (.bool (risB L)) ∧ w = w' := by
  obtain ⟨a, cap, rfl, hf⟩ := h
  have HF := Lib.hid hf
  have HC := Lib.hid hc
  clear hf hc
  go_enter Tryz.func67, Tryz.ntmps67
  go_wp2
  go_loopw [11] (fun i wr => ∃ k : Nat, k ≤ L.length ∧ i = .int .i64 k ∧ w = wr ∧ Hid (∀ j, j < k → risAt L j = true)) (fun i _ => L.length - (intOf i).toNat)
  case atStart => exact ⟨0, Nat.zero_le _, rfl, rfl, Lib.hid (fun j hj => by omega)⟩
  case round =>
    obtain ⟨k, hk, rfl, rfl, HN⟩ := hrel
    by_cases hlt : k < L.length
    · obtain ⟨g, o, rfl, q, hg⟩ := HF.out k hlt
      have i0 : (0 : Int) ≤ (k : Int) := by omega
      have i1 : (k : Int) < (L.length : Int) := by omega
      have hin := HC.out _ (getD_mem L hlt)
      have H1 := Lib.hid (fun W => (c_l1In (L[k]?.getD 0) lo hi W).mono fun e w' (h : _ ∧ _) => (⟨h.1.trans (by rw [hin]), h.2⟩ : e = .returned (.bool true) ∧ W = w'))
      clear hin
      have HS : Hid (risAt L k = true → ∀ j, j < k + 1 → risAt L j = true) := Lib.hid (fun hr j hj => by
        rcases Nat.lt_or_ge j k with h1 | h1
        · exact HN.out j h1
        · obtain rfl : j = k := by omega
          exact hr)
      have HR : Hid (risAt L k = (k == 0 || decide (L[k - 1]?.getD 0 < L[k]?.getD 0))) := rfl
      have HX := Lib.hid (ris_no L hlt)
      clear HN
      generalize L[k]?.getD 0 = y at *
      go_upto_region 4 with (fail)
      rcases k with _ | k
      ·
        have hz : ¬ ((0 : Int) < ((0 : Nat) : Int)) := by omega
        go_wp2_with fail
        refine (H1.out _).mono ?_
        rintro e _ ⟨rfl, rfl⟩
        go_wp2
        go_roundw
        case rel => exact ⟨1, by omega, by go_num, trivial, Lib.hid (HS.out rfl)⟩
        case measure => simp [intOf]; omega
      ·
        obtain ⟨g', o', e', q', _⟩ := HF.out k (by omega)
        obtain ⟨rfl, rfl⟩ : g = g' ∧ o = o' := by simpa using e'
        have hk2 : (((k + 1 : Nat) : Int)) - 1 = k := by omega
        have hk3 : (0 : Int) < ((k + 1 : Nat) : Int) := by omega
        have hk4 : (0 : Int) ≤ (k : Int) := by omega
        have hk5 : (k : Int) < (L.length : Int) := by omega
        have hk6 : (0 : Int) < (k : Int) + 1 := by omega
        have hR : risAt L (k + 1) = decide (L[k]?.getD 0 < y) := by rw [HR.out]; simp
        rw [hR] at HX HS
        clear hR HR e'
        generalize L[k]?.getD 0 = z at *
        by_cases hyz : z < y
        · have hyz' : ¬ y ≤ z := by omega
          have HS' := Lib.hid (HS.out (by simpa using hyz))
          go_wp2_with ((go_at_call 53; refine (H1.out _).mono ?_; rintro e w' ⟨rfl, rfl⟩))
          go_roundw
          case rel => exact ⟨k + 1 + 1, by omega, by go_num, trivial, HS'⟩
          case measure => simp [intOf]; omega
        · have hyz' : y ≤ z := by omega
          have hn := HX.out (by simpa using hyz)
          go_wp2_with ((go_at_call 53; refine (H1.out _).mono ?_; rintro e w' ⟨rfl, rfl⟩))
          go_ret
          exact ⟨by rw [hn]; rfl, rfl⟩
    · obtain rfl : k = L.length := by omega
      have hn : risB L = true := by
        unfold risB
        rw [List.all_eq_true]
        intro j hj
        exact HN.out j (by simpa using hj)
      go_wp2
      go_ret
      exact ⟨by rw [hn]; rfl, rfl⟩
end Go.Proofs.YtbmcabphjfpkhaaGreat
