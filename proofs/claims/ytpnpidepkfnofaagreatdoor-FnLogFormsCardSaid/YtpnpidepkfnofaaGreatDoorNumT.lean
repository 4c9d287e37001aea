/- Walks: numerals as text: l1Num, l1Int, strconv.Itoa. -/
import Derived.Test.YtpnpidepkfnofaaGreatDoorChain
import Derived.Test.YtpnpidepkfnofaaGreatDoorStepN
import Derived.Test.YtpnpidepkfnofaaGreatDoorNum
import Derived.Test.YtpnpidepkfnofaaGreatDoorShelf
import Derived.Lib.AppendIntMem
import Derived.Lib.ItoaLen
import Derived.Laws.Concat
import Derived.Laws.IdiomStrings
namespace Go.Proofs.YtpnpidepkfnofaaGreatDoor
open Go.RowKit

theorem below_grow2 (w : World) (q : Nat) (os : Array Obj) : Below w.heap.size w (Sort.grow (w.drewN q) os) :=
  ⟨rfl, rfl, rfl, by simp [Sort.grow, World.drewN], fun k hk => by
    show (w.heap ++ os)[k]? = _
    rw [Array.getElem?_append_left hk]⟩
abbrev TabI (w : World) : Prop := Lib.TabIs Tryz.prog w "internal/strconv.uint64pow10" .u64 Lib.pow10Tab
theorem TabI.below {w w' : World} (h : TabI w) (hb : Below w.heap.size w w') : TabI w' := Lib.tabBelow_of_tabIs h w' hb
theorem c_itoa (n : Int) (h0 : -9223372036854775808 ≤ n) (h1 : n ≤ 9223372036854775807) (w : World) (ht : TabI w) :
    Calls Tryz.prog 65 #[.int .i64 n] w fun e w' => e = .returned (.string ⟨(Lib.itoa n).toArray⟩) ∧ Below w.heap.size w w' :=
  (Tryz.strconv_Itoa n h0 h1 w ht).mono fun _ _ ⟨he, k, os, hw⟩ => ⟨he, by rw [hw]; exact below_grow2 w k os⟩
theorem conv1 (u : Nat) (h : u < 10) : ∀ (w1 : World) (r : Nat), w1.cell? ⟨r, 0, none⟩ = some (.int .u8 (48 + (u : Int))) → (convert 22 9 (.slice (some ⟨r, 0, none⟩) 1 1)).run Tryz.prog w1 = .ok (.string ⟨(Lib.decDigits u).toArray⟩) w1 := by
  intro w1 r hc
  have := run_convert_bytes_back (P := Tryz.prog) w1 22 9 5 ⟨r, 0, none⟩ 1 [UInt8.ofNat (48 + u)] (by kernel_rfl) (by kernel_rfl) (by kernel_rfl) (fun j hj => by
    have : j = 0 := by simpa using hj
    subst this
    have e : ((UInt8.ofNat (48 + u)).toNat : Int) = 48 + (u : Int) := by simp; omega
    show w1.cell? ⟨r, 0, none⟩ = _
    rw [hc, List.getElem_cons_zero, e])
  rw [Lib.decDigits_one h]
  exact this
theorem dec_size (u : Nat) (h : u < 1000000000000000000) : (⟨(Lib.decDigits u).toArray⟩ : ByteArray).size ≤ 20 := by
  show (Lib.decDigits u).toArray.size ≤ 20
  rw [List.size_toArray, Lib.decDigits_length]
  exact Lib.nDigits_le20 u (by omega)
theorem dec_app (u : Nat) (h : ¬ u < 10) : (⟨(Lib.decDigits (u / 10)).toArray⟩ : ByteArray) ++ ⟨(Lib.decDigits (u % 10)).toArray⟩ = ⟨(Lib.decDigits u).toArray⟩ := by
  rw [Lib.decDigits_one (show u % 10 < 10 by omega)]
  conv => rhs; rw [Lib.decDigits, dif_neg h]
  apply ByteArray.ext
  simp
set_option maxHeartbeats 1000000 in
set_option maxRecDepth 100000 in
theorem c_l1Num : ∀ (m u : Nat), u ≤ m → u < 1000000000000000000 → ∀ w : World,
    Calls Tryz.prog 83 #[.int .i64 (u : Int)] w fun e w' => e = .returned (.string ⟨(Lib.decDigits u).toArray⟩) ∧ Below w.heap.size w w' := by
  intro m
  induction m with
  | zero =>
    intro u hu hu2 w
    have h10 : (u : Int) < 10 := by omega
    have hcv := conv1 u (by omega)
    go_enter Tryz.func83, Tryz.ntmps83
    go_wp2
    go_ret
    refine ⟨rfl, ?_⟩
    (repeat' (first | (with_reducible exact Below.refl _ _) | (with_reducible refine below_step (by assumption) ?_ ?_) | (with_reducible refine Below.alloc ?_ ?_ _) | (with_reducible refine Below.setCell ?_ ?_ _) | (with_reducible refine below_drewN ?_ _) | (with_reducible refine Below.drew ?_) | omega | (simp; omega) | (simp; done)))
  | succ m ih =>
    intro u hu hu2 w
    by_cases h10 : u < 10
    · have h10' : (u : Int) < 10 := by omega
      have hcv := conv1 u h10
      go_enter Tryz.func83, Tryz.ntmps83
      go_wp2
      go_ret
      refine ⟨rfl, ?_⟩
      (repeat' (first | (with_reducible exact Below.refl _ _) | (with_reducible refine below_step (by assumption) ?_ ?_) | (with_reducible refine Below.alloc ?_ ?_ _) | (with_reducible refine Below.setCell ?_ ?_ _) | (with_reducible refine below_drewN ?_ _) | (with_reducible refine Below.drew ?_) | omega | (simp; omega) | (simp; done)))
    · have h10' : ¬ ((u : Int) < 10) := by omega
      have hcv := conv1 (u % 10) (by omega)
      have ih' := ih (u / 10) (by omega) (by omega)
      have hs := dec_app u h10
      have z1 := dec_size (u / 10) (by omega)
      have z2 := dec_size (u % 10) (by omega)
      rw [Int.natCast_emod] at hcv
      rw [Int.natCast_ediv] at ih'
      generalize (⟨(Lib.decDigits (u / 10)).toArray⟩ : ByteArray) = A at *
      generalize (⟨(Lib.decDigits (u % 10)).toArray⟩ : ByteArray) = B at *
      have HA := fun w => run_string_add_sum (P := Tryz.prog) w A B (by omega)
      have HS := Lib.hid hs
      have IH := Lib.hid ih'
      clear ih ih' hs
      go_enter Tryz.func83, Tryz.ntmps83
      go_wp2
      refine wp_region_cls [] (fun _ => false) (fun _ => True) (fun _ => True) (by kernel_rfl) trivial ?_
      apply wpAnyF_hd ⟨w, Over.refl _ _, trivial⟩ [true, true, false, true, true, true, true] 5 (Closed.true) (fun _ _ => trivial) (by kernel_rfl) (by kernel_rfl) (by kernel_rfl) (by kernel_rfl) (by simp)
      · intro E hE hEN hEn; (repeat (first | (refine wpHL_take ?_; go_big_quiet_step (fail); refine wpQuiet_nil ?_) | refine wpHL_skip ?_)); exact wpHL_end rfl
      refine wpAnyF_ready [2, 7] 4 (by kernel_rfl) (by kernel_rfl) (by simp) ?_
      refine AllF.cons ?_ (AllF.cons ?_ AllF.nil)
      · refine stepC_call (v := .string A) (some 12) (fun _ => True) (by rfl) (by rfl) (by rfl) (fun _ => by go_simp) Closed.true (fun w1 _ _ => (IH.out w1).mono fun _ _ ⟨he, hb⟩ => ⟨he, Over.of_below hb, trivial⟩) (fun hne => ?_)
        simp only [Act.put, List.setIfInBounds_toArray, List.set_cons_succ, List.set_cons_zero]
        refine wpAnyF_ready [7] 3 (by kernel_rfl) (by kernel_rfl) (by simp) (AllF.cons ?_ AllF.nil)
        refine stepN_new (d := 17) (fun r => .slice (some ⟨r, 0, none⟩) 1 1) #[.int .u8 (48 + (u : Int) % 10)] 5 (by rfl) (by rfl) (by rfl) (fun _ => by go_simp) Closed.true (fun r hr hne => ?_)
        simp only [Act.put, List.setIfInBounds_toArray, List.set_cons_succ, List.set_cons_zero]
        refine wpAnyF_N (N' := Blk r #[.int .u8 (48 + (u : Int) % 10)] 5) ?_
        apply wpAnyF_hd hne [false, false, false, false, false, false, false, false, true, true, true] 0 (Closed.and Closed.true (Blk.closed _ _ _)) (fun _ h => h.2) (by kernel_rfl) (by kernel_rfl) (by kernel_rfl) (by kernel_rfl) (by simp)
        · intro E hE hEN hEn; have hk : ∀ c : Cls [] w E, c.wd.cell? ⟨r, 0, none⟩ = some (.int .u8 (48 + (u : Int) % 10)) := fun c => (hEN _ c.more).cell 0; (repeat (first | (refine wpHL_take ?_; go_big_quiet_step (fail); refine wpQuiet_nil ?_) | refine wpHL_skip ?_)); exact wpHL_end rfl
        refine wpAnyF_done (by kernel_rfl) (fun Wz hOz hDz => NoPanic.normal ?_) _
        try dsimp only
        go_wp2
        go_ret
        exact ⟨congrArg (fun s => Ending.returned (.string s)) HS.out, hOz.below⟩
      · refine stepN_new (d := 17) (fun r => .slice (some ⟨r, 0, none⟩) 1 1) #[.int .u8 (48 + (u : Int) % 10)] 5 (by rfl) (by rfl) (by rfl) (fun _ => by go_simp) Closed.true (fun r hr hne => ?_)
        simp only [Act.put, List.setIfInBounds_toArray, List.set_cons_succ, List.set_cons_zero]
        refine wpAnyF_N (N' := Blk r #[.int .u8 (48 + (u : Int) % 10)] 5) ?_
        apply wpAnyF_hd hne [false, false, false, false, false, false, false, false, true] 3 (Closed.and Closed.true (Blk.closed _ _ _)) (fun _ h => h.2) (by kernel_rfl) (by kernel_rfl) (by kernel_rfl) (by kernel_rfl) (by simp)
        · intro E hE hEN hEn; have hk : ∀ c : Cls [] w E, c.wd.cell? ⟨r, 0, none⟩ = some (.int .u8 (48 + (u : Int) % 10)) := fun c => (hEN _ c.more).cell 0; (repeat (first | (refine wpHL_take ?_; go_big_quiet_step (fail); refine wpQuiet_nil ?_) | refine wpHL_skip ?_)); exact wpHL_end rfl
        refine wpAnyF_ready [2] 2 (by kernel_rfl) (by kernel_rfl) (by simp) (AllF.cons ?_ AllF.nil)
        refine stepN_call (v := .string A) (some 12) (fun w' => True ∧ Blk r #[.int .u8 (48 + (u : Int) % 10)] 5 w') (by rfl) (by rfl) (by rfl) (fun _ => by go_simp) (Closed.and Closed.true (Blk.closed _ _ _)) (fun _ h => h.2) (fun w1 _ hd => (IH.out w1).mono fun _ _ ⟨he, hb⟩ => ⟨he, Over.of_below hb, trivial, Blk.closed _ _ _ _ _ hd.2 hb⟩) (fun hne => ?_)
        simp only [Act.put, List.setIfInBounds_toArray, List.set_cons_succ, List.set_cons_zero]
        apply wpAnyF_hd hne [false, false, false, false, false, false, false, false, false, true, true] 0 (Closed.and Closed.true (Blk.closed _ _ _)) (fun _ h => h.2) (by kernel_rfl) (by kernel_rfl) (by kernel_rfl) (by kernel_rfl) (by simp)
        · intro E hE hEN hEn; (repeat (first | (refine wpHL_take ?_; go_big_quiet_step (fail); refine wpQuiet_nil ?_) | refine wpHL_skip ?_)); exact wpHL_end rfl
        refine wpAnyF_done (by kernel_rfl) (fun Wz hOz hDz => NoPanic.normal ?_) _
        try dsimp only
        go_wp2
        go_ret
        exact ⟨congrArg (fun s => Ending.returned (.string s)) HS.out, hOz.below⟩
def intS (n : Int) : ByteArray := ⟨(Lib.itoa n).toArray⟩
theorem intS_pos (u : Nat) : intS (u : Int) = ⟨(Lib.decDigits u).toArray⟩ := by unfold intS; rw [Lib.itoa_nonneg]
theorem intS_neg (u : Nat) (h : 1 ≤ u) : intS (-(u : Int)) = (⟨#[45]⟩ : ByteArray) ++ ⟨(Lib.decDigits u).toArray⟩ := by
  unfold intS
  rw [Lib.itoa_neg u h]
  apply ByteArray.ext
  simp
theorem intS_size (n : Int) (h : -1000000000000 ≤ n ∧ n ≤ 1000000000000) : (intS n).size ≤ 21 := by
  show (Lib.itoa n).toArray.size ≤ 21
  rw [List.size_toArray]
  exact Lib.itoa_length_le n (by omega) (by omega)
set_option maxHeartbeats 1000000 in
set_option maxRecDepth 100000 in
theorem c_l1Int (n : Int) (h : -1000000000000 ≤ n ∧ n ≤ 1000000000000) (w : World) :
    Calls Tryz.prog 66 #[.int .i64 n] w fun e w' => e = .returned (.string (intS n)) ∧ Below w.heap.size w w' := by
  by_cases h0 : n < 0
  · obtain ⟨u, rfl⟩ : ∃ u : Nat, n = -(u : Int) := ⟨n.natAbs, by omega⟩
    have hc := c_l1Num u u (Nat.le_refl _) (by omega)
    have hs := intS_neg u (by omega)
    have z2 := dec_size u (by omega)
    generalize (⟨(Lib.decDigits u).toArray⟩ : ByteArray) = B at *
    have z1 : (⟨#[45]⟩ : ByteArray).size = 1 := rfl
    have HA := fun w => run_string_add_sum (P := Tryz.prog) w ⟨#[45]⟩ B (by omega)
    rw [hs]
    have HC := Lib.hid hc
    have hn : IntKind.i64.wrap (-(-(u : Int))) = (u : Int) := by rw [Int.neg_neg]; exact IntWalk.i64_in _ (by omega)
    clear hc hs
    go_enter Tryz.func66, Tryz.ntmps66
    go_wp2_with fail
    refine (HC.out _).mono ?_
    rintro e w1 ⟨rfl, hb1⟩
    go_wp2
    go_ret
    exact ⟨rfl, hb1⟩
  · obtain ⟨u, rfl⟩ := Int.eq_ofNat_of_zero_le (show 0 ≤ n by omega)
    have hc := c_l1Num u u (Nat.le_refl _) (by omega)
    rw [intS_pos]
    generalize (⟨(Lib.decDigits u).toArray⟩ : ByteArray) = B at *
    have HC := Lib.hid hc
    clear hc
    go_enter Tryz.func66, Tryz.ntmps66
    go_wp2_with fail
    refine (HC.out _).mono ?_
    rintro e w1 ⟨rfl, hb1⟩
    go_wp2
    go_ret
    exact ⟨rfl, hb1⟩
end Go.Proofs.YtpnpidepkfnofaaGreatDoor
