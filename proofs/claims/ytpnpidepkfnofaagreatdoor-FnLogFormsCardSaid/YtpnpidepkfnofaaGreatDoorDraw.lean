/- Walks: drawn numbers (spec.l1Cur): next, pick, among, one; big. -/
import Derived.Test.YtpnpidepkfnofaaGreatDoorChain
import Derived.Test.YtpnpidepkfnofaaGreatDoorCurve
import Derived.Test.YtpnpidepkfnofaaGreatDoorStepN
import Derived.Laws.Bits64b
import Derived.WalkSmall
namespace Go.Proofs.YtpnpidepkfnofaaGreatDoor
open Go.RowKit

/-- a slice of bytes that lies below block B -/
def RdB (w : World) (B : Nat) (v : Value) (xs : List Int) : Prop := ∃ (a : Option Addr) (cap : Nat), v = .slice a xs.length cap ∧ xs.length ≤ maxLen ∧
  ∀ i (_ : i < xs.length), ∃ g o, a = some ⟨g, o, none⟩ ∧ w.cell? ⟨g, o + i, none⟩ = some (.int .u8 xs[i]) ∧ 0 ≤ xs[i] ∧ xs[i] ≤ 255 ∧ g < B
theorem RdB.over {w w1 : World} {B k : Nat} {v : Value} {xs : List Int} (h : RdB w B v xs) (ho : Over [k] w w1) (hB : B ≤ w.heap.size) (hk : B ≤ k) : RdB w1 B v xs := by
  obtain ⟨a, cap, hv, hm, hc⟩ := h
  refine ⟨a, cap, hv, hm, fun i hi => ?_⟩
  obtain ⟨g, o, ha, h1, h2, h3, h4⟩ := hc i hi
  refine ⟨g, o, ha, (ho.cell (p := ⟨g, o + i, none⟩) (Nat.lt_of_lt_of_le h4 hB) ?_).trans h1, h2, h3, h4⟩
  simp only [List.mem_singleton]; omega
theorem RdB.below {w w1 : World} {B : Nat} {v : Value} {xs : List Int} (h : RdB w B v xs) (hb : Below w.heap.size w w1) (hB : B ≤ w.heap.size) : RdB w1 B v xs := by
  obtain ⟨a, cap, hv, hm, hc⟩ := h
  refine ⟨a, cap, hv, hm, fun i hi => ?_⟩
  obtain ⟨g, o, ha, h1, h2, h3, h4⟩ := hc i hi
  exact ⟨g, o, ha, (hb.cell (p := ⟨g, o + i, none⟩) (Nat.lt_of_lt_of_le h4 hB)).trans h1, h2, h3, h4⟩
theorem RdB.mono {w : World} {B B' : Nat} {v : Value} {xs : List Int} (h : RdB w B v xs) (hB : B ≤ B') : RdB w B' v xs := by
  obtain ⟨a, cap, hv, hm, hc⟩ := h
  refine ⟨a, cap, hv, hm, fun i hi => ?_⟩
  obtain ⟨g, o, ha, h1, h2, h3, h4⟩ := hc i hi
  exact ⟨g, o, ha, h1, h2, h3, Nat.lt_of_lt_of_le h4 hB⟩
theorem RdB.later {w w1 : World} {v : Value} {xs : List Int} (h : RdB w w.heap.size v xs) (hb : Below w.heap.size w w1) : RdB w1 w1.heap.size v xs := (h.below hb (Nat.le_refl _)).mono hb.size
/-- a cursor over the bytes: at most n numbers were drawn -/
def Cur (B k : Nat) (v : Value) (xs : List Int) (n : Nat) (w : World) : Prop := B ≤ k ∧ k < w.heap.size ∧ RdB w B v xs ∧ ∃ (a : Nat) (s : Int), a ≤ n ∧ 0 ≤ s ∧ s < 18446744073709551616 ∧ Blk k #[v, .int .i64 a, .int .u64 s] 64 w
theorem Cur.below {B k n : Nat} {v : Value} {xs : List Int} {w w1 : World} (h : Cur B k v xs n w) (hb : Below w.heap.size w w1) : Cur B k v xs n w1 := by
  obtain ⟨h1, h2, h3, a, s, h4, h5, h6, h7⟩ := h
  exact ⟨h1, Nat.lt_of_lt_of_le h2 hb.size, h3.below hb (by omega), a, s, h4, h5, h6, h7.next hb⟩
theorem Cur.le {B k n m : Nat} {v : Value} {xs : List Int} {w : World} (h : Cur B k v xs n w) (hm : n ≤ m) : Cur B k v xs m w := by
  obtain ⟨h1, h2, h3, a, s, h4, h5, h6, h7⟩ := h
  exact ⟨h1, h2, h3, a, s, Nat.le_trans h4 hm, h5, h6, h7⟩
theorem wrap_u64 (x : Int) : 0 ≤ x % 18446744073709551616 ∧ x % 18446744073709551616 < 18446744073709551616 := ⟨Int.emod_nonneg _ (by decide), Int.emod_lt_of_pos _ (by decide)⟩
theorem wrap64u (z : Int) : 0 ≤ IntKind.u64.wrap z ∧ IntKind.u64.wrap z < 18446744073709551616 := by
  have h : IntKind.u64.wrap z = z % 18446744073709551616 := by rfl
  rw [h]; exact wrap_u64 z
theorem and_255 (z : Int) (h0 : 0 ≤ z) (h1 : z < 18446744073709551616) : 0 ≤ bits BinOp.and IntKind.u64 z 255 ∧ bits BinOp.and IntKind.u64 z 255 ≤ 255 := by
  have h := bits_and_u64_nat z.toNat 255 (by omega) (by omega)
  rw [Int.toNat_of_nonneg h0] at h
  have h2 : z.toNat &&& 255 ≤ 255 := Nat.and_le_right
  have h3 : bits BinOp.and IntKind.u64 z 255 = ((z.toNat &&& 255 : Nat) : Int) := h
  omega
def BoolPost (w : World) (e : Ending) (w' : World) : Prop := ∃ b : Bool, e = .returned (.bool b) ∧ w' = w
/-- a number from lo to hi was drawn at the cursor -/
def NumPost (B k : Nat) (v : Value) (xs : List Int) (n : Nat) (lo hi : Int) (w : World) (e : Ending) (w' : World) : Prop :=
  ∃ b : Int, e = .returned (.int .i64 b) ∧ lo ≤ b ∧ b ≤ hi ∧ Cur B k v xs n w' ∧ Over [k] w w'
theorem c_big (v0 v1 : Value) (B : Nat) (xs ys : List Int) (w : World) (h0 : RdB w B v0 xs) (h1 : RdB w B v1 ys) :
    Calls Tryz.prog 4 #[v0, v1] w (BoolPost w) := by
  obtain ⟨a, cap, rfl, hm, _⟩ := h0
  obtain ⟨a', cap', rfl, hm', _⟩ := h1
  have hml : maxLen = 9223372036854775807 := by decide +kernel
  by_cases c : 1048576 < xs.length
  · go_enter Tryz.func4, Tryz.ntmps4
    go_wp2
    go_ret
    exact ⟨_, rfl, rfl⟩
  · by_cases d : 1048576 - xs.length < ys.length
    all_goals
      go_enter Tryz.func4, Tryz.ntmps4
      go_wp2
      go_ret
      exact ⟨_, rfl, rfl⟩
theorem c_next (B k : Nat) (v : Value) (xs : List Int) (n : Nat) (hn : n ≤ 1000000) (w : World) (hc : Cur B k v xs n w) :
    Calls Tryz.prog 74 #[.pointer (some ⟨k, 0, none⟩)] w (NumPost B k v xs (n + 1) 0 255 w) := by
  obtain ⟨hB, hlk, hR, a, s, ha, hs0, hs1, hk⟩ := hc
  have hR' := hR
  obtain ⟨sa, cap, hv, hm, hcell⟩ := hR
  have hml : maxLen = 9223372036854775807 := by decide +kernel
  by_cases hlt : a < xs.length
  · obtain ⟨g, o, rfl, hx, hx0, hx1, hg⟩ := hcell a hlt
    subst hv
    generalize xs[a] = x at hx hx0 hx1
    have hi0 : (0 : Int) ≤ (a : Int) := by omega
    have hi1 : (a : Int) < (xs.length : Int) := by omega
    have HX := Lib.hid hcell
    clear hcell
    go_enter Tryz.func74, Tryz.ntmps74
    go_wp2
    have hgl : g < w.heap.size := by omega
    have c0 : w.cell? ⟨k, 0, none⟩ = some (.slice (some ⟨g, o, none⟩) xs.length cap) := hk.cell 0
    have c1 : w.cell? ⟨k, 1, none⟩ = some (.int .i64 a) := hk.cell 1
    (refine wp_region_clq (by kernel_rfl) (by kernel_rfl) ?_; (repeat (go_big_quiet_step (fail))); refine wpQuiet_nil ?_; intro w1 hb1; obtain ⟨hc1, hf1⟩ := bcell hb1; have hz1 := hb1.size; (try simp only [World.size_alloc] at hz1))
    have k1 := hk.next hb1
    have d0 : w1.cell? ⟨k, 0, none⟩ = some (.slice (some ⟨g, o, none⟩) xs.length cap) := k1.cell 0
    have d1 : w1.cell? ⟨k, 1, none⟩ = some (.int .i64 a) := k1.cell 1
    have dx := (hc1 g (o + a) hgl).trans hx
    have l1 := hb1.size
    have hgl1 : g < w1.heap.size := by omega
    have hlk1 : k < w1.heap.size := by omega
    clear c0 c1 hx hc1 hf1
    go_wp2
    (refine wp_region_clq (by kernel_rfl) (by kernel_rfl) ?_; (repeat (go_big_quiet_step (fail))); refine wpQuiet_nil ?_; intro w2 hb2; obtain ⟨hc2, hf2⟩ := bcell hb2; have hz2 := hb2.size; (try simp only [World.size_alloc] at hz2))
    have k2 := k1.next hb2
    have e0 : w2.cell? ⟨k, 0, none⟩ = some (.slice (some ⟨g, o, none⟩) xs.length cap) := k2.cell 0
    have e1 : w2.cell? ⟨k, 1, none⟩ = some (.int .i64 a) := k2.cell 1
    have e2 : w2.cell? ⟨k, 2, none⟩ = some (.int .u64 s) := k2.cell 2
    have f1 := k2.frozen 1
    have f2 := k2.frozen 2
    have l2 := hb2.size
    clear d0 d1 dx hc2 hf2
    go_wp2
    have hS := wrap64u (IntKind.u64.wrap (IntKind.u64.wrap (s * 6364136223846793005) + x) + 1442695040888963407)
    generalize IntKind.u64.wrap (_ + 1442695040888963407) = s1 at hS ⊢
    have k3 := (k2.set 1 (.int .i64 ((a : Int) + 1))).set 2 (.int .u64 s1)
    have o3 : Over [k] w2 ((w2.setCell ⟨k, 1, none⟩ (.int .i64 ((a : Int) + 1))).setCell ⟨k, 2, none⟩ (.int .u64 s1)) := ((Over.refl _ _).setCell (.inr (by simp)) _).setCell (.inr (by simp)) _
    generalize (w2.setCell _ _).setCell _ _ = w3 at k3 o3 ⊢
    have l3 := o3.size
    have hlk3 : k < w3.heap.size := by omega
    have g0 : w3.cell? ⟨k, 0, none⟩ = some (.slice (some ⟨g, o, none⟩) xs.length cap) := k3.cell 0
    have g1 : w3.cell? ⟨k, 1, none⟩ = some (.int .i64 ((a : Int) + 1)) := k3.cell 1
    clear e0 e1 e2
    (refine wp_region_clq (by kernel_rfl) (by kernel_rfl) ?_; (repeat (go_big_quiet_step (fail))); refine wpQuiet_nil ?_; intro w4 hb4; obtain ⟨hc4, hf4⟩ := bcell hb4; have hz4 := hb4.size; (try simp only [World.size_alloc] at hz4))
    have k4 := k3.next hb4
    have m2 : w4.cell? ⟨k, 2, none⟩ = some (.int .u64 s1) := k4.cell 2
    have l4 := hb4.size
    have o4 : Over [k] w w4 := ((Over.of_below hb1).trans (.of_below hb2)).trans (o3.trans (.of_below hb4))
    have r4 := RdB.over hR' o4 (by omega) hB
    clear g0 g1 hc4 hf4
    go_wp2
    go_ret
    exact ⟨x, rfl, hx0, hx1, ⟨hB, by omega, r4, a + 1, s1, by omega, hS.1, hS.2, by simpa using k4⟩, o4⟩
  · subst hv
    have hi1 : (xs.length : Int) ≤ (a : Int) := by omega
    clear hcell
    go_enter Tryz.func74, Tryz.ntmps74
    go_wp2
    have c0 : w.cell? ⟨k, 0, none⟩ = some (.slice sa xs.length cap) := hk.cell 0
    have c1 : w.cell? ⟨k, 1, none⟩ = some (.int .i64 a) := hk.cell 1
    (refine wp_region_clq (by kernel_rfl) (by kernel_rfl) ?_; (repeat (go_big_quiet_step (fail))); refine wpQuiet_nil ?_; intro w1 hb1; obtain ⟨hc1, hf1⟩ := bcell hb1; have hz1 := hb1.size; (try simp only [World.size_alloc] at hz1))
    have k1 := hk.next hb1
    have d0 : w1.cell? ⟨k, 0, none⟩ = some (.slice sa xs.length cap) := k1.cell 0
    have d1 : w1.cell? ⟨k, 1, none⟩ = some (.int .i64 a) := k1.cell 1
    have d2 : w1.cell? ⟨k, 2, none⟩ = some (.int .u64 s) := k1.cell 2
    have f1 := k1.frozen 1
    have f2 := k1.frozen 2
    have l1 := hb1.size
    have hlk1 : k < w1.heap.size := by omega
    clear c0 c1 hc1 hf1
    go_wp2
    have hS := wrap64u (IntKind.u64.wrap (IntKind.u64.wrap (s * 6364136223846793005)) + 1442695040888963407)
    generalize IntKind.u64.wrap (_ + 1442695040888963407) = s1 at hS ⊢
    have k3 := (k1.set 1 (.int .i64 ((a : Int) + 1))).set 2 (.int .u64 s1)
    have o3 : Over [k] w1 ((w1.setCell ⟨k, 1, none⟩ (.int .i64 ((a : Int) + 1))).setCell ⟨k, 2, none⟩ (.int .u64 s1)) := ((Over.refl _ _).setCell (.inr (by simp)) _).setCell (.inr (by simp)) _
    generalize (w1.setCell _ _).setCell _ _ = w3 at k3 o3 ⊢
    have l3 := o3.size
    have hlk3 : k < w3.heap.size := by omega
    have g0 : w3.cell? ⟨k, 0, none⟩ = some (.slice sa xs.length cap) := k3.cell 0
    have g1 : w3.cell? ⟨k, 1, none⟩ = some (.int .i64 ((a : Int) + 1)) := k3.cell 1
    clear d0 d1 d2
    (refine wp_region_clq (by kernel_rfl) (by kernel_rfl) ?_; (repeat (go_big_quiet_step (fail))); refine wpQuiet_nil ?_; intro w4 hb4; obtain ⟨hc4, hf4⟩ := bcell hb4; have hz4 := hb4.size; (try simp only [World.size_alloc] at hz4))
    have k4 := k3.next hb4
    have m2 : w4.cell? ⟨k, 2, none⟩ = some (.int .u64 s1) := k4.cell 2
    have l4 := hb4.size
    have o4 : Over [k] w w4 := (Over.of_below hb1).trans (o3.trans (.of_below hb4))
    have r4 := RdB.over hR' o4 (by omega) hB
    clear g0 g1 hc4 hf4
    go_wp2
    have hA := and_255 (s1 / 1099511627776) (by omega) (by omega)
    generalize bits BinOp.and IntKind.u64 (s1 / 1099511627776) 255 = y at hA ⊢
    have hy : wrap64 y = y := by unfold wrap64; omega
    rw [hy]
    go_ret
    exact ⟨y, rfl, hA.1, hA.2, ⟨hB, by omega, r4, a + 1, s1, by omega, hS.1, hS.2, by simpa using k4⟩, o4⟩
theorem c_pick (B k : Nat) (v : Value) (xs : List Int) (n : Nat) (hn : n ≤ 900000) (m : Int) (hm : 0 ≤ m ∧ m ≤ 1000000) (w : World) (hc : Cur B k v xs n w) :
    Calls Tryz.prog 43 #[.pointer (some ⟨k, 0, none⟩), .int .i64 m] w (NumPost B k v xs (n + 2) 0 (if m ≤ 1 then 0 else m - 1) w) := by
  have HN := Lib.hid (fun n hn w hc => c_next B k v xs n hn w hc)
  have hB := hc.1
  by_cases h1 : m ≤ 1
  · rw [if_pos h1]
    go_enter Tryz.func43, Tryz.ntmps43
    go_wp2
    go_ret
    exact ⟨0, rfl, by omega, by omega, hc.le (by omega), Over.refl _ _⟩
  · rw [if_neg h1]
    by_cases h2 : 200 < m
    · go_enter Tryz.func43, Tryz.ntmps43
      go_wp2_with fail
      refine (HN.out n (by omega) _ hc).mono ?_
      rintro e w2 ⟨x, rfl, x0, x1, hc2, o2⟩
      go_wp2_with fail
      refine (HN.out (n + 1) (by omega) _ hc2).mono ?_
      rintro e w3 ⟨y, rfl, y0, y1, hc3, o3⟩
      have e1 := Int.emod_nonneg (x * 256 + y) (show m ≠ 0 by omega)
      have e2 := Int.emod_lt_of_pos (x * 256 + y) (show 0 < m by omega)
      go_wp2
      go_ret
      exact ⟨(x * 256 + y) % m, rfl, e1, by omega, hc3.le (by omega), o2.trans o3⟩
    · go_enter Tryz.func43, Tryz.ntmps43
      go_wp2_with fail
      refine (HN.out n (by omega) _ hc).mono ?_
      rintro e w2 ⟨x, rfl, x0, x1, hc2, o2⟩
      have e1 := Int.emod_nonneg x (show m ≠ 0 by omega)
      have e2 := Int.emod_lt_of_pos x (show 0 < m by omega)
      go_wp2
      go_ret
      exact ⟨x % m, rfl, e1, by omega, hc2.le (by omega), o2⟩
theorem c_one (B k : Nat) (v : Value) (xs : List Int) (n : Nat) (hn : n ≤ 900000) (m : Int) (hm : 0 ≤ m ∧ m ≤ 1000000) (w : World) (hc : Cur B k v xs n w) :
    Calls Tryz.prog 42 #[.pointer (some ⟨k, 0, none⟩), .int .i64 m] w fun e w' => ∃ b : Bool, e = .returned (.bool b) ∧ Cur B k v xs (n + 2) w' ∧ Over [k] w w' := by
  have HN := Lib.hid (c_pick B k v xs n hn m hm w hc)
  go_enter Tryz.func42, Tryz.ntmps42
  go_wp2_with fail
  refine HN.out.mono ?_
  rintro e w2 ⟨x, rfl, x0, x1, hc2, o2⟩
  by_cases h : x = 0
  · subst h
    go_wp2
    go_ret
    exact ⟨_, rfl, hc2, o2⟩
  · have hx : ¬ x = 0 := h
    go_wp2
    go_ret
    exact ⟨_, rfl, hc2, o2⟩
/-- a number out of a list was drawn at the cursor -/
def AmPost (B k : Nat) (v : Value) (xs : List Int) (n : Nat) (L : List Int) (w : World) (e : Ending) (w' : World) : Prop :=
  ∃ b : Int, b ∈ L ∧ e = .returned (.int .i64 b) ∧ Cur B k v xs n w' ∧ Over [k] w w'
theorem c_among (B k : Nat) (v : Value) (xs : List Int) (n : Nat) (hn : n ≤ 900000) (L : List Int) (hL : 1 ≤ L.length ∧ L.length ≤ 200) (g : Nat) (hg : g ≠ k) (w : World) (hc : Cur B k v xs n w)
    (hk : Blk g (L.map (Value.int .i64)).toArray 3 w) :
    Calls Tryz.prog 45 #[.pointer (some ⟨k, 0, none⟩), .slice (some ⟨g, 0, none⟩) L.length L.length] w (AmPost B k v xs (n + 2) L w) := by
  have HN := Lib.hid (c_pick B k v xs n hn L.length ⟨by omega, by omega⟩ w hc)
  have h1 := hL.1
  have h2 := hL.2
  clear hL
  go_enter Tryz.func45, Tryz.ntmps45
  go_wp2_with fail
  refine HN.out.mono ?_
  rintro e w2 ⟨x, rfl, x0, x1, hc2, o2⟩
  obtain ⟨i, rfl⟩ := Int.eq_ofNat_of_zero_le x0
  have hi : i < L.length := by split at x1 <;> omega
  have hi1 : (i : Int) < (L.length : Int) := by omega
  have k2 := hk.over o2 (by simpa using hg)
  have hcell : w2.cell? ⟨g, i, none⟩ = some (.int .i64 L[i]) := by
    rw [k2.cell i]; simp [hi]
  have hm : L[i] ∈ L := List.getElem_mem hi
  generalize L[i] = y at hcell hm
  clear x1
  go_wp2
  go_ret
  exact ⟨y, hm, rfl, hc2, o2⟩
end Go.Proofs.YtpnpidepkfnofaaGreatDoor
